/- Part 3 of the proof. -/
import Derived.Test.YtbflfefahheidaaGreatDoorG2
import Derived.Shelf.Strconv.AtoiAll
set_option linter.unusedVariables false
set_option linter.unusedSimpArgs false
namespace Go.Proofs.YtbflfefahheidaaGreatDoor
open Go.RowKit Go.Pl
theorem aGf {w:World}{c3:Nat}{gf:Nat}{lb:Array Value}{L:List Sp}{Kp:(Nat->Prop)->World->Prop}(hl:L.length<=20000) (eg:aJ1 Tryz.prog gf) (hY:aNX Tryz.prog gf lb (aSA L) Kp) (hK:∀ G W,(∀ k,G k->w.heap.size<=k)->Fr nF_ w W->Kp G W) (hc3:w.heap[c3]?=some (.cells #[.func (.func 126) #[] #[]] 209 (0,0))):Calls Tryz.prog 159 #[.func (.func gf) #[] lb,.func (.func 161) #[] #[vP c3 0]] w fun e w'=>∃ v L',e = .returned v /\ L'.Perm L /\ L'.Pairwise (fun x y=>x.1<=y.1) /\ aH6 spL 2 141 w w' v L' /\ Fr nF_ w w':=by
  have hl2:=hl;have hl:L.length<=300000000:=by omega
  refine beg Tryz.func159 rfl rfl [(0,.func (.func gf) #[] lb),(1,.func (.func 161) #[] #[vP c3 0])] rfl rfl fun Z hZ=>?_;have hM:=Mm.nil nF_ w;refine aMT 1 1 7 [(6,.func (.func gf) #[] lb)] (f:=spL) (c:=2) (E:=141) (A:=L) f0 hM (aJk hl eg hY fun G W hG f=>hK G W (fun k h=>Gp_ hM.fr.size (hG k h)) (hM.fr.trans' f fun _ _ h=>h)) fun u w1 hM=>?_;obtain ⟨q40,c40,eq40,sq40⟩:=(hM.src (j:=0) rfl spT.len).op;subst eq40;refine cal 2 2 10 [(5,vL q40 L.length c40),(8,vL q40 L.length c40),(9,.func (.func 161) #[] #[vP c3 0])] (K:=fun u w8=>u = .tuple #[] /\ ∃ L',L'.Perm L /\ L'.Pairwise (fun x y=>x.1<=y.1) /\ oSp w8 0 (vL q40 L.length c40) L' /\ Fr (fun k=>Value.ownBlock (vL q40 L.length c40)=some k) _ w8) f0 ((aJL (hM.get 0 rfl) (hM.fr.obj hc3 id) (fun k hk e=>by have:=hM.ge (Ge_ (show _[0]?=some _ from rfl)) hk;have:=aAl hc3;omega) hl2).mono fun e w9 ⟨h1,h2⟩=>⟨_,h1,rfl,h2⟩) fun u w1 ⟨hu,L',hp,hs,hO,f1⟩=>?_;subst hu;have hM:=hM.put 0 (e':=rw_ spL 2 141 (vL q40 L.length c40) L') rfl f1 (fun k _ h=>h) hO fun k h => .inl h;exact rt1 4 (vL q40 L.length c40) rfl f0 (hZ _ _ ⟨_,L',rfl,hp,hs,hM.nrow (j:=0) rfl,hM.fr⟩)
theorem aJK {w:World}{v:Value}{l:List Sp}(hl:SpV w v l) (hlen:l.length<=20000):Calls Tryz.prog 125 #[v,.func (.func 126) #[] #[]] w fun e w'=>∃ v L',e = .returned v /\ L'.Perm l /\ L'.Pairwise (fun x y=>x.1<=y.1) /\ aH6 spL 2 141 w w' v L' /\ Fr nF_ w w':=by
  obtain ⟨p0,cp0,hp0,sp0⟩:=hl.op;subst hp0;refine beg Tryz.func125 rfl rfl [(0,vL p0 l.length cp0),(1,.func (.func 126) #[] #[])] rfl rfl fun Z hZ=>?_;have hM:=Mm.nil nF_ w;refine aAp 0 0 3 [] (cs:=#[.func (.func 126) #[] #[]]) (T:=209) (v:=fun b=>vP b 0) f0 hM fun aa w1 hM=>cal 1 1 6 [(5,vL p0 l.length cp0)] (K:=fun u w8=>∃ b,u = .func (.func 177) #[] #[vP b 0] /\ w8.heap[b]?=some (.cells #[vL p0 (l.length) cp0] 48 (0,0)) /\ (World.heap _).size<=b /\ Fr nF_ _ w8) f0 ((aJ5 p0 (l.length) cp0 _).mono fun e w9 ⟨b,h1,h2⟩=>⟨_,h1,b,rfl,h2⟩) fun u w1 ⟨cb,hu,hcb,hge,f1⟩=>?_;subst hu;have hM:=hM.add f1 (bk cb #[vL p0 (l.length) cp0] 48) hcb (fun k h=>by rw [h];exact hge);refine cal 1 3 8 [(7,.func (.func 161) #[] #[vP aa 0])] (K:=fun u w8=>∃ L',L'.Perm l /\ L'.Pairwise (fun x y=>x.1<=y.1) /\ aH6 spL 2 141 _ w8 u L' /\ Fr nF_ _ w8) f0 ((aGf (Kp:=aXG cb p0 cp0 l) hlen (enters_of Tryz.func177 (by kernel_rfl) rfl) aIt (fun G W hG f=>⟨f.obj (hM.get 1 rfl) id,fun h=>by have:=hG _ h;have:=aAl (hM.get 1 rfl);omega,_,sp0.b (hM.fr.trans' f fun _ _ h=>h),fun k hk=>Gp_ hM.fr.size (hG k hk)⟩) (hM.get 0 rfl)).mono fun e w9 ⟨v,L',h1,h2⟩=>⟨_,h1,L',h2⟩) fun u w1 ⟨L',hp,hs,hO,f1⟩=>?_;have hM:=hM.add f1 (rw_ spL 2 141 u L') hO.1 hO.2;obtain ⟨q42,c42,eq42,-⟩:=(hM.src (j:=2) rfl spT.len).op;subst eq42;exact rt1 4 (vL q42 L'.length c42) rfl f0 (hZ _ _ ⟨_,L',rfl,hp,hs,hM.nrow (j:=2) rfl,hM.fr⟩)
theorem aF4 {L:List Sp}{i:Nat}{y:Sp}(hy:L[i]?=some y):aBg (L.take (i+1))=aD9 (aBg (L.take i)) y:=by
  unfold aBg;rw [List.take_add_one,hy];simp [List.foldl_append]
theorem aOz (l:List Sp):(aBg l).length<=l.length:=by
  have h1:∀ (a:List Sp) (s:Sp),(aD9 a s).length<=a.length+1:=by
    intro a s;unfold aD9
    split
    · split
      · first | (simp;done) | (simp;omega)
      · simp
    · simp
  have h2:∀ (l a:List Sp),(l.foldl aD9 a).length<=a.length+l.length:=by
    intro l
    induction l with
    | nil=>intro a;simp
    | cons s l ih=>intro a;have:=ih (aD9 a s);have:=h1 a s;simp only [List.foldl_cons,Gf_];omega
  have:=h2 l [];simpa [aBg] using this
theorem aOv {A:List Sp}{q s:Sp}(hq:A[A.length-1]?=some q) (h:s.1<=q.2):A.set (A.length-1) (q.1,max q.2 s.2)=aD9 A s:=by
  have hne:A≠[]:=by rintro rfl;simp at hq
  have hl:A.getLast?=some q:=by rw [List.getLast?_eq_getElem?];exact hq
  obtain ⟨B,z,rfl⟩:∃ B z,A=B++[z]:=⟨_,_,(List.dropLast_concat_getLast hne).symm⟩;rw [List.getLast?_concat] at hl;obtain rfl:=Gh_ hl;unfold aD9;rw [List.getLast?_concat,List.dropLast_concat];simp only;rw [if_pos h,Gk_,List.length_singleton,Nat.add_sub_cancel,List.set_append_right _ _ (Gl_ _),Nat.sub_self];rfl
theorem aOx {A:List Sp}{q s:Sp}(hq:A[A.length-1]?=some q) (h:¬ s.1<=q.2):A++[s]=aD9 A s:=by
  have hl:A.getLast?=some q:=by rw [List.getLast?_eq_getElem?];exact hq
  unfold aD9;rw [hl];simp only;rw [if_neg h]
theorem aOw {A:List Sp}{s:Sp}(h:¬ 0<(A.length:Int)):A++[s]=aD9 A s:=by
  have:A=[]:=List.eq_nil_of_length_eq_zero (by omega);subst this;rfl
abbrev A96 (Z:Ending->World->Prop):=AtO Tryz.prog (aAf Tryz.f96) (aAo (bodyPost Tryz.prog Tryz.f96 Z)) [] 50
theorem aJ7 {w:World}{v:Value}{l:List Sp}(hl:SpV w v l) (hw:wk l) (hlen:l.length<=20000):Calls Tryz.prog 96 #[v] w fun e w'=>∃ u,e = .returned u /\ aH6 spL 2 141 w w' u (aEJ l) /\ Fr nF_ w w':=by
  obtain ⟨p0,cp0,hp0,sp0⟩:=hl.op;subst hp0;refine beg Tryz.func96 rfl rfl [(0,vL p0 l.length cp0)] rfl rfl fun Y hY=>?_;have hM:=Mm.nil nF_ w;refine cal 1 1 8 [(7,vL p0 l.length cp0)] (K:=fun u w8=>∃ L',L'.Perm l /\ L'.Pairwise (fun x y=>x.1<=y.1) /\ aH6 spL 2 141 _ w8 u L' /\ Fr nF_ _ w8) f0 ((aJK (sp0.fr hM.fr).src hlen).mono fun e w9 ⟨v,L',h1,h2⟩=>⟨_,h1,L',h2⟩) fun u w1 ⟨L',hp,hs,hO,f1⟩=>?_;have hM:=hM.add f1 (rw_ spL 2 141 u L') hO.1 hO.2;obtain ⟨q43,c43,eq43,-⟩:=(hM.src (j:=0) rfl spT.len).op;subst eq43;have hlL:=hp.length_eq;have hM:=hM.row (f:=spL) (c:=2) (E:=141);refine seg 4 0 [(0,vL q43 L'.length c43),(3,vL none 0 0),(9,vL q43 L'.length c43),(10,vI (L'.length:Int)),(11,vI 0)] f0 ?_
  have ai:∀ (ae:Nat) (i:Nat) (q:Option Addr) (c:Nat) (w2:World),i<=L'.length->Mm nF_ w w2 [rw_ spL 2 141 (vL q43 L'.length c43) L',rw_ spL 2 141 (vL q (aBg (L'.take i)).length c) (aBg (L'.take i))]->ae=L'.length-i->A96 Y (some (4,0)) [(11,vI (i:Int)),(10,vI (L'.length:Int)),(9,vL q43 L'.length c43),(3,vL q (aBg (L'.take i)).length c)] w2:=by
   refine aA8 fun ae ac i q c w2 hi hM ak=>?_;have hul:=aOz (L'.take i);have hul2:(L'.take i).length<=i:=by rw [Gt_];omega
   refine seg 4 1 [(12,vB (decide ((i:Int)<(L'.length:Int))))] f0 ?_;cases h47:(decide ((i:Int)<(L'.length:Int)))
   ·have aj:=df h47;exact rt1 2 (vL q (aBg (L'.take i)).length c) rfl f0 (hY _ _ ⟨_,rfl,by have:=hM.nrow (j:=1) rfl;have e8:L'.take i=L':=Gc_ (by omega);have e9:=aKL hw hp hs;rw [e8,e9] at this ⊢;exact this,hM.fr⟩)
   have aj:=dt h47;obtain ⟨y,hy⟩:=geb (l:=L') (i:=i) (by omega);obtain ⟨al,af,-⟩:=hM.el spT (j:=0) rfl hy;refine aCl 5 2 5 [(14,.agg #[vI y.1,vI y.2])] [] 141 (.agg #[vI y.1,vI y.2]) (fc (ix 48 c43 af (gl hy)) (fc (lar 141 0 0 2 spT hM rfl af hy) f0)) hM fun ag w1 hM=>seg 7 0 [(6,vI ((aBg (L'.take i)).length:Int))] f0 ?_;cases h50:(decide (0<((aBg (L'.take i)).length:Int)))
   ·have ah:=df h50;have hM:=hM.q ((Fr.refl _ _).drew);refine drq [(29,vB false)] rfl (fc (tv 18 h50) f0) (aAp 9 2 46 [(44,vL q (aBg (L'.take i)).length c),(45,.agg #[vI y.1,vI y.2])] (cs:=#[vI y.1,vI y.2]) (T:=141) (v:=fun b=>vL (some ⟨b,0,none⟩) 1 1) (fc (lam 141 2 0 2 hM rfl) f0) hM fun am w1 hM=>aH5 9 3 47 [] (cap:=1) (by decide) spT f0 hM (j:=1) rfl (aAG (f:=spL) (x:=y) (hM.get 3 rfl) (Gq_ _)) (fun h=>by cases h) (by simp only [Gf_,Go_];omega) fun v52 w1 hM=>?_);obtain ⟨q52,c52,e52,-⟩:=(hM.src (j:=1) rfl spT.len).op;subst e52;refine seg 4 0 [(3,vL q52 ((aBg (L'.take i))++[y]).length c52),(11,vI ((i:Int)+1))] (fc (aAe (i:Int) 1 u3_) f0) ?_;have e9:=(aOw (s:=y) ah);rw [←aF4 hy] at e9;rw [e9] at hM ⊢;exact aAb _ (ac _ (by omega) (i+1) q52 c52 _ (gl hy) (hM.pick [0,1]) rfl)
   have ah:=dt h50;have hM:=hM.q ((Fr.refl _ _).drew);obtain ⟨y54,aa⟩:=geb (l:=(aBg (L'.take i))) (i:=((aBg (L'.take i)).length-1)) (by omega);obtain ⟨an,ab,-⟩:=hM.el spT (j:=1) rfl aa;refine drq [(29,vB (decide (y.1<=y54.2)))] rfl (fc (tv 18 h50) (fc (ldm 3 2 0 hM rfl rfl) (fc (aBx ((aBg (L'.take i)).length:Int) 1 u3_) (fc (ix 48 c ab (gl aa) (z:=(((aBg (L'.take i)).length:Int)-1)) (hz:=(by omega))) (fc (ldr 3 1 1 spT hM rfl ab aa rfl) f0))))) ?_;cases h55:(decide (y.1<=y54.2))
   ·have ad:=df h55;refine aAp 9 2 46 [(44,vL q (aBg (L'.take i)).length c),(45,.agg #[vI y.1,vI y.2])] (cs:=#[vI y.1,vI y.2]) (T:=141) (v:=fun b=>vL (some ⟨b,0,none⟩) 1 1) (fc (lam 141 2 0 2 hM rfl) f0) hM fun ao w1 hM=>aH5 9 3 47 [] (cap:=1) (by decide) spT f0 hM (j:=1) rfl (aAG (f:=spL) (x:=y) (hM.get 3 rfl) (Gq_ _)) (fun h=>by cases h) (by simp only [Gf_,Go_];omega) fun v57 w1 hM=>?_;obtain ⟨q57,c57,e57,-⟩:=(hM.src (j:=1) rfl spT.len).op;subst e57;refine seg 4 0 [(3,vL q57 ((aBg (L'.take i))++[y]).length c57),(11,vI ((i:Int)+1))] (fc (aAe (i:Int) 1 u3_) f0) ?_;have e9:=(aOx (s:=y) aa ad);rw [←aF4 hy] at e9;rw [e9] at hM ⊢;exact aAb _ (ac _ (by omega) (i+1) q57 c57 _ (gl hy) (hM.pick [0,1]) rfl)
   have ad:=dt h55;refine seg 8 0 [] f0 (drx [8,14] (fun Z=>[some (vI y54.2),none]) _ (fun Z l=>[rw_ spL 2 141 (vL q43 L'.length c43) L',rw_ spL 2 141 (vL q (aBg (L'.take i)).length c) (bif l.getD 1 false then ((aBg (L'.take i)).set ((aBg (L'.take i)).length-1) (y54.1,(max y54.2 y.2))) else (aBg (L'.take i))),bk ag #[vI y.1,vI y.2] 141]) (fun Z=>[]) hM (fun Z=>rfl) (fun Z l w5 hM=>(fc (aBx ((aBg (L'.take i)).length:Int) 1 u3_) (fc (aBx ((aBg (L'.take i)).length:Int) 1 u3_) (fc (ix 48 c ab (gl aa) (z:=(((aBg (L'.take i)).length:Int)-1)) (hz:=(by omega))) (fc (ldm 3 2 1 hM rfl rfl) (fc (aVc 3 y54.2 y.2) (fc (ix 48 c ab (gl aa) (z:=(((aBg (L'.take i)).length:Int)-1)) (hz:=(by omega))) f0))))))) ⟨aK8 (m:=(aBg (L'.take i)).length) (cap:=c) 0 8 3 1 1 ((aBg (L'.take i)).length-1) 38 (aBg (L'.take i)) (fun Z=>vI y54.2) spT ab aa (fun Z=>rfl),aH1 (m:=(aBg (L'.take i)).length) (cap:=c) 1 14 3 1 1 ((aBg (L'.take i)).length-1) (aBg (L'.take i)) (y54.1,(max y54.2 y.2)) (fun Z=>vI (max y54.2 y.2)) spT ab aa (fun Z=>rfl),trivial⟩ fun ap w1 hM=>?_);replace hM:Mm nF_ w w1 [_,_,bk ag #[vI y.1,vI y.2] 141]:=hM;refine seg 4 0 [(11,vI ((i:Int)+1))] (fc (aAe (i:Int) 1 u3_) f0) ?_;have e9:=(aOv (s:=y) aa ad);rw [←aF4 hy] at e9;rw [e9] at hM;rw [show (aBg (L'.take i)).length=(aBg (L'.take (i+1))).length by rw [←e9,List.length_set]] at hM ⊢;exact aAb _ (ac _ (by omega) (i+1) q c _ (gl hy) (hM.pick [0,1]) rfl)
  exact aAb _ (ai _ 0 none 0 _ (Gg_ _) hM rfl)
def byL (c:UInt8):List Value:=[.int .u8 (c.toNat:Int)]
theorem byT:ElT Tryz.prog byL 1 45 5:=⟨fun _=>rfl,by decide,fun x u hu=>by
  unfold byL at hu;simp only [Gj_,List.not_mem_nil,or_false] at hu;subst hu;rfl,Tryz.underlying45,aBO (by kernel_rfl)⟩
section
variable {w:World}
theorem aYd (T:TypeId) (hT:T=249:=by rfl):Ft.ok Tryz.prog w (.g2 (fun x y => .binOp .eql T x y T) (.pointer none) (.pointer none) (vB true)):=fun o ρ x y ho hx hy=>by rw [hT] at ho;simp [execOp,ho,hx,hy,go_sem,u249_]
theorem aYc (T:TypeId) (b k:Nat) (hT:T=249:=by rfl):Ft.ok Tryz.prog w (.g2 (fun x y => .binOp .eql T x y T) (vP b k) (.pointer none) (vB false)):=fun o ρ x y ho hx hy=>by rw [hT] at ho;simp [execOp,ho,hx,hy,go_sem,u249_]
theorem aYb (T:TypeId) (b k:Nat) (hT:T=249:=by rfl):Ft.ok Tryz.prog w (.g2 (fun x y => .binOp .neq T x y T) (vP b k) (vP b k) (vB false)):=fun o ρ x y ho hx hy=>by
  rw [hT] at ho
  have hi:∃ j,Tryz.prog.info? 251=some j:=by
    cases h:Tryz.prog.info? 251 with
    | none=>exact absurd (show (Tryz.prog.info? 251).isSome=true by kernel_rfl) (by rw [h];simp)
    | some j=>exact ⟨j,rfl⟩
  obtain ⟨j,hj⟩:=hi;have:=Lib.run_neq_ptr_same (P:=Tryz.prog) w (⟨b,k,none⟩:Addr) u249_ hj;simp [execOp,ho,hx,hy,eqGuard,this]
theorem aXT {b:Nat}{p v:Value}(h:w.heap[b]?=some (.cells #[p,v] 251 (0,0))):Ft.ok Tryz.prog w (.g1 (.convert 249 283) (vP b 0) (vP b 0)):=fun o ρ x ho hx=>by
  have hsh:w.shape? b=some (251,2):=by simp [World.shape?,h]
  obtain ⟨j,hj,hjs⟩:=Option.map_eq_some_iff.1 (show (Tryz.prog.info? 251).map (·.size)=some 2 by kernel_rfl);have:=Lib.run_to_unsafe (P:=Tryz.prog) w (src:=249) (dst:=283) (⟨b,0,none⟩:Addr) u249_ Tryz.underlying283 hj (by rw [hjs];decide) hsh (Nat.zero_lt_succ 1);simp only [execOp,ho,hx,Sem.run_bind,this,Result.andThen_ok,Sem.run_pure]
theorem aYg {b:Nat}{p v:Value}(h:w.heap[b]?=some (.cells #[p,v] 251 (0,0))):Ft.ok Tryz.prog w (.g1 (.convert 283 249) (vP b 0) (vP b 0)):=fun o ρ x ho hx=>by
  have hsh:w.shape? b=some (251,2):=by simp [World.shape?,h]
  obtain ⟨j,hj,hjs⟩:=Option.map_eq_some_iff.1 (show (Tryz.prog.info? 251).map (·.size)=some 2 by kernel_rfl);have:=Lib.run_from_unsafe (P:=Tryz.prog) w (src:=283) (dst:=249) (⟨b,0,none⟩:Addr) Tryz.underlying283 u249_ hj hsh (by kernel_rfl);simp only [execOp,ho,hx,Sem.run_bind,this,Result.andThen_ok,Sem.run_pure]
end
section
variable {P:Program}{B:Code}{R:Pst}{ds:List Deferred}{n:Nat}{p:Option (Nat×Nat)}{L:Frm}{w:World}{F:List Ft}
theorem aYe (r' i' d:Nat) (N:Frm) (v:Value) (hF:aAQ P w F) (k:AtO P B R ds n (some (r',i'+1)) ((d,v)::(N++L)) w) (h:(lhs (go P w n B p L r' i' F) N L,aKb P w n L (go P w n B p L r' i' F))=(rhs (go P w n B p L r' i' F) N B r' i',some (d,.ok (.value v,w))):=by kernel_rfl):AtO P B R ds n p L w:=opx r' i' d N hF k h
end
theorem Mm.below {F0:Nat->Prop}{w0 w w':World}{M:List Ent}(h:Mm F0 w0 w M) (b:Below w0.heap.size w w'):Mm F0 w0 w' [] :=
  ⟨⟨b.os.trans h.fr.os,b.tape.trans h.fr.tape,b.output.trans h.fr.output,Gp_ h.fr.size b.size,fun r hr hn=>(b.block r hr).trans (h.fr.blk r hr hn)⟩,fun _ h=>(by cases h),fun _ h=>(by cases h),.nil⟩
theorem aLG {w:World}{G:Nat->Prop}{b:Nat}{v:Value}(hM0:Mm G w w [bk b #[.pointer none,v] 251]):Calls Tryz.prog 185 #[vP b 0] w fun e w'=>∃ u Mn,e = .returned u /\ (u = .tuple #[] /\ Mn=[bk b #[vP b 0,v] 251]) /\ Mm G w w' Mn:=by
  refine beg Tryz.func185 rfl rfl [(0,vP b 0)] rfl rfl fun Z hZ=>?_;have hM:=hM0;refine aYe 1 3 10 [(7,vP b 0),(9,vP b 0)] (vP b 0) (fc (ldm 249 0 0 hM rfl rfl) (fc (aYd 249) (fc (aXT (hM.get 0 rfl)) f0))) (stm 1 7 [(11,vP b 0),(13,vP b 0)] 249 0 0 (vP b 0) (fc (aYg (hM.get 0 rfl)) f0) hM rfl fun w1 hM=>rt0 rfl f0 (hZ _ _ ⟨_,_,rfl,⟨rfl,rfl⟩,hM⟩))
theorem aNP {w:World}{G:Nat->Prop}{b:Nat}{v:Value}(hM0:Mm G w w [bk b #[vP b 0,v] 251]):Calls Tryz.prog 185 #[vP b 0] w fun e w'=>∃ u Mn,e = .returned u /\ (u = .tuple #[] /\ Mn=[bk b #[vP b 0,v] 251]) /\ Mm G w w' Mn:=by
  refine beg Tryz.func185 rfl rfl [(0,vP b 0)] rfl rfl fun Z hZ=>?_;have hM:=hM0;exact rt0 rfl (fc (ldm 249 0 0 hM rfl rfl) (fc (aYc 249 b 0) (fc (ldm 249 0 0 hM rfl rfl) (fc (aYb 249 b 0) f0)))) (hZ _ _ ⟨_,_,rfl,⟨rfl,rfl⟩,hM⟩)
theorem aLH {w:World}{G:Nat->Prop}{b:Nat}{pp:Option Addr}{v:Value}(hp:pp=none∨pp=some ⟨b,0,none⟩) (hM0:Mm G w w [bk b #[.pointer pp,v] 251]):Calls Tryz.prog 185 #[vP b 0] w fun e w'=>∃ u Mn,e = .returned u /\ (u = .tuple #[] /\ Mn=[bk b #[vP b 0,v] 251]) /\ Mm G w w' Mn:=by
  rcases hp with rfl | rfl
  · exact aLG hM0
  · exact aNP hM0
theorem aG6 {w:World}{G:Nat->Prop}{b cq:Nat}{pp q:Option Addr}{l:Bys}(hp:pp=none∨pp=some ⟨b,0,none⟩) (c:UInt8) (hl:l.length<=300000000) (hM0:Mm G w w [bk b #[.pointer pp,vL q l.length cq] 251,rw_ byL 1 5 (vL q l.length cq) l]):Calls Tryz.prog 172 #[vP b 0,.int .u8 (c.toNat:Int)] w fun e w'=>∃ u Mn,e = .returned u /\ (u = .nilIface /\ ∃ q2 c2,Mn=[bk b #[vP b 0,vL q2 (l++[c]).length c2] 251,rw_ byL 1 5 (vL q2 (l++[c]).length c2) (l++[c])]) /\ Mm G w w' Mn:=by
  refine beg Tryz.func172 rfl rfl [(0,vP b 0),(1,.int .u8 (c.toNat:Int))] rfl rfl fun Z hZ=>?_;have hM:=hM0;refine aAM 1 1 6 [(5,vP b 0)] (K:=fun u Mn=>u = .tuple #[] /\ Mn=[bk b #[vP b 0,vL q l.length cq] 251]) [1] [0] f0 hM rfl rfl (by decide) (fun hm=>aLH hp hm) fun u Mn w1 hK hM=>?_;obtain ⟨rfl,rfl⟩:=hK;refine aAp 2 6 13 [(7,vP b 0),(11,vL q l.length cq),(12,.int .u8 (c.toNat:Int))] (cs:=#[.int .u8 (c.toNat:Int)]) (T:=5) (v:=fun b=>vL (some ⟨b,0,none⟩) 1 1) (fc (ldm 45 1 1 hM rfl rfl) f0) hM fun b1 w1 hM=>aH5 2 7 14 [] (cap:=1) (by decide) byT f0 hM (j:=0) rfl (aAG (f:=byL) (x:=c) (hM.get 2 rfl) (Gq_ _)) (fun h=>by cases h) (by simp only [Gf_,Go_];omega) fun v2 w1 hM=>?_;obtain ⟨qa2,ca2,e2,-⟩:=(hM.src (j:=0) rfl byT.len).op;subst e2;refine stm 2 10 [(16,vP b 1)] 45 1 1 (vL qa2 (l++[c]).length ca2) f0 hM rfl fun w1 hM=>rt1 4 Value.nilIface rfl f0 (hZ _ _ ⟨_,_,rfl,⟨rfl,_,_,rfl⟩,hM.pick [1,0]⟩)
theorem aHI (l:Bys):l.flatMap byL=Lib.byteCells l:=by
  unfold Lib.byteCells byL
  induction l with
  | nil=>rfl
  | cons c l ih=>simp_all
theorem aNS {w w0:World}{b cq:Nat}{pp q:Option Addr}{l:Bys}(hp:pp=none∨pp=some ⟨b,0,none⟩) (hM:Mm nF_ w0 w [bk b #[.pointer pp,vL q l.length cq] 251,rw_ byL 1 5 (vL q l.length cq) l]):Calls Tryz.prog 171 #[vP b 0] w fun e w'=>e = .returned (vS l) /\ Below w0.heap.size w w':=by
  have hb:w.heap[b]?=some (.cells #[.pointer pp,vL q l.length cq] 251 (0,0)):=hM.get 0 rfl;have hr:ow byL 1 5 w 0 (vL q l.length cq) l:=hM.get 1 rfl;have hbB:w0.heap.size<=b:=hM.ge (.head _) rfl
  have hne:Value.ownBlock (vL q l.length cq)≠some b:=fun e=>by
    have:=List.pairwise_cons.1 hM.nd;exact this.1 (rw_ byL 1 5 (vL q l.length cq) l) (.head _) b rfl e
  have hown:w.ownsRow w0.heap.size 5 1 (vL q l.length cq) (Lib.byteCells l).length (Lib.byteCells l):=by
    have hl:(Lib.byteCells l).length=l.length:=by simp [Lib.byteCells]
    rw [hl,←aHI];refine ⟨hr.1,?_⟩;rcases hr.2 with h | ⟨g,cap,cur,h1,h2,h3⟩
    · exact .inl h
    · exact .inr ⟨g,cap,cur,h1,hM.ge (.tail _ (.head _)) (by show Value.ownBlock (vL q l.length cq)=some g;rw [h1];rfl),h3⟩
  exact Tryz.Builder_String_any w0.heap.size b l w (hp.elim (fun h => .inl ⟨hbB,_,by rw [←h];exact hb,hown,hne⟩) (fun h => .inr ⟨hbB,_,by rw [←h];exact hb,hown,hne⟩)) hM.fr.size
theorem q34 (c:UInt8):(c==34)=((c.toNat:Int)==34):=by
  have:=aEP (p:=fun c=>(c==34)==((c.toNat:Int)==34)) (by decide +kernel) c;exact beq_iff_eq.1 this
theorem q10 (c:UInt8):(c==10)=((c.toNat:Int)==10):=by
  have:=aEP (p:=fun c=>(c==10)==((c.toNat:Int)==10)) (by decide +kernel) c;exact beq_iff_eq.1 this
theorem q92 (c:UInt8):(c==92)=((c.toNat:Int)==92):=by
  have:=aEP (p:=fun c=>(c==92)==((c.toNat:Int)==92)) (by decide +kernel) c;exact beq_iff_eq.1 this
def esc (d:UInt8):UInt8:=if d==110 then 10 else d
def aLB (d:UInt8):Int:=ixb [92,34,110] d.toNat
theorem aWc (d:UInt8):(d==92||d==34||d==110) = !decide (aLB d<0):=by
  have:=aEP (p:=fun d=>(d==92||d==34||d==110) == !decide (aLB d<0)) (by decide +kernel) d;exact beq_iff_eq.1 this
theorem aWd (d:UInt8) (h:¬ aLB d<0):([92,34,10]:Bys)[(aLB d).toNat]?=some (esc d) /\ 0<=aLB d:=by
  have:=aEP (p:=fun d=>decide (aLB d<0)||(([92,34,10]:Bys)[(aLB d).toNat]?==some (esc d))&&decide (0<=aLB d)) (by decide +kernel) d;rw [decide_eq_false h,Bool.false_or,Ga_] at this;exact ⟨eq_of_beq this.1,of_decide_eq_true this.2⟩
def aHQ (acc:Bys) (k:Nat) (r:Bys):Option (Bys×Nat):=(aBY r).map fun x=>(acc++x.1,x.2+k)
theorem aV0 (l:Bys):aBY l=aHQ [] 0 l:=by
  unfold aHQ
  cases aBY l with
  | none=>rfl
  | some x=>simp
theorem aRi (acc:Bys) (k:Nat):aHQ acc k []=none:=rfl
theorem aVx {acc r:Bys}{k:Nat}{c:UInt8}(h:(c==34)=true):aHQ acc k (c::r)=some (acc,1+k):=by
  unfold aHQ aBY;rw [if_pos h];simp
theorem aVy {acc r:Bys}{k:Nat}{c:UInt8}(h0:(c==34)=false) (h:(c==10)=true):aHQ acc k (c::r)=none:=by
  unfold aHQ aBY;rw [if_neg (by rw [h0];simp),if_pos h];rfl
theorem aTH {acc:Bys}{k:Nat}{c:UInt8}(h0:(c==34)=false) (h1:(c==10)=false) (h:(c==92)=true):aHQ acc k [c]=none:=by
  unfold aHQ aBY;rw [if_neg (by rw [h0];simp),if_neg (by rw [h1];simp),if_pos h];rfl
theorem aTG {acc r:Bys}{k:Nat}{c d:UInt8}(h0:(c==34)=false) (h1:(c==10)=false) (h:(c==92)=true) (h2:aLB d<0):aHQ acc k (c::d::r)=none:=by
  unfold aHQ aBY;rw [if_neg (by rw [h0];simp),if_neg (by rw [h1];simp),if_pos h];simp only;rw [aWc,decide_eq_true h2];rfl
theorem aTF {acc r:Bys}{k:Nat}{c d:UInt8}(h0:(c==34)=false) (h1:(c==10)=false) (h:(c==92)=true) (h2:¬ aLB d<0):aHQ acc k (c::d::r)=aHQ (acc++[esc d]) (k+2) r:=by
  unfold aHQ;rw [aBY];rw [if_neg (by rw [h0];simp),if_neg (by rw [h1];simp),if_pos h]
  try simp only
  rw [aWc,decide_eq_false h2];simp only [Bool.not_false,if_true,Option.map_map];congr 1;funext x;simp only [Function.comp,Gn_,List.singleton_append,esc];rw [show x.2+2+k=x.2+(k+2) by omega]
theorem aVz {acc r:Bys}{k:Nat}{c:UInt8}(h0:(c==34)=false) (h1:(c==10)=false) (h:(c==92)=false):aHQ acc k (c::r)=aHQ (acc++[c]) (k+1) r:=by
  have e:aBY (c::r)=(aBY r).map fun x=>(c::x.1,x.2+1):=by
    rw [aBY.eq_def (c::r)]
    try simp only
    rw [if_neg (by rw [h0];simp),if_neg (by rw [h1];simp),if_neg (by rw [h];simp)]
  unfold aHQ;rw [e];simp only [Option.map_map];congr 1;funext x;simp only [Function.comp,Gn_,List.singleton_append];rw [show x.2+1+k=x.2+(k+1) by omega]
def aJw (l:Bys):Bys×Int:=match aBY l with | some (s,k)=>(s,(k:Int)+1) | none=>([],0)
theorem aJ6 {l:Bys}(h:aBY l=none):aJw l=([],0):=by unfold aJw;rw [h]
theorem aSB {l s:Bys}{k:Nat}(h:aBY l=some (s,k)):aJw l=(s,(k:Int)+1):=by unfold aJw;rw [h]
abbrev aYx (Z:Ending->World->Prop):=AtO Tryz.prog (aAf Tryz.f154) (aAo (bodyPost Tryz.prog Tryz.f154 Z)) [] 44
theorem aOy {t l:Bys}(ht:t=34::l) (hl:l.length<=200000000) (w:World):Calls Tryz.prog 154 #[vS t] w fun e w'=>e = .returned (.tuple #[vS (aJw l).1,vI (aJw l).2]) /\ Fr nF_ w w':=by
  refine beg Tryz.func154 rfl rfl [(0,vS t)] rfl rfl fun Z hZ=>?_;have hM:=Mm.nil nF_ w;have htl:t.length=l.length+1:=by rw [ht];rfl
  have hta:∀ {k:Nat}{e:UInt8},l[k]?=some e->t[k+1]?=some e:=fun h=>by rw [ht];exact h
  refine aAp 1 0 4 [] (cs:=#[.pointer none,vL none 0 0]) (T:=251) (v:=fun b=>vP b 0) f0 hM fun b w1 hM=>?_;have hM:=hM.row (f:=byL) (c:=1) (E:=5);refine seg 3 0 [(5,vI 1)] f0 ?_
  have lp3:∀ (m5:Nat) (j:Nat) (acc:Bys) (q:Option Addr) (cq:Nat) (pp:Option Addr) (w2:World),j<=l.length->aBY l=aHQ acc j (l.drop j)->acc.length<=j->(pp=none∨pp=some ⟨b,0,none⟩)->Mm nF_ w w2 [bk b #[.pointer pp,vL q acc.length cq] 251,rw_ byL 1 5 (vL q acc.length cq) acc]->m5=l.length+1-j->aYx Z (some (3,0)) [(5,vI ((j:Int)+1)),(4,vP b 0),(0,vS t)] w2:=by
   refine aA8 fun m5 ih4 j acc q cq pp w2 hj hi hal hp hM hm5=>seg 3 4 [(11,vB (decide (((j:Int)+1)<(t.length:Int))))] (fc (aCA 9 t) f0) ?_;cases h6:(decide (((j:Int)+1)<(t.length:Int)))
   ·have rh6:=df h6;exact rt2 2 3 (vS []) (vI 0) rfl rfl f0 (hZ _ _ ⟨by rw [aJ6 (by rw [hi,Gi_ (by omega),aRi])],hM.fr⟩)
   have rh6:=dt h6;obtain ⟨c,hc⟩:=geb (l:=l) (i:=j) (by omega);refine seg 8 2 [(6,.int .u8 (c.toNat:Int)),(17,.int .u8 (c.toNat:Int)),(20,vB ((c.toNat:Int)==34))] (fc (byt 9 (i:=j+1) (hta hc) (z:=((j:Int)+1)) (by omega)) f0) ?_;cases h7:((c.toNat:Int)==34)
   rotate_left
   ·have rh7:=et h7;refine cal 9 0 22 [] (K:=fun u w8=>u=vS acc /\ Below w.heap.size _ w8) f0 ((aNS hp hM).mono fun e w9 h=>⟨_,h.1,rfl,h.2⟩) fun u w1 ⟨hu,hb⟩=>?_;subst hu;have hM:=Mm.below hM hb;exact rt2 2 3 (vS acc) (vI (((j:Int)+1)+1)) rfl rfl (fc (aAe ((j:Int)+1) 1 u3_) f0) (hZ _ _ ⟨by rw [aSB (by rw [hi,gd hc,aVx (by rw [q34];exact h7)])];exact congrArg (fun z=>Ending.returned (.tuple #[vS acc,vI z])) (by omega),hM.fr⟩)
   have rh7:=ef h7;refine seg 10 2 [(25,vB ((c.toNat:Int)==10))] f0 ?_;cases h8:((c.toNat:Int)==10)
   rotate_left
   ·have rh8:=et h8;exact rt2 2 3 (vS []) (vI 0) rfl rfl f0 (hZ _ _ ⟨by rw [aJ6 (by rw [hi,gd hc,aVy (by rw [q34];exact h7) (by rw [q10];exact h8)])],hM.fr⟩)
   have rh8:=ef h8;refine seg 12 2 [(27,vB ((c.toNat:Int)==92))] f0 ?_;cases h9:((c.toNat:Int)==92)
   ·have rh9:=ef h9;refine aAM 7 1 19 [(18,.int .u8 (c.toNat:Int))] (K:=fun u Mn=>u = .nilIface /\ ∃ q2 c2,Mn=[bk b #[vP b 0,vL q2 (acc++[c]).length c2] 251,rw_ byL 1 5 (vL q2 (acc++[c]).length c2) (acc++[c])]) [] [0,1] f0 hM rfl rfl (by decide) (fun hm=>aG6 hp c (by omega) hm) fun u Mn w1 hK hM=>?_;obtain ⟨rfl,ab,ac,rfl⟩:=hK;refine seg 3 0 [(5,vI (((j:Int)+1)+1))] (fc (aAe ((j:Int)+1) 1 u3_) f0) ?_;have hin:aBY l=aHQ (acc++[c]) (j+1) (l.drop (j+1)):=by rw [hi,gd hc,aVz (by rw [q34];exact h7) (by rw [q10];exact h8) (by rw [q92];exact h9)]
    exact aAb _ (ih4 _ (by omega) (j+1) (acc++[c]) ab ac (some ⟨b,0,none⟩) _ (by omega) hin (by simp only [Gk_,List.length_singleton];omega) (.inr rfl) hM rfl)
   have rh9:=et h9;refine seg 15 4 [(5,vI (((j:Int)+1)+1)),(7,vI (-1)),(34,vB (decide ((((j:Int)+1)+1)<(t.length:Int))))] (fc (aAe ((j:Int)+1) 1 u3_) (fc (aCA 9 t) f0)) ?_;cases h11:(decide ((((j:Int)+1)+1)<(t.length:Int)))
   ·have ad:=df h11;exact rt2 2 3 (vS []) (vI 0) rfl rfl f0 (hZ _ _ ⟨by rw [aJ6 (by rw [hi,gd hc,Gi_ (by omega),aTH (by rw [q34];exact h7) (by rw [q10];exact h8) (by rw [q92];exact h9)])],hM.fr⟩)
   have ad:=dt h11;obtain ⟨d,hd⟩:=geb (l:=l) (i:=j+1) (by omega);refine aAq 16 3 38 [(37,.int .u8 (d.toNat:Int))] (fc (byt 9 (i:=j+2) (hta hd) (z:=(((j:Int)+1)+1)) (by omega)) f0) hM (aAB [92,34,110] d.toNat (UInt8.toNat_lt _) _) fun w1 hM=>seg 17 2 [(7,vI (aLB d)),(40,vB (decide ((aLB d)<0)))] f0 ?_;cases h12:(decide ((aLB d)<0))
   rotate_left
   ·have aa:=dt h12;exact rt2 2 3 (vS []) (vI 0) rfl rfl f0 (hZ _ _ ⟨by rw [aJ6 (by rw [hi,gd hc,gd hd,aTG (by rw [q34];exact h7) (by rw [q10];exact h8) (by rw [q92];exact h9) aa])],hM.fr⟩)
   have aa:=df h12;refine aAM 19 2 43 [(42,.int .u8 ((esc d).toNat:Int))] (K:=fun u Mn=>u = .nilIface /\ ∃ q2 c2,Mn=[bk b #[vP b 0,vL q2 (acc++[esc d]).length c2] 251,rw_ byL 1 5 (vL q2 (acc++[esc d]).length c2) (acc++[esc d])]) [] [0,1] (fc (byt 9 (i:=(aLB d).toNat) (aWd d aa).1 (z:=(aLB d)) (by have:=(aWd d aa).2;omega)) f0) hM rfl rfl (by decide) (fun hm=>aG6 hp (esc d) (by omega) hm) fun u Mn w1 hK hM=>?_;obtain ⟨rfl,ae,af,rfl⟩:=hK;refine seg 3 0 [(5,vI ((((j:Int)+1)+1)+1))] (fc (aAe (((j:Int)+1)+1) 1 u3_) f0) ?_;have hin:aBY l=aHQ (acc++[esc d]) (j+2) (l.drop (j+2)):=by rw [hi,gd hc,gd hd,aTF (by rw [q34];exact h7) (by rw [q10];exact h8) (by rw [q92];exact h9) aa]
   exact aAb _ (ih4 _ (by omega) (j+2) (acc++[esc d]) ae af (some ⟨b,0,none⟩) _ (by omega) hin (by simp only [Gk_,List.length_singleton];omega) (.inr rfl) hM rfl)
  exact aAb _ (lp3 _ 0 [] none 0 none _ (Gg_ _) (aV0 l) (Gl_ _) (.inl rfl) hM rfl)
def aAs (s:Bys) (i:Nat):Nat:=match s[i]? with | some b=>cl8 b | none=>0
theorem aDv {l:Bys}{j:Nat}{c:UInt8}(h:l[j]?=some c):l.drop j=c::l.drop (j+1):=by
  have hj:=(List.getElem?_eq_some_iff.1 h).1;rw [List.drop_eq_getElem_cons hj,(List.getElem?_eq_some_iff.1 h).2]
theorem aHu {s:Bys}{i:Nat}(h:s.length<=i):aAs s i=0:=by unfold aAs;rw [List.getElem?_eq_none h]
theorem aBd {s:Bys}{i:Nat}{c:UInt8}(h:s[i]?=some c):aAs s i=cl8 c:=by unfold aAs;rw [h]
theorem aXj (c:UInt8):(((cl8 c==1)==aB7 c)&&((cl8 c==2)==(c==35))&&((cl8 c==3)==aBh c)&&((cl8 c==4)==aAv c)&&((cl8 c==7)==(c==34))&&((cl8 c==6)==aD1 c)&&((cl8 c==3||cl8 c==4||cl8 c==5)==aAI c))=true :=
  aEP (p:=fun c=>((cl8 c==1)==aB7 c)&&((cl8 c==2)==(c==35))&&((cl8 c==3)==aBh c)&&((cl8 c==4)==aAv c)&&((cl8 c==7)==(c==34))&&((cl8 c==6)==aD1 c)&&((cl8 c==3||cl8 c==4||cl8 c==5)==aAI c)) (by decide +kernel) c
theorem aCI (c:UInt8):(cl8 c==1)=aB7 c /\ (cl8 c==2)=(c==35) /\ (cl8 c==3)=aBh c /\ (cl8 c==4)=aAv c /\ (cl8 c==7)=(c==34) /\ (cl8 c==6)=aD1 c /\ (cl8 c==3||cl8 c==4||cl8 c==5)=aAI c:=by
  have:=aXj c;simp only [Ga_,beq_iff_eq] at this;obtain ⟨⟨⟨⟨⟨⟨h1,h2⟩,h3⟩,h4⟩,h5⟩,h6⟩,h7⟩:=this;exact ⟨h1,h2,h3,h4,h5,h6,h7⟩
theorem aGu (a:Nat) (b:Nat):(((a:Nat):Int)==(b:Int))=(a==b):=by
  by_cases h:a=b
  · subst h;simp
  · rw [beq_eq_false_iff_ne.2 h,beq_eq_false_iff_ne.2 (by omega)]
def aCM (s:Bys) (i:Nat):Bool:=aAs s i==3||aAs s i==4||aAs s i==5
theorem aCF {s:Bys}{i:Nat}{c:UInt8}(h:s[i]?=some c):aCM s i=aAI c:=by
  unfold aCM;rw [aBd h];exact (aCI c).2.2.2.2.2.2
theorem aEb {s:Bys}{i:Nat}(h:s.length<=i):aCM s i=false:=by unfold aCM;rw [aHu h];rfl
def aGj (s:Bys) (i:Nat):Bool:=aAs s i==4
theorem aJj {s:Bys}{i:Nat}{c:UInt8}(h:s[i]?=some c):aGj s i=aAv c:=by
  unfold aGj;rw [aBd h];exact (aCI c).2.2.2.1
theorem aMN {s:Bys}{i:Nat}(h:s.length<=i):aGj s i=false:=by unfold aGj;rw [aHu h];rfl
structure RunTo (p:UInt8->Bool) (s:Bys) (f j:Nat):Prop where
  le:f<=j
  hi:j<=s.length
  all:(s.drop f).takeWhile p=(s.drop f).take (j-f)++(s.drop j).takeWhile p
theorem RunTo.start {p:UInt8->Bool}{s:Bys}{f:Nat}(h:f<=s.length):RunTo p s f f:=⟨Gl_ _,h,by simp⟩
theorem RunTo.step {p:UInt8->Bool}{s:Bys}{f j:Nat}{c:UInt8}(h:RunTo p s f j) (hc:s[j]?=some c) (hp:p c=true):RunTo p s f (j+1):=by
  have hj:=(List.getElem?_eq_some_iff.1 hc).1;refine ⟨by have:=h.le;omega,by omega,?_⟩;rw [h.all,aDv hc,List.takeWhile_cons,if_pos hp];have hle:=h.le
  have:(s.drop f).take (j+1-f)=(s.drop f).take (j-f)++[c]:=by
    rw [show j+1-f=(j-f)+1 by omega,List.take_add_one,List.getElem?_drop,show f+(j-f)=j by omega,hc];rfl
  rw [this,Gn_];rfl
theorem RunTo.stop {p:UInt8->Bool}{s:Bys}{f j:Nat}(h:RunTo p s f j) (hs:∀ c,s[j]?=some c->p c=false):(s.drop f).takeWhile p=(s.drop f).take (j-f) /\ ((s.drop f).takeWhile p).length=j-f:=by
  have e:(s.drop j).takeWhile p=[]:=by
    cases hq:s.drop j with
    | nil=>rfl
    | cons c r =>
      have:s[j]?=some c:=by
        have:=congrArg (fun l=>l[0]?) hq;simpa [List.getElem?_drop] using this
      rw [List.takeWhile_cons,hs c this];rfl
  have:=h.all;rw [e,List.append_nil] at this;refine ⟨this,?_⟩;rw [this,Gt_,Gr_];have:=h.le;have:=h.hi;omega
theorem aDl {s:Bys}{i j:Nat}{c:UInt8}(hc:s[i]?=some c) (h:i+1<=j):(s.take j).drop i=c::(s.drop (i+1)).take (j-(i+1)):=by
  rw [List.drop_take,aDv hc,show j-i=(j-(i+1))+1 by omega,List.take_succ_cons]
def aCR (s:Bys) (k i:Nat):Prop:=i<=s.length /\ k<=(aBE s 0).length /\ (aBE s 0).drop k=aBE (s.drop i) i
theorem aCR.zero (s:Bys):aCR s 0 0:=⟨Gg_ _,Gg_ _,rfl⟩
theorem aCR.done {s:Bys}{k:Nat}(h:aCR s k s.length):k=(aBE s 0).length:=by
  obtain ⟨_,h1,h2⟩:=h;rw [List.drop_length,aIZ] at h2;have:=congrArg List.length h2;simp at this;omega
theorem aCR.gap {s:Bys}{k i:Nat}{c:UInt8}(h:aCR s k i) (hc:s[i]?=some c) {m:Nat}(ho:one c (s.drop (i+1))=(0,[],m,0)) (hm:i+1+m<=s.length):aCR s k (i+1+m):=by
  obtain ⟨_,h1,h2⟩:=h;refine ⟨hm,h1,?_⟩;rw [h2,aDv hc,aDa,ho];simp only [bne_self_eq_false,Bool.false_eq_true,if_false,beq_self_eq_true,if_true,List.drop_drop];rw [show (i:Int)+1+(m:Int)=((i+1+m:Nat):Int) by omega]
theorem aCR.tok {s:Bys}{k i:Nat}{c:UInt8}{kd:Int}{tx:Bys}{m:Nat}(h:aCR s k i) (hc:s[i]?=some c) (ho:one c (s.drop (i+1))=(kd,tx,m,0)) (hk:kd≠0) (hm:i+1+m<=s.length):(aBE s 0)[k]?=some ((kd,tx,(i:Int)),0) /\ aCR s (k+1) (i+1+m):=by
  obtain ⟨_,h1,h2⟩:=h;rw [aDv hc,aDa,ho] at h2;simp only [bne_self_eq_false,Bool.false_eq_true,if_false,List.drop_drop] at h2;rw [if_neg (by simpa using hk)] at h2
  have h3:(aBE s 0)[k]?=some ((kd,tx,(i:Int)),0):=by
    have:=congrArg (fun l=>l[0]?) h2;simpa [List.getElem?_drop] using this
  refine ⟨h3,hm,(List.getElem?_eq_some_iff.1 h3).1,?_⟩;have:=congrArg (List.drop 1) h2;rw [List.drop_drop] at this;rw [this];simp only [List.drop_succ_cons,List.drop_zero];rw [show (i:Int)+1+(m:Int)=((i+1+m:Nat):Int) by omega]
theorem aCR.err {s:Bys}{k i:Nat}{c:UInt8}{kd:Int}{tx:Bys}{m:Nat}{e:Int}(h:aCR s k i) (hc:s[i]?=some c) (ho:one c (s.drop (i+1))=(kd,tx,m,e)) (he:e≠0):(aBE s 0)[k]?=some ((kd,tx,(i:Int)),e) /\ k+1=(aBE s 0).length:=by
  obtain ⟨_,h1,h2⟩:=h;rw [aDv hc,aDa,ho] at h2;simp only at h2;rw [if_pos (by simpa using he)] at h2
  have h3:(aBE s 0)[k]?=some ((kd,tx,(i:Int)),e):=by
    have:=congrArg (fun l=>l[0]?) h2;simpa [List.getElem?_drop] using this
  refine ⟨h3,?_⟩;have:=congrArg List.length h2;rw [Gr_] at this;simp at this;have:=(List.getElem?_eq_some_iff.1 h3).1;omega
theorem aRM {c:UInt8}{l:Bys}(hb:aB7 c=false) (h:(c==35)=true):one c l=(0,[],(l.takeWhile (· != 10)).length,0):=by
  unfold one;simp only [hb,h,Bool.false_eq_true,if_false,if_true]
theorem aRL {c:UInt8}{l:Bys}(h:aBh c=true):one c l=(1,c::l.takeWhile aAI,(l.takeWhile aAI).length,if (l.takeWhile aAI).length+1>24 then 2 else 0):=by
  obtain ⟨h1,h2,_,_⟩:=aHh h;unfold one;simp only [h1,h2,h,Bool.false_eq_true,if_false,if_true]
def hdW:Bys->Bool
  | d::_=>aAI d
  | []=>false
theorem aRN {c:UInt8}{l:Bys}(h:aAv c=true):one c l=((2:Int),c::l.takeWhile aAv,(l.takeWhile aAv).length,if ((l.takeWhile aAv).length+1>7||hdW (l.dropWhile aAv))=true then (4:Int) else 0):=by
  obtain ⟨h1,h2,h3,_⟩:=aPO h;unfold one;simp only [h1,h2,h3,h,Bool.false_eq_true,if_false,if_true];cases l.dropWhile aAv<;>rfl
theorem aUh {c:UInt8}(h:(c==34)=true):aB7 c=false /\ (c==35)=false /\ aBh c=false /\ aAv c=false:=by
  rw [beq_iff_eq] at h;subst h;decide
theorem aIK {c:UInt8}{l:Bys}(h:(c==34)=true):one c l=(match aBY l with | some (s,k)=>(3,s,k,0) | none=>(0,[],0,3)):=by
  obtain ⟨h1,h2,h3,h4⟩:=aUh h;unfold one;simp only [h1,h2,h3,h4,h,Bool.false_eq_true,if_false,if_true];cases aBY l<;>rfl
theorem aPv {c:UInt8}{l:Bys}(h1:aB7 c=false) (h2:(c==35)=false) (h3:aBh c=false) (h4:aAv c=false) (h5:(c==34)=false) (h6:aD1 c=false):one c l=(0,[],0,3):=by
  unfold one;simp only [h1,h2,h3,h4,h5,h6,Bool.false_eq_true,if_false]
theorem aHG {p:UInt8->Bool}(l:Bys):l.dropWhile p=l.drop (l.takeWhile p).length:=by
  induction l with
  | nil=>rfl
  | cons c l ih =>
    rw [List.dropWhile_cons,List.takeWhile_cons]
    split
    · simp [ih]
    · rfl
theorem aMd:∀ (n:Nat) (l:Bys),l.length<=n->∀ {s:Bys}{k:Nat},aBY l=some (s,k)->k<=l.length:=fun n l h s k hs=>(aRh n l [] h hs).2
theorem aI6 {p:UInt8->Bool}{s:Bys}{i j:Nat}{c:UInt8}(hc:s[i]?=some c) (hp:p c=true) (hr:RunTo p s i j) (hs:∀ c,s[j]?=some c->p c=false):i+1<=j /\ c::(s.drop (i+1)).takeWhile p=(s.take j).drop i /\ ((s.drop (i+1)).takeWhile p).length=j-(i+1):=by
  obtain ⟨h1,h2⟩:=hr.stop hs;rw [aDv hc,List.takeWhile_cons,if_pos hp] at h1 h2;have h4:=hr.le;simp only [Gf_] at h2;refine ⟨by omega,?_,by omega⟩;rw [h1,←aDv hc,List.drop_take]
theorem aLy {s:Bys}{i j:Nat}{c:UInt8}(hc:s[i]?=some c) (h:aBh c=true) (hr:RunTo aAI s i j) (hs:aCM s j=false):one c (s.drop (i+1))=(1,(s.take j).drop i,j-(i+1),if (24:Int)<(j:Int)-(i:Int) then 2 else 0) /\ i+1<=j:=by
  obtain ⟨h1,h2,h3⟩:=aI6 hc (aHh h).2.2.2 hr (fun c hc=>by rw [←aCF hc];exact hs);refine ⟨?_,h1⟩;rw [aRL h,h2,h3];have:(j-(i+1)+1>24)↔((24:Int)<(j:Int)-(i:Int)):=by omega
  simp only [this]
theorem aVX {s:Bys}{j:Nat}:hdW (s.drop j)=aCM s j:=by
  cases hq:s[j]? with
  | none =>
    have hj:s.length<=j:=List.getElem?_eq_none_iff.1 hq;rw [Gi_ hj,aEb hj];rfl
  | some c=>rw [aDv hq,aCF hq];rfl
theorem aLE {s:Bys}{i j:Nat}{c:UInt8}(hc:s[i]?=some c) (h:aAv c=true) (hr:RunTo aAv s i j) (hs:aGj s j=false):one c (s.drop (i+1))=(2,(s.take j).drop i,j-(i+1),if (decide ((7:Int)<(j:Int)-(i:Int))||aCM s j)=true then 4 else 0) /\ i+1<=j:=by
  obtain ⟨h1,h2,h3⟩:=aI6 hc h hr (fun c hc=>by rw [←aJj hc];exact hs);refine ⟨?_,h1⟩
  have hdd:(s.drop (i+1)).dropWhile aAv=s.drop j:=by
    rw [aHG,h3,List.drop_drop,show i+1+(j-(i+1))=j by omega]
  rw [aRN h,h2,h3,hdd,aVX];have:decide (j-(i+1)+1>7)=decide ((7:Int)<(j:Int)-(i:Int)):=by rw [decide_eq_decide];omega
  rw [this]
theorem aGz {s:Bys}{i j:Nat}{c:UInt8}(hc:s[i]?=some c) (hb:aB7 c=false) (h:(c==35)=true) (hr:RunTo (· != 10) s i j) (hs:∀ c,s[j]?=some c->(c != 10)=false):one c (s.drop (i+1))=(0,[],j-(i+1),0) /\ i+1<=j:=by
  have hp:(c != 10)=true:=by rw [beq_iff_eq] at h;subst h;decide
  obtain ⟨h1,h2,h3⟩:=aI6 hc hp hr hs;exact ⟨by rw [aRM hb h,h3],h1⟩
theorem aKT {s:Bys}{i:Nat}{c:UInt8}(hc:s[i]?=some c) (h:(c==34)=true):s.drop i=34::s.drop (i+1) /\ ((∃ st m,aJw (s.drop (i+1))=(st,((m+1:Nat):Int)) /\ one c (s.drop (i+1))=(3,st,m,0) /\ i+1+m<=s.length)∨(aJw (s.drop (i+1))=([],0) /\ one c (s.drop (i+1))=(0,[],0,3))):=by
  refine ⟨by rw [aDv hc];rw [beq_iff_eq] at h;rw [h],?_⟩;have hi:=(List.getElem?_eq_some_iff.1 hc).1;rw [aIK h]
  cases hq:aBY (s.drop (i+1)) with
  | none=>exact .inr ⟨aJ6 hq,rfl⟩
  | some x =>
    obtain ⟨st,m⟩:=x;have:=aMd _ _ (Gl_ _) hq;rw [Gr_] at this;exact .inl ⟨st,m,by rw [aSB hq];rfl,rfl,by omega⟩
theorem aOi {s:Bys}{j:Nat}(h:aGj s j=false):aCM s j=(aAs s j==3||aAs s j==5):=by
  unfold aGj at h;unfold aCM;rw [h];simp
theorem u10 (c:UInt8):(c != 10)=((c.toNat:Int) != 10):=by
  have:=q10 c;unfold bne;rw [this]
def aOc (s:Bys):List (Array Value):=(aBE s 0).map fun x=>#[.agg #[vI x.1.1,vS x.1.2.1,vI x.1.2.2,vI x.2]]
structure TokK (bt bf bc:Nat) (s:Bys) (G:Nat->Prop) (W:World):Prop where
  t:W.heap[bt]?=some (.cells #[vS s] 9 (0,0))
  f:W.heap[bf]?=some (.cells #[.func (.func 152) #[] #[vP bt 0,vP bc 0]] 228 (0,0))
  c:∃ cs,W.heap[bc]?=some (.cells cs 153 (0,0)) /\ T8 cs aJ0
  nt:¬ G bt
  nf:¬ G bf
  nc:¬ G bc
theorem aDw {w:World}{bt bc:Nat}{s:Bys}{cs:Array Value}(hbt:w.heap[bt]?=some (.cells #[vS s] 9 (0,0))) (hbc:w.heap[bc]?=some (.cells cs 153 (0,0))) (hT:T8 cs aJ0) (i:Nat):Calls Tryz.prog 152 #[vI (i:Int),vP bt 0,vP bc 0] w fun e w'=>e = .returned (.int .u8 ((aAs s i:Nat):Int)) /\ Fr nF_ w w':=by
  refine beg Tryz.func152 rfl rfl [(0,vI (i:Int)),(1,vP bt 0),(2,vP bc 0)] rfl rfl fun Z hZ=>?_;have hM:=Mm.nil nF_ w;refine seg 1 4 [(8,vB (decide ((s.length:Int)<=(i:Int))))] (fc (ld0 9 hM (bx hbt 0 rfl)) (fc (aCA 9 s) f0)) ?_;cases h1:(decide ((s.length:Int)<=(i:Int)))
  ·have rh1:=df h1;obtain ⟨e2,he2⟩:=geb (l:=s) (i:=i) (by omega);exact rt1 4 (.int .u8 ((aJ0 e2.toNat:Nat):Int)) rfl (fc (ld0 9 hM (bx hbt 0 rfl)) (fc (byt 9 he2) (fc (aDU 153 256 .u8 bc 0 e2.toNat e2.toNat_lt) (fc (ld0 5 hM (bx hbc (0+e2.toNat*1) (by rw [Nat.zero_add,Nat.mul_one];exact hT.2 _ e2.toNat_lt))) f0)))) (hZ _ _ ⟨by rw [aBd he2,←aDg],hM.fr⟩)
  have rh1:=dt h1;exact rt1 4 (.int .u8 0) rfl f0 (hZ _ _ ⟨by rw [aHu (by omega)];rfl,hM.fr⟩)
abbrev aW5 (Z:Ending->World->Prop):=AtO Tryz.prog (aAf Tryz.f153) (aAo (bodyPost Tryz.prog Tryz.f153 Z)) [] 149
theorem aIw {bt bf bc:Nat}{s:Bys}(hl:s.length<=20000):aNX Tryz.prog 153 #[vP bt 0,vP bf 0] (aOc s) (TokK bt bf bc s):=by
  intro l J S w e0 hJ0 he hKp hSq hround;obtain ⟨hbt,hbf,⟨cs,hbc,hT⟩,hnt,hnf,hnc⟩:=hKp;refine beg Tryz.func153 rfl rfl [(0,.func (.yield l) #[] #[]),(1,vP bt 0),(2,vP bf 0)] rfl rfl fun Y hY=>?_;have hM:=Mm.one he;refine seg 1 0 [(4,vI 0)] f0 ?_
  have lp3:∀ (m5:Nat) (k:Nat) (i:Nat) (ek:Ent) (w2:World),aCR s k i->J k ek->Mm e0.B w w2 [ek]->m5=s.length-i->aW5 Y (some (1,0)) [(4,vI (i:Int)),(0,.func (.yield l) #[] #[]),(1,vP bt 0),(2,vP bf 0)] w2:=by
   refine aA8 fun m5 ih4 k i ek w2 hL hJ hM hm5=>?_;have hil:=hL.1;refine seg 1 4 [(14,vB (decide ((i:Int)<(s.length:Int))))] (fc (ld0 9 hM (bx hbt 0 rfl) hnt) (fc (aCA 9 s) f0)) ?_;cases h6:(decide ((i:Int)<(s.length:Int)))
   ·have rh6:=df h6;have hie:i=s.length:=by omega
    have hL9:aCR s k s.length:=by rw [←hie];exact hL
    have hd9:=hL9.done;exact rt0 rfl f0 (hY _ _ ⟨⟨_,rfl⟩,.inl ⟨_,by unfold aOc;rw [Gs_,←hd9];exact hJ,hM.get 0 rfl,hM.fr⟩⟩)
   have rh6:=dt h6;obtain ⟨c,hc⟩:=geb (l:=s) (i:=i) (by omega);refine aCl 3 3 6 [(5,vI (i:Int)),(18,.agg #[vI 0,vS [],vI (i:Int),vI 3])] [] 205 (.agg #[vI 0,vS [],vI (i:Int),vI 3]) f0 hM fun b7 w1 hM=>aAq 4 2 21 [(19,.func (.func 152) #[] #[vP bt 0,vP bc 0]),(20,vI (i:Int))] (fc (ld0 228 hM (bx hbf 0 rfl) hnf) f0) hM (aDw (hM.fr.obj hbt hnt) (hM.fr.obj hbc hnc) hT i) fun w1 hM=>seg 5 2 [(22,vB (((aAs s i:Nat):Int)==1))] f0 ?_;cases h8:(((aAs s i:Nat):Int)==1)
   rotate_left
   ·have rh8:=et h8;have hblk:aB7 c=true:=by rw [←(aCI c).1,←aBd hc];exact (aGu (aAs s i) 1).symm.trans h8
    refine seg 1 0 [(4,vI ((i:Int)+1))] (fc (aAe (i:Int) 1 u3_) f0) ?_;have hL9:aCR s k (i+1):=(by have:=hL.gap hc (aPw hblk) (m:=0) (by omega);simpa using this);have hl9:=hL9.1;exact aAb _ (ih4 _ (by omega) k (i+1) ek _ hL9 hJ (hM.pick [0]) rfl)
   have rh8:=ef h8;have hblk:aB7 c=false:=by rw [←(aCI c).1,←aBd hc];exact (aGu (aAs s i) 1).symm.trans h8
   refine seg 7 2 [(26,vB (((aAs s i:Nat):Int)==2))] f0 ?_;cases h9:(((aAs s i:Nat):Int)==2)
   rotate_left
   ·have rh9:=et h9;have hhash:(c==35)=true:=by rw [←(aCI c).2.1,←aBd hc];exact (aGu (aAs s i) 2).symm.trans h9
    refine seg 8 0 [] f0 ?_
    have ah:∀ (ae:Nat) (j:Nat) (w2:World),RunTo (· != 10) s i j->Mm e0.B w w2 [ek,bk b7 #[vI 0,vS [],vI (i:Int),vI 3] 205]->ae=s.length-j->aW5 Y (some (8,0)) [(4,vI (j:Int)),(0,.func (.yield l) #[] #[]),(1,vP bt 0),(2,vP bf 0)] w2:=by
     refine aA8 fun ae ai j w2 hr hM a0=>?_;have hjl:=hr.hi;refine seg 8 5 [(32,vB (decide ((j:Int)<(s.length:Int))))] (fc (ld0 9 hM (bx hbt 0 rfl) hnt) (fc (aCA 9 s) f0)) ?_;cases h35:(decide ((j:Int)<(s.length:Int)))
     ·have aj:=df h35;have hjn:s[j]?=none:=List.getElem?_eq_none (by omega);refine seg 1 0 [] f0 ?_;obtain ⟨hon,hij⟩:=aGz hc hblk hhash hr (fun c hc9=>by rw [hjn] at hc9;cases hc9);have hjl:=hr.hi;have hL9:aCR s k j:=(by have:=hL.gap hc hon (by have:=hr.hi;omega);rwa [show i+1+(j-(i+1))=j by omega] at this);have hl9:=hL9.1;exact aAb _ (ih4 _ (by omega) k j ek _ hL9 hJ (hM.pick [0]) rfl)
     have aj:=dt h35;obtain ⟨e,he⟩:=geb (l:=s) (i:=j) (by omega);refine seg 8 10 [(37,vB (!((e.toNat:Int)==10)))] (fc (ld0 9 hM (bx hbt 0 rfl) hnt) (fc (byt 9 he) f0)) ?_;cases h36:((e.toNat:Int)==10)
     ·have ak:=ef h36;have hen:(e != 10)=true:=by rw [u10];show (!((e.toNat:Int)==10))=_;rw [h36];rfl
      refine seg 8 0 [(4,vI ((j:Int)+1))] (fc (aAe (j:Int) 1 u3_) f0) (aAb _ (ai _ (by omega) (j+1) _ (hr.step he hen) hM rfl))
     have ak:=et h36;have hen:(e != 10)=false:=by rw [u10];show (!((e.toNat:Int)==10))=_;rw [h36];rfl
     refine seg 1 0 [] f0 ?_;obtain ⟨hon,hij⟩:=aGz hc hblk hhash hr (fun c hc9=>by rw [he] at hc9;cases hc9;exact hen);have hjl:=hr.hi;have hL9:aCR s k j:=(by have:=hL.gap hc hon (by have:=hr.hi;omega);rwa [show i+1+(j-(i+1))=j by omega] at this);have hl9:=hL9.1;exact aAb _ (ih4 _ (by omega) k j ek _ hL9 hJ (hM.pick [0]) rfl)
    exact aAb _ (ah _ i _ (RunTo.start hL.1) hM rfl)
   have rh9:=ef h9;have hhash:(c==35)=false:=by rw [←(aCI c).2.1,←aBd hc];exact (aGu (aAs s i) 2).symm.trans h9
   refine seg 10 2 [(40,vB (((aAs s i:Nat):Int)==3))] f0 ?_;cases h10:(((aAs s i:Nat):Int)==3)
   rotate_left
   ·have al:=et h10;have hlet:aBh c=true:=by rw [←(aCI c).2.2.1,←aBd hc];exact (aGu (aAs s i) 3).symm.trans h10
    refine aAq 11 2 44 [(42,.func (.func 152) #[] #[vP bt 0,vP bc 0]),(43,vI (i:Int))] (fc (ld0 228 hM (bx hbf 0 rfl) hnf) f0) hM (aDw (hM.fr.obj hbt hnt) (hM.fr.obj hbc hnc) hT i) fun w1 hM=>seg 12 0 [(7,.int .u8 ((aAs s i:Nat):Int))] f0 ?_
    have am:∀ (af:Nat) (j:Nat) (w2:World),RunTo aAI s i j->Mm e0.B w w2 [ek,bk b7 #[vI 0,vS [],vI (i:Int),vI 3] 205]->af=s.length-j->aW5 Y (some (12,0)) [(7,.int .u8 ((aAs s j:Nat):Int)),(6,vP b7 0),(5,vI (i:Int)),(4,vI (j:Int)),(0,.func (.yield l) #[] #[]),(1,vP bt 0),(2,vP bf 0)] w2:=by
     refine aA8 fun af ac j w2 hr hM a1=>?_;have hjl:=hr.hi;refine seg 12 3 [(47,vB (((aAs s j:Nat):Int)==3))] f0 ?_;cases h27:(((aAs s j:Nat):Int)==3)
     rotate_left
     ·have an:=et h27;have hj3:(aAs s j==3)=true:=(aGu (aAs s j) 3).symm.trans h27;refine aAq 13 2 57 [(4,vI ((j:Int)+1)),(55,.func (.func 152) #[] #[vP bt 0,vP bc 0]),(56,vI ((j:Int)+1))] (fc (aAe (j:Int) 1 u3_) (fc (ld0 228 hM (bx hbf 0 rfl) hnf) f0)) hM (aDw (hM.fr.obj hbt hnt) (hM.fr.obj hbc hnc) hT (j+1)) fun w1 hM=>seg 12 0 [(7,.int .u8 ((aAs s (j+1):Nat):Int))] f0 ?_;have hwj:aCM s j=true:=by unfold aCM;first | (rw [hj3];done) | (rw [hj3];rfl)
      have hltj:j<s.length:=Nat.lt_of_not_le fun h9=>by rw [aEb h9] at hwj;cases hwj
      obtain ⟨e,he⟩:=geb (l:=s) (i:=j) hltj;have hen:aAI e=true:=by rw [←aCF he];exact hwj
      exact aAb _ (ac _ (by omega) (j+1) _ (hr.step he hen) hM rfl)
     have an:=ef h27;have hj3:(aAs s j==3)=false:=(aGu (aAs s j) 3).symm.trans h27;refine seg 12 7 [(51,vB (((aAs s j:Nat):Int)==4))] f0 ?_;cases h28:(((aAs s j:Nat):Int)==4)
     rotate_left
     ·have ao:=et h28;have hj4:(aAs s j==4)=true:=(aGu (aAs s j) 4).symm.trans h28;refine aAq 13 2 57 [(4,vI ((j:Int)+1)),(55,.func (.func 152) #[] #[vP bt 0,vP bc 0]),(56,vI ((j:Int)+1))] (fc (aAe (j:Int) 1 u3_) (fc (ld0 228 hM (bx hbf 0 rfl) hnf) f0)) hM (aDw (hM.fr.obj hbt hnt) (hM.fr.obj hbc hnc) hT (j+1)) fun w1 hM=>seg 12 0 [(7,.int .u8 ((aAs s (j+1):Nat):Int))] f0 ?_;have hwj:aCM s j=true:=by unfold aCM;first | (rw [hj3,hj4];done) | (rw [hj3,hj4];rfl)
      have hltj:j<s.length:=Nat.lt_of_not_le fun h9=>by rw [aEb h9] at hwj;cases hwj
      obtain ⟨e,he⟩:=geb (l:=s) (i:=j) hltj;have hen:aAI e=true:=by rw [←aCF he];exact hwj
      exact aAb _ (ac _ (by omega) (j+1) _ (hr.step he hen) hM rfl)
     have ao:=ef h28;have hj4:(aAs s j==4)=false:=(aGu (aAs s j) 4).symm.trans h28;refine seg 12 10 [(54,vB (((aAs s j:Nat):Int)==5))] f0 ?_;cases h29:(((aAs s j:Nat):Int)==5)
     rotate_left
     ·have ap:=et h29;have hj5:(aAs s j==5)=true:=(aGu (aAs s j) 5).symm.trans h29;refine aAq 13 2 57 [(4,vI ((j:Int)+1)),(55,.func (.func 152) #[] #[vP bt 0,vP bc 0]),(56,vI ((j:Int)+1))] (fc (aAe (j:Int) 1 u3_) (fc (ld0 228 hM (bx hbf 0 rfl) hnf) f0)) hM (aDw (hM.fr.obj hbt hnt) (hM.fr.obj hbc hnc) hT (j+1)) fun w1 hM=>seg 12 0 [(7,.int .u8 ((aAs s (j+1):Nat):Int))] f0 ?_;have hwj:aCM s j=true:=by unfold aCM;first | (rw [hj3,hj4,hj5];done) | (rw [hj3,hj4,hj5];rfl)
      have hltj:j<s.length:=Nat.lt_of_not_le fun h9=>by rw [aEb h9] at hwj;cases hwj
      obtain ⟨e,he⟩:=geb (l:=s) (i:=j) hltj;have hen:aAI e=true:=by rw [←aCF he];exact hwj
      exact aAb _ (ac _ (by omega) (j+1) _ (hr.step he hen) hM rfl)
     have ap:=ef h29;have hj5:(aAs s j==5)=false:=(aGu (aAs s j) 5).symm.trans h29;have hws:aCM s j=false:=by unfold aCM;rw [hj3,hj4,hj5];rfl
     obtain ⟨hon,hij⟩:=aLy hc hlet hr hws;refine seg 15 0 [] f0 (drx [6,9,11] (fun Z=>[none,none,none]) _ (fun Z l=>[ek,bk b7 #[(bif l.getD 0 false then vI 1 else vI 0),(bif l.getD 1 false then vS ((s.take j).drop i) else vS []),vI (i:Int),(bif l.getD 2 false then vI 0 else vI 3)] 205]) (fun Z=>[]) hM (fun Z=>rfl) (fun Z l w5 hM=>(fc (ld0 9 hM (bx hbt 0 rfl) hnt) (fc (aQE 9 s i j (by omega) (by omega) (y:=(i:Int)) (z:=(j:Int)) (by omega) (by omega)) f0))) ⟨aB8 0 6 3 1 0 (fun Z=>b7) (fun Z l=>#[(bif l.getD 0 false then vI 1 else vI 0),(bif l.getD 1 false then vS ((s.take j).drop i) else vS []),vI (i:Int),(bif l.getD 2 false then vI 0 else vI 3)]) 205 (fun Z=>vI 1),aB8 1 9 9 1 1 (fun Z=>b7) (fun Z l=>#[(bif l.getD 0 false then vI 1 else vI 0),(bif l.getD 1 false then vS ((s.take j).drop i) else vS []),vI (i:Int),(bif l.getD 2 false then vI 0 else vI 3)]) 205 (fun Z=>vS ((s.take j).drop i)),aB8 2 11 32 1 3 (fun Z=>b7) (fun Z l=>#[(bif l.getD 0 false then vI 1 else vI 0),(bif l.getD 1 false then vS ((s.take j).drop i) else vS []),vI (i:Int),(bif l.getD 2 false then vI 0 else vI 3)]) 205 (fun Z=>vI 0),trivial⟩ fun a2 w1 hM=>?_);replace hM:Mm e0.B w w1 [ek,bk b7 #[vI 1,vS ((s.take j).drop i),vI (i:Int),vI 0] 205]:=hM;refine seg 16 4 [(72,vB (decide (24<((j:Int)-(i:Int)))))] (fc (aBx (j:Int) (i:Int) u3_) f0) ?_;cases h31:(decide (24<((j:Int)-(i:Int))))
     ·have ad:=df h31;rw [if_neg ad] at hon;obtain ⟨hx,hLn⟩:=hL.tok hc hon (by decide) (by omega);refine yld 33 2 142 [(140,.func (.yield l) #[] #[]),(141,.agg #[vI 1,vS ((s.take j).drop i),vI (i:Int),vI 0])] #[205] (by decide) (fc (lam 205 1 0 4 hM rfl) f0) hM (j:=0) rfl (hround _ _ _ _ hJ (hM.get 0 rfl) hM.fr (aF1 hx)) (fun ec w1 hJ hM=>?_) (fun w1 hS=>?_)
      · skip
        refine seg 1 0 [] (fc (ldm 32 1 3 hM rfl rfl) f0) ?_;have hL9:aCR s (k+1) j:=(by rwa [show i+1+(j-(i+1))=j by omega] at hLn);have hl9:=hL9.1;exact aAb _ (ih4 _ (by omega) (k+1) j ec _ hL9 hJ (hM.pick [0]) rfl)
      · skip
        exact rt0 rfl f0 (hY _ _ ⟨⟨_,rfl⟩,.inr hS⟩)
     have ad:=dt h31;refine stm 17 1 [(73,vP b7 3)] 32 1 3 (vI 2) f0 hM rfl fun w1 hM=>?_;rw [if_pos ad] at hon;obtain ⟨hx,hend⟩:=hL.err hc hon (by decide);refine yld 33 2 142 [(140,.func (.yield l) #[] #[]),(141,.agg #[vI 1,vS ((s.take j).drop i),vI (i:Int),vI 2])] #[205] (by decide) (fc (lam 205 1 0 4 hM rfl) f0) hM (j:=0) rfl (hround _ _ _ _ hJ (hM.get 0 rfl) hM.fr (aF1 hx)) (fun ec w1 hJ hM=>?_) (fun w1 hS=>?_)
     · skip
       exact rt0 rfl (fc (ldm 32 1 3 hM rfl rfl) f0) (hY _ _ ⟨⟨_,rfl⟩,.inl ⟨_,by unfold aOc;rw [Gs_,←hend];exact hJ,hM.get 0 rfl,hM.fr⟩⟩)
     · skip
       exact rt0 rfl f0 (hY _ _ ⟨⟨_,rfl⟩,.inr hS⟩)
    exact aAb _ (am _ i _ (RunTo.start hL.1) hM rfl)
   have al:=ef h10;have hlet:aBh c=false:=by rw [←(aCI c).2.2.1,←aBd hc];exact (aGu (aAs s i) 3).symm.trans h10
   refine seg 18 2 [(74,vB (((aAs s i:Nat):Int)==4))] f0 ?_;cases h11:(((aAs s i:Nat):Int)==4)
   ·have aq:=ef h11;have hdig:aAv c=false:=by rw [←(aCI c).2.2.2.1,←aBd hc];exact (aGu (aAs s i) 4).symm.trans h11
    refine seg 25 2 [(107,vB (((aAs s i:Nat):Int)==7))] f0 ?_;cases h12:(((aAs s i:Nat):Int)==7)
    ·have ar:=ef h12;have hquo:(c==34)=false:=by rw [←(aCI c).2.2.2.2.1,←aBd hc];exact (aGu (aAs s i) 7).symm.trans h12
     refine seg 30 2 [(127,vB (((aAs s i:Nat):Int)==6))] f0 ?_;cases h13:(((aAs s i:Nat):Int)==6)
     ·have au:=ef h13;have hsym:aD1 c=false:=by rw [←(aCI c).2.2.2.2.2.1,←aBd hc];exact (aGu (aAs s i) 6).symm.trans h13
      have hon:=aPv (l:=s.drop (i+1)) hblk hhash hlet hdig hquo hsym;obtain ⟨hx,hend⟩:=hL.err hc hon (by decide);refine yld 33 2 142 [(140,.func (.yield l) #[] #[]),(141,.agg #[vI 0,vS [],vI (i:Int),vI 3])] #[205] (by decide) (fc (lam 205 1 0 4 hM rfl) f0) hM (j:=0) rfl (hround _ _ _ _ hJ (hM.get 0 rfl) hM.fr (aF1 hx)) (fun ec w1 hJ hM=>?_) (fun w1 hS=>?_)
      · skip
        exact rt0 rfl (fc (ldm 32 1 3 hM rfl rfl) f0) (hY _ _ ⟨⟨_,rfl⟩,.inl ⟨_,by unfold aOc;rw [Gs_,←hend];exact hJ,hM.get 0 rfl,hM.fr⟩⟩)
      · skip
        exact rt0 rfl f0 (hY _ _ ⟨⟨_,rfl⟩,.inr hS⟩)
     have au:=et h13;have hsym:aD1 c=true:=by rw [←(aCI c).2.2.2.2.2.1,←aBd hc];exact (aGu (aAs s i) 6).symm.trans h13
     have hon:one c (s.drop (i+1))=(4,(s.take (i+1)).drop i,0,0):=by rw [aPu hsym,aDl hc (Gl_ _)];simp
     refine seg 32 0 [(4,vI ((i:Int)+1))] (fc (aAe (i:Int) 1 u3_) f0) (drx [6,9,11] (fun Z=>[none,none,none]) _ (fun Z l=>[ek,bk b7 #[(bif l.getD 0 false then vI 4 else vI 0),(bif l.getD 1 false then vS ((s.take (i+1)).drop i) else vS []),vI (i:Int),(bif l.getD 2 false then vI 0 else vI 3)] 205]) (fun Z=>[]) hM (fun Z=>rfl) (fun Z l w5 hM=>(fc (ld0 9 hM (bx hbt 0 rfl) hnt) (fc (aQE 9 s i (i+1) (by omega) (by omega) (y:=(i:Int)) (z:=((i:Int)+1)) (by omega) (by omega)) f0))) ⟨aB8 0 6 3 1 0 (fun Z=>b7) (fun Z l=>#[(bif l.getD 0 false then vI 4 else vI 0),(bif l.getD 1 false then vS ((s.take (i+1)).drop i) else vS []),vI (i:Int),(bif l.getD 2 false then vI 0 else vI 3)]) 205 (fun Z=>vI 4),aB8 1 9 9 1 1 (fun Z=>b7) (fun Z l=>#[(bif l.getD 0 false then vI 4 else vI 0),(bif l.getD 1 false then vS ((s.take (i+1)).drop i) else vS []),vI (i:Int),(bif l.getD 2 false then vI 0 else vI 3)]) 205 (fun Z=>vS ((s.take (i+1)).drop i)),aB8 2 11 32 1 3 (fun Z=>b7) (fun Z l=>#[(bif l.getD 0 false then vI 4 else vI 0),(bif l.getD 1 false then vS ((s.take (i+1)).drop i) else vS []),vI (i:Int),(bif l.getD 2 false then vI 0 else vI 3)]) 205 (fun Z=>vI 0),trivial⟩ fun a3 w1 hM=>?_);replace hM:Mm e0.B w w1 [ek,bk b7 #[vI 4,vS ((s.take (i+1)).drop i),vI (i:Int),vI 0] 205]:=hM;obtain ⟨hx,hLn⟩:=hL.tok hc hon (by decide) (by omega);refine yld 33 2 142 [(140,.func (.yield l) #[] #[]),(141,.agg #[vI 4,vS ((s.take (i+1)).drop i),vI (i:Int),vI 0])] #[205] (by decide) (fc (lam 205 1 0 4 hM rfl) f0) hM (j:=0) rfl (hround _ _ _ _ hJ (hM.get 0 rfl) hM.fr (aF1 hx)) (fun ec w1 hJ hM=>?_) (fun w1 hS=>?_)
     · skip
       refine seg 1 0 [] (fc (ldm 32 1 3 hM rfl rfl) f0) ?_;have hL9:aCR s (k+1) (i+1):=(by simpa using hLn);have hl9:=hL9.1;exact aAb _ (ih4 _ (by omega) (k+1) (i+1) ec _ hL9 hJ (hM.pick [0]) rfl)
     · skip
       exact rt0 rfl f0 (hY _ _ ⟨⟨_,rfl⟩,.inr hS⟩)
    have ar:=et h12;have hquo:(c==34)=true:=by rw [←(aCI c).2.2.2.2.1,←aBd hc];exact (aGu (aAs s i) 7).symm.trans h12
    obtain ⟨hsd,-⟩:=aKT hc hquo;refine aAq 26 3 113 [(112,vS (34::s.drop (i+1)))] (fc (ld0 9 hM (bx hbt 0 rfl) hnt) (fc (rz2 (aXS 9 s i (by omega) (y:=(i:Int)) (by omega)) (congrArg vS hsd)) f0)) hM (aOy (t:=34::s.drop (i+1)) (l:=s.drop (i+1)) rfl (by rw [Gr_];omega) _) fun w1 hM=>seg 27 2 [(9,vS ((aJw (s.drop (i+1))).1)),(10,vI (aJw (s.drop (i+1))).2),(117,vB (decide (0<(aJw (s.drop (i+1))).2)))] f0 ?_;cases h15:(decide (0<(aJw (s.drop (i+1))).2))
    ·have aa:=df h15;obtain ⟨-,hso⟩:=aKT hc hquo;obtain ⟨hun,hon⟩:aJw (s.drop (i+1))=([],0) /\ one c (s.drop (i+1))=(0,[],0,3):=hso.resolve_left (fun ⟨st,m,hx,_⟩=>by rw [hx] at aa;simp only at aa;omega);clear hso;have hu1:(aJw (s.drop (i+1))).1=[]:=by rw [hun]
     have hu2:(aJw (s.drop (i+1))).2=0:=by rw [hun]
     rw [hu1,hu2];obtain ⟨hx,hend⟩:=hL.err hc hon (by decide);refine yld 33 2 142 [(4,vI ((i:Int)+0)),(140,.func (.yield l) #[] #[]),(141,.agg #[vI 0,vS [],vI (i:Int),vI 3])] #[205] (by decide) (fc (aAe (i:Int) 0 u3_) (fc (lam 205 1 0 4 hM rfl) f0)) hM (j:=0) rfl (hround _ _ _ _ hJ (hM.get 0 rfl) hM.fr (aF1 hx)) (fun ec w1 hJ hM=>?_) (fun w1 hS=>?_)
     · skip
       exact rt0 rfl (fc (ldm 32 1 3 hM rfl rfl) f0) (hY _ _ ⟨⟨_,rfl⟩,.inl ⟨_,by unfold aOc;rw [Gs_,←hend];exact hJ,hM.get 0 rfl,hM.fr⟩⟩)
     · skip
       exact rt0 rfl f0 (hY _ _ ⟨⟨_,rfl⟩,.inr hS⟩)
    have aa:=dt h15;obtain ⟨-,hso⟩:=aKT hc hquo;obtain ⟨st,m,hun,hon,hmm⟩:∃ st m,aJw (s.drop (i+1))=(st,((m+1:Nat):Int)) /\ one c (s.drop (i+1))=(3,st,m,0) /\ i+1+m<=s.length:=hso.resolve_right (fun hx=>by rw [hx.1] at aa;simp at aa);clear hso;have hu1:(aJw (s.drop (i+1))).1=st:=by rw [hun]
    have hu2:(aJw (s.drop (i+1))).2=((m+1:Nat):Int):=by rw [hun]
    rw [hu1,hu2];refine stm 28 3 [(118,vS st),(120,vP b7 0)] 3 1 0 (vI 3) f0 hM rfl fun w1 hM=>stm 28 6 [(122,vP b7 1)] 9 1 1 (vS st) f0 hM rfl fun w1 hM=>stm 28 8 [(123,vP b7 3)] 32 1 3 (vI 0) f0 hM rfl fun w1 hM=>?_;obtain ⟨hx,hLn⟩:=hL.tok hc hon (by decide) (by omega);refine yld 33 2 142 [(4,vI ((i:Int)+((m+1:Nat):Int))),(140,.func (.yield l) #[] #[]),(141,.agg #[vI 3,vS st,vI (i:Int),vI 0])] #[205] (by decide) (fc (aAe (i:Int) ((m+1:Nat):Int) u3_) (fc (lam 205 1 0 4 hM rfl) f0)) hM (j:=0) rfl (hround _ _ _ _ hJ (hM.get 0 rfl) hM.fr (aF1 hx)) (fun ec w1 hJ hM=>?_) (fun w1 hS=>?_)
    · skip
      refine seg 1 0 [] (fc (ldm 32 1 3 hM rfl rfl) f0) ?_;have hL9:aCR s (k+1) (i+(m+1)):=(by rwa [show i+1+m=i+(m+1) by omega] at hLn);have hl9:=hL9.1;exact aAb _ (ih4 _ (by omega) (k+1) (i+(m+1)) ec _ hL9 hJ (hM.pick [0]) rfl)
    · skip
      exact rt0 rfl f0 (hY _ _ ⟨⟨_,rfl⟩,.inr hS⟩)
   have aq:=et h11;have hdig:aAv c=true:=by rw [←(aCI c).2.2.2.1,←aBd hc];exact (aGu (aAs s i) 4).symm.trans h11
   refine seg 19 0 [] f0 ?_
   have av:∀ (ag:Nat) (j:Nat) (w2:World),RunTo aAv s i j->Mm e0.B w w2 [ek,bk b7 #[vI 0,vS [],vI (i:Int),vI 3] 205]->ag=s.length-j->aW5 Y (some (19,0)) [(6,vP b7 0),(5,vI (i:Int)),(4,vI (j:Int)),(0,.func (.yield l) #[] #[]),(1,vP bt 0),(2,vP bf 0)] w2:=by
    refine aA8 fun ag aw j w2 hr hM a4=>?_;have hjl:=hr.hi;refine aAq 19 2 78 [(76,.func (.func 152) #[] #[vP bt 0,vP bc 0]),(77,vI (j:Int))] (fc (ld0 228 hM (bx hbf 0 rfl) hnf) f0) hM (aDw (hM.fr.obj hbt hnt) (hM.fr.obj hbc hnc) hT j) fun w1 hM=>seg 19 4 [(79,vB (((aAs s j:Nat):Int)==4))] f0 ?_;cases h19:(((aAs s j:Nat):Int)==4)
    rotate_left
    ·have ax:=et h19;have hj4:(aAs s j==4)=true:=(aGu (aAs s j) 4).symm.trans h19;refine seg 19 0 [(4,vI ((j:Int)+1))] (fc (aAe (j:Int) 1 u3_) f0) ?_;have hwj:aGj s j=true:=by unfold aGj;first | (rw [hj4];done) | (rw [hj4];rfl)
     have hltj:j<s.length:=Nat.lt_of_not_le fun h9=>by rw [aMN h9] at hwj;cases hwj
     obtain ⟨e,he⟩:=geb (l:=s) (i:=j) hltj;have hen:aAv e=true:=by rw [←aJj he];exact hwj
     exact aAb _ (aw _ (by omega) (j+1) _ (hr.step he hen) hM rfl)
    have ax:=ef h19;have hj4:(aAs s j==4)=false:=(aGu (aAs s j) 4).symm.trans h19;have hds:aGj s j=false:=by unfold aGj;exact hj4
    obtain ⟨hon,hij⟩:=aLE hc hdig hr hds;refine seg 21 0 [] f0 (drx [6,9,11] (fun Z=>[none,none,none]) _ (fun Z l=>[ek,bk b7 #[(bif l.getD 0 false then vI 2 else vI 0),(bif l.getD 1 false then vS ((s.take j).drop i) else vS []),vI (i:Int),(bif l.getD 2 false then vI 0 else vI 3)] 205]) (fun Z=>[]) hM (fun Z=>rfl) (fun Z l w5 hM=>(fc (ld0 9 hM (bx hbt 0 rfl) hnt) (fc (aQE 9 s i j (by omega) (by omega) (y:=(i:Int)) (z:=(j:Int)) (by omega) (by omega)) f0))) ⟨aB8 0 6 3 1 0 (fun Z=>b7) (fun Z l=>#[(bif l.getD 0 false then vI 2 else vI 0),(bif l.getD 1 false then vS ((s.take j).drop i) else vS []),vI (i:Int),(bif l.getD 2 false then vI 0 else vI 3)]) 205 (fun Z=>vI 2),aB8 1 9 9 1 1 (fun Z=>b7) (fun Z l=>#[(bif l.getD 0 false then vI 2 else vI 0),(bif l.getD 1 false then vS ((s.take j).drop i) else vS []),vI (i:Int),(bif l.getD 2 false then vI 0 else vI 3)]) 205 (fun Z=>vS ((s.take j).drop i)),aB8 2 11 32 1 3 (fun Z=>b7) (fun Z l=>#[(bif l.getD 0 false then vI 2 else vI 0),(bif l.getD 1 false then vS ((s.take j).drop i) else vS []),vI (i:Int),(bif l.getD 2 false then vI 0 else vI 3)]) 205 (fun Z=>vI 0),trivial⟩ fun a5 w1 hM=>?_);replace hM:Mm e0.B w w1 [ek,bk b7 #[vI 2,vS ((s.take j).drop i),vI (i:Int),vI 0] 205]:=hM;refine aAq 22 2 93 [(91,.func (.func 152) #[] #[vP bt 0,vP bc 0]),(92,vI (j:Int))] (fc (ld0 228 hM (bx hbf 0 rfl) hnf) f0) hM (aDw (hM.fr.obj hbt hnt) (hM.fr.obj hbc hnc) hT j) fun w1 hM=>seg 23 5 [(8,.int .u8 ((aAs s j:Nat):Int)),(98,vB (decide (7<((j:Int)-(i:Int)))))] (fc (aBx (j:Int) (i:Int) u3_) f0) ?_;cases h21:(decide (7<((j:Int)-(i:Int))))
    rotate_left
    ·have ab:=dt h21;refine stm 24 1 [(106,vP b7 3)] 32 1 3 (vI 4) f0 hM rfl fun w1 hM=>?_;rw [decide_eq_true ab,Bool.true_or,if_pos rfl] at hon;obtain ⟨hx,hend⟩:=hL.err hc hon (by decide);refine yld 33 2 142 [(140,.func (.yield l) #[] #[]),(141,.agg #[vI 2,vS ((s.take j).drop i),vI (i:Int),vI 4])] #[205] (by decide) (fc (lam 205 1 0 4 hM rfl) f0) hM (j:=0) rfl (hround _ _ _ _ hJ (hM.get 0 rfl) hM.fr (aF1 hx)) (fun ec w1 hJ hM=>?_) (fun w1 hS=>?_)
     · skip
       exact rt0 rfl (fc (ldm 32 1 3 hM rfl rfl) f0) (hY _ _ ⟨⟨_,rfl⟩,.inl ⟨_,by unfold aOc;rw [Gs_,←hend];exact hJ,hM.get 0 rfl,hM.fr⟩⟩)
     · skip
       exact rt0 rfl f0 (hY _ _ ⟨⟨_,rfl⟩,.inr hS⟩)
    have ab:=df h21;refine seg 23 9 [(102,vB (((aAs s j:Nat):Int)==3))] f0 ?_;cases h22:(((aAs s j:Nat):Int)==3)
    rotate_left
    ·have ay:=et h22;have hj3:(aAs s j==3)=true:=(aGu (aAs s j) 3).symm.trans h22;refine stm 24 1 [(106,vP b7 3)] 32 1 3 (vI 4) f0 hM rfl fun w1 hM=>?_;have hwq:aCM s j=true:=by rw [aOi hds,hj3];simp
     rw [hwq,decide_eq_false ab] at hon;simp only [Bool.or_true,Bool.or_false,Bool.false_eq_true,if_true,if_false] at hon;obtain ⟨hx,hend⟩:=hL.err hc hon (by decide);refine yld 33 2 142 [(140,.func (.yield l) #[] #[]),(141,.agg #[vI 2,vS ((s.take j).drop i),vI (i:Int),vI 4])] #[205] (by decide) (fc (lam 205 1 0 4 hM rfl) f0) hM (j:=0) rfl (hround _ _ _ _ hJ (hM.get 0 rfl) hM.fr (aF1 hx)) (fun ec w1 hJ hM=>?_) (fun w1 hS=>?_)
     · skip
       exact rt0 rfl (fc (ldm 32 1 3 hM rfl rfl) f0) (hY _ _ ⟨⟨_,rfl⟩,.inl ⟨_,by unfold aOc;rw [Gs_,←hend];exact hJ,hM.get 0 rfl,hM.fr⟩⟩)
     · skip
       exact rt0 rfl f0 (hY _ _ ⟨⟨_,rfl⟩,.inr hS⟩)
    have ay:=ef h22;have hj3:(aAs s j==3)=false:=(aGu (aAs s j) 3).symm.trans h22;refine seg 23 12 [(105,vB (((aAs s j:Nat):Int)==5))] f0 ?_;cases h23:(((aAs s j:Nat):Int)==5)
    ·have az:=ef h23;have hj5:(aAs s j==5)=false:=(aGu (aAs s j) 5).symm.trans h23;have hwq:aCM s j=false:=by rw [aOi hds,hj3,hj5];rfl
     rw [hwq,decide_eq_false ab] at hon;simp only [Bool.or_true,Bool.or_false,Bool.false_eq_true,if_true,if_false] at hon;obtain ⟨hx,hLn⟩:=hL.tok hc hon (by decide) (by omega);refine yld 33 2 142 [(140,.func (.yield l) #[] #[]),(141,.agg #[vI 2,vS ((s.take j).drop i),vI (i:Int),vI 0])] #[205] (by decide) (fc (lam 205 1 0 4 hM rfl) f0) hM (j:=0) rfl (hround _ _ _ _ hJ (hM.get 0 rfl) hM.fr (aF1 hx)) (fun ec w1 hJ hM=>?_) (fun w1 hS=>?_)
     · skip
       refine seg 1 0 [] (fc (ldm 32 1 3 hM rfl rfl) f0) ?_;have hL9:aCR s (k+1) j:=(by rwa [show i+1+(j-(i+1))=j by omega] at hLn);have hl9:=hL9.1;exact aAb _ (ih4 _ (by omega) (k+1) j ec _ hL9 hJ (hM.pick [0]) rfl)
     · skip
       exact rt0 rfl f0 (hY _ _ ⟨⟨_,rfl⟩,.inr hS⟩)
    have az:=et h23;have hj5:(aAs s j==5)=true:=(aGu (aAs s j) 5).symm.trans h23;refine stm 24 1 [(106,vP b7 3)] 32 1 3 (vI 4) f0 hM rfl fun w1 hM=>?_;have hwq:aCM s j=true:=by rw [aOi hds,hj3,hj5];rfl
    rw [hwq,decide_eq_false ab] at hon;simp only [Bool.or_true,Bool.or_false,Bool.false_eq_true,if_true,if_false] at hon;obtain ⟨hx,hend⟩:=hL.err hc hon (by decide);refine yld 33 2 142 [(140,.func (.yield l) #[] #[]),(141,.agg #[vI 2,vS ((s.take j).drop i),vI (i:Int),vI 4])] #[205] (by decide) (fc (lam 205 1 0 4 hM rfl) f0) hM (j:=0) rfl (hround _ _ _ _ hJ (hM.get 0 rfl) hM.fr (aF1 hx)) (fun ec w1 hJ hM=>?_) (fun w1 hS=>?_)
    · skip
      exact rt0 rfl (fc (ldm 32 1 3 hM rfl rfl) f0) (hY _ _ ⟨⟨_,rfl⟩,.inl ⟨_,by unfold aOc;rw [Gs_,←hend];exact hJ,hM.get 0 rfl,hM.fr⟩⟩)
    · skip
      exact rt0 rfl f0 (hY _ _ ⟨⟨_,rfl⟩,.inr hS⟩)
   exact aAb _ (av _ i _ (RunTo.start hL.1) hM rfl)
  exact aAb _ (lp3 _ 0 0 e0 _ (aCR.zero s) hJ0 hM rfl)
theorem aGy {s:Bys}:(aBE s 0).length<=s.length:=aM7 _ s 0 (Gl_ _)
def aKB (s:Bys):List (Tok Int):=(aBE s 0).map (·.1)
theorem aTg {l:List (Tok Int×Int)}(h:∀ x∈l,x.2=0):aFN l=none:=(aFM _).2 h
theorem aTh:∀ {l:List (Tok Int×Int)}{k:Nat}{x:Tok Int×Int},l[k]?=some x->(∀ y∈l.take k,y.2=0)->x.2≠0->aFN l=some (x.2,x.1.2.2):=by
  intro l
  induction l with
  | nil=>intro k x h;simp at h
  | cons y l ih =>
    intro k x h h0 hx
    cases k with
    | zero=>simp at h;subst h;unfold aFN;rw [if_pos (by simpa using hx)]
    | succ k =>
      have hy:=h0 y (by simp);unfold aFN;rw [if_neg (by simp [hy])];exact ih (by simpa using h) (fun z hz=>h0 z (by simp [hz])) hx
def tkL (t:Tok Int):List Value:=[vI t.1,vS t.2.1,vI t.2.2]
theorem tkT:ElT Tryz.prog tkL 3 130 186:=⟨fun _=>rfl,by decide,fun x u hu=>by
  unfold tkL at hu;simp only [Gj_,List.not_mem_nil,or_false] at hu;rcases hu with rfl | rfl | rfl<;>rfl,Tryz.underlying130,aBO (by kernel_rfl)⟩
structure TokH (bt bf bc:Nat) (s:Bys) (w w':World):Prop where
  t:w'.heap[bt]?=some (.cells #[vS s] 9 (0,0))
  f:w'.heap[bf]?=some (.cells #[.func (.func 152) #[] #[vP bt 0,vP bc 0]] 228 (0,0))
  c:∃ cs,w'.heap[bc]?=some (.cells cs 153 (0,0)) /\ T8 cs aJ0
  nt:w.heap.size<=bt
  nf:w.heap.size<=bf
  nc:w.heap.size<=bc
theorem aJA (s:Bys) (w:World):Calls Tryz.prog 120 #[vS s] w fun e w'=>∃ bt bf bc,e = .returned (.func (.func 153) #[] #[vP bt 0,vP bf 0]) /\ TokH bt bf bc s w w' /\ Fr nF_ w w':=by
  refine beg Tryz.func120 rfl rfl [(0,vS s)] rfl rfl fun Z hZ=>?_;have hM:=Mm.nil nF_ w;refine aAp 0 0 1 [] (cs:=#[vS s]) (T:=9) (v:=fun b=>vP b 0) f0 hM fun b1 w1 hM=>aNQ 1 0 5 [] (K:=fun v w8=>∃ cs,v = .agg cs /\ T8 cs aJ0) f0 hM ((aFr _).mono fun e w8 ⟨cs,h1,h2,h3⟩=>⟨⟨_,h1,cs,rfl,h2⟩,h3⟩) fun _ w1 ⟨cs,hv9,hT⟩ hM f1=>?_;subst hv9;refine aAp 1 1 3 [] (cs:=zT Tryz.prog 153) (T:=153) (v:=fun b=>vP b 0) f0 hM fun b2 w1 hM=>aWI 1 2 [] 153 1 f0 hM rfl aQJ.1 hT.1 (T8.one hT) fun w1 hM=>aCl 2 1 4 [(6,.func (.func 152) #[] #[vP b1 0,vP b2 0])] [] 228 (.func (.func 152) #[] #[vP b1 0,vP b2 0]) f0 hM fun b3 w1 hM=>rt1 2 (.func (.func 153) #[] #[vP b1 0,vP b3 0]) rfl f0 (hZ _ _ ⟨_,_,_,rfl,⟨hM.get 0 rfl,hM.get 2 rfl,⟨_,hM.get 1 rfl,hT⟩,hM.ge (.head _) rfl,hM.ge (.tail _ (.tail _ (.head _))) rfl,hM.ge (.tail _ (.head _)) rfl⟩,hM.fr⟩)
def aQG (s:Bys) (w w':World) (e:Ending):Prop:=match aM6 s with
  | .error (c,x)=>∃ v,e = .returned (.tuple #[vL none 0 0,vI c,v]) /\ v=vI x
  | .ok ts=>∃ v,e = .returned (.tuple #[v,vI 0,vI 0]) /\ aH6 tkL 3 186 w w' v ts
theorem aKf {s:Bys}(hl:s.length<=4999) (w:World):Calls Tryz.prog 93 #[vS s] w fun e w'=>aQG s w w' e /\ Fr nF_ w w':=by
  refine aXm Tryz.func93 rfl rfl [(0,vS s)] rfl rfl fun Y hY=>?_;have hM:=Mm.nil nF_ w;refine aAp 0 0 2 [] (cs:=#[vL none 0 0]) (T:=130) (v:=fun b=>vP b 0) f0 hM fun b4 w1 hM=>aAp 0 1 3 [] (cs:=#[vI 0]) (T:=32) (v:=fun b=>vP b 0) f0 hM fun b5 w1 hM=>aAp 0 2 4 [] (cs:=#[vI 0]) (T:=3) (v:=fun b=>vP b 0) f0 hM fun b6 w1 hM=>seg 1 3 [(9,vB (decide (20000<(s.length:Int))))] (fc (aCA 9 s) f0) ?_;cases h7:(decide (20000<(s.length:Int)))
  rotate_left
  ·have rh7:=dt h7;exfalso;omega
  have rh7:=df h7;refine aAp 3 0 5 [] (cs:=#[vL none 0 0]) (T:=130) (v:=fun b=>vP b 0) f0 hM fun b8 w1 hM=>?_
  skip
  refine cal 4 1 11 [(10,vS s)] (K:=fun u w8=>∃ bt bf bc,u = .func (.func 153) #[] #[vP bt 0,vP bf 0] /\ TokH bt bf bc s _ w8 /\ Fr nF_ _ w8) f0 ((aJA s _).mono fun e w9 ⟨bt,bf,bc,h1,h2⟩=>⟨_,h1,bt,bf,bc,rfl,h2⟩) fun u w1 ⟨bt,bf,bc,hu,hT,f1⟩=>?_;subst hu;have nap:∀ k,(World.heap _).size<=k->¬ BlM _ k:=fun k hk ⟨e,he,hb⟩=>Nat.lt_irrefl _ (Nat.lt_of_lt_of_le (e.lt (hM.at_ e he) hb) hk);have hnt:=nap _ hT.nt;have hnf:=nap _ hT.nf;have hnc:=nap _ hT.nc;have hM:=hM.q f1;have hM:=hM.row (f:=tkL) (c:=3) (E:=186);have hnt9:¬ BlM [bk b4 #[vL none 0 0] 130,bk b5 #[vI 0] 32,bk b6 #[vI 0] 3,bk b8 #[vL none 0 0] 130,rw_ tkL 3 186 (vL none 0 0) []] bt:=fun h=>hnt (by obtain ⟨e,he,hb⟩:=h;simp only [Gj_,List.not_mem_nil,or_false] at he;rcases he with rfl | rfl | rfl | rfl | rfl;exact ⟨_,.head _,hb⟩;exact ⟨_,.tail _ (.head _),hb⟩;exact ⟨_,.tail _ (.tail _ (.head _)),hb⟩;exact ⟨_,.tail _ (.tail _ (.tail _ (.head _))),hb⟩;cases hb);have hnf9:¬ BlM [bk b4 #[vL none 0 0] 130,bk b5 #[vI 0] 32,bk b6 #[vI 0] 3,bk b8 #[vL none 0 0] 130,rw_ tkL 3 186 (vL none 0 0) []] bf:=fun h=>hnf (by obtain ⟨e,he,hb⟩:=h;simp only [Gj_,List.not_mem_nil,or_false] at he;rcases he with rfl | rfl | rfl | rfl | rfl;exact ⟨_,.head _,hb⟩;exact ⟨_,.tail _ (.head _),hb⟩;exact ⟨_,.tail _ (.tail _ (.head _)),hb⟩;exact ⟨_,.tail _ (.tail _ (.tail _ (.head _))),hb⟩;cases hb);have hnc9:¬ BlM [bk b4 #[vL none 0 0] 130,bk b5 #[vI 0] 32,bk b6 #[vI 0] 3,bk b8 #[vL none 0 0] 130,rw_ tkL 3 186 (vL none 0 0) []] bc:=fun h=>hnc (by obtain ⟨e,he,hb⟩:=h;simp only [Gj_,List.not_mem_nil,or_false] at he;rcases he with rfl | rfl | rfl | rfl | rfl;exact ⟨_,.head _,hb⟩;exact ⟨_,.tail _ (.head _),hb⟩;exact ⟨_,.tail _ (.tail _ (.head _)),hb⟩;exact ⟨_,.tail _ (.tail _ (.tail _ (.head _))),hb⟩;cases hb);refine seg 1005 0 [] f0 (aXv 5 (g := .tmp 11) (ps:=#[12]) (vs:=aOc s) (fun k Mk=>∃ q c,Mk=[bk b4 #[vL none 0 0] 130,bk b5 #[vI 0] 32,bk b6 #[vI 0] 3,bk b8 #[vL q (((aBE s 0).take k).map (·.1)).length c] 130,rw_ tkL 3 186 (vL q (((aBE s 0).take k).map (·.1)).length c) (((aBE s 0).take k).map (·.1))] /\ ∀ x∈(aBE s 0).take k,x.2=0) (fun Mk=>∃ c x,Mk=[bk b4 #[vL none 0 0] 130,bk b5 #[vI c] 32,bk b6 #[vI x] 3] /\ aFN (aBE s 0)=some (c,x)) hM ⟨none,0,rfl,fun x h=>by cases h⟩ (enters_of Tryz.func153 (by kernel_rfl) rfl) (aIw (by omega)) (fun G W hG f=>⟨f.obj hT.t id,f.obj hT.f id,hT.c.imp fun cs h=>⟨f.obj h.1 id,h.2⟩,fun h=>(hG _ h).elim hnt9 (fun h=>Nat.lt_irrefl _ (Nat.lt_of_lt_of_le (aAl hT.t) h)),fun h=>(hG _ h).elim hnf9 (fun h=>Nat.lt_irrefl _ (Nat.lt_of_lt_of_le (aAl hT.f) h)),fun h=>(hG _ h).elim hnc9 (fun h=>Nat.lt_irrefl _ (Nat.lt_of_lt_of_le (aAl hT.c.choose_spec.1) h))⟩) (vsz (ps:=#[12]) rfl) ?_ ?_ ?_)
  · skip
    intro k v Mk W l hv hI hfW hM;obtain ⟨q,c,rfl,hz⟩:=hI;obtain ⟨y,hy,rfl⟩:=aT1 hv;refine aCl 5 0 6 [] [] 205 (.agg #[vI y.1.1,vS y.1.2.1,vI y.1.2.2,vI y.2]) f0 hM fun aa w1 hM=>aUq [(6,vP aa 0),(5,vP b8 0),(4,vP b6 0),(3,vP b5 0),(2,vP b4 0)] f0 fun a E=>⟨_,_,E,hM,fun W2 l2 R2 hf2 hM hE=>?_⟩;refine seg 6 4 [(13,vB (!(y.2==0)))] (fc (ldm 32 5 3 hM rfl rfl) f0) ?_;cases h11:(y.2==0)
    ·have ab:=ef h11;refine seg 7 0 [] f0 (drx [5,6,7] (fun Z=>[none,none,none]) _ (fun Z l=>[bk b4 #[(bif l.getD 0 false then vL none 0 0 else vL none 0 0)] 130,bk b5 #[(bif l.getD 1 false then vI y.2 else vI 0)] 32,bk b6 #[(bif l.getD 2 false then vI y.1.2.2 else vI 0)] 3,bk b8 #[vL q (((aBE s 0).take k).map (·.1)).length c] 130,rw_ tkL 3 186 (vL q (((aBE s 0).take k).map (·.1)).length c) (((aBE s 0).take k).map (·.1)),bk aa #[vI y.1.1,vS y.1.2.1,vI y.1.2.2,vI y.2] 205]) (fun Z=>[]) hM (fun Z=>rfl) (fun Z l w5 hM=>(fc (ldm 32 5 3 hM rfl rfl) (fc (ldm 3 5 2 hM rfl rfl) f0))) ⟨aB8 0 5 130 0 0 (fun Z=>b4) (fun Z l=>#[(bif l.getD 0 false then vL none 0 0 else vL none 0 0)]) 130 (fun Z=>vL none 0 0),aB8 1 6 32 1 0 (fun Z=>b5) (fun Z l=>#[(bif l.getD 1 false then vI y.2 else vI 0)]) 32 (fun Z=>vI y.2),aB8 2 7 3 2 0 (fun Z=>b6) (fun Z l=>#[(bif l.getD 2 false then vI y.1.2.2 else vI 0)]) 3 (fun Z=>vI y.1.2.2),trivial⟩ fun af w1 hM=>?_);replace hM:Mm (BlM [bk b4 #[vL none 0 0] 130,bk b5 #[vI 0] 32,bk b6 #[vI 0] 3,bk b8 #[vL q (((aBE s 0).take k).map (·.1)).length c] 130,rw_ tkL 3 186 (vL q (((aBE s 0).take k).map (·.1)).length c) (((aBE s 0).take k).map (·.1)),bk aa #[vI y.1.1,vS y.1.2.1,vI y.1.2.2,vI y.2] 205]) W2 w1 [bk b4 #[vL none 0 0] 130,bk b5 #[vI y.2] 32,bk b6 #[vI y.1.2.2] 3,bk b8 #[vL q (((aBE s 0).take k).map (·.1)).length c] 130,_,bk aa #[vI y.1.1,vS y.1.2.1,vI y.1.2.2,vI y.2] 205]:=hM;exact aXX [] f0 fun a E=>hE.ret a _ _ ⟨y.2,y.1.2.2,rfl,aTh hy hz ab⟩ (hM.pick [0,1,2])
    have ab:=et h11;refine seg 8 4 [(22,vB (((((aBE s 0).take k).map (·.1)).length:Int)==5000))] (fc (ldm 130 3 0 hM rfl rfl) f0) ?_;cases h13:(((((aBE s 0).take k).map (·.1)).length:Int)==5000)
    ·have ac:=ef h13;refine aAp 10 3 32 [(29,vL q (((aBE s 0).take k).map (·.1)).length c),(31,.agg #[vI y.1.1,vS y.1.2.1,vI y.1.2.2])] (cs:=#[vI y.1.1,vS y.1.2.1,vI y.1.2.2]) (T:=186) (v:=fun b=>vL (some ⟨b,0,none⟩) 1 1) (fc (ldm 130 3 0 hM rfl rfl) (fc (lam 186 5 0 3 hM rfl) f0)) hM fun ag w1 hM=>aH5 10 4 33 [] (cap:=1) (by decide) tkT f0 hM (j:=4) rfl (aAG (f:=tkL) (x:=y.1) (hM.get 6 rfl) (Gq_ _)) (fun h=>by cases h) (by simp only [Gs_,Gt_,Gf_,Go_];have:=aGy (s:=s);omega) fun v15 w1 hM=>?_;obtain ⟨ad,ae,e15,-⟩:=(hM.src (j:=4) rfl tkT.len).op;subst e15;refine stm 10 5 [] 130 3 0 (vL ad ((((aBE s 0).take k).map (·.1))++[y.1]).length ae) f0 hM rfl fun w1 hM=>?_;have hAk:((aBE s 0).take k).map (·.1)++[y.1]=((aBE s 0).take (k+1)).map (·.1):=by rw [gt_ hy,List.map_append];rfl
     rw [hAk] at hM;exact aUq [] f0 fun a E=>hE.nrm a _ _ ⟨_,_,rfl,fun x hx=>by rw [gt_ hy] at hx;rcases List.mem_append.1 hx with h | h;exact hz x h;rw [Gd_] at h;subst h;exact ab⟩ (hM.pick [0,1,2,3,4])
    have ac:=et h13;exfalso;have:=gl hy;have:=aGy (s:=s);rw [Gs_,Gt_] at ac;omega
  · skip
    intro Mk w1 hI hM;obtain ⟨k,hk⟩:∃ k,k=(aOc s).length:=⟨_,rfl⟩;rw [←hk] at hI;obtain ⟨q,c,rfl,hz⟩:=hI;refine stm 11 1 [(34,vL q (((aBE s 0).take k).map (·.1)).length c)] 130 0 0 (vL q (((aBE s 0).take k).map (·.1)).length c) (fc (ldm 130 3 0 hM rfl rfl) f0) hM rfl fun w1 hM=>stm 11 2 [] 32 1 0 (vI 0) f0 hM rfl fun w1 hM=>stm 11 3 [] 3 2 0 (vI 0) f0 hM rfl fun w1 hM=>?_;have hM:Mm nF_ w _ ([bk b4 #[vL q (((aBE s 0).take k).map (·.1)).length c] 130,bk b5 #[vI 0] 32,bk b6 #[vI 0] 3,bk b8 #[vL q (((aBE s 0).take k).map (·.1)).length c] 130,rw_ tkL 3 186 (vL q (((aBE s 0).take k).map (·.1)).length c) (((aBE s 0).take k).map (·.1))]++[dfE _]):=hM;exact aWP 0 1 2 rfl f0 hM rfl rfl rfl (fun w9 hM=>hY _ _ ⟨by unfold aQG aM6;rw [aTg (fun x hx=>hz x (by rw [Gc_ (by rw [hk];unfold aOc;rw [Gs_];exact Gl_ _)];exact hx))];exact ⟨_,rfl,by have:=hM.nrow (j:=4) rfl;have e9:(aBE s 0).take k=aBE s 0:=Gc_ (by rw [hk];unfold aOc;rw [Gs_];exact Gl_ _);rw [e9] at this ⊢;exact this⟩,hM.fr⟩)
  · skip
    intro a Mk w1 hT hM E;obtain ⟨c,x,rfl,hex⟩:=hT;exact (aPM (u:=true) E.df hM fun w9 hM=>⟨_,aR3 rfl (E.at_ 2 (vP b4 0) rfl) (E.at_ 3 (vP b5 0) rfl) (E.at_ 4 (vP b6 0) rfl) 0 1 2 rfl rfl rfl (by kernel_rfl) hM,hY _ _ ⟨by unfold aQG aM6;rw [hex];exact ⟨_,rfl,rfl⟩,hM.fr⟩⟩).1
theorem aK2 (w:World) (e:TypeId) (s:ByteArray):Fr nF_ w (Lib.bytesWorld w e s):=by
  refine ⟨rfl,rfl,rfl,?_,fun r hr _=>?_⟩
  · simp [Lib.bytesWorld,World.freeze]
  · have hne:w.heap.size≠r:=by omega
    show ((w.drew.alloc _).heap.modify w.heap.size _)[r]?=_;rw [Array.getElem?_modify,if_neg hne];exact (aHx (by simpa using hr) _)
theorem aVW:∀ (xs:List Bys) (y:Bys) (i:Nat),Lib.idxFromS (xs.map ofL) (ofL y) i=if xs.contains y then ((i+xs.findIdx (· == y):Nat):Int) else -1:=by
  intro xs y
  induction xs with
  | nil=>intro i;rfl
  | cons x xs ih =>
    intro i;simp only [List.map_cons,Lib.idxFromS,aPy,List.contains_cons,List.findIdx_cons]
    by_cases h:x=y
    · subst h;simp
    · rw [if_neg h,ih]
      have e:(y==x)=false:=by simpa using fun e=>h e.symm
      have e2:(x==y)=false:=by simpa using h
      rw [e,e2];simp only [Bool.false_or,cond_false]
      split
      · omega
      · rfl
theorem aPT (xs:List Bys) (y:Bys):Lib.idxOfS (xs.map ofL) (ofL y)=if xs.contains y then ((xs.findIdx (· == y):Nat):Int) else -1:=by
  have:=aVW xs y 0
  rwa [Nat.zero_add] at this
theorem aKx (xs:List Bys) (y:Bys):Lib.containsS (xs.map ofL) (ofL y)=xs.contains y:=by
  unfold Lib.containsS;rw [aPT];cases h:xs.contains y
  · simp
  · rw [if_pos rfl,decide_eq_true (by omega)]
theorem aJG {w:World}{G:Nat}{p:Option Addr}{g off:Nat}{xs:List Bys}(h:aDm stL 1 w G p xs) (hp:p=some ⟨g,off,none⟩):∀ j,j<(xs.map ofL).length->w.cell? ⟨g,off+j,none⟩=some (.string ((xs.map ofL).getD j ByteArray.empty)):=by
  intro j hj;rw [Gs_] at hj;obtain ⟨g',off',he,_,hs⟩:=h.at hj;rw [hp] at he;cases he;have:=hs j xs[j] (Gb_ hj) 0 _ rfl;rw [Nat.mul_one,Nat.add_zero] at this;rw [this];simp [List.getD,Gb_ hj]
def Tb (w:World):Prop:=Lib.TabIs Tryz.prog w "internal/strconv.uint64pow10" .u64 Lib.pow10Tab /\ Lib.TabIs Tryz.prog w "strings.asciiSpace" .u8 Lib.asciiSpaceTab
theorem aWi:∀ (l:Bys) (acc:Nat),(∀ b∈l,aAv b=true)->∃ n:Nat,Lib.decFrom acc l=some n /\ (n:Int)=l.foldl (fun n b=>10*n+((b.toNat:Int)-48)) (acc:Int):=by
  intro l
  induction l with
  | nil=>intro acc _;exact ⟨acc,rfl,rfl⟩
  | cons c l ih =>
    intro acc h;have hc:=h c List.mem_cons_self
    have h1:48<=c.toNat /\ c.toNat<=57:=by
      unfold aAv at hc;rw [Ga_] at hc;exact ⟨UInt8.le_iff_toNat_le.1 (of_decide_eq_true hc.1),UInt8.le_iff_toNat_le.1 (of_decide_eq_true hc.2)⟩
    obtain ⟨n,h2,h3⟩:=ih (acc*10+(c.toNat-48)) fun b hb=>h b (List.mem_cons_of_mem _ hb);refine ⟨n,?_,?_⟩
    · simp only [Lib.decFrom,Lib.digitVal,h1,and_self,if_true];exact h2
    · rw [h3,List.foldl_cons]
      congr 1;omega
theorem aSz {l:Bys}(h0:l≠[]) (h:∀ b∈l,aAv b=true):Lib.atoi l=some (aAF l):=by
  obtain ⟨c,r,rfl⟩:=List.exists_cons_of_ne_nil h0;have hc:=h c List.mem_cons_self
  have h1:48<=c.toNat /\ c.toNat<=57:=by
    unfold aAv at hc;rw [Ga_] at hc;exact ⟨UInt8.le_iff_toNat_le.1 (of_decide_eq_true hc.1),UInt8.le_iff_toNat_le.1 (of_decide_eq_true hc.2)⟩
  have e1:(c==45)=false:=by
    rw [Gw_];rintro rfl;simp at h1
  have e2:(c==43)=false:=by
    rw [Gw_];rintro rfl;simp at h1
  obtain ⟨n,h2,h3⟩:=aWi (c::r) 0 h;unfold Lib.atoi;simp only [e1,e2,Bool.false_eq_true,if_false];unfold Lib.decNat;simp only [List.isEmpty_cons,Bool.false_eq_true,if_false,h2,Option.map_some,Gm_];rw [h3];rfl
theorem aVG {l:Bys}(h:∀ b∈l,aAv b=true) (hl:l.length<=7):aAF l<=9999999:=by
  have:∀ (l:Bys) (n:Int),0<=n->(∀ b∈l,aAv b=true)->l.foldl (fun n b=>10*n+((b.toNat:Int)-48)) n<=(n+1)*10 ^ l.length-1:=by
    intro l
    induction l with
    | nil=>intro n _ _;simp
    | cons c l ih =>
      intro n hn hd;have hc:=hd c List.mem_cons_self
      have h1:48<=c.toNat /\ c.toNat<=57:=by
        unfold aAv at hc;rw [Ga_] at hc;exact ⟨UInt8.le_iff_toNat_le.1 (of_decide_eq_true hc.1),UInt8.le_iff_toNat_le.1 (of_decide_eq_true hc.2)⟩
      have:=ih (10*n+((c.toNat:Int)-48)) (by omega) fun b hb=>hd b (List.mem_cons_of_mem _ hb);rw [List.foldl_cons];refine Int.le_trans this ?_;rw [Gf_,Int.pow_succ];have hp:(0:Int)<10 ^ l.length:=Int.pow_pos (by omega);have:(10*n+((c.toNat:Int)-48)+1)*10 ^ l.length<=((n+1)*10)*10 ^ l.length:=Int.mul_le_mul_of_nonneg_right (by omega) (Int.le_of_lt hp);have e:(n+1)*(10 ^ l.length*10)=((n+1)*10)*10 ^ l.length:=by rw [Int.mul_comm (10 ^ l.length),Int.mul_assoc]
      omega
  have h1:=this l 0 (Int.le_refl _) h
  have h2:(10:Int) ^ l.length<=10 ^ 7:=by
    have:(10:Nat) ^ l.length<=10 ^ 7:=Nat.pow_le_pow_right (by omega) hl
    exact_mod_cast this
  simp only [Int.zero_add,Int.one_mul] at h1;have e:(10:Int) ^ 7=10000000:=by decide
  unfold aAF;omega
def aNb (w:World) (b:Nat):Prop:=w.heap[b]?=some (.cells (aD2.map fun l=>Value.string (ofL l)).toArray 9 (0,0))
theorem aNb.st {w:World}{b:Nat}(h:aNb w b):StV w (.slice (some ⟨b,0,none⟩) 7 7) aD2:=⟨_,7,rfl,Gl_ _,by omega,.inr ⟨b,0,rfl,aAl h,fun i z hz j u hu=>by
  rw [aA1 h]
  have hj:j=0:=by
    have:=(List.getElem?_eq_some_iff.1 hu).1;simp [stL] at this;exact this
  subst hj;simp only [stL,List.getElem?_cons_zero,Gm_] at hu;subst hu;simp [hz]⟩,fun h=>by cases h⟩
theorem aEG {α:Type}(l:List α):l.isEmpty=((l.length:Int)==0):=by
  cases l with
  | nil=>rfl
  | cons x l =>
    have h:¬ (((x::l).length:Int)=0):=by simp only [Gf_];omega
    rw [beq_eq_false_iff_ne.2 h];rfl
theorem aP3 {t:Tok Int}(h:aKO t) (hk:t.1=2):t.2.1≠[] /\ (∀ b∈t.2.1,aAv b=true) /\ t.2.1.length<=7 /\ 0<=aAF t.2.1 /\ aAF t.2.1<=9999999:=by
  rcases h with ⟨h,_⟩ | ⟨h,h0,h1,h2⟩ | h | ⟨h,_⟩
  · omega
  · exact ⟨h0,h2,h1,aP5 _ 0 (Int.le_refl _) h2,aVG h2 h1⟩
  · omega
  · omega
theorem aHa (l:Bys):(l.length != 2)=((l.length:Int) != 2):=by
  by_cases h:l.length=2
  · rw [h];rfl
  · rw [bne_iff_ne.2 h,bne_iff_ne.2 (by omega)]
theorem aHH {w:World}{v:Value}{xs:List Bys}{y:Bys}(h:StV w v xs):Calls Tryz.prog 155 #[v,vS y] w fun e w'=>e = .returned (vB (xs.contains y)) /\ Fr nF_ w w':=by
  obtain ⟨p,c,rfl,h1,h2,h3,h4⟩:=h
  by_cases hx:xs=[]
  · subst hx
    exact (Tryz.slices_Contains_string_empty p c (ofL y) w).mono fun e w' h=>⟨h.1,by rw [h.2];exact Fr.refl _ _⟩
  · obtain ⟨g,off,rfl,_,_⟩:=h3.resolve_left hx
    refine (Tryz.slices_Contains_string g off xs.length c (xs.map ofL) (ofL y) w (by simp) (by omega) (aJG h3 rfl)).mono fun e w' h=>⟨?_,by rw [h.2];exact Fr.refl _ _⟩;rw [h.1,Gc_ (by simp),aKx]
theorem aHi {w:World}{v:Value}{xs:List Bys}{y:Bys}(h:StV w v xs) (hy:y∈xs):Calls Tryz.prog 157 #[v,vS y] w fun e w'=>e = .returned (vI ((xs.findIdx (· == y):Nat):Int)) /\ Fr nF_ w w':=by
  obtain ⟨p,c,rfl,h1,h2,h3,h4⟩:=h;have hx:xs≠[]:=List.ne_nil_of_mem hy;obtain ⟨g,off,rfl,_,_⟩:=h3.resolve_left hx;refine (Tryz.slices_Index_string g off xs.length c (xs.map ofL) (ofL y) w (by simp) (by omega) (aJG h3 rfl)).mono fun e w' h=>⟨?_,by rw [h.2];exact Fr.refl _ _⟩;rw [h.1,Gc_ (by simp),aPT,if_pos (by simpa using hy)]
abbrev aJy (c x:Int):Value := .iface 165 (.agg #[vI c,vI x])
abbrev pn (c x:Int):List PanicEntry:=[{ v:=aJy c x,recovered:=false }]
theorem aT9 {B cap:Nat}{p:Option Addr}{t:Tok Int}{l:List (Tok Int)}{w:World}(hs:SrcB tkL 3 w B p cap (t::l)):∃ p',(∀ w1,SrcB tkL 3 w1 B p cap (t::l)->SrcB tkL 3 w1 B p' (cap-1) l) /\ ∀ w2,Ft.ok Tryz.prog w2 (.g2 (fun x a => .slice 130 x (some a) none none) (vL p (t::l).length cap) (vI 1) (vL p' l.length (cap-1))):=by
  have hle:l.length+1<=cap:=hs.le
  obtain ⟨g,off,rfl⟩:∃ g off,p=some ⟨g,off,none⟩:=by
    rcases hs.at_ with h | ⟨g,off,h,_⟩
    · cases h
    · exact ⟨g,off,h⟩
  have h1:(1:Int)<=((l.length+1:Nat):Int):=by omega
  have h2:((l.length+1:Nat):Int)<=cap:=by omega
  by_cases h3:cap=1
  · subst h3
    obtain rfl:l=[]:=List.eq_nil_of_length_eq_zero (by omega);refine ⟨some ⟨g,off,none⟩,fun w1 h=>⟨Gg_ _,by omega,.inl rfl,fun h=>by cases h⟩,fun w2 o ρ x a ho hx ha=>by simp [execOp,ho,hx,ha,go_sem,Addr.add]⟩
  · refine ⟨some ⟨g,off+3,none⟩,fun w1 h=>⟨by have:l.length+1<=cap:=h.le;omega,Gp_ (Nat.sub_le _ _) h.ca,?_,fun h=>by cases h⟩,fun w2 o ρ x a ho hx ha=>?_⟩
    · rcases h.at_ with h | ⟨g',off',he,hg,hs⟩
      · cases h
      · cases he
        refine .inr ⟨g,off+3,rfl,hg,fun i t ht=>?_⟩;have:=hs (i+1) t ht
        rwa [show off+(i+1)*3=off+3+i*3 by omega] at this
    · have h1':(1:Int)<=(l.length:Int)+1:=by omega
      have h2':(l.length:Int)+1<=cap:=by omega
      simp [execOp,ho,hx,ha,go_sem,h1',h2',h3,Addr.add]
def aAt (B:Nat) (p:Option Addr) (c:Nat) (ts:List (Tok Int)) (p':Option Addr) (c':Nat) (l:List (Tok Int)):Prop:=∀ w1,SrcB tkL 3 w1 B p c ts->SrcB tkL 3 w1 B p' c' l
def aBv (β:Type) (w:World) (G:Nat->Prop) (B rb:Nat) (en:Int) (sv:Value) (p:Option Addr) (c:Nat) (ts:List (Tok Int)) (val:β->Value) (r:Res Int (β×List (Tok Int))) (e:Ending) (w':World):Prop:=match r with
  | .error (cc,x)=>e = .panicked (pn cc x) /\ Fr G w w'
  | .ok (b,l)=>e = .returned (val b) /\ ∃ p' c',aAt B p c ts p' c' l /\ Mm G w w' [bk rb #[vL p' l.length c',vI en,sv] 170]
theorem aOQ {w:World}{B rb c:Nat}{p:Option Addr}{en k:Int}{t:Tok Int}{l:List (Tok Int)}{sv xv:Value}{xs:List Bys}(hrb:w.heap[rb]?=some (.cells #[vL p (t::l).length c,vI en,sv] 170 (0,0))) (hs:SrcB tkL 3 w B p c (t::l)) (hx:StV w xv xs):Calls Tryz.prog 121 #[vP rb 0,vI k,xv] w fun e w'=>e = .returned (vB (aBB k xs (t::l))) /\ Fr nF_ w w':=by
  have hx0:=hx;obtain ⟨px,cpx,hpx,spx⟩:=hx.op;subst hpx;refine beg Tryz.func121 rfl rfl [(0,vP rb 0),(1,vI k),(2,vL px xs.length cpx)] rfl rfl fun Z hZ=>?_;have hM:=Mm.nil nF_ w;refine seg 1 7 [(13,vB (decide (0<((t::l).length:Int))))] (fc (ld0 130 hM (bx hrb 0 rfl)) f0) ?_;cases h1:(decide (0<((t::l).length:Int)))
  ·have rh1:=df h1;exfalso;have:0<(t::l).length:=Nat.zero_lt_succ _;omega
  have rh1:=dt h1;obtain ⟨t9,ht9,g2,o2,q2,r2,n2⟩:=(hs).eb (fun k (h:False)=>h.elim) (i:=0) (by omega);have e9:t=t9:=Gh_ ht9;subst e9;refine seg 1 18 [(24,vB (t.1==k))] (fc (ld0 130 hM (bx hrb 0 rfl)) (fc (ix 130 c q2 (gl ht9)) (fc (ld0 3 hM (r2 0 _ rfl) n2) f0))) ?_;cases h3:(t.1==k)
  ·exact rt1 6 (vB false) rfl f0 (hZ _ _ ⟨by unfold aBB;rw [aEG];simp only [h3]<;>rfl,hM.fr⟩)
  refine seg 1 22 [(28,vB ((xs.length:Int)==0))] f0 ?_;cases h4:((xs.length:Int)==0)
  ·refine aAq 1 30 37 [(29,vL px xs.length cpx),(36,vS t.2.1)] (fc (ld0 130 hM (bx hrb 0 rfl)) (fc (ix 130 c q2 (gl ht9)) (fc (ld0 9 hM (r2 1 _ rfl) n2) f0))) hM (aHH (y:=t.2.1) (hx0.fr hM.fr)) fun w1 hM=>rt1 6 (vB (xs.contains t.2.1)) rfl f0 (hZ _ _ ⟨by unfold aBB;rw [aEG];simp only [h3,h4]<;>rfl,hM.fr⟩)
  exact rt1 6 (vB true) rfl f0 (hZ _ _ ⟨by unfold aBB;rw [aEG];simp only [h3,h4]<;>rfl,hM.fr⟩)
theorem aRp {w:World}{rb c:Nat}{p:Option Addr}{en k:Int}{sv xv:Value}{xs:List Bys}(hrb:w.heap[rb]?=some (.cells #[vL p 0 c,vI en,sv] 170 (0,0))) (hx:StV w xv xs):Calls Tryz.prog 121 #[vP rb 0,vI k,xv] w fun e w'=>e = .returned (vB (aBB k xs ([]:List (Tok Int)))) /\ Fr nF_ w w':=by
  obtain ⟨px,cpx,hpx,spx⟩:=hx.op;subst hpx;refine beg Tryz.func121 rfl rfl [(0,vP rb 0),(1,vI k),(2,vL px xs.length cpx)] rfl rfl fun Z hZ=>?_;have hM:=Mm.nil nF_ w;exact rt1 6 (vB false) rfl (fc (ld0 130 hM (bx hrb 0 rfl)) f0) (hZ _ _ ⟨rfl,hM.fr⟩)
theorem aBs {w:World}{B rb c:Nat}{p:Option Addr}{en:Int}{ts:List (Tok Int)}{sv xv:Value}{xs:List Bys}(hrb:w.heap[rb]?=some (.cells #[vL p ts.length c,vI en,sv] 170 (0,0))) (hs:SrcB tkL 3 w B p c ts) (hx:StV w xv xs) (k:Int):Calls Tryz.prog 121 #[vP rb 0,vI k,xv] w fun e w'=>e = .returned (vB (aBB k xs ts)) /\ Fr nF_ w w':=by
  cases ts with
  | nil=>exact aRp hrb hx
  | cons t l=>exact aOQ hrb hs hx
theorem aRd {w:World}{G:Nat->Prop}{B rb c:Nat}{p:Option Addr}{en k:Int}{sv xv:Value}{xs:List Bys}(hM0:Mm G w w [bk rb #[vL p 0 c,vI en,sv] 170]) (hx:StV w xv xs):Calls Tryz.prog 122 #[vP rb 0,vI k,xv] w fun e w'=>aBv (Tok Int) w G B rb en sv p c [] (fun t=>vA (tkL t)) (take en k xs []) e w':=by
  have hx0:=hx;obtain ⟨px,cpx,hpx,spx⟩:=hx.op;subst hpx;refine beg Tryz.func122 rfl rfl [(0,vP rb 0),(1,vI k),(2,vL px xs.length cpx)] rfl rfl fun Z hZ=>?_;have hM:=hM0;refine aAp 0 0 6 [] (cs:=#[vI 0,vS [],vI 0]) (T:=186) (v:=fun b=>vP b 0) f0 hM fun b5 w1 hM=>pan 2 6 [(19,aJy 6 en)] 165 (.agg #[vI 6,vI en]) (fc (ldm 130 0 0 hM rfl rfl) (fc (ldm 3 0 1 hM rfl rfl) f0)) hM (fun a f9 hd=>pn_ (P:=Tryz.prog) (fn:=Tryz.f122) hd (hZ _ _ (⟨rfl,f9⟩)))
theorem aOA {w:World}{G:Nat->Prop}{B rb c:Nat}{p:Option Addr}{en k:Int}{sv xv:Value}{xs:List Bys}{t:Tok Int}{l:List (Tok Int)}(hM0:Mm G w w [bk rb #[vL p (t::l).length c,vI en,sv] 170]) (hs:SrcB tkL 3 w B p c (t::l)) (hG:∀ k,G k->B<=k) (hx:Apt stL 1 G w xv xs):Calls Tryz.prog 122 #[vP rb 0,vI k,xv] w fun e w'=>aBv (Tok Int) w G B rb en sv p c (t::l) (fun t=>vA (tkL t)) (take en k xs (t::l)) e w':=by
  have hx0:=hx;have hx:=hx w (Fr.refl _ _);obtain ⟨px,cpx,hpx,spx⟩:=hx.op;subst hpx;refine beg Tryz.func122 rfl rfl [(0,vP rb 0),(1,vI k),(2,vL px xs.length cpx)] rfl rfl fun Z hZ=>?_;have hM:=hM0;obtain ⟨pq,htl,hft⟩:=aT9 hs;refine aAp 0 0 6 [] (cs:=#[vI 0,vS [],vI 0]) (T:=186) (v:=fun b=>vP b 0) f0 hM fun b6 w1 hM=>seg 1 6 [(13,vB (((t::l).length:Int)==0))] (fc (ldm 130 0 0 hM rfl rfl) f0) ?_;cases h7:(((t::l).length:Int)==0)
  rotate_left
  ·have rh7:=et h7;exfalso;have:0<(t::l).length:=Nat.zero_lt_succ _;omega
  have rh7:=ef h7;obtain ⟨t9,ht9,g8,o8,q8,r8,n8⟩:=(hs).eb hG (i:=0) (by omega);have e9:t=t9:=Gh_ ht9;subst e9;refine aCl 3 6 7 [(25,.agg #[vI t.1,vS t.2.1,vI t.2.2])] [] 186 (.agg #[vI t.1,vS t.2.1,vI t.2.2]) (fc (ldm 130 0 0 hM rfl rfl) (fc (ix 130 c q8 (gl ht9)) (fc (la0 186 hM r8 n8) f0))) hM fun b9 w1 hM=>aAq 4 3 29 [(26,vP rb 0),(27,vI k),(28,vL px xs.length cpx)] f0 hM (aBs (hM.get 0 rfl) (aAN hs hM.fr hG) (hx0 _ hM.fr) k) fun w1 hM=>seg 4 5 [(30,vB (!(aBB k xs (t::l))))] f0 ?_;cases h10:(aBB k xs (t::l))
  ·exact pan 5 4 [(34,aJy 5 t.2.2)] 165 (.agg #[vI 5,vI t.2.2]) (fc (ldm 3 2 2 hM rfl rfl) f0) hM (fun a f9 hd=>pn_ (P:=Tryz.prog) (fn:=Tryz.f122) hd (hZ _ _ (by unfold take;simp only;rw [if_neg (by rw [h10];simp)];exact ⟨rfl,f9⟩)))
  refine stm 6 8 [(40,vL pq l.length (c-1)),(42,vP rb 0)] 130 0 0 (vL pq l.length (c-1)) (fc (ldm 130 0 0 hM rfl rfl) (fc (hft _) f0)) hM rfl fun w1 hM=>stm 7 1 [(43,.agg #[vI t.1,vS t.2.1,vI t.2.2])] 186 1 0 (.agg #[vI t.1,vS t.2.1,vI t.2.2]) (fc (lam 186 2 0 3 hM rfl) f0) hM rfl fun w1 hM=>?_;have hM:Mm G w w1 [bk rb #[vL pq l.length (c-1),vI en,sv] 170,bk b6 #[vI t.1,vS t.2.1,vI t.2.2] 186,bk b9 #[vI t.1,vS t.2.1,vI t.2.2] 186]:=hM;exact rtc 6 186 rfl (aEW (T:=186) (l:=tkL t) (by kernel_rfl) (fun j u hu=>bx (hM.get 1 rfl) (0+j) (by rw [Nat.zero_add];simpa [tkL] using hu))) f0 (hZ _ _ (by unfold take;simp only;rw [if_pos h10];exact ⟨rfl,_,_,htl,hM.pick [0]⟩))
theorem aAr {w:World}{G:Nat->Prop}{B rb c:Nat}{p:Option Addr}{en:Int}{ts:List (Tok Int)}{sv xv:Value}{xs:List Bys}(hM0:Mm G w w [bk rb #[vL p ts.length c,vI en,sv] 170]) (hs:SrcB tkL 3 w B p c ts) (hG:∀ k,G k->B<=k) (hx:Apt stL 1 G w xv xs) (k:Int):Calls Tryz.prog 122 #[vP rb 0,vI k,xv] w (aBv (Tok Int) w G B rb en sv p c ts (fun t=>vA (tkL t)) (take en k xs ts)):=by
  cases ts with
  | nil=>exact aRd hM0 (hx w (Fr.refl _ _))
  | cons t l=>exact aOA hM0 hs hG hx
theorem StV.one {w:World}{b:Nat}{s:Bys}(h:w.heap[b]?=some (.cells #[vS s] 9 (0,0))):StV w (vL (some ⟨b,0,none⟩) 1 1) [s]:=⟨_,1,rfl,Gl_ _,by omega,aAG (f:=stL) h (aAl h),fun h=>by cases h⟩
theorem aLu {w:World}(hT:Tb w):Calls Tryz.prog 156 #[] w fun e w'=>∃ b,e = .returned (vL (some ⟨b,0,none⟩) 7 7) /\ aNb w' b /\ w.heap.size<=b /\ Fr nF_ w w':=by
  have hfe:Lib.fields (ofL [109,111,32,116,117,32,119,101,32,116,104,32,102,114,32,115,97,32,115,117]).data.toList=aD2:=by decide +kernel
  have hF:=Tryz.strings_Fields (ofL [109,111,32,116,117,32,119,101,32,116,104,32,102,114,32,115,97,32,115,117]) w (by decide +kernel) (by
    intro j b hb;have:∀ b∈(ofL [109,111,32,116,117,32,119,101,32,116,104,32,102,114,32,115,97,32,115,117]).data.toList,b.toNat<128:=by decide +kernel
    exact this b (Ge_ hb)) hT.2
  rw [hfe] at hF;refine beg Tryz.func156 rfl rfl [] rfl rfl fun Z hZ=>?_;have hM:=Mm.nil nF_ w;refine cal 1 0 1 [] (K:=fun u w8=>∃ b,u=vL (some ⟨b,0,none⟩) 7 7 /\ aNb w8 b /\ w.heap.size<=b /\ Fr nF_ w w8) f0 (hF.mono fun e w8 h=>by obtain ⟨rfl,rfl⟩:=h;exact ⟨_,rfl,_,rfl,aBe _ _,Gl_ _,(Fr.refl _ _).alloc _⟩) fun u w1 ⟨bd,hu,hbd,hbn,f1⟩=>?_;subst hu;have hM:=hM.q f1;exact rt1 0 (vL (some ⟨bd,0,none⟩) 7 7) rfl f0 (hZ _ _ ⟨_,rfl,hbd,hbn,hM.fr⟩)
theorem aAV (t:Tok Int) (h0:t.2.1≠[]) (hd:∀ b∈t.2.1,aAv b=true) (hl:t.2.1.length<=7) (w:World):Calls Tryz.prog 174 #[vA (tkL t)] w fun e w'=>e = .returned (vI (aAF t.2.1)) /\ Fr nF_ w w':=by
  refine beg Tryz.func174 rfl rfl [(0,.agg #[vI t.1,vS t.2.1,vI t.2.2])] rfl rfl fun Z hZ=>?_;have hM:=Mm.nil nF_ w;refine aAp 0 0 1 [] (cs:=#[vI t.1,vS t.2.1,vI t.2.2]) (T:=186) (v:=fun b=>vP b 0) f0 hM fun b1 w1 hM=>aAq 1 2 8 [(7,vS t.2.1)] (fc (ldm 9 0 1 hM rfl rfl) f0) hM ((Tryz.strconv_Atoi (ofL t.2.1) (aAF t.2.1) (by rw [aBl];omega) (by rw [show (ofL t.2.1).data.toList=t.2.1 from by simp [ofL]];exact aSz h0 hd) _).mono fun e w8 h=>by obtain ⟨rfl,t9,rfl⟩:=h;exact ⟨rfl,aK2 _ _ _⟩) fun w1 hM=>rt1 2 (vI (aAF t.2.1)) rfl f0 (hZ _ _ ⟨rfl,hM.fr⟩)
theorem aBp {w:World}{G:Nat->Prop}{B rb c:Nat}{p:Option Addr}{en:Int}{ts:List (Tok Int)}{sv:Value}{most:Int}(hM0:Mm G w w [bk rb #[vL p ts.length c,vI en,sv] 170]) (hs:SrcB tkL 3 w B p c ts) (hG:∀ k,G k->B<=k) (hk:Tk ts):Calls Tryz.prog 158 #[vP rb 0,vI most] w fun e w'=>aBv (Int×Int) w G B rb en sv p c ts (fun r => .tuple #[vI r.1,vI r.2]) (clock en most ts) e w':=by
  refine beg Tryz.func158 rfl rfl [(0,vP rb 0),(1,vI most)] rfl rfl fun Z hZ=>?_;have hM:=hM0;have hrB:B<=rb:=hG rb (hM0.own _ (.head _) rb rfl (aAl (hM0.get 0 rfl)));have hB0:aAt B p c ts p c ts:=fun _ h=>h;rcases htk2:take en 2 ([]:List Bys) ts with ⟨c2,x2⟩ | ⟨t2,l2⟩
  · exact aNR 1 3 11 [(10,vP rb 0)] [0] f0 hM rfl (by decide) (fun hm=>(aAr (xs:=([]:List Bys)) hm (aAN hs hM.fr hG) (fun k h=>by rw [aEL (b:=rb) rfl h];exact hrB) aCp 2).mono fun e w8 h=>by unfold aBv at h;rw [htk2] at h;exact h) (fun a w9 f9 hd=>pn_ (P:=Tryz.prog) (fn:=Tryz.f158) hd (hZ _ _ ((by unfold clock;rw [htk2];(try simp only);exact ⟨rfl,f9⟩))))
  refine aAM 1 3 11 [(10,vP rb 0)] (K:=fun u Mn=>u=vA (tkL t2) /\ ∃ p' c',aAt B p c ts p' c' l2 /\ Mn=[bk rb #[vL p' l2.length c',vI en,sv] 170]) [] [0] f0 hM rfl rfl (by decide) (fun hm=>(aAr (xs:=([]:List Bys)) hm (aAN hs hM.fr hG) (fun k h=>by rw [aEL (b:=rb) rfl h];exact hrB) aCp 2).mono fun e w8 h=>by unfold aBv at h;rw [htk2] at h;obtain ⟨h1,p',c',h2,h3⟩:=h;exact ⟨_,_,h1,⟨rfl,p',c',h2,rfl⟩,h3⟩) fun u Mn w1 hK hM=>?_;obtain ⟨rfl,p2,cc2,hb2,rfl⟩:=hK;have hs2:=hb2 _ hs;have hB2:aAt B p c ts p2 cc2 l2:=fun w1 h=>hb2 w1 (hB0 w1 h);obtain ⟨hto2,hkd2,hk⟩:=aAJ hk htk2;have hnt2:=aP3 hto2 hkd2;refine aCl 1 4 6 [] [] 186 (.agg #[vI t2.1,vS t2.2.1,vI t2.2.2]) f0 hM fun b3 w1 hM=>aAq 2 1 13 [(12,.agg #[vI t2.1,vS t2.2.1,vI t2.2.2])] (fc (lam 186 1 0 3 hM rfl) f0) hM (aAV t2 hnt2.1 hnt2.2.1 hnt2.2.2.1 _) fun w1 hM=>seg 2 4 [(15,vB (decide (most<(aAF t2.2.1))))] f0 ?_;cases h4:(decide (most<(aAF t2.2.1)))
  rotate_left
  ·exact pan 3 4 [(19,aJy 10 t2.2.2)] 165 (.agg #[vI 10,vI t2.2.2]) (fc (ldm 3 1 2 hM rfl rfl) f0) hM (fun a f9 hd=>pn_ (P:=Tryz.prog) (fn:=Tryz.f158) hd (hZ _ _ ((by unfold clock;rw [htk2];(try simp only);rw [if_pos (of_decide_eq_true h4)];(try simp only);exact ⟨rfl,f9⟩))))
  refine aAp 4 3 23 [(22,vP rb 0)] (cs:=#[vS [58]]) (T:=9) (v:=fun b=>vL (some ⟨b,0,none⟩) 1 1) f0 hM fun b5 w1 hM=>?_;rcases htk6:take en 4 [aIm] l2 with ⟨c6,x6⟩ | ⟨t6,l6⟩
  · exact aNR 4 4 24 [] [0] f0 hM rfl (by decide) (fun hm=>(aAr (xs:=[aIm]) hm (aAN hs2 hM.fr hG) (fun k h=>by rw [aEL (b:=rb) rfl h];exact hrB) (aE2 (hM.get 2 rfl) (hM.notin (i:=2) (js:=[0]) rfl rfl (by decide)) fun w9 h=>StV.one h) 4).mono fun e w8 h=>by unfold aBv at h;rw [htk6] at h;exact h) (fun a w9 f9 hd=>pn_ (P:=Tryz.prog) (fn:=Tryz.f158) hd (hZ _ _ ((by unfold clock;rw [htk2];(try simp only);rw [if_neg (of_decide_eq_false h4)];(try simp only);rw [htk6];(try simp only);exact ⟨rfl,f9⟩))))
  refine aAM 4 4 24 [] (K:=fun u Mn=>u=vA (tkL t6) /\ ∃ p' c',aAt B p2 cc2 l2 p' c' l6 /\ Mn=[bk rb #[vL p' l6.length c',vI en,sv] 170]) [1,2] [0] f0 hM rfl rfl (by decide) (fun hm=>(aAr (xs:=[aIm]) hm (aAN hs2 hM.fr hG) (fun k h=>by rw [aEL (b:=rb) rfl h];exact hrB) (aE2 (hM.get 2 rfl) (hM.notin (i:=2) (js:=[0]) rfl rfl (by decide)) fun w9 h=>StV.one h) 4).mono fun e w8 h=>by unfold aBv at h;rw [htk6] at h;obtain ⟨h1,p',c',h2,h3⟩:=h;exact ⟨_,_,h1,⟨rfl,p',c',h2,rfl⟩,h3⟩) fun u Mn w1 hK hM=>?_;obtain ⟨rfl,p6,cc6,hb6,rfl⟩:=hK;have hs6:=hb6 _ hs2;have hB6:aAt B p c ts p6 cc6 l6:=fun w1 h=>hb6 w1 (hB2 w1 h);obtain ⟨hto6,hkd6,hk⟩:=aAJ hk htk6;rcases htk7:take en 2 ([]:List Bys) l6 with ⟨c7,x7⟩ | ⟨t7,l7⟩
  · exact aNR 5 3 28 [(27,vP rb 0)] [2] f0 hM rfl (by decide) (fun hm=>(aAr (xs:=([]:List Bys)) hm (aAN hs6 hM.fr hG) (fun k h=>by rw [aEL (b:=rb) rfl h];exact hrB) aCp 2).mono fun e w8 h=>by unfold aBv at h;rw [htk7] at h;exact h) (fun a w9 f9 hd=>pn_ (P:=Tryz.prog) (fn:=Tryz.f158) hd (hZ _ _ ((by unfold clock;rw [htk2];(try simp only);rw [if_neg (of_decide_eq_false h4)];(try simp only);rw [htk6];(try simp only);rw [htk7];(try simp only);exact ⟨rfl,f9⟩))))
  refine aAM 5 3 28 [(27,vP rb 0)] (K:=fun u Mn=>u=vA (tkL t7) /\ ∃ p' c',aAt B p6 cc6 l6 p' c' l7 /\ Mn=[bk rb #[vL p' l7.length c',vI en,sv] 170]) [0,1] [2] f0 hM rfl rfl (by decide) (fun hm=>(aAr (xs:=([]:List Bys)) hm (aAN hs6 hM.fr hG) (fun k h=>by rw [aEL (b:=rb) rfl h];exact hrB) aCp 2).mono fun e w8 h=>by unfold aBv at h;rw [htk7] at h;obtain ⟨h1,p',c',h2,h3⟩:=h;exact ⟨_,_,h1,⟨rfl,p',c',h2,rfl⟩,h3⟩) fun u Mn w1 hK hM=>?_;obtain ⟨rfl,p7,cc7,hb7,rfl⟩:=hK;have hB7:aAt B p c ts p7 cc7 l7:=fun w1 h=>hb7 w1 (hB6 w1 h);obtain ⟨hto7,hkd7,hk⟩:=aAJ hk htk7;have hnt7:=aP3 hto7 hkd7;refine aCl 5 4 7 [] [] 186 (.agg #[vI t7.1,vS t7.2.1,vI t7.2.2]) f0 hM fun b8 w1 hM=>seg 6 5 [(33,vB (!((t7.2.1.length:Int)==2)))] (fc (ldm 9 3 1 hM rfl rfl) (fc (aCA 9 t7.2.1) f0)) ?_;cases h9:((t7.2.1.length:Int)==2)
  ·exact pan 7 4 [(51,aJy 10 t7.2.2)] 165 (.agg #[vI 10,vI t7.2.2]) (fc (ldm 3 3 2 hM rfl rfl) f0) hM (fun a f9 hd=>pn_ (P:=Tryz.prog) (fn:=Tryz.f158) hd (hZ _ _ ((by unfold clock;rw [htk2];(try simp only);rw [if_neg (of_decide_eq_false h4)];(try simp only);rw [htk6];(try simp only);rw [htk7];(try simp only);have hbb:(t7.2.1.length != 2||decide (aAF t7.2.1>59)||(aAF t2.2.1==24&&decide (aAF t7.2.1>0)))=true:=(by rw [aHa];simp only [gt_iff_lt,bne,h9]<;>rfl);rw [hbb];simp only [Bool.false_eq_true,if_true,if_false];exact ⟨rfl,f9⟩))))
  refine aAq 6 6 35 [(34,.agg #[vI t7.1,vS t7.2.1,vI t7.2.2])] (fc (lam 186 3 0 3 hM rfl) f0) hM (aAV t7 hnt7.1 hnt7.2.1 hnt7.2.2.1 _) fun w1 hM=>seg 6 10 [(38,vB (decide (59<(aAF t7.2.1))))] f0 ?_;cases h10:(decide (59<(aAF t7.2.1)))
  rotate_left
  ·have aa:=dt h10;exact pan 7 4 [(51,aJy 10 t7.2.2)] 165 (.agg #[vI 10,vI t7.2.2]) (fc (ldm 3 3 2 hM rfl rfl) f0) hM (fun a f9 hd=>pn_ (P:=Tryz.prog) (fn:=Tryz.f158) hd (hZ _ _ ((by unfold clock;rw [htk2];(try simp only);rw [if_neg (of_decide_eq_false h4)];(try simp only);rw [htk6];(try simp only);rw [htk7];(try simp only);have hbb:(t7.2.1.length != 2||decide (aAF t7.2.1>59)||(aAF t2.2.1==24&&decide (aAF t7.2.1>0)))=true:=(by rw [aHa];simp only [gt_iff_lt,bne,h9,h10]<;>rfl);rw [hbb];simp only [Bool.false_eq_true,if_true,if_false];exact ⟨rfl,f9⟩))))
  have aa:=df h10;refine aAq 6 11 40 [(39,.agg #[vI t2.1,vS t2.2.1,vI t2.2.2])] (fc (lam 186 0 0 3 hM rfl) f0) hM (aAV t2 hnt2.1 hnt2.2.1 hnt2.2.2.1 _) fun w1 hM=>seg 6 14 [(42,vB ((aAF t2.2.1)==24))] f0 ?_;cases h11:((aAF t2.2.1)==24)
  ·have ab:=ef h11;refine seg 8 0 [] f0 (drc [(4,vI ((60*(aAF t2.2.1))+(aAF t7.2.1))),(5,vI t2.2.2)] hM (fun w5 hM=>(fc (lam 186 0 0 3 hM rfl) (fc (tcl (aAV t2 hnt2.1 hnt2.2.1 hnt2.2.2.1 _)) (fc (aIx 60 (aAF t2.2.1) u3_) (fc (lam 186 3 0 3 hM rfl) (fc (tcl (aAV t7 hnt7.1 hnt7.2.1 hnt7.2.2.1 _)) (fc (aAe (60*(aAF t2.2.1)) (aAF t7.2.1) u3_) (fc (ldm 3 0 2 hM rfl rfl) f0)))))))) fun w5 hM=>rt2 4 5 (vI ((60*(aAF t2.2.1))+(aAF t7.2.1))) (vI t2.2.2) rfl rfl f0 (hZ _ _ (by unfold clock;rw [htk2];(try simp only);rw [if_neg (of_decide_eq_false h4)];(try simp only);rw [htk6];(try simp only);rw [htk7];(try simp only);have hbb:(t7.2.1.length != 2||decide (aAF t7.2.1>59)||(aAF t2.2.1==24&&decide (aAF t7.2.1>0)))=false:=(by rw [aHa];simp only [gt_iff_lt,bne,h9,h10,h11]<;>rfl);rw [hbb];simp only [Bool.false_eq_true,if_true,if_false];exact ⟨rfl,_,_,hB7,hM.pick [2]⟩)))
  have ab:=et h11;refine aAq 6 15 44 [(43,.agg #[vI t7.1,vS t7.2.1,vI t7.2.2])] (fc (lam 186 3 0 3 hM rfl) f0) hM (aAV t7 hnt7.1 hnt7.2.1 hnt7.2.2.1 _) fun w1 hM=>seg 6 19 [(47,vB (decide (0<(aAF t7.2.1))))] f0 ?_;cases h12:(decide (0<(aAF t7.2.1)))
  ·have ac:=df h12;refine seg 8 0 [] f0 (drc [(4,vI ((60*(aAF t2.2.1))+(aAF t7.2.1))),(5,vI t2.2.2)] hM (fun w5 hM=>(fc (lam 186 0 0 3 hM rfl) (fc (tcl (aAV t2 hnt2.1 hnt2.2.1 hnt2.2.2.1 _)) (fc (aIx 60 (aAF t2.2.1) u3_) (fc (lam 186 3 0 3 hM rfl) (fc (tcl (aAV t7 hnt7.1 hnt7.2.1 hnt7.2.2.1 _)) (fc (aAe (60*(aAF t2.2.1)) (aAF t7.2.1) u3_) (fc (ldm 3 0 2 hM rfl rfl) f0)))))))) fun w5 hM=>rt2 4 5 (vI ((60*(aAF t2.2.1))+(aAF t7.2.1))) (vI t2.2.2) rfl rfl f0 (hZ _ _ (by unfold clock;rw [htk2];(try simp only);rw [if_neg (of_decide_eq_false h4)];(try simp only);rw [htk6];(try simp only);rw [htk7];(try simp only);have hbb:(t7.2.1.length != 2||decide (aAF t7.2.1>59)||(aAF t2.2.1==24&&decide (aAF t7.2.1>0)))=false:=(by rw [aHa];simp only [gt_iff_lt,bne,h9,h10,h11,h12]<;>rfl);rw [hbb];simp only [Bool.false_eq_true,if_true,if_false];exact ⟨rfl,_,_,hB7,hM.pick [2]⟩)))
  have ac:=dt h12;exact pan 7 4 [(51,aJy 10 t7.2.2)] 165 (.agg #[vI 10,vI t7.2.2]) (fc (ldm 3 3 2 hM rfl rfl) f0) hM (fun a f9 hd=>pn_ (P:=Tryz.prog) (fn:=Tryz.f158) hd (hZ _ _ ((by unfold clock;rw [htk2];(try simp only);rw [if_neg (of_decide_eq_false h4)];(try simp only);rw [htk6];(try simp only);rw [htk7];(try simp only);have hbb:(t7.2.1.length != 2||decide (aAF t7.2.1>59)||(aAF t2.2.1==24&&decide (aAF t7.2.1>0)))=true:=(by rw [aHa];simp only [gt_iff_lt,bne,h9,h10,h11,h12]<;>rfl);rw [hbb];simp only [Bool.false_eq_true,if_true,if_false];exact ⟨rfl,f9⟩))))
def aK9 (w:World) (G:Nat->Prop) (B rb:Nat) (en:Int) (ss:List Sp) (p:Option Addr) (c:Nat) (ts:List (Tok Int)) (r:Res Int (List Sp×List (Tok Int))) (e:Ending) (w':World):Prop:=match r with
  | .error (cc,x)=>e = .panicked (pn cc x) /\ Fr G w w'
  | .ok (s,l)=>e = .returned (.tuple #[]) /\ ∃ p' c' q cq,aAt B p c ts p' c' l /\ Mm G w w' [bk rb #[vL p' l.length c',vI en,vL q (ss++s).length cq] 170,rw_ spL 2 141 (vL q (ss++s).length cq) (ss++s)]
theorem aEa {w:World}{G:Nat->Prop}{rb cq:Nat}{q:Option Addr}{lv:Value}{en f t:Int}{ss:List Sp}(ht:0<=t) (ht2:t<=30000) (hl:ss.length<=300000000) (hM0:Mm G w w [bk rb #[lv,vI en,vL q ss.length cq] 170,rw_ spL 2 141 (vL q ss.length cq) ss]):Calls Tryz.prog 123 #[vP rb 0,vI f,vI t] w fun e w'=>∃ u Mn,e = .returned u /\ (u = .tuple #[] /\ ∃ q2 c2,Mn=[bk rb #[lv,vI en,vL q2 (ss++aDi f t).length c2] 170,rw_ spL 2 141 (vL q2 (ss++aDi f t).length c2) (ss++aDi f t)]) /\ Mm G w w' Mn:=by
  refine beg Tryz.func123 rfl rfl [(0,vP rb 0),(1,vI f),(2,vI t)] rfl rfl fun Z hZ=>?_;have hM:=hM0;refine aAp 0 9 15 [(6,vP rb 0),(10,vL q ss.length cq),(14,.agg #[vI f,vI (min t 10080)])] (cs:=#[vI f,vI (min t 10080)]) (T:=141) (v:=fun b=>vL (some ⟨b,0,none⟩) 1 1) (fc (ldm 48 0 2 hM rfl rfl) (fc (aXt 3 t 10080) f0)) hM fun af w1 hM=>aH5 0 10 16 [] (cap:=1) (by decide) spT f0 hM (j:=1) rfl (aAG (f:=spL) (x:=(f,(min t 10080))) (hM.get 2 rfl) (Gq_ _)) (fun h=>by cases h) (by simp only [Gk_,Gf_,Go_];omega) fun v14 w1 hM=>?_;obtain ⟨aa,ab,e14,-⟩:=(hM.src (j:=1) rfl spT.len).op;subst e14;refine stm 0 13 [(18,vP rb 2)] 48 0 2 (vL aa (ss++[(f,(min t 10080))]).length ab) f0 hM rfl fun w1 hM=>seg 1 2 [(20,vB (decide (10080<t)))] f0 ?_;cases h15:(decide (10080<t))
  ·have ac:=df h15;have hal:(ss++[(f,(min t 10080))])=ss++aDi f t:=by unfold aDi;rw [if_neg (of_decide_eq_false h15)]<;>(try simp)
   rw [hal] at hM;exact rt0 rfl f0 (hZ _ _ ⟨_,_,rfl,⟨rfl,_,_,rfl⟩,hM.pick [0,1]⟩)
  have ac:=dt h15;refine aAp 2 8 29 [(21,vP rb 0),(25,vL aa (ss++[(f,(min t 10080))]).length ab),(28,.agg #[vI 0,vI (t-10080)])] (cs:=#[vI 0,vI (t-10080)]) (T:=141) (v:=fun b=>vL (some ⟨b,0,none⟩) 1 1) (fc (ldm 48 0 2 hM rfl rfl) (fc (aBx t 10080 u3_) f0)) hM fun ag w1 hM=>aH5 2 9 30 [] (cap:=1) (by decide) spT f0 hM (j:=1) rfl (aAG (f:=spL) (x:=(0,(t-10080))) (hM.get 3 rfl) (Gq_ _)) (fun h=>by cases h) (by simp only [Gk_,Gf_,Go_];omega) fun v17 w1 hM=>?_;obtain ⟨ad,ae,e17,-⟩:=(hM.src (j:=1) rfl spT.len).op;subst e17;refine stm 2 12 [(32,vP rb 2)] 48 0 2 (vL ad ((ss++[(f,(min t 10080))])++[(0,(t-10080))]).length ae) f0 hM rfl fun w1 hM=>?_;have hal:((ss++[(f,(min t 10080))])++[(0,(t-10080))])=ss++aDi f t:=by unfold aDi;rw [if_pos (of_decide_eq_true h15)]<;>(try simp)
  rw [hal] at hM;exact rt0 rfl f0 (hZ _ _ ⟨_,_,rfl,⟨rfl,_,_,rfl⟩,hM.pick [0,1]⟩)
section
variable {α:Type}{en:α}
def pre (acc:List Sp):Res α (List Sp×List (Tok α))->Res α (List Sp×List (Tok α))
  | .error e => .error e
  | .ok (s,l) => .ok (acc++s,l)
theorem aUk (r:Res α (List Sp×List (Tok α))):pre [] r=r:=by cases r<;>rfl
def aCf (en:α) (f t:Int) (l:List (Tok α)):Res α (List Sp×List (Tok α)):=aCu en f t (l.length+1) l
theorem aB9 {f t:Int}{l:List (Tok α)}{e:Int×α}(h:aD4 en f t l = .error e):aCf en f t l = .error e:=by
  unfold aCf aCu;rw [h]
theorem aAL {f t:Int}{l l2:List (Tok α)}{s:List Sp}(h:aD4 en f t l = .ok (s,l2)) (hm:more l2=false):aCf en f t l = .ok (s,l2):=by
  unfold aCf aCu;rw [h];simp [hm]
theorem aDj {f t:Int}{l l2:List (Tok α)}{s acc:List Sp}(h:aD4 en f t l = .ok (s,l2)) (hm:more l2=true):pre acc (aCf en f t l)=pre (acc++s) (aCf en f t (l2.drop 1)):=by
  have hl:=aCN h
  have:aCf en f t l=pre s (aCf en f t (l2.drop 1)):=by
    unfold aCf;rw [aCu,h];simp only;rw [if_pos hm,aHM l.length ((l2.drop 1).length+1) (l2.drop 1) (by simp;omega) (by simp)];cases aCu en f t ((l2.drop 1).length+1) (l2.drop 1)<;>rfl
  rw [this]
  cases aCf en f t (l2.drop 1) with
  | error e=>rfl
  | ok r=>simp [pre,Gn_]
theorem aPo {ts l:List (Tok α)}{f t:Int}(h:dys en ts = .ok ((f,t),l)):part en ts=pre [] (aCf en f t l):=by
  unfold part;rw [h,aUk];rfl
theorem aPn {ts:List (Tok α)}{e:Int×α}(h:dys en ts = .error e):part en ts = .error e:=by
  unfold part;rw [h]
theorem aCG {k:Int}{xs:List Bys}{l:List (Tok α)}(h:aBB k xs l=true):∃ t l',take en k [] l = .ok (t,l') /\ l=t::l':=by
  cases l with
  | nil=>cases h
  | cons t l =>
    refine ⟨t,l,?_,rfl⟩;unfold aBB at h;unfold take aBB;rw [Ga_] at h;simp [h.1]
theorem aPD {l:List (Tok α)}{t u:Tok α}{r:List (Tok α)}(h:l=t::u::r):more l=(aBB 4 [aAW] l&&u.1==2):=by subst h;rfl
end
theorem aEk {l:List (Tok Int)}(h:l.length<2):more l=false:=by
  rcases l with _ | ⟨t,_ | ⟨u,l⟩⟩
  · rfl
  · rfl
  · simp only [Gf_] at h;omega
theorem aGw {l:List (Tok Int)}(h:aBB 4 [aAW] l=false):more l=false:=by
  rcases l with _ | ⟨t,_ | ⟨u,r⟩⟩
  · rfl
  · rfl
  · rw [aPD rfl,h];rfl
theorem aDR {l:List (Tok Int)}{u:Tok Int}(h:l[1]?=some u):more l=(aBB 4 [aAW] l&&u.1==2):=by
  rcases l with _ | ⟨t,_ | ⟨v,r⟩⟩
  · simp at h
  · simp at h
  · simp at h;subst h;exact aPD rfl
def aBD (f a b:Int) (n:Nat):List Sp:=(List.range n).flatMap fun (i:Nat)=>aDi ((f+(i:Int)).tmod 7*1440+a) ((f+(i:Int)).tmod 7*1440+b)
theorem aDZ (f a b:Int) (n:Nat):aBD f a b (n+1)=aBD f a b n++aDi ((f+(n:Int)).tmod 7*1440+a) ((f+(n:Int)).tmod 7*1440+b):=by
  unfold aBD;rw [List.range_succ];simp
theorem aS7 (f t:Int):(aDi f t).length<=2:=by unfold aDi;split<;>simp
theorem aCx (f a b:Int) (n:Nat):(aBD f a b n).length<=2*n:=by
  induction n with
  | zero=>simp [aBD]
  | succ n ih=>rw [aDZ,Gk_];have:=aS7 ((f+(n:Int)).tmod 7*1440+a) ((f+(n:Int)).tmod 7*1440+b);omega
theorem aNM {f t:Int}(hf:0<=f) (hf7:f<7) (ht:0<=t) (ht7:t<7):(t-f+7).tmod 7=(t-f+7)%7:=Int.tmod_eq_emod_of_nonneg (by omega)
theorem tm7 {f:Int}(hf:0<=f) (n:Nat):(f+(n:Int)).tmod 7=(f+(n:Int))%7:=Int.tmod_eq_emod_of_nonneg (by omega)
theorem aPS {d:Bys}(h:d∈aD2):0<=idx d /\ idx d<7:=by
  have hidx:∀ d∈aD2,0<=idx d /\ idx d<7:=by decide +kernel
  exact hidx d h
abbrev aVj (Z:Ending->World->Prop):=AtO Tryz.prog (aAf Tryz.f124) (aAo (bodyPost Tryz.prog Tryz.f124 Z)) [] 119
theorem aEg {w:World}{G:Nat->Prop}{B rb c cq:Nat}{p q:Option Addr}{en:Int}{ts:List (Tok Int)}{ss:List Sp}(hM0:Mm G w w [bk rb #[vL p ts.length c,vI en,vL q ss.length cq] 170,rw_ spL 2 141 (vL q ss.length cq) ss]) (hs:SrcB tkL 3 w B p c ts) (hG:∀ k,G k->B<=k) (hk:Tk ts) (hT:Tb w) (hlen:ss.length+14*ts.length<=200000000):Calls Tryz.prog 124 #[vP rb 0] w fun e w'=>aK9 w G B rb en ss p c ts (part en ts) e w':=by
  refine beg Tryz.func124 rfl rfl [(0,vP rb 0)] rfl rfl fun Z hZ=>?_;have hM:=hM0;have hrB:B<=rb:=hG rb (hM0.own _ (.head _) rb rfl (aAl (hM0.get 0 rfl)));have hB0:aAt B p c ts p c ts:=fun _ h=>h;refine cal 0 0 11 [] (K:=fun u w8=>∃ b,u=vL (some ⟨b,0,none⟩) 7 7 /\ aNb w8 b /\ w.heap.size<=b /\ Fr nF_ w w8) f0 ((aLu hT).mono fun e w8 ⟨b,h1,h2⟩=>⟨_,h1,b,rfl,h2⟩) fun u w1 ⟨bd,hu,hbd,hbn,f1⟩=>?_;subst hu;have hM:=hM.add f1 (bk bd (aD2.map fun l=>Value.string (ofL l)).toArray 9) hbd (fun k h=>by rw [(h:k=bd)];exact hbn);rcases htk18:take en 1 aD2 ts with ⟨c18,x18⟩ | ⟨t18,l18⟩
  · exact aNR 1 5 17 [(2,vL (some ⟨bd,0,none⟩) 7 7),(12,vL (some ⟨bd,0,none⟩) 7 7),(15,vP rb 0),(16,vL (some ⟨bd,0,none⟩) 7 7)] [0] f0 hM rfl (by decide) (fun hm=>(aAr (xs:=aD2) hm (aAN hs hM.fr hG) (fun k h=>by rw [aEL (b:=rb) rfl h];exact hrB) (aE2 (hM.get 2 rfl) (hM.notin (i:=2) (js:=[0]) rfl rfl (by decide)) fun w9 h=>aNb.st h) 1).mono fun e w8 h=>by unfold aBv at h;rw [htk18] at h;exact h) (fun a w9 f9 hd=>pn_ (P:=Tryz.prog) (fn:=Tryz.f124) hd (hZ _ _ ((by rw [aPn (by unfold dys;rw [htk18];(try simp only);(try rfl))];exact ⟨rfl,f9⟩))))
  refine aAM 1 5 17 [(2,vL (some ⟨bd,0,none⟩) 7 7),(12,vL (some ⟨bd,0,none⟩) 7 7),(15,vP rb 0),(16,vL (some ⟨bd,0,none⟩) 7 7)] (K:=fun u Mn=>u=vA (tkL t18) /\ ∃ p' c',aAt B p c ts p' c' l18 /\ Mn=[bk rb #[vL p' l18.length c',vI en,vL q ss.length cq] 170]) [1,2] [0] f0 hM rfl rfl (by decide) (fun hm=>(aAr (xs:=aD2) hm (aAN hs hM.fr hG) (fun k h=>by rw [aEL (b:=rb) rfl h];exact hrB) (aE2 (hM.get 2 rfl) (hM.notin (i:=2) (js:=[0]) rfl rfl (by decide)) fun w9 h=>aNb.st h) 1).mono fun e w8 h=>by unfold aBv at h;rw [htk18] at h;obtain ⟨h1,p',c',h2,h3⟩:=h;exact ⟨_,_,h1,⟨rfl,p',c',h2,rfl⟩,h3⟩) fun u Mn w1 hK hM=>?_;obtain ⟨rfl,p18,cc18,hb18,rfl⟩:=hK;have hs18:=hb18 _ hs;have hB18:aAt B p c ts p18 cc18 l18:=fun w1 h=>hb18 w1 (hB0 w1 h);obtain ⟨hto18,hkd18,hk⟩:=aAJ hk htk18;have hin18:=(aAZ htk18).2.2;have hid18:t18.2.1∈aD2:=hin18.resolve_left (by decide);have hir18:=aPS hid18;refine aAq 1 7 19 [(18,vS t18.2.1)] f0 hM (aHi (aNb.st (hM.get 1 rfl)) hid18) fun w1 hM=>aAp 3 3 24 [(3,vI (idx t18.2.1)),(4,vI (idx t18.2.1)),(23,vP rb 0)] (cs:=#[vS [45]]) (T:=9) (v:=fun b=>vL (some ⟨b,0,none⟩) 1 1) f0 hM fun br w1 hM=>aAq 3 4 25 [] f0 hM (aBs (xs:=[aFt]) (hM.get 2 rfl) (aAN hs18 hM.fr hG) (StV.one (hM.get 3 rfl)) 4) fun w1 hM=>?_;cases h20:(aBB 4 [aFt] l18)
  ·refine seg 6 0 [] f0 ?_;have hdy:dys en ts = .ok (((idx t18.2.1),(idx t18.2.1)),l18):=(by unfold dys;rw [htk18];simp only;rw [if_neg (by rw [h20];simp)]);obtain ⟨f,hfe⟩:∃ f,f=(idx t18.2.1):=⟨_,rfl⟩;have hf0:0<=f /\ f<7:=by rw [hfe];omega
   rw [←hfe];rw [←hfe] at hdy;have hP:=aPo hdy;have hlen0:l18.length<=ts.length:=by have:=aHp hdy;omega
   have hM:Mm G w _ [bk bd (aD2.map fun l=>Value.string (ofL l)).toArray 9,rw_ spL 2 141 (vL q ss.length cq) ss,bk rb #[vL p18 l18.length cc18,vI en,vL q ss.length cq] 170]:=(hM.pick [1,0,2])
   have aq:∀ (ai:Nat) (l:List (Tok Int)) (acc:List Sp) (pl:Option Addr) (cl:Nat) (q:Option Addr) (cq:Nat) (w2:World),SrcB tkL 3 w B pl cl l->aAt B p c ts pl cl l->Tk l->part en ts=pre acc (aCf en f f l)->acc.length+14*l.length<=14*ts.length->Mm G w w2 [bk bd (aD2.map fun l=>Value.string (ofL l)).toArray 9,rw_ spL 2 141 (vL q (ss++acc).length cq) (ss++acc),bk rb #[vL pl l.length cl,vI en,vL q (ss++acc).length cq] 170]->ai=l.length->aVj Z (some (6,0)) [(4,vI f),(3,vI f),(0,vP rb 0)] w2:=by
    refine aA8 fun ai aj l acc pl cl q cq w2 hs2 hB2 hk hP hal hM bs=>?_;rcases hck24:clock en 23 l with ⟨c24,x24⟩ | ⟨⟨ac,y24⟩,l24⟩
    · exact aNR 6 1 40 [(39,vP rb 0)] [2] f0 hM rfl (by decide) (fun hm=>(aBp (most:=23) hm (aAN hs2 hM.fr hG) (fun k h=>by rw [aEL (b:=rb) rfl h];exact hrB) hk).mono fun e w8 h=>by unfold aBv at h;rw [hck24] at h;exact h) (fun a w9 f9 hd=>pn_ (P:=Tryz.prog) (fn:=Tryz.f124) hd (hZ _ _ ((by rw [hP,aB9 (by unfold aD4;rw [hck24];(try simp only))];exact ⟨rfl,f9⟩))))
    refine aAM 6 1 40 [(39,vP rb 0)] (K:=fun u Mn=>u = .tuple #[vI ac,vI y24] /\ ∃ p' c',aAt B pl cl l p' c' l24 /\ Mn=[bk rb #[vL p' l24.length c',vI en,vL q (ss++acc).length cq] 170]) [0,1] [2] f0 hM rfl rfl (by decide) (fun hm=>(aBp (most:=23) hm (aAN hs2 hM.fr hG) (fun k h=>by rw [aEL (b:=rb) rfl h];exact hrB) hk).mono fun e w8 h=>by unfold aBv at h;rw [hck24] at h;obtain ⟨h1,p',c',h2,h3⟩:=h;exact ⟨_,_,h1,⟨rfl,p',c',h2,rfl⟩,h3⟩) fun u Mn w1 hK hM=>?_;obtain ⟨rfl,p24,cc24,hb24,rfl⟩:=hK;have hs24:=hb24 _ hs2;have hB24:aAt B p c ts p24 cc24 l24:=fun w1 h=>hb24 w1 (hB2 w1 h);obtain ⟨bt,bu,bv,hk⟩:=aCk hk hck24;refine aAp 7 3 46 [(5,vI ac),(45,vP rb 0)] (cs:=#[vS [45]]) (T:=9) (v:=fun b=>vL (some ⟨b,0,none⟩) 1 1) f0 hM fun bw w1 hM=>?_;rcases htk26:take en 4 [aFt] l24 with ⟨c26,x26⟩ | ⟨t26,l26⟩
    · exact aNR 7 4 47 [] [2] f0 hM rfl (by decide) (fun hm=>(aAr (xs:=[aFt]) hm (aAN hs24 hM.fr hG) (fun k h=>by rw [aEL (b:=rb) rfl h];exact hrB) (aE2 (hM.get 3 rfl) (hM.notin (i:=3) (js:=[2]) rfl rfl (by decide)) fun w9 h=>StV.one h) 4).mono fun e w8 h=>by unfold aBv at h;rw [htk26] at h;exact h) (fun a w9 f9 hd=>pn_ (P:=Tryz.prog) (fn:=Tryz.f124) hd (hZ _ _ ((by rw [hP,aB9 (by unfold aD4;rw [hck24];(try simp only);rw [htk26];(try simp only))];exact ⟨rfl,f9⟩))))
    refine aAM 7 4 47 [] (K:=fun u Mn=>u=vA (tkL t26) /\ ∃ p' c',aAt B p24 cc24 l24 p' c' l26 /\ Mn=[bk rb #[vL p' l26.length c',vI en,vL q (ss++acc).length cq] 170]) [0,1,3] [2] f0 hM rfl rfl (by decide) (fun hm=>(aAr (xs:=[aFt]) hm (aAN hs24 hM.fr hG) (fun k h=>by rw [aEL (b:=rb) rfl h];exact hrB) (aE2 (hM.get 3 rfl) (hM.notin (i:=3) (js:=[2]) rfl rfl (by decide)) fun w9 h=>StV.one h) 4).mono fun e w8 h=>by unfold aBv at h;rw [htk26] at h;obtain ⟨h1,p',c',h2,h3⟩:=h;exact ⟨_,_,h1,⟨rfl,p',c',h2,rfl⟩,h3⟩) fun u Mn w1 hK hM=>?_;obtain ⟨rfl,p26,cc26,hb26,rfl⟩:=hK;have hs26:=hb26 _ hs24;have hB26:aAt B p c ts p26 cc26 l26:=fun w1 h=>hb26 w1 (hB24 w1 h);obtain ⟨hto26,hkd26,hk⟩:=aAJ hk htk26;rcases hck27:clock en 24 l26 with ⟨c27,x27⟩ | ⟨⟨aa,y27⟩,l27⟩
    · exact aNR 8 1 50 [(49,vP rb 0)] [3] f0 hM rfl (by decide) (fun hm=>(aBp (most:=24) hm (aAN hs26 hM.fr hG) (fun k h=>by rw [aEL (b:=rb) rfl h];exact hrB) hk).mono fun e w8 h=>by unfold aBv at h;rw [hck27] at h;exact h) (fun a w9 f9 hd=>pn_ (P:=Tryz.prog) (fn:=Tryz.f124) hd (hZ _ _ ((by rw [hP,aB9 (by unfold aD4;rw [hck24];(try simp only);rw [htk26];(try simp only);rw [hck27];(try simp only))];exact ⟨rfl,f9⟩))))
    refine aAM 8 1 50 [(49,vP rb 0)] (K:=fun u Mn=>u = .tuple #[vI aa,vI y27] /\ ∃ p' c',aAt B p26 cc26 l26 p' c' l27 /\ Mn=[bk rb #[vL p' l27.length c',vI en,vL q (ss++acc).length cq] 170]) [0,1,2] [3] f0 hM rfl rfl (by decide) (fun hm=>(aBp (most:=24) hm (aAN hs26 hM.fr hG) (fun k h=>by rw [aEL (b:=rb) rfl h];exact hrB) hk).mono fun e w8 h=>by unfold aBv at h;rw [hck27] at h;obtain ⟨h1,p',c',h2,h3⟩:=h;exact ⟨_,_,h1,⟨rfl,p',c',h2,rfl⟩,h3⟩) fun u Mn w1 hK hM=>?_;obtain ⟨rfl,p27,cc27,hb27,rfl⟩:=hK;have hs27:=hb27 _ hs26;have hB27:aAt B p c ts p27 cc27 l27:=fun w1 h=>hb27 w1 (hB26 w1 h);obtain ⟨bz,b0,b1,hk⟩:=aCk hk hck27;refine seg 9 4 [(7,vI aa),(8,vI y27),(53,vB (ac==aa))] f0 ?_;cases h28:(ac==aa)
    rotate_left
    ·exact pan 10 3 [(59,aJy 10 y27)] 165 (.agg #[vI 10,vI y27]) f0 hM (fun a f9 hd=>pn_ (P:=Tryz.prog) (fn:=Tryz.f124) hd (hZ _ _ ((by rw [hP,aB9 (by unfold aD4;rw [hck24];(try simp only);rw [htk26];(try simp only);rw [hck27];(try simp only);rw [if_pos h28])];exact ⟨rfl,f9⟩))))
    refine seg 11 4 [(60,vB (decide (aa<ac)))] f0 ?_;cases h29:(decide (aa<ac))
    ·have ar:=df h29;refine seg 14 0 [(71,vI ((((f-f)+7)%7)+1)),(72,vI 0)] (fc (aBx f f u3_) (fc (aAe (f-f) 7 u3_) (fc (aNY ((f-f)+7) 7 u3_) (fc (aAe (((f-f)+7)%7) 1 u3_) f0)))) ?_;obtain ⟨n,hn⟩:∃ n:Nat,n=((f-f+7)%7+1).toNat:=⟨_,rfl⟩;have hnn:((((f-f)+7)%7)+1)=(n:Int):=by omega
     have hn7:n<=7:=by omega
     rw [hnn];have hM:Mm G w _ [bk bd (aD2.map fun l=>Value.string (ofL l)).toArray 9,rw_ spL 2 141 (vL q (ss++acc).length cq) (ss++acc),bk rb #[vL p27 l27.length cc27,vI en,vL q (ss++acc).length cq] 170]:=(hM.pick [0,1,3])
     have au:∀ (ak:Nat) (i:Nat) (q2:Option Addr) (cq2:Nat) (w2:World),i<=n->Mm G w w2 [bk bd (aD2.map fun l=>Value.string (ofL l)).toArray 9,rw_ spL 2 141 (vL q2 (ss++acc++aBD f ac aa i).length cq2) (ss++acc++aBD f ac aa i),bk rb #[vL p27 l27.length cc27,vI en,vL q2 (ss++acc++aBD f ac aa i).length cq2] 170]->ak=n-i->aVj Z (some (14,0)) [(72,vI (i:Int)),(71,vI (n:Int)),(7,vI aa),(5,vI ac),(4,vI f),(3,vI f),(0,vP rb 0)] w2:=by
      refine aA8 fun ak av i q2 cq2 w2 hi hM b2=>seg 14 1 [(73,vB (decide ((i:Int)<(n:Int))))] f0 ?_;cases h33:(decide ((i:Int)<(n:Int)))
      rotate_left
      ·have aw:=dt h33;refine aAM 17 7 87 [(80,vP rb 0),(83,vI ((((f+(i:Int))%7)*1440)+ac)),(86,vI ((((f+(i:Int))%7)*1440)+aa))] (K:=fun u Mn=>u = .tuple #[] /\ ∃ q2 c2,Mn=[bk rb #[vL p27 l27.length cc27,vI en,vL q2 ((ss++acc++aBD f ac aa i)++aDi ((((f+(i:Int))%7)*1440)+ac) ((((f+(i:Int))%7)*1440)+aa)).length c2] 170,rw_ spL 2 141 (vL q2 ((ss++acc++aBD f ac aa i)++aDi ((((f+(i:Int))%7)*1440)+ac) ((((f+(i:Int))%7)*1440)+aa)).length c2) ((ss++acc++aBD f ac aa i)++aDi ((((f+(i:Int))%7)*1440)+ac) ((((f+(i:Int))%7)*1440)+aa))]) [0] [2,1] (fc (aAe f (i:Int) u3_) (fc (aNY (f+(i:Int)) 7 u3_) (fc (aIx ((f+(i:Int))%7) 1440 u3_) (fc (aAe (((f+(i:Int))%7)*1440) ac u3_) (fc (aAe (((f+(i:Int))%7)*1440) aa u3_) f0))))) hM rfl rfl (by decide) (fun hm=>aEa (by omega) (by omega) (by have:=aCx f ac aa i;simp only [Gk_];omega) hm) fun u Mn w1 hK hM=>?_;obtain ⟨rfl,ax,ay,rfl⟩:=hK;refine seg 14 0 [(72,vI ((i:Int)+1))] (fc (aAe (i:Int) 1 u3_) f0) ?_;have e9:((ss++acc++aBD f ac aa i)++aDi ((((f+(i:Int))%7)*1440)+ac) ((((f+(i:Int))%7)*1440)+aa))=ss++acc++aBD f ac aa (i+1):=by rw [aDZ,tm7 hf0.1,←Gn_]
       rw [e9] at hM;exact aAb _ (av _ (by omega) (i+1) ax ay _ (by omega) (hM.pick [0,2,1]) rfl)
      have aw:=df h33;have hti:aD4 en f f l = .ok ((aBD f ac aa n),l27):=(by unfold aD4;rw [hck24];simp only;rw [htk26];simp only;rw [hck27];simp only;rw [if_neg (by rw [h28];simp),if_neg (of_decide_eq_false h29),aNM hf0.1 hf0.2 hf0.1 hf0.2,show (f-f+7)%7+1=(n:Int) from hnn];rfl);have hie:i=n:=by omega
      rw [hie] at hM;replace hM:Mm G w _ [bk bd (aD2.map fun l=>Value.string (ofL l)).toArray 9,_,bk rb #[vL p27 l27.length cc27,vI en,vL q2 (ss++acc++(aBD f ac aa n)).length cq2] 170]:=hM;refine aAp 19 3 92 [(91,vP rb 0)] (cs:=#[vS [44]]) (T:=9) (v:=fun b=>vL (some ⟨b,0,none⟩) 1 1) f0 hM fun b3 w1 hM=>aAq 19 4 93 [] f0 hM (aBs (xs:=[aAW]) (hM.get 2 rfl) (aAN hs27 hM.fr hG) (StV.one (hM.get 3 rfl)) 4) fun w1 hM=>seg 19 7 [(95,vB (!(aBB 4 [aAW] l27)))] f0 ?_;cases h35:(aBB 4 [aAW] l27)
      ·rw [Gn_] at hM;exact rt0 rfl f0 (hZ _ _ (by rw [hP,aAL hti (aGw h35)];exact ⟨rfl,_,_,_,_,hB27,hM.pick [2,1]⟩))
      refine seg 19 16 [(104,vB (decide ((l27.length:Int)<2)))] (fc (ldm 130 2 0 hM rfl rfl) f0) ?_;cases h36:(decide ((l27.length:Int)<2))
      rotate_left
      ·have az:=dt h36;rw [Gn_] at hM;exact rt0 rfl f0 (hZ _ _ (by rw [hP,aAL hti (aEk (by omega))];exact ⟨rfl,_,_,_,_,hB27,hM.pick [2,1]⟩))
      have az:=df h36;obtain ⟨y37,ae,b4,b5,q37,a0,n37⟩:=(hs27).eb hG (i:=1) (by omega);refine seg 19 26 [(114,vB (!(y37.1==2)))] (fc (ldm 130 2 0 hM rfl rfl) (fc (ix 130 cc27 q37 (gl ae)) (fc (ld0 3 hM (a0 0 _ rfl) n37) f0))) ?_;cases h38:(y37.1==2)
      ·rw [Gn_] at hM;exact rt0 rfl f0 (hZ _ _ (by rw [hP,aAL hti ((by rw [aDR ae,h38,Bool.and_false]))];exact ⟨rfl,_,_,_,_,hB27,hM.pick [2,1]⟩))
      have hmo:more l27=true:=by rw [aDR ae,h35,h38];rfl
      rcases htk39:take en 4 ([]:List Bys) l27 with ⟨c39,x39⟩ | ⟨t39,l39⟩
      · exfalso;obtain ⟨t9,l9,h9,_⟩:=aCG (en:=en) h35;rw [h9] at htk39;cases htk39
      refine aAM 20 3 118 [(117,vP rb 0)] (K:=fun u Mn=>u=vA (tkL t39) /\ ∃ p' c',aAt B p27 cc27 l27 p' c' l39 /\ Mn=[bk rb #[vL p' l39.length c',vI en,vL q2 (ss++acc++(aBD f ac aa n)).length cq2] 170]) [0,1,3] [2] f0 hM rfl rfl (by decide) (fun hm=>(aAr (xs:=([]:List Bys)) hm (aAN hs27 hM.fr hG) (fun k h=>by rw [aEL (b:=rb) rfl h];exact hrB) aCp 4).mono fun e w8 h=>by unfold aBv at h;rw [htk39] at h;obtain ⟨h1,p',c',h2,h3⟩:=h;exact ⟨_,_,h1,⟨rfl,p',c',h2,rfl⟩,h3⟩) fun u Mn w1 hK hM=>?_;obtain ⟨rfl,p39,cc39,hb39,rfl⟩:=hK;have hs39:=hb39 _ hs27;have hB39:aAt B p c ts p39 cc39 l39:=fun w1 h=>hb39 w1 (hB27 w1 h);obtain ⟨hto39,hkd39,hk⟩:=aAJ hk htk39;have htl39:l27=t39::l39:=(aAZ htk39).1;refine seg 6 0 [] f0 ?_;have hPn:part en ts=pre (acc++(aBD f ac aa n)) (aCf en f f l39):=by rw [hP,aDj hti hmo,htl39];rfl
      have hl9:=aCN hti;have hl8:l27.length=l39.length+1:=by rw [htl39];rfl
      have hdn:=aCx f ac aa n;rw [Gn_] at hM;exact aAb _ (aj _ (by omega) l39 (acc++(aBD f ac aa n)) p39 cc39 q2 cq2 _ (hs39) (hB39) hk hPn (by simp only [Gk_];omega) (hM.pick [0,1,3]) rfl)
     exact aAb _ (au _ 0 q cq _ (Gg_ _) (hM.cast (by simp only [show aBD f ac aa 0=[] from rfl,List.append_nil])) rfl)
    have ar:=dt h29;refine seg 14 0 [(7,vI (aa+1440)),(71,vI ((((f-f)+7)%7)+1)),(72,vI 0)] (fc (aAe aa 1440 u3_) (fc (aBx f f u3_) (fc (aAe (f-f) 7 u3_) (fc (aNY ((f-f)+7) 7 u3_) (fc (aAe (((f-f)+7)%7) 1 u3_) f0))))) ?_;obtain ⟨n,hn⟩:∃ n:Nat,n=((f-f+7)%7+1).toNat:=⟨_,rfl⟩;have hnn:((((f-f)+7)%7)+1)=(n:Int):=by omega
    have hn7:n<=7:=by omega
    rw [hnn];have hM:Mm G w _ [bk bd (aD2.map fun l=>Value.string (ofL l)).toArray 9,rw_ spL 2 141 (vL q (ss++acc).length cq) (ss++acc),bk rb #[vL p27 l27.length cc27,vI en,vL q (ss++acc).length cq] 170]:=(hM.pick [0,1,3])
    have a1:∀ (al:Nat) (i:Nat) (q2:Option Addr) (cq2:Nat) (w2:World),i<=n->Mm G w w2 [bk bd (aD2.map fun l=>Value.string (ofL l)).toArray 9,rw_ spL 2 141 (vL q2 (ss++acc++aBD f ac (aa+1440) i).length cq2) (ss++acc++aBD f ac (aa+1440) i),bk rb #[vL p27 l27.length cc27,vI en,vL q2 (ss++acc++aBD f ac (aa+1440) i).length cq2] 170]->al=n-i->aVj Z (some (14,0)) [(72,vI (i:Int)),(71,vI (n:Int)),(7,vI (aa+1440)),(5,vI ac),(4,vI f),(3,vI f),(0,vP rb 0)] w2:=by
     refine aA8 fun al a2 i q2 cq2 w2 hi hM b6=>seg 14 1 [(73,vB (decide ((i:Int)<(n:Int))))] f0 ?_;cases h44:(decide ((i:Int)<(n:Int)))
     rotate_left
     ·have a3:=dt h44;refine aAM 17 7 87 [(80,vP rb 0),(83,vI ((((f+(i:Int))%7)*1440)+ac)),(86,vI ((((f+(i:Int))%7)*1440)+(aa+1440)))] (K:=fun u Mn=>u = .tuple #[] /\ ∃ q2 c2,Mn=[bk rb #[vL p27 l27.length cc27,vI en,vL q2 ((ss++acc++aBD f ac (aa+1440) i)++aDi ((((f+(i:Int))%7)*1440)+ac) ((((f+(i:Int))%7)*1440)+(aa+1440))).length c2] 170,rw_ spL 2 141 (vL q2 ((ss++acc++aBD f ac (aa+1440) i)++aDi ((((f+(i:Int))%7)*1440)+ac) ((((f+(i:Int))%7)*1440)+(aa+1440))).length c2) ((ss++acc++aBD f ac (aa+1440) i)++aDi ((((f+(i:Int))%7)*1440)+ac) ((((f+(i:Int))%7)*1440)+(aa+1440)))]) [0] [2,1] (fc (aAe f (i:Int) u3_) (fc (aNY (f+(i:Int)) 7 u3_) (fc (aIx ((f+(i:Int))%7) 1440 u3_) (fc (aAe (((f+(i:Int))%7)*1440) ac u3_) (fc (aAe (((f+(i:Int))%7)*1440) (aa+1440) u3_) f0))))) hM rfl rfl (by decide) (fun hm=>aEa (by omega) (by omega) (by have:=aCx f ac (aa+1440) i;simp only [Gk_];omega) hm) fun u Mn w1 hK hM=>?_;obtain ⟨rfl,a4,a5,rfl⟩:=hK;refine seg 14 0 [(72,vI ((i:Int)+1))] (fc (aAe (i:Int) 1 u3_) f0) ?_;have e9:((ss++acc++aBD f ac (aa+1440) i)++aDi ((((f+(i:Int))%7)*1440)+ac) ((((f+(i:Int))%7)*1440)+(aa+1440)))=ss++acc++aBD f ac (aa+1440) (i+1):=by rw [aDZ,tm7 hf0.1,←Gn_]
      rw [e9] at hM;exact aAb _ (a2 _ (by omega) (i+1) a4 a5 _ (by omega) (hM.pick [0,2,1]) rfl)
     have a3:=df h44;have hti:aD4 en f f l = .ok ((aBD f ac (aa+1440) n),l27):=(by unfold aD4;rw [hck24];simp only;rw [htk26];simp only;rw [hck27];simp only;rw [if_neg (by rw [h28];simp),if_pos (of_decide_eq_true h29),aNM hf0.1 hf0.2 hf0.1 hf0.2,show (f-f+7)%7+1=(n:Int) from hnn];rfl);have hie:i=n:=by omega
     rw [hie] at hM;replace hM:Mm G w _ [bk bd (aD2.map fun l=>Value.string (ofL l)).toArray 9,_,bk rb #[vL p27 l27.length cc27,vI en,vL q2 (ss++acc++(aBD f ac (aa+1440) n)).length cq2] 170]:=hM;refine aAp 19 3 92 [(91,vP rb 0)] (cs:=#[vS [44]]) (T:=9) (v:=fun b=>vL (some ⟨b,0,none⟩) 1 1) f0 hM fun b7 w1 hM=>aAq 19 4 93 [] f0 hM (aBs (xs:=[aAW]) (hM.get 2 rfl) (aAN hs27 hM.fr hG) (StV.one (hM.get 3 rfl)) 4) fun w1 hM=>seg 19 7 [(95,vB (!(aBB 4 [aAW] l27)))] f0 ?_;cases h46:(aBB 4 [aAW] l27)
     ·rw [Gn_] at hM;exact rt0 rfl f0 (hZ _ _ (by rw [hP,aAL hti (aGw h46)];exact ⟨rfl,_,_,_,_,hB27,hM.pick [2,1]⟩))
     refine seg 19 16 [(104,vB (decide ((l27.length:Int)<2)))] (fc (ldm 130 2 0 hM rfl rfl) f0) ?_;cases h47:(decide ((l27.length:Int)<2))
     rotate_left
     ·have a6:=dt h47;rw [Gn_] at hM;exact rt0 rfl f0 (hZ _ _ (by rw [hP,aAL hti (aEk (by omega))];exact ⟨rfl,_,_,_,_,hB27,hM.pick [2,1]⟩))
     have a6:=df h47;obtain ⟨y48,af,b8,b9,q48,a7,n48⟩:=(hs27).eb hG (i:=1) (by omega);refine seg 19 26 [(114,vB (!(y48.1==2)))] (fc (ldm 130 2 0 hM rfl rfl) (fc (ix 130 cc27 q48 (gl af)) (fc (ld0 3 hM (a7 0 _ rfl) n48) f0))) ?_;cases h49:(y48.1==2)
     ·rw [Gn_] at hM;exact rt0 rfl f0 (hZ _ _ (by rw [hP,aAL hti ((by rw [aDR af,h49,Bool.and_false]))];exact ⟨rfl,_,_,_,_,hB27,hM.pick [2,1]⟩))
     have hmo:more l27=true:=by rw [aDR af,h46,h49];rfl
     rcases htk50:take en 4 ([]:List Bys) l27 with ⟨c50,x50⟩ | ⟨t50,l50⟩
     · exfalso;obtain ⟨t9,l9,h9,_⟩:=aCG (en:=en) h46;rw [h9] at htk50;cases htk50
     refine aAM 20 3 118 [(117,vP rb 0)] (K:=fun u Mn=>u=vA (tkL t50) /\ ∃ p' c',aAt B p27 cc27 l27 p' c' l50 /\ Mn=[bk rb #[vL p' l50.length c',vI en,vL q2 (ss++acc++(aBD f ac (aa+1440) n)).length cq2] 170]) [0,1,3] [2] f0 hM rfl rfl (by decide) (fun hm=>(aAr (xs:=([]:List Bys)) hm (aAN hs27 hM.fr hG) (fun k h=>by rw [aEL (b:=rb) rfl h];exact hrB) aCp 4).mono fun e w8 h=>by unfold aBv at h;rw [htk50] at h;obtain ⟨h1,p',c',h2,h3⟩:=h;exact ⟨_,_,h1,⟨rfl,p',c',h2,rfl⟩,h3⟩) fun u Mn w1 hK hM=>?_;obtain ⟨rfl,p50,cc50,hb50,rfl⟩:=hK;have hs50:=hb50 _ hs27;have hB50:aAt B p c ts p50 cc50 l50:=fun w1 h=>hb50 w1 (hB27 w1 h);obtain ⟨hto50,hkd50,hk⟩:=aAJ hk htk50;have htl50:l27=t50::l50:=(aAZ htk50).1;refine seg 6 0 [] f0 ?_;have hPn:part en ts=pre (acc++(aBD f ac (aa+1440) n)) (aCf en f f l50):=by rw [hP,aDj hti hmo,htl50];rfl
     have hl9:=aCN hti;have hl8:l27.length=l50.length+1:=by rw [htl50];rfl
     have hdn:=aCx f ac (aa+1440) n;rw [Gn_] at hM;exact aAb _ (aj _ (by omega) l50 (acc++(aBD f ac (aa+1440) n)) p50 cc50 q2 cq2 _ (hs50) (hB50) hk hPn (by simp only [Gk_];omega) (hM.pick [0,1,3]) rfl)
    exact aAb _ (a1 _ 0 q cq _ (Gg_ _) (hM.cast (by simp only [show aBD f ac (aa+1440) 0=[] from rfl,List.append_nil])) rfl)
   exact aAb _ (aq _ l18 [] p18 cc18 q cq _ (hs18) (hB18) hk hP (by simp only [Go_];omega) (hM.cast (by simp only [List.append_nil])) rfl)
  rcases htk52:take en 4 ([]:List Bys) l18 with ⟨c52,x52⟩ | ⟨t52,l52⟩
  · exfalso;obtain ⟨t9,l9,h9,_⟩:=aCG (en:=en) h20;rw [h9] at htk52;cases htk52
  refine aAM 4 3 29 [(28,vP rb 0)] (K:=fun u Mn=>u=vA (tkL t52) /\ ∃ p' c',aAt B p18 cc18 l18 p' c' l52 /\ Mn=[bk rb #[vL p' l52.length c',vI en,vL q ss.length cq] 170]) [0,1,3] [2] f0 hM rfl rfl (by decide) (fun hm=>(aAr (xs:=([]:List Bys)) hm (aAN hs18 hM.fr hG) (fun k h=>by rw [aEL (b:=rb) rfl h];exact hrB) aCp 4).mono fun e w8 h=>by unfold aBv at h;rw [htk52] at h;obtain ⟨h1,p',c',h2,h3⟩:=h;exact ⟨_,_,h1,⟨rfl,p',c',h2,rfl⟩,h3⟩) fun u Mn w1 hK hM=>?_;obtain ⟨rfl,p52,cc52,hb52,rfl⟩:=hK;have hs52:=hb52 _ hs18;have hB52:aAt B p c ts p52 cc52 l52:=fun w1 h=>hb52 w1 (hB18 w1 h);obtain ⟨hto52,hkd52,hk⟩:=aAJ hk htk52;have htl52:l18=t52::l52:=(aAZ htk52).1;rcases htk53:take en 1 aD2 l52 with ⟨c53,x53⟩ | ⟨t53,l53⟩
  · exact aNR 5 5 35 [(30,vL (some ⟨bd,0,none⟩) 7 7),(33,vP rb 0),(34,vL (some ⟨bd,0,none⟩) 7 7)] [3] f0 hM rfl (by decide) (fun hm=>(aAr (xs:=aD2) hm (aAN hs52 hM.fr hG) (fun k h=>by rw [aEL (b:=rb) rfl h];exact hrB) (aE2 (hM.get 1 rfl) (hM.notin (i:=1) (js:=[3]) rfl rfl (by decide)) fun w9 h=>aNb.st h) 1).mono fun e w8 h=>by unfold aBv at h;rw [htk53] at h;exact h) (fun a w9 f9 hd=>pn_ (P:=Tryz.prog) (fn:=Tryz.f124) hd (hZ _ _ ((by rw [aPn (by unfold dys;rw [htk18];(try simp only);rw [if_pos h20,htl52];simp only [List.drop_succ_cons,List.drop_zero];rw [htk53];(try simp only);(try rfl))];exact ⟨rfl,f9⟩))))
  refine aAM 5 5 35 [(30,vL (some ⟨bd,0,none⟩) 7 7),(33,vP rb 0),(34,vL (some ⟨bd,0,none⟩) 7 7)] (K:=fun u Mn=>u=vA (tkL t53) /\ ∃ p' c',aAt B p52 cc52 l52 p' c' l53 /\ Mn=[bk rb #[vL p' l53.length c',vI en,vL q ss.length cq] 170]) [0,1,2] [3] f0 hM rfl rfl (by decide) (fun hm=>(aAr (xs:=aD2) hm (aAN hs52 hM.fr hG) (fun k h=>by rw [aEL (b:=rb) rfl h];exact hrB) (aE2 (hM.get 1 rfl) (hM.notin (i:=1) (js:=[3]) rfl rfl (by decide)) fun w9 h=>aNb.st h) 1).mono fun e w8 h=>by unfold aBv at h;rw [htk53] at h;obtain ⟨h1,p',c',h2,h3⟩:=h;exact ⟨_,_,h1,⟨rfl,p',c',h2,rfl⟩,h3⟩) fun u Mn w1 hK hM=>?_;obtain ⟨rfl,p53,cc53,hb53,rfl⟩:=hK;have hs53:=hb53 _ hs52;have hB53:aAt B p c ts p53 cc53 l53:=fun w1 h=>hb53 w1 (hB52 w1 h);obtain ⟨hto53,hkd53,hk⟩:=aAJ hk htk53;have hin53:=(aAZ htk53).2.2;have hid53:t53.2.1∈aD2:=hin53.resolve_left (by decide);have hir53:=aPS hid53;refine aAq 5 7 37 [(36,vS t53.2.1)] f0 hM (aHi (aNb.st (hM.get 1 rfl)) hid53) fun w1 hM=>seg 6 0 [(4,vI (idx t53.2.1))] f0 ?_;have hdy:dys en ts = .ok (((idx t18.2.1),(idx t53.2.1)),l53):=(by unfold dys;rw [htk18];simp only;rw [if_pos h20,htl52];simp only [List.drop_succ_cons,List.drop_zero];rw [htk53]);obtain ⟨f,hfe⟩:∃ f,f=(idx t18.2.1):=⟨_,rfl⟩;have hf0:0<=f /\ f<7:=by rw [hfe];omega
  rw [←hfe];rw [←hfe] at hdy;obtain ⟨t,hte⟩:∃ t,t=(idx t53.2.1):=⟨_,rfl⟩;have ht0:0<=t /\ t<7:=by rw [hte];omega
  rw [←hte];rw [←hte] at hdy;have hP:=aPo hdy;have hlen0:l53.length<=ts.length:=by have:=aHp hdy;omega
  have hM:Mm G w _ [bk bd (aD2.map fun l=>Value.string (ofL l)).toArray 9,rw_ spL 2 141 (vL q ss.length cq) ss,bk rb #[vL p53 l53.length cc53,vI en,vL q ss.length cq] 170]:=(hM.pick [1,0,3])
  have a8:∀ (am:Nat) (l:List (Tok Int)) (acc:List Sp) (pl:Option Addr) (cl:Nat) (q:Option Addr) (cq:Nat) (w2:World),SrcB tkL 3 w B pl cl l->aAt B p c ts pl cl l->Tk l->part en ts=pre acc (aCf en f t l)->acc.length+14*l.length<=14*ts.length->Mm G w w2 [bk bd (aD2.map fun l=>Value.string (ofL l)).toArray 9,rw_ spL 2 141 (vL q (ss++acc).length cq) (ss++acc),bk rb #[vL pl l.length cl,vI en,vL q (ss++acc).length cq] 170]->am=l.length->aVj Z (some (6,0)) [(4,vI t),(3,vI f),(0,vP rb 0)] w2:=by
   refine aA8 fun am an l acc pl cl q cq w2 hs2 hB2 hk hP hal hM ca=>?_;rcases hck57:clock en 23 l with ⟨c57,x57⟩ | ⟨⟨ad,y57⟩,l57⟩
   · exact aNR 6 1 40 [(39,vP rb 0)] [2] f0 hM rfl (by decide) (fun hm=>(aBp (most:=23) hm (aAN hs2 hM.fr hG) (fun k h=>by rw [aEL (b:=rb) rfl h];exact hrB) hk).mono fun e w8 h=>by unfold aBv at h;rw [hck57] at h;exact h) (fun a w9 f9 hd=>pn_ (P:=Tryz.prog) (fn:=Tryz.f124) hd (hZ _ _ ((by rw [hP,aB9 (by unfold aD4;rw [hck57];(try simp only))];exact ⟨rfl,f9⟩))))
   refine aAM 6 1 40 [(39,vP rb 0)] (K:=fun u Mn=>u = .tuple #[vI ad,vI y57] /\ ∃ p' c',aAt B pl cl l p' c' l57 /\ Mn=[bk rb #[vL p' l57.length c',vI en,vL q (ss++acc).length cq] 170]) [0,1] [2] f0 hM rfl rfl (by decide) (fun hm=>(aBp (most:=23) hm (aAN hs2 hM.fr hG) (fun k h=>by rw [aEL (b:=rb) rfl h];exact hrB) hk).mono fun e w8 h=>by unfold aBv at h;rw [hck57] at h;obtain ⟨h1,p',c',h2,h3⟩:=h;exact ⟨_,_,h1,⟨rfl,p',c',h2,rfl⟩,h3⟩) fun u Mn w1 hK hM=>?_;obtain ⟨rfl,p57,cc57,hb57,rfl⟩:=hK;have hs57:=hb57 _ hs2;have hB57:aAt B p c ts p57 cc57 l57:=fun w1 h=>hb57 w1 (hB2 w1 h);obtain ⟨cb,cc,cd,hk⟩:=aCk hk hck57;refine aAp 7 3 46 [(5,vI ad),(45,vP rb 0)] (cs:=#[vS [45]]) (T:=9) (v:=fun b=>vL (some ⟨b,0,none⟩) 1 1) f0 hM fun ce w1 hM=>?_;rcases htk59:take en 4 [aFt] l57 with ⟨c59,x59⟩ | ⟨t59,l59⟩
   · exact aNR 7 4 47 [] [2] f0 hM rfl (by decide) (fun hm=>(aAr (xs:=[aFt]) hm (aAN hs57 hM.fr hG) (fun k h=>by rw [aEL (b:=rb) rfl h];exact hrB) (aE2 (hM.get 3 rfl) (hM.notin (i:=3) (js:=[2]) rfl rfl (by decide)) fun w9 h=>StV.one h) 4).mono fun e w8 h=>by unfold aBv at h;rw [htk59] at h;exact h) (fun a w9 f9 hd=>pn_ (P:=Tryz.prog) (fn:=Tryz.f124) hd (hZ _ _ ((by rw [hP,aB9 (by unfold aD4;rw [hck57];(try simp only);rw [htk59];(try simp only))];exact ⟨rfl,f9⟩))))
   refine aAM 7 4 47 [] (K:=fun u Mn=>u=vA (tkL t59) /\ ∃ p' c',aAt B p57 cc57 l57 p' c' l59 /\ Mn=[bk rb #[vL p' l59.length c',vI en,vL q (ss++acc).length cq] 170]) [0,1,3] [2] f0 hM rfl rfl (by decide) (fun hm=>(aAr (xs:=[aFt]) hm (aAN hs57 hM.fr hG) (fun k h=>by rw [aEL (b:=rb) rfl h];exact hrB) (aE2 (hM.get 3 rfl) (hM.notin (i:=3) (js:=[2]) rfl rfl (by decide)) fun w9 h=>StV.one h) 4).mono fun e w8 h=>by unfold aBv at h;rw [htk59] at h;obtain ⟨h1,p',c',h2,h3⟩:=h;exact ⟨_,_,h1,⟨rfl,p',c',h2,rfl⟩,h3⟩) fun u Mn w1 hK hM=>?_;obtain ⟨rfl,p59,cc59,hb59,rfl⟩:=hK;have hs59:=hb59 _ hs57;have hB59:aAt B p c ts p59 cc59 l59:=fun w1 h=>hb59 w1 (hB57 w1 h);obtain ⟨hto59,hkd59,hk⟩:=aAJ hk htk59;rcases hck60:clock en 24 l59 with ⟨c60,x60⟩ | ⟨⟨ab,y60⟩,l60⟩
   · exact aNR 8 1 50 [(49,vP rb 0)] [3] f0 hM rfl (by decide) (fun hm=>(aBp (most:=24) hm (aAN hs59 hM.fr hG) (fun k h=>by rw [aEL (b:=rb) rfl h];exact hrB) hk).mono fun e w8 h=>by unfold aBv at h;rw [hck60] at h;exact h) (fun a w9 f9 hd=>pn_ (P:=Tryz.prog) (fn:=Tryz.f124) hd (hZ _ _ ((by rw [hP,aB9 (by unfold aD4;rw [hck57];(try simp only);rw [htk59];(try simp only);rw [hck60];(try simp only))];exact ⟨rfl,f9⟩))))
   refine aAM 8 1 50 [(49,vP rb 0)] (K:=fun u Mn=>u = .tuple #[vI ab,vI y60] /\ ∃ p' c',aAt B p59 cc59 l59 p' c' l60 /\ Mn=[bk rb #[vL p' l60.length c',vI en,vL q (ss++acc).length cq] 170]) [0,1,2] [3] f0 hM rfl rfl (by decide) (fun hm=>(aBp (most:=24) hm (aAN hs59 hM.fr hG) (fun k h=>by rw [aEL (b:=rb) rfl h];exact hrB) hk).mono fun e w8 h=>by unfold aBv at h;rw [hck60] at h;obtain ⟨h1,p',c',h2,h3⟩:=h;exact ⟨_,_,h1,⟨rfl,p',c',h2,rfl⟩,h3⟩) fun u Mn w1 hK hM=>?_;obtain ⟨rfl,p60,cc60,hb60,rfl⟩:=hK;have hs60:=hb60 _ hs59;have hB60:aAt B p c ts p60 cc60 l60:=fun w1 h=>hb60 w1 (hB59 w1 h);obtain ⟨cf,cg,ch,hk⟩:=aCk hk hck60;refine seg 9 4 [(7,vI ab),(8,vI y60),(53,vB (ad==ab))] f0 ?_;cases h61:(ad==ab)
   rotate_left
   ·exact pan 10 3 [(59,aJy 10 y60)] 165 (.agg #[vI 10,vI y60]) f0 hM (fun a f9 hd=>pn_ (P:=Tryz.prog) (fn:=Tryz.f124) hd (hZ _ _ ((by rw [hP,aB9 (by unfold aD4;rw [hck57];(try simp only);rw [htk59];(try simp only);rw [hck60];(try simp only);rw [if_pos h61])];exact ⟨rfl,f9⟩))))
   refine seg 11 4 [(60,vB (decide (ab<ad)))] f0 ?_;cases h62:(decide (ab<ad))
   ·have a9:=df h62;refine seg 14 0 [(71,vI ((((t-f)+7)%7)+1)),(72,vI 0)] (fc (aBx t f u3_) (fc (aAe (t-f) 7 u3_) (fc (aNY ((t-f)+7) 7 u3_) (fc (aAe (((t-f)+7)%7) 1 u3_) f0)))) ?_;obtain ⟨n,hn⟩:∃ n:Nat,n=((t-f+7)%7+1).toNat:=⟨_,rfl⟩;have hnn:((((t-f)+7)%7)+1)=(n:Int):=by omega
    have hn7:n<=7:=by omega
    rw [hnn];have hM:Mm G w _ [bk bd (aD2.map fun l=>Value.string (ofL l)).toArray 9,rw_ spL 2 141 (vL q (ss++acc).length cq) (ss++acc),bk rb #[vL p60 l60.length cc60,vI en,vL q (ss++acc).length cq] 170]:=(hM.pick [0,1,3])
    have ba:∀ (ao:Nat) (i:Nat) (q2:Option Addr) (cq2:Nat) (w2:World),i<=n->Mm G w w2 [bk bd (aD2.map fun l=>Value.string (ofL l)).toArray 9,rw_ spL 2 141 (vL q2 (ss++acc++aBD f ad ab i).length cq2) (ss++acc++aBD f ad ab i),bk rb #[vL p60 l60.length cc60,vI en,vL q2 (ss++acc++aBD f ad ab i).length cq2] 170]->ao=n-i->aVj Z (some (14,0)) [(72,vI (i:Int)),(71,vI (n:Int)),(7,vI ab),(5,vI ad),(4,vI t),(3,vI f),(0,vP rb 0)] w2:=by
     refine aA8 fun ao bb i q2 cq2 w2 hi hM ci=>seg 14 1 [(73,vB (decide ((i:Int)<(n:Int))))] f0 ?_;cases h66:(decide ((i:Int)<(n:Int)))
     rotate_left
     ·have bc:=dt h66;refine aAM 17 7 87 [(80,vP rb 0),(83,vI ((((f+(i:Int))%7)*1440)+ad)),(86,vI ((((f+(i:Int))%7)*1440)+ab))] (K:=fun u Mn=>u = .tuple #[] /\ ∃ q2 c2,Mn=[bk rb #[vL p60 l60.length cc60,vI en,vL q2 ((ss++acc++aBD f ad ab i)++aDi ((((f+(i:Int))%7)*1440)+ad) ((((f+(i:Int))%7)*1440)+ab)).length c2] 170,rw_ spL 2 141 (vL q2 ((ss++acc++aBD f ad ab i)++aDi ((((f+(i:Int))%7)*1440)+ad) ((((f+(i:Int))%7)*1440)+ab)).length c2) ((ss++acc++aBD f ad ab i)++aDi ((((f+(i:Int))%7)*1440)+ad) ((((f+(i:Int))%7)*1440)+ab))]) [0] [2,1] (fc (aAe f (i:Int) u3_) (fc (aNY (f+(i:Int)) 7 u3_) (fc (aIx ((f+(i:Int))%7) 1440 u3_) (fc (aAe (((f+(i:Int))%7)*1440) ad u3_) (fc (aAe (((f+(i:Int))%7)*1440) ab u3_) f0))))) hM rfl rfl (by decide) (fun hm=>aEa (by omega) (by omega) (by have:=aCx f ad ab i;simp only [Gk_];omega) hm) fun u Mn w1 hK hM=>?_;obtain ⟨rfl,be,bf,rfl⟩:=hK;refine seg 14 0 [(72,vI ((i:Int)+1))] (fc (aAe (i:Int) 1 u3_) f0) ?_;have e9:((ss++acc++aBD f ad ab i)++aDi ((((f+(i:Int))%7)*1440)+ad) ((((f+(i:Int))%7)*1440)+ab))=ss++acc++aBD f ad ab (i+1):=by rw [aDZ,tm7 hf0.1,←Gn_]
      rw [e9] at hM;exact aAb _ (bb _ (by omega) (i+1) be bf _ (by omega) (hM.pick [0,2,1]) rfl)
     have bc:=df h66;have hti:aD4 en f t l = .ok ((aBD f ad ab n),l60):=(by unfold aD4;rw [hck57];simp only;rw [htk59];simp only;rw [hck60];simp only;rw [if_neg (by rw [h61];simp),if_neg (of_decide_eq_false h62),aNM hf0.1 hf0.2 ht0.1 ht0.2,show (t-f+7)%7+1=(n:Int) from hnn];rfl);have hie:i=n:=by omega
     rw [hie] at hM;replace hM:Mm G w _ [bk bd (aD2.map fun l=>Value.string (ofL l)).toArray 9,_,bk rb #[vL p60 l60.length cc60,vI en,vL q2 (ss++acc++(aBD f ad ab n)).length cq2] 170]:=hM;refine aAp 19 3 92 [(91,vP rb 0)] (cs:=#[vS [44]]) (T:=9) (v:=fun b=>vL (some ⟨b,0,none⟩) 1 1) f0 hM fun cj w1 hM=>aAq 19 4 93 [] f0 hM (aBs (xs:=[aAW]) (hM.get 2 rfl) (aAN hs60 hM.fr hG) (StV.one (hM.get 3 rfl)) 4) fun w1 hM=>seg 19 7 [(95,vB (!(aBB 4 [aAW] l60)))] f0 ?_;cases h68:(aBB 4 [aAW] l60)
     ·rw [Gn_] at hM;exact rt0 rfl f0 (hZ _ _ (by rw [hP,aAL hti (aGw h68)];exact ⟨rfl,_,_,_,_,hB60,hM.pick [2,1]⟩))
     refine seg 19 16 [(104,vB (decide ((l60.length:Int)<2)))] (fc (ldm 130 2 0 hM rfl rfl) f0) ?_;cases h69:(decide ((l60.length:Int)<2))
     rotate_left
     ·have bg:=dt h69;rw [Gn_] at hM;exact rt0 rfl f0 (hZ _ _ (by rw [hP,aAL hti (aEk (by omega))];exact ⟨rfl,_,_,_,_,hB60,hM.pick [2,1]⟩))
     have bg:=df h69;obtain ⟨y70,ag,ck,cm,q70,bh,n70⟩:=(hs60).eb hG (i:=1) (by omega);refine seg 19 26 [(114,vB (!(y70.1==2)))] (fc (ldm 130 2 0 hM rfl rfl) (fc (ix 130 cc60 q70 (gl ag)) (fc (ld0 3 hM (bh 0 _ rfl) n70) f0))) ?_;cases h71:(y70.1==2)
     ·rw [Gn_] at hM;exact rt0 rfl f0 (hZ _ _ (by rw [hP,aAL hti ((by rw [aDR ag,h71,Bool.and_false]))];exact ⟨rfl,_,_,_,_,hB60,hM.pick [2,1]⟩))
     have hmo:more l60=true:=by rw [aDR ag,h68,h71];rfl
     rcases htk72:take en 4 ([]:List Bys) l60 with ⟨c72,x72⟩ | ⟨t72,l72⟩
     · exfalso;obtain ⟨t9,l9,h9,_⟩:=aCG (en:=en) h68;rw [h9] at htk72;cases htk72
     refine aAM 20 3 118 [(117,vP rb 0)] (K:=fun u Mn=>u=vA (tkL t72) /\ ∃ p' c',aAt B p60 cc60 l60 p' c' l72 /\ Mn=[bk rb #[vL p' l72.length c',vI en,vL q2 (ss++acc++(aBD f ad ab n)).length cq2] 170]) [0,1,3] [2] f0 hM rfl rfl (by decide) (fun hm=>(aAr (xs:=([]:List Bys)) hm (aAN hs60 hM.fr hG) (fun k h=>by rw [aEL (b:=rb) rfl h];exact hrB) aCp 4).mono fun e w8 h=>by unfold aBv at h;rw [htk72] at h;obtain ⟨h1,p',c',h2,h3⟩:=h;exact ⟨_,_,h1,⟨rfl,p',c',h2,rfl⟩,h3⟩) fun u Mn w1 hK hM=>?_;obtain ⟨rfl,p72,cc72,hb72,rfl⟩:=hK;have hs72:=hb72 _ hs60;have hB72:aAt B p c ts p72 cc72 l72:=fun w1 h=>hb72 w1 (hB60 w1 h);obtain ⟨hto72,hkd72,hk⟩:=aAJ hk htk72;have htl72:l60=t72::l72:=(aAZ htk72).1;refine seg 6 0 [] f0 ?_;have hPn:part en ts=pre (acc++(aBD f ad ab n)) (aCf en f t l72):=by rw [hP,aDj hti hmo,htl72];rfl
     have hl9:=aCN hti;have hl8:l60.length=l72.length+1:=by rw [htl72];rfl
     have hdn:=aCx f ad ab n;rw [Gn_] at hM;exact aAb _ (an _ (by omega) l72 (acc++(aBD f ad ab n)) p72 cc72 q2 cq2 _ (hs72) (hB72) hk hPn (by simp only [Gk_];omega) (hM.pick [0,1,3]) rfl)
    exact aAb _ (ba _ 0 q cq _ (Gg_ _) (hM.cast (by simp only [show aBD f ad ab 0=[] from rfl,List.append_nil])) rfl)
   have a9:=dt h62;refine seg 14 0 [(7,vI (ab+1440)),(71,vI ((((t-f)+7)%7)+1)),(72,vI 0)] (fc (aAe ab 1440 u3_) (fc (aBx t f u3_) (fc (aAe (t-f) 7 u3_) (fc (aNY ((t-f)+7) 7 u3_) (fc (aAe (((t-f)+7)%7) 1 u3_) f0))))) ?_;obtain ⟨n,hn⟩:∃ n:Nat,n=((t-f+7)%7+1).toNat:=⟨_,rfl⟩;have hnn:((((t-f)+7)%7)+1)=(n:Int):=by omega
   have hn7:n<=7:=by omega
   rw [hnn];have hM:Mm G w _ [bk bd (aD2.map fun l=>Value.string (ofL l)).toArray 9,rw_ spL 2 141 (vL q (ss++acc).length cq) (ss++acc),bk rb #[vL p60 l60.length cc60,vI en,vL q (ss++acc).length cq] 170]:=(hM.pick [0,1,3])
   have bi:∀ (ap:Nat) (i:Nat) (q2:Option Addr) (cq2:Nat) (w2:World),i<=n->Mm G w w2 [bk bd (aD2.map fun l=>Value.string (ofL l)).toArray 9,rw_ spL 2 141 (vL q2 (ss++acc++aBD f ad (ab+1440) i).length cq2) (ss++acc++aBD f ad (ab+1440) i),bk rb #[vL p60 l60.length cc60,vI en,vL q2 (ss++acc++aBD f ad (ab+1440) i).length cq2] 170]->ap=n-i->aVj Z (some (14,0)) [(72,vI (i:Int)),(71,vI (n:Int)),(7,vI (ab+1440)),(5,vI ad),(4,vI t),(3,vI f),(0,vP rb 0)] w2:=by
    refine aA8 fun ap bj i q2 cq2 w2 hi hM co=>seg 14 1 [(73,vB (decide ((i:Int)<(n:Int))))] f0 ?_;cases h77:(decide ((i:Int)<(n:Int)))
    rotate_left
    ·have bl:=dt h77;refine aAM 17 7 87 [(80,vP rb 0),(83,vI ((((f+(i:Int))%7)*1440)+ad)),(86,vI ((((f+(i:Int))%7)*1440)+(ab+1440)))] (K:=fun u Mn=>u = .tuple #[] /\ ∃ q2 c2,Mn=[bk rb #[vL p60 l60.length cc60,vI en,vL q2 ((ss++acc++aBD f ad (ab+1440) i)++aDi ((((f+(i:Int))%7)*1440)+ad) ((((f+(i:Int))%7)*1440)+(ab+1440))).length c2] 170,rw_ spL 2 141 (vL q2 ((ss++acc++aBD f ad (ab+1440) i)++aDi ((((f+(i:Int))%7)*1440)+ad) ((((f+(i:Int))%7)*1440)+(ab+1440))).length c2) ((ss++acc++aBD f ad (ab+1440) i)++aDi ((((f+(i:Int))%7)*1440)+ad) ((((f+(i:Int))%7)*1440)+(ab+1440)))]) [0] [2,1] (fc (aAe f (i:Int) u3_) (fc (aNY (f+(i:Int)) 7 u3_) (fc (aIx ((f+(i:Int))%7) 1440 u3_) (fc (aAe (((f+(i:Int))%7)*1440) ad u3_) (fc (aAe (((f+(i:Int))%7)*1440) (ab+1440) u3_) f0))))) hM rfl rfl (by decide) (fun hm=>aEa (by omega) (by omega) (by have:=aCx f ad (ab+1440) i;simp only [Gk_];omega) hm) fun u Mn w1 hK hM=>?_;obtain ⟨rfl,bm,bo,rfl⟩:=hK;refine seg 14 0 [(72,vI ((i:Int)+1))] (fc (aAe (i:Int) 1 u3_) f0) ?_;have e9:((ss++acc++aBD f ad (ab+1440) i)++aDi ((((f+(i:Int))%7)*1440)+ad) ((((f+(i:Int))%7)*1440)+(ab+1440)))=ss++acc++aBD f ad (ab+1440) (i+1):=by rw [aDZ,tm7 hf0.1,←Gn_]
     rw [e9] at hM;exact aAb _ (bj _ (by omega) (i+1) bm bo _ (by omega) (hM.pick [0,2,1]) rfl)
    have bl:=df h77;have hti:aD4 en f t l = .ok ((aBD f ad (ab+1440) n),l60):=(by unfold aD4;rw [hck57];simp only;rw [htk59];simp only;rw [hck60];simp only;rw [if_neg (by rw [h61];simp),if_pos (of_decide_eq_true h62),aNM hf0.1 hf0.2 ht0.1 ht0.2,show (t-f+7)%7+1=(n:Int) from hnn];rfl);have hie:i=n:=by omega
    rw [hie] at hM;replace hM:Mm G w _ [bk bd (aD2.map fun l=>Value.string (ofL l)).toArray 9,_,bk rb #[vL p60 l60.length cc60,vI en,vL q2 (ss++acc++(aBD f ad (ab+1440) n)).length cq2] 170]:=hM;refine aAp 19 3 92 [(91,vP rb 0)] (cs:=#[vS [44]]) (T:=9) (v:=fun b=>vL (some ⟨b,0,none⟩) 1 1) f0 hM fun cp w1 hM=>aAq 19 4 93 [] f0 hM (aBs (xs:=[aAW]) (hM.get 2 rfl) (aAN hs60 hM.fr hG) (StV.one (hM.get 3 rfl)) 4) fun w1 hM=>seg 19 7 [(95,vB (!(aBB 4 [aAW] l60)))] f0 ?_;cases h79:(aBB 4 [aAW] l60)
    ·rw [Gn_] at hM;exact rt0 rfl f0 (hZ _ _ (by rw [hP,aAL hti (aGw h79)];exact ⟨rfl,_,_,_,_,hB60,hM.pick [2,1]⟩))
    refine seg 19 16 [(104,vB (decide ((l60.length:Int)<2)))] (fc (ldm 130 2 0 hM rfl rfl) f0) ?_;cases h80:(decide ((l60.length:Int)<2))
    rotate_left
    ·have bp:=dt h80;rw [Gn_] at hM;exact rt0 rfl f0 (hZ _ _ (by rw [hP,aAL hti (aEk (by omega))];exact ⟨rfl,_,_,_,_,hB60,hM.pick [2,1]⟩))
    have bp:=df h80;obtain ⟨y81,ah,cr,ct,q81,bq,n81⟩:=(hs60).eb hG (i:=1) (by omega);refine seg 19 26 [(114,vB (!(y81.1==2)))] (fc (ldm 130 2 0 hM rfl rfl) (fc (ix 130 cc60 q81 (gl ah)) (fc (ld0 3 hM (bq 0 _ rfl) n81) f0))) ?_;cases h82:(y81.1==2)
    ·rw [Gn_] at hM;exact rt0 rfl f0 (hZ _ _ (by rw [hP,aAL hti ((by rw [aDR ah,h82,Bool.and_false]))];exact ⟨rfl,_,_,_,_,hB60,hM.pick [2,1]⟩))
    have hmo:more l60=true:=by rw [aDR ah,h79,h82];rfl
    rcases htk83:take en 4 ([]:List Bys) l60 with ⟨c83,x83⟩ | ⟨t83,l83⟩
    · exfalso;obtain ⟨t9,l9,h9,_⟩:=aCG (en:=en) h79;rw [h9] at htk83;cases htk83
    refine aAM 20 3 118 [(117,vP rb 0)] (K:=fun u Mn=>u=vA (tkL t83) /\ ∃ p' c',aAt B p60 cc60 l60 p' c' l83 /\ Mn=[bk rb #[vL p' l83.length c',vI en,vL q2 (ss++acc++(aBD f ad (ab+1440) n)).length cq2] 170]) [0,1,3] [2] f0 hM rfl rfl (by decide) (fun hm=>(aAr (xs:=([]:List Bys)) hm (aAN hs60 hM.fr hG) (fun k h=>by rw [aEL (b:=rb) rfl h];exact hrB) aCp 4).mono fun e w8 h=>by unfold aBv at h;rw [htk83] at h;obtain ⟨h1,p',c',h2,h3⟩:=h;exact ⟨_,_,h1,⟨rfl,p',c',h2,rfl⟩,h3⟩) fun u Mn w1 hK hM=>?_;obtain ⟨rfl,p83,cc83,hb83,rfl⟩:=hK;have hs83:=hb83 _ hs60;have hB83:aAt B p c ts p83 cc83 l83:=fun w1 h=>hb83 w1 (hB60 w1 h);obtain ⟨hto83,hkd83,hk⟩:=aAJ hk htk83;have htl83:l60=t83::l83:=(aAZ htk83).1;refine seg 6 0 [] f0 ?_;have hPn:part en ts=pre (acc++(aBD f ad (ab+1440) n)) (aCf en f t l83):=by rw [hP,aDj hti hmo,htl83];rfl
    have hl9:=aCN hti;have hl8:l60.length=l83.length+1:=by rw [htl83];rfl
    have hdn:=aCx f ad (ab+1440) n;rw [Gn_] at hM;exact aAb _ (an _ (by omega) l83 (acc++(aBD f ad (ab+1440) n)) p83 cc83 q2 cq2 _ (hs83) (hB83) hk hPn (by simp only [Gk_];omega) (hM.pick [0,1,3]) rfl)
   exact aAb _ (bi _ 0 q cq _ (Gg_ _) (hM.cast (by simp only [show aBD f ad (ab+1440) 0=[] from rfl,List.append_nil])) rfl)
  exact aAb _ (a8 _ l53 [] p53 cc53 q cq _ (hs53) (hB53) hk hP (by simp only [Go_];omega) (hM.cast (by simp only [List.append_nil])) rfl)
section
variable {α:Type}{en:α}
def aFd (en:α) (l:List (Tok α)):Res α (List Sp×List (Tok α)):=aCD en (l.length+1) l
def aNN (en:α) (acc:List Sp) (l:List (Tok α)):Res α (List Sp×List (Tok α)):=if aBB 4 [aAW] l=true then pre acc (aFd en (l.drop 1)) else .ok (acc,l)
theorem aIc {l:List (Tok α)}{e:Int×α}(h:part en l = .error e):aFd en l = .error e:=by
  unfold aFd aCD;rw [h]
theorem aKa {l l2:List (Tok α)}{s:List Sp}(h:part en l = .ok (s,l2)):aFd en l=aNN en s l2:=by
  have hl:=aGo h;unfold aFd aCD aNN;rw [h];simp only
  split
  · rename_i hs
    have hne:l2≠[]:=by rintro rfl;cases hs
    have hl2:0<l2.length:=List.length_pos_iff.2 hne;unfold aFd;rw [aIb l.length ((l2.drop 1).length+1) (l2.drop 1) (by simp;omega) (by simp)];cases aCD en ((l2.drop 1).length+1) (l2.drop 1)<;>rfl
  · rfl
theorem aSs {acc:List Sp}{l:List (Tok α)}{e:Int×α}(hs:aBB 4 [aAW] l=true) (h:part en (l.drop 1) = .error e):aNN en acc l = .error e:=by
  unfold aNN;rw [if_pos hs,aIc h];rfl
theorem aUP {acc s:List Sp}{l l2:List (Tok α)}(hs:aBB 4 [aAW] l=true) (h:part en (l.drop 1) = .ok (s,l2)):aNN en acc l=aNN en (acc++s) l2:=by
  unfold aNN;rw [if_pos hs,aKa h];unfold aNN
  split
  · cases aFd en (l2.drop 1) with
    | error e=>rfl
    | ok r=>simp [pre,Gn_]
  · rfl
theorem aSt {acc:List Sp}{l:List (Tok α)}(hs:aBB 4 [aAW] l=false):aNN en acc l = .ok (acc,l):=by
  unfold aNN;rw [if_neg (by rw [hs];simp)]
def aXf:Res α (List Sp×List (Tok α))->Res α (List Sp×List (Tok α))
  | .error e => .error e
  | .ok (s,[]) => .ok (s,[])
  | .ok (_,t::_) => .error (5,t.2.2)
def aES (en:α) (ts:List (Tok α)):Res α (List Sp×List (Tok α)):=aXf (aBy en ts)
theorem aIy (ts:List (Tok α)):aET en ts=match aES en ts with | .error e => .error e | .ok (s,_) => .ok s:=by
  unfold aET aES
  cases aBy en ts with
  | error e=>rfl
  | ok r =>
    obtain ⟨s,l⟩:=r;cases l<;>rfl
theorem aGC {ts:List (Tok α)}(h1:aBB 1 [aE3] ts=false) (h2:aBB 1 [aIT] ts=false):aBy en ts=aFd en ts:=by
  unfold aBy;rw [h1,h2];simp [aFd]
end
theorem aS9 {w w':World}{F:Nat->Prop}{n:String}{cs:Array Value}{g:Nat}(hg:Tryz.prog.globalNamed n=some g) (h:w.var? Tryz.prog n=some cs) (f:Fr F w w') (hF:¬ F g):w'.var? Tryz.prog n=some cs:=by
  unfold World.var? at h ⊢;rw [hg] at h ⊢;simp only [Option.bind_some] at h ⊢
  cases hb:w.heap[g]? with
  | none=>rw [hb] at h;cases h
  | some ob=>rw [f.obj hb hF,←hb];exact h
theorem Tb.fr {w w':World}{F:Nat->Prop}(h:Tb w) (f:Fr F w w') (hF:∀ r,r<5->¬ F r):Tb w' :=
  ⟨aS9 (g:=4) (by kernel_rfl) h.1 f (hF _ (by decide)),aS9 (g:=3) (by kernel_rfl) h.2 f (hF _ (by decide))⟩
theorem aMQ {f n a b:Int}(h:n<=7):(aKv f n a b).length<=14:=by
  have h6:=aCx f a b n.toNat;have h7:aKv f n a b=aBD f a b n.toNat:=rfl;rw [h7];omega
theorem aMy {en:Int}{ts l:List (Tok Int)}{s:List Sp}(hk:Tk ts) (h:part en ts = .ok (s,l)):s.length+14*l.length<=14*ts.length /\ l.length<ts.length:=by
  have ht:∀ {f t:Int}{ts l:List (Tok Int)}{s:List Sp},0<=f->f<7->0<=t->t<7->aD4 en f t ts = .ok (s,l)->s.length+14*l.length<=14*ts.length:=by
    intro f t ts l s h1 h2 h3 h4 h;have hl:=aCN h
    have:s.length<=14:=by
      unfold aD4 at h
      split at h
      · cases h
      · split at h
        · cases h
        · split at h
          · cases h
          · split at h
            · cases h
            · cases h
              exact aMQ (by rw [aNM h1 h2 h3 h4];omega)
    omega
  have hts:∀ {f t:Int},0<=f->f<7->0<=t->t<7->∀ (n:Nat) {ts l:List (Tok Int)}{s:List Sp},aCu en f t n ts = .ok (s,l)->s.length+14*l.length<=14*ts.length:=by
    intro f t h1 h2 h3 h4 n
    induction n with
    | zero=>intro ts l s h;cases h
    | succ n ih =>
      intro ts l s h;unfold aCu at h
      split at h
      · cases h
      · rename_i s1 ts1 he
        have:=ht h1 h2 h3 h4 he
        split at h
        · split at h
          · cases h
          · rename_i s2 ts2 he2
            have h5:=ih he2;cases h;simp only [Gk_,Gr_] at h5 ⊢;omega
        · cases h;exact this
  refine ⟨?_,aGo h⟩;unfold part at h
  split at h
  · cases h
  · rename_i a b ts1 he
    obtain ⟨h1,h2,h3,h4,_⟩:=aQh hk he;have:=aHp he;have:=hts h1 h2 h3 h4 _ h;omega
theorem Tb.lt {w:World}(h:Tb w):5<=w.heap.size:=by
  have h1:=h.1;unfold Lib.TabIs World.var? at h1;have hg:Tryz.prog.globalNamed "internal/strconv.uint64pow10" = some 4:=by kernel_rfl
  rw [hg] at h1;simp only [Option.bind_some] at h1
  cases hb:w.heap[4]? with
  | none=>rw [hb] at h1;cases h1
  | some ob=>exact aAl hb
theorem _root_.Go.Pl.Mm.low {F0:Nat->Prop}{w0 w:World}{M Ms:List Ent}(h:Mm F0 w0 w M) {B:Nat}(hG:∀ k,F0 k->B<=k) (hB:B<=w0.heap.size) {js:List Nat}(hs:aBK M js=Ms) (hn:js.Nodup):∀ k,BlM Ms k->B<=k:=fun k ⟨e,he,hb⟩=>by
  rcases Nat.lt_or_ge k w0.heap.size with h9 | h9
  · exact hG k ((h.pick js hs hn).own e he k hb h9)
  · omega
theorem aL5 {α:Type}{s:List Sp}{l:List (Tok α)}{t:Tok α}(h:l[0]?=some t):aXf (.ok (s,l)) = .error (5,t.2.2):=by
  cases l with
  | nil=>cases h
  | cons a l=>cases h;rfl
theorem aL4 {α:Type}{s:List Sp}{l:List (Tok α)}(h:l=[]):aXf (.ok (s,l)) = .ok (s,l):=by subst h;rfl
abbrev A95 (Z:Ending->World->Prop):=AtO Tryz.prog (aAf Tryz.f95) (aAo (bodyPost Tryz.prog Tryz.f95 Z)) [] 54
theorem aHN {w:World}{G:Nat->Prop}{B rb c cq:Nat}{p q:Option Addr}{en:Int}{ts:List (Tok Int)}{ss:List Sp}(hM0:Mm G w w [bk rb #[vL p ts.length c,vI en,vL q ss.length cq] 170,rw_ spL 2 141 (vL q ss.length cq) ss]) (hs:SrcB tkL 3 w B p c ts) (hG:∀ k,G k->B<=k) (hr4:5<=B) (hk:Tk ts) (hT:Tb w) (hlen:ss.length+14*ts.length<=100000000):Calls Tryz.prog 95 #[vP rb 0] w fun e w'=>aK9 w G B rb en ss p c ts (aES en ts) e w':=by
  refine beg Tryz.func95 rfl rfl [(0,vP rb 0)] rfl rfl fun Z hZ=>?_;have hM:=hM0;have hrB:B<=rb:=hG rb (hM0.own _ (.head _) rb rfl (aAl (hM0.get 0 rfl)));have hB0:aAt B p c ts p c ts:=fun _ h=>h;have hBw:B<=w.heap.size:=by have:=aAl (hM0.get 0 rfl);omega
  refine aAp 4 3 19 [(18,vP rb 0)] (cs:=#[vS [97,108,119,97,121,115]]) (T:=9) (v:=fun b=>vL (some ⟨b,0,none⟩) 1 1) f0 hM fun aq w1 hM=>aAq 4 4 20 [] f0 hM (aBs (xs:=[aE3]) (hM.get 0 rfl) (aAN hs hM.fr hG) (StV.one (hM.get 2 rfl)) 1) fun w1 hM=>seg 4 6 [(15,vB (aBB 1 [aE3] ts))] f0 ?_;cases h19:(aBB 1 [aE3] ts)
  rotate_left
  ·rcases htk35:take en 1 ([]:List Bys) ts with ⟨c35,x35⟩ | ⟨t35,l35⟩
   · exfalso;obtain ⟨t9,l9,h9,_⟩:=aCG (en:=en) h19;rw [h9] at htk35;cases htk35
   refine aAM 5 3 24 [(23,vP rb 0)] (K:=fun u Mn=>u=vA (tkL t35) /\ ∃ p' c',aAt B p c ts p' c' l35 /\ Mn=[bk rb #[vL p' l35.length c',vI en,vL q ss.length cq] 170]) [1,2] [0] f0 hM rfl rfl (by decide) (fun hm=>(aAr (xs:=([]:List Bys)) hm (aAN hs hM.fr hG) (fun k h=>by rw [aEL (b:=rb) rfl h];exact hrB) aCp 1).mono fun e w8 h=>by unfold aBv at h;rw [htk35] at h;obtain ⟨h1,p',c',h2,h3⟩:=h;exact ⟨_,_,h1,⟨rfl,p',c',h2,rfl⟩,h3⟩) fun u Mn w1 hK hM=>?_;obtain ⟨rfl,p35,cc35,hb35,rfl⟩:=hK;have hs35:=hb35 _ hs;have hB35:aAt B p c ts p35 cc35 l35:=fun w1 h=>hb35 w1 (hB0 w1 h);obtain ⟨hto35,hkd35,hk⟩:=aAJ hk htk35;have htl35:ts=t35::l35:=(aAZ htk35).1;refine aAM 6 1 26 [(25,vP rb 0)] (K:=fun u Mn=>u = .tuple #[] /\ ∃ q2 c2,Mn=[bk rb #[vL p35 l35.length cc35,vI en,vL q2 (ss++aDi 0 10080).length c2] 170,rw_ spL 2 141 (vL q2 (ss++aDi 0 10080).length c2) (ss++aDi 0 10080)]) [1] [2,0] f0 hM rfl rfl (by decide) (fun hm=>aEa (by omega) (by omega) (by omega) hm) fun u Mn w1 hK hM=>?_;obtain ⟨rfl,ar,au,rfl⟩:=hK;have hQ9:aBy en ts = .ok (aDi 0 10080,l35):=by unfold aBy;rw [if_pos h19,htl35];rfl
   refine seg 9 7 [(43,vB (decide (0<(l35.length:Int))))] (fc (ldm 130 1 0 hM rfl rfl) f0) ?_;cases h37:(decide (0<(l35.length:Int)))
   ·have ag:=df h37;have hnil:l35=[]:=List.eq_nil_of_length_eq_zero (by omega);exact rt0 rfl f0 (hZ _ _ (by unfold aES;rw [hQ9,aL4 hnil];exact ⟨rfl,_,_,_,_,hB35,hM.pick [1,2]⟩))
   have ag:=dt h37;obtain ⟨y38,ac,av,aw,q38,ah,n38⟩:=(hs35).eb hG (i:=0) (by omega);exact pan 10 10 [(53,aJy 5 y38.2.2)] 165 (.agg #[vI 5,vI y38.2.2]) (fc (ldm 130 1 0 hM rfl rfl) (fc (ix 130 cc35 q38 (gl ac)) (fc (ld0 3 hM (ah 2 _ rfl) n38) f0))) hM (fun a f9 hd=>pn_ (P:=Tryz.prog) (fn:=Tryz.f95) hd (hZ _ _ ((by unfold aES;rw [hQ9,aL5 ac];exact ⟨rfl,f9⟩))))
  refine aAp 7 3 31 [(30,vP rb 0)] (cs:=#[vS [110,101,118,101,114]]) (T:=9) (v:=fun b=>vL (some ⟨b,0,none⟩) 1 1) f0 hM fun ax w1 hM=>aAq 7 4 32 [] f0 hM (aBs (xs:=[aIT]) (hM.get 0 rfl) (aAN hs hM.fr hG) (StV.one (hM.get 3 rfl)) 1) fun w1 hM=>seg 7 6 [(27,vB (aBB 1 [aIT] ts))] f0 ?_;cases h21:(aBB 1 [aIT] ts)
  rotate_left
  ·rcases htk32:take en 1 ([]:List Bys) ts with ⟨c32,x32⟩ | ⟨t32,l32⟩
   · exfalso;obtain ⟨t9,l9,h9,_⟩:=aCG (en:=en) h21;rw [h9] at htk32;cases htk32
   refine aAM 8 3 36 [(35,vP rb 0)] (K:=fun u Mn=>u=vA (tkL t32) /\ ∃ p' c',aAt B p c ts p' c' l32 /\ Mn=[bk rb #[vL p' l32.length c',vI en,vL q ss.length cq] 170]) [1,2,3] [0] f0 hM rfl rfl (by decide) (fun hm=>(aAr (xs:=([]:List Bys)) hm (aAN hs hM.fr hG) (fun k h=>by rw [aEL (b:=rb) rfl h];exact hrB) aCp 1).mono fun e w8 h=>by unfold aBv at h;rw [htk32] at h;obtain ⟨h1,p',c',h2,h3⟩:=h;exact ⟨_,_,h1,⟨rfl,p',c',h2,rfl⟩,h3⟩) fun u Mn w1 hK hM=>?_;obtain ⟨rfl,p32,cc32,hb32,rfl⟩:=hK;have hs32:=hb32 _ hs;have hB32:aAt B p c ts p32 cc32 l32:=fun w1 h=>hb32 w1 (hB0 w1 h);obtain ⟨hto32,hkd32,hk⟩:=aAJ hk htk32;have htl32:ts=t32::l32:=(aAZ htk32).1;have hQ9:aBy en ts = .ok (([]:List Sp),l32):=by unfold aBy;rw [if_neg (by rw [h19];simp),if_pos h21,htl32];rfl
   refine seg 9 7 [(43,vB (decide (0<(l32.length:Int))))] (fc (ldm 130 3 0 hM rfl rfl) f0) ?_;cases h33:(decide (0<(l32.length:Int)))
   ·have ai:=df h33;have hnil:l32=[]:=List.eq_nil_of_length_eq_zero (by omega);exact rt0 rfl f0 (hZ _ _ (by unfold aES;rw [hQ9,aL4 hnil];exact ⟨rfl,_,_,_,_,hB32,(by rw [List.append_nil];exact hM.pick [3,0])⟩))
   have ai:=dt h33;obtain ⟨y34,ad,ay,az,q34,aj,n34⟩:=(hs32).eb hG (i:=0) (by omega);exact pan 10 10 [(53,aJy 5 y34.2.2)] 165 (.agg #[vI 5,vI y34.2.2]) (fc (ldm 130 3 0 hM rfl rfl) (fc (ix 130 cc32 q34 (gl ad)) (fc (ld0 3 hM (aj 2 _ rfl) n34) f0))) hM (fun a f9 hd=>pn_ (P:=Tryz.prog) (fn:=Tryz.f95) hd (hZ _ _ ((by unfold aES;rw [hQ9,aL5 ad];exact ⟨rfl,f9⟩))))
  have hTn22:Tb _:=hT.fr hM.fr fun k hk e=>by have:=hG k e;omega
  rcases hpt22:part en ts with ⟨c22,x22⟩ | ⟨s22,l22⟩
  · exact aNR 0 1 3 [(2,vP rb 0)] [0,1] f0 hM rfl (by decide) (fun hm=>(aEg (ss:=ss) hm (aAN hs hM.fr hG) (hM.low hG hBw (js:=[0,1]) rfl (by decide)) hk hTn22 (by omega)).mono fun e w8 h=>by unfold aK9 at h;rw [hpt22] at h;exact h) (fun a w9 f9 hd=>pn_ (P:=Tryz.prog) (fn:=Tryz.f95) hd (hZ _ _ ((by unfold aES;rw [aGC h19 h21,aIc hpt22];exact ⟨rfl,f9⟩))))
  refine aAM 0 1 3 [(2,vP rb 0)] (K:=fun u Mn=>u = .tuple #[] /\ ∃ p' c' q' cq',aAt B p c ts p' c' l22 /\ Mn=[bk rb #[vL p' l22.length c',vI en,vL q' (ss++s22).length cq'] 170,rw_ spL 2 141 (vL q' (ss++s22).length cq') (ss++s22)]) [2,3] [0,1] f0 hM rfl rfl (by decide) (fun hm=>(aEg (ss:=ss) hm (aAN hs hM.fr hG) (hM.low hG hBw (js:=[0,1]) rfl (by decide)) hk hTn22 (by omega)).mono fun e w8 h=>by unfold aK9 at h;rw [hpt22] at h;obtain ⟨h1,p',c',q',cq',h2,h3⟩:=h;exact ⟨_,_,h1,⟨rfl,p',c',q',cq',h2,rfl⟩,h3⟩) fun u Mn w1 hK hM=>?_;obtain ⟨rfl,p22,cc22,aa,ab,hb22,rfl⟩:=hK;have hs22:=hb22 _ hs;have hB22:aAt B p c ts p22 cc22 l22:=fun w1 h=>hb22 w1 (hB0 w1 h);have hpc22:=aMy hk hpt22;have hk:=(aIG hk hpt22).2;have hQ:aBy en ts=aNN en s22 l22:=by rw [aGC h19 h21,aKa hpt22]
  have hM:Mm G w _ [rw_ spL 2 141 (vL aa (ss++s22).length ab) (ss++s22),bk rb #[vL p22 l22.length cc22,vI en,vL aa (ss++s22).length ab] 170]:=(hM.pick [3,2]);refine seg 1 0 [] f0 ?_
  have ak:∀ (ae:Nat) (l:List (Tok Int)) (acc:List Sp) (pl:Option Addr) (cl:Nat) (q:Option Addr) (cq:Nat) (w2:World),SrcB tkL 3 w B pl cl l->aAt B p c ts pl cl l->Tk l->aBy en ts=aNN en acc l->acc.length+14*l.length<=14*ts.length->Mm G w w2 [rw_ spL 2 141 (vL q (ss++acc).length cq) (ss++acc),bk rb #[vL pl l.length cl,vI en,vL q (ss++acc).length cq] 170]->ae=l.length->A95 Z (some (1,0)) [(0,vP rb 0)] w2:=by
   refine aA8 fun ae al l acc pl cl q cq w2 hs2 hB2 hk hQ hal hM a0=>aAp 1 3 7 [(6,vP rb 0)] (cs:=#[vS [44]]) (T:=9) (v:=fun b=>vL (some ⟨b,0,none⟩) 1 1) f0 hM fun a1 w1 hM=>aAq 1 4 8 [] f0 hM (aBs (xs:=[aAW]) (hM.get 1 rfl) (aAN hs2 hM.fr hG) (StV.one (hM.get 2 rfl)) 4) fun w1 hM=>?_;cases h27:(aBB 4 [aAW] l)
   ·have hQ9:aBy en ts = .ok (acc,l):=by rw [hQ];exact aSt h27
    refine seg 9 7 [(43,vB (decide (0<(l.length:Int))))] (fc (ldm 130 1 0 hM rfl rfl) f0) ?_;cases h28:(decide (0<(l.length:Int)))
    ·have am:=df h28;have hnil:l=[]:=List.eq_nil_of_length_eq_zero (by omega);exact rt0 rfl f0 (hZ _ _ (by unfold aES;rw [hQ9,aL4 hnil];exact ⟨rfl,_,_,_,_,hB2,hM.pick [1,0]⟩))
    have am:=dt h28;obtain ⟨y29,af,a2,a3,q29,an,n29⟩:=(hs2).eb hG (i:=0) (by omega);exact pan 10 10 [(53,aJy 5 y29.2.2)] 165 (.agg #[vI 5,vI y29.2.2]) (fc (ldm 130 1 0 hM rfl rfl) (fc (ix 130 cl q29 (gl af)) (fc (ld0 3 hM (an 2 _ rfl) n29) f0))) hM (fun a f9 hd=>pn_ (P:=Tryz.prog) (fn:=Tryz.f95) hd (hZ _ _ ((by unfold aES;rw [hQ9,aL5 af];exact ⟨rfl,f9⟩))))
   rcases htk30:take en 4 ([]:List Bys) l with ⟨c30,x30⟩ | ⟨t30,l30⟩
   · exfalso;obtain ⟨t9,l9,h9,_⟩:=aCG (en:=en) h27;rw [h9] at htk30;cases htk30
   refine aAM 2 3 12 [(11,vP rb 0)] (K:=fun u Mn=>u=vA (tkL t30) /\ ∃ p' c',aAt B pl cl l p' c' l30 /\ Mn=[bk rb #[vL p' l30.length c',vI en,vL q (ss++acc).length cq] 170]) [0,2] [1] f0 hM rfl rfl (by decide) (fun hm=>(aAr (xs:=([]:List Bys)) hm (aAN hs2 hM.fr hG) (fun k h=>by rw [aEL (b:=rb) rfl h];exact hrB) aCp 4).mono fun e w8 h=>by unfold aBv at h;rw [htk30] at h;obtain ⟨h1,p',c',h2,h3⟩:=h;exact ⟨_,_,h1,⟨rfl,p',c',h2,rfl⟩,h3⟩) fun u Mn w1 hK hM=>?_;obtain ⟨rfl,p30,cc30,hb30,rfl⟩:=hK;have hs30:=hb30 _ hs2;have hB30:aAt B p c ts p30 cc30 l30:=fun w1 h=>hb30 w1 (hB2 w1 h);obtain ⟨hto30,hkd30,hk⟩:=aAJ hk htk30;have htl30:l=t30::l30:=(aAZ htk30).1;have hl6:l.length=l30.length+1:=by rw [htl30];rfl
   have hTn31:Tb _:=hT.fr hM.fr fun k hk e=>by have:=hG k e;omega
   rcases hpt31:part en l30 with ⟨c31,x31⟩ | ⟨s31,l31⟩
   · exact aNR 3 1 14 [(13,vP rb 0)] [2,0] f0 hM rfl (by decide) (fun hm=>(aEg (ss:=(ss++acc)) hm (aAN hs30 hM.fr hG) (hM.low hG hBw (js:=[2,0]) rfl (by decide)) hk hTn31 (by simp only [Gk_];omega)).mono fun e w8 h=>by unfold aK9 at h;rw [hpt31] at h;exact h) (fun a w9 f9 hd=>pn_ (P:=Tryz.prog) (fn:=Tryz.f95) hd (hZ _ _ ((by unfold aES;rw [hQ,aSs h27 (by rw [htl30];exact hpt31)];exact ⟨rfl,f9⟩))))
   refine aAM 3 1 14 [(13,vP rb 0)] (K:=fun u Mn=>u = .tuple #[] /\ ∃ p' c' q' cq',aAt B p30 cc30 l30 p' c' l31 /\ Mn=[bk rb #[vL p' l31.length c',vI en,vL q' ((ss++acc)++s31).length cq'] 170,rw_ spL 2 141 (vL q' ((ss++acc)++s31).length cq') ((ss++acc)++s31)]) [1] [2,0] f0 hM rfl rfl (by decide) (fun hm=>(aEg (ss:=(ss++acc)) hm (aAN hs30 hM.fr hG) (hM.low hG hBw (js:=[2,0]) rfl (by decide)) hk hTn31 (by simp only [Gk_];omega)).mono fun e w8 h=>by unfold aK9 at h;rw [hpt31] at h;obtain ⟨h1,p',c',q',cq',h2,h3⟩:=h;exact ⟨_,_,h1,⟨rfl,p',c',q',cq',h2,rfl⟩,h3⟩) fun u Mn w1 hK hM=>?_;obtain ⟨rfl,p31,cc31,ao,ap,hb31,rfl⟩:=hK;have hs31:=hb31 _ hs30;have hB31:aAt B p c ts p31 cc31 l31:=fun w1 h=>hb31 w1 (hB30 w1 h);have hpc31:=aMy hk hpt31;have hk:=(aIG hk hpt31).2;refine seg 1 0 [] f0 ?_;have hQn:aBy en ts=aNN en (acc++s31) l31:=by rw [hQ];exact aUP h27 (by rw [htl30];exact hpt31)
   have hl7:l.length=l30.length+1:=by rw [htl30];rfl
   rw [Gn_ ss acc] at hM;exact aAb _ (al _ (by omega) l31 (acc++s31) p31 cc31 ao ap _ (hs31) (hB31) hk hQn (by simp only [Gk_];omega) (hM.pick [2,1]) rfl)
  exact aAb _ (ak _ l22 s22 p22 cc22 aa ab _ (hs22) (hB22) hk hQ (by omega) hM rfl)
theorem aRb {en:Int}{ts l:List (Tok Int)}{s:List Sp}(hk:Tk ts) (h:aES en ts = .ok (s,l)):s.length<=2*ts.length+2:=by
  have ht:∀ {f t:Int}{ts l:List (Tok Int)}{s:List Sp},0<=f->f<7->0<=t->t<7->aD4 en f t ts = .ok (s,l)->s.length+2*l.length<=2*ts.length:=by
    intro f t ts l s h1 h2 h3 h4 h;have hl:=aCN h
    have:s.length<=14:=by
      unfold aD4 at h
      split at h
      · cases h
      · split at h
        · cases h
        · split at h
          · cases h
          · split at h
            · cases h
            · cases h
              exact aMQ (by rw [aNM h1 h2 h3 h4];omega)
    omega
  have hts:∀ {f t:Int},0<=f->f<7->0<=t->t<7->∀ (n:Nat) {ts l:List (Tok Int)}{s:List Sp},aCu en f t n ts = .ok (s,l)->s.length+2*l.length<=2*ts.length:=by
    intro f t h1 h2 h3 h4 n
    induction n with
    | zero=>intro ts l s h;cases h
    | succ n ih =>
      intro ts l s h;unfold aCu at h
      split at h
      · cases h
      · rename_i s1 ts1 he
        have:=ht h1 h2 h3 h4 he
        split at h
        · split at h
          · cases h
          · rename_i s2 ts2 he2
            have h5:=ih he2;cases h;simp only [Gk_,Gr_] at h5 ⊢;omega
        · cases h;exact this
  have hp:∀ {ts l:List (Tok Int)}{s:List Sp},Tk ts->part en ts = .ok (s,l)->s.length+2*l.length<=2*ts.length:=by
    intro ts l s hk h;unfold part at h
    split at h
    · cases h
    · rename_i a b ts1 he
      obtain ⟨h1,h2,h3,h4,_⟩:=aQh hk he;have:=aHp he;have:=hts h1 h2 h3 h4 _ h;omega
  have hps:∀ (n:Nat) {ts l:List (Tok Int)}{s:List Sp},Tk ts->aCD en n ts = .ok (s,l)->s.length+2*l.length<=2*ts.length:=by
    intro n
    induction n with
    | zero=>intro ts l s _ h;cases h
    | succ n ih =>
      intro ts l s hk h;unfold aCD at h
      split at h
      · cases h
      · rename_i s1 ts1 he
        have h1:=hp hk he;have k1:=(aIG hk he).2
        split at h
        · split at h
          · cases h
          · rename_i s2 ts2 he2
            have h5:=ih (k1.drop 1) he2;cases h;simp only [Gk_,Gr_] at h5 ⊢;omega
        · cases h;exact h1
  have hq:∀ {l:List (Tok Int)}{s:List Sp},aBy en ts = .ok (s,l)->s.length<=2*ts.length+2:=by
    intro l s h;unfold aBy at h
    split at h
    · cases h;unfold aDi;split<;>simp
    · split at h
      · cases h;simp
      · have:=hps _ hk h;omega
  unfold aES at h
  cases hqq:aBy en ts with
  | error e=>rw [hqq] at h;cases h
  | ok r =>
    obtain ⟨s1,l1⟩:=r;rw [hqq] at h;have:=hq hqq
    cases l1 with
    | nil=>cases h;exact this
    | cons t l1=>cases h
abbrev aWT (fn:Func):Code:=match fn.body with | some (.seq _ y)=>y | _ => .skip
theorem aSv {w:World}{G:Nat->Prop}{b2 b3 b4 m k:Nat}{p:Option Addr}{e0 x0 c x:Int}{Q:Exit->Act->World->Prop}(hM0:Mm G w w [bk b2 #[vL p m k] 48,bk b3 #[vI e0] 32,bk b4 #[vI x0] 3]) (hQ:∀ a w',a.defers=[]->Mm G w w' [bk b2 #[vL none 0 0] 48,bk b3 #[vI c] 32,bk b4 #[vI x] 3]->Q .ret a w' /\ Q .normal a w'):AtO Tryz.prog (aWT Tryz.f94) (aAo Q) [] 14 none [(0,vP b2 0),(1,vP b3 0),(2,vP b4 0),(3,aJy c x)] w:=by
  have hM:=hM0;refine opp 1 1 7 [(6,aJy c x)] (v:=vB true) f0 (opp 2 1 9 [(8,aJy c x)] (v := .agg #[vI c,vI x]) f0 (aCl 2 2 4 [] [] 165 (.agg #[vI c,vI x]) f0 hM fun aa w1 hM=>seg 3 0 [] f0 (drx [4,5,6] (fun Z=>[none,none,none]) _ (fun Z l=>[bk b2 #[(bif l.getD 0 false then vL none 0 0 else vL p m k)] 48,bk b3 #[(bif l.getD 1 false then vI c else vI e0)] 32,bk b4 #[(bif l.getD 2 false then vI x else vI x0)] 3,bk aa #[vI c,vI x] 165]) (fun Z=>[]) hM (fun Z=>rfl) (fun Z l w5 hM=>(fc (ldm 32 3 0 hM rfl rfl) (fc (ldm 3 3 1 hM rfl rfl) f0))) ⟨aB8 0 4 48 0 0 (fun Z=>b2) (fun Z l=>#[(bif l.getD 0 false then vL none 0 0 else vL p m k)]) 48 (fun Z=>vL none 0 0),aB8 1 5 32 1 0 (fun Z=>b3) (fun Z l=>#[(bif l.getD 1 false then vI c else vI e0)]) 32 (fun Z=>vI c),aB8 2 6 3 2 0 (fun Z=>b4) (fun Z l=>#[(bif l.getD 2 false then vI x else vI x0)]) 3 (fun Z=>vI x),trivial⟩ fun ab w1 hM=>?_)));replace hM:Mm G w w1 [bk b2 #[vL none 0 0] 48,bk b3 #[vI c] 32,bk b4 #[vI x] 3,bk aa #[vI c,vI x] 165]:=hM;exact aOd [] f0 (by kernel_rfl) fun a E=>hQ a _ E.df (hM.pick [0,1,2])
theorem aLI {w:World}{G:Nat->Prop}{b2 b3 b4 m k:Nat}{p:Option Addr}{e0 x0:Int}(c x:Int) (hM0:Mm G w w [bk b2 #[vL p m k] 48,bk b3 #[vI e0] 32,bk b4 #[vI x0] 3]):CallsD Tryz.prog 94 #[vP b2 0,vP b3 0,vP b4 0] (.panicking (pn c x)) w fun e u w'=>e = .returned (.tuple #[]) /\ u = .panicking [{ v:=aJy c x,recovered:=true }] /\ Mm G w w' [bk b2 #[vL none 0 0] 48,bk b3 #[vI c] 32,bk b4 #[vI x] 3]:=by
  refine callsD_of_wpS Tryz.func94 rfl fun c₀ cs hu=>?_;apply wpS_seq;apply wpS_region;simp [wpOpsS,go_sem,recoverD,hu,Tryz.ntmps94,Exit.thenS];refine wpS_of_wp ((fun (H:∀ a,EnvS [] 14 [(0,vP b2 0),(1,vP b3 0),(2,vP b4 0),(3,aJy c x)] a->Code.wp Tryz.prog _ _ a w)=>H _ ⟨by rfl,fun s v hs=>by (have hz:=aBm hs;simp at hz;rcases hz with ⟨rfl,rfl⟩ | ⟨rfl,rfl⟩ | ⟨rfl,rfl⟩ | ⟨rfl,rfl⟩<;>rfl),rfl⟩) fun a E=>?_)
  exact wpIn_wide.1 (aSv (Q:=_) hM0 (fun a w' hd h=>by
    have hr:(results Tryz.f94 a.tmps).run Tryz.prog w' = .ok (.tuple #[]) w':=by simp [results,Tryz.results94]
    exact ⟨⟨hd,_,rfl,.tuple #[],hr,rfl,rfl,h⟩,⟨hd,_,rfl,.tuple #[],hr,rfl,rfl,h⟩⟩) a E)
theorem aIl (b2 b3 b4:Nat) (w:World):CallsD Tryz.prog 94 #[vP b2 0,vP b3 0,vP b4 0] .returning w fun e u w'=>e = .returned (.tuple #[]) /\ u = .returning /\ w'=w:=by
  refine callsD_of_wpS Tryz.func94 rfl fun c₀ cs hu=>?_;apply wpS_seq;apply wpS_region;simp [wpOpsS,go_sem,recoverD,hu,Tryz.ntmps94,Exit.thenS];apply wpS_seq;apply wpS_region;simp [wpOpsS,go_sem,Exit.thenS];refine wpS_cond (t:=false) (by simp [Act.eval,Array.replicate]) ?_;simp only [Bool.false_eq_true,if_false];refine wpS_of_wp (k_ ?_);cases c₀
  simp_all [bodyPostS,results,Tryz.results94]
def aDQ (s:Bys) (w w':World) (e:Ending):Prop:=match aBL s with
  | .error (c,x)=>e = .returned (.tuple #[vL none 0 0,vI c,vI x])
  | .ok l=>∃ v,e = .returned (.tuple #[v,vI 0,vI 0]) /\ aH6 spL 2 141 w w' v l
theorem aLp {s:Bys}(hl:s.length<=4900) {w:World}(hT:Tb w):Calls Tryz.prog 58 #[vS s] w fun e w'=>aDQ s w w' e /\ Fr nF_ w w':=by
  rcases hlx:aM6 s with ⟨c,x⟩ | ts
  · rcases aEl s with ⟨c9,x9,h9,hc8,-⟩ | ⟨h9,-⟩
    · rw [hlx] at h9
      have hc9:c≠0:=by cases h9;exact hc8
      clear h9 hc8 c9 x9;refine aXE Tryz.func58 rfl rfl [(0,vS s)] rfl rfl fun Y hY=>?_;have hM:=Mm.nil nF_ w;refine aAp 0 0 2 [] (cs:=#[vL none 0 0]) (T:=48) (v:=fun b=>vP b 0) f0 hM fun ac w1 hM=>aAp 0 1 3 [] (cs:=#[vI 0]) (T:=32) (v:=fun b=>vP b 0) f0 hM fun ad w1 hM=>aAp 0 2 4 [] (cs:=#[vI 0]) (T:=3) (v:=fun b=>vP b 0) f0 hM fun ab w1 hM=>aXk 1 1 10 [(9,vS s)] (v := .tuple #[vL none 0 0,vI c,vI x]) (K:=fun w8=>Fr nF_ _ w8) f0 ((aKf (s:=s) (by omega) _).mono fun e w8 h=>by unfold aQG at h;rw [hlx] at h;obtain ⟨⟨v,h1,h2⟩,h3⟩:=h;subst h2;exact ⟨h1,h3⟩) fun w1 f1=>?_;have hM:=hM.q f1;refine stm 1 8 [(13,vI x),(5,vL none 0 0),(6,vI c)] 3 2 0 (vI x) f0 hM rfl fun w1 hM=>seg 2 2 [(15,vB (!(c==0)))] f0 ?_;cases h44:(c==0)
      rotate_left
      ·have aj:=et h44;exact absurd aj hc9
      have aj:=ef h44;refine seg 3 0 [] f0 (drx [1,2,3,4] (fun Z=>[some (vI x),none,none,none]) _ (fun Z l=>[bk ac #[(bif l.getD 1 false then vL none 0 0 else vL none 0 0)] 48,bk ad #[(bif l.getD 2 false then vI c else vI 0)] 32,bk ab #[(bif l.getD 3 false then vI x else vI x)] 3]) (fun Z=>[]) hM (fun Z=>rfl) (fun Z l w5 hM=>f0) ⟨aNV 0 1 3 2 0 17 (fun Z=>ab) (fun Z l=>#[(bif l.getD 3 false then vI x else vI x)]) 3 (fun Z=>vI x),aB8 1 2 48 0 0 (fun Z=>ac) (fun Z l=>#[(bif l.getD 1 false then vL none 0 0 else vL none 0 0)]) 48 (fun Z=>vL none 0 0),aB8 2 3 32 1 0 (fun Z=>ad) (fun Z l=>#[(bif l.getD 2 false then vI c else vI 0)]) 32 (fun Z=>vI c),aB8 3 4 3 2 0 (fun Z=>ab) (fun Z l=>#[(bif l.getD 3 false then vI x else vI x)]) 3 (fun Z=>vI x),trivial⟩ fun al w1 hM=>?_);replace hM:Mm nF_ w w1 [bk ac #[vL none 0 0] 48,bk ad #[vI c] 32,bk ab #[vI x] 3]:=hM;replace hM:Mm nF_ w _ [bk ac #[vL none 0 0] 48,bk ad #[vI c] 32,bk ab #[vI x] 3]:=hM;exact aWR 0 1 2 rfl f0 hM rfl rfl rfl (hY _ _ ⟨by unfold aDQ aBL;rw [hlx],hM.fr⟩)
    · rw [hlx] at h9;cases h9
  · obtain ⟨-,-,hk,-,hlt⟩:=aLx hlx
    refine aXE Tryz.func58 rfl rfl [(0,vS s)] rfl rfl fun Y hY=>?_;have hM:=Mm.nil nF_ w;refine aAp 0 0 2 [] (cs:=#[vL none 0 0]) (T:=48) (v:=fun b=>vP b 0) f0 hM fun ae w1 hM=>aAp 0 1 3 [] (cs:=#[vI 0]) (T:=32) (v:=fun b=>vP b 0) f0 hM fun af w1 hM=>aAp 0 2 4 [] (cs:=#[vI 0]) (T:=3) (v:=fun b=>vP b 0) f0 hM fun ag w1 hM=>cal 1 1 10 [(9,vS s)] (K:=fun u w8=>∃ v,u = .tuple #[v,vI 0,vI 0] /\ aH6 tkL 3 186 w1 w8 v ts /\ Fr nF_ w1 w8) f0 ((aKf (s:=s) (by omega) _).mono fun e w8 h=>by unfold aQG at h;rw [hlx] at h;obtain ⟨⟨v,h1,h2⟩,h3⟩:=h;exact ⟨_,h1,v,rfl,h2,h3⟩) fun u w1 ⟨v,hu,hO,f1⟩=>?_;subst hu;have hM:=hM.add f1 (rw_ tkL 3 186 v ts) hO.1 hO.2;obtain ⟨pt,ct,rfl,-⟩:=hO.op tkT.len;refine stm 1 8 [(13,vI 0),(5,vL pt ts.length ct),(6,vI 0)] 3 2 0 (vI 0) f0 hM rfl fun w1 hM=>dfr 4 1 [(18,.func (.func 94) #[] #[vP ae 0,vP af 0,vP ag 0])] 94 #[vP ae 0,vP af 0,vP ag 0] f0 ?_ rfl;obtain ⟨B,hB⟩:∃ B,B=w1.heap.size:=⟨_,rfl⟩;have hst:SrcB tkL 3 w1 B pt ct ts:=by rw [hB];obtain ⟨pt9,ct9,h9,h8⟩:=(hM.src (j:=3) rfl tkT.len).op;cases h9;exact h8.b (Fr.refl _ _)
    have hB5:5<=B:=by have:=hM.fr.size;have:=hT.lt;omega
    refine aXa 5 5 24 [(23,.agg #[vL pt ts.length ct,vI (s.length:Int),vL none 0 0])] (cs:=#[vL pt ts.length ct,vI (s.length:Int),vL none 0 0]) (T:=170) (v:=fun b=>vP b 0) (fc (aCA 9 s) f0) hM fun aa w1 f170 hrb hM=>?_;have hrb:=hB▸hrb;have hst:=aAN hst f170 fun _ h=>h.elim;have hM:=hM.row (f:=spL) (c:=2) (E:=141);have hTn:Tb _:=hT.fr hM.fr fun _ _ h=>h
    skip
    rcases hqt:aES (s.length:Int) ts with ⟨c,x⟩ | ⟨sp,l9⟩
    · refine aXl 6 1 26 [(7,vP aa 0),(25,vP aa 0)] (ch:=pn c x) [0,1,2] [4,5] f0 hM rfl rfl (by decide) (fun hm=>(aHN (ss:=[]) (en:=(s.length:Int)) hm hst (fun k h=>(aXC rfl h).elim (fun h=>by rw [h];exact hrb) fun h=>by cases h) hB5 hk hTn (by simp only [Go_];omega)).mono fun e w8 h=>by unfold aK9 at h;rw [hqt] at h;exact h) fun a w9 hM9 E=>?_
      refine aWW (v2:=vL none 0 0) (v3:=vI c) (v4:=vI x) (ch':=[{ v:=aJy c x,recovered:=true }]) (fun _=>by simp [go_sem]) rfl E rfl rfl rfl (by kernel_rfl) rfl ((aLI c x (hM9.re (G:=BlM _) fun e he k hk=>⟨e,he,hk⟩)).mono ?_);rintro e u w8 ⟨rfl,rfl,h9⟩;have hM8:=hM9.call (A:=[]) h9 fun _ _ h=>h;refine ⟨rfl,rfl,h9.get 0 rfl,h9.get 1 rfl,h9.get 2 rfl,hY _ _ ⟨?_,hM8.fr⟩⟩;unfold aDQ aBL;rw [hlx];simp only;rw [aIy,hqt]
    refine aAM 6 1 26 [(7,vP aa 0),(25,vP aa 0)] (K:=fun u Mn=>u = .tuple #[] /\ ∃ p' c' q' cq',Mn=[bk aa #[vL p' l9.length c',vI (s.length:Int),vL q' sp.length cq'] 170,rw_ spL 2 141 (vL q' sp.length cq') sp]) [0,1,2,3] [4,5] f0 hM rfl rfl (by decide) (fun hm=>(aHN (ss:=[]) (en:=(s.length:Int)) hm hst (fun k h=>(aXC rfl h).elim (fun h=>by rw [h];exact hrb) fun h=>by cases h) hB5 hk hTn (by simp only [Go_];omega)).mono fun e w8 h=>by unfold aK9 at h;rw [hqt] at h;obtain ⟨h1,p',c',q',cq',h2,h3⟩:=h;exact ⟨_,_,h1,⟨rfl,p',c',q',cq',rfl⟩,h3⟩) fun u Mn w1 hK hM=>?_;obtain ⟨rfl,p9,c9,q9,cq9,rfl⟩:=hK;have hcn:=aRb hk hqt;have hwk:wk sp:=aLX hk (by rw [aIy,hqt]);refine aMT 7 4 31 [(30,vL q9 sp.length cq9)] (f:=spL) (c:=2) (E:=141) (A:=(aEJ sp)) (fc (ldm 48 4 2 hM rfl rfl) f0) hM (aJ7 (hM.src (j:=5) rfl spT.len) hwk (by omega)) fun u w1 hM=>?_;obtain ⟨ah,ai,eqa50,sqa50⟩:=(hM.src (j:=6) rfl spT.len).op;subst eqa50;refine stm 7 5 [] 48 0 0 (vL ah (aEJ sp).length ai) f0 hM rfl fun w1 hM=>seg 8 3 [(34,vB (decide (60<((aEJ sp).length:Int))))] (fc (ldm 48 0 0 hM rfl rfl) f0) ?_;cases h51:(decide (60<((aEJ sp).length:Int)))
    ·have ak:=df h51;refine stm 10 1 [(37,vL ah (aEJ sp).length ai)] 48 0 0 (vL ah (aEJ sp).length ai) (fc (ldm 48 0 0 hM rfl rfl) f0) hM rfl fun w1 hM=>stm 10 2 [] 32 1 0 (vI 0) f0 hM rfl fun w1 hM=>stm 10 3 [] 3 2 0 (vI 0) f0 hM rfl fun w1 hM=>?_;replace hM:Mm nF_ w _ [bk ae #[vL ah (aEJ sp).length ai] 48,bk af #[vI 0] 32,bk ag #[vI 0] 3,_,bk aa #[vL p9 l9.length c9,vI (s.length:Int),vL q9 sp.length cq9] 170,_,_]:=hM
     have hP:aBL s = .ok (aEJ sp):=by
       unfold aBL;rw [hlx];simp only;rw [aIy,hqt];simp only;rw [if_neg (by have:=of_decide_eq_false h51;omega)]
     exact aV8 (fun _=>by simp [go_sem]) 0 1 2 rfl (aIl _ _ _ _) f0 hM rfl rfl rfl (hY _ _ ⟨by unfold aDQ;rw [hP];exact ⟨_,rfl,hM.nrow (j:=6) rfl⟩,hM.fr⟩)
    have ak:=dt h51;refine stm 9 2 [(36,vI (s.length:Int))] 48 0 0 (vL none 0 0) (fc (aCA 9 s) f0) hM rfl fun w1 hM=>stm 9 3 [] 32 1 0 (vI 2) f0 hM rfl fun w1 hM=>stm 9 4 [] 3 2 0 (vI (s.length:Int)) f0 hM rfl fun w1 hM=>?_;replace hM:Mm nF_ w _ [bk ae #[vL none 0 0] 48,bk af #[vI 2] 32,bk ag #[vI (s.length:Int)] 3,_,bk aa #[vL p9 l9.length c9,vI (s.length:Int),vL q9 sp.length cq9] 170,_,_]:=hM
    have hP:aBL s = .error (2,(s.length:Int)):=by
      unfold aBL;rw [hlx];simp only;rw [aIy,hqt];simp only;rw [if_pos (by have:=of_decide_eq_true h51;omega)]
    exact aV8 (fun _=>by simp [go_sem]) 0 1 2 rfl (aIl _ _ _ _) f0 hM rfl rfl rfl (hY _ _ ⟨by unfold aDQ;rw [hP],hM.fr⟩)
def aXq (w:World) (g:Nat):Prop:=∃ ev,w.cell? ⟨g,0,none⟩=some ev /\ (ev = .nilIface∨∃ te pe,ev = .iface te pe)
structure Te (w:World):Prop where
  tb:Tb w
  e0:aXq w 0
  e1:aXq w 1
theorem Te.fr {w w':World}(h:Te w) (f:Fr nF_ w w'):Te w' :=
  ⟨h.tb.fr f fun _ _ h=>h,let ⟨ev,h1,h2⟩:=h.e0;⟨ev,f.cell h1 id,h2⟩,let ⟨ev,h1,h2⟩:=h.e1;⟨ev,f.cell h1 id,h2⟩⟩
theorem aPz (s:Bys):(ofL s).data.toList=s:=by unfold ofL;simp
def aHz (s:Bys):Option Int:=match Lib.atoiAll s with
  | .ok v=>some v
  | _=>none
theorem aIn {w:World}{s:Bys}(hs:s.length<=281474976710656) (hT:Te w):Calls Tryz.prog 97 #[vS s] w fun e w'=>(∃ n ev,e = .returned (.tuple #[vI n,ev]) /\ ((aHz s=some n /\ ev = .nilIface /\ -9223372036854775808<=n /\ n<=9223372036854775807)∨(aHz s=none /\ ∃ T v,ev = .iface T v))) /\ Fr nF_ w w':=by
  have hsz:(ofL s).size=s.length:=aBl s;cases h:Lib.atoiAll s
  · rename_i v
    have h1:=h;rw [←aPz s] at h1;refine (Go.Proofs.Any.strconv_Atoi_ok Tryz.laysC172 (ofL s) (by omega) v h1 w).mono ?_;rintro e w' ⟨rfl,hw⟩;obtain ⟨b1,b2⟩:=Lib.atoiAll_bounds h;refine ⟨⟨v,.nilIface,rfl,.inl ⟨by unfold aHz;rw [h],rfl,b1,b2⟩⟩,?_⟩;rcases hw with rfl | ⟨t,rfl⟩
    · exact Fr.refl _ _
    · exact aK2 _ _ _
  · have h1:=h
    rw [←aPz s] at h1;obtain ⟨ev,hv,hev⟩:=hT.e0;refine (Go.Proofs.Any.strconv_Atoi_syntax Tryz.laysC172 (ofL s) (by omega) h1 ev w hv hev).mono ?_;rintro e w' ⟨N,rfl,_,_,hb⟩;exact ⟨⟨_,_,rfl,.inr ⟨by unfold aHz;rw [h],_,_,rfl⟩⟩,Fr.of_below hb⟩
  · have h1:=h
    rw [←aPz s] at h1;obtain ⟨ev,hv,hev⟩:=hT.e1;refine (Go.Proofs.Any.strconv_Atoi_range Tryz.laysC172 (ofL s) (by omega) h1 ev w hv hev).mono ?_;rintro e w' ⟨N,rfl,_,_,hb⟩;exact ⟨⟨_,_,rfl,.inr ⟨by unfold aHz;rw [h],_,_,rfl⟩⟩,Fr.of_below hb⟩
theorem Fr.grow_ (w:World) (k:Nat) (os:Array Obj):Fr nF_ w (Go.Sort.grow (w.drewN k) os) :=
  ⟨rfl,rfl,rfl,by show _<=(w.heap++os).size;simp,fun r hr _=>by show (w.heap++os)[r]?=_;rw [Array.getElem?_append_left hr]⟩
theorem aNC {w:World}(n:Int) (h0 : -9223372036854775808<=n) (h1:n<=9223372036854775807) (hT:Te w):Calls Tryz.prog 98 #[vI n] w fun e w'=>e = .returned (vS (Lib.itoa n)) /\ Fr nF_ w w' :=
  (Tryz.strconv_Itoa n h0 h1 w hT.tb.1).mono fun e w' ⟨h2,k,os,h3⟩=>⟨h2,h3▸Fr.grow_ w k os⟩
def aA7 (s:Bys):Int:=match aHz s with
  | some n=>bif decide (n<1)||decide (9999999<n) || !(Lib.itoa n==s) then 100 else n
  | none=>100
theorem aDn {w:World}{s:Bys}(hs:s.length<=281474976710656) (hT:Te w):Calls Tryz.prog 59 #[vS s] w fun e w'=>e = .returned (vI (aA7 s)) /\ Fr nF_ w w':=by
  cases hat:aHz s with
  | none =>
    refine beg Tryz.func59 rfl rfl [(0,vS s)] rfl rfl fun Z hZ=>?_;have hM:=Mm.nil nF_ w;refine cal 1 1 7 [(6,vS s)] (K:=fun u w8=>∃ n T v,u = .tuple #[vI n,.iface T v] /\ Fr nF_ w w8) f0 ((aIn hs (hT.fr hM.fr)).mono fun e w8 ⟨⟨n1,ev,h1,h2⟩,h3⟩=>by rcases h2 with ⟨h4,_⟩ | ⟨h4,T,v,rfl⟩<;>rw [hat] at h4<;>cases h4;exact ⟨_,h1,n1,T,v,rfl,h3⟩) fun u w1 ⟨n,T,v,hu,f1⟩=>?_;subst hu;have hM:=hM.q f1;refine opp 2 1 11 [(3,vI n),(10,.iface T v)] (v:=vB true) f0 (rt1 2 (vI 100) rfl f0 (hZ _ _ ⟨by unfold aA7;rw [hat],hM.fr⟩))
  | some n =>
    refine beg Tryz.func59 rfl rfl [(0,vS s)] rfl rfl fun Z hZ=>?_;have hM:=Mm.nil nF_ w;refine aXk 1 1 7 [(6,vS s)] (v := .tuple #[vI n,.nilIface]) (K:=fun w8=>Fr nF_ _ w8) f0 ((aIn hs (hT.fr hM.fr)).mono fun e w8 ⟨⟨n1,ev,h1,h2⟩,h3⟩=>by rcases h2 with ⟨h4,rfl,_⟩ | ⟨h4,_⟩<;>rw [hat] at h4<;>cases h4;exact ⟨h1,h3⟩) fun w1 f1=>?_;have hM:=hM.q f1;refine opp 2 1 11 [(3,vI n),(10,.nilIface)] (v:=vB false) f0 (seg 2 7 [(16,vB (decide (n<1)))] f0 ?_);cases h78:(decide (n<1))
    rotate_left
    ·have aa:=dt h78;exact rt1 2 (vI 100) rfl f0 (hZ _ _ ⟨by unfold aA7;rw [hat];simp only [h78]<;>rfl,hM.fr⟩)
    have aa:=df h78;refine seg 2 11 [(20,vB (decide (9999999<n)))] f0 ?_;cases h79:(decide (9999999<n))
    rotate_left
    ·have ab:=dt h79;exact rt1 2 (vI 100) rfl f0 (hZ _ _ ⟨by unfold aA7;rw [hat];simp only [h78,h79]<;>rfl,hM.fr⟩)
    have ab:=df h79;refine aAq 2 12 22 [(21,vI n)] f0 hM (aNC n (by omega) (by omega) (hT.fr hM.fr)) fun w1 hM=>seg 2 16 [(25,vB (!((Lib.itoa n)==s)))] (fc (sne 9 (Lib.itoa n) s) f0) ?_;cases h80:((Lib.itoa n)==s)
    ·exact rt1 2 (vI 100) rfl f0 (hZ _ _ ⟨by unfold aA7;rw [hat];simp only [h78,h79,h80]<;>rfl,hM.fr⟩)
    exact rt1 2 (vI n) rfl f0 (hZ _ _ ⟨by unfold aA7;rw [hat];simp only [h78,h79,h80]<;>rfl,hM.fr⟩)
def aAD {α:Type}(f:α->List Value) (c E:Nat) (L:List (Value×List α)):Ent where
  B:=fun k=>∃ x∈L,x.1.ownBlock=some k
  H:=fun w=>(∀ x∈L,ow f c E w 0 x.1 x.2) /\ L.Pairwise fun x y=>∀ k,x.1.ownBlock=some k->y.1.ownBlock≠some k
  lt:=fun h ⟨x,hx,hk⟩=>(rw_ f c E x.1 x.2).lt (h.1 x hx) hk
  fr:=fun h k hd=>⟨fun x hx=>(rw_ f c E x.1 x.2).fr (h.1 x hx) k fun b hb=>hd b ⟨x,hx,hb⟩,h.2⟩
theorem aJo {α:Type}{f:α->List Value}{c E:Nat}{F0:Nat->Prop}{w0 w:World}{M:List Ent}(h:Mm F0 w0 w M):Mm F0 w0 w (M++[aAD f c E ([]:List (Value×List α))]) :=
  h.add (Fr.refl _ _) _ ⟨fun x hx=>(by cases hx),.nil⟩ fun k ⟨x,hx,_⟩=>(by cases hx)
theorem aHy {α:Type}{f:α->List Value}{c E:Nat}{F0:Nat->Prop}{w0 w:World}{A:List Ent}{L L':List (Value×List α)}{v:Value}{r:List α}(h:Mm F0 w0 w (A++[aAD f c E L,rw_ f c E v r])) (hL:L'.Perm ((v,r)::L)):Mm F0 w0 w (A++[aAD f c E L']):=by
  have hb:=h.at_ (aAD f c E L) (by simp);have hr:=h.at_ (rw_ f c E v r) (by simp);have hnd:=List.pairwise_append.1 h.nd
  have hmem:∀ {k},(aAD f c E L').B k->(aAD f c E L).B k∨(rw_ f c E v r).B k:=fun ⟨x,hx,hk⟩=>by
    rcases List.mem_cons.1 (hL.mem_iff.1 hx) with rfl | hx
    · exact .inr hk
    · exact .inl ⟨x,hx,hk⟩
  have hdis:∀ k,(aAD f c E L).B k->¬ (rw_ f c E v r).B k:=(List.pairwise_cons.1 hnd.2.1).1 _ (by simp);refine ⟨h.fr,fun x hx=>?_,fun x hx k hk hl=>?_,?_⟩
  · rcases List.mem_append.1 hx with hx | hx
    · exact h.at_ x (Gv_ _ hx)
    · rw [Gd_] at hx
      subst hx;refine ⟨fun x hx=>?_,(hL.pairwise_iff (fun {x y} hxy k hy hx=>hxy k hx hy)).2 (List.pairwise_cons.2 ⟨fun y hy k hk hy2=>hdis k ⟨y,hy,hy2⟩ hk,hb.2⟩)⟩;rcases List.mem_cons.1 (hL.mem_iff.1 hx) with rfl | hx
      · exact hr
      · exact hb.1 x hx
  · rcases List.mem_append.1 hx with hx | hx
    · exact h.own x (Gv_ _ hx) k hk hl
    · rw [Gd_] at hx
      subst hx;rcases hmem hk with h1 | h1
      · exact h.own _ (by simp) k h1 hl
      · exact h.own (rw_ f c E v r) (by simp) k h1 hl
  · refine List.pairwise_append.2 ⟨hnd.1,List.pairwise_singleton _ _,fun x hx y hy k hxk hyk=>?_⟩
    rw [Gd_] at hy;subst hy;rcases hmem hyk with h1 | h1
    · exact hnd.2.2 x hx _ (by simp) k hxk h1
    · exact hnd.2.2 x hx (rw_ f c E v r) (by simp) k hxk h1
theorem aUV {α:Type}{f:α->List Value}{c E:Nat}{F0:Nat->Prop}{w0 w:World}{A:List Ent}{L L':List (Value×List α)}{v:Value}{r:List α}(h:Mm F0 w0 w (A++[aAD f c E L'])) (hL:L'.Perm ((v,r)::L)):Mm F0 w0 w (A++[aAD f c E L,rw_ f c E v r]):=by
  have hb:=h.at_ (aAD f c E L') (by simp);have hnd:=List.pairwise_append.1 h.nd;have hp:=List.pairwise_cons.1 ((hL.pairwise_iff (fun {x y} hxy k hy hx=>hxy k hx hy)).1 hb.2);have m1:∀ {k},(aAD f c E L).B k->(aAD f c E L').B k:=fun ⟨x,hx,hk⟩=>⟨x,hL.mem_iff.2 (.tail _ hx),hk⟩;have m2:∀ {k},(rw_ f c E v r).B k->(aAD f c E L').B k:=fun hk=>⟨(v,r),hL.mem_iff.2 (.head _),hk⟩;refine ⟨h.fr,fun x hx=>?_,fun x hx k hk hl=>?_,?_⟩
  · rcases List.mem_append.1 hx with hx | hx
    · exact h.at_ x (Gv_ _ hx)
    · simp only [Gj_,List.not_mem_nil,or_false] at hx
      rcases hx with rfl | rfl
      · exact ⟨fun x hx=>hb.1 x (hL.mem_iff.2 (.tail _ hx)),hp.2⟩
      · exact hb.1 (v,r) (hL.mem_iff.2 (.head _))
  · rcases List.mem_append.1 hx with hx | hx
    · exact h.own x (Gv_ _ hx) k hk hl
    · simp only [Gj_,List.not_mem_nil,or_false] at hx
      rcases hx with rfl | rfl
      · exact h.own _ (by simp) k (m1 hk) hl
      · exact h.own (aAD f c E L') (by simp) k (m2 hk) hl
  · refine List.pairwise_append.2 ⟨hnd.1,List.pairwise_cons.2 ⟨fun y hy k hk hy2=>?_,List.pairwise_singleton _ _⟩,fun x hx y hy k hxk hyk=>?_⟩
    · rw [Gd_] at hy
      subst hy;obtain ⟨x,hx,hk⟩:=hk;exact hp.1 x hx k hy2 hk
    · simp only [Gj_,List.not_mem_nil,or_false] at hy
      rcases hy with rfl | rfl
      · exact hnd.2.2 x hx _ (by simp) k hxk (m1 hyk)
      · exact hnd.2.2 x hx (aAD f c E L') (by simp) k hxk (m2 hyk)
def inL (n:Int):List Value:=[vI n]
theorem inT:ElT Tryz.prog inL 1 29 3:=⟨fun _=>rfl,by decide,fun x u hu=>by
  unfold inL at hu;rw [Gd_] at hu;subst hu;rfl,Tryz.underlying29,aBO (by kernel_rfl)⟩
abbrev aEN:=List (Bys×Value×List Int)
def aCH (T:aEN):Value->Option Value
  | .string s=>(T.find? fun x=>x.1==s.toList).map (·.2.1)
  | _=>none
theorem aLq (T:aEN) (s:Bys):aCH T (vS s)=(T.find? fun x=>x.1==s).map (·.2.1):=by
  show (T.find? fun x=>x.1==(ofL s).toList).map _=_;rw [aA5]
def aE6 (T:aEN) (s:Bys):List Int:=match T.find? fun x=>x.1==s with
  | some x=>x.2.2
  | none=>[]
def aC3 (T:aEN) (s:Bys):aEN:=T.filter fun x => !(x.1==s)
theorem aJY {T:aEN}{s t:Bys}(h:¬ t=s):(aC3 T s).find? (fun x=>x.1==t)=T.find? fun x=>x.1==t:=by
  unfold aC3;rw [List.find?_filter];congr 1;funext x
  by_cases e:x.1=t
  · have h1:(x.1==t)=true:=by simpa using e
    have h2:(x.1==s)=false:=by simpa using fun e2:x.1=s=>h (e.symm.trans e2)
    rw [h1,h2];rfl
  · have h1:(x.1==t)=false:=by simpa using e
    rw [h1];simp
theorem aRH:aCH []=fun _=>none:=by funext v;cases v<;>rfl
theorem aRG (T:aEN) (s:Bys) (v:Value) (r:List Int):upd (aCH T) (vS s) v=aCH ((s,v,r)::aC3 T s):=by
  funext z
  by_cases e:z=vS s
  · subst e;rw [aCt,aLq];simp
  · rw [aBG _ e]
    cases z with
    | string b =>
      have hne:¬ b.toList=s:=aOu e;show (T.find? fun x=>x.1==b.toList).map _=(List.find? _ ((s,v,r)::aC3 T s)).map _;rw [List.find?_cons,show (s==b.toList)=false by simpa using fun h:s=b.toList=>hne h.symm];simp only;rw [aJY hne]
    | _=>rfl
theorem aNx (T:aEN) (s t:Bys) (v:Value) (r:List Int):aE6 ((s,v,r)::aC3 T s) t=bif s==t then r else aE6 T t:=by
  unfold aE6;rw [List.find?_cons]
  cases h:s==t with
  | true=>rfl
  | false =>
    simp only;rw [aJY (by simpa using fun e:t=s=>(by simp [e] at h))];rfl
theorem aN2 {T:aEN}(h:(T.map (·.1)).Nodup) (s:Bys) (v:Value) (r:List Int):(((s,v,r)::aC3 T s).map (·.1)).Nodup:=by
  rw [List.map_cons,List.nodup_cons];refine ⟨fun hm=>?_,?_⟩
  · obtain ⟨x,hx,e⟩:=List.mem_map.1 hm
    have:=(List.mem_filter.1 hx).2;simp [e] at this
  · exact (List.Sublist.map _ List.filter_sublist).nodup h
theorem aJX:∀ {T:aEN},(T.map (·.1)).Nodup->∀ {x:Bys×Value×List Int}{s:Bys},T.find? (fun y=>y.1==s)=some x->x.1=s /\ T.Perm (x::aC3 T s)
  | [],_,x,s,h=>by cases h
  | y::T,hn,x,s,h=>by
    rw [List.map_cons,List.nodup_cons] at hn;rw [List.find?_cons] at h
    cases hy:y.1==s with
    | true =>
      rw [hy] at h;cases h;have hys:y.1=s:=by simpa using hy
      refine ⟨hys,?_⟩
      have:aC3 (y::T) s=T:=by
        unfold aC3;rw [List.filter_cons,hy];simp only [Bool.not_true,Bool.false_eq_true,if_false];rw [List.filter_eq_self];intro z hz;have:¬ z.1=s:=fun e=>hn.1 (by rw [hys,←e];exact List.mem_map.2 ⟨z,hz,rfl⟩);simpa using this
      rw [this]
    | false =>
      rw [hy] at h;obtain ⟨h1,h2⟩:=aJX hn.2 h;refine ⟨h1,?_⟩;have:aC3 (y::T) s=y::aC3 T s:=by unfold aC3;rw [List.filter_cons,hy];rfl
      rw [this];exact (h2.cons y).trans (List.Perm.swap x y _)
theorem aPf {T:aEN}{s:Bys}(h:T.find? (fun y=>y.1==s)=none):aC3 T s=T:=by
  unfold aC3;rw [List.filter_eq_self];intro z hz;have:=List.find?_eq_none.1 h z hz;simpa using this
theorem aRE {F0:Nat->Prop}{w0 w:World}{A:List Ent}{T:aEN}(s:Bys) (hn:(T.map (·.1)).Nodup) (h:Mm F0 w0 w (A++[aAD inL 1 3 (T.map (·.2))])):∃ v r,(aCH T (vS s)).getD (vL none 0 0)=v /\ r=aE6 T s /\ Mm F0 w0 w (A++[aAD inL 1 3 ((aC3 T s).map (·.2)),rw_ inL 1 3 v r]):=by
  rw [aLq];unfold aE6
  cases hf:T.find? (fun y=>y.1==s) with
  | none =>
    refine ⟨vL none 0 0,[],rfl,rfl,?_⟩;rw [aPf hf];have:=h.row (f:=inL) (c:=1) (E:=3)
    rwa [Gn_] at this
  | some x =>
    obtain ⟨h1,h2⟩:=aJX hn hf;exact ⟨x.2.1,x.2.2,rfl,rfl,aUV h (h2.map (·.2))⟩
def aC9 (l:List Arc) (s:Bys):List Int:=(l.zipIdx.filter fun x=>x.1.1==s).map fun x=>(x.2:Int)
theorem aPQ (l:List Arc) (a:Arc) (s:Bys):aC9 (l++[a]) s=bif a.1==s then aC9 l s++[(l.length:Int)] else aC9 l s:=by
  unfold aC9;rw [List.zipIdx_append,List.filter_append,List.map_append];cases h:a.1==s<;>simp [h]
theorem aRF {T:aEN}{l:List Arc}{a:Arc}{i:Nat}{v:Value}(hT:∀ s,aE6 T s=aC9 (l.take i) s) (ha:l[i]?=some a):∀ s,aE6 ((a.1,v,aE6 T a.1++[(i:Int)])::aC3 T a.1) s=aC9 (l.take (i+1)) s:=by
  intro s;rw [aNx,gt_ ha,aPQ,Gt_,Nat.min_eq_left (Nat.le_of_lt (gl ha)),hT,hT]
  cases h:a.1==s with
  | true =>
    have:a.1=s:=by simpa using h
    rw [this]
  | false=>rfl
structure Road where
  closed:Bool
  oneway:Bool
  limited:Bool
  speed:Int
  hours:List Sp
  refs:List Bys
def aFo:Bys:=[102,111,111,116]
def aDW (o:Ob):Except (Int×Int) (List Sp):=aBL (aAy o.tags [104,111,117,114,115]).1
def aAd (o:Ob):List Sp:=match aDW o with
  | .ok l=>l
  | .error _=>[]
def aDz (o:Ob):Bool:=match aDW o with
  | .ok _=>true
  | .error _=>false
def aAu (prof:Bys) (o:Ob):Road :=
  { closed:=(aAy o.tags prof).1==[110,111]
    oneway:=((aAy o.tags [111,110,101,119,97,121]).1==[121,101,115]) && !(prof==aFo)
    limited:=(aAy o.tags [104,111,117,114,115]).2&&aDz o
    speed:=aA7 (aAy o.tags [115,112,101,101,100]).1
    hours:=aAd o
    refs:=o.refs }
abbrev aGg (prof:Bys) (b:ObR) (hv:Value):Value := .agg #[vB (aAu prof b.o).closed,vB (aAu prof b.o).oneway,vB (aAu prof b.o).limited,vI (aAu prof b.o).speed,hv,rfV b]
abbrev RdT:=List (ObR×Value)
def rdF (prof:Bys) (T:RdT):Value->Option Value
  | .string s=>(T.find? fun x=>x.1.o.id==s.toList).map fun x=>aGg prof x.1 x.2
  | _=>none
theorem aSO (prof:Bys) (T:RdT) (s:Bys):rdF prof T (vS s)=(T.find? fun x=>x.1.o.id==s).map fun x=>aGg prof x.1 x.2:=by
  show (T.find? fun x=>x.1.o.id==(ofL s).toList).map _=_;rw [aA5]
theorem aUf (prof:Bys):rdF prof []=fun _=>none:=by funext v;cases v<;>rfl
theorem aID (prof:Bys) (T:RdT) (b:ObR) (hv:Value):upd (rdF prof T) (vS b.o.id) (aGg prof b hv)=rdF prof ((b,hv)::T):=by
  funext z
  by_cases e:z=vS b.o.id
  · subst e;rw [aCt,aSO];simp
  · rw [aBG _ e]
    cases z with
    | string s =>
      have hne:¬ s.toList=b.o.id:=aOu e;show (T.find? _).map _=(List.find? _ ((b,hv)::T)).map _;rw [List.find?_cons,show (b.o.id==s.toList)=false by simpa using fun h:b.o.id=s.toList=>hne h.symm]
    | _=>rfl
def hrB (T:RdT):List (Value×List Sp):=T.map fun x=>(x.2,aAd x.1.o)
def aBQ (os:List ObR):List ObR:=(os.filter fun b=>b.o.kind==2).reverse
theorem aEO {os:List ObR}{b:ObR}(h:(b.o.kind==2)=true):aBQ (os++[b])=b::aBQ os:=by unfold aBQ;rw [List.filter_append];simp [h]
theorem aIq {os:List ObR}{b:ObR}(h:(b.o.kind==2)=false):aBQ (os++[b])=aBQ os:=by unfold aBQ;rw [List.filter_append];simp [h]
abbrev Tri:=Bys×Bys×Bys
abbrev aSC (t:Tri):Value := .agg #[vS t.1,vS t.2.1,vS t.2.2]
open Classical in
noncomputable def setT (S:List Tri):Value->Option Value:=fun v=>if ∃ a∈S,v=aSC a then some (vB true) else none
theorem aQV {a b:Tri}(h:aSC a=aSC b):a=b:=by
  obtain ⟨a1,a2,a3⟩:=a;obtain ⟨b1,b2,b3⟩:=b;have h:Value.agg #[vS a1,vS a2,vS a3] = .agg #[vS b1,vS b2,vS b3]:=h;simp only [Value.agg.injEq,Array.mk.injEq,List.cons.injEq,and_true] at h;obtain ⟨h1,h2,h3⟩:=h;rw [aHL h1,aHL h2,aHL h3]
theorem aOM (S:List Tri) (x:Tri):((setT S) (aSC x)).getD (vB false)=vB (S.contains x):=by
  unfold setT
  by_cases h:x∈S
  · rw [if_pos ⟨x,h,rfl⟩,show S.contains x=true by simpa using h];rfl
  · rw [if_neg (fun ⟨a,ha,e⟩=>h (by rw [aQV e];exact ha)),show S.contains x=false by simpa using h];rfl
theorem aRl (S:List Tri) (x:Tri):upd (setT S) (aSC x) (vB true)=setT (S++[x]):=by
  funext v;unfold setT
  by_cases e:v=aSC x
  · subst e;rw [aCt,if_pos ⟨x,by simp,rfl⟩]
  · rw [aBG _ e]
    by_cases h:∃ a∈S,v=aSC a
    · obtain ⟨a,ha,rfl⟩:=h
      rw [if_pos ⟨a,ha,rfl⟩,if_pos ⟨a,Gv_ _ ha,rfl⟩]
    · rw [if_neg h,if_neg]
      rintro ⟨a,ha,rfl⟩;rw [List.mem_append,Gd_] at ha;rcases ha with ha | rfl
      · exact h ⟨a,ha,rfl⟩
      · exact e rfl
theorem aRm:setT []=fun _=>none:=by funext v;unfold setT;rw [if_neg (by rintro ⟨a,ha,-⟩;cases ha)]
def aT7 (o:Ob):Tri:=(o.refs.getD 0 [],o.refs.getD 1 [],o.refs.getD 2 [])
def aCe (prof:Bys) (os:List ObR):List Tri:=bif prof==aFo then [] else (os.filter fun b=>b.o.kind==5).map fun b=>aT7 b.o
theorem aC8 (prof:Bys) (os:List ObR) (b:ObR):aCe prof (os++[b])=bif !(prof==aFo)&&(b.o.kind==5) then aCe prof os++[aT7 b.o] else aCe prof os:=by
  unfold aCe;rw [List.filter_append,List.map_append];cases h1:prof==aFo<;>cases h2:b.o.kind==5<;>simp [h2]
theorem aSY:Maps.Keyed Tryz.prog 114:=Maps.Keyed.of_law (deep_law (m:=2) (by decide) (by kernel_rfl) (by kernel_rfl) (by kernel_rfl))
theorem aTb {a:Tri}(h1:B63 a.1) (h2:B63 a.2.1) (h3:B63 a.2.2):∃ l,keyOf Tryz.prog 114 (aSC a)=some l:=by
  obtain ⟨m,hm⟩:=tsz;unfold keyOf;rw [u114_];simp only;rw [if_pos (by kernel_rfl),hm];refine ⟨.string (keyBytes [.string (ofL a.1).data.toList,.string (ofL a.2.1).data.toList,.string (ofL a.2.2).data.toList]),?_⟩
  have hk:Tryz.prog.keyLits (m+1+1) 114 [vS a.1,vS a.2.1,vS a.2.2]=some [.string (ofL a.1).data.toList,.string (ofL a.2.1).data.toList,.string (ofL a.2.2).data.toList]:=by
    unfold Program.keyLits;simp only [u114_];rw [if_pos (by kernel_rfl)];simp [List.range_succ,co9,kl9 h1,kl9 h2,kl9 h3]
  show (Tryz.prog.keyLits (m+1+1) 114 [vS a.1,vS a.2.1,vS a.2.2]).map _=_;rw [hk];rfl
theorem aCP {l:List Arc}{a:Arc}(h:a∈aCn l):a∈l:=by
  have key:∀ (l r:List Arc),a∈l.foldl (fun r a=>bif r.contains a then r else r++[a]) r->a∈r∨a∈l:=by
    intro l
    induction l with
    | nil=>intro r h;exact .inl h
    | cons b l ih =>
      intro r h;rw [List.foldl_cons] at h;rcases ih _ h with h | h
      · cases hb:r.contains b with
        | true=>rw [hb] at h;exact .inl h
        | false =>
          rw [hb] at h;rcases List.mem_append.1 h with h | h
          · exact .inl h
          · rw [Gd_] at h;exact .inr (h ▸ .head _)
      · exact .inr (.tail _ h)
  rcases key l [] h with h | h
  · cases h
  · exact h
theorem aSd (l:List Arc) (s:Bys):(aC9 l s).length<=l.length:=by
  unfold aC9;rw [Gs_];exact Gp_ (List.length_filter_le _ _) (by rw [List.length_zipIdx];exact Gl_ _)
theorem aOh (w:World):(zeroValue 29).run Tryz.prog w = .ok (vL none 0 0) w:=by kernel_rfl
abbrev AS (os:List ObR):List Arc:=aCn (aAw os)
theorem aSx (prof:Bys):aCe prof []=[]:=by unfold aCe;cases prof==aFo<;>rfl
theorem aYu {w:World}{p:Option Addr}{cap:Nat}{a b c:Bys}(h:SrcP stL 1 w p cap [a,b,c]):∃ g off,p=some ⟨g,off,none⟩ /\ w.rangeAt g off [vS a,vS b,vS c]:=by
  rcases h.at_ with h | ⟨g,off,h1,h2,h3⟩
  · cases h
  · refine ⟨g,off,h1,fun j u hu=>?_⟩
    have h0:=h3 0 a rfl 0 (vS a) rfl;have h1:=h3 1 b rfl 0 (vS b) rfl;have h2:=h3 2 c rfl 0 (vS c) rfl
    match j,hu with
    | 0,hu=>cases hu;exact h0
    | 1,hu=>cases hu;exact h1
    | 2,hu=>cases hu;exact h2
theorem aXU {P:Program}{w:World}{T e:TypeId}{p:Option Addr}{n c g off:Nat}(hT:P.underlying T=some (.array 3 e)) (hp:p=some ⟨g,off,none⟩) (hn:3<=n):Ft.ok P w (.g1 (fun x => .sliceToArrayPointer T x) (vL p n c) (vP g off)):=fun o ρ x ho hx=>by
  subst hp;have:=run_arrayAt (P:=P) (w:=w) T e 3 (some ⟨g,off,none⟩) n c hT hn;simp only [execOp,ho,hx,Sem.run_bind,this,Result.andThen_ok,Sem.run_pure]
theorem aPp {w:World}{o:Ob}(hT:Tb w) (hl:(aAy o.tags [104,111,117,114,115]).1.length<=4900):Calls Tryz.prog 58 #[vS (aAy o.tags [104,111,117,114,115]).1] w fun e w'=>∃ v c x,e = .returned (.tuple #[v,vI c,vI x]) /\ (c==0)=aDz o /\ aH6 spL 2 141 w w' v (aAd o) /\ Fr nF_ w w':=by
  refine (aLp hl hT).mono ?_;rintro e w' ⟨h1,h2⟩;unfold aDQ at h1;rcases aE9 (aAy o.tags [104,111,117,114,115]).1 with ⟨c,x,hp,hc,-⟩ | ⟨l,hp,-⟩
  · rw [hp] at h1
    refine ⟨_,c,x,h1,?_,?_,h2⟩
    · unfold aDz aDW;rw [hp];simpa using hc
    · unfold aAd aDW;rw [hp];exact ⟨aPr _,fun k h=>by cases h⟩
  · rw [hp] at h1
    obtain ⟨v,h1,h3⟩:=h1;refine ⟨v,0,0,h1,?_,?_,h2⟩
    · unfold aDz aDW;rw [hp];rfl
    · unfold aAd aDW;rw [hp];exact h3
theorem aIu {k:Bys}:∀ {l:List Ob},aIW k l=true->∀ o∈l,aA6 o=true
  | [],_,o,h=>by cases h
  | b::l,hm,o,h=>by
    unfold aIW at hm;simp only [Ga_] at hm;rcases List.mem_cons.1 h with rfl | h
    · exact hm.1.1
    · exact aIu hm.2 o h
theorem aMa {k:Bys}:∀ {l:List Tag},aI1 k l=true->∀ t∈l,t.2.length<=200
  | [],_,t,h=>by cases h
  | b::l,hm,t,h=>by
    unfold aI1 at hm;simp only [Ga_,decide_eq_true_eq] at hm;rcases List.mem_cons.1 h with rfl | h
    · have:=hm.1.2;omega
    · exact aMa hm.2 t h
theorem aSg {l:List Tag}(h:∀ t∈l,t.2.length<=200) (k:Bys):(aAy l k).1.length<=200:=by
  induction l with
  | nil=>simp [aAy]
  | cons t l ih =>
    unfold aAy
    cases t.1==k with
    | true=>exact h t (.head _)
    | false=>exact ih fun t ht=>h t (.tail _ ht)
theorem aBV {o:Ob}(h:aA6 o=true) (k:Bys):(aAy o.tags k).1.length<=200:=by
  unfold aA6 at h;simp only [Ga_] at h;have h1:=h.1.1.1.1.2;unfold aBr at h1;rw [Ga_] at h1;exact aSg (aMa h1.1) k
theorem aNe {o:Ob}(h:aA6 o=true) (hk:o.kind=5):o.refs.length=3:=by
  unfold aA6 at h;rw [hk] at h;simp only [Ga_] at h;have:=h.2;simp at this;omega
noncomputable abbrev stM (bs ca bo br bb no nr nb:Nat) (qa:Option Addr) (prof:Bys) (os:List ObR) (T:aEN) (T2:RdT):List Ent :=
  [bk bs #[vS prof,vL qa (AS os).length ca,.map (some bo),.map (some br),.map (some bb)] 80,rw_ arL 4 47 (vL qa (AS os).length ca) (AS os),mp Tryz.prog 9 bo no (aCH T),aAD inL 1 3 (T.map (·.2)),mp Tryz.prog 9 br nr (rdF prof T2),aAD spL 2 141 (hrB T2),mp Tryz.prog 114 bb nb (setT (aCe prof os))]
abbrev A29 (Z:Ending->World->Prop):=AtO Tryz.prog (aAf Tryz.f29) (aAo (bodyPost Tryz.prog Tryz.f29 Z)) [] 137
theorem aFV {w:World}{v:Value}{os:List ObR}{prof:Bys}(hm:aCq w v os) (hvm:aAc (aAa os)=true) (hlen:(aAw os).length<=300000000) (hTe:Te w):Calls Tryz.prog 29 #[.agg #[v],vS prof] w fun e w'=>∃ bs ca bo br bb no nr nb qa T T2,e = .returned (vP bs 0) /\ (T.map (·.1)).Nodup /\ (∀ s,aE6 T s=aC9 (AS os) s) /\ T2.map (·.1)=aBQ os /\ Mm nF_ w w' (stM bs ca bo br bb no nr nb qa prof os T T2):=by
  have hm0:=hm;obtain ⟨hs0,hob⟩:=hm0;have hll:(AS os).length<=300000000:=Gp_ (aGU _) hlen;obtain ⟨p0,cp0,hp0,sp0⟩:=hs0.op;subst hp0;have bp0:=sp0.bnd;refine beg Tryz.func29 rfl rfl [(0,.agg #[vL p0 os.length cp0]),(1,vS prof)] rfl rfl fun Y hY=>?_;have hM:=Mm.nil nF_ w;refine aAp 0 0 2 [] (cs:=#[vL p0 os.length cp0]) (T:=24) (v:=fun b=>vP b 0) f0 hM fun ag w1 hM=>aMT 1 2 23 [(21,vS prof),(22,.agg #[vL p0 os.length cp0])] (f:=arL) (c:=4) (E:=47) (A:=(AS os)) (fc (lam 24 0 0 1 hM rfl) f0) hM (aNT (hm.fr hM.fr) hvm hlen) fun u w1 hM=>?_;obtain ⟨ad,ab,eqa79,sqa79⟩:=(hM.src (j:=1) rfl arT.len).op;subst eqa79;refine aHF 1 3 24 [] 9 f0 hM fun ac w1 hM=>aHF 1 4 25 [] 9 f0 hM fun aa w1 hM=>aHF 1 5 26 [] 114 f0 hM fun ae w1 hM=>aAp 1 7 28 [(27,.agg #[vS prof,vL ad (AS os).length ab,.map (some ac),.map (some aa),.map (some ae)])] (cs:=#[vS prof,vL ad (AS os).length ab,.map (some ac),.map (some aa),.map (some ae)]) (T:=80) (v:=fun b=>vP b 0) f0 hM fun af w1 hM=>seg 3 0 [(5,vP af 0),(32,vL ad (AS os).length ab),(33,vI ((AS os).length:Int)),(34,vI 0)] (fc (ldm 75 5 1 hM rfl rfl) f0) ?_;have hM:=aJo (f:=inL) (c:=1) (E:=3) hM;have hM:Mm nF_ w _ [bk ag #[vL p0 os.length cp0] 24,rw_ arL 4 47 (vL ad (AS os).length ab) (AS os),mp Tryz.prog 9 aa 0 (fun _=>none),mp Tryz.prog 114 ae 0 (fun _=>none),bk af #[vS prof,vL ad (AS os).length ab,.map (some ac),.map (some aa),.map (some ae)] 80,mp Tryz.prog 9 ac 0 (fun _=>none),aAD inL 1 3 (([]:aEN).map (·.2))]:=hM.pick [0,1,3,4,5,2,6];have hM:=hM.cast (M':=[bk ag #[vL p0 os.length cp0] 24,rw_ arL 4 47 (vL ad (AS os).length ab) (AS os),mp Tryz.prog 9 aa 0 (fun _=>none),mp Tryz.prog 114 ae 0 (fun _=>none),bk af #[vS prof,vL ad (AS os).length ab,.map (some ac),.map (some aa),.map (some ae)] 80,mp Tryz.prog 9 ac 0 (aCH []),aAD inL 1 3 (([]:aEN).map (·.2))]) (by rw [aRH])
  have ap:∀ (al:Nat) (i:Nat) (n:Nat) (T:aEN) (w2:World),i<=(AS os).length->(T.map (·.1)).Nodup->(∀ s,aE6 T s=aC9 ((AS os).take i) s)->Mm nF_ w w2 [bk ag #[vL p0 os.length cp0] 24,rw_ arL 4 47 (vL ad (AS os).length ab) (AS os),mp Tryz.prog 9 aa 0 (fun _=>none),mp Tryz.prog 114 ae 0 (fun _=>none),bk af #[vS prof,vL ad (AS os).length ab,.map (some ac),.map (some aa),.map (some ae)] 80,mp Tryz.prog 9 ac n (aCH T),aAD inL 1 3 (T.map (·.2))]->al=(AS os).length-i->A29 Y (some (3,0)) [(34,vI (i:Int)),(33,vI ((AS os).length:Int)),(32,vL ad (AS os).length ab),(5,vP af 0),(2,vP ag 0),(1,vS prof)] w2:=by
   refine aA8 fun al aq i n T w2 hi hnd hT hM az=>seg 3 1 [(35,vB (decide ((i:Int)<((AS os).length:Int))))] f0 ?_;cases h87:(decide ((i:Int)<((AS os).length:Int)))
   rotate_left
   ·have ar:=dt h87;obtain ⟨y,hy⟩:=geb (l:=AS os) (i:=i) (by omega);obtain ⟨a0,am,-⟩:=hM.el arT (j:=1) rfl hy;refine aAp 4 3 7 [(36,vI (i:Int)),(38,.agg #[vS y.1,vS y.2.1,vS y.2.2.1,vI y.2.2.2])] (cs:=#[vS [],vS [],vS [],vI 0]) (T:=47) (v:=fun b=>vP b 0) (fc (ix 75 ab am (gl hy)) (fc (lar 47 1 0 4 arT hM rfl am hy) f0)) hM fun ak w1 hM=>stm 4 5 [(6,vI (i:Int))] 47 7 0 (.agg #[vS y.1,vS y.2.1,vS y.2.2.1,vI y.2.2.2]) f0 hM rfl fun w1 hM=>?_;have hM:Mm nF_ w _ ([bk ag #[vL p0 os.length cp0] 24,rw_ arL 4 47 (vL ad (AS os).length ab) (AS os),mp Tryz.prog 9 aa 0 (fun _=>none),mp Tryz.prog 114 ae 0 (fun _=>none),bk af #[vS prof,vL ad (AS os).length ab,.map (some ac),.map (some aa),.map (some ae)] 80,bk ak #[vS y.1,vS y.2.1,vS y.2.2.1,vI y.2.2.2] 47,mp Tryz.prog 9 ac n (aCH T)]++[aAD inL 1 3 (T.map (·.2))]):=hM.pick [0,1,2,3,4,7,5,6];obtain ⟨v9,ro,hov,hro,hM⟩:=aRE y.1 hnd hM;obtain ⟨qo,co,rfl,-⟩:=(hM.src (j:=8) rfl inT.len).op;have hab:=aFv (fun b hb=>(hob b hb).bnd) y (aCP (gm hy));have hrl:ro.length<=300000000:=by rw [hro,hT];exact Gp_ (aSd _ _) (Gp_ (by rw [Gt_];exact Nat.min_le_right _ _) hll)
    replace hM:Mm nF_ w _ [bk ag #[vL p0 os.length cp0] 24,_,_,_,bk af #[vS prof,vL ad (AS os).length ab,.map (some ac),.map (some aa),.map (some ae)] 80,bk ak #[vS y.1,vS y.2.1,vS y.2.2.1,vI y.2.2.2] 47,_,_,_]:=hM;refine seg 5 0 [] f0 ?_;have hM:=hM.nl;refine drx [12,14,15,16] (fun Z=>[some (vL qo ro.length co),some (vL (some ⟨(bn (Z 1)),0,none⟩) 1 1),some ((Z 2)),none]) _ (fun Z l=>[bk ag #[vL p0 os.length cp0] 24,rw_ arL 4 47 (vL ad (AS os).length ab) (AS os),mp Tryz.prog 9 aa 0 (fun _=>none),mp Tryz.prog 114 ae 0 (fun _=>none),bk af #[vS prof,vL ad (AS os).length ab,.map (some ac),.map (some aa),.map (some ae)] 80,bk ak #[vS y.1,vS y.2.1,vS y.2.2.1,vI y.2.2.2] 47,(bif l.getD 3 false then mp Tryz.prog 9 ac (n+1) (upd (aCH T) (vS y.1) ((Z 2))) else mp Tryz.prog 9 ac n (aCH T)),aAD inL 1 3 ((aC3 T y.1).map (·.2)),(bif l.getD 2 false then rw_ inL 1 3 (Z 2) (ro++[(i:Int)]) else rw_ inL 1 3 (vL qo ro.length co) ro),(bif l.getD 1 false then bk (bn (Z 1)) #[vI (i:Int)] 3 else aJz)]) (fun Z=>[]) hM (fun Z=>rfl) (fun Z l w5 hM=>(fc (ldm 76 4 2 hM rfl rfl) (fc (ldm 9 5 0 hM rfl rfl) (fc (ldm 76 4 2 hM rfl rfl) (fc (ldm 9 5 0 hM rfl rfl) f0))))) ⟨aXn 0 12 76 6 51 n ac (aCH T) (vS y.1) (vL none 0 0) (vL qo ro.length co) aD5 u76_ (aD6 hab.f1) aOh hov,aCJ 1 14 9 53 (fun Z=>#[vI (i:Int)]) 3 (fun b=>vL (some ⟨b,0,none⟩) 1 1),aWu 2 15 8 54 29 3 0 (fun Z=>vL qo ro.length co) ro [(i:Int)] (fun Z=>(bn (Z 1))) 1 inT (by simp only [Gf_,Go_];omega) (fun Z fr wm hM=>aAG (f:=inL) (x:=(i:Int)) (hM.get 9 (e:=bk ((bn (Z 1))) (inL (i:Int)).toArray 3) (by kernel_rfl)) (Gq_ _)),aGb 3 16 76 6 (fun Z=>ac) n (aCH T) (fun Z=>vS y.1) (fun Z=>(Z 2)) aD5 u76_ (fun Z=>(aD6 hab.f1)),trivial⟩ fun ai w1 hM=>?_;replace hM:Mm nF_ w w1 [bk ag #[vL p0 os.length cp0] 24,_,_,_,bk af #[vS prof,vL ad (AS os).length ab,.map (some ac),.map (some aa),.map (some ae)] 80,bk ak #[vS y.1,vS y.2.1,vS y.2.2.1,vI y.2.2.2] 47,_,_,_,bk (bn (ai 1)) #[vI (i:Int)] 3]:=hM;have hM:Mm nF_ w _ ([bk ag #[vL p0 os.length cp0] 24,rw_ arL 4 47 (vL ad (AS os).length ab) (AS os),mp Tryz.prog 9 aa 0 (fun _=>none),mp Tryz.prog 114 ae 0 (fun _=>none),bk af #[vS prof,vL ad (AS os).length ab,.map (some ac),.map (some aa),.map (some ae)] 80,mp Tryz.prog 9 ac (n+1) (upd (aCH T) (vS y.1) ((ai 2)))]++[aAD inL 1 3 ((aC3 T y.1).map (·.2)),rw_ inL 1 3 (ai 2) (ro++[(i:Int)])]):=hM.pick [0,1,2,3,4,6,7,8];have hM:=aHy (L':=((y.1,(ai 2),ro++[(i:Int)])::aC3 T y.1).map (·.2)) hM (.refl _);have e9:(upd (aCH T) (vS y.1) ((ai 2)))=aCH ((y.1,(ai 2),ro++[(i:Int)])::aC3 T y.1):=aRG T y.1 _ _;have hM:=hM.cast (M':=[bk ag #[vL p0 os.length cp0] 24,rw_ arL 4 47 (vL ad (AS os).length ab) (AS os),mp Tryz.prog 9 aa 0 (fun _=>none),mp Tryz.prog 114 ae 0 (fun _=>none),bk af #[vS prof,vL ad (AS os).length ab,.map (some ac),.map (some aa),.map (some ae)] 80,mp Tryz.prog 9 ac (n+1) (aCH ((y.1,(ai 2),ro++[(i:Int)])::aC3 T y.1)),aAD inL 1 3 (((y.1,(ai 2),ro++[(i:Int)])::aC3 T y.1).map (·.2))]) (by rw [e9];rfl);refine seg 3 0 [(34,vI ((i:Int)+1))] (fc (aAe (i:Int) 1 u3_) f0) (aAb _ (aq _ (by omega) (i+1) (n+1) ((y.1,(ai 2),ro++[(i:Int)])::aC3 T y.1) _ (gl hy) (aN2 hnd _ _ _) (hro▸aRF hT hy) hM rfl))
   have ar:=df h87;refine seg 8 0 [(57,vL p0 os.length cp0),(58,vI (os.length:Int)),(59,vI 0)] (fc (ldm 22 0 0 hM rfl rfl) f0) ?_;have hM:=aJo (f:=spL) (c:=2) (E:=141) hM;have et9:(AS os).take i=AS os:=Gc_ (by omega);rw [et9] at hT;clear et9;have hM:Mm nF_ w _ [bk ag #[vL p0 os.length cp0] 24,rw_ arL 4 47 (vL ad (AS os).length ab) (AS os),bk af #[vS prof,vL ad (AS os).length ab,.map (some ac),.map (some aa),.map (some ae)] 80,mp Tryz.prog 9 ac n (aCH T),aAD inL 1 3 (T.map (·.2)),mp Tryz.prog 9 aa 0 (fun _=>none),mp Tryz.prog 114 ae 0 (fun _=>none),aAD spL 2 141 ([]:List (Value×List Sp))]:=hM.pick [0,1,4,5,6,2,3,7];have hM:=hM.cast (M':=[bk ag #[vL p0 os.length cp0] 24,rw_ arL 4 47 (vL ad (AS os).length ab) (AS os),bk af #[vS prof,vL ad (AS os).length ab,.map (some ac),.map (some aa),.map (some ae)] 80,mp Tryz.prog 9 ac n (aCH T),aAD inL 1 3 (T.map (·.2)),mp Tryz.prog 9 aa 0 (rdF prof []),mp Tryz.prog 114 ae 0 (setT (aCe prof (os.take 0))),aAD spL 2 141 (hrB [])]) (by rw [aUf,List.take_zero,aSx,aRm];rfl)
   have au:∀ (an:Nat) (i2:Nat) (n3:Nat) (n4:Nat) (T2:RdT) (w2:World),i2<=os.length->T2.map (·.1)=aBQ (os.take i2)->Mm nF_ w w2 [bk ag #[vL p0 os.length cp0] 24,rw_ arL 4 47 (vL ad (AS os).length ab) (AS os),bk af #[vS prof,vL ad (AS os).length ab,.map (some ac),.map (some aa),.map (some ae)] 80,mp Tryz.prog 9 ac n (aCH T),aAD inL 1 3 (T.map (·.2)),mp Tryz.prog 9 aa n3 (rdF prof T2),mp Tryz.prog 114 ae n4 (setT (aCe prof (os.take i2))),aAD spL 2 141 (hrB T2)]->an=os.length-i2->A29 Y (some (8,0)) [(59,vI (i2:Int)),(58,vI (os.length:Int)),(57,vL p0 os.length cp0),(5,vP af 0),(1,vS prof)] w2:=by
    refine aA8 fun an aj i2 n3 n4 T2 w2 hi2 hT2 hM a1=>seg 8 1 [(60,vB (decide ((i2:Int)<(os.length:Int))))] f0 ?_;cases h91:(decide ((i2:Int)<(os.length:Int)))
    ·have av:=df h91;have e9:os.take i2=os:=Gc_ (by omega);rw [e9] at hT2 hM;exact rt1 4 (vP af 0) rfl f0 (hY _ _ ⟨_,_,_,_,_,_,_,_,_,T,T2,rfl,hnd,hT,hT2,hM.pick [2,1,3,4,5,7,6]⟩)
    have av:=dt h91;obtain ⟨y2,hy2,a2,a3,q92,aw⟩:=sp0.el (i:=i2) (by omega);refine aCl 9 2 9 [(62,.agg #[vS y2.o.id,vI y2.o.kind,vI y2.o.x,vI y2.o.y,vL y2.pr y2.o.refs.length y2.cr,vL y2.pt y2.o.tags.length y2.ct])] [] 64 (.agg #[vS y2.o.id,vI y2.o.kind,vI y2.o.x,vI y2.o.y,vL y2.pr y2.o.refs.length y2.cr,vL y2.pt y2.o.tags.length y2.ct]) (fc (ix 22 cp0 q92 (gl hy2)) (fc (la0 64 hM aw) f0)) hM fun ah w1 hM=>?_;have hvo:aA6 y2.o=true:=by unfold aAc at hvm;rw [Ga_] at hvm;exact aIu hvm.1 _ (List.mem_map.2 ⟨y2,gm hy2,rfl⟩)
    refine seg 11 2 [(64,vI y2.o.kind),(65,vB (y2.o.kind==2))] (fc (ldm 3 8 1 hM rfl rfl) f0) ?_;cases h94:(y2.o.kind==2)
    ·have ax:=ef h94;refine seg 18 2 [(123,vB (y2.o.kind==5))] f0 ?_;cases h95:(y2.o.kind==5)
     ·have ay:=ef h95;refine seg 8 0 [(59,vI ((i2:Int)+1))] (fc (aAe (i2:Int) 1 u3_) f0) ?_;have hM:Mm nF_ w _ [bk ag #[vL p0 os.length cp0] 24,rw_ arL 4 47 (vL ad (AS os).length ab) (AS os),bk af #[vS prof,vL ad (AS os).length ab,.map (some ac),.map (some aa),.map (some ae)] 80,mp Tryz.prog 9 ac n (aCH T),aAD inL 1 3 (T.map (·.2)),mp Tryz.prog 9 aa n3 (rdF prof T2),mp Tryz.prog 114 ae n4 (setT (aCe prof (os.take i2))),aAD spL 2 141 (hrB T2)]:=hM.pick [0,1,2,3,4,5,6,7];have e9:(rdF prof T2)=rdF prof T2:=rfl;have e8:(setT (aCe prof (os.take i2)))=(setT (aCe prof (os.take (i2+1)))):=by rw [gt_ hy2,aC8,h95,Bool.and_false];(try rfl)
      have hM:=hM.cast (M':=[bk ag #[vL p0 os.length cp0] 24,rw_ arL 4 47 (vL ad (AS os).length ab) (AS os),bk af #[vS prof,vL ad (AS os).length ab,.map (some ac),.map (some aa),.map (some ae)] 80,mp Tryz.prog 9 ac n (aCH T),aAD inL 1 3 (T.map (·.2)),mp Tryz.prog 9 aa n3 (rdF prof T2),mp Tryz.prog 114 ae n4 (setT (aCe prof (os.take (i2+1)))),aAD spL 2 141 (hrB T2)]) (by rw [e9,e8];(try rfl));exact aAb _ (aj _ (by omega) (i2+1) n3 n4 T2 _ (gl hy2) (by rw [gt_ hy2,aIq h94,←hT2]) hM rfl)
     have ay:=et h95;refine seg 19 2 [(126,vB (!(prof==[102,111,111,116])))] (fc (sne 9 prof [102,111,111,116]) f0) ?_;cases h96:(prof==[102,111,111,116])
     rotate_left
     ·refine seg 8 0 [(59,vI ((i2:Int)+1))] (fc (aAe (i2:Int) 1 u3_) f0) ?_;have hM:Mm nF_ w _ [bk ag #[vL p0 os.length cp0] 24,rw_ arL 4 47 (vL ad (AS os).length ab) (AS os),bk af #[vS prof,vL ad (AS os).length ab,.map (some ac),.map (some aa),.map (some ae)] 80,mp Tryz.prog 9 ac n (aCH T),aAD inL 1 3 (T.map (·.2)),mp Tryz.prog 9 aa n3 (rdF prof T2),mp Tryz.prog 114 ae n4 (setT (aCe prof (os.take i2))),aAD spL 2 141 (hrB T2)]:=hM.pick [0,1,2,3,4,5,6,7];have e9:(rdF prof T2)=rdF prof T2:=rfl;have e8:(setT (aCe prof (os.take i2)))=(setT (aCe prof (os.take (i2+1)))):=by rw [gt_ hy2,aC8,show (prof==aFo)=true from h96];(try rfl)
      have hM:=hM.cast (M':=[bk ag #[vL p0 os.length cp0] 24,rw_ arL 4 47 (vL ad (AS os).length ab) (AS os),bk af #[vS prof,vL ad (AS os).length ab,.map (some ac),.map (some aa),.map (some ae)] 80,mp Tryz.prog 9 ac n (aCH T),aAD inL 1 3 (T.map (·.2)),mp Tryz.prog 9 aa n3 (rdF prof T2),mp Tryz.prog 114 ae n4 (setT (aCe prof (os.take (i2+1)))),aAD spL 2 141 (hrB T2)]) (by rw [e9,e8];(try rfl));exact aAb _ (aj _ (by omega) (i2+1) n3 n4 T2 _ (gl hy2) (by rw [gt_ hy2,aIq h94,←hT2]) hM rfl)
     have hl3:=aNe hvo (et h95)
     obtain ⟨t0,t1,t2,hr3⟩:∃ t0 t1 t2,y2.o.refs=[t0,t1,t2]:=by
                match h:y2.o.refs,hl3 with
                | [a,b,c],_=>exact ⟨a,b,c,rfl⟩
     obtain ⟨ga,oa,hqa,hra⟩:=aYu (hr3▸(hob _ (gm hy2)).refs);have hb3:=(hob _ (gm hy2)).bnd.refs;rw [hr3] at hb3;refine seg 20 0 [] f0 (drx [8] (fun Z=>[none]) _ (fun Z l=>[bk ag #[vL p0 os.length cp0] 24,rw_ arL 4 47 (vL ad (AS os).length ab) (AS os),bk af #[vS prof,vL ad (AS os).length ab,.map (some ac),.map (some aa),.map (some ae)] 80,mp Tryz.prog 9 ac n (aCH T),aAD inL 1 3 (T.map (·.2)),mp Tryz.prog 9 aa n3 (rdF prof T2),(bif l.getD 0 false then mp Tryz.prog 114 ae (n4+1) (upd (setT (aCe prof (os.take i2))) (.agg #[vS t0,vS t1,vS t2]) (vB true)) else mp Tryz.prog 114 ae n4 (setT (aCe prof (os.take i2)))),aAD spL 2 141 (hrB T2),bk ah #[vS y2.o.id,vI y2.o.kind,vI y2.o.x,vI y2.o.y,vL y2.pr y2.o.refs.length y2.cr,vL y2.pt y2.o.tags.length y2.ct] 64]) (fun Z=>[]) hM (fun Z=>rfl) (fun Z l w5 hM=>(fc (ldm 78 2 4 hM rfl rfl) (fc (ldm 28 8 4 hM rfl rfl) (fc (aXU (n:=y2.o.refs.length) (c:=y2.cr) u114_ hqa (by omega)) (fc (la0 114 hM hra) f0))))) ⟨aGb 0 8 78 6 (fun Z=>ae) n4 (setT (aCe prof (os.take i2))) (fun Z => .agg #[vS t0,vS t1,vS t2]) (fun Z=>vB true) aSY Tryz.underlying78 (fun Z=>(aTb (a:=(t0,t1,t2)) (hb3 t0 (by simp)) (hb3 t1 (by simp)) (hb3 t2 (by simp)))),trivial⟩ fun a4 w1 hM=>?_);replace hM:Mm nF_ w w1 [bk ag #[vL p0 os.length cp0] 24,_,bk af #[vS prof,vL ad (AS os).length ab,.map (some ac),.map (some aa),.map (some ae)] 80,_,_,_,_,_,bk ah #[vS y2.o.id,vI y2.o.kind,vI y2.o.x,vI y2.o.y,vL y2.pr y2.o.refs.length y2.cr,vL y2.pt y2.o.tags.length y2.ct] 64]:=hM;refine seg 8 0 [(59,vI ((i2:Int)+1))] (fc (aAe (i2:Int) 1 u3_) f0) ?_;have hM:Mm nF_ w _ [bk ag #[vL p0 os.length cp0] 24,rw_ arL 4 47 (vL ad (AS os).length ab) (AS os),bk af #[vS prof,vL ad (AS os).length ab,.map (some ac),.map (some aa),.map (some ae)] 80,mp Tryz.prog 9 ac n (aCH T),aAD inL 1 3 (T.map (·.2)),mp Tryz.prog 9 aa n3 (rdF prof T2),mp Tryz.prog 114 ae (n4+1) (upd (setT (aCe prof (os.take i2))) (.agg #[vS t0,vS t1,vS t2]) (vB true)),aAD spL 2 141 (hrB T2)]:=hM.pick [0,1,2,3,4,5,6,7];have e9:(rdF prof T2)=rdF prof T2:=rfl;have e8:(upd (setT (aCe prof (os.take i2))) (.agg #[vS t0,vS t1,vS t2]) (vB true))=(setT (aCe prof (os.take (i2+1)))):=by rw [gt_ hy2,aC8,show (prof==aFo)=false from h96,h95,show aT7 y2.o=(t0,t1,t2) by unfold aT7;rw [hr3];rfl];exact aRl _ (t0,t1,t2)
     have hM:=hM.cast (M':=[bk ag #[vL p0 os.length cp0] 24,rw_ arL 4 47 (vL ad (AS os).length ab) (AS os),bk af #[vS prof,vL ad (AS os).length ab,.map (some ac),.map (some aa),.map (some ae)] 80,mp Tryz.prog 9 ac n (aCH T),aAD inL 1 3 (T.map (·.2)),mp Tryz.prog 9 aa n3 (rdF prof T2),mp Tryz.prog 114 ae (n4+1) (setT (aCe prof (os.take (i2+1)))),aAD spL 2 141 (hrB T2)]) (by rw [e9,e8];(try rfl));exact aAb _ (aj _ (by omega) (i2+1) n3 (n4+1) T2 _ (gl hy2) (by rw [gt_ hy2,aIq h94,←hT2]) hM rfl)
    have ax:=et h94;refine aAq 12 3 71 [(69,vL y2.pt y2.o.tags.length y2.ct),(70,vS prof)] (fc (ldm 62 8 5 hM rfl rfl) f0) hM (aFm ((hob _ (gm hy2)).tags.src.fr hM.fr) prof) fun w1 hM=>aAq 13 2 77 [(10,vS ((aAy y2.o.tags prof).1)),(76,vL y2.pt y2.o.tags.length y2.ct)] (fc (ldm 62 8 5 hM rfl rfl) f0) hM (aFm ((hob _ (gm hy2)).tags.src.fr hM.fr) [111,110,101,119,97,121]) fun w1 hM=>aAq 14 2 83 [(12,vS ((aAy y2.o.tags [111,110,101,119,97,121]).1)),(82,vL y2.pt y2.o.tags.length y2.ct)] (fc (ldm 62 8 5 hM rfl rfl) f0) hM (aFm ((hob _ (gm hy2)).tags.src.fr hM.fr) [115,112,101,101,100]) fun w1 hM=>aAq 15 2 89 [(14,vS ((aAy y2.o.tags [115,112,101,101,100]).1)),(88,vL y2.pt y2.o.tags.length y2.ct)] (fc (ldm 62 8 5 hM rfl rfl) f0) hM (aFm ((hob _ (gm hy2)).tags.src.fr hM.fr) [104,111,117,114,115]) fun w1 hM=>cal 16 1 94 [(17,vB (aAy y2.o.tags [104,111,117,114,115]).2),(93,vS ((aAy y2.o.tags [104,111,117,114,115]).1))] (K:=fun u w8=>∃ v c x,u = .tuple #[v,vI c,vI x] /\ (c==0)=aDz y2.o /\ aH6 spL 2 141 w1 w8 v (aAd y2.o) /\ Fr nF_ w1 w8) f0 ((aPp (hTe.fr hM.fr).tb (Gp_ (aBV hvo _) (by decide))).mono fun e w8 ⟨v,c,x,h1,h2⟩=>⟨_,h1,v,c,x,rfl,h2⟩) fun u w1 ⟨v,c,x,hu,hco,hO,f1⟩=>?_;subst hu;have hM:=hM.add f1 (rw_ spL 2 141 v (aAd y2.o)) hO.1 hO.2;obtain ⟨qh,ch,rfl,-⟩:=hO.op spT.len;refine seg 17 0 [(18,vL qh (aAd y2.o).length ch),(19,vI c)] f0 ?_;cases h98:((aAy y2.o.tags [111,110,101,119,97,121]).1==[121,101,115])
    ·cases h99:(aAy y2.o.tags [104,111,117,114,115]).2 with
     | false =>
      refine drx [25] (fun Z=>[none]) _ (fun Z l=>[bk ag #[vL p0 os.length cp0] 24,rw_ arL 4 47 (vL ad (AS os).length ab) (AS os),bk af #[vS prof,vL ad (AS os).length ab,.map (some ac),.map (some aa),.map (some ae)] 80,mp Tryz.prog 9 ac n (aCH T),aAD inL 1 3 (T.map (·.2)),(bif l.getD 0 false then mp Tryz.prog 9 aa (n3+1) (upd (rdF prof T2) (vS y2.o.id) (.agg #[vB ((aAy y2.o.tags prof).1==[110,111]),vB false,vB false,vI (aA7 (aAy y2.o.tags [115,112,101,101,100]).1),vL qh (aAd y2.o).length ch,vL y2.pr y2.o.refs.length y2.cr])) else mp Tryz.prog 9 aa n3 (rdF prof T2)),mp Tryz.prog 114 ae n4 (setT (aCe prof (os.take i2))),aAD spL 2 141 (hrB T2),bk ah #[vS y2.o.id,vI y2.o.kind,vI y2.o.x,vI y2.o.y,vL y2.pr y2.o.refs.length y2.cr,vL y2.pt y2.o.tags.length y2.ct] 64,rw_ spL 2 141 (vL qh (aAd y2.o).length ch) (aAd y2.o)]) (fun Z=>[]) hM (fun Z=>rfl) (fun Z l w5 hM=>(fc (ldm 77 2 3 hM rfl rfl) (fc (ldm 9 8 0 hM rfl rfl) (fc (seq 9 ((aAy y2.o.tags prof).1) [110,111]) (fc (rz (seq 9 ((aAy y2.o.tags [111,110,101,119,97,121]).1) [121,101,115]) h98) (fc (tcl (aDn (s:=(aAy y2.o.tags [115,112,101,101,100]).1) (Gp_ (aBV hvo _) (by decide)) (hTe.fr hM.fr))) (fc (ldm 28 8 4 hM rfl rfl) f0))))))) ⟨aGb 0 25 77 5 (fun Z=>aa) n3 (rdF prof T2) (fun Z=>vS y2.o.id) (fun Z => .agg #[vB ((aAy y2.o.tags prof).1==[110,111]),vB false,vB false,vI (aA7 (aAy y2.o.tags [115,112,101,101,100]).1),vL qh (aAd y2.o).length ch,vL y2.pr y2.o.refs.length y2.cr]) aD5 u77_ (fun Z=>(aD6 (hob _ (gm hy2)).bnd.id)),trivial⟩ fun a5 w1 hM=>?_;replace hM:Mm nF_ w w1 [bk ag #[vL p0 os.length cp0] 24,_,bk af #[vS prof,vL ad (AS os).length ab,.map (some ac),.map (some aa),.map (some ae)] 80,_,_,_,_,_,bk ah #[vS y2.o.id,vI y2.o.kind,vI y2.o.x,vI y2.o.y,vL y2.pr y2.o.refs.length y2.cr,vL y2.pt y2.o.tags.length y2.ct] 64,_]:=hM;refine seg 8 0 [(59,vI ((i2:Int)+1))] (fc (aAe (i2:Int) 1 u3_) f0) ?_;have hM:Mm nF_ w _ ([bk ag #[vL p0 os.length cp0] 24,rw_ arL 4 47 (vL ad (AS os).length ab) (AS os),bk af #[vS prof,vL ad (AS os).length ab,.map (some ac),.map (some aa),.map (some ae)] 80,mp Tryz.prog 9 ac n (aCH T),aAD inL 1 3 (T.map (·.2)),mp Tryz.prog 9 aa (n3+1) (upd (rdF prof T2) (vS y2.o.id) (.agg #[vB ((aAy y2.o.tags prof).1==[110,111]),vB false,vB false,vI (aA7 (aAy y2.o.tags [115,112,101,101,100]).1),vL qh (aAd y2.o).length ch,vL y2.pr y2.o.refs.length y2.cr])),mp Tryz.prog 114 ae n4 (setT (aCe prof (os.take i2)))]++[aAD spL 2 141 (hrB T2),rw_ spL 2 141 (vL qh (aAd y2.o).length ch) (aAd y2.o)]):=hM.pick [0,1,2,3,4,5,6,7,9];have hM:=aHy (L':=hrB ((y2,vL qh (aAd y2.o).length ch)::T2)) hM (.refl _)
      have hrv : (.agg #[vB ((aAy y2.o.tags prof).1 == [110, 111]), vB false, vB false, vI (aA7 (aAy y2.o.tags [115, 112, 101, 101, 100]).1), vL qh (aAd y2.o).length ch, vL y2.pr y2.o.refs.length y2.cr]) = aGg prof y2 (vL qh (aAd y2.o).length ch) := by
                 have hf:(prof==aFo)=(prof==[102,111,111,116]):=rfl;simp only [aGg,aAu,rfV,hf,←hco,h87,h91,h98,h99]<;>rfl
      have e9:(upd (rdF prof T2) (vS y2.o.id) (.agg #[vB ((aAy y2.o.tags prof).1==[110,111]),vB false,vB false,vI (aA7 (aAy y2.o.tags [115,112,101,101,100]).1),vL qh (aAd y2.o).length ch,vL y2.pr y2.o.refs.length y2.cr]))=rdF prof ((y2,vL qh (aAd y2.o).length ch)::T2):=(congrArg (upd (rdF prof T2) (vS y2.o.id)) hrv).trans (aID prof T2 y2 _);have e8:(setT (aCe prof (os.take i2)))=(setT (aCe prof (os.take (i2+1)))):=by rw [gt_ hy2,aC8,show (y2.o.kind==5)=false by rw [et h94];rfl,Bool.and_false];(try rfl)
      have hM:=hM.cast (M':=[bk ag #[vL p0 os.length cp0] 24,rw_ arL 4 47 (vL ad (AS os).length ab) (AS os),bk af #[vS prof,vL ad (AS os).length ab,.map (some ac),.map (some aa),.map (some ae)] 80,mp Tryz.prog 9 ac n (aCH T),aAD inL 1 3 (T.map (·.2)),mp Tryz.prog 9 aa (n3+1) (rdF prof ((y2,vL qh (aAd y2.o).length ch)::T2)),mp Tryz.prog 114 ae n4 (setT (aCe prof (os.take (i2+1)))),aAD spL 2 141 (hrB ((y2,vL qh (aAd y2.o).length ch)::T2))]) (by rw [e9,e8];(try rfl));exact aAb _ (aj _ (by omega) (i2+1) (n3+1) n4 ((y2,vL qh (aAd y2.o).length ch)::T2) _ (gl hy2) (by rw [gt_ hy2,aEO h94,←hT2];rfl) hM rfl)
     | true =>
      refine drx [25] (fun Z=>[none]) _ (fun Z l=>[bk ag #[vL p0 os.length cp0] 24,rw_ arL 4 47 (vL ad (AS os).length ab) (AS os),bk af #[vS prof,vL ad (AS os).length ab,.map (some ac),.map (some aa),.map (some ae)] 80,mp Tryz.prog 9 ac n (aCH T),aAD inL 1 3 (T.map (·.2)),(bif l.getD 0 false then mp Tryz.prog 9 aa (n3+1) (upd (rdF prof T2) (vS y2.o.id) (.agg #[vB ((aAy y2.o.tags prof).1==[110,111]),vB false,vB (c==0),vI (aA7 (aAy y2.o.tags [115,112,101,101,100]).1),vL qh (aAd y2.o).length ch,vL y2.pr y2.o.refs.length y2.cr])) else mp Tryz.prog 9 aa n3 (rdF prof T2)),mp Tryz.prog 114 ae n4 (setT (aCe prof (os.take i2))),aAD spL 2 141 (hrB T2),bk ah #[vS y2.o.id,vI y2.o.kind,vI y2.o.x,vI y2.o.y,vL y2.pr y2.o.refs.length y2.cr,vL y2.pt y2.o.tags.length y2.ct] 64,rw_ spL 2 141 (vL qh (aAd y2.o).length ch) (aAd y2.o)]) (fun Z=>[]) hM (fun Z=>rfl) (fun Z l w5 hM=>(fc (ldm 77 2 3 hM rfl rfl) (fc (ldm 9 8 0 hM rfl rfl) (fc (seq 9 ((aAy y2.o.tags prof).1) [110,111]) (fc (rz (seq 9 ((aAy y2.o.tags [111,110,101,119,97,121]).1) [121,101,115]) h98) (fc (tcl (aDn (s:=(aAy y2.o.tags [115,112,101,101,100]).1) (Gp_ (aBV hvo _) (by decide)) (hTe.fr hM.fr))) (fc (ldm 28 8 4 hM rfl rfl) f0))))))) ⟨aGb 0 25 77 5 (fun Z=>aa) n3 (rdF prof T2) (fun Z=>vS y2.o.id) (fun Z => .agg #[vB ((aAy y2.o.tags prof).1==[110,111]),vB false,vB (c==0),vI (aA7 (aAy y2.o.tags [115,112,101,101,100]).1),vL qh (aAd y2.o).length ch,vL y2.pr y2.o.refs.length y2.cr]) aD5 u77_ (fun Z=>(aD6 (hob _ (gm hy2)).bnd.id)),trivial⟩ fun a6 w1 hM=>?_;replace hM:Mm nF_ w w1 [bk ag #[vL p0 os.length cp0] 24,_,bk af #[vS prof,vL ad (AS os).length ab,.map (some ac),.map (some aa),.map (some ae)] 80,_,_,_,_,_,bk ah #[vS y2.o.id,vI y2.o.kind,vI y2.o.x,vI y2.o.y,vL y2.pr y2.o.refs.length y2.cr,vL y2.pt y2.o.tags.length y2.ct] 64,_]:=hM;refine seg 8 0 [(59,vI ((i2:Int)+1))] (fc (aAe (i2:Int) 1 u3_) f0) ?_;have hM:Mm nF_ w _ ([bk ag #[vL p0 os.length cp0] 24,rw_ arL 4 47 (vL ad (AS os).length ab) (AS os),bk af #[vS prof,vL ad (AS os).length ab,.map (some ac),.map (some aa),.map (some ae)] 80,mp Tryz.prog 9 ac n (aCH T),aAD inL 1 3 (T.map (·.2)),mp Tryz.prog 9 aa (n3+1) (upd (rdF prof T2) (vS y2.o.id) (.agg #[vB ((aAy y2.o.tags prof).1==[110,111]),vB false,vB (c==0),vI (aA7 (aAy y2.o.tags [115,112,101,101,100]).1),vL qh (aAd y2.o).length ch,vL y2.pr y2.o.refs.length y2.cr])),mp Tryz.prog 114 ae n4 (setT (aCe prof (os.take i2)))]++[aAD spL 2 141 (hrB T2),rw_ spL 2 141 (vL qh (aAd y2.o).length ch) (aAd y2.o)]):=hM.pick [0,1,2,3,4,5,6,7,9];have hM:=aHy (L':=hrB ((y2,vL qh (aAd y2.o).length ch)::T2)) hM (.refl _)
      have hrv : (.agg #[vB ((aAy y2.o.tags prof).1 == [110, 111]), vB false, vB (c == 0), vI (aA7 (aAy y2.o.tags [115, 112, 101, 101, 100]).1), vL qh (aAd y2.o).length ch, vL y2.pr y2.o.refs.length y2.cr]) = aGg prof y2 (vL qh (aAd y2.o).length ch) := by
                 have hf:(prof==aFo)=(prof==[102,111,111,116]):=rfl;simp only [aGg,aAu,rfV,hf,←hco,h87,h91,h98,h99]<;>rfl
      have e9:(upd (rdF prof T2) (vS y2.o.id) (.agg #[vB ((aAy y2.o.tags prof).1==[110,111]),vB false,vB (c==0),vI (aA7 (aAy y2.o.tags [115,112,101,101,100]).1),vL qh (aAd y2.o).length ch,vL y2.pr y2.o.refs.length y2.cr]))=rdF prof ((y2,vL qh (aAd y2.o).length ch)::T2):=(congrArg (upd (rdF prof T2) (vS y2.o.id)) hrv).trans (aID prof T2 y2 _);have e8:(setT (aCe prof (os.take i2)))=(setT (aCe prof (os.take (i2+1)))):=by rw [gt_ hy2,aC8,show (y2.o.kind==5)=false by rw [et h94];rfl,Bool.and_false];(try rfl)
      have hM:=hM.cast (M':=[bk ag #[vL p0 os.length cp0] 24,rw_ arL 4 47 (vL ad (AS os).length ab) (AS os),bk af #[vS prof,vL ad (AS os).length ab,.map (some ac),.map (some aa),.map (some ae)] 80,mp Tryz.prog 9 ac n (aCH T),aAD inL 1 3 (T.map (·.2)),mp Tryz.prog 9 aa (n3+1) (rdF prof ((y2,vL qh (aAd y2.o).length ch)::T2)),mp Tryz.prog 114 ae n4 (setT (aCe prof (os.take (i2+1)))),aAD spL 2 141 (hrB ((y2,vL qh (aAd y2.o).length ch)::T2))]) (by rw [e9,e8];(try rfl));exact aAb _ (aj _ (by omega) (i2+1) (n3+1) n4 ((y2,vL qh (aAd y2.o).length ch)::T2) _ (gl hy2) (by rw [gt_ hy2,aEO h94,←hT2];rfl) hM rfl)
    cases ao:(aAy y2.o.tags [104,111,117,114,115]).2 with
    | false =>
     refine drx [25] (fun Z=>[none]) _ (fun Z l=>[bk ag #[vL p0 os.length cp0] 24,rw_ arL 4 47 (vL ad (AS os).length ab) (AS os),bk af #[vS prof,vL ad (AS os).length ab,.map (some ac),.map (some aa),.map (some ae)] 80,mp Tryz.prog 9 ac n (aCH T),aAD inL 1 3 (T.map (·.2)),(bif l.getD 0 false then mp Tryz.prog 9 aa (n3+1) (upd (rdF prof T2) (vS y2.o.id) (.agg #[vB ((aAy y2.o.tags prof).1==[110,111]),vB (!(prof==[102,111,111,116])),vB false,vI (aA7 (aAy y2.o.tags [115,112,101,101,100]).1),vL qh (aAd y2.o).length ch,vL y2.pr y2.o.refs.length y2.cr])) else mp Tryz.prog 9 aa n3 (rdF prof T2)),mp Tryz.prog 114 ae n4 (setT (aCe prof (os.take i2))),aAD spL 2 141 (hrB T2),bk ah #[vS y2.o.id,vI y2.o.kind,vI y2.o.x,vI y2.o.y,vL y2.pr y2.o.refs.length y2.cr,vL y2.pt y2.o.tags.length y2.ct] 64,rw_ spL 2 141 (vL qh (aAd y2.o).length ch) (aAd y2.o)]) (fun Z=>[]) hM (fun Z=>rfl) (fun Z l w5 hM=>(fc (ldm 77 2 3 hM rfl rfl) (fc (ldm 9 8 0 hM rfl rfl) (fc (seq 9 ((aAy y2.o.tags prof).1) [110,111]) (fc (rz (seq 9 ((aAy y2.o.tags [111,110,101,119,97,121]).1) [121,101,115]) h98) (fc (sne 9 prof [102,111,111,116]) (fc (tcl (aDn (s:=(aAy y2.o.tags [115,112,101,101,100]).1) (Gp_ (aBV hvo _) (by decide)) (hTe.fr hM.fr))) (fc (ldm 28 8 4 hM rfl rfl) f0)))))))) ⟨aGb 0 25 77 5 (fun Z=>aa) n3 (rdF prof T2) (fun Z=>vS y2.o.id) (fun Z => .agg #[vB ((aAy y2.o.tags prof).1==[110,111]),vB (!(prof==[102,111,111,116])),vB false,vI (aA7 (aAy y2.o.tags [115,112,101,101,100]).1),vL qh (aAd y2.o).length ch,vL y2.pr y2.o.refs.length y2.cr]) aD5 u77_ (fun Z=>(aD6 (hob _ (gm hy2)).bnd.id)),trivial⟩ fun a7 w1 hM=>?_;replace hM:Mm nF_ w w1 [bk ag #[vL p0 os.length cp0] 24,_,bk af #[vS prof,vL ad (AS os).length ab,.map (some ac),.map (some aa),.map (some ae)] 80,_,_,_,_,_,bk ah #[vS y2.o.id,vI y2.o.kind,vI y2.o.x,vI y2.o.y,vL y2.pr y2.o.refs.length y2.cr,vL y2.pt y2.o.tags.length y2.ct] 64,_]:=hM;refine seg 8 0 [(59,vI ((i2:Int)+1))] (fc (aAe (i2:Int) 1 u3_) f0) ?_;have hM:Mm nF_ w _ ([bk ag #[vL p0 os.length cp0] 24,rw_ arL 4 47 (vL ad (AS os).length ab) (AS os),bk af #[vS prof,vL ad (AS os).length ab,.map (some ac),.map (some aa),.map (some ae)] 80,mp Tryz.prog 9 ac n (aCH T),aAD inL 1 3 (T.map (·.2)),mp Tryz.prog 9 aa (n3+1) (upd (rdF prof T2) (vS y2.o.id) (.agg #[vB ((aAy y2.o.tags prof).1==[110,111]),vB (!(prof==[102,111,111,116])),vB false,vI (aA7 (aAy y2.o.tags [115,112,101,101,100]).1),vL qh (aAd y2.o).length ch,vL y2.pr y2.o.refs.length y2.cr])),mp Tryz.prog 114 ae n4 (setT (aCe prof (os.take i2)))]++[aAD spL 2 141 (hrB T2),rw_ spL 2 141 (vL qh (aAd y2.o).length ch) (aAd y2.o)]):=hM.pick [0,1,2,3,4,5,6,7,9];have hM:=aHy (L':=hrB ((y2,vL qh (aAd y2.o).length ch)::T2)) hM (.refl _)
     have hrv : (.agg #[vB ((aAy y2.o.tags prof).1 == [110, 111]), vB (!(prof == [102, 111, 111, 116])), vB false, vI (aA7 (aAy y2.o.tags [115, 112, 101, 101, 100]).1), vL qh (aAd y2.o).length ch, vL y2.pr y2.o.refs.length y2.cr]) = aGg prof y2 (vL qh (aAd y2.o).length ch) := by
                have hf:(prof==aFo)=(prof==[102,111,111,116]):=rfl;simp only [aGg,aAu,rfV,hf,←hco,h87,h91,h98,ao]<;>rfl
     have e9:(upd (rdF prof T2) (vS y2.o.id) (.agg #[vB ((aAy y2.o.tags prof).1==[110,111]),vB (!(prof==[102,111,111,116])),vB false,vI (aA7 (aAy y2.o.tags [115,112,101,101,100]).1),vL qh (aAd y2.o).length ch,vL y2.pr y2.o.refs.length y2.cr]))=rdF prof ((y2,vL qh (aAd y2.o).length ch)::T2):=(congrArg (upd (rdF prof T2) (vS y2.o.id)) hrv).trans (aID prof T2 y2 _);have e8:(setT (aCe prof (os.take i2)))=(setT (aCe prof (os.take (i2+1)))):=by rw [gt_ hy2,aC8,show (y2.o.kind==5)=false by rw [et h94];rfl,Bool.and_false];(try rfl)
     have hM:=hM.cast (M':=[bk ag #[vL p0 os.length cp0] 24,rw_ arL 4 47 (vL ad (AS os).length ab) (AS os),bk af #[vS prof,vL ad (AS os).length ab,.map (some ac),.map (some aa),.map (some ae)] 80,mp Tryz.prog 9 ac n (aCH T),aAD inL 1 3 (T.map (·.2)),mp Tryz.prog 9 aa (n3+1) (rdF prof ((y2,vL qh (aAd y2.o).length ch)::T2)),mp Tryz.prog 114 ae n4 (setT (aCe prof (os.take (i2+1)))),aAD spL 2 141 (hrB ((y2,vL qh (aAd y2.o).length ch)::T2))]) (by rw [e9,e8];(try rfl));exact aAb _ (aj _ (by omega) (i2+1) (n3+1) n4 ((y2,vL qh (aAd y2.o).length ch)::T2) _ (gl hy2) (by rw [gt_ hy2,aEO h94,←hT2];rfl) hM rfl)
    | true =>
     refine drx [25] (fun Z=>[none]) _ (fun Z l=>[bk ag #[vL p0 os.length cp0] 24,rw_ arL 4 47 (vL ad (AS os).length ab) (AS os),bk af #[vS prof,vL ad (AS os).length ab,.map (some ac),.map (some aa),.map (some ae)] 80,mp Tryz.prog 9 ac n (aCH T),aAD inL 1 3 (T.map (·.2)),(bif l.getD 0 false then mp Tryz.prog 9 aa (n3+1) (upd (rdF prof T2) (vS y2.o.id) (.agg #[vB ((aAy y2.o.tags prof).1==[110,111]),vB (!(prof==[102,111,111,116])),vB (c==0),vI (aA7 (aAy y2.o.tags [115,112,101,101,100]).1),vL qh (aAd y2.o).length ch,vL y2.pr y2.o.refs.length y2.cr])) else mp Tryz.prog 9 aa n3 (rdF prof T2)),mp Tryz.prog 114 ae n4 (setT (aCe prof (os.take i2))),aAD spL 2 141 (hrB T2),bk ah #[vS y2.o.id,vI y2.o.kind,vI y2.o.x,vI y2.o.y,vL y2.pr y2.o.refs.length y2.cr,vL y2.pt y2.o.tags.length y2.ct] 64,rw_ spL 2 141 (vL qh (aAd y2.o).length ch) (aAd y2.o)]) (fun Z=>[]) hM (fun Z=>rfl) (fun Z l w5 hM=>(fc (ldm 77 2 3 hM rfl rfl) (fc (ldm 9 8 0 hM rfl rfl) (fc (seq 9 ((aAy y2.o.tags prof).1) [110,111]) (fc (rz (seq 9 ((aAy y2.o.tags [111,110,101,119,97,121]).1) [121,101,115]) h98) (fc (sne 9 prof [102,111,111,116]) (fc (tcl (aDn (s:=(aAy y2.o.tags [115,112,101,101,100]).1) (Gp_ (aBV hvo _) (by decide)) (hTe.fr hM.fr))) (fc (ldm 28 8 4 hM rfl rfl) f0)))))))) ⟨aGb 0 25 77 5 (fun Z=>aa) n3 (rdF prof T2) (fun Z=>vS y2.o.id) (fun Z => .agg #[vB ((aAy y2.o.tags prof).1==[110,111]),vB (!(prof==[102,111,111,116])),vB (c==0),vI (aA7 (aAy y2.o.tags [115,112,101,101,100]).1),vL qh (aAd y2.o).length ch,vL y2.pr y2.o.refs.length y2.cr]) aD5 u77_ (fun Z=>(aD6 (hob _ (gm hy2)).bnd.id)),trivial⟩ fun a8 w1 hM=>?_;replace hM:Mm nF_ w w1 [bk ag #[vL p0 os.length cp0] 24,_,bk af #[vS prof,vL ad (AS os).length ab,.map (some ac),.map (some aa),.map (some ae)] 80,_,_,_,_,_,bk ah #[vS y2.o.id,vI y2.o.kind,vI y2.o.x,vI y2.o.y,vL y2.pr y2.o.refs.length y2.cr,vL y2.pt y2.o.tags.length y2.ct] 64,_]:=hM;refine seg 8 0 [(59,vI ((i2:Int)+1))] (fc (aAe (i2:Int) 1 u3_) f0) ?_;have hM:Mm nF_ w _ ([bk ag #[vL p0 os.length cp0] 24,rw_ arL 4 47 (vL ad (AS os).length ab) (AS os),bk af #[vS prof,vL ad (AS os).length ab,.map (some ac),.map (some aa),.map (some ae)] 80,mp Tryz.prog 9 ac n (aCH T),aAD inL 1 3 (T.map (·.2)),mp Tryz.prog 9 aa (n3+1) (upd (rdF prof T2) (vS y2.o.id) (.agg #[vB ((aAy y2.o.tags prof).1==[110,111]),vB (!(prof==[102,111,111,116])),vB (c==0),vI (aA7 (aAy y2.o.tags [115,112,101,101,100]).1),vL qh (aAd y2.o).length ch,vL y2.pr y2.o.refs.length y2.cr])),mp Tryz.prog 114 ae n4 (setT (aCe prof (os.take i2)))]++[aAD spL 2 141 (hrB T2),rw_ spL 2 141 (vL qh (aAd y2.o).length ch) (aAd y2.o)]):=hM.pick [0,1,2,3,4,5,6,7,9];have hM:=aHy (L':=hrB ((y2,vL qh (aAd y2.o).length ch)::T2)) hM (.refl _)
     have hrv : (.agg #[vB ((aAy y2.o.tags prof).1 == [110, 111]), vB (!(prof == [102, 111, 111, 116])), vB (c == 0), vI (aA7 (aAy y2.o.tags [115, 112, 101, 101, 100]).1), vL qh (aAd y2.o).length ch, vL y2.pr y2.o.refs.length y2.cr]) = aGg prof y2 (vL qh (aAd y2.o).length ch) := by
                have hf:(prof==aFo)=(prof==[102,111,111,116]):=rfl;simp only [aGg,aAu,rfV,hf,←hco,h87,h91,h98,ao]<;>rfl
     have e9:(upd (rdF prof T2) (vS y2.o.id) (.agg #[vB ((aAy y2.o.tags prof).1==[110,111]),vB (!(prof==[102,111,111,116])),vB (c==0),vI (aA7 (aAy y2.o.tags [115,112,101,101,100]).1),vL qh (aAd y2.o).length ch,vL y2.pr y2.o.refs.length y2.cr]))=rdF prof ((y2,vL qh (aAd y2.o).length ch)::T2):=(congrArg (upd (rdF prof T2) (vS y2.o.id)) hrv).trans (aID prof T2 y2 _);have e8:(setT (aCe prof (os.take i2)))=(setT (aCe prof (os.take (i2+1)))):=by rw [gt_ hy2,aC8,show (y2.o.kind==5)=false by rw [et h94];rfl,Bool.and_false];(try rfl)
     have hM:=hM.cast (M':=[bk ag #[vL p0 os.length cp0] 24,rw_ arL 4 47 (vL ad (AS os).length ab) (AS os),bk af #[vS prof,vL ad (AS os).length ab,.map (some ac),.map (some aa),.map (some ae)] 80,mp Tryz.prog 9 ac n (aCH T),aAD inL 1 3 (T.map (·.2)),mp Tryz.prog 9 aa (n3+1) (rdF prof ((y2,vL qh (aAd y2.o).length ch)::T2)),mp Tryz.prog 114 ae n4 (setT (aCe prof (os.take (i2+1)))),aAD spL 2 141 (hrB ((y2,vL qh (aAd y2.o).length ch)::T2))]) (by rw [e9,e8];(try rfl));exact aAb _ (aj _ (by omega) (i2+1) (n3+1) n4 ((y2,vL qh (aAd y2.o).length ch)::T2) _ (gl hy2) (by rw [gt_ hy2,aEO h94,←hT2];rfl) hM rfl)
   exact aAb _ (au _ 0 0 0 [] _ (Gg_ _) rfl hM rfl)
  exact aAb _ (ap _ 0 0 [] _ (Gg_ _) List.nodup_nil (fun s=>rfl) hM rfl)
def fwd (a b:Bys):List Bys->Bool
  | x::y::t=>((x==a)&&(y==b))||fwd a b (y::t)
  | _=>false
theorem aIg {a b x y:Bys}{rs:List Bys}{m:Nat}(hx:rs[m]?=some x) (hy:rs[m+1]?=some y):fwd a b (rs.drop m)=(((x==a)&&(y==b))||fwd a b (rs.drop (m+1))):=by
  rw [gd hx,gd hy];rfl
theorem aPV {a b:Bys}{rs:List Bys}{m:Nat}(h:rs.length<=m+1):fwd a b (rs.drop m)=false:=by
  have:(rs.drop m).length<=1:=by rw [Gr_];omega
  cases h1:rs.drop m with
  | nil=>rfl
  | cons x t =>
    cases t with
    | nil=>rfl
    | cons y t=>rw [h1] at this;simp at this
abbrev A99 (Z:Ending->World->Prop):=AtO Tryz.prog (aAf Tryz.f99) (aAo (bodyPost Tryz.prog Tryz.f99 Z)) [] 32
theorem aJe {w:World}{cl ow li:Bool}{sp:Int}{hv:Value}{pr:Option Addr}{cr:Nat}{rs:List Bys}(hs:SrcP stL 1 w pr cr rs) (a b:Bys):Calls Tryz.prog 99 #[.agg #[vB cl,vB ow,vB li,vI sp,hv,vL pr rs.length cr],vS a,vS b] w fun e w'=>e = .returned (vB (fwd a b rs)) /\ Fr nF_ w w':=by
  have bb:=hs.bnd;refine beg Tryz.func99 rfl rfl [(0,.agg #[vB cl,vB ow,vB li,vI sp,hv,vL pr rs.length cr]),(1,vS a),(2,vS b)] rfl rfl fun Z hZ=>?_;have hM:=Mm.nil nF_ w;refine aAp 0 0 3 [] (cs:=#[vB cl,vB ow,vB li,vI sp,hv,vL pr rs.length cr]) (T:=113) (v:=fun b=>vP b 0) f0 hM fun ab w1 hM=>seg 2 0 [(7,vI 1)] f0 ?_
  have ag:∀ (ac:Nat) (m:Nat) (w2:World),m<=rs.length->fwd a b rs=fwd a b (rs.drop m)->Mm nF_ w w2 [bk ab #[vB cl,vB ow,vB li,vI sp,hv,vL pr rs.length cr] 113]->ac=rs.length-m->A99 Z (some (2,0)) [(7,vI ((m:Int)+1)),(3,vP ab 0),(1,vS a),(2,vS b)] w2:=by
   refine aA8 fun ac ad m w2 hm hf hM am=>seg 2 5 [(12,vB (decide (((m:Int)+1)<(rs.length:Int))))] (fc (ldm 28 0 5 hM rfl rfl) f0) ?_;cases ae:(decide (((m:Int)+1)<(rs.length:Int)))
   ·have ah:=df ae;exact rt1 6 (vB false) rfl f0 (hZ _ _ ⟨by rw [hf,aPV (by omega)],hM.fr⟩)
   have ah:=dt ae;obtain ⟨y1,hy1,an,ao,ai,aj⟩:=hs.el (i:=m) (by omega);refine seg 4 9 [(23,vB (y1==a))] (fc (ldm 28 0 5 hM rfl rfl) (fc (aBx ((m:Int)+1) 1 u3_) (fc (ix 28 cr ai (gl hy1) (z:=(((m:Int)+1)-1)) (hz:=(by omega))) (fc (ld0 9 hM (aj 0 _ rfl)) (fc (seq 9 y1 a) f0))))) ?_;cases aa:(y1==a)
   ·refine seg 2 0 [(7,vI (((m:Int)+1)+1))] (fc (aAe ((m:Int)+1) 1 u3_) f0) ?_;obtain ⟨y2,hy2,ap,aq,ar,au⟩:=hs.el (i:=(m+1)) (by omega);exact aAb _ (ad _ (by omega) (m+1) _ (by have:=gl hy2;omega) (by rw [hf,aIg hy1 hy2];simp only [aa]<;>rfl) hM rfl)
   obtain ⟨y2,hy2,av,aw,ak,al⟩:=hs.el (i:=(m+1)) (by omega);refine seg 4 17 [(31,vB (y2==b))] (fc (ldm 28 0 5 hM rfl rfl) (fc (ix 28 cr ak (gl hy2)) (fc (ld0 9 hM (al 0 _ rfl)) (fc (seq 9 y2 b) f0)))) ?_;cases af:(y2==b)
   ·refine seg 2 0 [(7,vI (((m:Int)+1)+1))] (fc (aAe ((m:Int)+1) 1 u3_) f0) (aAb _ (ad _ (by omega) (m+1) _ (by have:=gl hy2;omega) (by rw [hf,aIg hy1 hy2];simp only [aa,af]<;>rfl) hM rfl))
   exact rt1 6 (vB true) rfl f0 (hZ _ _ ⟨by rw [hf,aIg hy1 hy2];simp only [aa,af]<;>rfl,hM.fr⟩)
  exact aAb _ (ag _ 0 _ (Gg_ _) rfl hM rfl)
structure StF (w:World) (bs ca bo br bb no nr nb:Nat) (qa:Option Addr) (prof:Bys) (os:List ObR) (T:aEN) (T2:RdT):Prop where
  blk:w.heap[bs]?=some (.cells #[vS prof,vL qa (AS os).length ca,.map (some bo),.map (some br),.map (some bb)] 80 (0,0))
  arcs:SrcP arL 4 w qa ca (AS os)
  out:aD0 Tryz.prog 9 w bo no (aCH T)
  rows:∀ x∈T,Src inL 1 w x.2.1 x.2.2
  rds:aD0 Tryz.prog 9 w br nr (rdF prof T2)
  hrs:∀ x∈T2,Src spL 2 w x.2 (aAd x.1.o)
  refs:∀ x∈T2,SrcP stL 1 w x.1.pr x.1.cr x.1.o.refs
  ban:aD0 Tryz.prog 114 w bb nb (setT (aCe prof os))
  ok:∀ a∈AS os,ArcB a
theorem StF.fr {w w':World}{bs ca bo br bb no nr nb:Nat}{qa:Option Addr}{prof:Bys}{os:List ObR}{T:aEN}{T2:RdT}(h:StF w bs ca bo br bb no nr nb qa prof os T T2) (f:Fr nF_ w w'):StF w' bs ca bo br bb no nr nb qa prof os T T2 :=
  ⟨f.obj h.blk id,h.arcs.fr f,h.out.fr f id,fun x hx=>(h.rows x hx).fr f,h.rds.fr f id,fun x hx=>(h.hrs x hx).fr f,fun x hx=>(h.refs x hx).fr f,h.ban.fr f id,h.ok⟩
def aE4 (prof:Bys) (os:List ObR) (a b:Arc):Bool:=(a.2.1==b.1) && !((aCe prof os).contains (a.2.2.1,a.2.1,b.2.2.1))
theorem aJt {w:World}{bs ca bo br bb no nr nb:Nat}{qa:Option Addr}{prof:Bys}{os:List ObR}{T:aEN}{T2:RdT}(hS:StF w bs ca bo br bb no nr nb qa prof os T T2) {i k:Nat}(hi:i<(AS os).length) (hk:k<(AS os).length):Calls Tryz.prog 66 #[vP bs 0,vI (i:Int),vI (k:Int)] w fun e w'=>(∃ a b,(AS os)[i]?=some a /\ (AS os)[k]?=some b /\ e = .returned (vB (aE4 prof os a b))) /\ Fr nF_ w w':=by
  refine beg Tryz.func66 rfl rfl [(0,vP bs 0),(1,vI (i:Int)),(2,vI (k:Int))] rfl rfl fun Y hY=>?_;have hM:=Mm.nil nF_ w;obtain ⟨a9,ha9⟩:=geb (l:=AS os) (i:=i) hi;obtain ⟨b9,hb9⟩:=geb (l:=AS os) (i:=k) hk;refine seg 1 0 [] f0 ?_;obtain ⟨a,ha,ag,ah,ac,ad⟩:=hS.arcs.el (i:=i) (by omega);obtain ⟨b,hb,ai,aj,ae,af⟩:=hS.arcs.el (i:=k) (by omega);have hM:=hM.nl;have hM:=hM.nl;refine drx [14,15,16,17] (fun Z=>[some (vP (bn (Z 0)) 0),some (vP (bn (Z 1)) 0),none,none]) _ (fun Z l=>[(bif l.getD 2 false then bk (bn (Z 0)) #[vS a.1,vS a.2.1,vS a.2.2.1,vI a.2.2.2] 47 else (bif l.getD 0 false then bk (bn (Z 0)) #[vS [],vS [],vS [],vI 0] 47 else aJz)),(bif l.getD 3 false then bk (bn (Z 1)) #[vS b.1,vS b.2.1,vS b.2.2.1,vI b.2.2.2] 47 else (bif l.getD 1 false then bk (bn (Z 1)) #[vS [],vS [],vS [],vI 0] 47 else aJz))]) (fun Z=>[(7,vP (bn (Z 0)) 0),(8,vP (bn (Z 1)) 0)]) hM (fun Z=>rfl) (fun Z l w5 hM=>(fc (ld0 75 hM (bx hS.blk 1 rfl)) (fc (ix 75 ca ac (gl ha)) (fc (la0 47 hM ad) (fc (ld0 75 hM (bx hS.blk 1 rfl)) (fc (ix 75 ca ae (gl hb)) (fc (la0 47 hM af) f0))))))) ⟨aCJ 0 14 0 7 (fun Z=>#[vS [],vS [],vS [],vI 0]) 47 (fun b=>vP b 0),aCJ 1 15 1 8 (fun Z=>#[vS [],vS [],vS [],vI 0]) 47 (fun b=>vP b 0),aB8 2 16 47 0 0 (fun Z=>(bn (Z 0))) (fun Z l=>#[vS [],vS [],vS [],vI 0]) 47 (fun Z => .agg #[vS a.1,vS a.2.1,vS a.2.2.1,vI a.2.2.2]),aB8 3 17 47 1 0 (fun Z=>(bn (Z 1))) (fun Z l=>#[vS [],vS [],vS [],vI 0]) 47 (fun Z => .agg #[vS b.1,vS b.2.1,vS b.2.2.1,vI b.2.2.2]),trivial⟩ fun ab w1 hM=>?_;replace hM:Mm nF_ w w1 [bk (bn (ab 0)) #[vS a.1,vS a.2.1,vS a.2.2.1,vI a.2.2.2] 47,bk (bn (ab 1)) #[vS b.1,vS b.2.1,vS b.2.2.1,vI b.2.2.2] 47]:=hM;refine seg 2 0 [] f0 ?_;cases aa:(a.2.1==b.1)
  ·have hM:=hM.q ((Fr.refl _ _).drew);refine drq [(6,vB false)] rfl (fc (ldm 9 0 1 hM rfl rfl) (fc (ldm 9 1 0 hM rfl rfl) (fc (rz (seq 9 a.2.1 b.1) aa) f0))) (rt1 6 (vB false) rfl f0 (hY _ _ ⟨⟨a,b,ha,hb,by unfold aE4;simp only [aa]<;>rfl⟩,hM.fr⟩))
  have hM:=hM.q ((Fr.refl _ _).drew);refine drq [(6,vB (!((aCe prof os).contains (a.2.2.1,a.2.1,b.2.2.1))))] rfl (fc (ldm 9 0 1 hM rfl rfl) (fc (ldm 9 1 0 hM rfl rfl) (fc (rz (seq 9 a.2.1 b.1) aa) (fc (ld0 78 hM (bx hS.blk 4 rfl)) (fc (ldm 9 0 2 hM rfl rfl) (fc (ldm 9 0 1 hM rfl rfl) (fc (ldm 9 1 2 hM rfl rfl) (fc (rz2 (lkN 78 (.agg #[vS a.2.2.1,vS a.2.1,vS b.2.2.1]) (vB false) (hS.ban.fr hM.fr id) aSY Tryz.underlying78 (aTb (a:=(a.2.2.1,a.2.1,b.2.2.1)) (hS.ok a (gm ha)).f3 (hS.ok a (gm ha)).f2 (hS.ok b (gm hb)).f3) (aKE _)) (aOM (aCe prof os) (a.2.2.1,a.2.1,b.2.2.1))) f0)))))))) (rt1 6 (vB (!((aCe prof os).contains (a.2.2.1,a.2.1,b.2.2.1)))) rfl f0 (hY _ _ ⟨⟨a,b,ha,hb,by unfold aE4;simp only [aa]<;>rfl⟩,hM.fr⟩))
def aV9:Road:={ closed:=false,oneway:=false,limited:=false,speed:=0,hours:=[],refs:=[] }
def aHC (prof:Bys) (os:List ObR) (id:Bys):Road:=match (aBQ os).find? fun b=>b.o.id==id with
  | some b=>aAu prof b.o
  | none=>aV9
theorem aUe {prof:Bys}{os:List ObR}{T2:RdT}(h:T2.map (·.1)=aBQ os) (id:Bys):(aBQ os).find? (fun b=>b.o.id==id)=(T2.find? fun x=>x.1.o.id==id).map (·.1):=by
  rw [←h,List.find?_map];rfl
theorem aOq {os:List ObR}{a:Arc}(h:a∈AS os):∃ b,(aBQ os).find? (fun b=>b.o.id==a.2.2.1)=some b:=by
  have ha:=aCP h;unfold aAw at ha;rw [List.mem_flatMap] at ha;obtain ⟨b,hb,ha⟩:=ha;unfold aDx at ha
  cases hk:b.o.kind==2 with
  | false=>rw [hk] at ha;cases ha
  | true =>
    rw [hk] at ha
    have hid:a.2.2.1=b.o.id:=by
      have key:∀ (l:List Ob) (rs:List Bys),a∈aFz l b.o.id rs->a.2.2.1=b.o.id:=by
        intro l rs
        induction rs with
        | nil=>intro h;cases h
        | cons x t ih =>
          intro h
          cases t with
          | nil=>cases h
          | cons y t =>
            unfold aFz at h;rcases List.mem_cons.1 h with rfl | h
            · rfl
            · rcases List.mem_cons.1 h with rfl | h
              · rfl
              · exact ih h
      cases hw:aIr (aAg (aAa os)) os b.o.id with
      | none=>rw [hw] at ha;cases ha
      | some c=>rw [hw] at ha;exact key _ _ ha
    cases hf:(aBQ os).find? (fun b=>b.o.id==a.2.2.1) with
    | some c=>exact ⟨c,rfl⟩
    | none =>
      have:=List.find?_eq_none.1 hf b (by unfold aBQ;rw [List.mem_reverse,List.mem_filter];exact ⟨hb,hk⟩);simp [hid] at this
def aBR (prof:Bys) (os:List ObR) (a:Arc) (minute:Int):Option Int :=
  let r:=aHC prof os a.2.2.1
  bif r.closed||(r.oneway && !fwd a.1 a.2.1 r.refs)||decide (1000000000<minute) then none
  else bif r.limited then
    (bif !((aAz r.hours minute).2)||decide (1000000000<(aAz r.hours minute).1) then none else some ((aAz r.hours minute).1+(a.2.2.2+r.speed-1) / r.speed))
  else some (minute+(a.2.2.2+r.speed-1) / r.speed)
theorem aIS {l:List Sp}{m:Int}(h:(aAz l m).2=true):m<=(aAz l m).1:=by
  unfold aAz at h ⊢
  split at h
  · rename_i hc
    rw [if_pos hc];simp only [Ga_] at hc;show m<=aDp l m;unfold aDp
    cases hf:l.find? (fun s=>decide (m%10080<s.2)) with
    | some s=>show m<=m+max 0 (s.1-m%10080);omega
    | none =>
      show m<=m-m%10080+10080+(l.headD (0,0)).1
      cases l with
      | nil=>simp at hc
      | cons s l =>
        have:=(aB3.1 hc.1.1).1;show m<=m-m%10080+10080+s.1;omega
  · cases h
theorem aJH (s:Bys):1<=aA7 s /\ aA7 s<=9999999:=by
  unfold aA7
  split
  · rename_i n _
    cases h:decide (n<1)||decide (9999999<n) || !(Lib.itoa n==s) with
    | true=>exact ⟨by show (1:Int)<=100;omega,by show (100:Int)<=_;omega⟩
    | false =>
      simp only [Bool.or_eq_false_iff,decide_eq_false_iff_not] at h;show 1<=n /\ n<=9999999;omega
  · omega
theorem aIf (o:Ob):(aAd o).length<=400000000:=by
  unfold aAd aDW;rcases aE9 (aAy o.tags [104,111,117,114,115]).1 with ⟨c,x,hp,-⟩ | ⟨l,hp,-,hl⟩
  · rw [hp];simp
  · rw [hp];show l.length<=_;omega
theorem aTu (w:World):(zeroValue 113).run Tryz.prog w = .ok (.agg #[vB false,vB false,vB false,vI 0,vL none 0 0,vL none 0 0]) w:=by kernel_rfl
theorem aUd {prof:Bys}{os:List ObR}{T2:RdT}{a:Arc}(hT:T2.map (·.1)=aBQ os) (ha:a∈AS os) (z:Value):∃ x∈T2,(rdF prof T2 (vS a.2.2.1)).getD z=aGg prof x.1 x.2 /\ aHC prof os a.2.2.1=aAu prof x.1.o:=by
  obtain ⟨b,hb⟩:=aOq ha;have h2:=aUe (prof:=prof) hT a.2.2.1;rw [hb] at h2;rw [aSO]
  cases hf:T2.find? (fun x=>x.1.o.id==a.2.2.1) with
  | none=>rw [hf] at h2;cases h2
  | some x =>
    rw [hf] at h2;refine ⟨x,List.mem_of_find?_eq_some hf,rfl,?_⟩;unfold aHC;rw [hb,Gh_ h2]
theorem aN6 {w:World}{bs ca bo br bb no nr nb:Nat}{qa:Option Addr}{prof:Bys}{os:List ObR}{T:aEN}{T2:RdT}(hS:StF w bs ca bo br bb no nr nb qa prof os T T2) (hT2:T2.map (·.1)=aBQ os) {i:Nat}(hi:i<(AS os).length) {mi:Int}(hm0:0<=mi) (hm1:mi<=4000000000000000000):Calls Tryz.prog 62 #[vP bs 0,vI (i:Int),vI mi] w fun e w'=>(∃ a,(AS os)[i]?=some a /\ e = .returned (match aBR prof os a mi with | some n => .tuple #[vI n,vB true] | none => .tuple #[vI 0,vB false])) /\ Fr nF_ w w':=by
  refine beg Tryz.func62 rfl rfl [(0,vP bs 0),(1,vI (i:Int)),(2,vI mi)] rfl rfl fun Y hY=>?_;have hM:=Mm.nil nF_ w;obtain ⟨a,ha,av,aw,am,an⟩:=hS.arcs.el (i:=i) (by omega);refine aCl 1 7 8 [(18,.agg #[vS a.1,vS a.2.1,vS a.2.2.1,vI a.2.2.2])] [] 47 (.agg #[vS a.1,vS a.2.1,vS a.2.2.1,vI a.2.2.2]) (fc (ld0 75 hM (bx hS.blk 1 rfl)) (fc (ix 75 ca am (gl ha)) (fc (la0 47 hM an) f0))) hM fun al w1 hM=>?_;have hab:=hS.ok a (gm ha);obtain ⟨x,hx,hxv,hxr⟩:=aUd (prof:=prof) hT2 (gm ha) (.agg #[vB false,vB false,vB false,vI 0,vL none 0 0,vL none 0 0]);have hsp:=aJH (aAy x.1.o.tags [115,112,101,101,100]).1;have hl1:=hab.pos;have hl2:=hab.lt;obtain ⟨spd,hspd⟩:∃ z,z=(aAu prof x.1.o).speed:=⟨_,rfl⟩;have hs1:1<=spd /\ spd<=9999999:=hspd▸hsp;obtain ⟨qh,ch,hhv,-⟩:=(hS.hrs x hx).op;have hxw:(rdF prof T2 (vS a.2.2.1)).getD (.agg #[vB false,vB false,vB false,vI 0,vL none 0 0,vL none 0 0]) = .agg #[vB (aAu prof x.1.o).closed,vB (aAu prof x.1.o).oneway,vB (aAu prof x.1.o).limited,vI spd,vL qh (aAd x.1.o).length ch,vL x.1.pr x.1.o.refs.length x.1.cr]:=by rw [hxv,hspd,hhv]
  refine seg 2 0 [] f0 ?_;have hM:=hM.nl;refine drx [7,8] (fun Z=>[some (vP (bn (Z 0)) 0),none]) _ (fun Z l=>[bk al #[vS a.1,vS a.2.1,vS a.2.2.1,vI a.2.2.2] 47,(bif l.getD 1 false then bk (bn (Z 0)) #[vB (aAu prof x.1.o).closed,vB (aAu prof x.1.o).oneway,vB (aAu prof x.1.o).limited,vI spd,vL qh (aAd x.1.o).length ch,vL x.1.pr x.1.o.refs.length x.1.cr] 113 else (bif l.getD 0 false then bk (bn (Z 0)) #[vB false,vB false,vB false,vI 0,vL none 0 0,vL none 0 0] 113 else aJz))]) (fun Z=>[(9,vP (bn (Z 0)) 0)]) hM (fun Z=>rfl) (fun Z l w5 hM=>(fc (ld0 77 hM (bx hS.blk 3 rfl)) (fc (ldm 9 0 2 hM rfl rfl) (fc (rz2 (lkN 77 (vS a.2.2.1) (.agg #[vB false,vB false,vB false,vI 0,vL none 0 0,vL none 0 0]) (hS.rds.fr hM.fr id) aD5 u77_ (aD6 hab.f3) (aTu _)) hxw) f0)))) ⟨aCJ 0 7 1 9 (fun Z=>#[vB false,vB false,vB false,vI 0,vL none 0 0,vL none 0 0]) 113 (fun b=>vP b 0),aB8 1 8 113 1 0 (fun Z=>(bn (Z 0))) (fun Z l=>#[vB false,vB false,vB false,vI 0,vL none 0 0,vL none 0 0]) 113 (fun Z => .agg #[vB (aAu prof x.1.o).closed,vB (aAu prof x.1.o).oneway,vB (aAu prof x.1.o).limited,vI spd,vL qh (aAd x.1.o).length ch,vL x.1.pr x.1.o.refs.length x.1.cr]),trivial⟩ fun ao w1 hM=>?_;replace hM:Mm nF_ w w1 [bk al #[vS a.1,vS a.2.1,vS a.2.2.1,vI a.2.2.2] 47,bk (bn (ao 0)) #[vB (aAu prof x.1.o).closed,vB (aAu prof x.1.o).oneway,vB (aAu prof x.1.o).limited,vI spd,vL qh (aAd x.1.o).length ch,vL x.1.pr x.1.o.refs.length x.1.cr] 113]:=hM;refine seg 3 3 [(28,vB (aAu prof x.1.o).closed)] (fc (ldm 4 1 0 hM rfl rfl) f0) ?_
  cases aa:(aAu prof x.1.o).closed with
  | false =>
   refine seg 3 6 [(31,vB (aAu prof x.1.o).oneway)] (fc (ldm 4 1 1 hM rfl rfl) f0) ?_
   cases ab:(aAu prof x.1.o).oneway with
   | false =>
    refine seg 3 19 [(44,vB (decide (1000000000<mi)))] f0 ?_;cases ac:(decide (1000000000<mi))
    rotate_left
    ·have ap:=dt ac;exact rt2 6 7 (vI 0) (vB false) rfl rfl f0 (hY _ _ ⟨⟨a,ha,by unfold aBR;simp only [hxr,show (aAu prof x.1.o).refs=x.1.o.refs from rfl,show (aAu prof x.1.o).hours=aAd x.1.o from rfl,←hspd,aa,ab,ac]<;>rfl⟩,hM.fr⟩)
    have ap:=df ac;refine seg 5 2 [(46,vB (aAu prof x.1.o).limited)] (fc (ldm 4 1 2 hM rfl rfl) f0) ?_
    cases af:(aAu prof x.1.o).limited with
    | false =>
     have hq0:0<=((a.2.2.2+spd)-1) / spd:=Int.ediv_nonneg (by omega) (by omega);have hq1:((a.2.2.2+spd)-1) / spd<=(a.2.2.2+spd)-1:=Int.ediv_le_self _ (by omega);exact rt2 6 7 (vI (mi+(((a.2.2.2+spd)-1) / spd))) (vB true) rfl rfl (fc (ldm 3 0 3 hM rfl rfl) (fc (ldm 3 1 3 hM rfl rfl) (fc (aAe a.2.2.2 spd u3_) (fc (aBx (a.2.2.2+spd) 1 u3_) (fc (ldm 3 1 3 hM rfl rfl) (fc (aQF ((a.2.2.2+spd)-1) spd u3_) (fc (aAe mi (((a.2.2.2+spd)-1) / spd) u3_) f0))))))) (hY _ _ ⟨⟨a,ha,by unfold aBR;simp only [hxr,show (aAu prof x.1.o).refs=x.1.o.refs from rfl,show (aAu prof x.1.o).hours=aAd x.1.o from rfl,←hspd,aa,ab,ac,af]<;>rfl⟩,hM.fr⟩)
    | true =>
     refine aAq 6 3 51 [(49,vL qh (aAd x.1.o).length ch),(50,vI mi)] (fc (ldm 48 1 4 hM rfl rfl) f0) hM (aId (hhv▸(hS.hrs x hx).fr hM.fr) (aIf _) mi) fun w1 hM=>seg 7 3 [(10,vI (aAz (aAd x.1.o) mi).1),(56,vB (!(aAz (aAd x.1.o) mi).2))] f0 ?_
     cases ag:(aAz (aAd x.1.o) mi).2 with
     | false =>
      exact rt2 6 7 (vI 0) (vB false) rfl rfl f0 (hY _ _ ⟨⟨a,ha,by unfold aBR;simp only [hxr,show (aAu prof x.1.o).refs=x.1.o.refs from rfl,show (aAu prof x.1.o).hours=aAd x.1.o from rfl,←hspd,aa,ab,ac,af,ag]<;>rfl⟩,hM.fr⟩)
     | true =>
      refine seg 7 6 [(59,vB (decide (1000000000<(aAz (aAd x.1.o) mi).1)))] f0 ?_;cases ah:(decide (1000000000<(aAz (aAd x.1.o) mi).1))
      rotate_left
      ·have aq:=dt ah;exact rt2 6 7 (vI 0) (vB false) rfl rfl f0 (hY _ _ ⟨⟨a,ha,by unfold aBR;simp only [hxr,show (aAu prof x.1.o).refs=x.1.o.refs from rfl,show (aAu prof x.1.o).hours=aAd x.1.o from rfl,←hspd,aa,ab,ac,af,ag,ah]<;>rfl⟩,hM.fr⟩)
      have aq:=df ah;have hng:=aIS ag;have hq0:0<=((a.2.2.2+spd)-1) / spd:=Int.ediv_nonneg (by omega) (by omega);have hq1:((a.2.2.2+spd)-1) / spd<=(a.2.2.2+spd)-1:=Int.ediv_le_self _ (by omega);exact rt2 6 7 (vI ((aAz (aAd x.1.o) mi).1+(((a.2.2.2+spd)-1) / spd))) (vB true) rfl rfl (fc (ldm 3 0 3 hM rfl rfl) (fc (ldm 3 1 3 hM rfl rfl) (fc (aAe a.2.2.2 spd u3_) (fc (aBx (a.2.2.2+spd) 1 u3_) (fc (ldm 3 1 3 hM rfl rfl) (fc (aQF ((a.2.2.2+spd)-1) spd u3_) (fc (aAe (aAz (aAd x.1.o) mi).1 (((a.2.2.2+spd)-1) / spd) u3_) f0))))))) (hY _ _ ⟨⟨a,ha,by unfold aBR;simp only [hxr,show (aAu prof x.1.o).refs=x.1.o.refs from rfl,show (aAu prof x.1.o).hours=aAd x.1.o from rfl,←hspd,aa,ab,ac,af,ag,ah]<;>rfl⟩,hM.fr⟩)
   | true =>
    refine aAq 3 11 37 [(32,.agg #[vB (aAu prof x.1.o).closed,vB (aAu prof x.1.o).oneway,vB (aAu prof x.1.o).limited,vI spd,vL qh (aAd x.1.o).length ch,vL x.1.pr x.1.o.refs.length x.1.cr]),(34,vS a.1),(36,vS a.2.1)] (fc (lam 113 1 0 6 hM rfl) (fc (ldm 9 0 0 hM rfl rfl) (fc (ldm 9 0 1 hM rfl rfl) f0))) hM (aJe (cl:=(aAu prof x.1.o).closed) (ow:=(aAu prof x.1.o).oneway) (li:=(aAu prof x.1.o).limited) (sp:=spd) (hv:=vL qh (aAd x.1.o).length ch) ((hS.refs x hx).fr hM.fr) a.1 a.2.1) fun w1 hM=>seg 3 16 [(41,vB (!(fwd a.1 a.2.1 x.1.o.refs)))] f0 ?_;cases ae:(fwd a.1 a.2.1 x.1.o.refs)
    ·exact rt2 6 7 (vI 0) (vB false) rfl rfl f0 (hY _ _ ⟨⟨a,ha,by unfold aBR;simp only [hxr,show (aAu prof x.1.o).refs=x.1.o.refs from rfl,show (aAu prof x.1.o).hours=aAd x.1.o from rfl,←hspd,aa,ab,ae]<;>rfl⟩,hM.fr⟩)
    refine seg 3 19 [(44,vB (decide (1000000000<mi)))] f0 ?_;cases ad:(decide (1000000000<mi))
    rotate_left
    ·have ar:=dt ad;exact rt2 6 7 (vI 0) (vB false) rfl rfl f0 (hY _ _ ⟨⟨a,ha,by unfold aBR;simp only [hxr,show (aAu prof x.1.o).refs=x.1.o.refs from rfl,show (aAu prof x.1.o).hours=aAd x.1.o from rfl,←hspd,aa,ab,ae,ad]<;>rfl⟩,hM.fr⟩)
    have ar:=df ad;refine seg 5 2 [(46,vB (aAu prof x.1.o).limited)] (fc (ldm 4 1 2 hM rfl rfl) f0) ?_
    cases ai:(aAu prof x.1.o).limited with
    | false =>
     have hq0:0<=((a.2.2.2+spd)-1) / spd:=Int.ediv_nonneg (by omega) (by omega);have hq1:((a.2.2.2+spd)-1) / spd<=(a.2.2.2+spd)-1:=Int.ediv_le_self _ (by omega);exact rt2 6 7 (vI (mi+(((a.2.2.2+spd)-1) / spd))) (vB true) rfl rfl (fc (ldm 3 0 3 hM rfl rfl) (fc (ldm 3 1 3 hM rfl rfl) (fc (aAe a.2.2.2 spd u3_) (fc (aBx (a.2.2.2+spd) 1 u3_) (fc (ldm 3 1 3 hM rfl rfl) (fc (aQF ((a.2.2.2+spd)-1) spd u3_) (fc (aAe mi (((a.2.2.2+spd)-1) / spd) u3_) f0))))))) (hY _ _ ⟨⟨a,ha,by unfold aBR;simp only [hxr,show (aAu prof x.1.o).refs=x.1.o.refs from rfl,show (aAu prof x.1.o).hours=aAd x.1.o from rfl,←hspd,aa,ab,ae,ad,ai]<;>rfl⟩,hM.fr⟩)
    | true =>
     refine aAq 6 3 51 [(49,vL qh (aAd x.1.o).length ch),(50,vI mi)] (fc (ldm 48 1 4 hM rfl rfl) f0) hM (aId (hhv▸(hS.hrs x hx).fr hM.fr) (aIf _) mi) fun w1 hM=>seg 7 3 [(10,vI (aAz (aAd x.1.o) mi).1),(56,vB (!(aAz (aAd x.1.o) mi).2))] f0 ?_
     cases aj:(aAz (aAd x.1.o) mi).2 with
     | false =>
      exact rt2 6 7 (vI 0) (vB false) rfl rfl f0 (hY _ _ ⟨⟨a,ha,by unfold aBR;simp only [hxr,show (aAu prof x.1.o).refs=x.1.o.refs from rfl,show (aAu prof x.1.o).hours=aAd x.1.o from rfl,←hspd,aa,ab,ae,ad,ai,aj]<;>rfl⟩,hM.fr⟩)
     | true =>
      refine seg 7 6 [(59,vB (decide (1000000000<(aAz (aAd x.1.o) mi).1)))] f0 ?_;cases ak:(decide (1000000000<(aAz (aAd x.1.o) mi).1))
      rotate_left
      ·have au:=dt ak;exact rt2 6 7 (vI 0) (vB false) rfl rfl f0 (hY _ _ ⟨⟨a,ha,by unfold aBR;simp only [hxr,show (aAu prof x.1.o).refs=x.1.o.refs from rfl,show (aAu prof x.1.o).hours=aAd x.1.o from rfl,←hspd,aa,ab,ae,ad,ai,aj,ak]<;>rfl⟩,hM.fr⟩)
      have au:=df ak;have hng:=aIS aj;have hq0:0<=((a.2.2.2+spd)-1) / spd:=Int.ediv_nonneg (by omega) (by omega);have hq1:((a.2.2.2+spd)-1) / spd<=(a.2.2.2+spd)-1:=Int.ediv_le_self _ (by omega);exact rt2 6 7 (vI ((aAz (aAd x.1.o) mi).1+(((a.2.2.2+spd)-1) / spd))) (vB true) rfl rfl (fc (ldm 3 0 3 hM rfl rfl) (fc (ldm 3 1 3 hM rfl rfl) (fc (aAe a.2.2.2 spd u3_) (fc (aBx (a.2.2.2+spd) 1 u3_) (fc (ldm 3 1 3 hM rfl rfl) (fc (aQF ((a.2.2.2+spd)-1) spd u3_) (fc (aAe (aAz (aAd x.1.o) mi).1 (((a.2.2.2+spd)-1) / spd) u3_) f0))))))) (hY _ _ ⟨⟨a,ha,by unfold aBR;simp only [hxr,show (aAu prof x.1.o).refs=x.1.o.refs from rfl,show (aAu prof x.1.o).hours=aAd x.1.o from rfl,←hspd,aa,ab,ae,ad,ai,aj,ak]<;>rfl⟩,hM.fr⟩)
  | true =>
   exact rt2 6 7 (vI 0) (vB false) rfl rfl f0 (hY _ _ ⟨⟨a,ha,by unfold aBR;simp only [hxr,show (aAu prof x.1.o).refs=x.1.o.refs from rfl,show (aAu prof x.1.o).hours=aAd x.1.o from rfl,←hspd,aa]<;>rfl⟩,hM.fr⟩)
end Go.Proofs.YtbflfefahheidaaGreatDoor
namespace Go.Pl
open Go.RowKit
section
variable {P:Program}{B:Code}{R:Pst}{ds:List Deferred}{n:Nat}{p:Option (Nat×Nat)}{L N:Frm}{w w0:World}{F:List Ft}{F0:Nat->Prop}{M:List Ent}{r' i':Nat}
def aRO (n:Nat) (LL:Frm) (f:Operand->Op):Md->Option (Option Nat×Option Bool×Op×Op×Option Value)
 | .ops _ O (o::_) _ _=>match o.op.operands[0]? with
  | some x=>some (o.dst,aCU O LL n o,o.op,f x,opv LL x)
  | _=>none
 | _=>none
def aVg (x:Res) (n:Nat) (L:Frm) (f:Operand->Op):Option (Option Nat×Option Bool×Op×Option Value) :=
 match x with
 | some (m,nw,_,_)=>match aRO n (nw++L) f m with
  | some (d,wt,a,b,u)=>some (d,wt,a,u)
  | none=>none
 | none=>none
def aVf (x:Res) (n:Nat) (L:Frm) (f:Operand->Op) (d:Option Nat) (v:Value):Option (Option Nat×Option Bool×Op×Option Value) :=
 match x with
 | some (m,nw,_,_)=>match aRO n (nw++L) f m with
  | some (_,_,_,b,_)=>some (d,some true,b,some v)
  | none=>some (none,none,f (.tmp 0),none)
 | none=>some (none,none,f (.tmp 0),none)
theorem aMz {f:Operand->Op}{d:Option Nat}{v:Value}(hF:aAQ P w F)
  (h:(lhs (go P w n B p L r' i' F) N L,aVg (go P w n B p L r' i' F) n L f)=(rhs (go P w n B p L r' i' F) N B r' i',aVf (go P w n B p L r' i' F) n L f d v))
  (k:∀ (O:Array Oper) (kk:List Kon) (o:Oper) (l:List Oper) (a:Act) x,aAT r' B []=some (O,false,kk)->O.toList.drop i'=o::l->EnvS ds n (N++L) a->o.dst=d->Region.wanted o (yielded O a.tmps)=true->o.op=f x->a.eval x=v->wpListIn (fen R.rd) 0 P O (post P R kk) (o::l) a w):AtO P B R ds n p L w:=by
 obtain ⟨h1,h2⟩:=Prod.mk.inj h;obtain ⟨m,nw,fs,es,hx,hE,⟨z,hl,ht⟩,hs⟩:=aEI h1;rw [hx] at h2;refine aJd hx hF hE fun a E=>?_;unfold aVg aVf at h2;simp only at h2
 cases hta:aRO n (nw++L) f m with
 | none=>rw [hta] at h2;cases h2
 | some q =>
  obtain ⟨d1,wt,oa,ob,u1⟩:=q;rw [hta] at h2;simp only [Gm_,Prod.mk.injEq] at h2;obtain ⟨rfl,rfl,rfl,rfl⟩:=h2
  cases m with
  | ops r O l i k1 =>
   cases l with
   | nil=>cases hta
   | cons o l =>
    unfold aRO at hta;simp only at hta
    split at hta
    ·rename_i x hx0;simp only [Gm_,Prod.mk.injEq] at hta;obtain ⟨q1,q3,q4,q5,q6⟩:=hta;unfold aJB at ht
     cases hf:aAT r' B [] with
     | none=>rw [hf] at ht;cases ht
     | some z1 =>
      obtain ⟨O1,dr,kk⟩:=z1;rw [hf] at ht
      cases dr with
      | true =>
       cases i' with
       | zero=>cases ht;cases hl
       | succ i'=>cases ht
      | false =>
       cases ht;have hl:(some (O,false,k1,o::l,0):Option (Array Oper×Bool×List Kon×List Oper×Nat))=some (O1,false,kk,O1.toList.drop i',0):=hl;simp only [Gm_,Prod.mk.injEq] at hl;obtain ⟨rfl,_,rfl,hl,_⟩:=hl;exact k O k1 o l a x hf hl.symm (E.sub hs) q1 (aC0 q3 E) (q4.trans q5.symm) (E.opv q6)
    ·cases hta
  | _=>cases hta
theorem aNp {T:TypeId}{o:Oper}{ρ:Operand->Value}{x:Operand}{b:Nat}{v:Value}{w':World}(h:(Instr.range T (.map (some b))).run P w = .ok v w') (ho:o.op = .range T x) (hx:ρ x = .map (some b)):(execOp ρ o).run P w = .ok (.value v) w':=by
 simp [execOp,ho,hx,h,Result.andThen]
theorem aJP {o:Oper}{ρ:Operand->Value}{x:Operand}{r:Nat}{v:Value}{w':World}(h:(Instr.next (.pointer (some ⟨r,0,none⟩)) false o.type).run P w = .ok v w') (ho:o.op = .next x false) (hx:ρ x = .pointer (some ⟨r,0,none⟩)):(execOp ρ o).run P w = .ok (.value v) w':=by
 simp [execOp,ho,hx,h,Result.andThen]
theorem aNq {o:Oper}{ρ:Operand->Value}{x:Operand}{r:Nat}{v:Value}(h:(Instr.entry (.pointer (some ⟨r,0,none⟩))).run P w = .ok v w) (ho:o.op = .entry x) (hx:ρ x = .pointer (some ⟨r,0,none⟩)):(execOp ρ o).run P w = .ok (.value v) w:=by
 simp [execOp,ho,hx,h,Result.andThen]
def aSN (P:Program) (K:TypeId) (b r n:Nat) (m:Value->Option Value) (left:Value->Prop) (cnt:Nat):Ent where
 B k:=k=b∨k=r
 H w:=Rng P K w b r m left cnt /\ aD0 P K w b n m
 lt h e:=by rcases e with rfl | rfl;exact h.2.lt;exact h.1.lt
 fr h f hn:=⟨h.1.fr f (hn _ (.inl rfl)) (hn _ (.inr rfl)),h.2.fr f (hn _ (.inl rfl))⟩
theorem rgm (r' i' d:Nat) (N:Frm) (T j:Nat) {K e:TypeId}{b c:Nat}{m:Value->Option Value}(hd:d<n) (hF:aAQ P w F) (hM:Mm F0 w0 w M) (hj:M[j]?=some (mp P K b c m)) (ht:P.underlying T=some (.map K e))
  (kk:∀ r cnt w',Mm F0 w0 w' (M.set j (aSN P K b r c m (fun k=>(m k).isSome=true) cnt))->AtO P B R ds n (some (r',i'+1)) ((d,vP r 0)::(N++L)) w')
  (h:(lhs (go P w n B p L r' i' F) N L,aVg (go P w n B p L r' i' F) n L (fun x => .range T x))=(rhs (go P w n B p L r' i' F) N B r' i',aVf (go P w n B p L r' i' F) n L (fun x => .range T x) (some d) (.map (some b))):=by kernel_rfl):AtO P B R ds n p L w:=by
 refine aMz hF h fun O k1 o l a x hf hd1 En hdd hw ho hx=>?_;have hm:aD0 P K w b c m:=hM.get j hj;obtain ⟨ob,cnt,hr,hR⟩:=hm.at.range ht;refine aCX hw (aNp hr ho hx) ?_;rw [hdd];have f1:Fr nF_ w (w.alloc ob):=(Fr.refl _ _).alloc _
 have hM':=hM.put (w':=w.alloc ob) j (e':=aSN P K b w.heap.size c m (fun k=>(m k).isSome=true) cnt) hj f1 (fun _ _ h=>h.elim) ⟨hR,hm.fr f1 id⟩ fun k e=>by
  rcases e with rfl | rfl
  ·exact .inl rfl
  ·exact .inr (Gl_ _)
 obtain ⟨O1,dr,k2,hf1,hk⟩:=kk _ _ _ hM';rw [hf] at hf1;cases hf1;have hdr:O.toList.drop (i'+1)=l:=by rw [←List.tail_drop,hd1];rfl
 rw [←hdr];exact hk _ (En.put hd)
theorem nxm (r' i' d:Nat) (N:Frm) (j:Nat) {K:TypeId}{b r c cnt:Nat}{m:Value->Option Value}{left:Value->Prop}(hd:d<n) (hF:aAQ P w F) (hM:Mm F0 w0 w M) (hj:M[j]?=some (aSN P K b r c m left cnt))
  (k1:(∀ k,¬ left k)->AtO P B R ds n (some (r',i'+1)) ((d,.tuple #[vB false])::(N++L)) w)
  (k2:∀ key v cnt' w',left key->m key=some v->(∃ l,keyOf P K key=some l)->cnt'<cnt->Mm F0 w0 w' (M.set j (aSN P K b r c m (fun x=>left x /\ x≠key) cnt'))->(Instr.entry (.pointer (some ⟨r,0,none⟩))).run P w' = .ok (.tuple #[key,v]) w'->AtO P B R ds n (some (r',i'+1)) ((d,.tuple #[vB true,key,v])::(N++L)) w')
  (h:(lhs (go P w n B p L r' i' F) N L,aVg (go P w n B p L r' i' F) n L (fun x => .next x false))=(rhs (go P w n B p L r' i' F) N B r' i',aVf (go P w n B p L r' i' F) n L (fun x => .next x false) (some d) (vP r 0)):=by kernel_rfl):AtO P B R ds n p L w:=by
 refine aMz hF h fun O k1' o l a x hf hd1 En hdd hw ho hx=>?_;have hdr:O.toList.drop (i'+1)=l:=by rw [←List.tail_drop,hd1];rfl
 obtain ⟨hR,hm⟩:Rng P K w b r m left cnt /\ aD0 P K w b c m:=hM.get j hj;rcases hR.next o.type with ⟨h0,hr⟩ | ⟨key,v,w',cnt',g1,g2,g3,hr,g4,g5,g6,g7⟩
 ·refine aCX hw (aJP hr ho hx) ?_;rw [hdd];obtain ⟨O1,dr,k2,hf1,hk⟩:=k1 h0;rw [hf] at hf1;cases hf1;rw [←hdr];exact hk _ (En.put hd)
 ·refine aCX hw (aJP hr ho hx) ?_;rw [hdd];have hM':=hM.put (w':=w') j (e':=aSN P K b r c m (fun x=>left x /\ x≠key) cnt') hj g6 (fun k _ e => .inr e) ⟨g4,hm.fr g6 (fun e=>hR.ne e.symm)⟩ fun k e => .inl e;obtain ⟨O1,dr,k2,hf1,hk⟩:=k2 _ _ _ _ g1 g2 g3 g5 hM' g7;rw [hf] at hf1;cases hf1;rw [←hdr];exact hk _ (En.put hd)
theorem aRK {r:Nat}{key v:Value}(h:(Instr.entry (.pointer (some ⟨r,0,none⟩))).run P w = .ok (.tuple #[key,v]) w):Ft.ok P w (.g1 (fun x => .entry x) (vP r 0) (.tuple #[key,v])):=fun o ρ x ho hx=>aNq h ho hx
theorem Mm.unrng {K:TypeId}{b r c cnt j:Nat}{m:Value->Option Value}{left:Value->Prop}(hM:Mm F0 w0 w M) (hj:M[j]?=some (aSN P K b r c m left cnt)):Mm F0 w0 w (M.set j (mp P K b c m)) :=
 hM.put j hj (Fr.refl nF_ _) (fun _ _ h=>h.elim) (show aD0 P K w b c m from (hM.get j hj).2) fun k e => .inl (.inl e)
end
def slp:Value->Option Addr
 | .slice p _ _=>p
 | _=>none
def slc:Value->Nat
 | .slice _ _ c=>c
 | _=>0
section
variable {P:Program}{w w0:World}{rd:Option Nat}{B:Code}{r n:Nat}{L:Frm}{ef:List Nat}{V:Lts->List (Option Value)}{F:Lts->List Ft}{ds:List Deferred}{F0:Nat->Prop}{Mf:Lts->List Bool->List Ent}
theorem aH2 {α:Type}{f:α->List Value}{c:Nat}(p i j d T E G:Nat) (v:Lts->Value) (A S:List α) (q:Lts->Nat) (cap:Nat) (X:ElT P f c T E) (hl:A.length+S.length<=1500000000000)
  (hsrc:∀ γ fr wm,Mm F0 w0 wm (Mf γ (flg B r ef i fr))->aDm f c wm (q γ+1) (some ⟨q γ,0,none⟩) S)
  (hj:∀ γ fr,(Mf γ (flg B r ef i fr))[j]?=some (rw_ f c E (v γ) A):=by intro γ fr;kernel_rfl)
  (hm:∀ γ fr p' c',(Mf γ (flg B r ef i fr)).set j (rw_ f c E (vL p' (A++S).length c') (A++S))=Mf (aDy γ p (vL p' (A++S).length c')) ((flg B r ef i fr).set p true):=by intro γ fr p' c';kernel_rfl)
  (hV:∀ γ p' c',((V (aDy γ p (vL p' (A++S).length c')))[p]?).getD none=some (vL p' (A++S).length c'):=by intro γ p' c';rfl)
  (hs:∀ γ,aSH (aAH B r) i (frX P w n B r L ef V F i γ)=aSG (aAH B r) i (fun x y => .call { callee := .builtin .append,args:=#[x,y],argTypes:=#[T,T] }) (v γ) (.slice (some ⟨q γ,0,none⟩) S.length cap) (some d):=by intro γ;kernel_rfl):Arm rd P w n B r L ef V F ds F0 w0 Mf p i:=by
 intro γ fr a wm Q o ho En hw hM;obtain ⟨x,y,h1,h2,h3,h4⟩:=aHR ho En (hs γ);have hrow:ow f c E wm 0 (v γ) A:=hM.get j (hj γ fr);obtain ⟨w',v',g1,g2,g3,g4⟩:=aQ7 X h1 h2 hrow h3 (hsrc γ fr wm hM) (by simp) hl (Gg_ _)
 have hM':=hM.put (w':=w') j (e':=rw_ f c E v' (A++S)) (hj γ fr) g3 (fun k _ e=>e) g2 (fun k e=>by
  have e:v'.ownBlock=some k:=e;rcases g4 with h3 | h3
  ·exact .inl (by rw [h3] at e;exact e)
  ·rw [h3] at e;cases e;exact .inr (Gl_ _))
 obtain ⟨p',c',hv,-⟩:=g2.src X.len;subst hv;rw [hm] at hM';exact aGm g1 ⟨vL p' (A++S).length c',γ.e p,by rw [aA9,hV,h4];rfl,by rw [aA9];exact hM'⟩
end
section
variable {P:Program}{B:Code}{R:Pst}{ds:List Deferred}{n:Nat}{p:Option (Nat×Nat)}{L N:Frm}{w w0:World}{F:List Ft}{F0:Nat->Prop}{M A Ms:List Ent}
abbrev Mth (P:Program) (w:World) (t:TypeId) (v:Value) (name:String) (f:FuncId) (rv:Value):Prop:=(method (P.types.size+100) t v name).run P w = .ok (f,rv) w
section
variable {o:Oper}{ρ:Operand->Value}{x y z:Operand}{t:TypeId}{v rv u1 u2:Value}{f:FuncId}{name:String}{ts:Array TypeId}
theorem aOW (hm:Mth P w t v name f rv) (eg:aJ1 P f) (ho:o.op = .call ⟨.invoke x name,#[],ts⟩) (hx:ρ x = .iface t v):(execOp ρ o).run P w = .ok (.enter f #[rv]) w:=by
 have hm:(method (P.types.size+100) t v name).run P w = .ok (f,rv) w:=hm;simp [execOp,ho,hx,resolve,invoke,callMethod,go_sem,hm,eg]
theorem aOV (hm:Mth P w t v name f rv) (eg:aJ1 P f) (ho:o.op = .call ⟨.invoke x name,#[y],ts⟩) (hx:ρ x = .iface t v) (hy:ρ y=u1):(execOp ρ o).run P w = .ok (.enter f #[rv,u1]) w:=by
 have hm:(method (P.types.size+100) t v name).run P w = .ok (f,rv) w:=hm;simp [execOp,ho,hx,hy,resolve,invoke,callMethod,go_sem,hm,eg]
theorem aOU (hm:Mth P w t v name f rv) (eg:aJ1 P f) (ho:o.op = .call ⟨.invoke x name,#[y,z],ts⟩) (hx:ρ x = .iface t v) (hy:ρ y=u1) (hz:ρ z=u2):(execOp ρ o).run P w = .ok (.enter f #[rv,u1,u2]) w:=by
 have hm:(method (P.types.size+100) t v name).run P w = .ok (f,rv) w:=hm;simp [execOp,ho,hx,hy,hz,resolve,invoke,callMethod,go_sem,hm,eg]
end
theorem aW2 (r' i' d:Nat) (N:Frm) (name:String) (ts:Array TypeId) {t:TypeId}{v rv:Value}{f:FuncId}{K:Value->World->Prop}(hd:d<n) (hF:aAQ P w F) (hm:Mth P w t v name f rv) (eg:aJ1 P f) (hc:Calls P f #[rv] w fun e w'=>∃ u,e = .returned u /\ K u w') (k:∀ u w',K u w'->AtO P B R ds n (some (r',i'+1)) ((d,u)::(N++L)) w')
  (h:(lhs (go P w n B p L r' i' F) N L,aVg (go P w n B p L r' i' F) n L (fun x => .call ⟨.invoke x name,#[],ts⟩))=(rhs (go P w n B p L r' i' F) N B r' i',aVf (go P w n B p L r' i' F) n L (fun x => .call ⟨.invoke x name,#[],ts⟩) (some d) (.iface t v)):=by kernel_rfl):AtO P B R ds n p L w :=
 aMz hF h fun O kk o l a x hf hd1 E hdd hw ho hx=>by
  refine aGG hw (aOW hm eg ho hx) hc fun u w' hK=>?_;obtain ⟨O1,dr,k1,hf1,hk⟩:=k u w' hK;rw [hf] at hf1;cases hf1;have:=hk _ (E.put (v:=u) hd);rw [hdd];have hdr:O.toList.drop (i'+1)=l:=by rw [←List.tail_drop,hd1];rfl
  rw [←hdr];exact this
theorem aYj (r' i' d:Nat) (N:Frm) (name:String) (ts:Array TypeId) {t:TypeId}{v rv u1:Value}{f:FuncId}{K:Value->World->Prop}(hd:d<n) (hF:aAQ P w F) (hm:Mth P w t v name f rv) (eg:aJ1 P f) (hc:Calls P f #[rv,u1] w fun e w'=>∃ u,e = .returned u /\ K u w') (k:∀ u w',K u w'->AtO P B R ds n (some (r',i'+1)) ((d,u)::(N++L)) w')
  (h:(lhs (go P w n B p L r' i' F) N L,aLW (go P w n B p L r' i' F) n L (fun x y => .call ⟨.invoke x name,#[y],ts⟩))=(rhs (go P w n B p L r' i' F) N B r' i',aLV (go P w n B p L r' i' F) n L (fun x y => .call ⟨.invoke x name,#[y],ts⟩) (some d) false (.iface t v) u1):=by kernel_rfl):AtO P B R ds n p L w :=
 aGB hF h fun O kk o l a x y hf hd1 E hdd _ hw ho hx hy=>by
  refine aGG hw (aOV hm eg ho hx hy) hc fun u w' hK=>?_;obtain ⟨O1,dr,k1,hf1,hk⟩:=k u w' hK;rw [hf] at hf1;cases hf1;have:=hk _ (E.put (v:=u) hd);rw [hdd];have hdr:O.toList.drop (i'+1)=l:=by rw [←List.tail_drop,hd1];rfl
  rw [←hdr];exact this
theorem aQI (r' i' d:Nat) (N:Frm) (name:String) (ts:Array TypeId) {t:TypeId}{v rv u1 u2:Value}{f:FuncId}{K:Value->World->Prop}(hd:d<n) (hF:aAQ P w F) (hm:Mth P w t v name f rv) (eg:aJ1 P f) (hc:Calls P f #[rv,u1,u2] w fun e w'=>∃ u,e = .returned u /\ K u w') (k:∀ u w',K u w'->AtO P B R ds n (some (r',i'+1)) ((d,u)::(N++L)) w')
  (h:(lhs (go P w n B p L r' i' F) N L,aVt (go P w n B p L r' i' F) n L (fun x y z => .call ⟨.invoke x name,#[y,z],ts⟩))=(rhs (go P w n B p L r' i' F) N B r' i',aVs (go P w n B p L r' i' F) n L (fun x y z => .call ⟨.invoke x name,#[y,z],ts⟩) (some d) (.iface t v) u1 u2):=by kernel_rfl):AtO P B R ds n p L w :=
 aO4 hF h fun O kk o l a x y z hf hd1 E hdd hw ho hx hy hz=>by
  refine aGG hw (aOU hm eg ho hx hy hz) hc fun u w' hK=>?_;obtain ⟨O1,dr,k1,hf1,hk⟩:=k u w' hK;rw [hf] at hf1;cases hf1;have:=hk _ (E.put (v:=u) hd);rw [hdd];have hdr:O.toList.drop (i'+1)=l:=by rw [←List.tail_drop,hd1];rfl
  rw [←hdr];exact this
theorem aUx {g:FuncId}{args:Array Value}{K:Value->List Ent->Prop}(is js:List Nat) (hM:Mm F0 w0 w M) (hA:aBK M is=A) (hS:aBK M js=Ms) (hn:(is++js).Nodup) (hc:Mm (BlM Ms) w w Ms->Calls P g args w fun e w'=>∃ v Mn,e = .returned v /\ K v Mn /\ Mm (BlM Ms) w w' Mn):Calls P g args w fun e w'=>∃ v,e = .returned v /\ ∃ Mn,K v Mn /\ Mm F0 w0 w' (A++Mn):=by
 have hp:aBK M (is++js)=A++Ms:=by rw [←hA,←hS,aFc]
 have hM1:=hM.pick (is++js) hp hn;have hMs:Mm F0 w0 w Ms:=hM.pick js hS (List.nodup_append.1 hn).2.1;exact (hc (hMs.re fun e he k hk=>⟨e,he,hk⟩)).mono fun e w' ⟨v,Mn,h1,h2,h3⟩=>⟨v,h1,Mn,h2,hM1.call h3 fun _ _ h=>h⟩
end
theorem aW8 {P:Program}{w:World}{f:FuncId}{args:Array Value}{v:Value}(hc:Calls P f args w fun e w'=>e = .returned v /\ Fr nF_ w w'):Calls P f args w fun e w'=>∃ u,e = .returned u /\ (u=v /\ Fr nF_ w w'):=hc.mono fun _ _ h=>⟨v,h.1,rfl,h.2⟩
section
variable {P:Program}{w w0:World}{α:Type}{f:α->List Value}{c E TS B:Nat}{p:Option Addr}{F0:Nat->Prop}{M:List Ent}{A:List α}
theorem aVD (hlen:∀ x,(f x).length=c) {n cap:Nat}{Y:List α}{x:α}(h:ow f c E w B (.slice p n cap) (Y++[x])):ow f c E w B (.slice p (n-1) cap) Y:=by
 rcases h.2 with ⟨h1,h2⟩ | ⟨g,c2,cur,h1,hB,h3,h4,h5,h6,h7⟩
 ·simp at h2
 ·simp only [Value.slice.injEq] at h1;obtain ⟨rfl,hn,rfl⟩:=h1;simp only [Gk_,List.length_singleton] at h4 h7 hn;refine ⟨by rw [aCw hlen],.inr ⟨g,cap,cur,by rw [hn];rfl,hB,h3,by omega,h5,h6,?_⟩⟩;have h8:=congrArg (List.take (Y.length*c)) h7;rw [List.take_take,Nat.min_eq_left (by rw [Nat.succ_mul];omega)] at h8;rw [h8,aPY hlen];rw [List.take_append_of_le_length (Gl_ _),List.take_length]
theorem Mm.popE (hlen:∀ x,(f x).length=c) (hM:Mm F0 w0 w M) {j n cap:Nat}{Y:List α}{x:α}(hj:M[j]?=some (rw_ f c E (.slice p n cap) (Y++[x]))):Mm F0 w0 w (M.set j (rw_ f c E (.slice p (n-1) cap) Y)) :=
 hM.put j hj (Fr.refl nF_ _) (fun _ _ h=>h.elim) (show ow f c E w 0 _ Y from aVD hlen (hM.get j hj)) fun k e => .inl (by cases p<;>exact e)
theorem aXR (T:TypeId) {g n cap i:Nat}{z:Int}(hz:z=(i:Int)) (hle:n<=cap) (hi:i<n) (hT:P.underlying T=some (.slice E)) (hE:(P.info? E).isSome=true:=by kernel_rfl):Ft.ok P w (.g2 (fun x y => .slice T x none (some y) none) (vL (some ⟨g,0,none⟩) n cap) (vI z) (vL (some ⟨g,0,none⟩) i cap)):=fun o ρ x y ho hx hy=>by
 subst hz;have h1:(i:Int)<=cap:=by omega
 have h0:(0:Int)<=i:=by omega
 have h3:cap≠0:=by omega
 obtain ⟨ti,hti⟩:=Option.isSome_iff_exists.1 hE;simp [execOp,ho,hx,hy,go_sem,h1,h0,h3,hT,sizeOf,typeInfo,hti]
theorem aEV {X:List α}{i j:Nat}{x y:α}(hx:X[i]?=some x) (hy:X[j]?=some y):((X.set i y).set j x).Perm X:=by
 obtain ⟨hi,hx⟩:=List.getElem?_eq_some_iff.1 hx;obtain ⟨hj,hy⟩:=List.getElem?_eq_some_iff.1 hy;have h:=Array.swap_perm (xs:=X.toArray) (i:=i) (j:=j) (by simpa using hi) (by simpa using hj);have h2:=Array.perm_iff_toList_perm.1 h;rw [Array.toList_swap] at h2;simpa [hx,hy] using h2
end
section
variable {P:Program}{w w0:World}{rd:Option Nat}{B:Code}{r n:Nat}{L:Frm}{ef:List Nat}{V:Lts->List (Option Value)}{F:Lts->List Ft}{ds:List Deferred}{F0:Nat->Prop}{Mf:Lts->List Bool->List Ent}
variable {α:Type}{f:α->List Value}{c E TS:Nat}{q:Option Addr}{g cap m:Nat}
theorem aTp (p i T j k l e d:Nat) (A:List α) {y:α}(X:ElT P f c TS E) (hq:q=some ⟨g,0,none⟩) (hy:A[e]?=some y)
  (hj:∀ γ fr,(Mf γ (flg B r ef i fr))[j]?=some (rw_ f c E (.slice q m cap) A):=by intro γ fr;kernel_rfl)
  (hm:∀ γ fr,Mf γ (flg B r ef i fr)=Mf (aDy γ p undef) ((flg B r ef i fr).set p true):=by intro γ fr;kernel_rfl)
  (hV:∀ γ,((V (aDy γ p undef))[p]?).getD none=some (vA (((f y).drop k).take l)):=by intro γ;rfl) (hT:agT P T (((f y).drop k).take l).length=true:=by kernel_rfl)
  (hs:∀ γ,aV4 (aAH B r) i (frX P w n B r L ef V F i γ)=aV3 (aAH B r) i (.load T) (vP g (0+e*c+k)) (some d):=by intro γ;kernel_rfl):Arm rd P w n B r L ef V F ds F0 w0 Mf p i:=by
 intro γ fr a wm Q o ho En hw hM;obtain ⟨x,h1,h2,h3⟩:=aOK ho En (hs γ);obtain ⟨g',e1,e2⟩:=hM.el X (hj γ fr) hy;rw [hq] at e1
 injection e1 with e1
 injection e1 with e1 _ _
 subst e1;have hl:=aEW (P:=P) hT (rs e2 k l);rw [hm] at hM;refine aHK (v:=vA (((f y).drop k).take l)) (w':=wm) ?_ ⟨undef,γ.e p,by rw [aA9,hV,h3];rfl,by rw [aA9];exact hM⟩;simp only [execOp,h1,h2,Sem.run_bind,hl,Result.andThen_ok,Sem.run_pure]
end
section
variable {P:Program}{B:Code}{R:Pst}{ds:List Deferred}{n:Nat}{p:Option (Nat×Nat)}{L:Frm}{w w0:World}{F:List Ft}{F0:Nat->Prop}{M:List Ent}
theorem aYf (r' i' d:Nat) (N:Frm) {f:Operand->Op}{v u:Value}(hd:d<n) (hF:aAQ P w F) (hr:Ft.ok P w (.g1 f v u)) (k:AtO P B R ds n (some (r',i'+1)) ((d,u)::(N++L)) w)
  (h:(lhs (go P w n B p L r' i' F) N L,aVg (go P w n B p L r' i' F) n L f)=(rhs (go P w n B p L r' i' F) N B r' i',aVf (go P w n B p L r' i' F) n L f (some d) v):=by kernel_rfl):AtO P B R ds n p L w:=by
 refine aMz hF h fun O k1 o l a x hf hd1 En hdd hw ho hx=>aCX hw (hr o _ x ho hx) ?_;rw [hdd];obtain ⟨O1,dr,k2,hf1,hk⟩:=k;rw [hf] at hf1;cases hf1;have hdr:O.toList.drop (i'+1)=l:=by rw [←List.tail_drop,hd1];rfl
 rw [←hdr];exact hk _ (En.put hd)
theorem ins (r' i':Nat) (N:Frm) (T j:Nat) {K e:TypeId}{b c:Nat}{m:Value->Option Value}(key v:Value) (hF:aAQ P w F) (hM:Mm F0 w0 w M) (hj:M[j]?=some (mp P K b c m)) (LK:Maps.Keyed P K) (ht:P.underlying T=some (.map K e)) (hk:∃ l,keyOf P K key=some l) (kk:∀ w',Mm F0 w0 w' (M.set j (mp P K b (c+1) (upd m key v)))->AtO P B R ds n (some (r',i'+1)) (N++L) w')
  (h:(lhs (go P w n B p L r' i' F) N L,aVt (go P w n B p L r' i' F) n L (fun x y z => .insert T x y z))=(rhs (go P w n B p L r' i' F) N B r' i',aVs (go P w n B p L r' i' F) n L (fun x y z => .insert T x y z) none (.map (some b)) key v):=by kernel_rfl):AtO P B R ds n p L w:=by
 obtain ⟨l,hk⟩:=hk;have hm:aD0 P K w b c m:=hM.get j hj;obtain ⟨ob,hob⟩:=hm.store LK ht hk v;obtain ⟨h1,h2⟩:=hob w rfl;have hM':=hM.put (w':=setBlk w b ob) j (e':=mp P K b (c+1) (upd m key v)) hj ((Fr.refl (fun r=>r=b) w).setBlk (fun _=>rfl) ob) (fun k _ e=>e) (h2.mono (by split<;>omega)) (fun k e => .inl e);refine aO4 hF h fun O k1 o l a x y z hf hd1 E hd hw ho hx hy hz=>aKY hw (w':=setBlk w b ob) (by simp only [execOp,ho,hx,hy,hz,Sem.run_bind,h1,Result.andThen_ok,Sem.run_pure]) hd ?_;obtain ⟨O1,dr,k2,hf1,hk⟩:=kk _ hM';rw [hf] at hf1;cases hf1;have:=hk _ E;have hdr:O.toList.drop (i'+1)=l:=by rw [←List.tail_drop,hd1];rfl
 rw [←hdr];exact this
end
section
variable {P:Program}{w w0:World}{rd:Option Nat}{B:Code}{r n:Nat}{L:Frm}{ef:List Nat}{V:Lts->List (Option Value)}{F:Lts->List Ft}{ds:List Deferred}{F0:Nat->Prop}{Mf:Lts->List Bool->List Ent}
def enL (P:Program) (wm:World) (O:Array Oper) (i:Nat) (LL:Frm):Option (Nat×Array Value×Option Nat×World) :=
 match O[i]? with
 | some o=>bif aDT LL o.op&&(match o.op with | .select _ _=>false | _=>true) then (match (execOp (rho LL) o).run P wm with
  | .ok (.enter f args) w'=>some (f,args,o.dst,w')
  | _=>none) else none
 | none=>none
theorem aUF {wm:World}{O:Array Oper}{i:Nat}{LL:Frm}{f:Nat}{args:Array Value}{d:Option Nat}{o:Oper}{ds:List Deferred}{n:Nat}{a:Act}(ho:O[i]?=some o) (E:EnvS ds n LL a) (h:enL P wm O i LL=some (f,args,d,wm)):(execOp a.eval o).run P wm = .ok (.enter f args) wm /\ o.dst=d:=by
 unfold enL at h;rw [ho] at h;simp only at h
 cases hc:(aDT LL o.op&&(match o.op with | .select _ _=>false | _=>true)) with
 | false=>rw [hc] at h;cases h
 | true =>
  rw [hc] at h;simp only [cond_true] at h;rw [Ga_] at hc;rw [aFS E hc.1 fun cs b e=>by rw [e] at hc;cases hc.2]
  split at h
  ·rename_i f1 args1 w1 hr;simp only [Gm_,Prod.mk.injEq] at h;obtain ⟨rfl,rfl,rfl,rfl⟩:=h;exact ⟨hr,rfl⟩
  ·cases h
theorem aTq (p i j d:Nat) {f:FuncId}(args:Lts->Array Value) (v:Value) (e e':Ent)
  (hc:∀ (γ:Lts) wm,e.H wm->Fr F0 w0 wm->Calls P f (args γ) wm fun x w'=>x = .returned v /\ Fr e.B wm w' /\ e'.H w' /\ ∀ k,e'.B k->e.B k∨wm.heap.size<=k)
  (hj:∀ γ fr,(Mf γ (flg B r ef i fr))[j]?=some e:=by intro γ fr;kernel_rfl)
  (hm:∀ γ fr,(Mf γ (flg B r ef i fr)).set j e'=Mf (aDy γ p v) ((flg B r ef i fr).set p true):=by intro γ fr;kernel_rfl)
  (hV:∀ γ,((V (aDy γ p v))[p]?).getD none=some v:=by intro γ;rfl)
  (hs:∀ γ wm,enL P wm (aAH B r) i (frX P w n B r L ef V F i γ)=some (f,args γ,some d,wm):=by intro γ wm;kernel_rfl):Arm rd P w n B r L ef V F ds F0 w0 Mf p i:=by
 intro γ fr a wm Q o ho En hw hM;obtain ⟨h1,h2⟩:=aUF ho En (hs γ wm);refine aG5 (R:=fun u w'=>u=v /\ Fr e.B wm w' /\ e'.H w' /\ ∀ k,e'.B k->e.B k∨wm.heap.size<=k) h1 ((hc γ wm (hM.get j (hj γ fr)) hM.fr).mono fun x w' ⟨g1,g2⟩=>⟨v,g1,rfl,g2⟩) fun u w' ⟨hu,g1,g2,g3⟩=>?_;subst hu;have hM':=hM.put (w':=w') j (hj γ fr) g1 (fun k _ h=>h) g2 g3;rw [hm] at hM';exact ⟨u,γ.e p,by rw [aA9,hV,h2];rfl,by rw [aA9];exact hM'⟩
end
end Go.Pl
