/- Part 5 of the proof. -/
import Derived.Test.YtbflfefahheidaaGreatDoorG4
import Derived.Lib.AtoiTie
set_option linter.unusedVariables false
set_option linter.unusedSimpArgs false
namespace Go.Proofs.YtbflfefahheidaaGreatDoor
open Go.RowKit Go.Pl
def aCr (l:List Ob) (S:Ob->Bool) (o:Ob) (i:Nat):Bool:=match o.refs[i]? with
  | some s=>(!decide (aAm l s<0))&&(match l[(aAm l s).toNat]? with | some x=>(x.kind==aCo o (i:Int))&&S x | none=>false)
  | none=>true
def aDD (l:List Ob) (S:Ob->Bool) (o:Ob):Bool:=(List.range o.refs.length).all fun i=>aCr l S o i
section
variable {l:List ObR}{S:Ob->Bool}{o:Ob}{i:Nat}{y:Bys}
theorem aWN (hy:o.refs[i]?=some y) (h:aAm (aAa l) y<0):aCr (aAa l) S o i=false:=by
  unfold aCr;rw [hy];show ((!decide (aAm (aAa l) y<0))&&_)=false;rw [decide_eq_true h];rfl
theorem aTO (hy:o.refs[i]?=some y) {k:Nat}{z:ObR}(hk:aAm (aAa l) y=(k:Int)) (hz:l[k]?=some z):aCr (aAa l) S o i=((z.o.kind==aCo o (i:Int))&&S z.o):=by
  unfold aCr;rw [hy];show ((!decide (aAm (aAa l) y<0))&&(match (aAa l)[(aAm (aAa l) y).toNat]? with | some x=>(x.kind==aCo o (i:Int))&&S x | none=>false))=_;rw [hk,show ((k:Int)).toNat=k by omega,aAn hz,show decide ((k:Int)<0)=false by simp];rfl
theorem aTN (hi:i<o.refs.length) (h:aCr (aAa l) S o i=false):aDD (aAa l) S o=false:=by
  unfold aDD;rw [←Bool.not_eq_true,List.all_eq_true];intro q;have:=q i (List.mem_range.2 hi);rw [h] at this;cases this
theorem aSK (h:∀ k,k<o.refs.length->aCr (aAa l) S o k=true):aDD (aAa l) S o=true:=List.all_eq_true.2 fun i hi=>h i (List.mem_range.1 hi)
theorem aWM (h:∀ k,k<i->aCr (aAa l) S o k=true) (h2:aCr (aAa l) S o i=true):∀ k,k<i+1->aCr (aAa l) S o k=true:=fun k hk=>by
  by_cases e:k=i
  · rw [e];exact h2
  · exact h k (by omega)
theorem aEn {id:Bys}(h:¬ aAm (aAa l) id<0):∃ k z,aAm (aAa l) id=((k:Nat):Int) /\ l[k]?=some z /\ z.o.id=id:=by
  obtain ⟨k,o,hk,ho,he⟩:=aDt h;obtain ⟨z,hz⟩:=geb (l:=l) (i:=k) (by rw [←aA2];exact gl ho);have hzo:z.o=o:=by have:=aAn hz;rw [ho] at this;exact (Gh_ this).symm
  exact ⟨k,z,hk,hz,by rw [hzo];exact he⟩
end
abbrev aYC (Z:Ending->World->Prop):=AtO Tryz.prog (aAf Tryz.f106) (aAo (bodyPost Tryz.prog Tryz.f106 Z)) [] 45
theorem aF5 {w:World}{v:Value}{l:List ObR}(hm:aCq w v l) (hl:l.length<=1000000) (hp:(aAa l).Pairwise fun x y=>blt x.id y.id=true) {b:ObR}(hb:ObIn w b) {S:Ob->Bool}(hrec:∀ (i:Nat) (z:ObR),i<b.o.refs.length->z∈l->z.o.kind=aCo b.o (i:Int)->∀ w1,Fr nF_ w w1->Calls Tryz.prog 106 #[.agg #[v],vA (obL z)] w1 fun e w2=>e = .returned (vB (S z.o)) /\ Fr nF_ w1 w2):Calls Tryz.prog 106 #[.agg #[v],vA (obL b)] w fun e w'=>e = .returned (vB (aDD (aAa l) S b.o)) /\ Fr nF_ w w':=by
  have hm0:=hm;obtain ⟨hs0,hob⟩:=hm0;obtain ⟨p0,cp0,hp0,sp0⟩:=hs0.op;subst hp0;refine beg Tryz.func106 rfl rfl [(0,.agg #[vL p0 l.length cp0]),(1,.agg #[vS b.o.id,vI b.o.kind,vI b.o.x,vI b.o.y,vL b.pr b.o.refs.length b.cr,vL b.pt b.o.tags.length b.ct])] rfl rfl fun Z hZ=>?_;have hM:=Mm.nil nF_ w;refine aAp 0 0 2 [] (cs:=#[vL p0 l.length cp0]) (T:=24) (v:=fun b=>vP b 0) f0 hM fun ab w1 hM=>aAp 0 1 3 [] (cs:=#[vS b.o.id,vI b.o.kind,vI b.o.x,vI b.o.y,vL b.pr b.o.refs.length b.cr,vL b.pt b.o.tags.length b.ct]) (T:=64) (v:=fun b=>vP b 0) f0 hM fun ac w1 hM=>seg 2 0 [(5,vI 0)] f0 ?_
  have ae:∀ (ad:Nat) (i:Nat) (w2:World),i<=b.o.refs.length->(∀ k,k<i->aCr (aAa l) S b.o k=true)->Mm nF_ w w2 [bk ab #[vL p0 l.length cp0] 24,bk ac #[vS b.o.id,vI b.o.kind,vI b.o.x,vI b.o.y,vL b.pr b.o.refs.length b.cr,vL b.pt b.o.tags.length b.ct] 64]->ad=b.o.refs.length-i->aYC Z (some (2,0)) [(5,vI (i:Int)),(3,vP ac 0),(2,vP ab 0)] w2:=by
   refine aA8 fun ad af i w2 hi hg hM ai=>seg 2 5 [(11,vB (decide ((i:Int)<(b.o.refs.length:Int))))] (fc (ldm 28 1 4 hM rfl rfl) f0) ?_;cases h87:(decide ((i:Int)<(b.o.refs.length:Int)))
   ·have ag:=df h87;exact rt1 4 (vB true) rfl f0 (hZ _ _ ⟨by rw [aSK fun k hk=>hg k (by omega)],hM.fr⟩)
   have ag:=dt h87;have s88:=hb.refs;have aj:=s88.bnd;obtain ⟨y,hy,ak,al,q89,ah⟩:=s88.el (i:=i) (by omega);refine seg 4 0 [] f0 (drc [(6,vI (aAm (aAa l) y))] hM (fun w5 hM=>(fc (lam 24 0 0 1 hM rfl) (fc (ldm 28 1 4 hM rfl rfl) (fc (ix 28 b.cr q89 (gl hy)) (fc (ld0 9 hM (ah 0 _ rfl)) (fc (tcl (aIC (hm.fr hM.fr) hl hp y)) f0)))))) fun w5 hM=>seg 5 0 [] f0 ?_);cases h90:(decide ((aAm (aAa l) y)<0))
   rotate_left
   ·refine drc [(44,vB true)] hM (fun w5 hM=>(fc (tv 22 h90) f0)) fun w5 hM=>rt1 4 (vB false) rfl f0 (hZ _ _ ⟨by rw [aTN (gl hy) (aWN hy (dt h90))],hM.fr⟩)
   obtain ⟨k,z0,hk,hz0,-⟩:=aEn (df h90);have hkl:=gl hz0;obtain ⟨z,hz,am,an,q91,aa⟩:=sp0.el (i:=k) (by omega);cases h92:(z.o.kind==(aCo b.o (i:Int)))
   ·refine drc [(44,vB true)] hM (fun w5 hM=>(fc (tv 22 h90) (fc (ldm 22 0 0 hM rfl rfl) (fc (ix 22 cp0 q91 (gl hz) (z:=(aAm (aAa l) y)) (hz:=hk)) (fc (ld0 3 hM (aa 1 _ rfl)) (fc (lam 64 1 0 6 hM rfl) (fc (tcl (aGP b (i:Int))) (fc (tv 33 (b:=(!(z.o.kind==(aCo b.o (i:Int))))) (c:=true) (by rw [h92]<;>rfl)) f0)))))))) fun w5 hM=>rt1 4 (vB false) rfl f0 (hZ _ _ ⟨by rw [aTN (gl hy) (by rw [aTO hy hk hz,h92];rfl)],hM.fr⟩)
   refine drc [(44,vB (!(S z.o)))] hM (fun w5 hM=>(fc (tv 22 h90) (fc (ldm 22 0 0 hM rfl rfl) (fc (ix 22 cp0 q91 (gl hz) (z:=(aAm (aAa l) y)) (hz:=hk)) (fc (ld0 3 hM (aa 1 _ rfl)) (fc (lam 64 1 0 6 hM rfl) (fc (tcl (aGP b (i:Int))) (fc (tv 33 (b:=(!(z.o.kind==(aCo b.o (i:Int))))) (c:=false) (by rw [h92]<;>rfl)) (fc (lam 24 0 0 1 hM rfl) (fc (ldm 22 0 0 hM rfl rfl) (fc (ix 22 cp0 q91 (gl hz) (z:=(aAm (aAa l) y)) (hz:=hk)) (fc (la0 64 hM aa) (fc (tcl (hrec i z (gl hy) (gm hz) (et h92) _ hM.fr)) f0))))))))))))) fun w5 hM=>?_;cases h93:(S z.o)
   ·exact rt1 4 (vB false) rfl f0 (hZ _ _ ⟨by rw [aTN (gl hy) (by rw [aTO hy hk hz,h93,Bool.and_false])],hM.fr⟩)
   refine seg 2 0 [(5,vI ((i:Int)+1))] (fc (aAe (i:Int) 1 u3_) f0) (aAb _ (af _ (by have:=gl hy;omega) (i+1) _ (gl hy) (aWM hg (by rw [aTO hy hk hz,h92,h93];rfl)) hM rfl))
  exact aAb _ (ae _ 0 _ (Gg_ _) (fun k hk=>absurd hk (Nat.not_lt_zero _)) hM rfl)
theorem aKd {o:Ob}(hv:aA6 o=true) (hk:o.kind=1):o.refs.length=0:=by
  unfold aA6 at hv;simp only [Ga_] at hv;have:=hv.2;rw [show (o.kind==1)=true from beq_iff_eq.2 hk,cond_true] at this;simp only [Ga_,beq_iff_eq] at this;omega
def aJJ (l:List Ob):Ob->Bool:=aDD l fun _=>true
def aEv (l:List Ob):Ob->Bool:=aDD l (aJJ l)
theorem aJI {w:World}{v:Value}{l:List ObR}(hm:aCq w v l) (hv:aAc (aAa l)=true) {b:ObR}(hb:b∈l) (hk:¬ b.o.kind=4 /\ ¬ b.o.kind=5):Calls Tryz.prog 106 #[.agg #[v],vA (obL b)] w fun e w2=>e = .returned (vB (aJJ (aAa l) b.o)) /\ Fr nF_ w w2:=by
  have hl:l.length<=1000000:=by
    unfold aAc at hv;simp only [Ga_,decide_eq_true_eq] at hv;have:=hv.2;rw [aA2] at this;omega
  refine aF5 hm hl (aAY hv) (hm.2 b hb) fun i z hi hz he w1 hf=>?_
  have hk1:z.o.kind=1:=by
    rw [he];unfold aCo;rw [show (b.o.kind==4)=false from beq_eq_false_iff_ne.2 hk.1,show (b.o.kind==5)=false from beq_eq_false_iff_ne.2 hk.2];rfl
  have h0:=aKd (aEh hv z.o (List.mem_map.2 ⟨z,hz,rfl⟩)) hk1;have hm1:=hm.fr hf
  exact (aF5 (S:=fun _=>true) hm1 hl (aAY hv) (hm1.2 z hz) fun i _ hi=>absurd hi (by omega)).mono fun e w2 h=>⟨by
    rw [h.1,show aDD (aAa l) (fun _=>true) z.o=true from aSK fun k hk=>absurd hk (by omega)],h.2⟩
theorem aKW {w:World}{v:Value}{l:List ObR}(hm:aCq w v l) (hv:aAc (aAa l)=true) {b:ObR}(hb:b∈l):Calls Tryz.prog 106 #[.agg #[v],vA (obL b)] w fun e w2=>e = .returned (vB (aEv (aAa l) b.o)) /\ Fr nF_ w w2:=by
  have hl:l.length<=1000000:=by
    unfold aAc at hv;simp only [Ga_,decide_eq_true_eq] at hv;have:=hv.2;rw [aA2] at this;omega
  refine aF5 hm hl (aAY hv) (hm.2 b hb) fun i z hi hz he w1 hf=>aJI (hm.fr hf) hv hz ?_
  have:aCo b.o (i:Int)=1∨aCo b.o (i:Int)=2:=by
    unfold aCo;cases (b.o.kind==4)||((b.o.kind==5) && !((i:Int)==1))
    · exact .inl rfl
    · exact .inr rfl
  omega
def ofB (l:List Ob) (k:Int) (b:ObR):Bool:=(b.o.kind==k)&&aEv l b.o
def ofR (os:List ObR) (k:Int) (L:List ObR):List ObR:=L.filter (ofB (aAa os) k)
theorem aIL {os:List ObR}{k:Int}{i:Nat}{y:ObR}(h:os[i]?=some y):ofR os k (os.take (i+1))=ofR os k (os.take i)++bif ofB (aAa os) k y then [y] else []:=by
  rw [gt_ h];unfold ofR;rw [List.filter_append];cases hb:ofB (aAa os) k y<;>simp [hb]
theorem aUp (os:List ObR) (k:Int) (L:List ObR):(ofR os k L).length<=L.length:=List.length_filter_le _ _
abbrev A70 (Z:Ending->World->Prop):=AtO Tryz.prog (aAf Tryz.f70) (aAo (bodyPost Tryz.prog Tryz.f70 Z)) [] 44
theorem aGN {w:World}{v:Value}{os:List ObR}(hmv:aCq w v os) (hol:os.length<=1000000) (hv:aAc (aAa os)=true) (kd:Int):Calls Tryz.prog 70 #[.agg #[v],vI kd] w fun e w'=>∃ v1,e = .returned v1 /\ Mm nF_ w w' [rw_ obL 6 64 v1 (ofR os kd os)]:=by
  have hm0:=hmv;obtain ⟨hs0,hob⟩:=hm0;obtain ⟨p0,cp0,hp0,sp0⟩:=hs0.op;subst hp0;refine beg Tryz.func70 rfl rfl [(0,.agg #[vL p0 os.length cp0]),(1,vI kd)] rfl rfl fun Z hZ=>?_;have hM:=Mm.nil nF_ w;refine aAp 0 0 2 [] (cs:=#[vL p0 os.length cp0]) (T:=24) (v:=fun b=>vP b 0) f0 hM fun aa w1 hM=>?_;have hM:=hM.row (f:=obL) (c:=6) (E:=64);refine seg 3 0 [(5,vL none 0 0),(6,vI 0)] f0 ?_
  have ag:∀ (af:Nat) (i:Nat) (vo:Value) (w2:World),i<=os.length->Mm nF_ w w2 [bk aa #[vL p0 os.length cp0] 24,rw_ obL 6 64 vo (ofR os kd (os.take i))]->af=os.length-i->A70 Z (some (3,0)) [(6,vI (i:Int)),(5,vo),(2,vP aa 0),(1,vI kd)] w2:=by
   refine aA8 fun af ac i vo w2 hi hM aj=>aAq 3 1 8 [(7,.agg #[vL p0 os.length cp0])] (fc (lam 24 0 0 1 hM rfl) f0) hM (aDG (hmv.fr hM.fr)) fun w1 hM=>seg 3 9 [(15,vB (decide ((i:Int)<(os.length:Int))))] (fc (tv 9 hv) (fc (ldm 22 0 0 hM rfl rfl) f0)) ?_;cases h86:(decide ((i:Int)<(os.length:Int)))
   ·have ah:=df h86;exact rt1 4 vo rfl f0 (hZ _ _ ⟨_,rfl,(show ofR os kd (os.take i)=ofR os kd os by rw [Gc_ (by omega)])▸hM.pick (M':=[rw_ obL 6 64 vo (ofR os kd (os.take i))]) [1]⟩)
   have ah:=dt h86;obtain ⟨y,hy,ak,al,q87,ab⟩:=sp0.el (i:=i) (by omega);refine seg 5 0 [] f0 ?_;cases h88:(y.o.kind==kd)
   ·have ai:=ef h88;refine drc [(34,vB false)] hM (fun w5 hM=>(fc (ldm 22 0 0 hM rfl rfl) (fc (ix 22 cp0 q87 (gl hy)) (fc (ld0 3 hM (ab 1 _ rfl)) (fc (tv 25 h88) f0))))) fun w5 hM=>seg 3 0 [(6,vI ((i:Int)+1))] (fc (aAe (i:Int) 1 u3_) f0) ?_;have hM:=hM.pick [0,1];replace hM:Mm nF_ w _ [bk aa #[vL p0 os.length cp0] 24,_]:=hM;obtain ⟨u1,hu1⟩:∃ z,z=vo:=⟨_,rfl⟩;rw [←hu1] at hM;have e1:(ofR os kd (os.take i))=ofR os kd (os.take (i+1)):=by rw [aIL hy];unfold ofB;simp only [h88,Bool.and_true,Bool.true_and,Bool.false_and,Bool.and_false,cond_true,cond_false,List.append_nil]<;>rfl
    rw [e1,hu1] at hM;exact aAb _ (ac _ (by have:=gl hy;omega) (i+1) vo _ (gl hy) hM rfl)
   have ai:=et h88;refine drc [(34,vB (aEv (aAa os) y.o))] hM (fun w5 hM=>(fc (ldm 22 0 0 hM rfl rfl) (fc (ix 22 cp0 q87 (gl hy)) (fc (ld0 3 hM (ab 1 _ rfl)) (fc (tv 25 h88) (fc (lam 24 0 0 1 hM rfl) (fc (ldm 22 0 0 hM rfl rfl) (fc (ix 22 cp0 q87 (gl hy)) (fc (la0 64 hM ab) (fc (tcl (aKW (hmv.fr hM.fr) hv (gm hy))) f0)))))))))) fun w5 hM=>?_;cases h89:(aEv (aAa os) y.o)
   ·refine seg 3 0 [(6,vI ((i:Int)+1))] (fc (aAe (i:Int) 1 u3_) f0) ?_;have hM:=hM.pick [0,1];replace hM:Mm nF_ w _ [bk aa #[vL p0 os.length cp0] 24,_]:=hM;obtain ⟨u1,hu1⟩:∃ z,z=vo:=⟨_,rfl⟩;rw [←hu1] at hM;have e1:(ofR os kd (os.take i))=ofR os kd (os.take (i+1)):=by rw [aIL hy];unfold ofB;simp only [h88,h89,Bool.and_true,Bool.true_and,Bool.false_and,Bool.and_false,cond_true,cond_false,List.append_nil]<;>rfl
    rw [e1,hu1] at hM;exact aAb _ (ac _ (by have:=gl hy;omega) (i+1) vo _ (gl hy) hM rfl)
   refine aAp 6 6 41 [(35,vo),(40,.agg #[vS y.o.id,vI y.o.kind,vI y.o.x,vI y.o.y,vL y.pr y.o.refs.length y.cr,vL y.pt y.o.tags.length y.ct])] (cs:=#[vS y.o.id,vI y.o.kind,vI y.o.x,vI y.o.y,vL y.pr y.o.refs.length y.cr,vL y.pt y.o.tags.length y.ct]) (T:=64) (v:=fun b=>vL (some ⟨b,0,none⟩) 1 1) (fc (ldm 22 0 0 hM rfl rfl) (fc (ix 22 cp0 q87 (gl hy)) (fc (la0 64 hM ab) f0))) hM fun am w1 hM=>aH5 6 7 42 [] (cap:=1) (by decide) obT f0 hM (j:=1) rfl (aAG (f:=obL) (x:=y) (hM.get 2 rfl) (Gq_ _)) (fun h=>by cases h) (by have:=aUp os kd (os.take i);simp only [Gt_,Gf_,Go_] at this ⊢;omega) fun v91 w1 hM=>?_;obtain ⟨ad,ae,e91,-⟩:=(hM.src (j:=1) rfl obT.len).op;subst e91;refine seg 3 0 [(5,vL ad ((ofR os kd (os.take i))++[y]).length ae),(6,vI ((i:Int)+1))] (fc (aAe (i:Int) 1 u3_) f0) ?_;have hM:=hM.pick [0,1];replace hM:Mm nF_ w _ [bk aa #[vL p0 os.length cp0] 24,_]:=hM;obtain ⟨u1,hu1⟩:∃ z,z=vL ad ((ofR os kd (os.take i))++[y]).length ae:=⟨_,rfl⟩;rw [←hu1] at hM;have e1:((ofR os kd (os.take i))++[y])=ofR os kd (os.take (i+1)):=by rw [aIL hy];unfold ofB;simp only [h88,h89,Bool.and_true,Bool.true_and,Bool.false_and,Bool.and_false,cond_true,cond_false,List.append_nil]<;>rfl
   rw [e1,hu1] at hM;exact aAb _ (ac _ (by have:=gl hy;omega) (i+1) (vL ad ((ofR os kd (os.take i))++[y]).length ae) _ (gl hy) hM rfl)
  exact aAb _ (ag _ 0 (vL none 0 0) _ (Gg_ _) hM rfl)
def aMB (id s:Bys):List Ob->Bool
  | []=>false
  | o::l=>bif o.id==id then o.refs.contains s else aMB id s l
abbrev aYA (Z:Ending->World->Prop):=AtO Tryz.prog (aAf Tryz.f114) (aAo (bodyPost Tryz.prog Tryz.f114 Z)) [] 28
theorem aFT {w:World}{v:Value}{l:List ObR}(hm:aCq w v l) (id s:Bys):Calls Tryz.prog 114 #[v,vS id,vS s] w fun e w'=>e = .returned (vB (aMB id s (aAa l))) /\ Fr nF_ w w':=by
  have hm0:=hm;obtain ⟨hs0,hob⟩:=hm0;obtain ⟨p0,cp0,hp0,sp0⟩:=hs0.op;subst hp0;have bp0:=sp0.bnd;refine beg Tryz.func114 rfl rfl [(0,vL p0 l.length cp0),(1,vS id),(2,vS s)] rfl rfl fun Z hZ=>?_;have hM:=Mm.nil nF_ w;refine seg 2 0 [(7,vI 0)] f0 ?_
  have ac:∀ (aa:Nat) (i:Nat) (w2:World),i<=l.length->aMB id s (aAa l)=aMB id s ((aAa l).drop i)->Mm nF_ w w2 []->aa=l.length-i->aYA Z (some (2,0)) [(7,vI (i:Int)),(0,vL p0 l.length cp0),(1,vS id),(2,vS s)] w2:=by
   refine aA8 fun aa ad i w2 hi hv hM af=>seg 2 4 [(11,vB (decide ((i:Int)<(l.length:Int))))] f0 ?_;cases h95:(decide ((i:Int)<(l.length:Int)))
   ·have ae:=df h95;exact rt1 6 (vB false) rfl f0 (hZ _ _ ⟨by rw [hv,Gi_ (by rw [aA2];omega)];rfl,hM.fr⟩)
   have ae:=dt h95;obtain ⟨y,hy,ag,ah,q96,ab⟩:=sp0.el (i:=i) (by omega);refine seg 4 7 [(20,vB (y.o.id==id))] (fc (ix 22 cp0 q96 (gl hy)) (fc (ld0 9 hM (ab 0 _ rfl)) (fc (seq 9 y.o.id id) f0))) ?_;cases h97:(y.o.id==id)
   ·refine seg 2 0 [(7,vI ((i:Int)+1))] (fc (aAe (i:Int) 1 u3_) f0) (aAb _ (ad _ (by have:=gl hy;omega) (i+1) _ (gl hy) (by rw [hv,gd (aAn hy),aMB,h97];rfl) hM rfl))
   refine aAq 5 6 27 [(25,vL y.pr y.o.refs.length y.cr),(26,vS s)] (fc (ix 22 cp0 q96 (gl hy)) (fc (ld0 28 hM (ab 4 _ rfl)) f0)) hM (aPe ((hob _ (gm hy)).refs.src.fr hM.fr) s) fun w1 hM=>rt1 6 (vB (y.o.refs.contains s)) rfl f0 (hZ _ _ ⟨by rw [hv,gd (aAn hy),aMB,h97];rfl,hM.fr⟩)
  exact aAb _ (ac _ 0 _ (Gg_ _) rfl hM rfl)
end Go.Proofs.YtbflfefahheidaaGreatDoor
namespace Go.Pl
open Go.RowKit
section
variable {P:Program}{w w0:World}{rd:Option Nat}{B:Code}{r n:Nat}{L:Frm}{ef:List Nat}{V:Lts->List (Option Value)}{F:Lts->List Ft}{ds:List Deferred}{F0:Nat->Prop}{Mf:Lts->List Bool->List Ent}
theorem aQ6 (p i j d:Nat) {f:FuncId}(args:Lts->Array Value) (e:Ent) (e':Value->Ent)
  (hc:∀ (γ:Lts) fr wm,Mm F0 w0 wm (Mf γ (flg B r ef i fr))->Mm (BlM [e]) wm wm [e]->Calls P f (args γ) wm fun x w'=>∃ u,x = .returned u /\ Mm (BlM [e]) wm w' [e' u])
  (hj:∀ γ fr,(Mf γ (flg B r ef i fr))[j]?=some e:=by intro γ fr;kernel_rfl)
  (hm:∀ γ fr u,(Mf γ (flg B r ef i fr)).set j (e' u)=Mf (aDy γ p u) ((flg B r ef i fr).set p true):=by intro γ fr u;kernel_rfl)
  (hV:∀ γ u,((V (aDy γ p u))[p]?).getD none=some u:=by intro γ u;rfl)
  (hs:∀ γ wm,enL P wm (aAH B r) i (frX P w n B r L ef V F i γ)=some (f,args γ,some d,wm):=by intro γ wm;kernel_rfl):Arm rd P w n B r L ef V F ds F0 w0 Mf p i:=by
 intro γ fr a wm Q o ho En hw hM;obtain ⟨h1,h2⟩:=aUF ho En (hs γ wm);have h1M:Mm (BlM [e]) wm wm [e]:=⟨Fr.refl _ _,fun x hx=>by rw [Gd_] at hx;subst hx;exact hM.get j (hj γ fr),fun x hx k hk _=>⟨x,hx,hk⟩,List.pairwise_singleton _ _⟩;refine aG5 (R:=fun u w'=>Mm (BlM [e]) wm w' [e' u]) h1 (hc γ fr wm hM h1M) fun u w' g=>?_
 have hB:∀ k,BlM [e] k->e.B k:=fun k hk=>by
  obtain ⟨x,hx,hk⟩:=hk;rw [Gd_] at hx;subst hx;exact hk
 have hM':=hM.put (w':=w') j (hj γ fr) g.fr (fun k _ h=>hB k h) (g.get 0 rfl) (fun k hk=>by
  by_cases hlt:k<wm.heap.size
  ·exact .inl (hB k (g.own _ (.head _) k hk hlt))
  ·exact .inr (by omega))
 rw [hm] at hM';exact ⟨u,γ.e p,by rw [aA9,hV,h2];rfl,by rw [aA9];exact hM'⟩
theorem Mm.above {w1:World}{M:List Ent}(h:Mm nF_ w w1 M) {j:Nat}{e:Ent}(hj:M[j]?=some e):∀ k,BlM [e] k->w.heap.size<=k:=fun k ⟨x,hx,hk⟩=>by
 rw [Gd_] at hx;subst hx
 by_cases hlt:k<w.heap.size
 ·exact (h.own _ (Ge_ hj) k hk hlt).elim
 ·omega
end
end Go.Pl
namespace Go.Proofs.YtbflfefahheidaaGreatDoor
open Go.RowKit Go.Pl
theorem aIM {os:List ObR}{k:Int}{y:ObR}(h:y∈ofR os k os):y∈os /\ y.o.kind=k /\ aEv (aAa os) y.o=true:=by
  unfold ofR at h;obtain ⟨h1,h2⟩:=List.mem_filter.1 h;unfold ofB at h2;rw [Ga_] at h2;exact ⟨h1,et h2.1,h2.2⟩
theorem aHS {l:List Ob}{S:Ob->Bool}{o:Ob}(h:aDD l S o=true) {i:Nat}{s:Bys}(hs:o.refs[i]?=some s):¬ aAm l s<0:=by
  unfold aDD at h;have:=List.all_eq_true.1 h i (List.mem_range.2 (gl hs));unfold aCr at this;rw [hs] at this;simp only [Ga_,Bool.not_eq_true',decide_eq_false_iff_not] at this;exact this.1
def aVe (l:List Ob) (id:Bys):Pt:=match l[(aAm l id).toNat]? with
  | some o=>(o.x,o.y)
  | none=>(0,0)
def aWt (l:List Ob) (f t:Bys):Int:=max 1 (aB6 (aAP (aVe l f) (aVe l t)))
def aDV (f t wy:Bys) (a:Arc):Bool:=(a.1==f)&&((a.2.1==t)&&(a.2.2.1==wy))
def aEM (l:List Ob) (A:List Arc) (f t wy:Bys):List Arc:=bif A.any (aDV f t wy) then A else A++[(f,t,wy,aWt l f t)]
theorem aCK {α:Type}{p:α->Bool}{l:List α}{i:Nat}{y:α}(hy:l[i]?=some y):(l.drop i).any p=(p y||(l.drop (i+1)).any p):=by rw [gd hy,List.any_cons]
theorem aPk {l:List ObR}{id:Bys}{k:Nat}{z:ObR}(hk:aAm (aAa l) id=(k:Int)) (hz:l[k]?=some z):aVe (aAa l) id=(z.o.x,z.o.y):=by
  unfold aVe;rw [hk,show ((k:Int)).toNat=k by omega,aAn hz]
theorem aUJ (a b:Pt):aAP a b<=9223372036854775807:=by
  cases ha:aBt a with
  | false=>unfold aAP;rw [ha];show (0:Int)<=9223372036854775807;decide
  | true =>
    cases hb:aBt b with
    | false=>unfold aAP;rw [ha,hb];show (0:Int)<=9223372036854775807;decide
    | true =>
      rw [aKu a b ha hb];have na:=aCd ha;have nb:=aCd hb;obtain ⟨s0,s1⟩:=aFQ (x:=a.1-b.1) (by omega) (by omega);obtain ⟨s2,s3⟩:=aFQ (x:=a.2-b.2) (by omega) (by omega);omega
theorem aCq.b {wS w:World}{G:Nat->Prop}{v:Value}{os:List ObR}(h:aCq wS v os) (hf:Fr nF_ wS w) (hG:∀ k,G k->wS.heap.size<=k) {w':World}(f:Fr G w w'):aCq w' v os :=
  h.fr (hf.trans' f fun r hr hg=>by have:=hG r hg;omega)
abbrev A71 (Z:Ending->World->Prop):=AtO Tryz.prog (aAf Tryz.f71) (aAo (bodyPost Tryz.prog Tryz.f71 Z)) [] 76
theorem aHX {wS w:World}{G:Nat->Prop}{v vr:Value}{os:List ObR}{A:List Arc}(hmv:aCq wS v os) (hf:Fr nF_ wS w) (hG:∀ k,G k->wS.heap.size<=k) (hM0:Mm G w w [rw_ arL 4 47 vr A]) (hl:A.length<1000000) {f t:Bys}(hfi:¬ aAm (aAa os) f<0) (hti:¬ aAm (aAa os) t<0) (wy:Bys):Calls Tryz.prog 71 #[vr,.agg #[v],vS f,vS t,vS wy] w fun e w'=>∃ u,e = .returned u /\ Mm G w w' [rw_ arL 4 47 u (aEM (aAa os) A f t wy)]:=by
  obtain ⟨p0,c0,e0,s0⟩:=hmv.1.op;subst e0;have sb:=s0.b hf;obtain ⟨q,cq,eq9,sq9⟩:=(hM0.src (j:=0) rfl arT.len).op;subst eq9;refine beg Tryz.func71 rfl rfl [(0,vL q A.length cq),(1,.agg #[vL p0 os.length c0]),(2,vS f),(3,vS t),(4,vS wy)] rfl rfl fun Y hY=>?_;have hM:=hM0;refine aAp 0 0 6 [] (cs:=#[vL p0 os.length c0]) (T:=24) (v:=fun b=>vP b 0) f0 hM fun aa w1 hM=>seg 2 0 [(11,vI 0)] f0 ?_
  have al:∀ (ag:Nat) (i:Nat) (w2:World),i<=A.length->A.any (aDV f t wy)=(A.drop i).any (aDV f t wy)->Mm G w w2 [rw_ arL 4 47 (vL q A.length cq) A,bk aa #[vL p0 os.length c0] 24]->ag=A.length-i->A71 Y (some (2,0)) [(11,vI (i:Int)),(6,vP aa 0),(0,vL q A.length cq),(2,vS f),(3,vS t),(4,vS wy)] w2:=by
   refine aA8 fun ag ad i w2 hi hv hM av=>seg 2 4 [(18,vB (decide ((i:Int)<(A.length:Int))))] f0 ?_;cases ah:(decide ((i:Int)<(A.length:Int)))
   rotate_left
   ·have am:=dt ah;obtain ⟨y,hy⟩:=geb (l:=A) (i:=i) (by omega);obtain ⟨aw,ab,-⟩:=hM.el arT (j:=0) rfl hy;refine seg 4 8 [(28,vB (y.1==f))] (fc (ix 75 cq ab (gl hy)) (fc (ldr 9 0 0 arT hM rfl ab hy rfl) (fc (seq 9 y.1 f) f0))) ?_;cases ac:(y.1==f)
    ·refine seg 2 0 [(11,vI ((i:Int)+1))] (fc (aAe (i:Int) 1 u3_) f0) (aAb _ (ad _ (by have:=gl hy;omega) (i+1) _ (gl hy) (by rw [hv,aCK hy,show aDV f t wy y=false by unfold aDV;simp only [ac]<;>rfl];rfl) hM rfl))
    refine seg 4 17 [(37,vB (y.2.1==t))] (fc (ix 75 cq ab (gl hy)) (fc (ldr 9 0 1 arT hM rfl ab hy rfl) (fc (seq 9 y.2.1 t) f0))) ?_;cases ae:(y.2.1==t)
    ·refine seg 2 0 [(11,vI ((i:Int)+1))] (fc (aAe (i:Int) 1 u3_) f0) (aAb _ (ad _ (by have:=gl hy;omega) (i+1) _ (gl hy) (by rw [hv,aCK hy,show aDV f t wy y=false by unfold aDV;simp only [ac,ae]<;>rfl];rfl) hM rfl))
    refine seg 4 25 [(45,vB (y.2.2.1==wy))] (fc (ix 75 cq ab (gl hy)) (fc (ldr 9 0 2 arT hM rfl ab hy rfl) (fc (seq 9 y.2.2.1 wy) f0))) ?_;cases ai:(y.2.2.1==wy)
    ·refine seg 2 0 [(11,vI ((i:Int)+1))] (fc (aAe (i:Int) 1 u3_) f0) (aAb _ (ad _ (by have:=gl hy;omega) (i+1) _ (gl hy) (by rw [hv,aCK hy,show aDV f t wy y=false by unfold aDV;simp only [ac,ae,ai]<;>rfl];rfl) hM rfl))
    have eA:aEM (aAa os) A f t wy=A:=by unfold aEM;rw [show A.any (aDV f t wy)=true by rw [hv,aCK hy,show aDV f t wy y=true by unfold aDV;simp only [ac,ae,ai]<;>rfl];rfl];rfl
    exact rt1 10 (vL q A.length cq) rfl f0 (hY _ _ ⟨_,rfl,(by rw [eA];exact hM.pick (M':=[rw_ arL 4 47 (vL q A.length cq) A]) [0])⟩)
   have am:=df ah;have hno:A.any (aDV f t wy)=false:=by rw [hv,Gi_ (by omega)];rfl
   obtain ⟨kf,zf0,hkf,hzf0,-⟩:=aEn hfi;have hkfl:=gl hzf0;obtain ⟨kt,zt0,hkt,hzt0,-⟩:=aEn hti;have hktl:=gl hzt0;obtain ⟨zf,hzf,ax,ay,an,ao,n164⟩:=sb.eb hG (i:=kf) (by omega);obtain ⟨zt,hzt,az,a0,ap,aq,n165⟩:=sb.eb hG (i:=kt) (by omega);refine seg 6 0 [] f0 ?_;have hM:=hM.nl;refine drx [4,8,9] (fun Z=>[some (vI (aAm (aAa os) f)),some (vP (bn (Z 1)) 0),none]) _ (fun Z l=>[rw_ arL 4 47 (vL q A.length cq) A,bk aa #[vL p0 os.length c0] 24,(bif l.getD 2 false then bk (bn (Z 1)) #[vI zf.o.x,vI zf.o.y] 61 else (bif l.getD 1 false then bk (bn (Z 1)) #[vI 0,vI 0] 61 else aJz))]) (fun Z=>[(12,vP (bn (Z 1)) 0)]) hM (fun Z=>rfl) (fun Z l w5 hM=>(fc (ldm 22 1 0 hM rfl rfl) (fc (lam 24 1 0 1 hM rfl) (fc (ix 22 c0 an (gl hzf) (z:=(aAm (aAa os) f)) (hz:=hkf)) (fc (la0 61 hM (rs ao 2 2) n164) f0))))) ⟨aFO 0 4 51 (f:=69) (fun Z=>#[.agg #[vL p0 os.length c0],vS f]) (vI (aAm (aAa os) f)) (fun Z fr wm hM=>(aC2 (hmv.b hf hG hM.fr) f)),aCJ 1 8 2 12 (fun Z=>#[vI 0,vI 0]) 61 (fun b=>vP b 0),aB8 2 9 61 2 0 (fun Z=>(bn (Z 1))) (fun Z l=>#[vI 0,vI 0]) 61 (fun Z => .agg #[vI zf.o.x,vI zf.o.y]),trivial⟩ fun af w1 hM=>?_;replace hM:Mm G w w1 [_,bk aa #[vL p0 os.length c0] 24,bk (bn (af 1)) #[vI zf.o.x,vI zf.o.y] 61]:=hM;refine seg 7 0 [] f0 ?_;have hM:=hM.nl;refine drx [4,8,9] (fun Z=>[some (vI (aAm (aAa os) t)),some (vP (bn (Z 1)) 0),none]) _ (fun Z l=>[rw_ arL 4 47 (vL q A.length cq) A,bk aa #[vL p0 os.length c0] 24,bk (bn (af 1)) #[vI zf.o.x,vI zf.o.y] 61,(bif l.getD 2 false then bk (bn (Z 1)) #[vI zt.o.x,vI zt.o.y] 61 else (bif l.getD 1 false then bk (bn (Z 1)) #[vI 0,vI 0] 61 else aJz))]) (fun Z=>[(13,vP (bn (Z 1)) 0)]) hM (fun Z=>rfl) (fun Z l w5 hM=>(fc (ldm 22 1 0 hM rfl rfl) (fc (lam 24 1 0 1 hM rfl) (fc (ix 22 c0 ap (gl hzt) (z:=(aAm (aAa os) t)) (hz:=hkt)) (fc (la0 61 hM (rs aq 2 2) n165) f0))))) ⟨aFO 0 4 59 (f:=69) (fun Z=>#[.agg #[vL p0 os.length c0],vS t]) (vI (aAm (aAa os) t)) (fun Z fr wm hM=>(aC2 (hmv.b hf hG hM.fr) t)),aCJ 1 8 3 13 (fun Z=>#[vI 0,vI 0]) 61 (fun b=>vP b 0),aB8 2 9 61 3 0 (fun Z=>(bn (Z 1))) (fun Z l=>#[vI 0,vI 0]) 61 (fun Z => .agg #[vI zt.o.x,vI zt.o.y]),trivial⟩ fun ar w1 hM=>?_;replace hM:Mm G w w1 [_,bk aa #[vL p0 os.length c0] 24,bk (bn (af 1)) #[vI zf.o.x,vI zf.o.y] 61,bk (bn (ar 1)) #[vI zt.o.x,vI zt.o.y] 61]:=hM;refine aAq 8 2 65 [(63,.agg #[vI zf.o.x,vI zf.o.y]),(64,.agg #[vI zt.o.x,vI zt.o.y])] (fc (lam 61 2 0 2 hM rfl) (fc (lam 61 3 0 2 hM rfl) f0)) hM (aLj (zf.o.x,zf.o.y) (zt.o.x,zt.o.y)) fun w1 hM=>aAq 8 3 66 [] f0 hM (aLd (aAP (zf.o.x,zf.o.y) (zt.o.x,zt.o.y)) (aUJ _ _)) fun w1 hM=>aAp 9 7 74 [(67,vL q A.length cq),(73,.agg #[vS f,vS t,vS wy,vI (max 1 (aB6 (aAP (zf.o.x,zf.o.y) (zt.o.x,zt.o.y))))])] (cs:=#[vS f,vS t,vS wy,vI (max 1 (aB6 (aAP (zf.o.x,zf.o.y) (zt.o.x,zt.o.y))))]) (T:=47) (v:=fun b=>vL (some ⟨b,0,none⟩) 1 1) (fc (aVc 3 1 (aB6 (aAP (zf.o.x,zf.o.y) (zt.o.x,zt.o.y)))) f0) hM fun a1 w1 hM=>aH5 9 8 75 [] (cap:=1) (by decide) arT f0 hM (j:=0) rfl (aAG (f:=arL) (x:=(f,t,wy,(max 1 (aB6 (aAP (zf.o.x,zf.o.y) (zt.o.x,zt.o.y)))))) (hM.get 4 rfl) (Gq_ _)) (fun h=>by cases h) (by simp only [Gf_,Go_];omega) fun a2 w1 hM=>?_;obtain ⟨aj,ak,au,-⟩:=(hM.src (j:=0) rfl arT.len).op;subst au;have eA:(A++[(f,t,wy,(max 1 (aB6 (aAP (zf.o.x,zf.o.y) (zt.o.x,zt.o.y)))))])=aEM (aAa os) A f t wy:=by unfold aEM aWt;rw [hno,aPk hkf hzf,aPk hkt hzt];rfl
   exact rt1 10 (vL aj (A++[(f,t,wy,(max 1 (aB6 (aAP (zf.o.x,zf.o.y) (zt.o.x,zt.o.y)))))]).length ak) rfl f0 (hY _ _ ⟨_,rfl,eA▸hM.pick (M':=[rw_ arL 4 47 (vL aj (A++[(f,t,wy,(max 1 (aB6 (aAP (zf.o.x,zf.o.y) (zt.o.x,zt.o.y)))))]).length ak) (A++[(f,t,wy,(max 1 (aB6 (aAP (zf.o.x,zf.o.y) (zt.o.x,zt.o.y)))))])]) [0]⟩)
  exact aAb _ (al _ 0 _ (Gg_ _) rfl hM rfl)
theorem aQU {o:Ob}(hv:aA6 o=true) (hk:o.kind=5):o.refs.length=3:=by
  unfold aA6 at hv;simp only [Ga_] at hv;have:=hv.2;rw [hk] at this;simp only [show ((5:Int)==1)=false from rfl,show ((5:Int)==5)=true from rfl,cond_false,cond_true,Ga_,beq_iff_eq] at this;omega
def aDb (f n t:Bys) (o:Ob):Bool:=(o.refs.getD 0 []==f)&&((o.refs.getD 1 []==n)&&(o.refs.getD 2 []==t))
def aGc (os:List ObR) (f n t:Bys):Bool:=aMB f n (aAa (ofR os 2 os))&&(aMB t n (aAa (ofR os 2 os)) && !((aAa (ofR os 5 os)).any (aDb f n t)))
theorem gd9 {l:List Bys}{i:Nat}{y:Bys}(h:l[i]?=some y):l.getD i []=y:=by rw [List.getD_eq_getElem?_getD,h];rfl
abbrev A79 (Z:Ending->World->Prop):=AtO Tryz.prog (aAf Tryz.f79) (aAo (bodyPost Tryz.prog Tryz.f79 Z)) [] 65
theorem aHE {w:World}{v:Value}{os:List ObR}(hmv:aCq w v os) (hol:os.length<=1000000) (hv:aAc (aAa os)=true) (f n t:Bys):Calls Tryz.prog 79 #[.agg #[v],vS f,vS n,vS t] w fun e w'=>e = .returned (vB (aGc os f n t)) /\ Fr nF_ w w':=by
  have hm0:=hmv;obtain ⟨hs0,hob⟩:=hm0;obtain ⟨p0,cp0,hp0,sp0⟩:=hs0.op;subst hp0;refine beg Tryz.func79 rfl rfl [(0,.agg #[vL p0 os.length cp0]),(1,vS f),(2,vS n),(3,vS t)] rfl rfl fun Z hZ=>?_;have hM:=Mm.nil nF_ w;refine aAp 0 0 4 [] (cs:=#[vL p0 os.length cp0]) (T:=24) (v:=fun b=>vP b 0) f0 hM fun ad w1 hM=>aAM 1 1 13 [(12,.agg #[vL p0 os.length cp0])] (K:=fun u Mn=>∃ v1,u=v1 /\ Mn=[rw_ obL 6 64 v1 (ofR os 2 os)]) [0] [] (fc (lam 24 0 0 1 hM rfl) f0) hM rfl rfl (by decide) (fun hm=>((aGN (hmv.fr hM.fr) hol hv 2).mono fun e w8 ⟨v1,h1,h2⟩=>⟨_,_,h1,⟨v1,rfl,rfl⟩,aCy h2 fun _ h=>h.elim⟩)) fun u Mn w1 hK hM=>?_;obtain ⟨v1,rfl,rfl⟩:=hK;obtain ⟨qb2,cb2,eb2,sb2⟩:=(hM.src (j:=1) rfl obT.len).op;subst eb2;replace hM:Mm nF_ w w1 [bk ad #[vL p0 os.length cp0] 24,_]:=hM;refine aAq 2 3 17 [(9,vL qb2 (ofR os 2 os).length cb2),(14,vL qb2 (ofR os 2 os).length cb2),(15,vS f),(16,vS n)] f0 hM (aFT ⟨hM.src (j:=1) rfl obT.len,fun b hb=>(hob b (aIM hb).1).fr hM.fr⟩ f n) fun w1 hM=>seg 2 6 [(19,vB (!(aMB f n (aAa (ofR os 2 os)))))] f0 ?_;cases ab:(aMB f n (aAa (ofR os 2 os)))
  ·exact rt1 8 (vB false) rfl f0 (hZ _ _ ⟨by unfold aGc;simp only [ab]<;>rfl,hM.fr⟩)
  refine aAq 2 9 23 [(20,vL qb2 (ofR os 2 os).length cb2),(21,vS t),(22,vS n)] f0 hM (aFT ⟨hM.src (j:=1) rfl obT.len,fun b hb=>(hob b (aIM hb).1).fr hM.fr⟩ t n) fun w1 hM=>seg 2 12 [(25,vB (!(aMB t n (aAa (ofR os 2 os)))))] f0 ?_;cases ae:(aMB t n (aAa (ofR os 2 os)))
  ·exact rt1 8 (vB false) rfl f0 (hZ _ _ ⟨by unfold aGc;simp only [ab,ae]<;>rfl,hM.fr⟩)
  refine aAM 4 1 27 [(26,.agg #[vL p0 os.length cp0])] (K:=fun u Mn=>∃ v1,u=v1 /\ Mn=[rw_ obL 6 64 v1 (ofR os 5 os)]) [0,1] [] (fc (lam 24 0 0 1 hM rfl) f0) hM rfl rfl (by decide) (fun hm=>((aGN (hmv.fr hM.fr) hol hv 5).mono fun e w8 ⟨v1,h1,h2⟩=>⟨_,_,h1,⟨v1,rfl,rfl⟩,aCy h2 fun _ h=>h.elim⟩)) fun u Mn w1 hK hM=>?_;obtain ⟨v1,rfl,rfl⟩:=hK;obtain ⟨qb5,cb5,eb5,sb5⟩:=(hM.src (j:=2) rfl obT.len).op;subst eb5;have bb5:=sb5.bnd;replace hM:Mm nF_ w w1 [bk ad #[vL p0 os.length cp0] 24,_,_]:=hM;refine seg 6 0 [(10,vL qb5 (ofR os 5 os).length cb5),(11,vI 0)] f0 ?_
  have al:∀ (ai:Nat) (i:Nat) (w2:World),i<=(ofR os 5 os).length->(aAa (ofR os 5 os)).any (aDb f n t)=((aAa (ofR os 5 os)).drop i).any (aDb f n t)->Mm nF_ w w2 [bk ad #[vL p0 os.length cp0] 24,rw_ obL 6 64 (vL qb2 (ofR os 2 os).length cb2) (ofR os 2 os),rw_ obL 6 64 (vL qb5 (ofR os 5 os).length cb5) (ofR os 5 os)]->ai=(ofR os 5 os).length-i->A79 Z (some (6,0)) [(11,vI (i:Int)),(10,vL qb5 (ofR os 5 os).length cb5),(1,vS f),(2,vS n),(3,vS t)] w2:=by
   refine aA8 fun ai af i w2 hi hg hM av=>seg 6 4 [(31,vB (decide ((i:Int)<((ofR os 5 os).length:Int))))] f0 ?_;cases aj:(decide ((i:Int)<((ofR os 5 os).length:Int)))
   ·have am:=df aj;exact rt1 8 (vB true) rfl f0 (hZ _ _ ⟨by unfold aGc;rw [ab,ae,hg,Gi_ (by rw [aA2];omega)];rfl,hM.fr⟩)
   have am:=dt aj;obtain ⟨y,hy⟩:=geb (l:=(ofR os 5 os)) (i:=i) (by omega);obtain ⟨hy1,hy2,hy3⟩:=aIM (gm hy);have hyo:=hob y hy1;have hl3:=aQU (aEh hv y.o (List.mem_map.2 ⟨y,hy1,rfl⟩)) hy2;have ag:=hyo.refs;obtain ⟨r0,hr0,aw,ax,an,ao⟩:=ag.el (i:=0) (by omega);obtain ⟨r1,hr1,ay,az,ap,aq⟩:=ag.el (i:=1) (by omega);obtain ⟨r2,hr2,a0,a1,ar,au⟩:=ag.el (i:=2) (by omega);obtain ⟨a2,aa,-⟩:=hM.el obT (j:=2) rfl hy;refine seg 8 10 [(43,vB (r0==f))] (fc (ix 22 cb5 aa (gl hy)) (fc (ldr 28 2 4 obT hM rfl aa hy rfl) (fc (ix 28 y.cr an (gl hr0)) (fc (ld0 9 hM (ao 0 _ rfl)) (fc (seq 9 r0 f) f0))))) ?_;cases ac:(r0==f)
   ·refine seg 6 0 [(11,vI ((i:Int)+1))] (fc (aAe (i:Int) 1 u3_) f0) (aAb _ (af _ (by have:=gl hy;omega) (i+1) _ (gl hy) (by rw [hg,aCK (aAn hy),show aDb f n t y.o=false by unfold aDb;rw [gd9 hr0,gd9 hr1,gd9 hr2];simp only [ac]<;>rfl];rfl) hM rfl))
   refine seg 8 21 [(54,vB (r1==n))] (fc (ix 22 cb5 aa (gl hy)) (fc (ldr 28 2 4 obT hM rfl aa hy rfl) (fc (ix 28 y.cr ap (gl hr1)) (fc (ld0 9 hM (aq 0 _ rfl)) (fc (seq 9 r1 n) f0))))) ?_;cases ah:(r1==n)
   ·refine seg 6 0 [(11,vI ((i:Int)+1))] (fc (aAe (i:Int) 1 u3_) f0) (aAb _ (af _ (by have:=gl hy;omega) (i+1) _ (gl hy) (by rw [hg,aCK (aAn hy),show aDb f n t y.o=false by unfold aDb;rw [gd9 hr0,gd9 hr1,gd9 hr2];simp only [ac,ah]<;>rfl];rfl) hM rfl))
   refine seg 8 31 [(64,vB (r2==t))] (fc (ix 22 cb5 aa (gl hy)) (fc (ldr 28 2 4 obT hM rfl aa hy rfl) (fc (ix 28 y.cr ar (gl hr2)) (fc (ld0 9 hM (au 0 _ rfl)) (fc (seq 9 r2 t) f0))))) ?_;cases ak:(r2==t)
   ·refine seg 6 0 [(11,vI ((i:Int)+1))] (fc (aAe (i:Int) 1 u3_) f0) (aAb _ (af _ (by have:=gl hy;omega) (i+1) _ (gl hy) (by rw [hg,aCK (aAn hy),show aDb f n t y.o=false by unfold aDb;rw [gd9 hr0,gd9 hr1,gd9 hr2];simp only [ac,ah,ak]<;>rfl];rfl) hM rfl))
   exact rt1 8 (vB false) rfl f0 (hZ _ _ ⟨by unfold aGc;rw [ab,ae,hg,aCK (aAn hy),show aDb f n t y.o=true by unfold aDb;rw [gd9 hr0,gd9 hr1,gd9 hr2];simp only [ac,ah,ak]<;>rfl];rfl,hM.fr⟩)
  exact aAb _ (al _ 0 _ (Gg_ _) rfl hM rfl)
def aEQ (os:List ObR) (prof:Bys) (a b:Arc):Bool:=(a.2.1==b.1)&&((prof==aFo)||aGc os a.2.2.1 a.2.1 b.2.2.1)
theorem aLb {w:World}{v:Value}{os:List ObR}(hmv:aCq w v os) (hol:os.length<=1000000) (hv:aAc (aAa os)=true) (prof:Bys) (a b:Arc):Calls Tryz.prog 48 #[.agg #[v],vS prof,aJr a,aJr b] w fun e w'=>e = .returned (vB (aEQ os prof a b)) /\ Fr nF_ w w':=by
  have hm0:=hmv;obtain ⟨hs0,hob⟩:=hm0;obtain ⟨p0,cp0,hp0,sp0⟩:=hs0.op;subst hp0;refine beg Tryz.func48 rfl rfl [(0,.agg #[vL p0 os.length cp0]),(1,vS prof),(2,.agg #[vS a.1,vS a.2.1,vS a.2.2.1,vI a.2.2.2]),(3,.agg #[vS b.1,vS b.2.1,vS b.2.2.1,vI b.2.2.2])] rfl rfl fun Z hZ=>?_;have hM:=Mm.nil nF_ w;refine aAp 0 0 4 [] (cs:=#[vL p0 os.length cp0]) (T:=24) (v:=fun b=>vP b 0) f0 hM fun ac w1 hM=>aAp 0 1 6 [] (cs:=#[vS a.1,vS a.2.1,vS a.2.2.1,vI a.2.2.2]) (T:=47) (v:=fun b=>vP b 0) f0 hM fun ad w1 hM=>aAp 0 2 7 [] (cs:=#[vS b.1,vS b.2.1,vS b.2.2.1,vI b.2.2.2]) (T:=47) (v:=fun b=>vP b 0) f0 hM fun ae w1 hM=>seg 1 6 [(14,vB (a.2.1==b.1))] (fc (ldm 9 1 1 hM rfl rfl) (fc (ldm 9 2 0 hM rfl rfl) (fc (seq 9 a.2.1 b.1) f0))) ?_;cases aa:(a.2.1==b.1)
  ·exact rt1 8 (vB false) rfl f0 (hZ _ _ ⟨by unfold aEQ aFo;simp only [aa]<;>rfl,hM.fr⟩)
  refine seg 1 9 [(17,vB (prof==[102,111,111,116]))] (fc (seq 9 prof [102,111,111,116]) f0) ?_;cases ab:(prof==[102,111,111,116])
  ·refine aAq 1 16 25 [(18,.agg #[vL p0 os.length cp0]),(20,vS a.2.2.1),(22,vS a.2.1),(24,vS b.2.2.1)] (fc (lam 24 0 0 1 hM rfl) (fc (ldm 9 1 2 hM rfl rfl) (fc (ldm 9 1 1 hM rfl rfl) (fc (ldm 9 2 2 hM rfl rfl) f0)))) hM (aHE (hmv.fr hM.fr) hol hv a.2.2.1 a.2.1 b.2.2.1) fun w1 hM=>rt1 8 (vB (aGc os a.2.2.1 a.2.1 b.2.2.1)) rfl f0 (hZ _ _ ⟨by unfold aEQ aFo;simp only [aa,ab]<;>rfl,hM.fr⟩)
  exact rt1 8 (vB true) rfl f0 (hZ _ _ ⟨by unfold aEQ aFo;simp only [aa,ab]<;>rfl,hM.fr⟩)
theorem aS8 {k:Int}{y:Sp}{L:Bool}(h1:k<y.1) (h2:y.1<y.2) (h3:y.2<=10080):(decide (k<y.1)&&decide (y.1<y.2)&&decide (y.2<=10080)&&L)=L:=by
  rw [decide_eq_true h1,decide_eq_true h2,decide_eq_true h3];rfl
theorem aLT {k:Int}{y:Sp}{L:Bool}(h:¬ k<y.1∨¬ y.1<y.2∨¬ y.2<=10080):(decide (k<y.1)&&decide (y.1<y.2)&&decide (y.2<=10080)&&L)=false:=by
  rcases h with h | h | h
  · rw [decide_eq_false h];rfl
  · rw [decide_eq_false h];simp
  · rw [decide_eq_false h];simp
abbrev A85 (Z:Ending->World->Prop):=AtO Tryz.prog (aAf Tryz.f85) (aAo (bodyPost Tryz.prog Tryz.f85 Z)) [] 55
theorem aIB {w:World}{v:Value}{l:List Sp}(hl:SpV w v l):Calls Tryz.prog 85 #[v] w fun e w'=>e = .returned (vB (vl (-1) l)) /\ Fr nF_ w w':=by
  obtain ⟨p0,cp0,hp0,sp0⟩:=hl.op;subst hp0;have bp0:=sp0.bnd;refine beg Tryz.func85 rfl rfl [(0,vL p0 l.length cp0)] rfl rfl fun Z hZ=>?_;have hM:=Mm.nil nF_ w;refine seg 2 0 [(3,vI 0)] f0 ?_
  have ad:∀ (ab:Nat) (i:Nat) (k:Int) (w2:World),i<=l.length->vl (-1) l=vl k (l.drop i)->(i=0->k = -1)->(∀ z,0<i->l[i-1]?=some z->k=z.2) -> -1<=k->Mm nF_ w w2 []->ab=l.length-i->A85 Z (some (2,0)) [(3,vI (i:Int)),(0,vL p0 l.length cp0)] w2:=by
   refine aA8 fun ab ac i k w2 hi hv hk0 hk1 hk2 hM al=>seg 2 4 [(7,vB (decide ((i:Int)<(l.length:Int))))] f0 ?_;cases h36:(decide ((i:Int)<(l.length:Int)))
   ·have ae:=df h36;exact rt1 2 (vB true) rfl f0 (hZ _ _ ⟨by rw [hv,Gi_ (by omega)];rfl,hM.fr⟩)
   have ae:=dt h36;obtain ⟨y,hy,am,an,q37,aa⟩:=sp0.el (i:=i) (by omega);refine seg 4 0 [] f0 ?_;cases h38:(decide (y.1<0))
   rotate_left
   ·have af:=dt h38;have hM:=hM.q ((Fr.refl _ _).drew);refine drq [(54,vB true)] rfl (fc (ix 48 cp0 q37 (gl hy)) (fc (ld0 3 hM (aa 0 _ rfl)) (fc (tv 15 h38) f0))) ?_;have qh38:=dt h38;exact rt1 2 (vB false) rfl f0 (hZ _ _ ⟨by rw [hv,aH9 hy,aLT (by omega)],hM.fr⟩)
   have af:=df h38;cases h39:(decide (y.2<=y.1))
   rotate_left
   ·have ag:=dt h39;have hM:=hM.q ((Fr.refl _ _).drew);refine drq [(54,vB true)] rfl (fc (ix 48 cp0 q37 (gl hy)) (fc (ld0 3 hM (aa 0 _ rfl)) (fc (tv 15 h38) (fc (ix 48 cp0 q37 (gl hy)) (fc (ld0 3 hM (aa 0 _ rfl)) (fc (ix 48 cp0 q37 (gl hy)) (fc (ld0 3 hM (aa 1 _ rfl)) (fc (tv 27 h39) f0)))))))) ?_;have qh38:=df h38;have qh39:=dt h39;exact rt1 2 (vB false) rfl f0 (hZ _ _ ⟨by rw [hv,aH9 hy,aLT (by omega)],hM.fr⟩)
   have ag:=df h39;cases h40:(decide (10080<y.2))
   rotate_left
   ·have ah:=dt h40;have hM:=hM.q ((Fr.refl _ _).drew);refine drq [(54,vB true)] rfl (fc (ix 48 cp0 q37 (gl hy)) (fc (ld0 3 hM (aa 0 _ rfl)) (fc (tv 15 h38) (fc (ix 48 cp0 q37 (gl hy)) (fc (ld0 3 hM (aa 0 _ rfl)) (fc (ix 48 cp0 q37 (gl hy)) (fc (ld0 3 hM (aa 1 _ rfl)) (fc (tv 27 h39) (fc (ix 48 cp0 q37 (gl hy)) (fc (ld0 3 hM (aa 1 _ rfl)) (fc (tv 35 h40) f0))))))))))) ?_;have qh38:=df h38;have qh39:=df h39;have qh40:=dt h40;exact rt1 2 (vB false) rfl f0 (hZ _ _ ⟨by rw [hv,aH9 hy,aLT (by omega)],hM.fr⟩)
   have ah:=df h40;cases h41:(decide (0<(i:Int)))
   ·have ai:=df h41;have hk9:=hk0 (by have:=df h41;omega);have hM:=hM.q ((Fr.refl _ _).drew);refine drq [(54,vB false)] rfl (fc (ix 48 cp0 q37 (gl hy)) (fc (ld0 3 hM (aa 0 _ rfl)) (fc (tv 15 h38) (fc (ix 48 cp0 q37 (gl hy)) (fc (ld0 3 hM (aa 0 _ rfl)) (fc (ix 48 cp0 q37 (gl hy)) (fc (ld0 3 hM (aa 1 _ rfl)) (fc (tv 27 h39) (fc (ix 48 cp0 q37 (gl hy)) (fc (ld0 3 hM (aa 1 _ rfl)) (fc (tv 35 h40) (fc (tv 39 h41) f0)))))))))))) (seg 2 0 [(3,vI ((i:Int)+1))] (fc (aAe (i:Int) 1 u3_) f0) ?_);have qh38:=df h38;have qh39:=df h39;have qh40:=df h40;have qh41:=df h41;exact aAb _ (ac _ (by have:=gl hy;omega) (i+1) y.2 _ (gl hy) (by rw [hv,aH9 hy];exact aS8 (by omega) (by omega) (by omega)) (fun h9=>absurd h9 (by omega)) (fun z9 _ hz9=>by rw [Nat.add_sub_cancel,hy] at hz9;cases hz9;rfl) (by omega) hM rfl)
   have ai:=dt h41;obtain ⟨z,hz,ao,ap,q42,aj⟩:=sp0.el (i:=(i-1)) (by omega);have hkz:=hk1 z (by omega) hz;have hM:=hM.q ((Fr.refl _ _).drew);refine drq [(54,vB (decide (y.1<=z.2)))] rfl (fc (ix 48 cp0 q37 (gl hy)) (fc (ld0 3 hM (aa 0 _ rfl)) (fc (tv 15 h38) (fc (ix 48 cp0 q37 (gl hy)) (fc (ld0 3 hM (aa 0 _ rfl)) (fc (ix 48 cp0 q37 (gl hy)) (fc (ld0 3 hM (aa 1 _ rfl)) (fc (tv 27 h39) (fc (ix 48 cp0 q37 (gl hy)) (fc (ld0 3 hM (aa 1 _ rfl)) (fc (tv 35 h40) (fc (tv 39 h41) (fc (aBx (i:Int) 1 u3_) (fc (ix 48 cp0 q42 (gl hz) (z:=((i:Int)-1)) (hz:=(by omega))) (fc (ld0 3 hM (aj 1 _ rfl)) (fc (ix 48 cp0 q37 (gl hy)) (fc (ld0 3 hM (aa 0 _ rfl)) f0))))))))))))))))) ?_;cases h43:(decide (y.1<=z.2))
   ·have ak:=df h43;refine seg 2 0 [(3,vI ((i:Int)+1))] (fc (aAe (i:Int) 1 u3_) f0) ?_;have qh38:=df h38;have qh39:=df h39;have qh40:=df h40;have qh41:=dt h41;have qh43:=df h43;exact aAb _ (ac _ (by have:=gl hy;omega) (i+1) y.2 _ (gl hy) (by rw [hv,aH9 hy];exact aS8 (by omega) (by omega) (by omega)) (fun h9=>absurd h9 (by omega)) (fun z9 _ hz9=>by rw [Nat.add_sub_cancel,hy] at hz9;cases hz9;rfl) (by omega) hM rfl)
   have ak:=dt h43;have qh38:=df h38;have qh39:=df h39;have qh40:=df h40;have qh41:=dt h41;have qh43:=dt h43;exact rt1 2 (vB false) rfl f0 (hZ _ _ ⟨by rw [hv,aH9 hy,aLT (by omega)],hM.fr⟩)
  exact aAb _ (ad _ 0 (-1) _ (Gg_ _) rfl (fun _=>rfl) (fun _ h=>absurd h (Nat.lt_irrefl _)) (Int.le_refl _) hM rfl)
theorem aIA (m:Int) (w:World):Calls Tryz.prog 86 #[vI m] w fun e w'=>e = .returned (vB (aBo m)) /\ Fr nF_ w w':=by
  refine beg Tryz.func86 rfl rfl [(0,vI m)] rfl rfl fun Z hZ=>?_;have hM:=Mm.nil nF_ w;refine seg 1 3 [(5,vB (decide (0<=m)))] f0 ?_;cases h44:(decide (0<=m))
  ·exact rt1 2 (vB false) rfl f0 (hZ _ _ ⟨by unfold aBo;simp only [h44]<;>rfl,hM.fr⟩)
  exact rt1 2 (vB (decide (m<=1000000000))) rfl f0 (hZ _ _ ⟨by unfold aBo;simp only [h44]<;>rfl,hM.fr⟩)
theorem aPH {m:Int}(h:aBo m=true):0<=m /\ m<=1000000000:=by
  unfold aBo at h;simp only [Ga_,decide_eq_true_eq] at h;exact h
theorem aKq {α:Type}{p:α->Bool}{l:List α}{i:Nat}{y:α}(hy:l[i]?=some y):(l.drop i).find? p=bif p y then some y else (l.drop (i+1)).find? p:=by
  rw [gd hy,List.find?_cons];cases p y<;>rfl
abbrev A50 (Z:Ending->World->Prop):=AtO Tryz.prog (aAf Tryz.f50) (aAo (bodyPost Tryz.prog Tryz.f50 Z)) [] 56
theorem aLf {w:World}{v:Value}{l:List Sp}(hl:SpV w v l) (m:Int):Calls Tryz.prog 50 #[v,vI m] w fun e w'=>e = .returned (.tuple #[vI (aAz l m).1,vB (aAz l m).2]) /\ Fr nF_ w w':=by
  obtain ⟨p0,cp0,hp0,sp0⟩:=hl.op;subst hp0;have bp0:=sp0.bnd;refine beg Tryz.func50 rfl rfl [(0,vL p0 l.length cp0),(1,vI m)] rfl rfl fun Z hZ=>?_;have hM:=Mm.nil nF_ w;refine aAq 1 1 9 [(8,vL p0 l.length cp0)] f0 hM (aIB (hl.fr hM.fr)) fun w1 hM=>seg 1 4 [(11,vB (!(vl (-1) l)))] f0 ?_;cases h45:(vl (-1) l)
  ·exact rt2 4 5 (vI 0) (vB false) rfl rfl f0 (hZ _ _ ⟨by rw [aGW h45],hM.fr⟩)
  refine aAq 1 5 13 [(12,vI m)] f0 hM (aIA m _) fun w1 hM=>seg 1 9 [(16,vB (!(aBo m)))] f0 ?_;cases h46:(aBo m)
  ·exact rt2 4 5 (vI 0) (vB false) rfl rfl f0 (hZ _ _ ⟨by rw [aFg h46],hM.fr⟩)
  refine seg 1 13 [(20,vB ((l.length:Int)==0))] f0 ?_;cases h47:((l.length:Int)==0)
  rotate_left
  ·exact rt2 4 5 (vI 0) (vB false) rfl rfl f0 (hZ _ _ ⟨by rw [aGV (by rw [←aFJ];exact h47)],hM.fr⟩)
  obtain ⟨hm0,hm1⟩:=aPH h46;refine seg 5 0 [(6,vI (m%10080)),(7,vI 0)] (fc (aNY m 10080 u3_) f0) ?_
  have ac:∀ (aa:Nat) (i:Nat) (w2:World),i<=l.length->l.find? (fun s:Sp=>decide (m%10080<s.2))=(l.drop i).find? (fun s:Sp=>decide (m%10080<s.2))->Mm nF_ w w2 []->aa=l.length-i->A50 Z (some (5,0)) [(7,vI (i:Int)),(6,vI (m%10080)),(0,vL p0 l.length cp0),(1,vI m)] w2:=by
   refine aA8 fun aa ad i w2 hi hv hM ag=>seg 5 4 [(26,vB (decide ((i:Int)<(l.length:Int))))] f0 ?_;cases h51:(decide ((i:Int)<(l.length:Int)))
   ·have ae:=df h51;have hne:0<l.length:=by have:=ef h47;omega
    obtain ⟨z,hz,ah,ai,q52,af⟩:=sp0.el (i:=0) (by omega);have hzb:=aIs h45 hz;exact rt2 4 5 (vI (((m-(m%10080))+10080)+z.1)) (vB true) rfl rfl (fc (aBx m (m%10080) u3_) (fc (aAe (m-(m%10080)) 10080 u3_) (fc (ix 48 cp0 q52 (gl hz)) (fc (ld0 3 hM (af 0 _ rfl)) (fc (aAe ((m-(m%10080))+10080) z.1 u3_) f0))))) (hZ _ _ ⟨by rw [aFh h45 h46 (by rw [←aFJ];exact h47),aFD (s:=z) (by rw [hv,Gi_ (by omega)];rfl) hz],hM.fr⟩)
   have ae:=dt h51;obtain ⟨y,hy,aj,ak,q53,ab⟩:=sp0.el (i:=i) (by omega);have hyb:=aIs h45 hy;refine seg 7 7 [(35,vB (decide ((m%10080)<y.2)))] (fc (ix 48 cp0 q53 (gl hy)) (fc (ld0 3 hM (ab 1 _ rfl)) f0)) ?_;cases h54:(decide ((m%10080)<y.2))
   ·refine seg 5 0 [(7,vI ((i:Int)+1))] (fc (aAe (i:Int) 1 u3_) f0) (aAb _ (ad _ (by have:=gl hy;omega) (i+1) _ (gl hy) (by rw [hv,aKq hy,h54];rfl) hM rfl))
   exact rt2 4 5 (vI ((m-(m%10080))+(max (m%10080) y.1))) (vB true) rfl rfl (fc (aBx m (m%10080) u3_) (fc (ix 48 cp0 q53 (gl hy)) (fc (ld0 3 hM (ab 0 _ rfl)) (fc (aVc 3 (m%10080) y.1) (fc (aAe (m-(m%10080)) (max (m%10080) y.1) u3_) f0))))) (hZ _ _ ⟨by rw [aFh h45 h46 (by rw [←aFJ];exact h47),aFE (s:=y) (by rw [hv,aKq hy,h54];rfl)];show _=Ending.returned (.tuple #[vI (m+max 0 (y.1-m%10080)),vB true]);rw [show m+max 0 (y.1-m%10080)=((m-(m%10080))+(max (m%10080) y.1)) by omega],hM.fr⟩)
  exact aAb _ (ac _ 0 _ (Gg_ _) rfl hM rfl)
theorem aF7 {w:World}{v:Value}{os:List ObR}(hmv:aCq w v os) {a:Arc}(hfi:¬ aAm (aAa os) a.2.2.1<0):Calls Tryz.prog 46 #[.agg #[v],aJr a] w fun e w'=>∃ z,z∈os /\ z.o.id=a.2.2.1 /\ e = .returned (vA (obL z)) /\ Fr nF_ w w':=by
  have hm0:=hmv;obtain ⟨hs0,hob⟩:=hm0;obtain ⟨p0,cp0,hp0,sp0⟩:=hs0.op;subst hp0;refine beg Tryz.func46 rfl rfl [(0,.agg #[vL p0 os.length cp0]),(1,.agg #[vS a.1,vS a.2.1,vS a.2.2.1,vI a.2.2.2])] rfl rfl fun Y hY=>?_;have hM:=Mm.nil nF_ w;obtain ⟨k,z0,hk,hz0,hid⟩:=aEn hfi;have hkl:=gl hz0;refine aAp 0 0 2 [] (cs:=#[vL p0 os.length cp0]) (T:=24) (v:=fun b=>vP b 0) f0 hM fun ab w1 hM=>aAp 0 1 3 [] (cs:=#[vS a.1,vS a.2.1,vS a.2.2.1,vI a.2.2.2]) (T:=47) (v:=fun b=>vP b 0) f0 hM fun ac w1 hM=>aAp 0 2 4 [] (cs:=#[vS [],vI 0,vI 0,vI 0,vL none 0 0,vL none 0 0]) (T:=64) (v:=fun b=>vP b 0) f0 hM fun aa w1 hM=>?_;obtain ⟨z,hz,af,ag,ad,ae⟩:=sp0.el (i:=k) (by omega);have hzid:z.o.id=a.2.2.1:=by rw [hz0] at hz;cases hz;exact hid
  refine seg 1 0 [] f0 (drx [5,8] (fun Z=>[some (vI (aAm (aAa os) a.2.2.1)),none]) _ (fun Z l=>[bk ab #[vL p0 os.length cp0] 24,bk ac #[vS a.1,vS a.2.1,vS a.2.2.1,vI a.2.2.2] 47,bk aa #[(bif l.getD 1 false then vS z.o.id else vS []),(bif l.getD 1 false then vI z.o.kind else vI 0),(bif l.getD 1 false then vI z.o.x else vI 0),(bif l.getD 1 false then vI z.o.y else vI 0),(bif l.getD 1 false then vL z.pr z.o.refs.length z.cr else vL none 0 0),(bif l.getD 1 false then vL z.pt z.o.tags.length z.ct else vL none 0 0)] 64]) (fun Z=>[]) hM (fun Z=>rfl) (fun Z l w5 hM=>(fc (ldm 22 0 0 hM rfl rfl) (fc (lam 24 0 0 1 hM rfl) (fc (ldm 9 1 2 hM rfl rfl) (fc (ix 22 cp0 ad (gl hz) (z:=(aAm (aAa os) a.2.2.1)) (hz:=hk)) (fc (la0 64 hM ae) f0)))))) ⟨aFO 0 5 10 (f:=69) (fun Z=>#[.agg #[vL p0 os.length cp0],vS a.2.2.1]) (vI (aAm (aAa os) a.2.2.1)) (fun Z fr wm hM=>(aC2 (hmv.fr hM.fr) a.2.2.1)),aB8 1 8 64 2 0 (fun Z=>aa) (fun Z l=>#[(bif l.getD 1 false then vS z.o.id else vS []),(bif l.getD 1 false then vI z.o.kind else vI 0),(bif l.getD 1 false then vI z.o.x else vI 0),(bif l.getD 1 false then vI z.o.y else vI 0),(bif l.getD 1 false then vL z.pr z.o.refs.length z.cr else vL none 0 0),(bif l.getD 1 false then vL z.pt z.o.tags.length z.ct else vL none 0 0)]) 64 (fun Z => .agg #[vS z.o.id,vI z.o.kind,vI z.o.x,vI z.o.y,vL z.pr z.o.refs.length z.cr,vL z.pt z.o.tags.length z.ct]),trivial⟩ fun ah w1 hM=>?_);replace hM:Mm nF_ w w1 [bk ab #[vL p0 os.length cp0] 24,bk ac #[vS a.1,vS a.2.1,vS a.2.2.1,vI a.2.2.2] 47,bk aa #[vS z.o.id,vI z.o.kind,vI z.o.x,vI z.o.y,vL z.pr z.o.refs.length z.cr,vL z.pt z.o.tags.length z.ct] 64]:=hM;exact rtc 4 64 rfl (aAi 64 2 hM rfl rfl) f0 (hY _ _ ⟨z,gm hz,hzid,rfl,hM.fr⟩)
def aAR (prof:Bys) (o:Ob) (a:Arc):Bool:=bif (aAy o.tags prof).1==[110,111] then false else bif (prof==aFo) || !((aAy o.tags [111,110,101,119,97,121]).1==[121,101,115]) then true else fwd a.1 a.2.1 o.refs
abbrev A43 (Z:Ending->World->Prop):=AtO Tryz.prog (aAf Tryz.f43) (aAo (bodyPost Tryz.prog Tryz.f43 Z)) [] 64
theorem aLe {w:World}{v:Value}{os:List ObR}(hmv:aCq w v os) (prof:Bys) {a:Arc}(hfi:¬ aAm (aAa os) a.2.2.1<0):Calls Tryz.prog 43 #[.agg #[v],vS prof,aJr a] w fun e w'=>∃ z,z∈os /\ z.o.id=a.2.2.1 /\ e = .returned (vB (aAR prof z.o a)) /\ Fr nF_ w w':=by
  have hm0:=hmv;obtain ⟨hs0,hob⟩:=hm0;obtain ⟨p0,cp0,hp0,sp0⟩:=hs0.op;subst hp0;refine beg Tryz.func43 rfl rfl [(0,.agg #[vL p0 os.length cp0]),(1,vS prof),(2,.agg #[vS a.1,vS a.2.1,vS a.2.2.1,vI a.2.2.2])] rfl rfl fun Z hZ=>?_;have hM:=Mm.nil nF_ w;refine aAp 0 0 3 [] (cs:=#[vL p0 os.length cp0]) (T:=24) (v:=fun b=>vP b 0) f0 hM fun an w1 hM=>aAp 0 1 5 [] (cs:=#[vS a.1,vS a.2.1,vS a.2.2.1,vI a.2.2.2]) (T:=47) (v:=fun b=>vP b 0) f0 hM fun ae w1 hM=>aNQ 1 2 15 [(13,.agg #[vL p0 os.length cp0]),(14,.agg #[vS a.1,vS a.2.1,vS a.2.2.1,vI a.2.2.2])] (K:=fun u w8=>∃ z,z∈os /\ z.o.id=a.2.2.1 /\ u=vA (obL z)) (fc (lam 24 0 0 1 hM rfl) (fc (lam 47 1 0 4 hM rfl) f0)) hM ((aF7 (hmv.fr hM.fr) hfi).mono fun e w8 ⟨z,h1,h2,h3,h4⟩=>⟨⟨_,h3,z,h1,h2,rfl⟩,h4⟩) fun u w1 ⟨z,hz1,hz2,hu⟩ hM f1=>?_;subst hu;refine aCl 1 3 7 [] [] 64 (.agg #[vS z.o.id,vI z.o.kind,vI z.o.x,vI z.o.y,vL z.pr z.o.refs.length z.cr,vL z.pt z.o.tags.length z.ct]) f0 hM fun af w1 hM=>aAq 2 3 20 [(18,vL z.pt z.o.tags.length z.ct),(19,vS prof)] (fc (ldm 62 2 5 hM rfl rfl) f0) hM (aEe ((hob _ hz1).tags.src.fr hM.fr) prof) fun w1 hM=>seg 3 2 [(24,vB ((aAy z.o.tags prof).1==[110,111]))] (fc (seq 9 ((aAy z.o.tags prof).1) [110,111]) f0) ?_;cases aa:((aAy z.o.tags prof).1==[110,111])
  rotate_left
  ·exact rt1 6 (vB false) rfl f0 (hZ _ _ ⟨z,hz1,hz2,by unfold aAR aFo;simp only [aa]<;>rfl,hM.fr⟩)
  refine aAq 5 2 28 [(27,vL z.pt z.o.tags.length z.ct)] (fc (ldm 62 2 5 hM rfl rfl) f0) hM (aEe ((hob _ hz1).tags.src.fr hM.fr) [111,110,101,119,97,121]) fun w1 hM=>seg 6 3 [(10,vS ((aAy z.o.tags [111,110,101,119,97,121]).1)),(33,vB (prof==[102,111,111,116]))] (fc (seq 9 prof [102,111,111,116]) f0) ?_;cases ac:(prof==[102,111,111,116])
  rotate_left
  ·exact rt1 6 (vB true) rfl f0 (hZ _ _ ⟨z,hz1,hz2,by unfold aAR aFo;simp only [aa,ac]<;>rfl,hM.fr⟩)
  refine seg 6 6 [(36,vB (!((aAy z.o.tags [111,110,101,119,97,121]).1==[121,101,115])))] (fc (sne 9 ((aAy z.o.tags [111,110,101,119,97,121]).1) [121,101,115]) f0) ?_;cases ad:((aAy z.o.tags [111,110,101,119,97,121]).1==[121,101,115])
  ·exact rt1 6 (vB true) rfl f0 (hZ _ _ ⟨z,hz1,hz2,by unfold aAR aFo;simp only [aa,ac,ad]<;>rfl,hM.fr⟩)
  have bz9:=(hob _ hz1).refs.bnd;refine seg 9 0 [(12,vI 0)] f0 ?_
  have ao:∀ (ag:Nat) (i:Nat) (w2:World),i<=z.o.refs.length-1->fwd a.1 a.2.1 z.o.refs=fwd a.1 a.2.1 (z.o.refs.drop i)->Mm nF_ w w2 [bk an #[vL p0 os.length cp0] 24,bk ae #[vS a.1,vS a.2.1,vS a.2.2.1,vI a.2.2.2] 47,bk af #[vS z.o.id,vI z.o.kind,vI z.o.x,vI z.o.y,vL z.pr z.o.refs.length z.cr,vL z.pt z.o.tags.length z.ct] 64]->ag=z.o.refs.length-i->A43 Z (some (9,0)) [(12,vI (i:Int)),(7,vP af 0),(5,vP ae 0)] w2:=by
   refine aA8 fun ag ah i w2 hi hf hM au=>seg 9 6 [(42,vB (decide (((i:Int)+1)<(z.o.refs.length:Int))))] (fc (aAe (i:Int) 1 u3_) (fc (ldm 28 2 4 hM rfl rfl) f0)) ?_;cases ai:(decide (((i:Int)+1)<(z.o.refs.length:Int)))
   ·have ap:=df ai;exact rt1 6 (vB false) rfl f0 (hZ _ _ ⟨z,hz1,hz2,by unfold aAR aFo;rw [hf,aPV (by omega)];simp only [aa,ac,ad]<;>rfl,hM.fr⟩)
   have ap:=dt ai;have aj:=(hob _ hz1).refs;obtain ⟨y1,hy1,av,aw,ak,al⟩:=aj.el (i:=i) (by omega);obtain ⟨y2,hy2,ax,ay,aq,ar⟩:=aj.el (i:=(i+1)) (by omega);refine seg 11 0 [] f0 ?_;cases ab:(y1==a.1)
   ·have hM:=hM.q ((Fr.refl _ _).drew);refine drq [(63,vB false)] rfl (fc (ldm 28 2 4 hM rfl rfl) (fc (ix 28 z.cr ak (gl hy1)) (fc (ld0 9 hM (al 0 _ rfl)) (fc (ldm 9 1 0 hM rfl rfl) (fc (rz (seq 9 y1 a.1) ab) f0))))) (seg 9 0 [(12,vI ((i:Int)+1))] (fc (aAe (i:Int) 1 u3_) f0) (aAb _ (ah _ (by have:=gl hy2;omega) (i+1) _ (by have:=gl hy2;omega) (by rw [hf,aIg hy1 hy2];simp only [ab]<;>rfl) hM rfl)))
   have hM:=hM.q ((Fr.refl _ _).drew);refine drq [(63,vB (y2==a.2.1))] rfl (fc (ldm 28 2 4 hM rfl rfl) (fc (ix 28 z.cr ak (gl hy1)) (fc (ld0 9 hM (al 0 _ rfl)) (fc (ldm 9 1 0 hM rfl rfl) (fc (rz (seq 9 y1 a.1) ab) (fc (ldm 28 2 4 hM rfl rfl) (fc (aAe (i:Int) 1 u3_) (fc (ix 28 z.cr aq (gl hy2)) (fc (ld0 9 hM (ar 0 _ rfl)) (fc (ldm 9 1 1 hM rfl rfl) (fc (seq 9 y2 a.2.1) f0))))))))))) ?_;cases am:(y2==a.2.1)
   ·refine seg 9 0 [(12,vI ((i:Int)+1))] (fc (aAe (i:Int) 1 u3_) f0) (aAb _ (ah _ (by have:=gl hy2;omega) (i+1) _ (by have:=gl hy2;omega) (by rw [hf,aIg hy1 hy2];simp only [ab,am]<;>rfl) hM rfl))
   exact rt1 6 (vB true) rfl f0 (hZ _ _ ⟨z,hz1,hz2,by unfold aAR aFo;rw [hf,aIg hy1 hy2];simp only [aa,ac,ad,ab,am]<;>rfl,hM.fr⟩)
  exact aAb _ (ao _ 0 _ (Gg_ _) rfl hM rfl)
def aDC (k:Int) (c:UInt8):Int:=10*(bif decide ((c.toNat:Int)<48)||decide (57<(c.toNat:Int)) then -100000000 else k)+(c.toNat:Int)-48
def aCE (l:Bys):Int:=l.foldl aDC 0
theorem aG0 {s:Bys}{i:Nat}{c:UInt8}(h:s[i]?=some c):aCE (s.take (i+1))=aDC (aCE (s.take i)) c:=by
  unfold aCE;rw [gt_ h,List.foldl_append];rfl
theorem aPX {s:Bys}(hl:s.length<=7):∀ i,-(100000000*12 ^ i)<=aCE (s.take i) /\ aCE (s.take i)<=100000000*12 ^ i
  | 0=>by unfold aCE;simp
  | i+1=>by
    have ih:=aPX hl i
    have hp:(1:Int)<=12 ^ i:=by
      have:=Nat.one_le_pow i 12 (by omega);have h2:((12 ^ i:Nat):Int)=(12:Int) ^ i:=by simp
      omega
    rw [Int.pow_succ]
    cases h:s[i]? with
    | none =>
      rw [Gc_ (by have:=List.getElem?_eq_none_iff.1 h;omega)];rw [Gc_ (by have:=List.getElem?_eq_none_iff.1 h;omega)] at ih;generalize (12:Int) ^ i=P at ih hp ⊢;omega
    | some c =>
      rw [aG0 h];have hc:=c.toNat_lt;unfold aDC;generalize aCE (s.take i)=k at ih ⊢;generalize (12:Int) ^ i=P at ih hp ⊢;cases decide ((c.toNat:Int)<48)||decide (57<(c.toNat:Int))
      · simp only [cond_false];omega
      · simp only [cond_true];omega
theorem aPW {s:Bys}(hl:s.length<=7) {i:Nat}(hi:i<=s.length) : -4000000000000000<=aCE (s.take i) /\ aCE (s.take i)<=4000000000000000:=by
  have h:=aPX hl i
  have hp:(12:Int) ^ i<=35831808:=by
    have:=Nat.pow_le_pow_right (show 0<12 by omega) (show i<=7 by omega);have h2:((12 ^ i:Nat):Int)=(12:Int) ^ i:=by simp
    omega
  generalize (12:Int) ^ i=P at h hp;omega
def aBz (s:Bys):Int:=bif decide (1<=(s.length:Int))&&(decide ((s.length:Int)<=7) && !(((s.headD 0).toNat:Int)==48)) then (bif decide (0<aCE s) then aCE s else 100) else 100
theorem aSh {l:List Tag}(h:∀ t∈l,B63 t.1 /\ B63 t.2) (k:Bys):B63 (aAy l k).1:=by
  induction l with
  | nil=>show ([]:Bys).length<=9223372036854775807;decide
  | cons t l ih =>
    rw [aAy]
    cases t.1==k with
    | true=>exact (h t (.head _)).2
    | false=>exact ih fun u hu=>h u (.tail _ hu)
theorem aTY {w:World}{v:Value}{l:List Tag}(hl:TgV w v l) {k s:Bys}(hs:s=(aAy l k).1):Calls Tryz.prog 45 #[v,vS k] w fun e w'=>e = .returned (.tuple #[vS s,vB (aAy l k).2]) /\ Fr nF_ w w':=by subst hs;exact aEe hl k
theorem b2i {w:World}(A B:TypeId) (n:Int) (h:0<=n /\ n<=255) (hA:A=5:=by rfl) (hB:B=3:=by rfl):Ft.ok Tryz.prog w (.g1 (.convert A B) (.int .u8 n) (vI n)):=fun o ρ x ho hx=>by
  subst hA hB;have hw:IntKind.i64.wrap n=n:=IntWalk.i64_in _ ⟨by omega,by omega⟩;simp [execOp,ho,hx,go_sem,convert,Tryz.underlying5,u3_,hw]
theorem aJc {s:Bys}{c:UInt8}(h:s[0]?=some c):s.headD 0=c:=by cases s<;>simp at h ⊢;exact h
abbrev A44 (Z:Ending->World->Prop):=AtO Tryz.prog (aAf Tryz.f44) (aAo (bodyPost Tryz.prog Tryz.f44 Z)) [] 65
theorem aJQ {w:World}{v:Value}{os:List ObR}(hmv:aCq w v os) {a:Arc}(ha:ArcB a) (hfi:¬ aAm (aAa os) a.2.2.1<0):Calls Tryz.prog 44 #[.agg #[v],aJr a] w fun e w'=>∃ z,z∈os /\ z.o.id=a.2.2.1 /\ e = .returned (vI ((a.2.2.2+aBz (aAy z.o.tags [115,112,101,101,100]).1-1) / aBz (aAy z.o.tags [115,112,101,101,100]).1)) /\ Fr nF_ w w':=by
  have hm0:=hmv;obtain ⟨hs0,hob⟩:=hm0;obtain ⟨p0,cp0,hp0,sp0⟩:=hs0.op;subst hp0;refine beg Tryz.func44 rfl rfl [(0,.agg #[vL p0 os.length cp0]),(1,.agg #[vS a.1,vS a.2.1,vS a.2.2.1,vI a.2.2.2])] rfl rfl fun Z hZ=>?_;have hM:=Mm.nil nF_ w;refine aAp 0 0 2 [] (cs:=#[vL p0 os.length cp0]) (T:=24) (v:=fun b=>vP b 0) f0 hM fun ao w1 hM=>aAp 0 1 3 [] (cs:=#[vS a.1,vS a.2.1,vS a.2.2.1,vI a.2.2.2]) (T:=47) (v:=fun b=>vP b 0) f0 hM fun ak w1 hM=>aNQ 1 2 13 [(11,.agg #[vL p0 os.length cp0]),(12,.agg #[vS a.1,vS a.2.1,vS a.2.2.1,vI a.2.2.2])] (K:=fun u w8=>∃ z,z∈os /\ z.o.id=a.2.2.1 /\ u=vA (obL z)) (fc (lam 24 0 0 1 hM rfl) (fc (lam 47 1 0 4 hM rfl) f0)) hM ((aF7 (hmv.fr hM.fr) hfi).mono fun e w8 ⟨z,h1,h2,h3,h4⟩=>⟨⟨_,h3,z,h1,h2,rfl⟩,h4⟩) fun u w1 ⟨z,hz1,hz2,hu⟩ hM f1=>?_;subst hu;obtain ⟨s,hs9⟩:∃ s,s=(aAy z.o.tags [115,112,101,101,100]).1:=⟨_,rfl⟩;have hs63:s.length<=9223372036854775807:=hs9▸aSh (hob _ hz1).bnd.tags _;refine aAq 1 4 15 [(14,vL z.pt z.o.tags.length z.ct)] f0 hM (aTY ((hob _ hz1).tags.src.fr hM.fr) hs9) fun w1 hM=>seg 3 4 [(5,vS s),(7,vI 100),(21,vB (decide (1<=(s.length:Int))))] (fc (aCA 9 s) f0) ?_;cases ad:(decide (1<=(s.length:Int)))
  ·have ap:=df ad;have hp1:=ha.pos;have hp2:=ha.lt;have eS:aBz s=100:=by unfold aBz;simp only [ad]<;>rfl
   exact rt1 4 (vI (((a.2.2.2+100)-1) / 100)) rfl (fc (ldm 3 1 3 hM rfl rfl) (fc (aAe a.2.2.2 100 u3_) (fc (aBx (a.2.2.2+100) 1 u3_) (fc (aQF ((a.2.2.2+100)-1) 100 u3_) f0)))) (hZ _ _ ⟨z,hz1,hz2,by rw [←hs9,eS],hM.fr⟩)
  have ap:=dt ad;refine seg 3 9 [(26,vB (decide ((s.length:Int)<=7)))] (fc (aCA 9 s) f0) ?_;cases ac:(decide ((s.length:Int)<=7))
  ·have aq:=df ac;have hp1:=ha.pos;have hp2:=ha.lt;have eS:aBz s=100:=by unfold aBz;simp only [ad,ac]<;>rfl
   exact rt1 4 (vI (((a.2.2.2+100)-1) / 100)) rfl (fc (ldm 3 1 3 hM rfl rfl) (fc (aAe a.2.2.2 100 u3_) (fc (aBx (a.2.2.2+100) 1 u3_) (fc (aQF ((a.2.2.2+100)-1) 100 u3_) f0)))) (hZ _ _ ⟨z,hz1,hz2,by rw [←hs9,eS],hM.fr⟩)
  have aq:=dt ac;obtain ⟨al,af⟩:=geb (l:=s) (i:=0) (by omega);refine seg 3 13 [(30,vB (!((al.toNat:Int)==48)))] (fc (byt 9 af) f0) ?_;cases ai:((al.toNat:Int)==48)
  rotate_left
  ·have hp1:=ha.pos;have hp2:=ha.lt;have eS:aBz s=100:=by unfold aBz;rw [aJc af];simp only [ad,ac,ai]<;>rfl
   exact rt1 4 (vI (((a.2.2.2+100)-1) / 100)) rfl (fc (ldm 3 1 3 hM rfl rfl) (fc (aAe a.2.2.2 100 u3_) (fc (aBx (a.2.2.2+100) 1 u3_) (fc (aQF ((a.2.2.2+100)-1) 100 u3_) f0)))) (hZ _ _ ⟨z,hz1,hz2,by rw [←hs9,eS],hM.fr⟩)
  refine seg 6 0 [(8,vI 0),(9,vI 0)] f0 ?_
  have ar:∀ (am:Nat) (i:Nat) (k:Int) (w2:World),i<=s.length->k=aCE (s.take i)->Mm nF_ w w2 [bk ao #[vL p0 os.length cp0] 24,bk ak #[vS a.1,vS a.2.1,vS a.2.2.1,vI a.2.2.2] 47]->am=s.length-i->A44 Z (some (6,0)) [(9,vI (i:Int)),(8,vI k),(7,vI 100),(5,vS s),(3,vP ak 0)] w2:=by
   refine aA8 fun am aj i k w2 hi hk hM ay=>seg 6 4 [(34,vB (decide ((i:Int)<(s.length:Int))))] (fc (aCA 9 s) f0) ?_;cases an:(decide ((i:Int)<(s.length:Int)))
   ·have au:=df an;have hl7:=dt ac;have hkb:=aPW (s:=s) (by omega) hi;rw [←hk] at hkb;refine seg 11 2 [(56,vB (decide (0<k)))] f0 ?_;cases ag:(decide (0<k))
    ·have av:=df ag;have hp1:=ha.pos;have hp2:=ha.lt;have eS:aBz s=100:=by unfold aBz;rw [show aCE s=k by rw [hk,Gc_ (by omega)]];rw [aJc af];simp only [ad,ac,ai,ag]<;>rfl
     exact rt1 4 (vI (((a.2.2.2+100)-1) / 100)) rfl (fc (ldm 3 1 3 hM rfl rfl) (fc (aAe a.2.2.2 100 u3_) (fc (aBx (a.2.2.2+100) 1 u3_) (fc (aQF ((a.2.2.2+100)-1) 100 u3_) f0)))) (hZ _ _ ⟨z,hz1,hz2,by rw [←hs9,eS],hM.fr⟩)
    have av:=dt ag;have hp1:=ha.pos;have hp2:=ha.lt;have eS:aBz s=k:=by unfold aBz;rw [show aCE s=k by rw [hk,Gc_ (by omega)]];rw [aJc af];simp only [ad,ac,ai,ag]<;>rfl
    exact rt1 4 (vI (((a.2.2.2+k)-1) / k)) rfl (fc (ldm 3 1 3 hM rfl rfl) (fc (aAe a.2.2.2 k u3_) (fc (aBx (a.2.2.2+k) 1 u3_) (fc (aQF ((a.2.2.2+k)-1) k u3_) f0)))) (hZ _ _ ⟨z,hz1,hz2,by rw [←hs9,eS],hM.fr⟩)
   have au:=dt an;have hl7:=dt ac;have hkb:=aPW (s:=s) (by omega) hi;rw [←hk] at hkb;obtain ⟨aa,ab⟩:=geb (l:=s) (i:=i) (by omega);refine seg 8 5 [(41,vB (decide ((aa.toNat:Int)<48)))] (fc (byt 9 ab) f0) ?_;cases ae:(decide ((aa.toNat:Int)<48))
   rotate_left
   ·have aw:=dt ae;have hcl:=aa.toNat_lt;refine seg 6 0 [(8,vI (((10*(-100000000))+(aa.toNat:Int))-48)),(9,vI ((i:Int)+1))] (fc (aIx 10 (-100000000) u3_) (fc (byt 9 ab) (fc (b2i 5 3 (aa.toNat:Int) (by omega)) (fc (aAe (10*(-100000000)) (aa.toNat:Int) u3_) (fc (aBx ((10*(-100000000))+(aa.toNat:Int)) 48 u3_) (fc (aAe (i:Int) 1 u3_) f0)))))) ?_;have e9:(((10*(-100000000))+(aa.toNat:Int))-48)=aCE (s.take (i+1)):=by rw [aG0 ab,←hk];unfold aDC;simp only [ae]<;>rfl
    exact aAb _ (aj _ (by have:=gl ab;omega) (i+1) (((10*(-100000000))+(aa.toNat:Int))-48) _ (gl ab) e9 hM rfl)
   have aw:=df ae;refine seg 8 10 [(46,vB (decide (57<(aa.toNat:Int))))] (fc (byt 9 ab) f0) ?_;cases ah:(decide (57<(aa.toNat:Int)))
   ·have ax:=df ah;have hcl:=aa.toNat_lt;refine seg 6 0 [(8,vI (((10*k)+(aa.toNat:Int))-48)),(9,vI ((i:Int)+1))] (fc (aIx 10 k u3_) (fc (byt 9 ab) (fc (b2i 5 3 (aa.toNat:Int) (by omega)) (fc (aAe (10*k) (aa.toNat:Int) u3_) (fc (aBx ((10*k)+(aa.toNat:Int)) 48 u3_) (fc (aAe (i:Int) 1 u3_) f0)))))) ?_;have e9:(((10*k)+(aa.toNat:Int))-48)=aCE (s.take (i+1)):=by rw [aG0 ab,←hk];unfold aDC;simp only [ae,ah]<;>rfl
    exact aAb _ (aj _ (by have:=gl ab;omega) (i+1) (((10*k)+(aa.toNat:Int))-48) _ (gl ab) e9 hM rfl)
   have ax:=dt ah;have hcl:=aa.toNat_lt;refine seg 6 0 [(8,vI (((10*(-100000000))+(aa.toNat:Int))-48)),(9,vI ((i:Int)+1))] (fc (aIx 10 (-100000000) u3_) (fc (byt 9 ab) (fc (b2i 5 3 (aa.toNat:Int) (by omega)) (fc (aAe (10*(-100000000)) (aa.toNat:Int) u3_) (fc (aBx ((10*(-100000000))+(aa.toNat:Int)) 48 u3_) (fc (aAe (i:Int) 1 u3_) f0)))))) ?_;have e9:(((10*(-100000000))+(aa.toNat:Int))-48)=aCE (s.take (i+1)):=by rw [aG0 ab,←hk];unfold aDC;simp only [ae,ah]<;>rfl
   exact aAb _ (aj _ (by have:=gl ab;omega) (i+1) (((10*(-100000000))+(aa.toNat:Int))-48) _ (gl ab) e9 hM rfl)
  exact aAb _ (ar _ 0 0 _ (Gg_ _) rfl hM rfl)
def aVa (s:Bys) (i j:Nat):Prop:=i<=j /\ j<=s.length /\ (∀ k,aCR s k i->aCR s k j) /\ ∀ c,s[j]?=some c->aB7 c=false /\ (c==35)=false
abbrev aXK (Z:Ending->World->Prop):=AtO Tryz.prog (aAf Tryz.f109) (aAo (bodyPost Tryz.prog Tryz.f109 Z)) [] 33
theorem aHW {s:Bys}(hs:s.length<=9223372036854775806) {i0:Nat}(hi0:i0<=s.length) (w:World):Calls Tryz.prog 109 #[vS s,vI (i0:Int)] w fun e w'=>∃ j:Nat,e = .returned (vI (j:Int)) /\ aVa s i0 j /\ Fr nF_ w w':=by
  refine beg Tryz.func109 rfl rfl [(0,vS s),(1,vI (i0:Int))] rfl rfl fun Z hZ=>?_;have hM:=Mm.nil nF_ w;refine seg 1 0 [] f0 ?_
  have af:∀ (ad:Nat) (i:Nat) (w2:World),i0<=i->i<=s.length->(∀ k,aCR s k i0->aCR s k i)->Mm nF_ w w2 []->ad=s.length-i->aXK Z (some (1,0)) [(0,vS s),(1,vI (i:Int))] w2:=by
   refine aA8 fun ad ac i w2 hg1 hg2 hg3 hM al=>seg 1 4 [(8,vB (decide ((i:Int)<(s.length:Int))))] (fc (aCA 9 s) f0) ?_;cases h36:(decide ((i:Int)<(s.length:Int)))
   ·have ag:=df h36;exact rt1 4 (vI (i:Int)) rfl f0 (hZ _ _ ⟨i,rfl,⟨hg1,hg2,hg3,(fun c9 h9=>by rw [List.getElem?_eq_none (by omega)] at h9;cases h9)⟩,hM.fr⟩)
   have ag:=dt h36;obtain ⟨e37,aa⟩:=geb (l:=s) (i:=i) (by omega);refine aAq 2 3 12 [(11,.int .u8 (e37.toNat:Int))] (fc (byt 9 aa) f0) hM (aF9 (s:=[32,9,10]) (by decide) e37 _) fun w1 hM=>?_;cases h38:(([32,9,10]:Bys).contains e37)
   rotate_left
   ·have hblk:aB7 e37=true:=by rw [aPP];exact h38
    have hcl:=gl aa;refine seg 1 0 [(1,vI ((i:Int)+1))] (fc (aAe (i:Int) 1 u3_) f0) (aAb _ (ac _ (by omega) (i+1) _ (by omega) (by omega) (fun k h=>by have:=(hg3 k h).gap aa (aPw hblk) (m:=0) (by omega);simpa using this) hM rfl))
   have hblk:aB7 e37=false:=by rw [aPP];exact h38
   have hcl:=gl aa;refine seg 4 4 [(18,vB ((e37.toNat:Int)==35))] (fc (byt 9 aa) f0) ?_;cases h39:((e37.toNat:Int)==35)
   ·have hhash:(e37==35)=false:=by rw [aDA];exact h39
    exact rt1 4 (vI (i:Int)) rfl f0 (hZ _ _ ⟨i,rfl,⟨hg1,hg2,hg3,(fun c9 h9=>by rw [aa] at h9;cases h9;exact ⟨hblk,hhash⟩)⟩,hM.fr⟩)
   have hhash:(e37==35)=true:=by rw [aDA];exact h39
   refine seg 5 0 [] f0 ?_
   have ah:∀ (ae:Nat) (j:Nat) (w2:World),RunTo (· != 10) s i j->j<=s.length->Mm nF_ w w2 []->ae=s.length-j->aXK Z (some (5,0)) [(0,vS s),(1,vI (j:Int))] w2:=by
    refine aA8 fun ae ai j w2 hr hjl hM am=>seg 5 5 [(23,vB (decide ((j:Int)<(s.length:Int))))] (fc (aCA 9 s) f0) ?_;cases h43:(decide ((j:Int)<(s.length:Int)))
    ·have aj:=df h43;have hjn:s[j]?=none:=List.getElem?_eq_none (by have:=df h43;omega);obtain ⟨hon,hij⟩:=aGz aa hblk hhash hr (fun c9 hc9=>by rw [hjn] at hc9;cases hc9);refine seg 1 0 [] f0 (aAb _ (ac _ (by omega) j _ (by omega) (by omega) (fun k h=>by have:=(hg3 k h).gap aa hon (by omega);rwa [show i+1+(j-(i+1))=j by omega] at this) hM rfl))
    have aj:=dt h43;obtain ⟨e44,ab⟩:=geb (l:=s) (i:=j) (by omega);refine seg 5 10 [(28,vB (!((e44.toNat:Int)==10)))] (fc (byt 9 ab) f0) ?_;cases h45:((e44.toNat:Int)==10)
    ·have ak:=ef h45;have hen:(e44 != 10)=true:=by rw [bne,aDA,show (((e44.toNat:Int))==(((10:UInt8).toNat:Int)))=false from h45];rfl
     refine seg 5 0 [(1,vI ((j:Int)+1))] (fc (aAe (j:Int) 1 u3_) f0) (aAb _ (ai _ (by have:=gl ab;omega) (j+1) _ (hr.step ab hen) (gl ab) hM rfl))
    have ak:=et h45;have hen:(e44 != 10)=false:=by rw [bne,aDA,show (((e44.toNat:Int))==(((10:UInt8).toNat:Int)))=true from h45];rfl
    obtain ⟨hon,hij⟩:=aGz aa hblk hhash hr (fun c9 hc9=>by rw [ab] at hc9;cases hc9;exact hen);refine seg 1 0 [] f0 (aAb _ (ac _ (by omega) j _ (by omega) (by omega) (fun k h=>by have:=(hg3 k h).gap aa hon (by omega);rwa [show i+1+(j-(i+1))=j by omega] at this) hM rfl))
   exact aAb _ (ah _ i _ (RunTo.start hg2) hg2 hM rfl)
  exact aAb _ (af _ i0 _ (Gl_ _) hi0 (fun k h=>h) hM rfl)
theorem aTD {c:UInt8}{l:Bys}(h:(c==34)=true):aBY (c::l)=some ([],1):=by unfold aBY;rw [if_pos h]
theorem aTE {c:UInt8}{l:Bys}(h:(c==34)=false) (h2:(c==10)=true):aBY (c::l)=none:=by unfold aBY;rw [if_neg (by rw [h];simp),if_pos h2]
theorem aVw {c:UInt8}{l:Bys}(h:(c==34)=false) (h2:(c==10)=false) (h3:(c==92)=false):aBY (c::l)=(aBY l).map fun r=>(c::r.1,r.2+1):=by
  conv=>lhs;unfold aBY
  rw [if_neg (by rw [h];simp),if_neg (by rw [h2];simp),if_neg (by rw [h3];simp)]
theorem aVd {c:UInt8}(h:(c==92)=true):(c==34)=false /\ (c==10)=false:=by
  obtain rfl:=beq_iff_eq.1 h;decide
theorem aTC {c:UInt8}(h:(c==92)=true):aBY [c]=none:=by
  unfold aBY;rw [if_neg (by rw [(aVd h).1];simp),if_neg (by rw [(aVd h).2];simp),if_pos h]
theorem aTB {c d:UInt8}{l:Bys}(h:(c==92)=true) (hd:([92,34,110]:Bys).contains d=true):aBY (c::d::l)=(aBY l).map fun r=>((if d==110 then 10 else d)::r.1,r.2+2):=by
  conv=>lhs;unfold aBY
  rw [if_neg (by rw [(aVd h).1];simp),if_neg (by rw [(aVd h).2];simp),if_pos h];simp only;rw [if_pos (by simpa [or_assoc] using hd)]
theorem aTA {c d:UInt8}{l:Bys}(h:(c==92)=true) (hd:([92,34,110]:Bys).contains d=false):aBY (c::d::l)=none:=by
  conv=>lhs;unfold aBY
  rw [if_neg (by rw [(aVd h).1];simp),if_neg (by rw [(aVd h).2];simp),if_pos h];simp only
  rw [if_neg (by
    have h9:¬ ([92,34,110]:Bys).contains d=true:=by rw [hd];simp
    intro h8;exact h9 (by simpa [or_assoc] using h8))]
def aGD (s:Bys) (i:Nat):Bys×Int×Bool:=match aBY (s.drop (i+1)) with | some (st,m)=>(st,((i+1+m:Nat):Int),true) | none=>([],0,false)
theorem aOH {s:Bys}{i:Nat}{c:UInt8}(h:s[i]?=some c):(s.take (i+1)).drop i=[c]:=by
  rw [aDl h (Gl_ _)];simp
theorem aT5 {w:World}(T:TypeId) (a b:Bys) (hl:a.length+b.length<=9223372036854775807) (hT:T=9:=by rfl):Ft.ok Tryz.prog w (.g2 (fun x y => .binOp .add T x y T) (vS a) (vS b) (vS (a++b))):=fun o ρ x y ho hx hy=>by
  subst hT
  have h3:ofL a++ofL b=ofL (a++b):=by
    unfold ofL;apply ByteArray.ext;simp
  have h4:(ofL a).size+(ofL b).size<=9223372036854775807:=by rw [aBl,aBl];exact hl
  simp [execOp,ho,hx,hy,go_sem,u9_,h3,h4]
theorem rz3 {P:Program}{w:World}{f:Operand->Operand->Operand->Op}{v u t r r2:Value}(h:Ft.ok P w (.g3 f v u t r)) (e:r=r2):Ft.ok P w (.g3 f v u t r2):=by subst e;exact h
abbrev aY2 (Z:Ending->World->Prop):=AtO Tryz.prog (aAf Tryz.f143) (aAo (bodyPost Tryz.prog Tryz.f143 Z)) [] 63
theorem aNt (s:Bys) {i0:Nat}(hi0:i0+1<=s.length) (hsl:s.length<=20000) (w:World):Calls Tryz.prog 143 #[vS s,vI (i0:Int)] w fun e w'=>e = .returned (.tuple #[vS (aGD s i0).1,vI (aGD s i0).2.1,vB (aGD s i0).2.2]) /\ Fr nF_ w w':=by
  refine beg Tryz.func143 rfl rfl [(0,vS s),(1,vI (i0:Int))] rfl rfl fun Z hZ=>?_;have hM:=Mm.nil nF_ w;refine seg 3 0 [(7,vS []),(8,vI ((i0:Int)+1))] (fc (aAe (i0:Int) 1 u3_) f0) ?_
  have ad:∀ (ac:Nat) (i:Nat) (o:Bys) (w2:World),i0+1<=i->i<=s.length->o.length<=i->(aBY (s.drop (i0+1))=(aBY (s.drop i)).map fun r=>(o++r.1,r.2+(i-(i0+1))))->Mm nF_ w w2 []->ac=s.length-i->aY2 Z (some (3,0)) [(8,vI (i:Int)),(7,vS o),(0,vS s)] w2:=by
   refine aA8 fun ac aa i o w2 hi1 hi2 hol hinv hM ak=>seg 3 4 [(15,vB (decide ((i:Int)<(s.length:Int))))] (fc (aCA 9 s) f0) ?_;cases h36:(decide ((i:Int)<(s.length:Int)))
   ·have ae:=df h36;have hie:i=s.length:=by have:=df h36;omega
    rw [hie,List.drop_length] at hinv;have hR:aGD s i0=([],0,false):=by unfold aGD;rw [hinv];rfl
    exact rt3 4 5 6 (vS []) (vI 0) (vB false) rfl rfl rfl rfl f0 (hZ _ _ ⟨by rw [hR],hM.fr⟩)
   have ae:=dt h36;obtain ⟨c,hc⟩:=geb (l:=s) (i:=i) (by omega);rw [gd hc] at hinv;refine seg 6 2 [(9,.int .u8 (c.toNat:Int)),(22,vB ((c.toNat:Int)==34))] (fc (byt 9 hc) f0) ?_;cases h37:((c.toNat:Int)==34)
   rotate_left
   ·have af:=et h37;have h34:(c==34)=true:=by rw [aDA];exact h37
    rw [aTD h34] at hinv;have hR:aGD s i0=(o,(i:Int)+1,true):=by unfold aGD;rw [hinv];simp only [Option.map_some,List.append_nil];rw [show i0+1+(1+(i-(i0+1)))=i+1 by omega];rfl
    exact rt3 4 5 6 (vS o) (vI ((i:Int)+1)) (vB true) rfl rfl rfl rfl (fc (aAe (i:Int) 1 u3_) f0) (hZ _ _ ⟨by rw [hR],hM.fr⟩)
   have af:=ef h37;have h34:(c==34)=false:=by rw [aDA];exact h37
   refine seg 8 2 [(27,vB ((c.toNat:Int)==10))] f0 ?_;cases h38:((c.toNat:Int)==10)
   rotate_left
   ·have ag:=et h38;have h10:(c==10)=true:=by rw [aDA];exact h38
    rw [aTE h34 h10] at hinv;have hR:aGD s i0=([],0,false):=by unfold aGD;rw [hinv];rfl
    exact rt3 4 5 6 (vS []) (vI 0) (vB false) rfl rfl rfl rfl f0 (hZ _ _ ⟨by rw [hR],hM.fr⟩)
   have ag:=ef h38;have h10:(c==10)=false:=by rw [aDA];exact h38
   refine seg 10 2 [(29,vB (!((c.toNat:Int)==92)))] f0 ?_;cases h39:((c.toNat:Int)==92)
   ·have ah:=ef h39;have h92:(c==92)=false:=by rw [aDA];exact h39
    refine seg 3 0 [(7,vS (o++[c])),(8,vI ((i:Int)+1))] (fc (aAe (i:Int) 1 u3_) (fc (rz3 (aQE 9 s i (i+1) (by omega) (gl hc) (y:=(i:Int)) (z:=((i:Int)+1)) (by omega) (by omega)) (congrArg vS (aOH hc))) (fc (aT5 9 o [c] (by simp only [Gf_,Go_];omega)) (fc (aAe (i:Int) 1 u3_) f0)))) (aAb _ (aa _ (by omega) (i+1) (o++[c]) _ (by omega) (by omega) (by simp only [Gk_,Gf_,Go_];omega) (by rw [hinv,aVw h34 h10 h92];cases aBY (s.drop (i+1)) with | none=>rfl | some r=>simp only [Option.map_some,Gn_,List.cons_append,List.nil_append];congr 2;omega) hM rfl))
   have ah:=et h39;have h92:(c==92)=true:=by rw [aDA];exact h39
   refine seg 13 5 [(8,vI ((i:Int)+1)),(43,vB (decide ((s.length:Int)<=((i:Int)+1))))] (fc (aAe (i:Int) 1 u3_) (fc (aCA 9 s) f0)) ?_;cases h40:(decide ((s.length:Int)<=((i:Int)+1)))
   rotate_left
   ·have ai:=dt h40;have hle:s.length<=i+1:=by have:=dt h40;omega
    rw [List.drop_eq_nil_of_le hle,aTC h92] at hinv;have hR:aGD s i0=([],0,false):=by unfold aGD;rw [hinv];rfl
    exact rt3 4 5 6 (vS []) (vI 0) (vB false) rfl rfl rfl rfl f0 (hZ _ _ ⟨by rw [hR],hM.fr⟩)
   have ai:=df h40;obtain ⟨d,hd⟩:=geb (l:=s) (i:=i+1) (by omega);rw [gd hd] at hinv;refine aAq 13 8 47 [(46,.int .u8 (d.toNat:Int))] (fc (byt 9 hd) f0) hM (aF9 (s:=[92,34,110]) (by decide) d _) fun w1 hM=>seg 13 11 [(49,vB (!(([92,34,110]:Bys).contains d)))] f0 ?_;cases h41:(([92,34,110]:Bys).contains d)
   ·rw [aTA h92 h41] at hinv;have hR:aGD s i0=([],0,false):=by unfold aGD;rw [hinv];rfl
    exact rt3 4 5 6 (vS []) (vI 0) (vB false) rfl rfl rfl rfl f0 (hZ _ _ ⟨by rw [hR],hM.fr⟩)
   rw [aTB h92 h41] at hinv;refine seg 15 4 [(53,vB ((d.toNat:Int)==110))] (fc (byt 9 hd) f0) ?_;cases h42:((d.toNat:Int)==110)
   ·have aj:=ef h42;have ab:(d==110)=false:=by rw [aDA];exact h42
    rw [ab] at hinv;simp only [if_true,if_false,Bool.false_eq_true] at hinv;refine seg 3 0 [(7,vS (o++[d])),(8,vI (((i:Int)+1)+1))] (fc (aAe ((i:Int)+1) 1 u3_) (fc (rz3 (aQE 9 s (i+1) ((i+1)+1) (by omega) (gl hd) (y:=((i:Int)+1)) (z:=(((i:Int)+1)+1)) (by omega) (by omega)) (congrArg vS (aOH hd))) (fc (aT5 9 o [d] (by simp only [Gf_,Go_];omega)) (fc (aAe ((i:Int)+1) 1 u3_) f0)))) (aAb _ (aa _ (by omega) (i+1+1) (o++[d]) _ (by omega) (by omega) (by simp only [Gk_,Gf_,Go_];omega) (by rw [hinv];cases aBY (s.drop (i+1+1)) with | none=>rfl | some r=>simp only [Option.map_some,Gn_,List.cons_append,List.nil_append];congr 2;omega) hM rfl))
   have aj:=et h42;have ab:(d==110)=true:=by rw [aDA];exact h42
   rw [ab] at hinv;simp only [if_true,if_false,Bool.false_eq_true] at hinv;refine seg 3 0 [(7,vS (o++[10])),(8,vI (((i:Int)+1)+1))] (fc (aT5 9 o [10] (by simp only [Gf_,Go_];omega)) (fc (aAe ((i:Int)+1) 1 u3_) f0)) (aAb _ (aa _ (by omega) (i+1+1) (o++[10]) _ (by omega) (by omega) (by simp only [Gk_,Gf_,Go_];omega) (by rw [hinv];cases aBY (s.drop (i+1+1)) with | none=>rfl | some r=>simp only [Option.map_some,Gn_,List.cons_append,List.nil_append];congr 2;omega) hM rfl))
  exact aAb _ (ad _ (i0+1) [] _ (Gl_ _) hi0 (Gg_ _) (by rw [Nat.sub_self];cases aBY (s.drop (i0+1))<;>rfl) hM rfl)
theorem aNs {P:Program}{B:Code}{fn:Func}{Z:Ending->World->Prop}{n:Nat}{p:Option (Nat×Nat)}{L:Frm}{w:World}{F:List Ft}(t T t2 t3:Nat) {g:Nat}{v:Value}(u x:Value) (hr:fn.results=#[.cell t T,.tmp t2,.tmp t3]) (hn:((t==t2),(t==t3),(t2==t3))=(false,false,false)) (hv:(Instr.loadAt T (vP g 0)).run P w = .ok v w) (hF:aAQ P w F) (k:Z (.returned (.tuple #[v,u,x])) w) (h:aOe (go P w n B p L 1000000 0 F) [(t,vP g 0),(t2,u),(t3,x)] L=aL6 (go P w n B p L 1000000 0 F) [(t,vP g 0),(t2,u),(t3,x)]:=by kernel_rfl):AtO P B (aAo (bodyPost P fn Z)) [] n p L w :=
  aOd [(t,vP g 0),(t2,u),(t3,x)] hF h fun a E=>by
    simp only [Prod.mk.injEq] at hn;have hv':a.eval (.tmp t)=vP g 0:=E.at_ t _ (by simp [Go.Pl.look]);have hu':a.eval (.tmp t2)=u:=E.at_ t2 _ (by simp [Go.Pl.look,hn.1]);have hx':a.eval (.tmp t3)=x:=E.at_ t3 _ (by simp [Go.Pl.look,hn.2.1,hn.2.2])
    have key:∃ u,(results fn a.tmps).run P w = .ok u w /\ Z (.returned u) w:=⟨.tuple #[v,u,x],by
      have hl:a.tmps.getD t undef=vP g 0:=hv';have hl2:a.tmps.getD t2 undef=u:=hu';have hl3:a.tmps.getD t3 undef=x:=hx';simp only [Instr.loadAt,Instr.sureAddr,Sem.run_bind,Sem.run_pure,Result.andThen_ok] at hv;have hl':a.tmps[t]?.getD undef=vP g 0:=by simpa using hl
      have hl2':a.tmps[t2]?.getD undef=u:=by simpa using hl2
      have hl3':a.tmps[t3]?.getD undef=x:=by simpa using hl3
      simp [results,hr,hl',hl2',hl3',asAddr,hv],k⟩
    exact ⟨⟨E.df,key⟩,⟨E.df,key⟩⟩
def aEK (s:Bys) (i:Nat) (c:UInt8):Tok Int×Int×Int :=
  if (one c (s.drop (i+1))).2.2.2=0 then (((one c (s.drop (i+1))).1,(one c (s.drop (i+1))).2.1,(i:Int)),((i+1+(one c (s.drop (i+1))).2.2.1:Nat):Int),0) else ((0,[],0),0,(one c (s.drop (i+1))).2.2.2)
theorem aEA {s:Bys}{i:Nat}{c:UInt8}{k:Int}{t:Bys}{m:Nat}(h:one c (s.drop (i+1))=(k,t,m,0)):aEK s i c=((k,t,(i:Int)),((i+1+m:Nat):Int),0):=by unfold aEK;rw [h];rfl
theorem aEB {s:Bys}{i:Nat}{c:UInt8}{k:Int}{t:Bys}{m:Nat}{e:Int}(h:one c (s.drop (i+1))=(k,t,m,e)) (he:e≠0):aEK s i c=((0,[],0),0,e):=by unfold aEK;rw [h];simp only;rw [if_neg he]
abbrev aXJ (Z:Ending->World->Prop):=AtO Tryz.prog (aAf Tryz.f110) (aAo (bodyPost Tryz.prog Tryz.f110 Z)) [] 108
theorem aPd (s:Bys) {i0:Nat}{c:UInt8}(hc:s[i0]?=some c) (hblk:aB7 c=false) (hhash:(c==35)=false) (hsl:s.length<=20000) (w:World):Calls Tryz.prog 110 #[vS s,vI (i0:Int)] w fun e9 w'=>e9 = .returned (.tuple #[.agg #[vI (aEK s i0 c).1.1,vS (aEK s i0 c).1.2.1,vI (aEK s i0 c).1.2.2],vI (aEK s i0 c).2.1,vI (aEK s i0 c).2.2]) /\ Fr nF_ w w':=by
  have hi0:=gl hc;refine beg Tryz.func110 rfl rfl [(0,vS s),(1,vI (i0:Int))] rfl rfl fun Z hZ=>?_;have hM:=Mm.nil nF_ w;refine aAp 0 0 4 [] (cs:=#[vI 0,vS [],vI 0]) (T:=186) (v:=fun b=>vP b 0) f0 hM fun aa w1 hM=>aAq 3 1 18 [(7,vI ((i0:Int)+1)),(8,.int .u8 (c.toNat:Int)),(17,.int .u8 (c.toNat:Int))] (fc (aAe (i0:Int) 1 u3_) (fc (byt 9 hc) f0)) hM (aDo c _) fun w1 hM=>?_;cases h44:(aBh c)
  rotate_left
  ·have hlet:aBh c=true:=h44;refine seg 4 0 [] f0 ?_
   have ad:∀ (ab:Nat) (j:Nat) (w2:World),RunTo aAI s i0 j->Mm nF_ w w2 [bk aa #[vI 0,vS [],vI 0] 186]->ab=s.length-j->aXJ Z (some (4,0)) [(7,vI (j:Int)),(4,vP aa 0),(0,vS s),(1,vI (i0:Int))] w2:=by
    refine aA8 fun ab ae j w2 hr hM an=>?_;have hjl:=hr.hi;refine seg 4 5 [(23,vB (decide ((j:Int)<(s.length:Int))))] (fc (aCA 9 s) f0) ?_;cases h60:(decide ((j:Int)<(s.length:Int)))
    ·have af:=df h60;have hjn:s.length<=j:=by have:=df h60;omega
     obtain ⟨hon,hij⟩:=aLy hc hlet hr (aEb hjn);refine seg 6 4 [(34,vB (decide (24<((j:Int)-(i0:Int)))))] (fc (aBx (j:Int) (i0:Int) u3_) f0) ?_;cases h61:(decide (24<((j:Int)-(i0:Int))))
     ·have ag:=df h61;have hd9:=df h61;rw [if_neg hd9] at hon;have hN:=aEA hon;rw [show i0+1+(j-(i0+1))=j by omega] at hN;refine stm 8 7 [(41,.agg #[vI 1,vS ((s.take j).drop i0),vI (i0:Int)]),(42,vI (j:Int))] 186 0 0 (.agg #[vI 1,vS ((s.take j).drop i0),vI (i0:Int)]) (fc (aQE 9 s i0 j (by omega) (by omega) (y:=(i0:Int)) (z:=(j:Int)) (by omega) (by omega)) f0) hM rfl fun w1 hM=>aNs 4 186 5 6 (vI (j:Int)) (vI 0) rfl rfl (aAi 186 0 hM rfl rfl) f0 (hZ _ _ ⟨by rw [hN]<;>rfl,hM.fr⟩)
     have ag:=dt h61;have hd9:=dt h61;rw [if_pos hd9] at hon;have hN:=aEB hon (by decide);refine stm 7 1 [(35,.agg #[vI 0,vS [],vI 0])] 186 0 0 (.agg #[vI 0,vS [],vI 0]) f0 hM rfl fun w1 hM=>aNs 4 186 5 6 (vI 0) (vI 2) rfl rfl (aAi 186 0 hM rfl rfl) f0 (hZ _ _ ⟨by rw [hN]<;>rfl,hM.fr⟩)
    have af:=dt h60;have hltj:=dt h60;obtain ⟨e,he⟩:=geb (l:=s) (i:=j) (by omega);refine aAq 4 8 27 [(26,.int .u8 (e.toNat:Int))] (fc (byt 9 he) f0) hM (aE5 e _) fun w1 hM=>seg 4 10 [(28,vB (aAI e))] f0 ?_;cases h62:(aAI e)
    rotate_left
    ·have hen:aAI e=true:=h62;refine seg 4 0 [(7,vI ((j:Int)+1))] (fc (aAe (j:Int) 1 u3_) f0) (aAb _ (ae _ (by have:=gl he;omega) (j+1) _ (hr.step he hen) hM rfl))
    have hws:aCM s j=false:=(aCF he).trans h62;obtain ⟨hon,hij⟩:=aLy hc hlet hr hws;refine seg 6 4 [(34,vB (decide (24<((j:Int)-(i0:Int)))))] (fc (aBx (j:Int) (i0:Int) u3_) f0) ?_;cases h63:(decide (24<((j:Int)-(i0:Int))))
    ·have ah:=df h63;have hd9:=df h63;rw [if_neg hd9] at hon;have hN:=aEA hon;rw [show i0+1+(j-(i0+1))=j by omega] at hN;refine stm 8 7 [(41,.agg #[vI 1,vS ((s.take j).drop i0),vI (i0:Int)]),(42,vI (j:Int))] 186 0 0 (.agg #[vI 1,vS ((s.take j).drop i0),vI (i0:Int)]) (fc (aQE 9 s i0 j (by omega) (by omega) (y:=(i0:Int)) (z:=(j:Int)) (by omega) (by omega)) f0) hM rfl fun w1 hM=>aNs 4 186 5 6 (vI (j:Int)) (vI 0) rfl rfl (aAi 186 0 hM rfl rfl) f0 (hZ _ _ ⟨by rw [hN]<;>rfl,hM.fr⟩)
    have ah:=dt h63;have hd9:=dt h63;rw [if_pos hd9] at hon;have hN:=aEB hon (by decide);refine stm 7 1 [(35,.agg #[vI 0,vS [],vI 0])] 186 0 0 (.agg #[vI 0,vS [],vI 0]) f0 hM rfl fun w1 hM=>aNs 4 186 5 6 (vI 0) (vI 2) rfl rfl (aAi 186 0 hM rfl rfl) f0 (hZ _ _ ⟨by rw [hN]<;>rfl,hM.fr⟩)
   exact aAb _ (ad _ (i0+1) _ ((RunTo.start (by omega)).step hc (by unfold aAI;rw [hlet];rfl)) hM rfl)
  have hlet:aBh c=false:=h44;refine aAq 9 1 44 [(43,.int .u8 (c.toNat:Int))] f0 hM (aDK c _) fun w1 hM=>?_;cases h45:(aAv c)
  ·have hdig:aAv c=false:=h45;refine seg 15 2 [(82,vB ((c.toNat:Int)==34))] f0 ?_;cases h46:((c.toNat:Int)==34)
   ·have hquo:(c==34)=false:=by rw [aDA];exact h46
    refine aAq 20 1 98 [(97,.int .u8 (c.toNat:Int))] f0 hM (aF9 (s:=[59,44,46,58,40,41,123,125,91,93,61,60,62,47,45]) (by decide) c _) fun w1 hM=>seg 20 3 [(99,vB (!(([59,44,46,58,40,41,123,125,91,93,61,60,62,47,45]:Bys).contains c)))] f0 ?_;cases h47:(([59,44,46,58,40,41,123,125,91,93,61,60,62,47,45]:Bys).contains c)
    ·have hsym:aD1 c=false:=h47;have hon:=aPv (l:=s.drop (i0+1)) hblk hhash hlet hdig hquo hsym;have hN:=aEB hon (by decide);refine stm 21 1 [(100,.agg #[vI 0,vS [],vI 0])] 186 0 0 (.agg #[vI 0,vS [],vI 0]) f0 hM rfl fun w1 hM=>aNs 4 186 5 6 (vI 0) (vI 3) rfl rfl (aAi 186 0 hM rfl rfl) f0 (hZ _ _ ⟨by rw [hN]<;>rfl,hM.fr⟩)
    have hsym:aD1 c=true:=h47;have hon:one c (s.drop (i0+1))=(4,(s.take (i0+1)).drop i0,0,0):=by rw [aPu hsym,aDl hc (Gl_ _)];simp
    have hN:=aEA hon;refine stm 22 7 [(106,.agg #[vI 4,vS ((s.take (i0+1)).drop i0),vI (i0:Int)]),(107,vI ((i0:Int)+1))] 186 0 0 (.agg #[vI 4,vS ((s.take (i0+1)).drop i0),vI (i0:Int)]) (fc (aQE 9 s i0 (i0+1) (by omega) (by omega) (y:=(i0:Int)) (z:=((i0:Int)+1)) (by omega) (by omega)) f0) hM rfl fun w1 hM=>aNs 4 186 5 6 (vI ((i0:Int)+1)) (vI 0) rfl rfl (aAi 186 0 hM rfl rfl) f0 (hZ _ _ ⟨by rw [hN]<;>rfl,hM.fr⟩)
   have hquo:(c==34)=true:=by rw [aDA];exact h46
   refine aAq 16 2 86 [(84,vS s),(85,vI (i0:Int))] f0 hM (aNt s (i0:=i0) (by omega) (by omega) _) fun w1 hM=>seg 17 2 [(9,vS ((aGD s i0).1)),(10,vI (aGD s i0).2.1),(91,vB (!(aGD s i0).2.2))] f0 ?_
   cases h48:(aGD s i0).2.2 with
   | false =>
    have hst:aBY (s.drop (i0+1))=none:=by
      have h9:=h48;unfold aGD at h9
      cases hq:aBY (s.drop (i0+1)) with
      | none=>rfl
      | some r=>rw [hq] at h9;cases h9
    have hon:one c (s.drop (i0+1))=(0,[],0,3):=by rw [aIK hquo,hst]
    have hN:=aEB hon (by decide);refine stm 18 1 [(92,.agg #[vI 0,vS [],vI 0])] 186 0 0 (.agg #[vI 0,vS [],vI 0]) f0 hM rfl fun w1 hM=>aNs 4 186 5 6 (vI 0) (vI 3) rfl rfl (aAi 186 0 hM rfl rfl) f0 (hZ _ _ ⟨by rw [hN]<;>rfl,hM.fr⟩)
   | true =>
    obtain ⟨st,m,hst⟩:∃ st m,aBY (s.drop (i0+1))=some (st,m):=by
      have h9:=h48;unfold aGD at h9
      cases hq:aBY (s.drop (i0+1)) with
      | none=>rw [hq] at h9;cases h9
      | some r=>exact ⟨r.1,r.2,rfl⟩
    have hR1:(aGD s i0).1=st:=by unfold aGD;rw [hst]
    have hR2:(aGD s i0).2.1=((i0+1+m:Nat):Int):=by unfold aGD;rw [hst]
    rw [hR1,hR2];have hon:one c (s.drop (i0+1))=(3,st,m,0):=by rw [aIK hquo,hst]
    have hN:=aEA hon;refine stm 19 4 [(95,.agg #[vI 3,vS st,vI (i0:Int)]),(96,vI ((i0+1+m:Nat):Int))] 186 0 0 (.agg #[vI 3,vS st,vI (i0:Int)]) f0 hM rfl fun w1 hM=>aNs 4 186 5 6 (vI ((i0+1+m:Nat):Int)) (vI 0) rfl rfl (aAi 186 0 hM rfl rfl) f0 (hZ _ _ ⟨by rw [hN]<;>rfl,hM.fr⟩)
  have hdig:aAv c=true:=h45;refine seg 10 0 [] f0 ?_
  have ai:∀ (ac:Nat) (j:Nat) (w2:World),RunTo aAv s i0 j->Mm nF_ w w2 [bk aa #[vI 0,vS [],vI 0] 186]->ac=s.length-j->aXJ Z (some (10,0)) [(7,vI (j:Int)),(4,vP aa 0),(0,vS s),(1,vI (i0:Int))] w2:=by
   refine aA8 fun ac aj j w2 hr hM ao=>?_;have hjl:=hr.hi;refine seg 10 5 [(49,vB (decide ((j:Int)<(s.length:Int))))] (fc (aCA 9 s) f0) ?_;cases h52:(decide ((j:Int)<(s.length:Int)))
   ·have ak:=df h52;have hjn:s.length<=j:=by have:=df h52;omega
    obtain ⟨hon,hij⟩:=aLE hc hdig hr (aMN hjn);rw [aEb hjn] at hon;refine seg 12 5 [(61,vB (decide (7<((j:Int)-(i0:Int)))))] (fc (aBx (j:Int) (i0:Int) u3_) f0) ?_;cases h53:(decide (7<((j:Int)-(i0:Int))))
    ·have al:=df h53;have hd9:=df h53;rw [decide_eq_false hd9,Bool.false_or] at hon;rw [if_neg (by simp)] at hon;have hN:=aEA hon;rw [show i0+1+(j-(i0+1))=j by omega] at hN;refine stm 14 7 [(79,.agg #[vI 2,vS ((s.take j).drop i0),vI (i0:Int)]),(80,vI (j:Int))] 186 0 0 (.agg #[vI 2,vS ((s.take j).drop i0),vI (i0:Int)]) (fc (aCA 9 s) (fc (tv 65 h52) (fc (aQE 9 s i0 j (by omega) (by omega) (y:=(i0:Int)) (z:=(j:Int)) (by omega) (by omega)) f0))) hM rfl fun w1 hM=>aNs 4 186 5 6 (vI (j:Int)) (vI 0) rfl rfl (aAi 186 0 hM rfl rfl) f0 (hZ _ _ ⟨by rw [hN]<;>rfl,hM.fr⟩)
    have al:=dt h53;have hd9:=dt h53;rw [decide_eq_true hd9,Bool.true_or,if_pos rfl] at hon;have hN:=aEB hon (by decide);refine stm 13 1 [(73,.agg #[vI 0,vS [],vI 0])] 186 0 0 (.agg #[vI 0,vS [],vI 0]) f0 hM rfl fun w1 hM=>aNs 4 186 5 6 (vI 0) (vI 4) rfl rfl (aAi 186 0 hM rfl rfl) f0 (hZ _ _ ⟨by rw [hN]<;>rfl,hM.fr⟩)
   have ak:=dt h52;have hltj:=dt h52;obtain ⟨e,he⟩:=geb (l:=s) (i:=j) (by omega);refine aAq 10 8 53 [(52,.int .u8 (e.toNat:Int))] (fc (byt 9 he) f0) hM (aDK e _) fun w1 hM=>seg 10 10 [(54,vB (aAv e))] f0 ?_;cases h54:(aAv e)
   rotate_left
   ·have hen:aAv e=true:=h54;refine seg 10 0 [(7,vI ((j:Int)+1))] (fc (aAe (j:Int) 1 u3_) f0) (aAb _ (aj _ (by have:=gl he;omega) (j+1) _ (hr.step he hen) hM rfl))
   have hds:aGj s j=false:=(aJj he).trans h54;obtain ⟨hon,hij⟩:=aLE hc hdig hr hds;refine seg 12 5 [(61,vB (decide (7<((j:Int)-(i0:Int)))))] (fc (aBx (j:Int) (i0:Int) u3_) f0) ?_;cases h55:(decide (7<((j:Int)-(i0:Int))))
   rotate_left
   ·have am:=dt h55;have hd9:=dt h55;rw [decide_eq_true hd9,Bool.true_or,if_pos rfl] at hon;have hN:=aEB hon (by decide);refine stm 13 1 [(73,.agg #[vI 0,vS [],vI 0])] 186 0 0 (.agg #[vI 0,vS [],vI 0]) f0 hM rfl fun w1 hM=>aNs 4 186 5 6 (vI 0) (vI 4) rfl rfl (aAi 186 0 hM rfl rfl) f0 (hZ _ _ ⟨by rw [hN]<;>rfl,hM.fr⟩)
   have am:=df h55;have hd9:=df h55;rw [decide_eq_false hd9,Bool.false_or] at hon;refine aAq 12 13 70 [(66,vB true),(69,.int .u8 (e.toNat:Int))] (fc (aCA 9 s) (fc (tv 65 h52) (fc (byt 9 he) f0))) hM (aE5 e _) fun w1 hM=>seg 12 16 [(72,vB (aAI e))] f0 ?_;cases h56:(aAI e)
   ·rw [aCF he,h56] at hon;rw [if_neg (by simp)] at hon;have hN:=aEA hon;rw [show i0+1+(j-(i0+1))=j by omega] at hN;refine stm 14 7 [(79,.agg #[vI 2,vS ((s.take j).drop i0),vI (i0:Int)]),(80,vI (j:Int))] 186 0 0 (.agg #[vI 2,vS ((s.take j).drop i0),vI (i0:Int)]) (fc (aQE 9 s i0 j (by omega) (by omega) (y:=(i0:Int)) (z:=(j:Int)) (by omega) (by omega)) f0) hM rfl fun w1 hM=>aNs 4 186 5 6 (vI (j:Int)) (vI 0) rfl rfl (aAi 186 0 hM rfl rfl) f0 (hZ _ _ ⟨by rw [hN]<;>rfl,hM.fr⟩)
   rw [aCF he,h56] at hon;rw [if_pos rfl] at hon;have hN:=aEB hon (by decide);refine stm 13 1 [(73,.agg #[vI 0,vS [],vI 0])] 186 0 0 (.agg #[vI 0,vS [],vI 0]) f0 hM rfl fun w1 hM=>aNs 4 186 5 6 (vI 0) (vI 4) rfl rfl (aAi 186 0 hM rfl rfl) f0 (hZ _ _ ⟨by rw [hN]<;>rfl,hM.fr⟩)
  exact aAb _ (ai _ (i0+1) _ ((RunTo.start (by omega)).step hc hdig) hM rfl)
theorem aWY {c:UInt8}{l:Bys}(hb:aB7 c=false) (hh:(c==35)=false) (he:(one c l).2.2.2=0):(one c l).1≠0 /\ (one c l).2.2.1<=l.length:=by
  have ht1:=aEU aAI l;have ht2:=aEU aAv l;unfold one at *;rw [if_neg (by rw [hb];simp),if_neg (by rw [hh];simp)] at he ⊢
  split
  · exact ⟨by simp,ht1⟩
  · rename_i h3
    rw [if_neg h3] at he
    split
    · exact ⟨by simp,ht2⟩
    · rename_i h4
      rw [if_neg h4] at he
      split
      · rename_i h5
        rw [if_pos h5] at he
        cases hq:aBY l with
        | none=>rw [hq] at he;simp at he
        | some r=>exact ⟨by simp,aMd _ l (Gl_ _) hq⟩
      · rename_i h5
        rw [if_neg h5] at he
        split
        · exact ⟨by simp,by simp⟩
        · rename_i h6;rw [if_neg h6] at he;simp at he
theorem aSa {s:Bys}{i:Nat}{c:UInt8}(hc:s[i]?=some c) (hb:aB7 c=false) (hh:(c==35)=false) (he:(aEK s i c).2.2=0):∃ kd tx m,one c (s.drop (i+1))=(kd,tx,m,0) /\ kd≠0 /\ i+1+m<=s.length /\ aEK s i c=((kd,tx,(i:Int)),((i+1+m:Nat):Int),0):=by
  have h0:(one c (s.drop (i+1))).2.2.2=0:=by
    unfold aEK at he
    split at he
    · assumption
    · exact he
  obtain ⟨h1,h2⟩:=aWY hb hh h0;have hi:=(List.getElem?_eq_some_iff.1 hc).1;rw [Gr_] at h2;have h3:one c (s.drop (i+1))=((one c (s.drop (i+1))).1,(one c (s.drop (i+1))).2.1,(one c (s.drop (i+1))).2.2.1,0):=by rw [←h0]
  exact ⟨_,_,_,h3,h1,by omega,aEA h3⟩
theorem aRZ {s:Bys}{i:Nat}{c:UInt8}(he:(aEK s i c).2.2≠0):∃ kd tx m,one c (s.drop (i+1))=(kd,tx,m,(aEK s i c).2.2):=by
  unfold aEK at *
  split at he
  · exact absurd rfl he
  · rename_i h;exact ⟨_,_,_,by rw [if_neg h]⟩
abbrev A72 (Z:Ending->World->Prop):=AtO Tryz.prog (aAf Tryz.f72) (aAo (bodyPost Tryz.prog Tryz.f72 Z)) [] 42
theorem aHV {s:Bys}(hs:s.length<=4999) (w:World):Calls Tryz.prog 72 #[vS s] w fun e w'=>aQG s w w' e /\ Fr nF_ w w':=by
  refine beg Tryz.func72 rfl rfl [(0,vS s)] rfl rfl fun Z hZ=>?_;have hM:=Mm.nil nF_ w;refine seg 1 3 [(12,vB (decide (20000<(s.length:Int))))] (fc (aCA 9 s) f0) ?_;cases h33:(decide (20000<(s.length:Int)))
  rotate_left
  ·have ad:=dt h33;exact absurd (dt h33) (by omega)
  have ad:=df h33;have hM:=hM.row (f:=tkL) (c:=3) (E:=186);refine aNQ 4 1 14 [(5,vL none 0 0),(13,vS s)] (K:=fun u w8=>∃ j:Nat,u=vI (j:Int) /\ aVa s 0 j) f0 hM ((aHW (s:=s) (by omega) (i0:=0) (Gg_ _) _).mono fun e w8 ⟨j,h1,h2,h3⟩=>⟨⟨_,h1,j,rfl,h2⟩,h3⟩) fun _ w1 ⟨j0,huj0,hgj0⟩ hM f1=>?_;subst huj0;have hLz:=hgj0.2.2.1 _ (aCR.zero s);refine seg 5 0 [(6,vI (j0:Int))] f0 ?_
  have ae:∀ (aa:Nat) (i:Nat) (k:Nat) (q:Option Addr) (cq:Nat) (w2:World),((aCR s k i /\ ∀ c,s[i]?=some c->aB7 c=false /\ (c==35)=false))->(∀ y∈(aBE s 0).take k,y.2=0)->Mm nF_ w w2 [rw_ tkL 3 186 (vL q ((aKB s).take k).length cq) ((aKB s).take k)]->aa=s.length-i->A72 Z (some (5,0)) [(6,vI (i:Int)),(5,vL q ((aKB s).take k).length cq),(0,vS s)] w2:=by
   refine aA8 fun aa af i k q cq w2 hLg hz hM aj=>?_;obtain ⟨hL,hgc⟩:=hLg;have hil:=hL.1;have hll:=aGy (s:=s);refine seg 5 4 [(18,vB (decide ((i:Int)<(s.length:Int))))] (fc (aCA 9 s) f0) ?_;cases h37:(decide ((i:Int)<(s.length:Int)))
   ·have ag:=df h37;have hie:i=s.length:=by have:=df h37;omega
    rw [hie] at hL;have hkd:=hL.done;have hz2:∀ y∈aBE s 0,y.2=0:=by rw [hkd,List.take_length] at hz;exact hz
    have hO9:(aKB s).take k=aKB s:=Gc_ (by unfold aKB;rw [Gs_];omega);exact rt3 2 3 4 (vL q ((aKB s).take k).length cq) (vI 0) (vI 0) rfl rfl rfl rfl f0 (hZ _ _ ⟨by unfold aQG aM6;rw [aTg hz2];exact ⟨_,rfl,by have:=hM.nrow (j:=0) rfl;rw [hO9] at this ⊢;exact this⟩,hM.fr⟩)
   have ag:=dt h37;obtain ⟨c,hc⟩:=geb (l:=s) (i:=i) (by omega);refine aAq 6 2 22 [(20,vS s),(21,vI (i:Int))] f0 hM (aPd s hc (hgc c hc).1 (hgc c hc).2 (by omega) _) fun w1 hM=>aCl 6 7 7 [(23,.agg #[vI (aEK s i c).1.1,vS ((aEK s i c).1.2.1),vI (aEK s i c).1.2.2]),(24,vI (aEK s i c).2.1),(25,vI (aEK s i c).2.2)] [] 186 (.agg #[vI (aEK s i c).1.1,vS ((aEK s i c).1.2.1),vI (aEK s i c).1.2.2]) f0 hM fun ah w1 hM=>seg 7 2 [(8,vI (aEK s i c).2.1),(9,vI (aEK s i c).2.2),(27,vB (!((aEK s i c).2.2==0)))] f0 ?_;cases h39:((aEK s i c).2.2==0)
   ·have hne:(aEK s i c).2.2≠0:=ef h39;obtain ⟨kd,tx,m,hon⟩:=aRZ hne;have hx:=(hL.err hc hon hne).1;exact rt3 2 3 4 (vL none 0 0) (vI (aEK s i c).2.2) (vI (i:Int)) rfl rfl rfl rfl f0 (hZ _ _ ⟨by unfold aQG aM6;rw [aTh hx hz hne];exact ⟨_,rfl,rfl⟩,hM.fr⟩)
   have hn0:(aEK s i c).2.2=0:=et h39;obtain ⟨kd,tx,m,hon,hk9,hm9,hN⟩:=aSa hc (hgc c hc).1 (hgc c hc).2 hn0;obtain ⟨hx,hLn⟩:=hL.tok hc hon hk9 hm9;have hkl2:=gl hx;rw [hN] at hM ⊢;replace hM:Mm nF_ w _ [_,bk ah #[vI kd,vS tx,vI (i:Int)] 186]:=hM;refine seg 9 3 [(32,vB ((((aKB s).take k).length:Int)==5000))] f0 ?_;cases h40:((((aKB s).take k).length:Int)==5000)
   rotate_left
   ·have ai:=et h40;exact absurd (et h40) (by simp only [Gt_,aKB,Gs_];omega)
   have ai:=ef h40;refine aAp 11 2 36 [(34,vL q ((aKB s).take k).length cq),(35,.agg #[vI kd,vS tx,vI (i:Int)])] (cs:=#[vI kd,vS tx,vI (i:Int)]) (T:=186) (v:=fun b=>vL (some ⟨b,0,none⟩) 1 1) (fc (lam 186 1 0 3 hM rfl) f0) hM fun ak w1 hM=>aH5 11 3 37 [] (cap:=1) (by decide) tkT f0 hM (j:=0) rfl (aAG (f:=tkL) (x:=(kd,tx,(i:Int))) (hM.get 2 rfl) (Gq_ _)) (fun h=>by cases h) (by simp only [Gt_,aKB,Gs_,Gf_,Go_];omega) fun v42 w1 hM=>?_;obtain ⟨ab,ac,e42,-⟩:=(hM.src (j:=0) rfl tkT.len).op;subst e42;refine aNQ 12 2 40 [(5,vL ab (((aKB s).take k)++[(kd,tx,(i:Int))]).length ac),(38,vS s),(39,vI ((i+1+m:Nat):Int))] (K:=fun u w8=>∃ j:Nat,u=vI (j:Int) /\ aVa s (i+1+m) j) f0 hM ((aHW (s:=s) (by omega) (i0:=(i+1+m)) hm9 _).mono fun e w8 ⟨j,h1,h2,h3⟩=>⟨⟨_,h1,j,rfl,h2⟩,h3⟩) fun _ w1 ⟨j9,huj9,hgj9⟩ hM f1=>?_;subst huj9;refine seg 5 0 [(6,vI (j9:Int))] f0 ?_
   have e9:(aKB s).take k++[(kd,tx,(i:Int))]=(aKB s).take (k+1):=by
     unfold aKB;rw [List.take_add_one (i:=k),Gu_,hx];rfl
   have hz9:∀ y∈(aBE s 0).take (k+1),y.2=0:=by
     intro y hy;rw [gt_ hx] at hy;rcases List.mem_append.1 hy with h9 | h9
     · exact hz y h9
     · rw [Gd_] at h9;subst h9;rfl
   replace hM:=hM.pick [0];rw [e9] at hM ⊢;exact aAb _ (af _ (by have:=hgj9.1;have:=hgj9.2.1;omega) j9 (k+1) ab ac _ ⟨hgj9.2.2.1 _ hLn,hgj9.2.2.2⟩ hz9 hM rfl)
  exact aAb _ (ae _ j0 0 none 0 _ ⟨hLz,hgj0.2.2.2⟩ (fun y hy=>by simp at hy) hM rfl)
def isF:Value->Bool | .bool b => !b | _=>false
def aVh:List Value->Nat->Bool
  | [],n=>n==0
  | v::l,n=>match n with | 0=>false | n+1=>isF v&&aVh l n
theorem aUR:∀ (l:List Value) (n:Nat),aVh l n=true->l.length=n /\ ∀ i,i<n->l[i]?=some (.bool false):=by
  intro l
  induction l with
  | nil=>intro n h;simp [aVh] at h;subst h;exact ⟨rfl,fun i hi=>by omega⟩
  | cons v l ih =>
    intro n h
    cases n with
    | zero=>simp [aVh] at h
    | succ n =>
      simp only [aVh,Ga_] at h;obtain ⟨h1,h2⟩:=ih n h.2;refine ⟨by simp [h1],fun i hi=>?_⟩
      cases i with
      | zero =>
        have:=h.1;cases v<;>simp [isF] at this;subst this;rfl
      | succ i=>simpa using h2 i (by omega)
def mnB (l:List Sp) (m:Int):Bool:=l.any fun s=>decide (s.1<=m)&&decide (m<s.2)
theorem aUw {l:List Sp}{m:Int}:mnB l m=true↔mn l m:=by
  unfold mnB mn;rw [List.any_eq_true];constructor
  · rintro ⟨s,hs,h⟩;simp only [Ga_,decide_eq_true_eq] at h;exact ⟨s,hs,h⟩
  · rintro ⟨s,hs,h⟩;exact ⟨s,hs,by simp only [Ga_,decide_eq_true_eq];exact h⟩
def aB0 (t:Nat->Bool):Nat->List Sp
  | 0=>[]
  | n+1=>if t n then (if (n==0 || !t (n-1)) then aB0 t n++[((n:Int),(n:Int)+1)] else (aB0 t n).dropLast++[(((aB0 t n).getLast?.getD (0,0)).1,(n:Int)+1)]) else aB0 t n
structure RunsAt (t:Nat->Bool) (n:Nat) (l:List Sp):Prop where
  ok:vl (-1) l=true
  at_:∀ m,mn l m↔0<=m /\ m<n /\ t m.toNat=true
  last:∀ q,l.getLast?=some q->q.2<=n /\ (0<n->t (n-1)=true->q.2=n) /\ (0<n->t (n-1)=false->q.2<n)
  ne:0<n->t (n-1)=true->l≠[]
theorem aOT (t:Nat->Bool):∀ n,n<=10080->RunsAt t n (aB0 t n):=by
  intro n
  induction n with
  | zero=>intro _;exact ⟨rfl,fun m=>⟨fun h=>absurd h (aEz m),fun h=>by omega⟩,fun q h=>by simp [aB0] at h,fun h=>by omega⟩
  | succ n ih =>
    intro hn;obtain ⟨h1,h2,h3,h4⟩:=ih (by omega);unfold aB0
    cases ht:t n with
    | false =>
      rw [if_neg (by simp)];refine ⟨h1,fun m=>?_,fun q hq=>?_,fun _ h=>?_⟩
      · rw [h2]
        constructor
        · rintro ⟨a,b,c⟩;exact ⟨a,by omega,c⟩
        · rintro ⟨a,b,c⟩
          refine ⟨a,?_,c⟩;rcases Int.lt_or_le m n with h | h
          · exact h
          · have:m.toNat=n:=by omega
            rw [this,ht] at c;cases c
      · have:=(h3 q hq).1
        refine ⟨by omega,fun _ h=>?_,fun _ _=>by omega⟩;rw [Nat.add_sub_cancel,ht] at h;cases h
      · rw [Nat.add_sub_cancel,ht] at h;cases h
    | true =>
      rw [if_pos rfl]
      have hmm:∀ m:Int,(0<=m /\ m<((n+1:Nat):Int) /\ t m.toNat=true)↔(0<=m /\ m<n /\ t m.toNat=true)∨m=n:=by
        intro m;constructor
        · rintro ⟨a,b,c⟩
          rcases Int.lt_or_le m n with h | h
          · exact .inl ⟨a,h,c⟩
          · exact .inr (by omega)
        · rintro (⟨a,b,c⟩ | rfl)
          · exact ⟨a,by omega,c⟩
          · exact ⟨by omega,by omega,by simpa using ht⟩
      by_cases hc:(n==0 || !t (n-1))=true
      · rw [if_pos hc]
        have hlt:∀ q,(aB0 t n).getLast?=some q->q.2<(n:Int):=by
          intro q hq;rcases Nat.eq_zero_or_pos n with rfl | hp
          · simp [aB0] at hq
          · have h9:t (n-1)=false:=by simpa [Nat.ne_of_gt hp] using hc
            exact (h3 q hq).2.2 hp h9
        refine ⟨aF2.2 ⟨h1,by simp only;omega,hlt,by simp only;omega,by simp only;omega⟩,fun m=>?_,fun q hq=>?_,fun _ _=>by simp⟩
        · rw [aBM,h2,hmm]
          refine or_congr Iff.rfl ?_;rw [aAK];simp only [aEz,or_false];omega
        · rw [List.getLast?_concat] at hq
          cases hq;exact ⟨by simp only;omega,fun _ _=>by simp only;omega,fun _ h=>by rw [Nat.add_sub_cancel,ht] at h;cases h⟩
      · rw [if_neg hc]
        have hp:0<n:=by
          rcases Nat.eq_zero_or_pos n with rfl | hp
          · simp at hc
          · exact hp
        have h9:t (n-1)=true:=by
          cases h:t (n-1) with
          | true=>rfl
          | false=>rw [h] at hc;simp at hc
        have hne:=h4 hp h9;obtain ⟨A,q,hA⟩:∃ A q,aB0 t n=A++[q]:=⟨_,_,(List.dropLast_concat_getLast hne).symm⟩;have hq:(aB0 t n).getLast?=some q:=by rw [hA,List.getLast?_concat]
        have hq2:=(h3 q hq).2.1 hp h9;rw [hq,hA,List.dropLast_concat];rw [hA] at h1 h2;obtain ⟨k1,k2,k3,k4,k5⟩:=aF2.1 h1;refine ⟨aF2.2 ⟨k1,k2,k3,by simp only [Option.getD_some];omega,by simp only;omega⟩,fun m=>?_,fun r hr=>?_,fun _ _=>by simp⟩
        · rw [hmm,←h2,aBM,aBM,aAK,aAK]
          simp only [aEz,or_false,Option.getD_some];have e:((q.1<=m /\ m<(n:Int)+1)↔((q.1<=m /\ m<q.2)∨m=n)):=by omega
          rw [e,or_assoc]
        · rw [List.getLast?_concat] at hr
          cases hr;exact ⟨by simp only;omega,fun _ _=>by simp only;omega,fun _ h=>by rw [Nat.add_sub_cancel,ht] at h;cases h⟩
theorem aOS {t:Nat->Bool}{l:List Sp}(h:vl (-1) l=true) (k:∀ m:Nat,m<10080->(t m=true↔mn l m)):aB0 t 10080=l:=by
  obtain ⟨h1,h2,_,_⟩:=aOT t 10080 (Gl_ _);refine aKJ h1 h fun m=>?_;rw [h2];constructor
  · rintro ⟨a,b,c⟩
    have:=(k m.toNat (by omega)).1 c
    rwa [Int.toNat_of_nonneg a] at this
  · intro hm
    obtain ⟨a,b⟩:=aVK h hm;exact ⟨a,b,(k m.toNat (by omega)).2 (by rwa [Int.toNat_of_nonneg a])⟩
theorem aEE {a b:List Sp}{m:Int}:mnB (a++b) m=(mnB a m||mnB b m):=by unfold mnB;rw [List.any_append]
theorem aPF {m:Int}:mnB [] m=false:=rfl
abbrev WkA (cs:Array Value) (t:Nat->Bool):Prop:=TbA 10080 cs fun i=>vB (t i)
theorem aTt:aVh (zT Tryz.prog 138).toList 10080=true:=by kernel_rfl
theorem aOm:WkA (zT Tryz.prog 138) fun _=>false:=by
  obtain ⟨h1,h2⟩:=aUR _ _ aTt;exact ⟨by rw [←Array.length_toList];exact h1,fun i hi=>by rw [←Array.getElem?_toList];exact h2 i hi⟩
theorem aTw {cs:Array Value}{t:Nat->Bool}{y m:Int}(h:WkA cs fun k=>t k||(decide (y<=(k:Int))&&decide ((k:Int)<m))) (h0:0<=m) (h1:y<=m) (h2:m<10080):WkA (cs.setIfInBounds m.toNat (vB true)) fun k=>t k||(decide (y<=(k:Int))&&decide ((k:Int)<m+1)) :=
  (TbA.set h (k:=m.toNat) (by omega) (vB true)).ext fun k hk=>by
    by_cases e:k=m.toNat
    · dsimp only;rw [if_pos e,decide_eq_true (show y<=(k:Int) by omega),decide_eq_true (show (k:Int)<m+1 by omega)];simp
    · dsimp only;rw [if_neg e,show decide ((k:Int)<m)=decide ((k:Int)<m+1) by rw [decide_eq_decide];omega]
theorem aTv {cs:Array Value}{l:List Sp}{i:Nat}{y:Sp}(hy:l[i]?=some y) (h:WkA cs fun k=>mnB (l.take i) k||(decide (y.1<=(k:Int))&&decide ((k:Int)<y.2))):WkA cs fun k=>mnB (l.take (i+1)) k:=h.ext fun k hk=>by dsimp only;rw [gt_ hy,aEE];simp [mnB]
theorem ldh {P:Program}{w:World}(T:TypeId) {b i:Nat}{cs:Array Value}{T0:TypeId}{v:Value}(h:w.heap[b]?=some (.cells cs T0 (0,0))) (hv:cs[i]?=some v) (hT:scT P T=true:=by kernel_rfl):Ft.ok P w (.g1 (.load T) (vP b (0+i*1)) v):=by
  have:=ld (P:=P) T (bx h i hv) hT;rw [show 0+i*1=i by omega];exact this
theorem aRk {α:Type}{A:List α}{y:α}(z:α) (h:A[A.length-1]?=some y):A.set (A.length-1) z=A.dropLast++[z] /\ A.getLast?=some y:=by
  rcases List.eq_nil_or_concat A with rfl | ⟨B,x,rfl⟩
  · cases h
  · simp at h;subst h;simp
theorem aMm (t:Nat->Bool):∀ n,(aB0 t n).length<=n
  | 0=>Gl_ _
  | n+1=>by
    have:=aMm t n;unfold aB0;split<;>(try split)<;>(try simp only [Gk_,List.length_dropLast,List.length_singleton])<;>omega
theorem aTQ {t:Nat->Bool}{n:Nat}(h:t n=false):aB0 t n=aB0 t (n+1):=by
  conv=>rhs;unfold aB0
  rw [h];rfl
theorem aMl {t:Nat->Bool}{n:Nat}(h:t n=true) (h2:(n==0 || !t (n-1))=true):aB0 t n++[((n:Int),(n:Int)+1)]=aB0 t (n+1):=by
  conv=>rhs;unfold aB0
  rw [if_pos h,if_pos h2]
theorem aTP {t:Nat->Bool}{n:Nat}(h:t n=true) (h2:(n==0 || !t (n-1))=false) {y:Sp}(hy:(aB0 t n)[(aB0 t n).length-1]?=some y):(aB0 t n).set ((aB0 t n).length-1) (y.1,(n:Int)+1)=aB0 t (n+1):=by
  obtain ⟨h3,h4⟩:=aRk (y.1,(n:Int)+1) hy
  conv=>rhs;unfold aB0
  rw [if_pos h,if_neg (by rw [h2];simp),h3,h4];rfl
abbrev A74 (Z:Ending->World->Prop):=AtO Tryz.prog (aAf Tryz.f74) (aAo (bodyPost Tryz.prog Tryz.f74 Z)) [] 33
theorem aNu {w:World}{v:Value}{l:List Sp}(hl:SpV w v l) (hw:wk l):Calls Tryz.prog 74 #[v] w fun e w'=>∃ b cs,e = .returned (vP b 0) /\ (WkA cs fun k=>mnB l k) /\ Mm nF_ w w' [bk b cs 138]:=by
  obtain ⟨p0,cp0,hp0,sp0⟩:=hl.op;subst hp0;have bp0:=sp0.bnd;refine beg Tryz.func74 rfl rfl [(0,vL p0 l.length cp0)] rfl rfl fun Z hZ=>?_;have hM:=Mm.nil nF_ w;refine aAp 1 1 7 [(6,.agg (zT Tryz.prog 138))] (cs:=zT Tryz.prog 138) (T:=138) (v:=fun b=>vP b 0) f0 hM fun aa w1 hM=>seg 3 0 [(3,vP aa 0),(4,vI 0)] f0 ?_
  have ae:∀ (ab:Nat) (i:Nat) (cs:Array Value) (w2:World),i<=l.length->(WkA cs fun k=>mnB (l.take i) k)->Mm nF_ w w2 [bk aa cs 138]->ab=l.length-i->A74 Z (some (3,0)) [(4,vI (i:Int)),(3,vP aa 0),(0,vL p0 l.length cp0)] w2:=by
   refine aA8 fun ab af i cs w2 hi hcs hM ak=>seg 3 4 [(11,vB (decide ((i:Int)<(l.length:Int))))] f0 ?_;cases h37:(decide ((i:Int)<(l.length:Int)))
   ·have ag:=df h37;exact rt1 2 (vP aa 0) rfl f0 (hZ _ _ ⟨aa,cs,rfl,by rw [show i=l.length by omega,List.take_length] at hcs;exact hcs,hM⟩)
   have ag:=dt h37;obtain ⟨y,hy,al,am,q38,ac⟩:=sp0.el (i:=i) (by omega);have hwy:=hw y (gm hy);refine seg 6 0 [(5,vI y.1)] (fc (ix 48 cp0 q38 (gl hy)) (fc (ld0 3 hM (ac 0 _ rfl)) f0)) ?_
   have ah:∀ (ad:Nat) (m:Int) (cs2:Array Value) (w2:World),y.1<=m->m<=y.2->(WkA cs2 fun k=>mnB (l.take i) k||(decide (y.1<=(k:Int))&&decide ((k:Int)<m)))->Mm nF_ w w2 [bk aa cs2 138]->ad=(y.2-m).toNat->A74 Z (some (6,0)) [(5,vI m),(4,vI (i:Int)),(3,vP aa 0),(0,vL p0 l.length cp0)] w2:=by
    refine aA8 fun ad ai m cs2 w2 hm1 hm2 hc2 hM an=>seg 6 7 [(25,vB (decide (m<y.2)))] (fc (ix 48 cp0 q38 (gl hy)) (fc (ld0 3 hM (ac 1 _ rfl)) f0)) ?_;cases h42:(decide (m<y.2))
    ·have aj:=df h42;have hme:m=y.2:=by have:=df h42;omega
     rw [hme] at hc2;refine seg 3 0 [(4,vI ((i:Int)+1))] (fc (aAe (i:Int) 1 u3_) f0) (aAb _ (af _ (by have:=gl hy;omega) (i+1) cs2 _ (gl hy) (aTv hy hc2) hM rfl))
    have aj:=dt h42;refine aFy 8 4 [(31,vP aa (0+m.toNat*1))] 4 0 m.toNat (vB true) (fc (aDU 138 10080 .i64 aa 0 m.toNat (by omega) (z:=m) (by omega)) f0) hM rfl (by have:=hc2.1;omega) fun w1 hM=>seg 6 0 [(5,vI (m+1))] (fc (aAe m 1 u3_) f0) (aAb _ (ai _ (by omega) (m+1) (Array.setIfInBounds cs2 m.toNat (vB true)) _ (by omega) (by omega) (aTw hc2 (by omega) hm1 (by omega)) hM rfl))
   exact aAb _ (ah _ y.1 cs _ (Int.le_refl _) (by omega) (hcs.ext fun k hk=>by dsimp only;rw [show (decide (y.1<=(k:Int))&&decide ((k:Int)<y.1))=false by rw [Bool.and_eq_false_iff];simp only [decide_eq_false_iff_not];omega,Bool.or_false]) hM rfl)
  exact aAb _ (ae _ 0 (zT Tryz.prog 138) _ (Gg_ _) (aOm.ext fun k hk=>rfl) hM rfl)
abbrev A77 (Z:Ending->World->Prop):=AtO Tryz.prog (aAf Tryz.f77) (aAo (bodyPost Tryz.prog Tryz.f77 Z)) [] 48
theorem aJR {w:World}{b:Nat}{cs:Array Value}{t:Nat->Bool}(hb:w.heap[b]?=some (.cells cs 138 (0,0))) (hcs:WkA cs t):Calls Tryz.prog 77 #[vP b 0] w fun e w'=>∃ v,e = .returned v /\ Mm nF_ w w' [rw_ spL 2 141 v (aB0 t 10080)]:=by
  refine beg Tryz.func77 rfl rfl [(0,vP b 0)] rfl rfl fun Z hZ=>?_;have hM:=Mm.nil nF_ w;have hM:=hM.row (f:=spL) (c:=2) (E:=141);refine seg 3 0 [(3,vL none 0 0),(4,vI 0)] f0 ?_
  have ah:∀ (ab:Nat) (n:Nat) (q:Option Addr) (cq:Nat) (w2:World),n<=10080->Mm nF_ w w2 [rw_ spL 2 141 (vL q (aB0 t n).length cq) (aB0 t n)]->ab=10080-n->A77 Z (some (3,0)) [(4,vI (n:Int)),(3,vL q (aB0 t n).length cq),(0,vP b 0)] w2:=by
   refine aA8 fun ab aa n q cq w2 hn hM al=>?_;have hrl:=aMm t n;refine seg 3 2 [(6,vB (decide ((n:Int)<10080)))] f0 ?_;cases h46:(decide ((n:Int)<10080))
   ·have ai:=df h46;have e9:aB0 t n=aB0 t 10080:=by rw [show n=10080 by omega]
    exact rt1 2 (vL q (aB0 t n).length cq) rfl f0 (hZ _ _ ⟨_,rfl,hM.cast (by rw [←e9])⟩)
   have ai:=dt h46;refine seg 5 6 [(14,vB (t n))] (fc (aDU 138 10080 .i64 b 0 n (by omega)) (fc (ldh 4 (hM.fr.obj hb id) (hcs.2 n (by omega))) f0)) ?_;cases h47:(t n)
   ·refine seg 3 0 [(4,vI ((n:Int)+1))] (fc (aDU 138 10080 .i64 b 0 n (by omega)) (fc (rz1 (ldh 4 (hM.fr.obj hb id) (hcs.2 n (by omega))) h47) (fc (aAe (n:Int) 1 u3_) f0))) ?_;have e9:(aB0 t n)=aB0 t (n+1):=aTQ h47;replace hM:Mm nF_ w _ [_]:=hM;rw [e9] at hM ⊢;exact aAb _ (aa _ (by omega) (n+1) q cq _ (by omega) hM rfl)
   refine seg 5 9 [(17,vB ((n:Int)==0))] f0 ?_;cases h48:((n:Int)==0)
   rotate_left
   ·have aj:=et h48;have hn0:(n==0)=true:=beq_iff_eq.2 (by have:=et h48;omega);refine aAp 6 5 32 [(27,vL q (aB0 t n).length cq),(31,.agg #[vI (n:Int),vI ((n:Int)+1)])] (cs:=#[vI (n:Int),vI ((n:Int)+1)]) (T:=141) (v:=fun b=>vL (some ⟨b,0,none⟩) 1 1) (fc (aAe (n:Int) 1 u3_) f0) hM fun am w1 hM=>aH5 6 6 33 [] (cap:=1) (by decide) spT f0 hM (j:=0) rfl (aAG (f:=spL) (x:=((n:Int),((n:Int)+1))) (hM.get 1 rfl) (Gq_ _)) (fun h=>by cases h) (by simp only [Gf_,Go_];omega) fun v54 w1 hM=>?_;obtain ⟨ac,ad,e54,-⟩:=(hM.src (j:=0) rfl spT.len).op;subst e54;refine seg 3 0 [(3,vL ac ((aB0 t n)++[((n:Int),((n:Int)+1))]).length ad),(4,vI ((n:Int)+1))] (fc (aAe (n:Int) 1 u3_) f0) ?_;have e9:((aB0 t n)++[((n:Int),((n:Int)+1))])=aB0 t (n+1):=aMl h47 (by simp only [hn0]<;>rfl);replace hM:=hM.pick [0];replace hM:Mm nF_ w _ [_]:=hM;rw [e9] at hM ⊢;exact aAb _ (aa _ (by omega) (n+1) ac ad _ (by omega) hM rfl)
   have aj:=ef h48;refine seg 5 18 [(26,vB (!(t (n-1))))] (fc (aBx (n:Int) 1 u3_) (fc (aDU 138 10080 .i64 b 0 (n-1) (by omega) (z:=((n:Int)-1)) (by omega)) (fc (ldh 4 (hM.fr.obj hb id) (hcs.2 (n-1) (by omega))) f0))) ?_;cases h49:(t (n-1))
   ·have hn0:(n==0)=false:=beq_eq_false_iff_ne.2 (by have:=ef h48;omega);refine aAp 6 5 32 [(27,vL q (aB0 t n).length cq),(31,.agg #[vI (n:Int),vI ((n:Int)+1)])] (cs:=#[vI (n:Int),vI ((n:Int)+1)]) (T:=141) (v:=fun b=>vL (some ⟨b,0,none⟩) 1 1) (fc (aAe (n:Int) 1 u3_) f0) hM fun an w1 hM=>aH5 6 6 33 [] (cap:=1) (by decide) spT f0 hM (j:=0) rfl (aAG (f:=spL) (x:=((n:Int),((n:Int)+1))) (hM.get 1 rfl) (Gq_ _)) (fun h=>by cases h) (by simp only [Gf_,Go_];omega) fun v51 w1 hM=>?_;obtain ⟨ae,af,e51,-⟩:=(hM.src (j:=0) rfl spT.len).op;subst e51;refine seg 3 0 [(3,vL ae ((aB0 t n)++[((n:Int),((n:Int)+1))]).length af),(4,vI ((n:Int)+1))] (fc (aAe (n:Int) 1 u3_) f0) ?_;have e9:((aB0 t n)++[((n:Int),((n:Int)+1))])=aB0 t (n+1):=aMl h47 (by simp only [hn0,h49]<;>rfl);replace hM:=hM.pick [0];replace hM:Mm nF_ w _ [_]:=hM;rw [e9] at hM ⊢;exact aAb _ (aa _ (by omega) (n+1) ae af _ (by omega) hM rfl)
   have hn0:(n==0)=false:=beq_eq_false_iff_ne.2 (by have:=ef h48;omega);have hne:=(aOT t n (by omega)).ne (by have:=ef h48;omega) h49;have hlp:=List.length_pos_iff.2 hne;obtain ⟨yl,hyl⟩:=geb (l:=(aB0 t n)) (i:=(aB0 t n).length-1) (by omega);obtain ⟨ak,ag,-⟩:=hM.el spT (j:=0) rfl hyl;refine aV1 8 8 [(44,vI ((n:Int)+1)),(46,vP ak ((0+((aB0 t n).length-1)*2)+1))] 3 0 1 (yl.1,((n:Int)+1)) (vI ((n:Int)+1)) spT (fc (aDU 138 10080 .i64 b 0 n (by omega)) (fc (rz1 (ldh 4 (hM.fr.obj hb id) (hcs.2 n (by omega))) h47) (fc (aBx ((aB0 t n).length:Int) 1 u3_) (fc (aAe (n:Int) 1 u3_) (fc (ix 48 cq ag (gl hyl) (z:=(((aB0 t n).length:Int)-1)) (hz:=(by omega))) f0))))) hM rfl ag hyl rfl fun w1 hM=>seg 3 0 [(4,vI ((n:Int)+1))] (fc (aAe (n:Int) 1 u3_) f0) ?_;have e9:((aB0 t n).set ((aB0 t n).length-1) (yl.1,((n:Int)+1)))=aB0 t (n+1):=aTP h47 (by simp only [hn0,h49]<;>rfl) hyl;replace hM:Mm nF_ w _ [_]:=hM;have e8:(aB0 t n).length=(aB0 t (n+1)).length:=by rw [←e9,List.length_set]
   rw [e9,e8] at hM;rw [e8];exact aAb _ (aa _ (by omega) (n+1) q cq _ (by omega) hM rfl)
  exact aAb _ (ah _ 0 none 0 _ (by omega) hM rfl)
theorem usb {w:World}(n:Int) (h:48<=n /\ n<=255):Ft.ok Tryz.prog w (.g2 (fun x y => .binOp .sub 5 x y 5) (.int .u8 n) (.int .u8 48) (.int .u8 (n-48))):=fun o ρ x y ho hx hy=>by
  have hw:IntKind.u8.wrap (n-48)=n-48:=by
    show (n-48)%_=n-48;exact Int.emod_eq_of_lt (by omega) (by show n-48<256;omega)
  simp [execOp,ho,hx,hy,go_sem,Tryz.underlying5,hw]
theorem aP4 {s:Bys}{i:Nat}{c:UInt8}(h:s[i]?=some c):aAF (s.take (i+1))=10*aAF (s.take i)+((c.toNat:Int)-48):=by
  unfold aAF;rw [gt_ h,List.foldl_append];rfl
theorem aSS {s:Bys}(hd:∀ b∈s,aAv b=true):∀ i,0<=aAF (s.take i) /\ aAF (s.take i)<10 ^ i
  | 0=>by unfold aAF;simp
  | i+1=>by
    have ih:=aSS hd i;rw [Int.pow_succ]
    cases h:s[i]? with
    | none =>
      rw [Gc_ (by have:=List.getElem?_eq_none_iff.1 h;omega)];rw [Gc_ (by have:=List.getElem?_eq_none_iff.1 h;omega)] at ih;generalize (10:Int) ^ i=P at ih ⊢;omega
    | some c =>
      have hc:=hd c (gm h);rw [aJa] at hc;simp only [Ga_,decide_eq_true_eq] at hc;rw [aP4 h];generalize aAF (s.take i)=k at ih ⊢;generalize (10:Int) ^ i=P at ih ⊢;omega
theorem aSR {s:Bys}(hd:∀ b∈s,aAv b=true) {i:Nat}(hi:i<=7):0<=aAF (s.take i) /\ aAF (s.take i)<=10000000:=by
  have h:=aSS hd i
  have hp:(10:Int) ^ i<=10000000:=by
    have:=Nat.pow_le_pow_right (show 0<10 by omega) hi;have h2:((10 ^ i:Nat):Int)=(10:Int) ^ i:=by simp
    omega
  omega
abbrev aY0 (Z:Ending->World->Prop):=AtO Tryz.prog (aAf Tryz.f146) (aAo (bodyPost Tryz.prog Tryz.f146 Z)) [] 22
theorem aBn (t:Tok Int) (hd:∀ b∈t.2.1,aAv b=true) (hl:t.2.1.length<=7) (w:World):Calls Tryz.prog 146 #[.agg #[vI t.1,vS t.2.1,vI t.2.2]] w fun e w'=>e = .returned (vI (aAF t.2.1)) /\ Fr nF_ w w':=by
  refine beg Tryz.func146 rfl rfl [(0,.agg #[vI t.1,vS t.2.1,vI t.2.2])] rfl rfl fun Z hZ=>?_;have hM:=Mm.nil nF_ w;refine aAp 0 0 1 [] (cs:=#[vI t.1,vS t.2.1,vI t.2.2]) (T:=186) (v:=fun b=>vP b 0) f0 hM fun ab w1 hM=>seg 3 0 [(3,vI 0),(4,vI 0)] f0 ?_
  have ad:∀ (ac:Nat) (i:Nat) (k:Int) (w2:World),i<=t.2.1.length->k=aAF (t.2.1.take i)->Mm nF_ w w2 [bk ab #[vI t.1,vS t.2.1,vI t.2.2] 186]->ac=t.2.1.length-i->aY0 Z (some (3,0)) [(4,vI (i:Int)),(3,vI k),(1,vP ab 0)] w2:=by
   refine aA8 fun ac ae i k w2 hi hk hM ag=>seg 3 5 [(9,vB (decide ((i:Int)<(t.2.1.length:Int))))] (fc (ldm 9 0 1 hM rfl rfl) (fc (aCA 9 t.2.1) f0)) ?_;cases h37:(decide ((i:Int)<(t.2.1.length:Int)))
   ·have af:=df h37;exact rt1 2 (vI k) rfl f0 (hZ _ _ ⟨by rw [hk,Gc_ (by omega)],hM.fr⟩)
   have af:=dt h37;have hkb:=aSR hd (i:=i) (by omega);rw [←hk] at hkb;obtain ⟨e38,aa⟩:=geb (l:=t.2.1) (i:=i) (by omega);have hdc:=hd e38 (gm aa);rw [aJa] at hdc;simp only [Ga_,decide_eq_true_eq] at hdc;refine seg 3 0 [(3,vI ((10*k)+((e38.toNat:Int)-48))),(4,vI ((i:Int)+1))] (fc (aIx 10 k u3_) (fc (ldm 9 0 1 hM rfl rfl) (fc (byt 9 aa) (fc (usb (e38.toNat:Int) (by omega)) (fc (b2i 5 3 ((e38.toNat:Int)-48) (by omega)) (fc (aAe (10*k) ((e38.toNat:Int)-48) u3_) (fc (aAe (i:Int) 1 u3_) f0))))))) ?_;have e9:((10*k)+((e38.toNat:Int)-48))=aAF (t.2.1.take (i+1)):=by rw [aP4 aa,←hk]
   exact aAb _ (ae _ (by have:=gl aa;omega) (i+1) ((10*k)+((e38.toNat:Int)-48)) _ (gl aa) e9 hM rfl)
  exact aAb _ (ad _ 0 0 _ (Gg_ _) rfl hM rfl)
def aMP (t:Tok Int):Int:=if t.1=1 /\ t.2.1∈aD2 then idx t.2.1 else -1
theorem aUL {t:Tok Int}{i:Nat}{d:Bys}(hi:aD2[i]?=some d) (h1:t.1=1) (h2:t.2.1=d) (h3:∀ j,j<i->∀ y,aD2[j]?=some y->t.2.1≠y):aMP t=i:=by
  have hm:t.2.1∈aD2:=by rw [h2];exact Ge_ hi
  unfold aMP;rw [if_pos ⟨h1,hm⟩];unfold idx;obtain ⟨hl,hv⟩:=List.getElem?_eq_some_iff.1 hi
  have:aD2.findIdx (· == t.2.1)=i:=by
    rw [List.findIdx_eq hl];refine ⟨by rw [hv,h2];simp,fun j hj=>?_⟩;have:=h3 j hj (aD2[j]'(by omega)) (Gb_ _);simpa using fun h=>this h.symm
  rw [this]
theorem aUK {t:Tok Int}(h:t.1≠1∨∀ (j:Nat) (y:Bys),aD2[j]?=some y->t.2.1≠y):aMP t = -1:=by
  unfold aMP;rw [if_neg];rintro ⟨h1,h2⟩;rcases h with h | h
  · exact h h1
  · obtain ⟨j,hj⟩:=List.getElem?_of_mem h2
    exact h j _ hj rfl
theorem aUc {w:World}:Calls Tryz.prog 169 #[] w fun e w'=>∃ u,e = .returned u /\ Mm nF_ w w' [rw_ stL 1 9 u aD2]:=by
  refine beg Tryz.func169 rfl rfl [] rfl rfl fun Z hZ=>?_;have hM:=Mm.nil nF_ w;refine aAp 1 0 1 [] (cs:=#[vS [109,111],vS [116,117],vS [119,101],vS [116,104],vS [102,114],vS [115,97],vS [115,117]]) (T:=9) (v:=fun b=>vL (some ⟨b,0,none⟩) 7 7) f0 hM fun aa w1 hM=>?_;have hM:=aDq hM (f:=stL) (c:=1) (j:=0) rfl [[109,111],[116,117],[119,101],[116,104],[102,114],[115,97],[115,117]] 7 rfl rfl rfl;exact rt1 0 (vL (some ⟨aa,0,none⟩) 7 7) rfl f0 (hZ _ _ ⟨_,rfl,hM.pick (M':=[rw_ stL 1 9 (vL (some ⟨aa,0,none⟩) 7 7) aD2]) [0]⟩)
abbrev aY1 (Z:Ending->World->Prop):=AtO Tryz.prog (aAf Tryz.f144) (aAo (bodyPost Tryz.prog Tryz.f144 Z)) [] 25
theorem aGS {w:World}(t:Tok Int):Calls Tryz.prog 144 #[.agg #[vI t.1,vS t.2.1,vI t.2.2]] w fun e w'=>e = .returned (vI (aMP t)) /\ Fr nF_ w w':=by
  refine beg Tryz.func144 rfl rfl [(0,.agg #[vI t.1,vS t.2.1,vI t.2.2])] rfl rfl fun Z hZ=>?_;have hM:=Mm.nil nF_ w;refine aAp 0 0 1 [] (cs:=#[vI t.1,vS t.2.1,vI t.2.2]) (T:=186) (v:=fun b=>vP b 0) f0 hM fun aa w1 hM=>aAM 1 0 5 [] (K:=fun u Mn=>∃ v1,u=v1 /\ Mn=[rw_ stL 1 9 v1 aD2]) [0] [] f0 hM rfl rfl (by decide) (fun hm=>(aUc.mono fun e w8 ⟨v1,h1,h2⟩=>⟨_,_,h1,⟨v1,rfl,rfl⟩,aCy h2 fun _ h=>h.elim⟩)) fun u Mn w1 hK hM=>?_;obtain ⟨v1,rfl,rfl⟩:=hK;obtain ⟨qb,cb,eb,sb⟩:=(hM.src (j:=1) rfl stT.len).op;subst eb;have hd7:aD2.length=7:=rfl;replace hM:Mm nF_ w w1 [bk aa #[vI t.1,vS t.2.1,vI t.2.2] 186,_]:=hM;refine seg 3 0 [(3,vL qb aD2.length cb),(4,vI 0)] f0 ?_
  have ae:∀ (ab:Nat) (i:Nat) (w2:World),i<=aD2.length->(∀ j,j<i->∀ y,aD2[j]?=some y->¬ (t.1=1 /\ t.2.1=y))->Mm nF_ w w2 [bk aa #[vI t.1,vS t.2.1,vI t.2.2] 186,rw_ stL 1 9 (vL qb aD2.length cb) aD2]->ab=aD2.length-i->aY1 Z (some (3,0)) [(4,vI (i:Int)),(3,vL qb aD2.length cb),(1,vP aa 0)] w2:=by
   refine aA8 fun ab ac i w2 hi hg hM ah=>seg 3 4 [(9,vB (decide ((i:Int)<(aD2.length:Int))))] f0 ?_;cases h38:(decide ((i:Int)<(aD2.length:Int)))
   ·have af:=df h38;exact rt1 2 (vI (-1)) rfl f0 (hZ _ _ ⟨by rw [aUK (by by_cases e9:t.1=1;exact .inr fun j9 y9 hy9 e8=>hg j9 (by have:=gl hy9;omega) y9 hy9 ⟨e9,e8⟩;exact .inl e9)],hM.fr⟩)
   have af:=dt h38;obtain ⟨y,hy⟩:=geb (l:=aD2) (i:=i) (by omega);refine seg 5 0 [] f0 ?_;cases h39:(t.1==1)
   ·have ag:=ef h39;have hM:=hM.q ((Fr.refl _ _).drew);refine drq [(23,vB false)] rfl (fc (ldm 3 0 0 hM rfl rfl) (fc (tv 14 h39) f0)) (seg 3 0 [(4,vI ((i:Int)+1))] (fc (aAe (i:Int) 1 u3_) f0) (aAb _ (ac _ (by have:=gl hy;omega) (i+1) _ (gl hy) (fun j9 hj9 y9 hy9=>by by_cases e9:j9=i;subst e9;rw [hy] at hy9;cases hy9;exact (fun q=>ef h39 q.1);exact hg j9 (by omega) y9 hy9) hM rfl)))
   have ag:=et h39;have hM:=hM.q ((Fr.refl _ _).drew);obtain ⟨ai,ad,-⟩:=hM.el stT (j:=1) rfl hy;refine drq [(23,vB (t.2.1==y))] rfl (fc (ldm 3 0 0 hM rfl rfl) (fc (tv 14 h39) (fc (ldm 9 0 1 hM rfl rfl) (fc (ix 28 cb ad (gl hy)) (fc (ldr 9 1 0 stT hM rfl ad hy rfl) (fc (seq 9 t.2.1 y) f0)))))) ?_;cases h42:(t.2.1==y)
   ·refine seg 3 0 [(4,vI ((i:Int)+1))] (fc (aAe (i:Int) 1 u3_) f0) (aAb _ (ac _ (by have:=gl hy;omega) (i+1) _ (gl hy) (fun j9 hj9 y9 hy9=>by by_cases e9:j9=i;subst e9;rw [hy] at hy9;cases hy9;exact (fun q=>ef h42 q.2);exact hg j9 (by omega) y9 hy9) hM rfl))
   exact rt1 2 (vI (i:Int)) rfl f0 (hZ _ _ ⟨by rw [aUL hy (et h39) (et h42) fun j9 hj9 y9 hy9 e9=>hg j9 hj9 y9 hy9 ⟨et h39,e9⟩],hM.fr⟩)
  exact aAb _ (ae _ 0 _ (Gg_ _) (fun j hj=>absurd hj (Nat.not_lt_zero _)) hM rfl)
def aCi (en:Int):List (Tok Int)->Int×Int
  | []=>(6,en)
  | t::_=>(5,t.2.2)
def aAh (e x:Int) (q:Int×Int):Int×Int:=if e=0 then q else (e,x)
def aCB (s:Bys):List (Tok Int)->Bool
  | []=>false
  | t::_=>t.1 != 3&&t.2.1==s
theorem aBc {w:World}{G:Nat->Prop}{b:Nat}{lv:Value}{i en e x:Int}(hM0:Mm G w w [bk b #[lv,vI i,vI en,vI e,vI x] 135]) (c p:Int):Calls Tryz.prog 78 #[vP b 0,vI c,vI p] w fun e9 w'=>e9 = .returned (.tuple #[]) /\ Mm G w w' [bk b #[lv,vI i,vI en,vI (aAh e x (c,p)).1,vI (aAh e x (c,p)).2] 135]:=by
  refine beg Tryz.func78 rfl rfl [(0,vP b 0),(1,vI c),(2,vI p)] rfl rfl fun Z hZ=>?_;have hM:=hM0;refine seg 0 5 [(10,vB (e==0))] (fc (ldm 32 0 3 hM rfl rfl) f0) ?_;cases h33:(e==0)
  ·have hq:=(show aAh e x (c,p)=(e,x) from if_neg (ef h33));exact rt0 rfl f0 (hZ _ _ ⟨rfl,by rw [hq];exact hM⟩)
  refine stm 1 4 [(12,vI c),(14,vP b 3)] 32 0 3 (vI c) f0 hM rfl fun w1 hM=>stm 2 4 [(16,vI p),(18,vP b 4)] 3 0 4 (vI p) f0 hM rfl fun w1 hM=>?_;have hq:=(show aAh e x (c,p)=(c,p) from if_pos (et h33));exact rt0 rfl f0 (hZ _ _ ⟨rfl,by rw [hq];exact hM⟩)
theorem aGI {wS w:World}{G:Nat->Prop}{q:Option Addr}{cq b i:Nat}{ts:List (Tok Int)}{en e x:Int}(hs:SrcP tkL 3 wS q cq ts) (hf:Fr nF_ wS w) (hG:∀ k,G k->wS.heap.size<=k) (hM0:Mm G w w [bk b #[vL q ts.length cq,vI (i:Int),vI en,vI e,vI x] 135]) (s:Bys):Calls Tryz.prog 73 #[vP b 0,vS s] w fun e9 w'=>e9 = .returned (vB (aCB s (ts.drop i))) /\ Mm G w w' [bk b #[vL q ts.length cq,vI (i:Int),vI en,vI e,vI x] 135]:=by
  have sb:=hs.b hf;refine beg Tryz.func73 rfl rfl [(0,vP b 0),(1,vS s)] rfl rfl fun Z hZ=>?_;have hM:=hM0;refine seg 1 0 [] f0 ?_;cases h34:(decide ((i:Int)<(ts.length:Int)))
  ·have ab:=df h34;have hit:=df h34;have hM:=hM.q ((Fr.refl _ _).drew);refine drq [(4,vB false)] rfl (fc (ldm 3 0 1 hM rfl rfl) (fc (ldm 130 0 0 hM rfl rfl) (fc (tv 14 h34) f0))) (rt1 4 (vB false) rfl f0 (hZ _ _ ⟨by rw [Gi_ (by omega)];rfl,hM⟩))
  have ab:=dt h34;have hit:=dt h34;obtain ⟨t,ht,ac,ad,q35,aa,n35⟩:=sb.eb hG (i:=i) (by omega);cases h36:(t.1==3)
  ·have hM:=hM.q ((Fr.refl _ _).drew);refine drq [(4,vB (t.2.1==s))] rfl (fc (ldm 3 0 1 hM rfl rfl) (fc (ldm 130 0 0 hM rfl rfl) (fc (tv 14 h34) (fc (ldm 130 0 0 hM rfl rfl) (fc (ldm 3 0 1 hM rfl rfl) (fc (ix 130 cq q35 (gl ht)) (fc (ld0 3 hM (aa 0 _ rfl) n35) (fc (tv 27 (b:=(!(t.1==3))) (c:=true) (by rw [h36]<;>rfl)) (fc (ldm 130 0 0 hM rfl rfl) (fc (ldm 3 0 1 hM rfl rfl) (fc (ix 130 cq q35 (gl ht)) (fc (ld0 9 hM (aa 1 _ rfl) n35) (fc (seq 9 t.2.1 s) f0))))))))))))) (rt1 4 (vB (t.2.1==s)) rfl f0 (hZ _ _ ⟨by rw [gd ht];show _=Ending.returned (vB ((!(t.1==3))&&(t.2.1==s)));simp only [h36]<;>rfl,hM⟩))
  have hM:=hM.q ((Fr.refl _ _).drew);refine drq [(4,vB false)] rfl (fc (ldm 3 0 1 hM rfl rfl) (fc (ldm 130 0 0 hM rfl rfl) (fc (tv 14 h34) (fc (ldm 130 0 0 hM rfl rfl) (fc (ldm 3 0 1 hM rfl rfl) (fc (ix 130 cq q35 (gl ht)) (fc (ld0 3 hM (aa 0 _ rfl) n35) (fc (tv 27 (b:=(!(t.1==3))) (c:=false) (by rw [h36]<;>rfl)) f0)))))))) (rt1 4 (vB false) rfl f0 (hZ _ _ ⟨by rw [gd ht];show _=Ending.returned (vB ((!(t.1==3))&&(t.2.1==s)));simp only [h36]<;>rfl,hM⟩))
theorem aUg {w:World}{b:Nat}{lv:Value}{i en e x:Int}(hm:(bk b #[lv,vI i,vI en,vI e,vI x] 135).H w) (c p:Int):Calls Tryz.prog 78 #[vP b 0,vI c,vI p] w fun e9 w'=>e9 = .returned (.tuple #[]) /\ Fr (bk b #[lv,vI i,vI en,vI e,vI x] 135).B w w' /\ (bk b #[lv,vI i,vI en,vI (aAh e x (c,p)).1,vI (aAh e x (c,p)).2] 135).H w' /\ ∀ k,(bk b #[lv,vI i,vI en,vI (aAh e x (c,p)).1,vI (aAh e x (c,p)).2] 135).B k->(bk b #[lv,vI i,vI en,vI e,vI x] 135).B k∨w.heap.size<=k :=
  (aBc (G:=(bk b #[lv,vI i,vI en,vI e,vI x] 135).B) ⟨Fr.refl _ _,fun e he=>by rw [Gd_] at he;subst he;exact hm,fun e he k hk _=>by rw [Gd_] at he;subst he;exact hk,List.pairwise_singleton _ _⟩ c p).mono fun e w' ⟨h1,h2⟩=>⟨h1,h2.fr,h2.get 0 rfl,fun k hk => .inl hk⟩
theorem aCb {wS w:World}{G:Nat->Prop}{q:Option Addr}{cq b i:Nat}{ts:List (Tok Int)}{en e x:Int}(hs:SrcP tkL 3 wS q cq ts) (hf:Fr nF_ wS w) (hG:∀ k,G k->wS.heap.size<=k) (hM0:Mm G w w [bk b #[vL q ts.length cq,vI (i:Int),vI en,vI e,vI x] 135]):Calls Tryz.prog 76 #[vP b 0] w fun e9 w'=>e9 = .returned (.tuple #[]) /\ Mm G w w' [bk b #[vL q ts.length cq,vI (i:Int),vI en,vI (aAh e x (aCi en (ts.drop i))).1,vI (aAh e x (aCi en (ts.drop i))).2] 135]:=by
  have sb:=hs.b hf;refine beg Tryz.func76 rfl rfl [(0,vP b 0)] rfl rfl fun Y hY=>?_;have hM:=hM0;refine seg 0 0 [] f0 ?_;have hM:=hM.q ((Fr.refl _ _).drew);refine drq [(11,vB (decide ((ts.length:Int)<=(i:Int))))] rfl (fc (ldm 3 0 1 hM rfl rfl) (fc (ldm 130 0 0 hM rfl rfl) f0)) ?_;cases h34:(decide ((ts.length:Int)<=(i:Int)))
  ·have aa:=df h34;have hit:=df h34;obtain ⟨t,ht,ac,ad,q35,ab,n35⟩:=sb.eb hG (i:=i) (by omega);refine seg 2 0 [] f0 (drx [12] (fun Z=>[some (.tuple #[])]) _ (fun Z l=>[bk b #[vL q ts.length cq,vI (i:Int),vI en,(bif l.getD 0 false then vI (aAh e x (5,t.2.2)).1 else vI e),(bif l.getD 0 false then vI (aAh e x (5,t.2.2)).2 else vI x)] 135]) (fun Z=>[]) hM (fun Z=>rfl) (fun Z l w5 hM=>(fc (ldm 130 0 0 hM rfl rfl) (fc (ldm 3 0 1 hM rfl rfl) (fc (ix 130 cq q35 (gl ht)) (fc (ld0 3 hM (ab 2 _ rfl) n35) f0))))) ⟨aTq 0 12 0 30 (f:=78) (fun Z=>#[vP b 0,vI 5,vI t.2.2]) (.tuple #[]) (bk b #[vL q ts.length cq,vI (i:Int),vI en,vI e,vI x] 135) (bk b #[vL q ts.length cq,vI (i:Int),vI en,vI (aAh e x (5,t.2.2)).1,vI (aAh e x (5,t.2.2)).2] 135) (fun Z wm hH hf=>aUg hH 5 t.2.2),trivial⟩ fun ae w1 hM=>?_);replace hM:Mm G w w1 [bk b #[vL q ts.length cq,vI (i:Int),vI en,vI (aAh e x (5,t.2.2)).1,vI (aAh e x (5,t.2.2)).2] 135]:=hM;have hfp:aCi en (ts.drop i)=(5,t.2.2):=by rw [gd ht];rfl
   exact rt0 rfl f0 (hY _ _ ⟨rfl,by rw [hfp];exact hM⟩)
  have aa:=dt h34;have hit:=dt h34;refine aAM 1 5 17 [(12,vP b 0),(16,vI en)] (K:=fun u Mn=>u = .tuple #[] /\ Mn=[bk b #[vL q ts.length cq,vI (i:Int),vI en,vI (aAh e x (6,en)).1,vI (aAh e x (6,en)).2] 135]) [] [0] (fc (ldm 3 0 2 hM rfl rfl) f0) hM rfl rfl (by decide) (fun hm=>((aBc hm 6 en).mono fun e9 w8 ⟨h1,h2⟩=>⟨_,_,h1,⟨rfl,rfl⟩,h2⟩)) fun u Mn w1 hK hM=>?_;obtain ⟨rfl,rfl⟩:=hK;have hfp:aCi en (ts.drop i)=(6,en):=by rw [Gi_ (by omega)];rfl
  exact rt0 rfl f0 (hY _ _ ⟨rfl,by rw [hfp];exact hM⟩)
def aEt (en:Int) (s:Bys) (ts:List (Tok Int)) (e x:Int):Int×Int:=if e=0 /\ aCB s ts=false then aCi en ts else (e,x)
theorem aLv {wS w:World}{G:Nat->Prop}{q:Option Addr}{cq b i:Nat}{ts:List (Tok Int)}{en e x:Int}(hs:SrcP tkL 3 wS q cq ts) (hf:Fr nF_ wS w) (hG:∀ k,G k->wS.heap.size<=k) (hi:i<=1000000) (hM0:Mm G w w [bk b #[vL q ts.length cq,vI (i:Int),vI en,vI e,vI x] 135]) (s:Bys):Calls Tryz.prog 113 #[vP b 0,vS s] w fun e9 w'=>e9 = .returned (.tuple #[]) /\ Mm G w w' [bk b #[vL q ts.length cq,vI ((i:Int)+1),vI en,vI (aEt en s (ts.drop i) e x).1,vI (aEt en s (ts.drop i) e x).2] 135]:=by
  refine beg Tryz.func113 rfl rfl [(0,vP b 0),(1,vS s)] rfl rfl fun Z hZ=>?_;have hM:=hM0;have hfw:∀ {w1:World},Fr G w w1->Fr nF_ wS w1:=fun f=>hf.trans' f fun r hr hg=>by have:=hG r hg;omega
  have hGm:∀ {w1:World}{E9:Ent},Mm G w w1 [E9]->∀ k,BlM [E9] k->wS.heap.size<=k:=fun h k ⟨z,hz,hk⟩=>by by_cases hlt:k<w.heap.size;exact hG k (h.own z hz k hk hlt);have:=hf.size;omega
  refine seg 0 6 [(9,vB (e==0))] (fc (ldm 32 0 3 hM rfl rfl) f0) ?_;cases h34:(e==0)
  ·refine stm 2 7 [(21,vI ((i:Int)+1)),(23,vP b 1)] 3 0 1 (vI ((i:Int)+1)) (fc (ldm 3 0 1 hM rfl rfl) (fc (aAe (i:Int) 1 u3_) f0)) hM rfl fun w1 hM=>?_;have hq:aEt en s (ts.drop i) e x=(e,x):=if_neg (fun h=>ef h34 h.1);exact rt0 rfl f0 (hZ _ _ ⟨rfl,by rw [hq];exact hM⟩)
  refine aAM 0 8 12 [(10,vP b 0),(11,vS s)] (K:=fun u Mn=>u=vB (aCB s (ts.drop i)) /\ Mn=[bk b #[vL q ts.length cq,vI (i:Int),vI en,vI e,vI x] 135]) [] [0] f0 hM rfl rfl (by decide) (fun hm=>((aGI hs (hfw hM.fr) (hGm hM) hm s).mono fun e9 w8 ⟨h1,h2⟩=>⟨_,_,h1,⟨rfl,rfl⟩,h2⟩)) fun u Mn w1 hK hM=>?_;obtain ⟨rfl,rfl⟩:=hK;refine seg 0 11 [(14,vB (!(aCB s (ts.drop i))))] f0 ?_;cases h35:(aCB s (ts.drop i))
  ·refine aAM 1 1 16 [(15,vP b 0)] (K:=fun u Mn=>u = .tuple #[] /\ Mn=[bk b #[vL q ts.length cq,vI (i:Int),vI en,vI (aAh e x (aCi en (ts.drop i))).1,vI (aAh e x (aCi en (ts.drop i))).2] 135]) [] [0] f0 hM rfl rfl (by decide) (fun hm=>((aCb hs (hfw hM.fr) (hGm hM) hm).mono fun e9 w8 ⟨h1,h2⟩=>⟨_,_,h1,⟨rfl,rfl⟩,h2⟩)) fun u Mn w1 hK hM=>?_;obtain ⟨rfl,rfl⟩:=hK;refine stm 2 7 [(21,vI ((i:Int)+1)),(23,vP b 1)] 3 0 1 (vI ((i:Int)+1)) (fc (ldm 3 0 1 hM rfl rfl) (fc (aAe (i:Int) 1 u3_) f0)) hM rfl fun w1 hM=>?_;have hq:aEt en s (ts.drop i) e x=aAh e x (aCi en (ts.drop i)):=by unfold aEt aAh;rw [if_pos ⟨et h34,h35⟩,if_pos (et h34)]
   exact rt0 rfl f0 (hZ _ _ ⟨rfl,by rw [hq];exact hM⟩)
  refine stm 2 7 [(21,vI ((i:Int)+1)),(23,vP b 1)] 3 0 1 (vI ((i:Int)+1)) (fc (ldm 3 0 1 hM rfl rfl) (fc (aAe (i:Int) 1 u3_) f0)) hM rfl fun w1 hM=>?_;have hq:aEt en s (ts.drop i) e x=(e,x):=if_neg (fun h=>by rw [h35] at h;cases h.2);exact rt0 rfl f0 (hZ _ _ ⟨rfl,by rw [hq];exact hM⟩)
def aEC (en:Int) (ts:List (Tok Int)) (i:Nat) (e x:Int):Tok Int×Nat×Int×Int :=
  if e=0 then (match ts.drop i with | []=>((0,[],0),i,6,en) | t::_=>if t.1=2 then (t,i+1,e,x) else ((0,[],0),i,5,t.2.2)) else ((0,[],0),i,e,x)
theorem aIO {wS w:World}{G:Nat->Prop}{q:Option Addr}{cq b i:Nat}{ts:List (Tok Int)}{en e x:Int}(hs:SrcP tkL 3 wS q cq ts) (hf:Fr nF_ wS w) (hG:∀ k,G k->wS.heap.size<=k) (hi:i<=1000000) (hM0:Mm G w w [bk b #[vL q ts.length cq,vI (i:Int),vI en,vI e,vI x] 135]):Calls Tryz.prog 145 #[vP b 0] w fun e9 w'=>e9 = .returned (.agg #[vI (aEC en ts i e x).1.1,vS (aEC en ts i e x).1.2.1,vI (aEC en ts i e x).1.2.2]) /\ Mm G w w' [bk b #[vL q ts.length cq,vI ((aEC en ts i e x).2.1:Int),vI en,vI (aEC en ts i e x).2.2.1,vI (aEC en ts i e x).2.2.2] 135]:=by
  have sb:=hs.b hf;refine beg Tryz.func145 rfl rfl [(0,vP b 0)] rfl rfl fun Y hY=>?_;have hM:=hM0;have hfw:∀ {w1:World},Fr G w w1->Fr nF_ wS w1:=fun f=>hf.trans' f fun r hr hg=>by have:=hG r hg;omega
  have hGm:∀ {w1:World}{M9:List Ent},Mm G w w1 M9->∀ {E9:Ent},E9∈M9->∀ k,BlM [E9] k->wS.heap.size<=k:=fun h E9 hE k ⟨z,hz,hk⟩=>by rw [Gd_] at hz;subst hz;by_cases hlt:k<w.heap.size;exact hG k (h.own z hE k hk hlt);have:=hf.size;omega
  refine aAp 0 0 2 [] (cs:=#[vI 0,vS [],vI 0]) (T:=186) (v:=fun b=>vP b 0) f0 hM fun aa w1 hM=>seg 1 5 [(7,vB (!(e==0)))] (fc (ldm 32 0 3 hM rfl rfl) f0) ?_;cases h37:(e==0)
  ·refine stm 2 1 [(8,.agg #[vI 0,vS [],vI 0])] 186 1 0 (.agg #[vI 0,vS [],vI 0]) f0 hM rfl fun w1 hM=>?_;have hq:aEC en ts i e x=((0,[],0),i,e,x):=if_neg (ef h37);exact rtc 2 186 rfl (aAi 186 1 hM rfl rfl) f0 (hY _ _ ⟨by rw [hq]<;>rfl,by rw [hq];exact hM.pick [0]⟩)
  refine seg 3 0 [] f0 ?_;cases h38:(decide ((ts.length:Int)<=(i:Int)))
  rotate_left
  ·have ac:=dt h38;have hit:=dt h38;have hM:=hM.q ((Fr.refl _ _).drew);refine drq [(32,vB true)] rfl (fc (ldm 3 0 1 hM rfl rfl) (fc (ldm 130 0 0 hM rfl rfl) (fc (tv 18 h38) f0))) (aAM 4 1 34 [(33,vP b 0)] (K:=fun u Mn=>u = .tuple #[] /\ Mn=[bk b #[vL q ts.length cq,vI (i:Int),vI en,vI (aAh e x (aCi en (ts.drop i))).1,vI (aAh e x (aCi en (ts.drop i))).2] 135]) [1] [0] f0 hM rfl rfl (by decide) (fun hm=>((aCb hs (hfw hM.fr) (hGm hM (.head _)) hm).mono fun e9 w8 ⟨h1,h2⟩=>⟨_,_,h1,⟨rfl,rfl⟩,h2⟩)) fun u Mn w1 hK hM=>?_);obtain ⟨rfl,rfl⟩:=hK;refine stm 5 1 [(35,.agg #[vI 0,vS [],vI 0])] 186 0 0 (.agg #[vI 0,vS [],vI 0]) f0 hM rfl fun w1 hM=>?_;have hq:aEC en ts i e x=((0,[],0),i,6,en):=by unfold aEC;rw [if_pos (et h37),Gi_ (by omega)]
   have hfe:aAh e x (aCi en (ts.drop i))=(6,en):=by unfold aAh;rw [if_pos (et h37),Gi_ (by omega)];rfl
   rw [hfe] at hM;exact rtc 2 186 rfl (aAi 186 0 hM rfl rfl) f0 (hY _ _ ⟨by rw [hq]<;>rfl,by rw [hq];exact hM.pick [1]⟩)
  have ac:=df h38;have hit:=df h38;obtain ⟨t,ht,ad,ae,q39,ab,n39⟩:=sb.eb hG (i:=i) (by omega);have hM:=hM.q ((Fr.refl _ _).drew);refine drq [(32,vB (!(t.1==2)))] rfl (fc (ldm 3 0 1 hM rfl rfl) (fc (ldm 130 0 0 hM rfl rfl) (fc (tv 18 h38) (fc (ldm 130 0 0 hM rfl rfl) (fc (ldm 3 0 1 hM rfl rfl) (fc (ix 130 cq q39 (gl ht)) (fc (ld0 3 hM (ab 0 _ rfl) n39) f0))))))) ?_;cases h40:(t.1==2)
  rotate_left
  ·refine stm 6 7 [(40,vI ((i:Int)+1)),(42,vP b 1)] 3 0 1 (vI ((i:Int)+1)) (fc (ldm 3 0 1 hM rfl rfl) (fc (aAe (i:Int) 1 u3_) f0)) hM rfl fun w1 hM=>seg 7 0 [] f0 (drx [11] (fun Z=>[none]) _ (fun Z l=>[bk b #[vL q ts.length cq,vI ((i:Int)+1),vI en,vI e,vI x] 135,bk aa #[(bif l.getD 0 false then vI t.1 else vI 0),(bif l.getD 0 false then vS t.2.1 else vS []),(bif l.getD 0 false then vI t.2.2 else vI 0)] 186]) (fun Z=>[]) hM (fun Z=>rfl) (fun Z l w5 hM=>(fc (ldm 130 0 0 hM rfl rfl) (fc (ldm 3 0 1 hM rfl rfl) (fc (aBx ((i:Int)+1) 1 u3_) (fc (ix 130 cq q39 (gl ht) (z:=(((i:Int)+1)-1)) (hz:=(by omega))) (fc (la0 186 hM ab n39) f0)))))) ⟨aB8 0 11 186 1 0 (fun Z=>aa) (fun Z l=>#[(bif l.getD 0 false then vI t.1 else vI 0),(bif l.getD 0 false then vS t.2.1 else vS []),(bif l.getD 0 false then vI t.2.2 else vI 0)]) 186 (fun Z => .agg #[vI t.1,vS t.2.1,vI t.2.2]),trivial⟩ fun af w1 hM=>?_);replace hM:Mm G w w1 [bk b #[vL q ts.length cq,vI ((i:Int)+1),vI en,vI e,vI x] 135,bk aa #[vI t.1,vS t.2.1,vI t.2.2] 186]:=hM;have hq:aEC en ts i e x=(t,i+1,e,x):=by unfold aEC;rw [if_pos (et h37),gd ht];exact if_pos (et h40)
   exact rtc 2 186 rfl (aAi 186 1 hM rfl rfl) f0 (hY _ _ ⟨by rw [hq]<;>rfl,by rw [hq];exact hM.pick [0]⟩)
  refine aAM 4 1 34 [(33,vP b 0)] (K:=fun u Mn=>u = .tuple #[] /\ Mn=[bk b #[vL q ts.length cq,vI (i:Int),vI en,vI (aAh e x (aCi en (ts.drop i))).1,vI (aAh e x (aCi en (ts.drop i))).2] 135]) [1] [0] f0 hM rfl rfl (by decide) (fun hm=>((aCb hs (hfw hM.fr) (hGm hM (.head _)) hm).mono fun e9 w8 ⟨h1,h2⟩=>⟨_,_,h1,⟨rfl,rfl⟩,h2⟩)) fun u Mn w1 hK hM=>?_;obtain ⟨rfl,rfl⟩:=hK;refine stm 5 1 [(35,.agg #[vI 0,vS [],vI 0])] 186 0 0 (.agg #[vI 0,vS [],vI 0]) f0 hM rfl fun w1 hM=>?_;have hq:aEC en ts i e x=((0,[],0),i,5,t.2.2):=by unfold aEC;rw [if_pos (et h37),gd ht];exact if_neg (ef h40)
  have hfe:aAh e x (aCi en (ts.drop i))=(5,t.2.2):=by unfold aAh;rw [if_pos (et h37),gd ht];rfl
  rw [hfe] at hM;exact rtc 2 186 rfl (aAi 186 0 hM rfl rfl) f0 (hY _ _ ⟨by rw [hq]<;>rfl,by rw [hq];exact hM.pick [1]⟩)
def dyR (en:Int) (ts:List (Tok Int)) (i:Nat) (e x:Int):Int×Nat×Int×Int :=
  if e=0 then (match ts.drop i with | []=>(0,i,6,en) | t::_=>if aMP t<0 then (0,i,5,t.2.2) else (aMP t,i+1,e,x)) else (0,i,e,x)
theorem aML {en:Int}{ts:List (Tok Int)}(i:Nat) (x:Int):dyR en ts i 0 x=match take en 1 aD2 (ts.drop i) with | .ok (t,_)=>(idx t.2.1,i+1,0,x) | .error (c,y)=>(0,i,c,y):=by
  unfold dyR take;rw [if_pos rfl]
  cases ts.drop i with
  | nil=>rfl
  | cons t l =>
    have hs:aBB 1 aD2 (t::l)=(t.1==1&&(aD2.isEmpty||aD2.contains t.2.1)):=rfl;simp only;rw [hs];have he:aD2.isEmpty=false:=rfl;rw [he,Bool.false_or];have hidx:∀ d∈aD2,0<=idx d:=by decide +kernel
    by_cases h:t.1=1 /\ t.2.1∈aD2
    · have h0:=hidx _ h.2
      have hd:aMP t=idx t.2.1:=if_pos h;rw [hd,if_neg (by omega),if_pos (by rw [Ga_];exact ⟨by simpa using h.1,by simpa using h.2⟩)]
    · have hd:aMP t = -1:=if_neg h
      rw [hd,if_pos (by decide),if_neg (by rw [Ga_];rintro ⟨h1,h2⟩;exact h ⟨by simpa using h1,by simpa using h2⟩)]
theorem aNL {wS w:World}{G:Nat->Prop}{q:Option Addr}{cq b i:Nat}{ts:List (Tok Int)}{en e x:Int}(hs:SrcP tkL 3 wS q cq ts) (hf:Fr nF_ wS w) (hG:∀ k,G k->wS.heap.size<=k) (hi:i<=1000000) (hM0:Mm G w w [bk b #[vL q ts.length cq,vI (i:Int),vI en,vI e,vI x] 135]):Calls Tryz.prog 111 #[vP b 0] w fun e9 w'=>e9 = .returned (vI (dyR en ts i e x).1) /\ Mm G w w' [bk b #[vL q ts.length cq,vI ((dyR en ts i e x).2.1:Int),vI en,vI (dyR en ts i e x).2.2.1,vI (dyR en ts i e x).2.2.2] 135]:=by
  have sb:=hs.b hf;refine beg Tryz.func111 rfl rfl [(0,vP b 0)] rfl rfl fun Z hZ=>?_;have hM:=hM0;have hfw:∀ {w1:World},Fr G w w1->Fr nF_ wS w1:=fun f=>hf.trans' f fun r hr hg=>by have:=hG r hg;omega
  have hGm:∀ {w1:World}{M9:List Ent},Mm G w w1 M9->∀ {E9:Ent},E9∈M9->∀ k,BlM [E9] k->wS.heap.size<=k:=fun h E9 hE k ⟨z,hz,hk⟩=>by rw [Gd_] at hz;subst hz;by_cases hlt:k<w.heap.size;exact hG k (h.own z hE k hk hlt);have:=hf.size;omega
  refine seg 1 5 [(7,vB (!(e==0)))] (fc (ldm 32 0 3 hM rfl rfl) f0) ?_;cases h36:(e==0)
  ·have hq:dyR en ts i e x=(0,i,e,x):=if_neg (ef h36);exact rt1 2 (vI 0) rfl f0 (hZ _ _ ⟨by rw [hq]<;>rfl,by rw [hq];exact hM.pick [0]⟩)
  refine seg 3 0 [] f0 ?_;cases h37:(decide ((ts.length:Int)<=(i:Int)))
  rotate_left
  ·have ab:=dt h37;have hit:=dt h37;refine drc [(31,vB true)] hM (fun w5 hM=>(fc (ldm 3 0 1 hM rfl rfl) (fc (ldm 130 0 0 hM rfl rfl) (fc (tv 17 h37) f0)))) fun w5 hM=>aAM 4 1 33 [(32,vP b 0)] (K:=fun u Mn=>u = .tuple #[] /\ Mn=[bk b #[vL q ts.length cq,vI (i:Int),vI en,vI (aAh e x (aCi en (ts.drop i))).1,vI (aAh e x (aCi en (ts.drop i))).2] 135]) [] [0] f0 hM rfl rfl (by decide) (fun hm=>((aCb hs (hfw hM.fr) (hGm hM (.head _)) hm).mono fun e9 w8 ⟨h1,h2⟩=>⟨_,_,h1,⟨rfl,rfl⟩,h2⟩)) fun u Mn w1 hK hM=>?_;obtain ⟨rfl,rfl⟩:=hK;have hq:dyR en ts i e x=(0,i,6,en):=by unfold dyR;rw [if_pos (et h36),Gi_ (by omega)]
   have hfe:aAh e x (aCi en (ts.drop i))=(6,en):=by unfold aAh;rw [if_pos (et h36),Gi_ (by omega)];rfl
   rw [hfe] at hM;exact rt1 2 (vI 0) rfl f0 (hZ _ _ ⟨by rw [hq]<;>rfl,by rw [hq];exact hM.pick [0]⟩)
  have ab:=df h37;have hit:=df h37;obtain ⟨t,ht,ac,ad,q38,aa,n38⟩:=sb.eb hG (i:=i) (by omega);refine drc [(31,vB (decide ((aMP t)<0)))] hM (fun w5 hM=>(fc (ldm 3 0 1 hM rfl rfl) (fc (ldm 130 0 0 hM rfl rfl) (fc (tv 17 h37) (fc (ldm 130 0 0 hM rfl rfl) (fc (ldm 3 0 1 hM rfl rfl) (fc (ix 130 cq q38 (gl ht)) (fc (la0 186 hM aa n38) (fc (tcl (aGS t)) f0))))))))) fun w5 hM=>?_;cases h39:(decide ((aMP t)<0))
  ·refine stm 6 7 [(38,vI ((i:Int)+1)),(40,vP b 1)] 3 0 1 (vI ((i:Int)+1)) (fc (ldm 3 0 1 hM rfl rfl) (fc (aAe (i:Int) 1 u3_) f0)) hM rfl fun w1 hM=>seg 7 0 [] f0 (drc [(2,vI (aMP t))] hM (fun w5 hM=>(fc (ldm 130 0 0 hM rfl rfl) (fc (ldm 3 0 1 hM rfl rfl) (fc (aBx ((i:Int)+1) 1 u3_) (fc (ix 130 cq q38 (gl ht) (z:=(((i:Int)+1)-1)) (hz:=(by omega))) (fc (la0 186 hM aa n38) (fc (tcl (aGS t)) f0))))))) fun w5 hM=>?_);have hq:dyR en ts i e x=(aMP t,i+1,e,x):=by unfold dyR;rw [if_pos (et h36),gd ht];exact if_neg (df h39)
   exact rt1 2 (vI (aMP t)) rfl f0 (hZ _ _ ⟨by rw [hq]<;>rfl,by rw [hq];exact hM.pick [0]⟩)
  refine aAM 4 1 33 [(32,vP b 0)] (K:=fun u Mn=>u = .tuple #[] /\ Mn=[bk b #[vL q ts.length cq,vI (i:Int),vI en,vI (aAh e x (aCi en (ts.drop i))).1,vI (aAh e x (aCi en (ts.drop i))).2] 135]) [] [0] f0 hM rfl rfl (by decide) (fun hm=>((aCb hs (hfw hM.fr) (hGm hM (.head _)) hm).mono fun e9 w8 ⟨h1,h2⟩=>⟨_,_,h1,⟨rfl,rfl⟩,h2⟩)) fun u Mn w1 hK hM=>?_;obtain ⟨rfl,rfl⟩:=hK;have hq:dyR en ts i e x=(0,i,5,t.2.2):=by unfold dyR;rw [if_pos (et h36),gd ht];exact if_pos (dt h39)
  have hfe:aAh e x (aCi en (ts.drop i))=(5,t.2.2):=by unfold aAh;rw [if_pos (et h36),gd ht];rfl
  rw [hfe] at hM;exact rt1 2 (vI 0) rfl f0 (hZ _ _ ⟨by rw [hq]<;>rfl,by rw [hq];exact hM.pick [0]⟩)
def aOb (b:Bool) (h:Tok Int) (e x:Int):Int×Int:=if e=0 /\ (24<aAF h.2.1∨(b=true /\ aAF h.2.1=24)) then (10,h.2.2) else (e,x)
def aNz (h m:Tok Int) (e x:Int):Int×Int:=if e=0 /\ (m.2.1.length≠2∨59<aAF m.2.1∨(aAF h.2.1=24 /\ aAF m.2.1≠0)) then (10,m.2.2) else (e,x)
theorem aGr {en:Int}{ts:List (Tok Int)}(hk:Tk ts) {i:Nat}{e x:Int}:(∀ b∈(aEC en ts i e x).1.2.1,aAv b=true) /\ (aEC en ts i e x).1.2.1.length<=7 /\ (aEC en ts i e x).2.1<=i+1:=by
  unfold aEC
  split
  · split
    · exact ⟨fun b hb=>by simp at hb,by simp,by simp⟩
    · rename_i t l he
      split
      · rename_i h2
        have ht:t∈ts:=List.mem_of_mem_drop (i:=i) (by rw [he];simp);rcases hk t ht with ⟨h,_⟩ | ⟨_,_,h3,h4⟩ | h | ⟨h,_⟩
        · omega
        · exact ⟨h4,h3,by simp⟩
        · omega
        · omega
      · exact ⟨fun b hb=>by simp at hb,by simp,by simp⟩
  · exact ⟨fun b hb=>by simp at hb,by simp,by simp⟩
theorem aGq {l:Bys}(hd:∀ b∈l,aAv b=true) (hl:l.length<=7):0<=aAF l /\ aAF l<=10000000:=by
  have:=aSR hd (i:=l.length) hl;rw [List.take_length] at this;exact this
theorem aKc {en:Int}{ts:List (Tok Int)}(i:Nat) (x:Int):aEC en ts i 0 x=match take en 2 [] (ts.drop i) with | .ok (t,_)=>(t,i+1,0,x) | .error (c,y)=>((0,[],0),i,c,y):=by
  unfold aEC take;rw [if_pos rfl]
  cases ts.drop i with
  | nil=>rfl
  | cons t l =>
    simp only [aBB,List.isEmpty_nil,Bool.true_or,Bool.and_true]
    by_cases h:t.1=2
    · rw [if_pos h,if_pos (by simpa using h)]
    · rw [if_neg h,if_neg (by simpa using h)]
theorem aFe {en:Int}{ts:List (Tok Int)}{i:Nat}{e x:Int}(h:e≠0):aEC en ts i e x=((0,[],0),i,e,x):=by unfold aEC;rw [if_neg h]
theorem aFi {en:Int}{s:Bys}{ts:List (Tok Int)}{e x:Int}(h:e≠0):aEt en s ts e x=(e,x):=by unfold aEt;rw [if_neg (fun k=>h k.1)]
theorem aMp {b:Bool}{h:Tok Int}{e x:Int}(k:e≠0):aOb b h e x=(e,x):=by unfold aOb;rw [if_neg (fun z=>k z.1)]
theorem aEZ {h m:Tok Int}{e x:Int}(k:e≠0):aNz h m e x=(e,x):=by unfold aNz;rw [if_neg (fun z=>k z.1)]
theorem aGJ {c:UInt8}(hc:aD1 c=true) {ts:List (Tok Int)}(hk:Tk ts):aCB [c] ts=aBB 4 [[c]] ts:=by
  cases ts with
  | nil=>rfl
  | cons t l =>
    have hs:=aKl hc;show (t.1 != 3&&t.2.1==[c])=(t.1==4&&(([[c]]:List Bys).isEmpty||([[c]]:List Bys).contains t.2.1));rcases hk t (by simp) with ⟨h1,d,r,h2,h3⟩ | ⟨h1,h2,h3,h4⟩ | h1 | ⟨h1,d,h2,h3⟩
    · have hn:¬ t.2.1=[c]:=by
        intro h;rw [h2] at h;cases h;have:=hs.2.2.1;rw [h3] at this;cases this
      rw [h1,beq_eq_false_iff_ne.2 hn];simp
    · have hn:¬ t.2.1=[c]:=by
        intro h;rw [h] at h4;have h5:=h4 c (by simp);have:=hs.2.2.2.1;rw [h5] at this;cases this
      rw [h1,beq_eq_false_iff_ne.2 hn];simp
    · rw [h1];simp
    · rw [h1,Bool.eq_iff_iff];simp
theorem aIe {en:Int}{c:UInt8}(hc:aD1 c=true) {ts:List (Tok Int)}(hk:Tk ts) (x:Int):aEt en [c] ts 0 x=match take en 4 [[c]] ts with | .ok _=>(0,x) | .error q=>q:=by
  unfold aEt;rw [aGJ hc hk];unfold take
  cases ts with
  | nil=>rfl
  | cons t l =>
    simp only
    cases h:aBB 4 [[c]] (t::l) with
    | true=>simp
    | false=>simp [aCi]
theorem take_drop {en k:Int}{xs:List Bys}{ts:List (Tok Int)}{i:Nat}{t:Tok Int}{l:List (Tok Int)}(h:take en k xs (ts.drop i) = .ok (t,l)):l=ts.drop (i+1):=by
  have:=(aAZ h).1;have h2:=congrArg (List.drop 1) this;simpa [List.drop_drop,Nat.add_comm] using h2.symm
theorem aCW {en k:Int}{xs:List Bys}{ts:List (Tok Int)}{c y:Int}(h:take en k xs ts = .error (c,y)):c≠0:=by
  unfold take at h
  split at h
  · cases h;decide
  · split at h
    · cases h
    · cases h;decide
theorem aWm {en:Int}{ts:List (Tok Int)}(hk:Tk ts) {i:Nat}{x:Int}{b:Bool}{h m:Tok Int}{i1 i4:Nat}{e1 x1 e2 x2 e3 x3 e4 x4 e5 x5:Int}(q1:(h,i1,e1,x1)=aEC en ts i 0 x) (q2:(e2,x2)=aOb b h e1 x1) (q3:(e3,x3)=aEt en [58] (ts.drop i1) e2 x2) (q4:(m,i4,e4,x4)=aEC en ts (i1+1) e3 x3) (q5:(e5,x5)=aNz h m e4 x4) :
    match clock en (if b=true then 23 else 24) (ts.drop i) with
    | .ok ((a,y),l)=>e5=0 /\ 60*aAF h.2.1+aAF m.2.1=a /\ h.2.2=y /\ l=ts.drop i4
    | .error (c,y)=>c≠0 /\ (e5,x5)=(c,y):=by
  unfold clock;rw [aKc] at q1
  cases t1:take en 2 [] (ts.drop i) with
  | error q =>
    obtain ⟨c,y⟩:=q;have hc:=aCW t1;rw [t1] at q1;cases q1;rw [aMp hc] at q2;cases q2;rw [aFi hc] at q3;cases q3;rw [aFe hc] at q4;cases q4;rw [aEZ hc] at q5;exact ⟨hc,q5⟩
  | ok r =>
    obtain ⟨t,l⟩:=r;have hl:=take_drop t1;subst hl;rw [t1] at q1;cases q1;simp only
    have hmost:(aAF h.2.1>(if b=true then 23 else 24))↔(24<aAF h.2.1∨(b=true /\ aAF h.2.1=24)):=by
      cases b<;>simp<;>omega
    by_cases hr:24<aAF h.2.1∨(b=true /\ aAF h.2.1=24)
    · rw [if_pos (hmost.2 hr)]
      have hc:(10:Int)≠0:=by decide
      have:aOb b h 0 x=(10,h.2.2):=if_pos ⟨rfl,hr⟩;rw [this] at q2;cases q2;rw [aFi hc] at q3;cases q3;rw [aFe hc] at q4;cases q4;rw [aEZ hc] at q5;exact ⟨hc,q5⟩
    · rw [if_neg (fun z=>hr (hmost.1 z))]
      have:aOb b h 0 x=(0,x):=if_neg (fun z=>hr z.2);rw [this] at q2;cases q2;rw [aIe (by decide) (hk.drop _)] at q3
      cases t2:take en 4 [aIm] (ts.drop (i+1)) with
      | error q =>
        obtain ⟨c,y⟩:=q;have hc:=aCW t2;have t2':take en 4 [[58]] (ts.drop (i+1)) = .error (c,y):=t2;rw [t2'] at q3;cases q3;rw [aFe hc] at q4;cases q4;rw [aEZ hc] at q5;exact ⟨hc,q5⟩
      | ok r2 =>
        obtain ⟨t9,l9⟩:=r2;have hl9:=take_drop t2;subst hl9;have t2':take en 4 [[58]] (ts.drop (i+1)) = .ok (t9,ts.drop (i+1+1)):=t2;rw [t2'] at q3;cases q3;simp only;rw [aKc] at q4
        cases t3:take en 2 [] (ts.drop (i+1+1)) with
        | error q =>
          obtain ⟨c,y⟩:=q;have hc:=aCW t3;rw [t3] at q4;cases q4;rw [aEZ hc] at q5;exact ⟨hc,q5⟩
        | ok r3 =>
          obtain ⟨t8,l8⟩:=r3;have hl8:=take_drop t3;subst hl8;rw [t3] at q4;cases q4;simp only
          by_cases hb:m.2.1.length≠2∨59<aAF m.2.1∨(aAF h.2.1=24 /\ aAF m.2.1≠0)
          · have hv:0<=aAF m.2.1:=aFA (aAJ (hk.drop _) t3).1 (aAJ (hk.drop _) t3).2.1
            have h5:aNz h m 0 x=(10,m.2.2):=if_pos ⟨rfl,hb⟩;rw [h5] at q5
            rw [if_pos (by
              simp only [Bool.or_eq_true,bne_iff_ne,ne_eq,decide_eq_true_eq,Ga_,beq_iff_eq,gt_iff_lt];rcases hb with h9 | h9 | h9
              · exact .inl (.inl h9)
              · exact .inl (.inr h9)
              · exact .inr ⟨h9.1,by omega⟩)]
            exact ⟨by decide,q5⟩
          · have h5:aNz h m 0 x=(0,x):=if_neg (fun z=>hb z.2)
            rw [h5] at q5;cases q5
            rw [if_neg (by
              simp only [Bool.or_eq_true,bne_iff_ne,ne_eq,decide_eq_true_eq,Ga_,beq_iff_eq,gt_iff_lt];rintro ((h9 | h9) | h9)
              · exact hb (.inl h9)
              · exact hb (.inr (.inl h9))
              · exact hb (.inr (.inr ⟨h9.1,by omega⟩)))]
            exact ⟨rfl,rfl,rfl,rfl⟩
def Ck (en:Int) (ts:List (Tok Int)) (b:Bool) (i:Nat) (e x v y:Int) (i':Nat) (e' x':Int):Prop :=
  ∃ (h m:Tok Int) (i1:Nat) (e1 x1 e2 x2 e3 x3 e4 x4:Int),(h,i1,e1,x1)=aEC en ts i e x /\ (e2,x2)=aOb b h e1 x1 /\ (e3,x3)=aEt en [58] (ts.drop i1) e2 x2 /\ (m,i',e4,x4)=aEC en ts (i1+1) e3 x3 /\ (e',x')=aNz h m e4 x4 /\ v=60*aAF h.2.1+aAF m.2.1 /\ y=h.2.2
theorem aIP {en:Int}{ts:List (Tok Int)}{i:Nat}{e x:Int}:i<=(aEC en ts i e x).2.1 /\ (aEC en ts i e x).2.1<=i+1:=by
  unfold aEC
  split
  · split
    · exact ⟨Gl_ _,Nat.le_succ _⟩
    · split
      · exact ⟨Nat.le_succ _,Gl_ _⟩
      · exact ⟨Gl_ _,Nat.le_succ _⟩
  · exact ⟨Gl_ _,Nat.le_succ _⟩
section
variable {en:Int}{ts:List (Tok Int)}{b:Bool}{i:Nat}{e x v y:Int}{i':Nat}{e' x':Int}
theorem Ck.err (c:Ck en ts b i e x v y i' e' x') (k:e≠0):e'=e /\ x'=x:=by
  obtain ⟨h,m,i1,e1,x1,e2,x2,e3,x3,e4,x4,q1,q2,q3,q4,q5,_,_⟩:=c;rw [aFe k] at q1;cases q1;rw [aMp k] at q2;cases q2;rw [aFi k] at q3;cases q3;rw [aFe k] at q4;cases q4;rw [aEZ k] at q5;cases q5;exact ⟨rfl,rfl⟩
theorem Ck.bnd (c:Ck en ts b i e x v y i' e' x'):i+1<=i' /\ i'<=i+3:=by
  obtain ⟨h,m,i1,e1,x1,e2,x2,e3,x3,e4,x4,q1,q2,q3,q4,q5,_,_⟩:=c;have h1:=aIP (en:=en) (ts:=ts) (i:=i) (e:=e) (x:=x);rw [←q1] at h1;have h2:=aIP (en:=en) (ts:=ts) (i:=i1+1) (e:=e3) (x:=x3);rw [←q4] at h2;simp only at h1 h2;omega
theorem Ck.rng (hk:Tk ts) (c:Ck en ts b i e x v y i' e' x'):0<=v /\ v<=610000000:=by
  obtain ⟨h,m,i1,e1,x1,e2,x2,e3,x3,e4,x4,q1,q2,q3,q4,q5,rfl,_⟩:=c;have h1:=aGr hk (en:=en) (i:=i) (e:=e) (x:=x);rw [←q1] at h1;have h2:=aGr hk (en:=en) (i:=i1+1) (e:=e3) (x:=x3);rw [←q4] at h2;have h3:=aGq h1.1 h1.2.1;have h4:=aGq h2.1 h2.2.1;simp only at h3 h4;omega
theorem Ck.ok (hk:Tk ts) (c:Ck en ts b i 0 x v y i' e' x'):match clock en (if b=true then 23 else 24) (ts.drop i) with
    | .ok ((a,z),l)=>e'=0 /\ v=a /\ y=z /\ l=ts.drop i'
    | .error (c,z)=>c≠0 /\ (e',x')=(c,z):=by
  obtain ⟨h,m,i1,e1,x1,e2,x2,e3,x3,e4,x4,q1,q2,q3,q4,q5,rfl,rfl⟩:=c;exact aWm hk q1 q2 q3 q4 q5
end
theorem aEx {wS w:World}{G:Nat->Prop}{q:Option Addr}{cq b i:Nat}{ts:List (Tok Int)}{en e x:Int}{t:Tok Int}{i2:Nat}{e2 x2:Int}(hq:(t,i2,e2,x2)=aEC en ts i e x) (hs:SrcP tkL 3 wS q cq ts) (hf:Fr nF_ wS w) (hG:∀ k,G k->wS.heap.size<=k) (hi:i<=1000000) (hM0:Mm G w w [bk b #[vL q ts.length cq,vI (i:Int),vI en,vI e,vI x] 135]):Calls Tryz.prog 145 #[vP b 0] w fun e9 w'=>e9 = .returned (.agg #[vI t.1,vS t.2.1,vI t.2.2]) /\ Mm G w w' [bk b #[vL q ts.length cq,vI (i2:Int),vI en,vI e2,vI x2] 135]:=by
  have:=aIO hs hf hG hi hM0;rw [←hq] at this;exact this
theorem aFW {wS w:World}{G:Nat->Prop}{q:Option Addr}{cq b i:Nat}{ts:List (Tok Int)}{en e x:Int}{s:Bys}{e2 x2:Int}(hq:(e2,x2)=aEt en s (ts.drop i) e x) (hs:SrcP tkL 3 wS q cq ts) (hf:Fr nF_ wS w) (hG:∀ k,G k->wS.heap.size<=k) (hi:i<=1000000) (hM0:Mm G w w [bk b #[vL q ts.length cq,vI (i:Int),vI en,vI e,vI x] 135]):Calls Tryz.prog 113 #[vP b 0,vS s] w fun e9 w'=>e9 = .returned (.tuple #[]) /\ Mm G w w' [bk b #[vL q ts.length cq,vI ((i:Int)+1),vI en,vI e2,vI x2] 135]:=by
  have:=aLv hs hf hG hi hM0 s;rw [←hq] at this;exact this
abbrev aXI (Z:Ending->World->Prop):=AtO Tryz.prog (aAf Tryz.f112) (aAo (bodyPost Tryz.prog Tryz.f112 Z)) [] 74
theorem aGa {wS w:World}{G:Nat->Prop}{q:Option Addr}{cq b i:Nat}{ts:List (Tok Int)}{en e x:Int}(hs:SrcP tkL 3 wS q cq ts) (hf:Fr nF_ wS w) (hG:∀ k,G k->wS.heap.size<=k) (hk:Tk ts) (hi:i<=900000) (hM0:Mm G w w [bk b #[vL q ts.length cq,vI (i:Int),vI en,vI e,vI x] 135]) (fb:Bool):Calls Tryz.prog 112 #[vP b 0,vB fb] w fun e9 w'=>∃ (v y:Int) (i':Nat) (e' x':Int),e9 = .returned (.tuple #[vI v,vI y]) /\ Ck en ts fb i e x v y i' e' x' /\ Mm G w w' [bk b #[vL q ts.length cq,vI (i':Int),vI en,vI e',vI x'] 135]:=by
  refine beg Tryz.func112 rfl rfl [(0,vP b 0),(1,vB fb)] rfl rfl fun Z hZ=>?_;have hM:=hM0;have hfw:∀ {w1:World},Fr G w w1->Fr nF_ wS w1:=fun f=>hf.trans' f fun r hr hg=>by have:=hG r hg;omega
  have hGm:∀ {w1:World}{M9:List Ent},Mm G w w1 M9->∀ {E9:Ent},E9∈M9->∀ k,BlM [E9] k->wS.heap.size<=k:=fun h E9 hE k ⟨z,hz,hk⟩=>by rw [Gd_] at hz;subst hz;by_cases hlt:k<w.heap.size;exact hG k (h.own z hE k hk hlt);have:=hf.size;omega
  obtain ⟨h,i1,e1,x1,q1⟩:∃ (h:Tok Int) (i1:Nat) (e1 x1:Int),(h,i1,e1,x1)=aEC en ts i e x:=⟨_,_,_,_,rfl⟩;have gq1:=aIP (en:=en) (ts:=ts) (i:=i) (e:=e) (x:=x);have dq1:=aGr hk (en:=en) (i:=i) (e:=e) (x:=x);rw [←q1] at gq1 dq1;have rq1:=aGq dq1.1 dq1.2.1;simp only at gq1 dq1 rq1;refine aAM 1 1 9 [(8,vP b 0)] (K:=fun u Mn=>u = .agg #[vI h.1,vS h.2.1,vI h.2.2] /\ Mn=[bk b #[vL q ts.length cq,vI (i1:Int),vI en,vI e1,vI x1] 135]) [] [0] f0 hM rfl rfl (by decide) (fun hm=>((aEx q1 hs (hfw hM.fr) (hGm hM (Ge_ (i:=0) rfl)) (by omega) hm).mono fun e9 w8 ⟨h1,h2⟩=>⟨_,_,h1,⟨rfl,rfl⟩,h2⟩)) fun u Mn w1 hK hM=>?_;obtain ⟨rfl,rfl⟩:=hK;refine aCl 1 2 6 [] [] 186 (.agg #[vI h.1,vS h.2.1,vI h.2.2]) f0 hM fun aa w1 hM=>?_
  have cu37:∀ (e2:Int) (x2:Int) (w2:World),(e2,x2)=aOb fb h e1 x1->Mm G w w2 [bk b #[vL q ts.length cq,vI (i1:Int),vI en,vI e2,vI x2] 135,bk aa #[vI h.1,vS h.2.1,vI h.2.2] 186]->aXI Z (some (4,0)) [(6,vP aa 0),(0,vP b 0)] w2:=by
   intro e2 x2 w2 q2 hM;obtain ⟨e3,x3,q3⟩:∃ (e3 x3:Int),(e3,x3)=aEt en [58] (ts.drop i1) e2 x2:=⟨_,_,rfl⟩;refine aAM 4 1 33 [(32,vP b 0)] (K:=fun u Mn=>u = .tuple #[] /\ Mn=[bk b #[vL q ts.length cq,vI ((i1:Int)+1),vI en,vI e3,vI x3] 135]) [1] [0] f0 hM rfl rfl (by decide) (fun hm=>((aFW q3 hs (hfw hM.fr) (hGm hM (Ge_ (i:=0) rfl)) (by omega) hm).mono fun e9 w8 ⟨h1,h2⟩=>⟨_,_,h1,⟨rfl,rfl⟩,h2⟩)) fun u Mn w1 hK hM=>?_;obtain ⟨rfl,rfl⟩:=hK;obtain ⟨m,i4,e4,x4,q4⟩:∃ (m:Tok Int) (i4:Nat) (e4 x4:Int),(m,i4,e4,x4)=aEC en ts (i1+1) e3 x3:=⟨_,_,_,_,rfl⟩;have gq4:=aIP (en:=en) (ts:=ts) (i:=(i1+1)) (e:=e3) (x:=x3);have dq4:=aGr hk (en:=en) (i:=(i1+1)) (e:=e3) (x:=x3);rw [←q4] at gq4 dq4;have rq4:=aGq dq4.1 dq4.2.1;simp only at gq4 dq4 rq4;refine aAM 5 1 35 [(34,vP b 0)] (K:=fun u Mn=>u = .agg #[vI m.1,vS m.2.1,vI m.2.2] /\ Mn=[bk b #[vL q ts.length cq,vI (i4:Int),vI en,vI e4,vI x4] 135]) [0] [1] f0 hM rfl rfl (by decide) (fun hm=>((aEx q4 hs (hfw hM.fr) (hGm hM (Ge_ (i:=1) rfl)) (by omega) hm).mono fun e9 w8 ⟨h1,h2⟩=>⟨_,_,h1,⟨rfl,rfl⟩,h2⟩)) fun u Mn w1 hK hM=>?_;obtain ⟨rfl,rfl⟩:=hK;refine aCl 5 2 7 [] [] 186 (.agg #[vI m.1,vS m.2.1,vI m.2.2]) f0 hM fun ab w1 hM=>?_
   have cu39:∀ (e5:Int) (x5:Int) (w2:World),(e5,x5)=aNz h m e4 x4->Mm G w w2 [bk b #[vL q ts.length cq,vI (i4:Int),vI en,vI e5,vI x5] 135,bk aa #[vI h.1,vS h.2.1,vI h.2.2] 186,bk ab #[vI m.1,vS m.2.1,vI m.2.2] 186]->aXI Z (some (8,0)) [(7,vP ab 0),(6,vP aa 0)] w2:=by
    intro e5 x5 w2 q5 hM;refine drc [(4,vI ((60*(aAF h.2.1))+(aAF m.2.1))),(5,vI h.2.2)] hM (fun w5 hM=>(fc (lam 186 1 0 3 hM rfl) (fc (tcl (aBn h dq1.1 dq1.2.1 _)) (fc (aIx 60 (aAF h.2.1) u3_) (fc (lam 186 2 0 3 hM rfl) (fc (tcl (aBn m dq4.1 dq4.2.1 _)) (fc (aAe (60*(aAF h.2.1)) (aAF m.2.1) u3_) (fc (ldm 3 1 2 hM rfl rfl) f0)))))))) fun w5 hM=>rt2 4 5 (vI ((60*(aAF h.2.1))+(aAF m.2.1))) (vI h.2.2) rfl rfl f0 (hZ _ _ ⟨_,_,i4,e5,x5,rfl,⟨h,m,i1,e1,x1,e2,x2,e3,x3,e4,x4,q1,q2,q3,q4,q5,rfl,rfl⟩,hM.pick [0]⟩)
   refine seg 6 6 [(41,vB (e4==0))] (fc (ldm 32 1 3 hM rfl rfl) f0) ?_;cases h40:(e4==0)
   ·refine seg 8 0 [] f0 (aAb _ (cu39 e4 x4 _ (show (e4,x4)=aNz h m e4 x4 from (if_neg (fun z=>ef h40 z.1)).symm) (hM.pick [1,0,2])))
   refine seg 6 11 [(46,vB (!((m.2.1.length:Int)==2)))] (fc (ldm 9 2 1 hM rfl rfl) (fc (aCA 9 m.2.1) f0)) ?_;cases h41:((m.2.1.length:Int)==2)
   ·have ac:=ef h41;refine aAM 7 3 65 [(62,vP b 0),(64,vI m.2.2)] (K:=fun u Mn=>u = .tuple #[] /\ Mn=[bk b #[vL q ts.length cq,vI (i4:Int),vI en,vI (aAh e4 x4 (10,m.2.2)).1,vI (aAh e4 x4 (10,m.2.2)).2] 135]) [0,2] [1] (fc (ldm 3 2 2 hM rfl rfl) f0) hM rfl rfl (by decide) (fun hm=>((aBc hm 10 m.2.2).mono fun e9 w8 ⟨h1,h2⟩=>⟨_,_,h1,⟨rfl,rfl⟩,h2⟩)) fun u Mn w1 hK hM=>?_;obtain ⟨rfl,rfl⟩:=hK;refine seg 8 0 [] f0 ?_;have hqb:aNz h m e4 x4=(10,m.2.2):=if_pos ⟨et h40,(.inl (fun z=>ef h41 (by omega)))⟩;have hfb:aAh e4 x4 (10,m.2.2)=(10,m.2.2):=if_pos (et h40);rw [hfb] at hM;exact aAb _ (cu39 10 m.2.2 _ hqb.symm (hM.pick [2,0,1]))
   have ac:=et h41;refine aAq 6 12 48 [(47,.agg #[vI m.1,vS m.2.1,vI m.2.2])] (fc (lam 186 2 0 3 hM rfl) f0) hM (aBn m dq4.1 dq4.2.1 _) fun w1 hM=>seg 6 16 [(51,vB (decide (59<(aAF m.2.1))))] f0 ?_;cases h42:(decide (59<(aAF m.2.1)))
   rotate_left
   ·refine aAM 7 3 65 [(62,vP b 0),(64,vI m.2.2)] (K:=fun u Mn=>u = .tuple #[] /\ Mn=[bk b #[vL q ts.length cq,vI (i4:Int),vI en,vI (aAh e4 x4 (10,m.2.2)).1,vI (aAh e4 x4 (10,m.2.2)).2] 135]) [0,2] [1] (fc (ldm 3 2 2 hM rfl rfl) f0) hM rfl rfl (by decide) (fun hm=>((aBc hm 10 m.2.2).mono fun e9 w8 ⟨h1,h2⟩=>⟨_,_,h1,⟨rfl,rfl⟩,h2⟩)) fun u Mn w1 hK hM=>?_;obtain ⟨rfl,rfl⟩:=hK;refine seg 8 0 [] f0 ?_;have hqb:aNz h m e4 x4=(10,m.2.2):=if_pos ⟨et h40,(.inr (.inl (dt h42)))⟩;have hfb:aAh e4 x4 (10,m.2.2)=(10,m.2.2):=if_pos (et h40);rw [hfb] at hM;exact aAb _ (cu39 10 m.2.2 _ hqb.symm (hM.pick [2,0,1]))
   refine aAq 6 17 53 [(52,.agg #[vI h.1,vS h.2.1,vI h.2.2])] (fc (lam 186 0 0 3 hM rfl) f0) hM (aBn h dq1.1 dq1.2.1 _) fun w1 hM=>seg 6 20 [(55,vB ((aAF h.2.1)==24))] f0 ?_;cases h43:((aAF h.2.1)==24)
   ·refine seg 8 0 [] f0 (aAb _ (cu39 e4 x4 _ (show (e4,x4)=aNz h m e4 x4 from (if_neg (fun z=>z.2.elim (fun y=>y (by have:=et h41;omega)) (fun y=>y.elim (df h42) (fun y=>ef h43 y.1)))).symm) (hM.pick [1,0,2])))
   refine aAq 6 21 57 [(56,.agg #[vI m.1,vS m.2.1,vI m.2.2])] (fc (lam 186 2 0 3 hM rfl) f0) hM (aBn m dq4.1 dq4.2.1 _) fun w1 hM=>seg 6 26 [(61,vB (!((aAF m.2.1)==0)))] f0 ?_;cases h44:((aAF m.2.1)==0)
   rotate_left
   ·refine seg 8 0 [] f0 (aAb _ (cu39 e4 x4 _ (show (e4,x4)=aNz h m e4 x4 from (if_neg (fun z=>z.2.elim (fun y=>y (by have:=et h41;omega)) (fun y=>y.elim (df h42) (fun y=>y.2 (et h44))))).symm) (hM.pick [1,0,2])))
   refine aAM 7 3 65 [(62,vP b 0),(64,vI m.2.2)] (K:=fun u Mn=>u = .tuple #[] /\ Mn=[bk b #[vL q ts.length cq,vI (i4:Int),vI en,vI (aAh e4 x4 (10,m.2.2)).1,vI (aAh e4 x4 (10,m.2.2)).2] 135]) [0,2] [1] (fc (ldm 3 2 2 hM rfl rfl) f0) hM rfl rfl (by decide) (fun hm=>((aBc hm 10 m.2.2).mono fun e9 w8 ⟨h1,h2⟩=>⟨_,_,h1,⟨rfl,rfl⟩,h2⟩)) fun u Mn w1 hK hM=>?_;obtain ⟨rfl,rfl⟩:=hK;refine seg 8 0 [] f0 ?_;have hqb:aNz h m e4 x4=(10,m.2.2):=if_pos ⟨et h40,(.inr (.inr ⟨et h43,ef h44⟩))⟩;have hfb:aAh e4 x4 (10,m.2.2)=(10,m.2.2):=if_pos (et h40);rw [hfb] at hM;exact aAb _ (cu39 10 m.2.2 _ hqb.symm (hM.pick [2,0,1]))
  refine seg 2 6 [(15,vB (e1==0))] (fc (ldm 32 0 3 hM rfl rfl) f0) ?_;cases h45:(e1==0)
  ·refine seg 4 0 [] f0 (aAb _ (cu37 e1 x1 _ (show (e1,x1)=aOb fb h e1 x1 from (if_neg (fun z=>ef h45 z.1)).symm) hM))
  refine aAq 2 7 17 [(16,.agg #[vI h.1,vS h.2.1,vI h.2.2])] (fc (lam 186 1 0 3 hM rfl) f0) hM (aBn h dq1.1 dq1.2.1 _) fun w1 hM=>seg 2 10 [(19,vB (decide (24<(aAF h.2.1))))] f0 ?_;cases h46:(decide (24<(aAF h.2.1)))
  rotate_left
  ·refine aAM 3 3 31 [(28,vP b 0),(30,vI h.2.2)] (K:=fun u Mn=>u = .tuple #[] /\ Mn=[bk b #[vL q ts.length cq,vI (i1:Int),vI en,vI (aAh e1 x1 (10,h.2.2)).1,vI (aAh e1 x1 (10,h.2.2)).2] 135]) [1] [0] (fc (ldm 3 1 2 hM rfl rfl) f0) hM rfl rfl (by decide) (fun hm=>((aBc hm 10 h.2.2).mono fun e9 w8 ⟨h1,h2⟩=>⟨_,_,h1,⟨rfl,rfl⟩,h2⟩)) fun u Mn w1 hK hM=>?_;obtain ⟨rfl,rfl⟩:=hK;refine seg 4 0 [] f0 ?_;have hqa:aOb fb h e1 x1=(10,h.2.2):=if_pos ⟨et h45,(.inl (dt h46))⟩;have hfa:aAh e1 x1 (10,h.2.2)=(10,h.2.2):=if_pos (et h45);rw [hfa] at hM;exact aAb _ (cu37 10 h.2.2 _ hqa.symm (hM.pick [1,0]))
  refine seg 2 12 [(21,vB fb)] f0 ?_
  cases h47:fb with
  | false =>
   refine seg 4 0 [] f0 (aAb _ (cu37 e1 x1 _ (show (e1,x1)=aOb fb h e1 x1 from (if_neg (fun z=>z.2.elim (df h46) (fun y=>by have y1:=y.1;rw [h47] at y1;cases y1))).symm) hM))
  | true =>
   refine aAq 2 13 23 [(22,.agg #[vI h.1,vS h.2.1,vI h.2.2])] (fc (lam 186 1 0 3 hM rfl) f0) hM (aBn h dq1.1 dq1.2.1 _) fun w1 hM=>seg 2 18 [(27,vB ((aAF h.2.1)==24))] f0 ?_;cases h48:((aAF h.2.1)==24)
   ·refine seg 4 0 [] f0 (aAb _ (cu37 e1 x1 _ (show (e1,x1)=aOb fb h e1 x1 from (if_neg (fun z=>z.2.elim (df h46) (fun y=>ef h48 y.2))).symm) hM))
   refine aAM 3 3 31 [(28,vP b 0),(30,vI h.2.2)] (K:=fun u Mn=>u = .tuple #[] /\ Mn=[bk b #[vL q ts.length cq,vI (i1:Int),vI en,vI (aAh e1 x1 (10,h.2.2)).1,vI (aAh e1 x1 (10,h.2.2)).2] 135]) [1] [0] (fc (ldm 3 1 2 hM rfl rfl) f0) hM rfl rfl (by decide) (fun hm=>((aBc hm 10 h.2.2).mono fun e9 w8 ⟨h1,h2⟩=>⟨_,_,h1,⟨rfl,rfl⟩,h2⟩)) fun u Mn w1 hK hM=>?_;obtain ⟨rfl,rfl⟩:=hK;refine seg 4 0 [] f0 ?_;have hqa:aOb fb h e1 x1=(10,h.2.2):=if_pos ⟨et h45,(.inr ⟨h47,et h48⟩)⟩;have hfa:aAh e1 x1 (10,h.2.2)=(10,h.2.2):=if_pos (et h45);rw [hfa] at hM;exact aAb _ (cu37 10 h.2.2 _ hqa.symm (hM.pick [1,0]))
theorem aT8 {en:Int}{ts:List (Tok Int)}(hk:Tk ts) {i:Nat}{x a y0:Int}{i1:Nat}{e1 x1 e2 x2 b y:Int}{i3:Nat}{e3 x3 e4 x4:Int}
    (c1:Ck en ts true i 0 x a y0 i1 e1 x1) (m1:(e2,x2)=aEt en [45] (ts.drop i1) e1 x1) (c2:Ck en ts false (i1+1) e2 x2 b y i3 e3 x3) (r:(e4,x4)=if e3=0 /\ a=b then (10,y) else (e3,x3)) (f t:Int) :
    match aD4 en f t (ts.drop i) with
    | .error (c,z)=>c≠0 /\ e4=c /\ x4=z
    | .ok (s,l)=>e4=0 /\ s=aKv f ((t-f+7).tmod 7+1) a (if b<a then b+1440 else b) /\ l=ts.drop i3 /\ 0<=a /\ a<1440 /\ 0<=b /\ b<=1440 /\ a≠b:=by
  unfold aD4;have h1:=c1.ok hk;rw [if_pos rfl] at h1
  cases t1:clock en 23 (ts.drop i) with
  | error q =>
    obtain ⟨c,z⟩:=q;rw [t1] at h1;obtain ⟨hc,h1⟩:=h1;cases h1;rw [aFi hc] at m1;cases m1;obtain ⟨rfl,rfl⟩:=c2.err hc;rw [if_neg (fun h=>hc h.1)] at r;cases r;exact ⟨hc,rfl,rfl⟩
  | ok q =>
    obtain ⟨⟨a9,z9⟩,l9⟩:=q;rw [t1] at h1;obtain ⟨rfl,rfl,rfl,rfl⟩:=h1;have hr1:=aCk (hk.drop i) t1;simp only;rw [aIe (by decide) (hk.drop _)] at m1
    cases t2:take en 4 [aFt] (ts.drop i1) with
    | error q =>
      obtain ⟨c,z⟩:=q;have hc:=aCW t2;have t2':take en 4 [[45]] (ts.drop i1) = .error (c,z):=t2;rw [t2'] at m1;cases m1;obtain ⟨rfl,rfl⟩:=c2.err hc;rw [if_neg (fun h=>hc h.1)] at r;cases r;exact ⟨hc,rfl,rfl⟩
    | ok q =>
      obtain ⟨t9,l8⟩:=q;have hl8:=take_drop t2;subst hl8;have t2':take en 4 [[45]] (ts.drop i1) = .ok (t9,ts.drop (i1+1)):=t2;rw [t2'] at m1;cases m1;simp only;have h2:=c2.ok hk;rw [if_neg (by decide)] at h2
      cases t3:clock en 24 (ts.drop (i1+1)) with
      | error q =>
        obtain ⟨c,z⟩:=q;rw [t3] at h2;obtain ⟨hc,h2⟩:=h2;cases h2;rw [if_neg (fun h=>hc h.1)] at r;cases r;exact ⟨hc,rfl,rfl⟩
      | ok q =>
        obtain ⟨⟨b9,z8⟩,l7⟩:=q;rw [t3] at h2;obtain ⟨rfl,rfl,rfl,rfl⟩:=h2;have hr2:=aCk (hk.drop (i1+1)) t3;simp only
        by_cases hab:a=b
        · rw [if_pos ⟨rfl,hab⟩] at r;cases r
          rw [if_pos (by simpa using hab)];exact ⟨by decide,rfl,rfl⟩
        · rw [if_neg (fun h=>hab h.2)] at r;cases r
          rw [if_neg (by simpa using hab)];exact ⟨rfl,rfl,rfl,hr1.1,by omega,hr2.1,hr2.2.2.1 rfl,hab⟩
theorem aOP {ts:List (Tok Int)}(hk:Tk ts):aCB [45] ts=aBB 4 [aFt] ts:=aGJ (by decide) hk
theorem aF6 {ts:List (Tok Int)}(hk:Tk ts):aCB [44] ts=aBB 4 [aAW] ts:=aGJ (by decide) hk
theorem aMA {en:Int}{ts l:List (Tok Int)}{t:Tok Int}(h:take en 1 aD2 ts = .ok (t,l)):0<=idx t.2.1 /\ idx t.2.1<7:=by
  have hm:=(aAZ h).2.2.resolve_left (by decide);have:∀ d∈aD2,0<=idx d /\ idx d<7:=by decide +kernel
  exact this _ hm
theorem aJD {en k:Int}{xs:List Bys}{ts l:List (Tok Int)}{i:Nat}{t:Tok Int}(h:take en k xs (ts.drop i) = .ok (t,l)):i+1<=ts.length:=by
  have:=aDk h;rw [Gr_] at this;omega
theorem aWf {en:Int}{ts:List (Tok Int)}(hk:Tk ts) {i:Nat}{x d1:Int}{i1:Nat}{e1 x1 d2:Int}{i2:Nat}{e2 x2:Int}
    (q1:(d1,i1,e1,x1)=dyR en ts i 0 x) (q2:(d2,i2,e2,x2)=if e1=0 /\ aCB [45] (ts.drop i1)=true then dyR en ts (i1+1) e1 x1 else (d1,i1,e1,x1)) :
    match dys en (ts.drop i) with
    | .error (c,z)=>c≠0 /\ e2=c /\ x2=z
    | .ok ((f,t),l)=>e2=0 /\ f=d1 /\ t=d2 /\ l=ts.drop i2 /\ i2<=ts.length /\ 0<=d1 /\ d1<7 /\ 0<=d2 /\ d2<7:=by
  unfold dys;rw [aML] at q1
  cases t1:take en 1 aD2 (ts.drop i) with
  | error q =>
    obtain ⟨c,z⟩:=q;have hc:=aCW t1;rw [t1] at q1;cases q1;rw [if_neg (fun h=>hc h.1)] at q2;cases q2;exact ⟨hc,rfl,rfl⟩
  | ok q =>
    obtain ⟨t9,l9⟩:=q;have hl9:=take_drop t1;subst hl9;have hb1:=aMA t1;have hs1:=aJD t1;rw [t1] at q1;cases q1;simp only;rw [aOP (hk.drop _)] at q2
    cases hs:aBB 4 [aFt] (ts.drop (i+1)) with
    | false =>
      rw [if_neg (fun h=>by rw [hs] at h;cases h.2)] at q2;cases q2;exact ⟨rfl,rfl,rfl,rfl,hs1,hb1.1,hb1.2,hb1.1,hb1.2⟩
    | true =>
      rw [if_pos ⟨rfl,hs⟩,aML] at q2;simp only [if_true];have hdd:(ts.drop (i+1)).drop 1=ts.drop (i+1+1):=by rw [List.drop_drop]
      rw [hdd]
      cases t2:take en 1 aD2 (ts.drop (i+1+1)) with
      | error q =>
        obtain ⟨c,z⟩:=q;have hc:=aCW t2;rw [t2] at q2;cases q2;exact ⟨hc,rfl,rfl⟩
      | ok q =>
        obtain ⟨t8,l8⟩:=q;have hl8:=take_drop t2;subst hl8;have hb2:=aMA t2;have hs2:=aJD t2;rw [t2] at q2;cases q2;exact ⟨rfl,rfl,rfl,rfl,hs2,hb1.1,hb1.2,hb2.1,hb2.2⟩
def PtS (R:Res Int (List Sp×List (Tok Int))) (en f t:Int) (ts:List (Tok Int)) (i:Nat) (e x:Int) (ag:Bool) (s:List Sp):Prop :=
  (e≠0 /\ R = .error (e,x))∨(e=0 /\ i<=ts.length /\ wk s /\ (ag=true->R=match aCu en f t ((ts.drop i).length+1) (ts.drop i) with | .error q => .error q | .ok (s',l) => .ok (s++s',l)) /\ (ag=false->R = .ok (s,ts.drop i)))
theorem PtS.start {en:Int}{ts:List (Tok Int)}{i i2:Nat}{d1 d2 e2 x2:Int}
    (h:match dys en (ts.drop i) with
      | .error (c,z)=>c≠0 /\ e2=c /\ x2=z
      | .ok ((f,t),l)=>e2=0 /\ f=d1 /\ t=d2 /\ l=ts.drop i2 /\ i2<=ts.length /\ 0<=d1 /\ d1<7 /\ 0<=d2 /\ d2<7) :
    PtS (part en (ts.drop i)) en d1 d2 ts i2 e2 x2 true []:=by
  unfold part
  cases t1:dys en (ts.drop i) with
  | error q =>
    obtain ⟨c,z⟩:=q;rw [t1] at h;obtain ⟨hc,rfl,rfl⟩:=h;exact .inl ⟨hc,rfl⟩
  | ok q =>
    obtain ⟨⟨f,t⟩,l⟩:=q;rw [t1] at h;obtain ⟨rfl,rfl,rfl,rfl,h1,_⟩:=h;refine .inr ⟨rfl,h1,fun s hs=>(by cases hs),fun _=>?_,fun h=>by cases h⟩;simp only
    cases aCu en f t ((ts.drop i2).length+1) (ts.drop i2) with
    | error q=>rfl
    | ok q=>rfl
theorem aFj {ts:List (Tok Int)}{i:Nat}(hk:Tk ts):more (ts.drop i)=true↔aCB [44] (ts.drop i)=true /\ ∃ u,ts[i+1]?=some u /\ u.1=2:=by
  rw [aF6 (hk.drop _)];have hu:ts[i+1]?=(ts.drop i)[1]?:=by rw [List.getElem?_drop]
  rw [hu]
  cases ts.drop i with
  | nil=>simp [more,aBB]
  | cons t l =>
    cases l with
    | nil=>simp [more]
    | cons u l=>simp [more]
theorem PtS.next {R:Res Int (List Sp×List (Tok Int))}{en f t:Int}{ts:List (Tok Int)}(hk:Tk ts) (hf:0<=f) {i i3 i5:Nat}{x a b e4 x4:Int}{s:List Sp}{ag:Bool}(P:PtS R en f t ts i 0 x true s) (hi3:i3<=i+7)
    (h:match aD4 en f t (ts.drop i) with
      | .error (c,z)=>c≠0 /\ e4=c /\ x4=z
      | .ok (s,l)=>e4=0 /\ s=aKv f ((t-f+7).tmod 7+1) a (if b<a then b+1440 else b) /\ l=ts.drop i3 /\ 0<=a /\ a<1440 /\ 0<=b /\ b<=1440 /\ a≠b)
    (hm:more (ts.drop i3)=ag) (h5:e4=0->i5=if ag then i3+1 else i3) :
    PtS R en f t ts i5 e4 x4 ag (s++aKv f ((t-f+7).tmod 7+1) a (if b<a then b+1440 else b)):=by
  rcases P with ⟨h0,_⟩ | ⟨_,hi,hw,hR,_⟩
  · exact absurd rfl h0
  have hR:=hR rfl;unfold aCu at hR
  cases t1:aD4 en f t (ts.drop i) with
  | error q =>
    obtain ⟨c,z⟩:=q;rw [t1] at h hR;obtain ⟨hc,rfl,rfl⟩:=h;exact .inl ⟨hc,hR⟩
  | ok q =>
    obtain ⟨s1,l1⟩:=q;rw [t1] at h hR;have hlen:=aCN t1;have hwk:=(aO3 hf (hk.drop i) t1).1;obtain ⟨rfl,rfl,rfl,h2⟩:=h;rw [Gr_,Gr_] at hlen;have h5:=h5 rfl;simp only at hR;rw [hm] at hR;refine .inr ⟨rfl,?_,aLR hw hwk,fun e=>?_,fun e=>?_⟩
    · cases ag with
      | false=>rw [if_neg (by decide)] at h5;omega
      | true =>
        rw [if_pos rfl] at h5;obtain ⟨_,u,hu,_⟩:=(aFj hk).1 hm;have:=(List.getElem?_eq_some_iff.1 hu).1;omega
    · subst e
      rw [if_pos rfl] at h5 hR;subst h5;have hdd:(ts.drop i3).drop 1=ts.drop (i3+1):=by rw [List.drop_drop]
      rw [hdd,aHM _ ((ts.drop (i3+1)).length+1) _ (by rw [Gr_,Gr_];omega) (by omega)] at hR;rw [hR]
      cases aCu en f t ((ts.drop (i3+1)).length+1) (ts.drop (i3+1)) with
      | error q=>rfl
      | ok q=>obtain ⟨s',l'⟩:=q;simp only [Gn_]
    · subst e
      rw [if_neg (by decide)] at h5 hR;subst h5;exact hR
def arB (s:Int) (k:Int) (m:Nat):Bool:=decide (((m:Int)-s)%10080<k)
theorem aS5 {s n:Int}(h0:0<=s) (h1:s<10080) (hn:0<=n) (h2:n<=1440) {m:Nat}(hm:m<10080):arB s n m=mnB (aDi s (s+n)) m:=by
  unfold arB aDi;rw [Bool.eq_iff_iff,decide_eq_true_eq]
  split
  · unfold mnB
    simp only [List.any_cons,List.any_nil,Bool.or_false,Bool.or_eq_true,Ga_,decide_eq_true_eq];omega
  · unfold mnB
    simp only [List.any_cons,List.any_nil,Bool.or_false,Bool.or_eq_true,Ga_,decide_eq_true_eq];omega
theorem aS3 {s:Int}{m:Nat}:arB s 0 m=false:=by unfold arB;rw [decide_eq_false_iff_not];omega
theorem aS4 {s k:Int}(h0:0<=s) (hk:0<=k) (h2:k<10080) {m:Nat}(hm:m<10080):arB s (k+1) m=(arB s k m||decide ((m:Int)=(s+k)%10080)):=by
  unfold arB;rw [Bool.eq_iff_iff];simp only [Bool.or_eq_true,decide_eq_true_eq];omega
theorem aQm {f a b:Int}{j:Nat}:aKv f ((j:Int)+1) a b=aKv f j a b++aDi ((f+(j:Int)).tmod 7*1440+a) ((f+(j:Int)).tmod 7*1440+b):=by
  unfold aKv;rw [show ((j:Int)+1).toNat=j+1 by omega,show ((j:Nat):Int).toNat=j by omega,List.range_succ,List.flatMap_append,List.flatMap_singleton]
theorem aQl {f a b:Int}:aKv f ((0:Nat):Int) a b=[]:=rfl
theorem aMI {d1 va bb d:Int}{j:Nat}(hd:d=(d1+j)%7) (h0:0<=d1) (ha:0<=va) (ha2:va<1440) (hb:va<=bb) (hb2:bb<=va+1440) {tt td tk:Nat->Bool}{m:Nat}(hm:m<10080) (h1:td m=(tt m||mnB (aKv d1 j va bb) m)) (h2:tk m=(td m||arB (1440*d+va) (bb-va) m)):tk m=(tt m||mnB (aKv d1 ((j:Int)+1) va bb) m):=by
  rw [h2,h1,aQm,aEE,←Bool.or_assoc,aS5 (by omega) (by omega) (by omega) (by omega) hm,Int.tmod_eq_emod_of_nonneg (by omega),←hd];rw [show 1440*d+va=d*1440+va by omega,show d*1440+va+(bb-va)=d*1440+bb by omega]
theorem aTi {en:Int}{ts:List (Tok Int)}{i:Nat}{e x:Int}:(dyR en ts i e x).2.1<=i+1:=by
  unfold dyR
  split
  · split
    · exact Nat.le_succ _
    · split
      · exact Nat.le_succ _
      · exact Gl_ _
  · exact Nat.le_succ _
theorem aUG {en:Int}{ts:List (Tok Int)}{i i2:Nat}{d1 d2 e2 x2:Int}
    (h:match dys en (ts.drop i) with
      | .error (c,z)=>c≠0 /\ e2=c /\ x2=z
      | .ok ((f,t),l)=>e2=0 /\ f=d1 /\ t=d2 /\ l=ts.drop i2 /\ i2<=ts.length /\ 0<=d1 /\ d1<7 /\ 0<=d2 /\ d2<7) (h0:e2=0):0<=d1 /\ d1<7 /\ 0<=d2 /\ d2<7:=by
  cases t1:dys en (ts.drop i) with
  | error q =>
    obtain ⟨c,z⟩:=q;rw [t1] at h;exact absurd (h.2.1.symm.trans h0) h.1
  | ok q =>
    obtain ⟨⟨f,t⟩,l⟩:=q;rw [t1] at h;exact h.2.2.2.2.2
theorem aQY {en f t:Int}{ts:List (Tok Int)}{i i3:Nat}{a b e4 x4:Int}
    (h:match aD4 en f t (ts.drop i) with
      | .error (c,z)=>c≠0 /\ e4=c /\ x4=z
      | .ok (s,l)=>e4=0 /\ s=aKv f ((t-f+7).tmod 7+1) a (if b<a then b+1440 else b) /\ l=ts.drop i3 /\ 0<=a /\ a<1440 /\ 0<=b /\ b<=1440 /\ a≠b) (h0:e4=0):0<=a /\ a<1440 /\ 0<=b /\ b<=1440 /\ a≠b:=by
  cases t1:aD4 en f t (ts.drop i) with
  | error q =>
    obtain ⟨c,z⟩:=q;rw [t1] at h;exact absurd (h.2.1.symm.trans h0) h.1
  | ok q =>
    obtain ⟨s,l⟩:=q;rw [t1] at h;exact h.2.2.2
theorem PtS.le {R:Res Int (List Sp×List (Tok Int))}{en f t:Int}{ts:List (Tok Int)}{i:Nat}{x:Int}{ag:Bool}{s:List Sp}(P:PtS R en f t ts i 0 x ag s):i<=ts.length:=by
  rcases P with ⟨h0,_⟩ | ⟨_,h,_⟩
  · exact absurd rfl h0
  · exact h
theorem PtS.out {R:Res Int (List Sp×List (Tok Int))}{en f t:Int}{ts:List (Tok Int)}{i:Nat}{e x:Int}{ag:Bool}{s:List Sp}(P:PtS R en f t ts i e x ag s) (h:ag=false∨e≠0):(e≠0 /\ R = .error (e,x))∨(e=0 /\ i<=ts.length /\ wk s /\ R = .ok (s,ts.drop i)):=by
  rcases P with h0 | ⟨h0,h1,h2,_,h3⟩
  · exact .inl h0
  · exact .inr ⟨h0,h1,h2,h3 (h.resolve_right (fun k=>k h0))⟩
theorem aU6 {w w':World}{b:Nat}{o:Obj}(f:Fr (fun k=>k=b) w w') (h:w.heap[b]?=some o) (h':w'.heap[b]?=some o):Fr nF_ w w':=⟨f.os,f.tape,f.output,f.size,fun r hr _=>by
  by_cases e:r=b
  · subst e;rw [h,h']
  · exact f.blk r hr e⟩
theorem aHt {wS w:World}{G:Nat->Prop}{q:Option Addr}{cq b i:Nat}{ts:List (Tok Int)}{en e x:Int}{d:Int}{i2:Nat}{e2 x2:Int}(hq:(d,i2,e2,x2)=dyR en ts i e x) (hs:SrcP tkL 3 wS q cq ts) (hf:Fr nF_ wS w) (hG:∀ k,G k->wS.heap.size<=k) (hi:i<=1000000) (hM0:Mm G w w [bk b #[vL q ts.length cq,vI (i:Int),vI en,vI e,vI x] 135]):Calls Tryz.prog 111 #[vP b 0] w fun e9 w'=>e9 = .returned (vI d) /\ Mm G w w' [bk b #[vL q ts.length cq,vI (i2:Int),vI en,vI e2,vI x2] 135]:=by
  have:=aNL hs hf hG hi hM0;rw [←hq] at this;exact this
theorem aB5 {wS w:World}{q:Option Addr}{cq b i:Nat}{ts:List (Tok Int)}{en e x:Int}(hs:SrcP tkL 3 wS q cq ts) (hf:Fr nF_ wS w) (hb:w.heap[b]?=some (.cells #[vL q ts.length cq,vI (i:Int),vI en,vI e,vI x] 135 (0,0))) (hG:wS.heap.size<=b) (s:Bys):Calls Tryz.prog 73 #[vP b 0,vS s] w fun e9 w'=>e9 = .returned (vB (aCB s (ts.drop i))) /\ Fr nF_ w w' :=
  (aGI (G:=fun k=>k=b) hs hf (fun k h=>by omega) (Mm.one (e:=bk b #[vL q ts.length cq,vI (i:Int),vI en,vI e,vI x] 135) hb) s).mono fun e9 w' ⟨h1,h2⟩=>⟨h1,aU6 h2.fr hb (h2.get 0 rfl)⟩
abbrev A75 (Z:Ending->World->Prop):=AtO Tryz.prog (aAf Tryz.f75) (aAo (bodyPost Tryz.prog Tryz.f75 Z)) [] 141
theorem aGT {wS w:World}{G:Nat->Prop}{q:Option Addr}{cq b wb i:Nat}{ts:List (Tok Int)}{en x:Int}{t:Nat->Bool}{cs0:Array Value}(hs:SrcP tkL 3 wS q cq ts) (hf:Fr nF_ wS w) (hG:∀ k,G k->wS.heap.size<=k) (hk:Tk ts) (hi:i<=800000) (hln:ts.length<=800000) (hc0:WkA cs0 t) (hM0:Mm G w w [bk b #[vL q ts.length cq,vI (i:Int),vI en,vI 0,vI x] 135,bk wb cs0 138]):Calls Tryz.prog 75 #[vP b 0,vP wb 0] w fun e9 w'=>e9 = .returned (.tuple #[]) /\ ∃ (i':Nat) (e' x':Int) (cs':Array Value) (tt:Nat->Bool),Mm G w w' [bk b #[vL q ts.length cq,vI (i':Int),vI en,vI e',vI x'] 135,bk wb cs' 138] /\ WkA cs' tt /\ ((e'≠0 /\ part en (ts.drop i) = .error (e',x'))∨(e'=0 /\ i'<=ts.length /\ ∃ s,wk s /\ part en (ts.drop i) = .ok (s,ts.drop i') /\ ∀ m,m<10080->tt m=(t m||mnB s m))):=by
  have sb:=hs.b hf;refine beg Tryz.func75 rfl rfl [(0,vP b 0),(1,vP wb 0)] rfl rfl fun Z hZ=>?_;have hM:=hM0;have hfw:∀ {w1:World},Fr G w w1->Fr nF_ wS w1:=fun f=>hf.trans' f fun r hr hg=>by have:=hG r hg;omega
  have hGm:∀ {w1:World}{M9:List Ent},Mm G w w1 M9->∀ {E9:Ent},E9∈M9->∀ k,BlM [E9] k->wS.heap.size<=k:=fun h E9 hE k ⟨z,hz,hk⟩=>by rw [Gd_] at hz;subst hz;by_cases hlt:k<w.heap.size;exact hG k (h.own z hE k hk hlt);have:=hf.size;omega
  obtain ⟨Rp,hRp⟩:∃ R,R=part en (ts.drop i):=⟨_,rfl⟩;obtain ⟨d1,i1,e1,x1,hn1⟩:∃ (d1:Int) (i1:Nat) (e1 x1:Int),(d1,i1,e1,x1)=dyR en ts i 0 x:=⟨_,_,_,_,rfl⟩;have hdi1:=aTi (en:=en) (ts:=ts) (i:=i) (e:=0) (x:=x);rw [←hn1] at hdi1;replace hdi1:i1<=i+1:=hdi1;refine aAM 0 1 15 [(14,vP b 0)] (K:=fun u Mn=>u=vI d1 /\ Mn=[bk b #[vL q ts.length cq,vI (i1:Int),vI en,vI e1,vI x1] 135]) [1] [0] f0 hM rfl rfl (by decide) (fun hm=>((aHt hn1 hs (hfw hM.fr) (hGm hM (Ge_ (i:=0) rfl)) (by omega) hm).mono fun e9 w8 ⟨h1,h2⟩=>⟨_,_,h1,⟨rfl,rfl⟩,h2⟩)) fun u Mn w1 hK hM=>?_;obtain ⟨rfl,rfl⟩:=hK;refine seg 2 0 [(4,vI d1),(5,vI d1)] f0 ?_
  have cu36:∀ (d3:Int) (i3:Nat) (e3:Int) (x3:Int) (w2:World),(((d3,i3,e3,x3)=if e1=0 /\ aCB [45] (ts.drop i1)=true then dyR en ts (i1+1) e1 x1 else (d1,i1,e1,x1)))->Mm G w w2 [bk b #[vL q ts.length cq,vI (i3:Int),vI en,vI e3,vI x3] 135,bk wb cs0 138]->A75 Z (some (5,0)) [(5,vI d3),(4,vI d1),(0,vP b 0),(1,vP wb 0)] w2:=by
   intro d3 i3 e3 x3 w2 hqA hM;have hD:=aWf hk hn1 hqA;have hP:=PtS.start hD;rw [←hRp] at hP;have hdb:=aUG hD;refine seg 6 0 [(6,vB true)] f0 ?_
   have ae:∀ (ab:Nat) (i7:Nat) (e7:Int) (x7:Int) (ag:Bool) (s:List Sp) (tt:Nat->Bool) (cs:Array Value) (k9:Nat) (w2:World),PtS Rp en d1 d3 ts i7 e7 x7 ag s->(e7=0->∀ m,m<10080->tt m=(t m||mnB s m))->WkA cs tt->(ag=true->e7=0->ts.length-i7<k9)->(e7=0->0<=d1 /\ d1<7 /\ 0<=d3 /\ d3<7)->Mm G w w2 [bk b #[vL q ts.length cq,vI (i7:Int),vI en,vI e7,vI x7] 135,bk wb cs 138]->ab=k9->A75 Z (some (6,0)) [(6,vB ag),(5,vI d3),(4,vI d1),(0,vP b 0),(1,vP wb 0)] w2:=by
    refine aA8 fun ab aa i7 e7 x7 ag s tt cs k9 w2 hP htt hcs hkm hdb hM ap=>seg 6 2 [(36,vB ag)] f0 ?_
    cases h40:ag with
    | false =>
     exact rt0 rfl f0 (hZ _ _ ⟨rfl,i7,e7,x7,cs,tt,hM.pick [0,1],hcs,by subst hRp;exact (hP.out (.inl h40)).imp id fun ⟨h1,h2,h3,h4⟩=>⟨h1,h2,s,h3,h4,htt h1⟩⟩)
    | true =>
     refine seg 6 8 [(42,vB (e7==0))] (fc (ldm 32 0 3 hM rfl rfl) f0) ?_;cases h41:(e7==0)
     ·exact rt0 rfl f0 (hZ _ _ ⟨rfl,i7,e7,x7,cs,tt,hM.pick [0,1],hcs,by subst hRp;exact (hP.out (.inr (ef h41))).imp id fun ⟨h1,h2,h3,h4⟩=>⟨h1,h2,s,h3,h4,htt h1⟩⟩)
     have hag:=h40;have hz7:e7=0:=et h41;rw [hag] at hP;rw [hz7] at hP hM;have hi7l:=hP.le;replace hdb:=hdb hz7;replace hM:Mm G w _ [bk b #[vL q ts.length cq,vI (i7:Int),vI en,vI 0,vI x7] 135,bk wb cs 138]:=hM;refine aAM 7 1 45 [(44,vP b 0)] (K:=fun u Mn=>∃ (v y:Int) (i2:Nat) (e2 x2:Int),u = .tuple #[vI v,vI y] /\ Ck en ts true i7 0 x7 v y i2 e2 x2 /\ Mn=[bk b #[vL q ts.length cq,vI (i2:Int),vI en,vI e2,vI x2] 135]) [1] [0] f0 hM rfl rfl (by decide) (fun hm=>((aGa (i:=i7) hs (hfw hM.fr) (hGm hM (Ge_ (i:=0) rfl)) hk (by omega) hm true).mono fun e9 w8 ⟨v,y,i2,e2,x2,h1,h2,h3⟩=>⟨_,_,h1,⟨v,y,i2,e2,x2,rfl,h2,rfl⟩,h3⟩)) fun u Mn w1 hK hM=>?_;obtain ⟨va,ya,ia,ea,xa,rfl,cKa,rfl⟩:=hK;have hBa:=cKa.bnd;have hGa:=cKa.rng hk;obtain ⟨em,xm,hmm⟩:∃ (em xm:Int),(em,xm)=aEt en [45] (ts.drop ia) ea xa:=⟨_,_,rfl⟩;refine aAM 8 1 49 [(7,vI va),(48,vP b 0)] (K:=fun u Mn=>u = .tuple #[] /\ Mn=[bk b #[vL q ts.length cq,vI ((ia:Int)+1),vI en,vI em,vI xm] 135]) [0] [1] f0 hM rfl rfl (by decide) (fun hm=>((aFW hmm hs (hfw hM.fr) (hGm hM (Ge_ (i:=1) rfl)) (by omega) hm).mono fun e9 w8 ⟨h1,h2⟩=>⟨_,_,h1,⟨rfl,rfl⟩,h2⟩)) fun u Mn w1 hK hM=>?_;obtain ⟨rfl,rfl⟩:=hK;refine aAM 9 1 52 [(51,vP b 0)] (K:=fun u Mn=>∃ (v y:Int) (i2:Nat) (e2 x2:Int),u = .tuple #[vI v,vI y] /\ Ck en ts false (ia+1) em xm v y i2 e2 x2 /\ Mn=[bk b #[vL q ts.length cq,vI (i2:Int),vI en,vI e2,vI x2] 135]) [0] [1] f0 hM rfl rfl (by decide) (fun hm=>((aGa (i:=(ia+1)) hs (hfw hM.fr) (hGm hM (Ge_ (i:=1) rfl)) hk (by omega) hm false).mono fun e9 w8 ⟨v,y,i2,e2,x2,h1,h2,h3⟩=>⟨_,_,h1,⟨v,y,i2,e2,x2,rfl,h2,rfl⟩,h3⟩)) fun u Mn w1 hK hM=>?_;obtain ⟨vb,yb,ib,eb,xb,rfl,cKb,rfl⟩:=hK;have hBb:=cKb.bnd;have hGb:=cKb.rng hk;refine seg 10 0 [(9,vI vb),(10,vI yb)] f0 ?_
     have cu42:∀ (er:Int) (xr:Int) (w2:World),(((er,xr)=if eb=0 /\ va=vb then (10,yb) else (eb,xb)))->Mm G w w2 [bk b #[vL q ts.length cq,vI (ib:Int),vI en,vI er,vI xr] 135,bk wb cs 138]->A75 Z (some (12,0)) [(9,vI vb),(7,vI va),(5,vI d3),(4,vI d1),(0,vP b 0),(1,vP wb 0)] w2:=by
      intro er xr w2 hqB hM;have hT:=aT8 hk cKa hmm cKb hqB d1 d3;have hi7:ib<=i7+7:=by omega
      obtain ⟨bb,hbb⟩:∃ bb,bb=if vb<va then vb+1440 else vb:=⟨_,rfl⟩
      have cu43:∀ (t2:Nat->Bool) (cs2:Array Value) (w2:World),WkA cs2 t2->(er=0->∀ m,m<10080->t2 m=(tt m||mnB (aKv d1 ((d3-d1+7).tmod 7+1) va (if vb<va then vb+1440 else vb)) m))->Mm G w w2 [bk b #[vL q ts.length cq,vI (ib:Int),vI en,vI er,vI xr] 135,bk wb cs2 138]->A75 Z (some (23,0)) [(5,vI d3),(4,vI d1),(0,vP b 0),(1,vP wb 0)] w2:=by
       intro t2 cs2 w2 hc2 hC hM;cases h44:(aCB [44] (ts.drop ib))
       ·refine drc [(6,vB false)] hM (fun w5 hM=>(fc (rzc (tcl (aB5 hs (hfw hM.fr) (hM.get 0 rfl) (hGm hM (Ge_ (i:=0) rfl) b ⟨_,.head _,rfl⟩) [44])) h44) f0)) fun w5 hM=>seg 6 0 [] f0 ?_
        have hmr:more (ts.drop ib)=false:=by
          rw [Bool.eq_false_iff];intro h9;obtain ⟨h8,u9,h7,h6⟩:=(aFj hk).1 h9;rw [h44] at h8;cases h8
        have hP2:=hP.next (i5:=ib) hk hdb.1 hi7 hT hmr (fun _=>by simp);exact aAb _ (aa _ (by have:=hkm hag hz7;omega) ib er xr false _ t2 cs2 (k9-1) _ hP2 (fun h9 m hm=>by rw [hC h9 m hm,htt hz7 m hm,aEE,Bool.or_assoc]) hc2 (fun h _=>by exact absurd h Bool.false_ne_true) (fun _=>hdb) hM rfl)
       cases h45:(decide (((ib:Int)+1)<(ts.length:Int)))
       ·have af:=df h45;have hlen:=df h45;refine drc [(6,vB false)] hM (fun w5 hM=>(fc (rzc (tcl (aB5 hs (hfw hM.fr) (hM.get 0 rfl) (hGm hM (Ge_ (i:=0) rfl) b ⟨_,.head _,rfl⟩) [44])) h44) (fc (ldm 3 0 1 hM rfl rfl) (fc (aAe (ib:Int) 1 u3_) (fc (ldm 130 0 0 hM rfl rfl) (fc (tv 116 h45) f0)))))) fun w5 hM=>seg 6 0 [] f0 ?_
        have hmr:more (ts.drop ib)=false:=by
          rw [Bool.eq_false_iff];intro h9;obtain ⟨h8,u9,h7,h6⟩:=(aFj hk).1 h9;have:=gl h7;omega
        have hP2:=hP.next (i5:=ib) hk hdb.1 hi7 hT hmr (fun _=>by simp);exact aAb _ (aa _ (by have:=hkm hag hz7;omega) ib er xr false _ t2 cs2 (k9-1) _ hP2 (fun h9 m hm=>by rw [hC h9 m hm,htt hz7 m hm,aEE,Bool.or_assoc]) hc2 (fun h _=>by exact absurd h Bool.false_ne_true) (fun _=>hdb) hM rfl)
       have af:=dt h45;have hlen:=dt h45;obtain ⟨u,hu,aq,ar,q46,ah,n46⟩:=sb.eb hG (i:=(ib+1)) (by omega);refine drc [(6,vB (u.1==2))] hM (fun w5 hM=>(fc (rzc (tcl (aB5 hs (hfw hM.fr) (hM.get 0 rfl) (hGm hM (Ge_ (i:=0) rfl) b ⟨_,.head _,rfl⟩) [44])) h44) (fc (ldm 3 0 1 hM rfl rfl) (fc (aAe (ib:Int) 1 u3_) (fc (ldm 130 0 0 hM rfl rfl) (fc (tv 116 h45) (fc (ldm 130 0 0 hM rfl rfl) (fc (ldm 3 0 1 hM rfl rfl) (fc (aAe (ib:Int) 1 u3_) (fc (ix 130 cq q46 (gl hu)) (fc (ld0 3 hM (ah 0 _ rfl) n46) f0))))))))))) fun w5 hM=>seg 24 1 [(133,vB (u.1==2))] f0 ?_;cases h47:(u.1==2)
       rotate_left
       ·refine stm 25 7 [(138,vI ((ib:Int)+1)),(140,vP b 1)] 3 0 1 (vI ((ib:Int)+1)) (fc (ldm 3 0 1 hM rfl rfl) (fc (aAe (ib:Int) 1 u3_) f0)) hM rfl fun w1 hM=>seg 6 0 [] f0 ?_;have hmr:more (ts.drop ib)=true:=(aFj hk).2 ⟨h44,u,hu,et h47⟩;have hP2:=hP.next (i5:=(ib+1)) hk hdb.1 hi7 hT hmr (fun _=>by simp);exact aAb _ (aa _ (by have:=hkm hag hz7;omega) (ib+1) er xr true _ t2 cs2 (k9-1) _ hP2 (fun h9 m hm=>by rw [hC h9 m hm,htt hz7 m hm,aEE,Bool.or_assoc]) hc2 (fun h _=>by have:=hkm hag hz7;omega) (fun _=>hdb) hM rfl)
       refine seg 6 0 [] f0 ?_
       have hmr:more (ts.drop ib)=false:=by
         rw [Bool.eq_false_iff];intro h9;obtain ⟨h8,u9,h7,h6⟩:=(aFj hk).1 h9;rw [hu] at h7;cases h7;exact ef h47 h6
       have hP2:=hP.next (i5:=ib) hk hdb.1 hi7 hT hmr (fun _=>by simp);exact aAb _ (aa _ (by have:=hkm hag hz7;omega) ib er xr false _ t2 cs2 (k9-1) _ hP2 (fun h9 m hm=>by rw [hC h9 m hm,htt hz7 m hm,aEE,Bool.or_assoc]) hc2 (fun h _=>by exact absurd h Bool.false_ne_true) (fun _=>hdb) hM rfl)
      refine seg 13 0 [(11,vI d1)] f0 ?_
      have ai:∀ (ac:Nat) (d:Int) (j:Nat) (td:Nat->Bool) (csd:Array Value) (w2:World),(er=0->d=(d1+j)%7 /\ (j:Int)<=(d3-d1+7)%7 /\ ∀ m,m<10080->td m=(tt m||mnB (aKv d1 j va bb) m))->WkA csd td->Mm G w w2 [bk b #[vL q ts.length cq,vI (ib:Int),vI en,vI er,vI xr] 135,bk wb csd 138]->ac=((d3-d)%7).toNat->A75 Z (some (13,0)) [(11,vI d),(9,vI vb),(7,vI va),(5,vI d3),(4,vI d1),(0,vP b 0),(1,vP wb 0)] w2:=by
       refine aA8 fun ac aj d j td csd w2 hd hcd hM au=>seg 13 5 [(73,vB (er==0))] (fc (ldm 32 0 3 hM rfl rfl) f0) ?_;cases h51:(er==0)
       ·refine seg 23 0 [] f0 (aAb _ (cu43 td csd _ hcd (fun z=>absurd z (ef h51)) hM))
       have hzr:=et h51;have hbp:=aQY hT hzr;obtain ⟨hd1,hj,htd⟩:=hd hzr;have hbb2:va<=bb /\ bb<=va+1440:=by rw [hbb];split<;>omega
       have hd7:0<=d /\ d<7:=by omega
       refine seg 16 0 [(12,vI (vb-va))] (fc (aBx vb va u3_) f0) ?_
       have cu52:∀ (nn:Int) (w2:World),nn=bb-va->Mm G w w2 [bk b #[vL q ts.length cq,vI (ib:Int),vI en,vI er,vI xr] 135,bk wb csd 138]->A75 Z (some (18,0)) [(12,vI nn),(11,vI d),(9,vI vb),(7,vI va),(5,vI d3),(4,vI d1),(0,vP b 0),(1,vP wb 0)] w2:=by
        intro nn w2 hnn hM;refine seg 19 0 [(13,vI 0)] f0 ?_
        have ak:∀ (ad:Nat) (k:Nat) (tk:Nat->Bool) (csk:Array Value) (w2:World),(k:Int)<=nn->(∀ m,m<10080->tk m=(td m||arB (1440*d+va) k m))->WkA csk tk->Mm G w w2 [bk b #[vL q ts.length cq,vI (ib:Int),vI en,vI er,vI xr] 135,bk wb csk 138]->ad=(nn-k).toNat->A75 Z (some (19,0)) [(13,vI (k:Int)),(12,vI nn),(11,vI d),(9,vI vb),(7,vI va),(5,vI d3),(4,vI d1),(0,vP b 0),(1,vP wb 0)] w2:=by
         refine aA8 fun ad al k tk csk w2 hk9 htk hck hM av=>seg 19 3 [(87,vB (decide ((k:Int)<nn)))] f0 ?_;cases h56:(decide ((k:Int)<nn))
         rotate_left
         ·have am:=dt h56;obtain ⟨mm,hmm9⟩:∃ mm:Nat,((((1440*d)+va)+(k:Int))%10080)=(mm:Int):=⟨(((((1440*d)+va)+(k:Int))%10080)).toNat,by omega⟩;have hmm8:mm<10080:=by omega
          refine aFy 21 10 [(99,vP wb (0+mm*1))] 4 1 mm (vB true) (fc (aIx 1440 d u3_) (fc (aAe (1440*d) va u3_) (fc (aAe ((1440*d)+va) (k:Int) u3_) (fc (aNY (((1440*d)+va)+(k:Int)) 10080 u3_) (fc (aDU 138 10080 .i64 wb 0 mm (by omega) (z:=((((1440*d)+va)+(k:Int))%10080)) hmm9) f0))))) hM rfl (by have:=hck.1;omega) fun w1 hM=>seg 19 0 [(13,vI ((k:Int)+1))] (fc (aAe (k:Int) 1 u3_) f0) (aAb _ (al _ (by omega) (k+1) (fun m=>if m=mm then true else tk m) (Array.setIfInBounds csk mm (vB true)) _ (by omega) (fun m hm=>by have e9:((k+1:Nat):Int)=(k:Int)+1:=(by omega);rw [e9,aS4 (by omega) (by omega) (by omega) hm,←Bool.or_assoc,←htk m hm];by_cases h9:m=mm;rw [if_pos h9,decide_eq_true (by rw [h9];omega),Bool.or_true];rw [if_neg h9,decide_eq_false (by omega),Bool.or_false]) ((hck.set (k:=mm) hmm8 (vB true)).ext fun m hm=>by dsimp only;by_cases h9:m=mm;rw [if_pos h9,if_pos h9];rw [if_neg h9,if_neg h9]) hM rfl))
         have am:=df h56;have hkn9:(k:Int)=nn:=by omega
         have hfl:∀ m,m<10080->tk m=(td m||arB (1440*d+va) (bb-va) m):=fun m hm=>by rw [htk m hm,hkn9,hnn]
         refine seg 22 3 [(102,vB (d==d3))] f0 ?_;cases h57:(d==d3)
         ·have an:=ef h57;refine seg 13 0 [(11,vI ((d+1)%7))] (fc (aAe d 1 u3_) (fc (aNY (d+1) 7 u3_) f0)) ?_;have hn3:¬ d=d3:=ef h57;exact aAb _ (aj _ (by omega) ((d+1)%7) (j+1) tk csk _ (fun _=>⟨by omega,by omega,fun m hm=>by have e9:((j+1:Nat):Int)=(j:Int)+1:=(by omega);rw [e9];exact aMI hd1 hdb.1 hbp.1 hbp.2.1 (by omega) (by omega) hm (htd m hm) (hfl m hm)⟩) hck hM rfl)
         have an:=et h57;refine seg 23 0 [] f0 ?_;have hjn:(d3-d1+7).tmod 7=(j:Int):=by rw [Int.tmod_eq_emod_of_nonneg (by omega)];have:=et h57;omega
         exact aAb _ (cu43 tk csk _ hck (fun _ m hm=>by rw [hjn,←hbb];exact aMI hd1 hdb.1 hbp.1 hbp.2.1 (by omega) (by omega) hm (htd m hm) (hfl m hm)) hM)
        exact aAb _ (ak _ 0 td csd _ (by omega) (fun m _=>by rw [show (((0:Nat):Int))=0 from rfl,aS3,Bool.or_false]) hcd hM rfl)
       refine seg 16 3 [(82,vB (decide (vb<va)))] f0 ?_;cases h58:(decide (vb<va))
       ·have ao:=df h58;refine seg 18 0 [] f0 (aAb _ (cu52 (vb-va) _ (by rw [hbb,if_neg (df h58)]) hM))
       have ao:=dt h58;refine seg 18 0 [(12,vI ((vb-va)+1440))] (fc (aAe (vb-va) 1440 u3_) f0) (aAb _ (cu52 ((vb-va)+1440) _ (by rw [hbb,if_pos (dt h58)];omega) hM))
      exact aAb _ (ai _ d1 0 tt cs _ (fun hz9=>⟨by have:=hdb;omega,by omega,fun m _=>by rw [aQl,aPF,Bool.or_false]⟩) hcs hM rfl)
     refine seg 10 6 [(60,vB (eb==0))] (fc (ldm 32 1 3 hM rfl rfl) f0) ?_;cases h59:(eb==0)
     ·refine seg 12 0 [] f0 (aAb _ (cu42 eb xb _ (if_neg (fun z=>ef h59 z.1)).symm (hM.pick [1,0])))
     refine seg 10 10 [(64,vB (va==vb))] f0 ?_;cases h60:(va==vb)
     ·refine seg 12 0 [] f0 (aAb _ (cu42 eb xb _ (if_neg (fun z=>ef h60 z.2)).symm (hM.pick [1,0])))
     refine aAM 11 2 67 [(65,vP b 0),(66,vI yb)] (K:=fun u Mn=>u = .tuple #[] /\ Mn=[bk b #[vL q ts.length cq,vI (ib:Int),vI en,vI (aAh eb xb (10,yb)).1,vI (aAh eb xb (10,yb)).2] 135]) [0] [1] f0 hM rfl rfl (by decide) (fun hm=>((aBc hm 10 yb).mono fun e9 w8 ⟨h1,h2⟩=>⟨_,_,h1,⟨rfl,rfl⟩,h2⟩)) fun u Mn w1 hK hM=>?_;obtain ⟨rfl,rfl⟩:=hK;refine seg 12 0 [] f0 ?_;have hqf:aAh eb xb (10,yb)=(10,yb):=if_pos (et h59);rw [hqf] at hM;exact aAb _ (cu42 10 yb _ (if_pos ⟨et h59,et h60⟩).symm (hM.pick [1,0]))
   exact aAb _ (ae _ i3 e3 x3 true [] t cs0 (ts.length+1) _ hP (fun _ m _=>by rw [aPF,Bool.or_false]) hc0 (fun _ _=>by omega) hdb hM rfl)
  refine seg 2 6 [(22,vB (e1==0))] (fc (ldm 32 1 3 hM rfl rfl) f0) ?_;cases h61:(e1==0)
  ·refine seg 5 0 [] f0 (aAb _ (cu36 d1 i1 e1 x1 _ (if_neg (fun z=>ef h61 z.1)).symm (hM.pick [1,0])))
  refine aAq 2 7 24 [(23,vP b 0)] f0 hM (aB5 hs (hfw hM.fr) (hM.get 1 rfl) (hGm hM (Ge_ (i:=1) rfl) b ⟨_,.head _,rfl⟩) [45]) fun w1 hM=>seg 2 9 [(25,vB (aCB [45] (ts.drop i1)))] f0 ?_;cases h62:(aCB [45] (ts.drop i1))
  ·refine seg 5 0 [] f0 (aAb _ (cu36 d1 i1 e1 x1 _ (if_neg (fun z=>by have z2:=z.2;rw [h62] at z2;cases z2)).symm (hM.pick [1,0])))
  refine stm 3 7 [(30,vI ((i1:Int)+1)),(32,vP b 1)] 3 1 1 (vI ((i1:Int)+1)) (fc (ldm 3 1 1 hM rfl rfl) (fc (aAe (i1:Int) 1 u3_) f0)) hM rfl fun w1 hM=>?_;obtain ⟨d2,i2,e2,x2,hn2⟩:∃ (d2:Int) (i2:Nat) (e2 x2:Int),(d2,i2,e2,x2)=dyR en ts (i1+1) e1 x1:=⟨_,_,_,_,rfl⟩;have hdi2:=aTi (en:=en) (ts:=ts) (i:=(i1+1)) (e:=e1) (x:=x1);rw [←hn2] at hdi2;replace hdi2:i2<=(i1+1)+1:=hdi2;refine aAM 4 1 34 [(33,vP b 0)] (K:=fun u Mn=>u=vI d2 /\ Mn=[bk b #[vL q ts.length cq,vI (i2:Int),vI en,vI e2,vI x2] 135]) [0] [1] f0 hM rfl rfl (by decide) (fun hm=>((aHt hn2 hs (hfw hM.fr) (hGm hM (Ge_ (i:=1) rfl)) (by omega) hm).mono fun e9 w8 ⟨h1,h2⟩=>⟨_,_,h1,⟨rfl,rfl⟩,h2⟩)) fun u Mn w1 hK hM=>?_;obtain ⟨rfl,rfl⟩:=hK;refine seg 5 0 [(5,vI d2)] f0 (aAb _ (cu36 d2 i2 e2 x2 _ (by rw [if_pos ⟨et h61,h62⟩];exact hn2) (hM.pick [1,0])))
theorem aEd {c d:UInt8}{r:Bys}(hc:aBh c=true) {ts:List (Tok Int)}(hk:Tk ts):aCB (c::d::r) ts=aBB 1 [c::d::r] ts:=by
  cases ts with
  | nil=>rfl
  | cons t l =>
    have hs:=aHh hc;show (t.1 != 3&&t.2.1==(c::d::r))=(t.1==1&&(([c::d::r]:List Bys).isEmpty||([c::d::r]:List Bys).contains t.2.1));rcases hk t (by simp) with ⟨h1,c9,r9,h2,h3⟩ | ⟨h1,h2,h3,h4⟩ | h1 | ⟨h1,d9,h2,h3⟩
    · rw [h1,Bool.eq_iff_iff];simp
    · have hn:¬ t.2.1=c::d::r:=by
        intro h;rw [h] at h4;have h5:=h4 c (by simp);have:=hs.2.2.1;rw [h5] at this;cases this
      rw [h1,beq_eq_false_iff_ne.2 hn];simp
    · rw [h1];simp
    · have hn:¬ t.2.1=c::d::r:=by
        intro h;rw [h2] at h;cases h
      rw [h1,beq_eq_false_iff_ne.2 hn];simp
def PsI (Q:Res Int (List Sp×List (Tok Int))) (en:Int) (ts:List (Tok Int)) (i:Nat) (e x:Int) (s:List Sp):Prop :=
  (e≠0 /\ Q = .error (e,x))∨(e=0 /\ i<=ts.length /\ wk s /\ Q=if aBB 4 [aAW] (ts.drop i)=true then (match aCD en ((ts.drop (i+1)).length+1) (ts.drop (i+1)) with | .error q => .error q | .ok (s',l) => .ok (s++s',l)) else .ok (s,ts.drop i))
def PsE (Q:Res Int (List Sp×List (Tok Int))) (ts:List (Tok Int)) (i:Nat) (e x:Int) (s:List Sp):Prop :=
  (e≠0 /\ Q = .error (e,x))∨(e=0 /\ i<=ts.length /\ wk s /\ Q = .ok (s,ts.drop i))
theorem PsI.part {Q:Res Int (List Sp×List (Tok Int))}{en:Int}{ts:List (Tok Int)}{i i2:Nat}{e2 x2:Int}{s:List Sp}{t tt:Nat->Bool}(hw:wk s) (ht:∀ m,m<10080->t m=mnB s m)
    (hQ:Q=match aCD en ((ts.drop i).length+1) (ts.drop i) with | .error q => .error q | .ok (s',l) => .ok (s++s',l))
    (h:(e2≠0 /\ part en (ts.drop i) = .error (e2,x2))∨(e2=0 /\ i2<=ts.length /\ ∃ s2,wk s2 /\ part en (ts.drop i) = .ok (s2,ts.drop i2) /\ ∀ m,m<10080->tt m=(t m||mnB s2 m))) :
    ∃ s3,PsI Q en ts i2 e2 x2 s3 /\ (e2=0->(∀ m,m<10080->tt m=mnB s3 m) /\ i<i2):=by
  unfold aCD at hQ;rcases h with ⟨h0,h1⟩ | ⟨rfl,h1,s2,h2,h3,h4⟩
  · rw [h1] at hQ
    exact ⟨s,.inl ⟨h0,hQ⟩,fun k=>absurd k h0⟩
  · rw [h3] at hQ
    have hlen:=aGo h3;rw [Gr_,Gr_] at hlen;refine ⟨s++s2,.inr ⟨rfl,h1,aLR hw h2,?_⟩,fun _=>⟨fun m hm=>by rw [h4 m hm,ht m hm,aEE],by omega⟩⟩;simp only at hQ
    cases hs:aBB 4 [aAW] (ts.drop i2) with
    | false=>rw [hs] at hQ;rw [hQ];rfl
    | true =>
      rw [hs,if_pos rfl] at hQ;rw [if_pos rfl,hQ,List.drop_drop,aIb _ ((ts.drop (i2+1)).length+1) _ (by rw [Gr_,Gr_];omega) (by omega)]
      cases aCD en ((ts.drop (i2+1)).length+1) (ts.drop (i2+1)) with
      | error q=>rfl
      | ok q=>obtain ⟨s',l'⟩:=q;simp only [Gn_]
theorem PsI.out {Q:Res Int (List Sp×List (Tok Int))}{en:Int}{ts:List (Tok Int)}{i:Nat}{e x:Int}{s:List Sp}(P:PsI Q en ts i e x s) (hk:Tk ts) (h:e≠0∨aCB [44] (ts.drop i)=false):PsE Q ts i e x s:=by
  rcases P with h0 | ⟨h0,h1,h2,h3⟩
  · exact .inl h0
  · have h4:=h.resolve_left (fun k=>k h0)
    rw [aF6 (hk.drop _)] at h4;rw [h4] at h3;exact .inr ⟨h0,h1,h2,h3⟩
theorem PsI.on {Q:Res Int (List Sp×List (Tok Int))}{en:Int}{ts:List (Tok Int)}{i:Nat}{x:Int}{s:List Sp}(P:PsI Q en ts i 0 x s) (hk:Tk ts) (h:aCB [44] (ts.drop i)=true):i+1<=ts.length /\ wk s /\ Q=match aCD en ((ts.drop (i+1)).length+1) (ts.drop (i+1)) with | .error q => .error q | .ok (s',l) => .ok (s++s',l):=by
  rcases P with h0 | ⟨h0,h1,h2,h3⟩
  · exact absurd rfl h0.1
  · have h5:=h
    rw [aF6 (hk.drop _)] at h;rw [if_pos h] at h3;refine ⟨?_,h2,h3⟩;rcases Nat.lt_or_ge i ts.length with h6 | h6
    · exact h6
    · rw [Gi_ h6] at h5;cases h5
theorem aO5 {en:Int}{ts:List (Tok Int)}(h1:aBB 1 [aE3] ts=false) (h2:aBB 1 [aIT] ts=false):aBy en ts=match aCD en ((ts.drop 0).length+1) (ts.drop 0) with | .error q => .error q | .ok (s',l) => .ok ([]++s',l):=by
  unfold aBy;rw [h1,h2,List.drop_zero];simp only [Bool.false_eq_true,if_false]
  cases aCD en (ts.length+1) ts with
  | error q=>rfl
  | ok q=>rfl
theorem aMj {k:Int}{xs:List Bys}{ts:List (Tok Int)}(h:aBB k xs ts=true):0+1<=ts.length:=by
  cases ts with
  | nil=>cases h
  | cons t l=>simp
theorem aJC {en:Int}{ts:List (Tok Int)}(h1:aBB 1 [aE3] ts=true):PsE (aBy en ts) ts (0+1) 0 0 [(0,10080)]:=by
  refine .inr ⟨rfl,aMj h1,fun s hs=>?_,?_⟩
  · rw [Gd_] at hs;subst hs;simp only;omega
  · unfold aBy
    rw [if_pos h1];rfl
theorem aKP {en:Int}{ts:List (Tok Int)}(h1:aBB 1 [aE3] ts=false) (h2:aBB 1 [aIT] ts=true):PsE (aBy en ts) ts (0+1) 0 0 []:=by
  refine .inr ⟨rfl,aMj h2,fun s hs=>(by cases hs),?_⟩;unfold aBy;rw [h1,if_neg (by simp),if_pos h2]
def PsT (en:Int) (ts:List (Tok Int)) (e x:Int) (s:List Sp):Prop:=(e≠0 /\ aET en ts = .error (e,x))∨(e=0 /\ wk s /\ aET en ts = .ok s)
theorem PsE.err {en:Int}{ts:List (Tok Int)}{i:Nat}{e x:Int}{s:List Sp}(P:PsE (aBy en ts) ts i e x s) (h:e≠0):PsT en ts e x s:=by
  rcases P with ⟨_,h1⟩ | ⟨h0,_⟩
  · exact .inl ⟨h,by unfold aET;rw [h1];rfl⟩
  · exact absurd h0 h
theorem PsE.fin {en:Int}{ts:List (Tok Int)}{i:Nat}{x:Int}{s:List Sp}(P:PsE (aBy en ts) ts i 0 x s) (h:ts.length<=i):PsT en ts 0 x s:=by
  rcases P with ⟨h0,_⟩ | ⟨_,_,h1,h2⟩
  · exact absurd rfl h0
  · refine .inr ⟨rfl,h1,?_⟩
    unfold aET;rw [h2,Gi_ h];rfl
theorem PsE.more {en:Int}{ts:List (Tok Int)}{i:Nat}{x:Int}{s:List Sp}(P:PsE (aBy en ts) ts i 0 x s) (h:i<ts.length):PsT en ts (aAh 0 x (aCi en (ts.drop i))).1 (aAh 0 x (aCi en (ts.drop i))).2 s:=by
  rcases P with ⟨h0,_⟩ | ⟨_,_,h1,h2⟩
  · exact absurd rfl h0
  · obtain ⟨t,ht⟩:∃ t,ts[i]?=some t:=⟨_,Gb_ h⟩
    have hd:=gd ht;have hq:aAh 0 x (aCi en (ts.drop i))=(5,t.2.2):=by rw [hd];rfl
    rw [hq];refine .inl ⟨by show (5:Int)≠0;decide,?_⟩;unfold aET;rw [h2,hd];rfl
theorem aPq {s:Bys}{ts:List (Tok Int)}(hl:aM6 s = .ok ts) {en e x e2 x2:Int}(hen:en=(s.length:Int)) {S:List Sp}{tt:Nat->Bool}(P:PsT en ts e x S) (ht:e=0->∀ m,m<10080->tt m=mnB S m)
    (h2:(e2,x2)=if 60<(aB0 tt 10080).length then aAh e x (2,en) else (e,x)):(e2≠0->aBL s = .error (e2,x2)) /\ (e2=0->aBL s = .ok (aB0 tt 10080)):=by
  subst hen;rcases P with ⟨h0,h1⟩ | ⟨rfl,hw,h1⟩
  · have:(e2,x2)=(e,x):=by
      rw [h2];split
      · exact if_neg h0
      · rfl
    cases this;exact ⟨fun _=>by unfold aBL;rw [hl];simp only;rw [h1],fun k=>absurd k h0⟩
  · have hu:=aJl hw
    have hr:aB0 tt 10080=aEJ S:=aOS hu.ok fun m hm=>by rw [ht rfl m hm,aUw];exact (hu.at_ m).symm
    rw [hr] at h2 ⊢
    by_cases h60:60<(aEJ S).length
    · rw [if_pos h60] at h2
      have h3:(e2,x2)=(2,(s.length:Int)):=h2;cases h3;exact ⟨fun _=>by unfold aBL;rw [hl];simp only;rw [h1];simp only;rw [if_pos h60],fun k=>by cases k⟩
    · rw [if_neg h60] at h2
      cases h2;exact ⟨fun k=>absurd rfl k,fun _=>by unfold aBL;rw [hl];simp only;rw [h1];simp only;rw [if_neg h60]⟩
theorem aDh {w w1:World}{M Ms:List Ent}{js:List Nat}(h:Mm nF_ w w1 M) (hp:aBK M js=Ms):∀ k,BlM Ms k->w.heap.size<=k:=fun k ⟨x,hx,hk⟩=>by
  subst hp;obtain ⟨j,_,hj⟩:=aC4 hx;exact h.ge (Ge_ hj) hk
abbrev A47 (Z:Ending->World->Prop):=AtO Tryz.prog (aAf Tryz.f47) (aAo (bodyPost Tryz.prog Tryz.f47 Z)) [] 110
theorem aJT {s:Bys}(hl:s.length<=4900) (w:World):Calls Tryz.prog 47 #[vS s] w fun e w'=>aDQ s w w' e /\ Fr nF_ w w':=by
  refine beg Tryz.func47 rfl rfl [(0,vS s)] rfl rfl fun Z hZ=>?_;have hM:=Mm.nil nF_ w;rcases hlx:aM6 s with ⟨c,x⟩ | ts
  · skip
    have hc0:c≠0:=by
      rcases aEl s with ⟨e1,a1,h1,h2,_⟩ | ⟨h1,_⟩
      · rw [hlx] at h1;cases h1;exact h2
      · rw [hlx] at h1;cases h1
    have hP0:aBL s = .error (c,x):=by unfold aBL;rw [hlx]
    refine aAq 1 1 13 [(12,vS s)] (v := .tuple #[vL none 0 0,vI c,vI x]) f0 hM ((aHV (s:=s) (by omega) w).mono fun e w8 ⟨h,f⟩=>⟨by unfold aQG at h;rw [hlx] at h;obtain ⟨v,h1,rfl⟩:=h;exact h1,f⟩) fun w1 hM=>seg 2 2 [(5,vL none 0 0),(6,vI c),(7,vI x),(18,vB (!(c==0)))] f0 ?_;cases h36:(c==0)
    ·exact rt3 2 3 4 (vL none 0 0) (vI c) (vI x) rfl rfl rfl rfl f0 (hZ _ _ ⟨by unfold aDQ;rw [hP0],hM.fr⟩)
    exact absurd (et h36) hc0
  · skip
    obtain ⟨hts1,_,hts2,hts3,hts4⟩:=aLx hlx;have htl:ts.length<=s.length:=by rw [hts1,Gs_];exact aGy
    refine aNQ 1 1 13 [(12,vS s)] (K:=fun u w8=>∃ v,u = .tuple #[v,vI 0,vI 0] /\ aH6 tkL 3 186 w w8 v ts) f0 hM ((aHV (s:=s) (by omega) w).mono fun e w8 ⟨h,f⟩=>⟨by unfold aQG at h;rw [hlx] at h;obtain ⟨v,h1,h2⟩:=h;exact ⟨_,h1,v,rfl,h2⟩,f⟩) fun u wl ⟨v,hu,hv⟩ hM fL=>?_;subst hu;obtain ⟨q,cq,hvq,spt⟩:=hv.op tkT.len;subst hvq;replace hM:=Mm.nil nF_ wl;have bq:=spt.bnd;refine aAp 4 4 25 [(5,vL q ts.length cq),(24,.agg #[vL q ts.length cq,vI 0,vI (s.length:Int),vI 0,vI 0])] (cs:=#[vL q ts.length cq,vI 0,vI (s.length:Int),vI 0,vI 0]) (T:=135) (v:=fun b=>vP b 0) (fc (aCA 9 s) f0) hM fun b w1 hM=>aAp 5 1 27 [(8,vP b 0),(26,.agg (zT Tryz.prog 138))] (cs:=zT Tryz.prog 138) (T:=138) (v:=fun b=>vP b 0) f0 hM fun aa w1 hM=>seg 6 0 [(9,vP aa 0)] f0 ?_;obtain ⟨en,hen⟩:∃ z:Int,z=(s.length:Int):=⟨_,rfl⟩;obtain ⟨i0,hi0⟩:∃ z:Nat,z=0:=⟨_,rfl⟩;replace hM:Mm nF_ wl w1 [bk b #[vL q ts.length cq,vI (i0:Int),vI en,vI 0,vI 0] 135,bk aa (zT Tryz.prog 138) 138]:=by rw [hen,hi0];exact hM
    have cu38:∀ (i3:Nat) (e3:Int) (x3:Int) (S3:List Sp) (t3:Nat->Bool) (cs3:Array Value) (wq:Nat) (w2:World),WkA cs3 t3->PsE (aBy en ts) ts i3 e3 x3 S3->(e3=0->∀ m,m<10080->t3 m=mnB S3 m)->Mm nF_ wl w2 [bk b #[vL q ts.length cq,vI (i3:Int),vI en,vI e3,vI x3] 135,bk wq cs3 138]->A47 Z (some (15,0)) [(9,vP wq 0),(8,vP b 0),(5,vL q ts.length cq),(0,vS s)] w2:=by
     intro i3 e3 x3 S3 t3 cs3 wq w2 hc3 hE ht3 hM
     have cu39:∀ (e5:Int) (x5:Int) (w2:World),PsT en ts e5 x5 S3->((e5=0->e3=0))->Mm nF_ wl w2 [bk b #[vL q ts.length cq,vI (i3:Int),vI en,vI e5,vI x5] 135,bk wq cs3 138]->A47 Z (some (17,0)) [(9,vP wq 0),(8,vP b 0),(0,vS s)] w2:=by
      intro e5 x5 w2 hT ht5 hM;refine aAM 17 1 88 [(87,vP wq 0)] (K:=fun u Mn=>∃ v,u=v /\ Mn=[rw_ spL 2 141 v (aB0 t3 10080)]) [0,1] [] f0 hM rfl rfl (by decide) (fun hm=>((aJR (hM.get 1 rfl) hc3).mono fun e w8 ⟨v,h1,h2⟩=>⟨_,_,h1,⟨v,rfl,rfl⟩,aCy h2 fun _ h=>h.elim⟩)) fun u Mn w1 hK hM=>?_;obtain ⟨vs,rfl,rfl⟩:=hK;obtain ⟨qs,cs9,es,ss9⟩:=(hM.src (j:=2) rfl spT.len).op;subst es;have bss:=ss9.bnd;replace hM:Mm nF_ wl w1 [bk b #[vL q ts.length cq,vI (i3:Int),vI en,vI e5,vI x5] 135,bk wq cs3 138,_]:=hM;refine seg 18 0 [(10,vL qs (aB0 t3 10080).length cs9)] f0 ?_
      have cu40:∀ (e6:Int) (x6:Int) (w2:World),(((e6,x6)=if 60<(aB0 t3 10080).length then aAh e5 x5 (2,en) else (e5,x5)))->Mm nF_ wl w2 [bk b #[vL q ts.length cq,vI (i3:Int),vI en,vI e6,vI x6] 135,rw_ spL 2 141 (vL qs (aB0 t3 10080).length cs9) (aB0 t3 10080)]->A47 Z (some (20,0)) [(10,vL qs (aB0 t3 10080).length cs9),(8,vP b 0)] w2:=by
       intro e6 x6 w2 hq6 hM;have hend:=aPq hlx hen hT (fun h=>ht3 (ht5 h)) hq6;refine seg 20 5 [(100,vB (!(e6==0)))] (fc (ldm 32 0 3 hM rfl rfl) f0) ?_;cases h41:(e6==0)
       ·refine seg 21 0 [] f0 ?_;have hM:=hM.q ((Fr.refl _ _).drew);refine drq [(2,vL none 0 0),(3,vI e6),(4,vI x6)] rfl (fc (ldm 32 0 3 hM rfl rfl) (fc (ldm 3 0 4 hM rfl rfl) f0)) (rt3 2 3 4 (vL none 0 0) (vI e6) (vI x6) rfl rfl rfl rfl f0 (hZ _ _ ⟨by unfold aDQ;rw [hend.1 (ef h41)],fL.trans hM.fr⟩))
       exact rt3 2 3 4 (vL qs (aB0 t3 10080).length cs9) (vI 0) (vI 0) rfl rfl rfl rfl f0 (hZ _ _ ⟨by unfold aDQ;rw [hend.2 (et h41)];exact ⟨_,rfl,(hM.nrow (j:=1) rfl).mono fL.size⟩,fL.trans hM.fr⟩)
      refine seg 18 3 [(91,vB (decide (60<((aB0 t3 10080).length:Int))))] f0 ?_;cases h42:(decide (60<((aB0 t3 10080).length:Int)))
      ·have ac:=df h42;refine seg 20 0 [] f0 (aAb _ (cu40 e5 x5 _ (if_neg (by have:=df h42;omega)).symm (hM.pick [0,2])))
      have ac:=dt h42;refine aAM 19 3 95 [(92,vP b 0),(94,vI (s.length:Int))] (K:=fun u Mn=>u = .tuple #[] /\ Mn=[bk b #[vL q ts.length cq,vI (i3:Int),vI en,vI (aAh e5 x5 (2,(s.length:Int))).1,vI (aAh e5 x5 (2,(s.length:Int))).2] 135]) [1,2] [0] (fc (aCA 9 s) f0) hM rfl rfl (by decide) (fun hm=>((aBc hm 2 (s.length:Int)).mono fun e9 w8 ⟨h1,h2⟩=>⟨_,_,h1,⟨rfl,rfl⟩,h2⟩)) fun u Mn w1 hK hM=>?_;obtain ⟨rfl,rfl⟩:=hK;refine seg 20 0 [] f0 (aAb _ (cu40 _ _ _ (by rw [if_pos (by have:=dt h42;omega),hen]) (hM.pick [2,1])))
     refine seg 15 6 [(76,vB (e3==0))] (fc (ldm 32 0 3 hM rfl rfl) f0) ?_;cases h43:(e3==0)
     ·refine seg 17 0 [] f0 (aAb _ (cu39 e3 x3 _ (hE.err (ef h43)) id hM))
     refine seg 15 14 [(84,vB (decide ((i3:Int)<(ts.length:Int))))] (fc (ldm 3 0 1 hM rfl rfl) f0) ?_;cases h44:(decide ((i3:Int)<(ts.length:Int)))
     ·have ad:=df h44;refine seg 17 0 [] f0 ?_;have hz3:e3=0:=et h43;rw [hz3] at hE hM;exact aAb _ (cu39 0 x3 _ (hE.fin (by have:=df h44;omega)) (fun _=>hz3) hM)
     have ad:=dt h44;refine aAM 16 1 86 [(85,vP b 0)] (K:=fun u Mn=>u = .tuple #[] /\ Mn=[bk b #[vL q ts.length cq,vI (i3:Int),vI en,vI (aAh e3 x3 (aCi en (ts.drop i3))).1,vI (aAh e3 x3 (aCi en (ts.drop i3))).2] 135]) [1] [0] f0 hM rfl rfl (by decide) (fun hm=>((aCb spt hM.fr (aDh hM (js:=[0]) rfl) hm).mono fun e9 w8 ⟨h1,h2⟩=>⟨_,_,h1,⟨rfl,rfl⟩,h2⟩)) fun u Mn w1 hK hM=>?_;obtain ⟨rfl,rfl⟩:=hK;refine seg 17 0 [] f0 ?_;have hz3:e3=0:=et h43;rw [hz3] at hE hM;exact aAb _ (cu39 _ _ _ (hE.more (by have:=dt h44;omega)) (fun _=>hz3) (hM.pick [1,0]))
    refine aAq 6 1 29 [(28,vP b 0)] f0 hM (aB5 spt hM.fr (hM.get 0 rfl) (aDh hM (js:=[0]) rfl b ⟨_,.head _,rfl⟩) [97,108,119,97,121,115]) fun w1 hM=>?_;cases h45:(aCB [97,108,119,97,121,115] (ts.drop i0))
    rotate_left
    ·have hal:aBB 1 [aE3] ts=true:=by have h9:=h45;rw [hi0,List.drop_zero,aEd (by decide) hts2] at h9;exact h9
     refine stm 7 7 [(34,vI ((i0:Int)+1)),(36,vP b 1)] 3 0 1 (vI ((i0:Int)+1)) (fc (ldm 3 0 1 hM rfl rfl) (fc (aAe (i0:Int) 1 u3_) f0)) hM rfl fun w1 hM=>aAp 8 1 38 [(37,.agg #[vI 0,vI 10080])] (cs:=#[vI 0,vI 10080]) (T:=141) (v:=fun b=>vL (some ⟨b,0,none⟩) 1 1) f0 hM fun ag w1 hM=>?_;have hM:=aDq hM (f:=spL) (c:=2) (j:=2) rfl [(0,10080)] 1 rfl rfl rfl;refine aAM 8 2 39 [] (K:=fun u Mn=>∃ b cs,u=vP b 0 /\ (WkA cs fun k=>mnB [(0,10080)] k) /\ Mn=[bk b cs 138]) [0,1,2] [] f0 hM rfl rfl (by decide) (fun hm=>((aNu (hM.src (j:=2) rfl spT.len) (by intro z hz;rw [Gd_] at hz;subst hz;simp only;omega)).mono fun e w8 ⟨b,cs,h1,h2,h3⟩=>⟨_,_,h1,⟨b,cs,rfl,h2,rfl⟩,aCy h3 fun _ h=>h.elim⟩)) fun u Mn w1 hK hM=>?_;obtain ⟨wa,csa,rfl,hca,rfl⟩:=hK;refine seg 15 0 [(9,vP wa 0)] f0 ?_;replace hM:=hM.pick [0,3];exact aAb _ (cu38 (i0+1) 0 0 _ _ csa wa _ hca (by rw [hi0];exact aJC hal) (fun _ m _=>rfl) hM)
    have hal:aBB 1 [aE3] ts=false:=by have h9:=h45;rw [hi0,List.drop_zero,aEd (by decide) hts2] at h9;exact h9
    refine aAq 9 1 41 [(40,vP b 0)] f0 hM (aB5 spt hM.fr (hM.get 0 rfl) (aDh hM (js:=[0]) rfl b ⟨_,.head _,rfl⟩) [110,101,118,101,114]) fun w1 hM=>?_;cases h46:(aCB [110,101,118,101,114] (ts.drop i0))
    rotate_left
    ·have hne:aBB 1 [aIT] ts=true:=by have h9:=h46;rw [hi0,List.drop_zero,aEd (by decide) hts2] at h9;exact h9
     refine stm 10 7 [(46,vI ((i0:Int)+1)),(48,vP b 1)] 3 0 1 (vI ((i0:Int)+1)) (fc (ldm 3 0 1 hM rfl rfl) (fc (aAe (i0:Int) 1 u3_) f0)) hM rfl fun w1 hM=>seg 15 0 [] f0 (aAb _ (cu38 (i0+1) 0 0 [] _ (zT Tryz.prog 138) aa _ aOm (by rw [hi0];exact aKP hal hne) (fun _ m _=>rfl) hM))
    have hne:aBB 1 [aIT] ts=false:=by have h9:=h46;rw [hi0,List.drop_zero,aEd (by decide) hts2] at h9;exact h9
    refine aAM 11 2 51 [(49,vP b 0),(50,vP aa 0)] (K:=fun u Mn=>∃ (i':Nat) (e' x':Int) (cs':Array Value) (t9:Nat->Bool),u = .tuple #[] /\ WkA cs' t9 /\ ((e'≠0 /\ part en (ts.drop i0) = .error (e',x'))∨(e'=0 /\ i'<=ts.length /\ ∃ s,wk s /\ part en (ts.drop i0) = .ok (s,ts.drop i') /\ ∀ m,m<10080->t9 m=((fun _=>false) m||mnB s m))) /\ Mn=[bk b #[vL q ts.length cq,vI (i':Int),vI en,vI e',vI x'] 135,bk aa cs' 138]) [] [0,1] f0 hM rfl rfl (by decide) (fun hm=>((aGT (i:=i0) spt hM.fr (aDh hM (js:=[0,1]) rfl) hts2 (by omega) (by omega) aOm hm).mono fun e w8 ⟨h1,i',e',x',cs',t9,h2,h3,h4⟩=>⟨_,_,h1,⟨i',e',x',cs',t9,rfl,h3,h4,rfl⟩,h2⟩)) fun u Mn w1 hK hM=>?_;obtain ⟨iN,eN,xN,csN,tN,rfl,hcN,hPt,rfl⟩:=hK;have hP1:=aO5 (en:=en) hal hne;rw [←hi0] at hP1;obtain ⟨s0,hP,hs0⟩:=PsI.part (t:=fun _=>false) (s:=[]) (fun s hs=>by cases hs) (fun m _=>rfl) hP1 hPt;refine seg 12 0 [] f0 ?_
    have ae:∀ (ab:Nat) (i7:Nat) (e7:Int) (x7:Int) (sp:List Sp) (tt:Nat->Bool) (cs:Array Value) (k9:Nat) (w2:World),PsI (aBy en ts) en ts i7 e7 x7 sp->(e7=0->∀ m,m<10080->tt m=mnB sp m)->WkA cs tt->(e7=0->ts.length-i7<k9)->Mm nF_ wl w2 [bk b #[vL q ts.length cq,vI (i7:Int),vI en,vI e7,vI x7] 135,bk aa cs 138]->ab=k9->A47 Z (some (12,0)) [(9,vP aa 0),(8,vP b 0),(5,vL q ts.length cq),(0,vS s)] w2:=by
     refine aA8 fun ab af i7 e7 x7 sp tt cs k9 w2 hP htt hcs hkm hM ah=>seg 12 6 [(57,vB (e7==0))] (fc (ldm 32 0 3 hM rfl rfl) f0) ?_;cases h50:(e7==0)
     ·refine seg 15 0 [] f0 (aAb _ (cu38 i7 e7 x7 sp tt cs aa _ hcs (hP.out hts2 (.inl (ef h50))) htt hM))
     refine aAq 12 7 59 [(58,vP b 0)] f0 hM (aB5 spt hM.fr (hM.get 0 rfl) (aDh hM (js:=[0]) rfl b ⟨_,.head _,rfl⟩) [44]) fun w1 hM=>seg 12 9 [(60,vB (aCB [44] (ts.drop i7)))] f0 ?_;cases h51:(aCB [44] (ts.drop i7))
     ·refine seg 15 0 [] f0 (aAb _ (cu38 i7 e7 x7 sp tt cs aa _ hcs (hP.out hts2 (.inr h51)) htt hM))
     have hz7:e7=0:=et h50;rw [hz7] at hP hM;have hon:=hP.on hts2 h51;replace hM:Mm nF_ wl _ [bk b #[vL q ts.length cq,vI (i7:Int),vI en,vI 0,vI x7] 135,bk aa cs 138]:=hM;refine stm 13 7 [(65,vI ((i7:Int)+1)),(67,vP b 1)] 3 0 1 (vI ((i7:Int)+1)) (fc (ldm 3 0 1 hM rfl rfl) (fc (aAe (i7:Int) 1 u3_) f0)) hM rfl fun w1 hM=>aAM 14 2 70 [(68,vP b 0),(69,vP aa 0)] (K:=fun u Mn=>∃ (i':Nat) (e' x':Int) (cs':Array Value) (t9:Nat->Bool),u = .tuple #[] /\ WkA cs' t9 /\ ((e'≠0 /\ part en (ts.drop (i7+1)) = .error (e',x'))∨(e'=0 /\ i'<=ts.length /\ ∃ s,wk s /\ part en (ts.drop (i7+1)) = .ok (s,ts.drop i') /\ ∀ m,m<10080->t9 m=(tt m||mnB s m))) /\ Mn=[bk b #[vL q ts.length cq,vI (i':Int),vI en,vI e',vI x'] 135,bk aa cs' 138]) [] [0,1] f0 hM rfl rfl (by decide) (fun hm=>((aGT (i:=(i7+1)) spt hM.fr (aDh hM (js:=[0,1]) rfl) hts2 (by omega) (by omega) hcs hm).mono fun e w8 ⟨h1,i',e',x',cs',t9,h2,h3,h4⟩=>⟨_,_,h1,⟨i',e',x',cs',t9,rfl,h3,h4,rfl⟩,h2⟩)) fun u Mn w1 hK hM=>?_;obtain ⟨iN,eN,xN,csN,tN,rfl,hcN,hPt,rfl⟩:=hK;refine seg 12 0 [] f0 ?_;obtain ⟨s1,hP1,hs1⟩:=PsI.part hon.2.1 (htt hz7) hon.2.2 hPt;exact aAb _ (af _ (by have:=hkm hz7;omega) iN eN xN s1 tN csN (k9-1) _ hP1 (fun h=>(hs1 h).1) hcN (fun h=>by have:=hkm hz7;have:=(hs1 h).2;omega) hM rfl)
    exact aAb _ (ae _ iN eN xN s0 tN csN (ts.length+1) _ hP (fun h=>(hs0 h).1) hcN (fun _=>by omega) hM rfl)
def aBP (l:List Ob) (w:Bys) (rs:List Bys) (A:List Arc):Nat->List Arc
  | 0=>A
  | k+1=>aEM l (aEM l (aBP l w rs A k) (rs.getD k []) (rs.getD (k+1) []) w) (rs.getD (k+1) []) (rs.getD k []) w
theorem aMX {l:List Ob}{w:Bys}{rs:List Bys}{A:List Arc}{k:Nat}{a b:Bys}(ha:rs[k]?=some a) (hb:rs[k+1]?=some b):aBP l w rs A (k+1)=aEM l (aEM l (aBP l w rs A k) a b w) b a w:=by
  show aEM l (aEM l (aBP l w rs A k) (rs.getD k []) (rs.getD (k+1) []) w) (rs.getD (k+1) []) (rs.getD k []) w=_;rw [List.getD_eq_getElem?_getD,List.getD_eq_getElem?_getD,ha,hb];rfl
def aBq (l:List Ob) (B:List Ob):Nat->List Arc
  | 0=>[]
  | i+1=>match B[i]? with
    | some o=>aBP l o.id o.refs (aBq l B i) (o.refs.length-1)
    | none=>aBq l B i
theorem aJq {l B:List Ob}{i:Nat}{o:Ob}(h:B[i]?=some o):aBq l B (i+1)=aBP l o.id o.refs (aBq l B i) (o.refs.length-1):=by
  show (match B[i]? with | some o=>_ | none=>_)=_;rw [h]
theorem aJs (l:List Ob) (A:List Arc) (f t w:Bys):(aEM l A f t w).length<=A.length+1:=by
  unfold aEM;cases A.any (aDV f t w)<;>simp
theorem aH0 (l:List Ob) (w:Bys) (rs:List Bys) (A:List Arc):∀ k,(aBP l w rs A k).length<=A.length+2*k
  | 0=>Gl_ _
  | k+1=>by
    have h:=aH0 l w rs A k;have h1:=aJs l (aBP l w rs A k) (rs.getD k []) (rs.getD (k+1) []) w;have h2:=aJs l (aEM l (aBP l w rs A k) (rs.getD k []) (rs.getD (k+1) []) w) (rs.getD (k+1) []) (rs.getD k []) w;show (aEM l (aEM l (aBP l w rs A k) (rs.getD k []) (rs.getD (k+1) []) w) (rs.getD (k+1) []) (rs.getD k []) w).length<=_;omega
def aKC (B:List Ob):Nat:=(B.map fun o=>o.refs.length).sum
theorem aPg {B:List Ob}{i:Nat}{o:Ob}(h:B[i]?=some o):aKC (B.take (i+1))=aKC (B.take i)+o.refs.length:=by
  unfold aKC;rw [gt_ h,List.map_append,List.sum_append];simp
theorem aUb (B:List Ob) (i:Nat):aKC (B.take i)<=aKC B:=by
  have:aKC B=aKC (B.take i)+aKC (B.drop i):=by
    unfold aKC;rw [←List.sum_append,←List.map_append,List.take_append_drop]
  omega
theorem aK7 (l B:List Ob):∀ i,(aBq l B i).length<=2*aKC (B.take i)
  | 0=>by show ([]:List Arc).length<=_;simp
  | i+1=>by
    have ih:=aK7 l B i
    cases h:B[i]? with
    | none =>
      have e:aBq l B (i+1)=aBq l B i:=by
        show (match B[i]? with | some o=>_ | none=>_)=_;rw [h]
      have hl:B.length<=i:=List.getElem?_eq_none_iff.1 h;rw [e,Gc_ (by omega)];rw [Gc_ hl] at ih;exact ih
    | some o =>
      rw [aJq h,aPg h];have:=aH0 l o.id o.refs (aBq l B i) (o.refs.length-1);omega
abbrev A42 (Z:Ending->World->Prop):=AtO Tryz.prog (aAf Tryz.f42) (aAo (bodyPost Tryz.prog Tryz.f42 Z)) [] 77
theorem aLk {w:World}{v:Value}{os:List ObR}(hmv:aCq w v os) (hol:os.length<=1000000) (hv:aAc (aAa os)=true) (hrn:aKC (aAa (ofR os 2 os))<=400000):Calls Tryz.prog 42 #[.agg #[v]] w fun e w'=>∃ u,e = .returned u /\ Mm nF_ w w' [rw_ arL 4 47 u (aBq (aAa os) (aAa (ofR os 2 os)) (ofR os 2 os).length)]:=by
  have hm0:=hmv;obtain ⟨hs0,hob⟩:=hm0;obtain ⟨p0,cp0,hp0,sp0⟩:=hs0.op;subst hp0;refine beg Tryz.func42 rfl rfl [(0,.agg #[vL p0 os.length cp0])] rfl rfl fun Y hY=>?_;have hM:=Mm.nil nF_ w;refine aAp 0 0 1 [] (cs:=#[vL p0 os.length cp0]) (T:=24) (v:=fun b=>vP b 0) f0 hM fun aa w1 hM=>?_;have hM:=hM.row (f:=arL) (c:=4) (E:=47);refine aAM 2 1 8 [(3,vL none 0 0),(7,.agg #[vL p0 os.length cp0])] (K:=fun u Mn=>∃ v1,u=v1 /\ Mn=[rw_ obL 6 64 v1 (ofR os 2 os)]) [0,1] [] (fc (lam 24 0 0 1 hM rfl) f0) hM rfl rfl (by decide) (fun hm=>((aGN (hmv.fr hM.fr) hol hv 2).mono fun e w8 ⟨v1,h1,h2⟩=>⟨_,_,h1,⟨v1,rfl,rfl⟩,aCy h2 fun _ h=>h.elim⟩)) fun u Mn w1 hK hM=>?_;obtain ⟨v1,rfl,rfl⟩:=hK;obtain ⟨qb,cb,eb,sb9⟩:=(hM.src (j:=2) rfl obT.len).op;subst eb;have bb9:=sb9.bnd;replace hM:Mm nF_ w w1 [bk aa #[vL p0 os.length cp0] 24,_,_]:=hM;refine seg 4 0 [(4,vL qb (ofR os 2 os).length cb),(5,vI 0)] f0 ?_
  have ao:∀ (af:Nat) (i:Nat) (vo:Value) (w2:World),i<=(ofR os 2 os).length->Mm nF_ w w2 [bk aa #[vL p0 os.length cp0] 24,rw_ arL 4 47 vo (aBq (aAa os) (aAa (ofR os 2 os)) i),rw_ obL 6 64 (vL qb (ofR os 2 os).length cb) (ofR os 2 os)]->af=(ofR os 2 os).length-i->A42 Y (some (4,0)) [(5,vI (i:Int)),(4,vL qb (ofR os 2 os).length cb),(3,vo),(1,vP aa 0)] w2:=by
   refine aA8 fun af ap i vo w2 hi hM aw=>seg 4 4 [(12,vB (decide ((i:Int)<((ofR os 2 os).length:Int))))] f0 ?_;cases ag:(decide ((i:Int)<((ofR os 2 os).length:Int)))
   ·have aq:=df ag;exact rt1 2 vo rfl f0 (hY _ _ ⟨_,rfl,(show aBq (aAa os) (aAa (ofR os 2 os)) i=aBq (aAa os) (aAa (ofR os 2 os)) (ofR os 2 os).length by rw [show i=(ofR os 2 os).length by omega])▸hM.pick (M':=[rw_ arL 4 47 vo (aBq (aAa os) (aAa (ofR os 2 os)) i)]) [1]⟩)
   have aq:=dt ag;obtain ⟨y,hy⟩:=geb (l:=(ofR os 2 os)) (i:=i) (by omega);obtain ⟨hy1,hy2,hy3⟩:=aIM (gm hy);have hyo:=hob y hy1;have hsm:=aUb (aAa (ofR os 2 os)) (i+1);rw [aPg (aAn hy)] at hsm;have hln:=aK7 (aAa os) (aAa (ofR os 2 os)) i;refine seg 7 0 [(6,vI 0)] f0 ?_
   have ar:∀ (ah:Nat) (k:Nat) (vk:Value) (w2:World),k<=y.o.refs.length-1->Mm nF_ w w2 [bk aa #[vL p0 os.length cp0] 24,rw_ arL 4 47 vk (aBP (aAa os) y.o.id y.o.refs (aBq (aAa os) (aAa (ofR os 2 os)) i) k),rw_ obL 6 64 (vL qb (ofR os 2 os).length cb) (ofR os 2 os)]->ah=y.o.refs.length-k->A42 Y (some (7,0)) [(6,vI (k:Int)),(5,vI (i:Int)),(4,vL qb (ofR os 2 os).length cb),(3,vk),(1,vP aa 0)] w2:=by
    refine aA8 fun ah au k vk w2 hk hM ax=>?_;obtain ⟨ay,ab,-⟩:=hM.el obT (j:=2) rfl hy;refine seg 7 9 [(23,vB (decide (((k:Int)+1)<(y.o.refs.length:Int))))] (fc (aAe (k:Int) 1 u3_) (fc (ix 22 cb ab (gl hy)) (fc (ldr 28 2 4 obT hM rfl ab hy rfl) f0))) ?_;cases ai:(decide (((k:Int)+1)<(y.o.refs.length:Int)))
    ·have av:=df ai;refine seg 4 0 [(5,vI ((i:Int)+1))] (fc (aAe (i:Int) 1 u3_) f0) ?_;have hM:=hM.pick [0,1,2];replace hM:Mm nF_ w _ [bk aa #[vL p0 os.length cp0] 24,_,_]:=hM;obtain ⟨u1,hu1⟩:∃ z,z=vk:=⟨_,rfl⟩;rw [←hu1] at hM;have e1:(aBP (aAa os) y.o.id y.o.refs (aBq (aAa os) (aAa (ofR os 2 os)) i) k)=aBq (aAa os) (aAa (ofR os 2 os)) (i+1):=by rw [aJq (aAn hy),show k=y.o.refs.length-1 by omega]
     rw [e1,hu1] at hM;exact aAb _ (ap _ (by have:=gl hy;omega) (i+1) vk _ (gl hy) hM rfl)
    have av:=dt ai;have ae:=hyo.refs;have az:=ae.bnd;obtain ⟨s1,hs1,a0,a1,aj,ak⟩:=ae.el (i:=k) (by omega);obtain ⟨s2,hs2,a2,a3,al,am⟩:=ae.el (i:=(k+1)) (by omega);have hf1:=aHS hy3 hs1;have hf2:=aHS hy3 hs2;have hlk:=aH0 (aAa os) y.o.id y.o.refs (aBq (aAa os) (aAa (ofR os 2 os)) i) k;refine seg 9 0 [] f0 (drx [24] (fun Z=>[some ((Z 0))]) _ (fun Z l=>[bk aa #[vL p0 os.length cp0] 24,(bif l.getD 0 false then rw_ arL 4 47 (Z 0) (aEM (aAa os) (aBP (aAa os) y.o.id y.o.refs (aBq (aAa os) (aAa (ofR os 2 os)) i) k) s1 s2 y.o.id) else rw_ arL 4 47 vk (aBP (aAa os) y.o.id y.o.refs (aBq (aAa os) (aAa (ofR os 2 os)) i) k)),rw_ obL 6 64 (vL qb (ofR os 2 os).length cb) (ofR os 2 os)]) (fun Z=>[(3,(Z 0))]) hM (fun Z=>rfl) (fun Z l w5 hM=>(fc (lam 24 0 0 1 hM rfl) (fc (ix 22 cb ab (gl hy)) (fc (ldr 28 2 4 obT hM rfl ab hy rfl) (fc (ix 28 y.cr aj (gl hs1)) (fc (ld0 9 hM (ak 0 _ rfl)) (fc (ix 22 cb ab (gl hy)) (fc (ldr 28 2 4 obT hM rfl ab hy rfl) (fc (aAe (k:Int) 1 u3_) (fc (ix 28 y.cr al (gl hs2)) (fc (ld0 9 hM (am 0 _ rfl)) (fc (ix 22 cb ab (gl hy)) (fc (ldr 9 2 0 obT hM rfl ab hy rfl) f0))))))))))))) ⟨aQ6 0 24 1 50 (f:=71) (fun Z=>#[vk,.agg #[vL p0 os.length cp0],vS s1,vS s2,vS y.o.id]) (rw_ arL 4 47 vk (aBP (aAa os) y.o.id y.o.refs (aBq (aAa os) (aAa (ofR os 2 os)) i) k)) (fun u=>rw_ arL 4 47 u (aEM (aAa os) (aBP (aAa os) y.o.id y.o.refs (aBq (aAa os) (aAa (ofR os 2 os)) i) k) s1 s2 y.o.id)) (fun Z fr wm hM hm=>aHX hmv hM.fr (hM.above (j:=1) (e:=rw_ arL 4 47 vk (aBP (aAa os) y.o.id y.o.refs (aBq (aAa os) (aAa (ofR os 2 os)) i) k)) (by kernel_rfl)) hm (by omega) hf1 hf2 y.o.id),trivial⟩ fun ad w1 hM=>?_);replace hM:Mm nF_ w w1 [bk aa #[vL p0 os.length cp0] 24,_,_]:=hM;refine seg 10 0 [] f0 ?_;obtain ⟨a4,ac,-⟩:=hM.el obT (j:=2) rfl hy;refine drx [24] (fun Z=>[some ((Z 0))]) _ (fun Z l=>[bk aa #[vL p0 os.length cp0] 24,(bif l.getD 0 false then rw_ arL 4 47 (Z 0) (aEM (aAa os) (aEM (aAa os) (aBP (aAa os) y.o.id y.o.refs (aBq (aAa os) (aAa (ofR os 2 os)) i) k) s1 s2 y.o.id) s2 s1 y.o.id) else rw_ arL 4 47 (ad 0) (aEM (aAa os) (aBP (aAa os) y.o.id y.o.refs (aBq (aAa os) (aAa (ofR os 2 os)) i) k) s1 s2 y.o.id)),rw_ obL 6 64 (vL qb (ofR os 2 os).length cb) (ofR os 2 os)]) (fun Z=>[(3,(Z 0))]) hM (fun Z=>rfl) (fun Z l w5 hM=>(fc (lam 24 0 0 1 hM rfl) (fc (ix 22 cb ac (gl hy)) (fc (ldr 28 2 4 obT hM rfl ac hy rfl) (fc (aAe (k:Int) 1 u3_) (fc (ix 28 y.cr al (gl hs2)) (fc (ld0 9 hM (am 0 _ rfl)) (fc (ix 22 cb ac (gl hy)) (fc (ldr 28 2 4 obT hM rfl ac hy rfl) (fc (ix 28 y.cr aj (gl hs1)) (fc (ld0 9 hM (ak 0 _ rfl)) (fc (ix 22 cb ac (gl hy)) (fc (ldr 9 2 0 obT hM rfl ac hy rfl) f0))))))))))))) ⟨aQ6 0 24 1 75 (f:=71) (fun Z=>#[(ad 0),.agg #[vL p0 os.length cp0],vS s2,vS s1,vS y.o.id]) (rw_ arL 4 47 (ad 0) (aEM (aAa os) (aBP (aAa os) y.o.id y.o.refs (aBq (aAa os) (aAa (ofR os 2 os)) i) k) s1 s2 y.o.id)) (fun u=>rw_ arL 4 47 u (aEM (aAa os) (aEM (aAa os) (aBP (aAa os) y.o.id y.o.refs (aBq (aAa os) (aAa (ofR os 2 os)) i) k) s1 s2 y.o.id) s2 s1 y.o.id)) (fun Z fr wm hM hm=>aHX hmv hM.fr (hM.above (j:=1) (e:=rw_ arL 4 47 (ad 0) (aEM (aAa os) (aBP (aAa os) y.o.id y.o.refs (aBq (aAa os) (aAa (ofR os 2 os)) i) k) s1 s2 y.o.id)) (by kernel_rfl)) hm (by have:=aJs (aAa os) (aBP (aAa os) y.o.id y.o.refs (aBq (aAa os) (aAa (ofR os 2 os)) i) k) s1 s2 y.o.id;omega) hf2 hf1 y.o.id),trivial⟩ fun an w1 hM=>?_;replace hM:Mm nF_ w w1 [bk aa #[vL p0 os.length cp0] 24,_,_]:=hM;refine seg 7 0 [(6,vI ((k:Int)+1))] (fc (aAe (k:Int) 1 u3_) f0) ?_;replace hM:Mm nF_ w _ [bk aa #[vL p0 os.length cp0] 24,_,_]:=hM;obtain ⟨u1,hu1⟩:∃ z,z=(an 0):=⟨_,rfl⟩;rw [←hu1] at hM;have e1:(aEM (aAa os) (aEM (aAa os) (aBP (aAa os) y.o.id y.o.refs (aBq (aAa os) (aAa (ofR os 2 os)) i) k) s1 s2 y.o.id) s2 s1 y.o.id)=aBP (aAa os) y.o.id y.o.refs (aBq (aAa os) (aAa (ofR os 2 os)) i) (k+1):=(aMX hs1 hs2).symm;rw [e1,hu1] at hM;exact aAb _ (au _ (by have:=gl hs2;omega) (k+1) (an 0) _ (by have:=gl hs2;omega) hM rfl)
   exact aAb _ (ar _ 0 vo _ (Gg_ _) hM rfl)
  exact aAb _ (ao _ 0 (vL none 0 0) _ (Gg_ _) hM rfl)
end Go.Proofs.YtbflfefahheidaaGreatDoor
namespace Go.Pl
open Go.RowKit
section
variable {P:Program}{B:Code}{R:Pst}{ds:List Deferred}{n:Nat}{p:Option (Nat×Nat)}{L N:Frm}{w w0:World}{r' i':Nat}{F:List Ft}{F0:Nat->Prop}{M:List Ent}
variable {α:Type}{f:α->List Value}{c:Nat}
structure ElT9 (P:Program) (f:α->List Value) (c:Nat) (T E:TypeId):Prop where
 len:∀ x,(f x).length=c
 pos:0<c
 one:∀ x,∀ u∈f x,u.oneCell'=true
 hT:P.underlying T=some (.slice E)
 info:∃ i z,P.info? E=some i /\ i.zero=some z /\ i.size=c /\ z.cells.size=c /\ i.bytes<=140
theorem aUW {α:Type}{f:α->List Value}{c:Nat}{o:Oper}{a:Act}{x y:Operand}{T E B' G:Nat}{v:Value}{A S:List α}{q:Option Addr}{cap:Nat}(X:ElT9 P f c T E) (ho:o.op = .call { callee := .builtin .append,args:=#[x,y],argTypes:=#[T,T] }) (hx:a.eval x=v) (hv:ow f c E w B' v A) (hy:a.eval y = .slice q S.length cap) (hsrc:aDm f c w G q S) (hq:q≠none) (hl:A.length+S.length<=1000000000000) (hB:B'<=w.heap.size) :
  ∃ w' v',(execOp a.eval o).run P w = .ok (.value v') w' /\ ow f c E w' B' v' (A++S) /\ Fr (fun k=>v.ownBlock=some k) w w' /\ (v'.ownBlock=v.ownBlock∨v'.ownBlock=some w.heap.size):=by
 obtain ⟨i,z,hi,hz,hs,hzs,hby⟩:=X.info;obtain ⟨ad,rfl⟩:=Option.ne_none_iff_exists'.1 hq
 obtain ⟨v',w',hr,c1,c2,_,c4⟩:=run_append_own_at (P:=P) w B' T o.type E i z c _ X.hT hi hz hs rfl hzs X.pos v A.length _ hv ad S.length cap (S.flatMap f) (aCw X.len S) (fun j u hu=>by
  have hj:=(List.getElem?_eq_some_iff.1 hu).1;rw [aCw X.len] at hj;rcases hsrc with rfl | ⟨g,off,h2,_,h3⟩
  ·simp at hj
  ·obtain rfl:=Gh_ h2;have hm:j%c<c:=Nat.mod_lt _ X.pos;have hdv:j / c<S.length:=(Nat.div_lt_iff_lt_mul X.pos).2 hj;have e:j / c*c+j%c=j:=by rw [Nat.mul_comm];exact Nat.div_add_mod j c
   obtain ⟨s,hs⟩:∃ s,S[j / c]?=some s:=⟨_,Gb_ hdv⟩;have hfl:=aDs X.len S (j / c) s hs (j%c) hm;rw [e,hu] at hfl;have:=h3 _ s hs (j%c) u hfl.symm;rw [Addr.add_mid,←e,←Nat.add_assoc];exact this) (fun u hu=>by
  obtain ⟨s,_,hs⟩:=List.mem_flatMap.1 hu;exact X.one s u hs) (by unfold maxLen;omega) (by
  have:=Nat.mul_le_mul (Gl_ (A.length+S.length)) hby
  omega) hB
 refine ⟨w',v',?_,?_,(Fr.refl _ _).grown c2 fun k hk _=>hk,c4⟩
 ·simp only [execOp,ho,resolve,invoke,builtin,Sem.run_bind,Sem.run_pure,Result.andThen_ok,List.map_toArray,List.map_cons,List.map_nil,hx,hy,hr]
 ·unfold ow;rw [Gk_,List.flatMap_append];exact c1
theorem aXp {o:Oper}{a:Act}{x y:Operand}{T E B' G:Nat}{v:Value}{A S:List α}{q:Option Addr}{cap:Nat}(X:ElT9 P f c T E) (ho:o.op = .call { callee := .builtin .append,args:=#[x,y],argTypes:=#[T,T] }) (hx:a.eval x=v) (hv:ow f c E w B' v A) (hy:a.eval y = .slice q S.length cap) (hsrc:aDm f c w G q S) (hcp:q=none->cap=0) (hl:A.length+S.length<=1000000000000) (hB:B'<=w.heap.size) :
  ∃ w' v',(execOp a.eval o).run P w = .ok (.value v') w' /\ ow f c E w' B' v' (A++S) /\ Fr (fun k=>v.ownBlock=some k) w w' /\ (v'.ownBlock=v.ownBlock∨v'.ownBlock=some w.heap.size):=by
 cases q with
 | some ad=>exact aUW X ho hx hv hy hsrc (by simp) hl hB
 | none =>
  have hS:S=[]:=by
   rcases hsrc with h | ⟨g,off,h,_⟩
   ·exact h
   ·cases h
  subst hS;obtain rfl:=hcp rfl;obtain ⟨i,z,hi,hz,hs,hzs,hby⟩:=X.info;have hr:=run_append_owned_none (P:=P) (w:=w) B' T o.type E i c X.hT hi v A.length _ hv;refine ⟨w,v,?_,by rw [List.append_nil];exact hv,Fr.refl _ _,.inl rfl⟩;simp only [execOp,ho,resolve,invoke,builtin,Sem.run_bind,Sem.run_pure,Result.andThen_ok,List.map_toArray,List.map_cons,List.map_nil,hx,hy,hr,Go_]
theorem aXo (r' i' d:Nat) (N:Frm) {T E j G:Nat}{v:Value}{A S:List α}{pp:Option Addr}{cap:Nat}(hd:d<n) (X:ElT9 P f c T E) (hF:aAQ P w F) (hM:Mm F0 w0 w M) (hj:M[j]?=some (rw_ f c E v A)) (hs:aDm f c w G pp S) (hcp:pp=none->cap=0) (hl:A.length+S.length<=1000000000000) (k:∀ v' w',Mm F0 w0 w' (M.set j (rw_ f c E v' (A++S)))->AtO P B R ds n (some (r',i'+1)) ((d,v')::(N++L)) w')
  (h:(lhs (go P w n B p L r' i' F) N L,aLW (go P w n B p L r' i' F) n L (fun x y => .call { callee := .builtin .append,args:=#[x,y],argTypes:=#[T,T] }))=(rhs (go P w n B p L r' i' F) N B r' i',aLV (go P w n B p L r' i' F) n L (fun x y => .call { callee := .builtin .append,args:=#[x,y],argTypes:=#[T,T] }) (some d) true v (.slice pp S.length cap)):=by kernel_rfl):AtO P B R ds n p L w:=by
 have hrow:ow f c E w 0 v A:=hM.get j hj;refine aGB hF h fun O k1 o l a x y hf hd1 En hdd hg hw ho hx hy=>?_;obtain ⟨w',v',hr,h1,h2,h3⟩:=aXp X ho hx hrow hy hs hcp hl (Gg_ _);refine aCX hw hr ?_;rw [hdd]
 have hM':=hM.put (w':=w') j (e':=rw_ f c E v' (A++S)) hj h2 (fun k _ e=>e) h1 (fun k e=>by
  have e:v'.ownBlock=some k:=e;rcases h3 with h3 | h3
  ·exact .inl (by rw [h3] at e;exact e)
  ·rw [h3] at e;cases e;exact .inr (Gl_ _))
 obtain ⟨O1,dr,k2,hf1,hk⟩:=k v' w' hM';rw [hf] at hf1;cases hf1;have hdr:O.toList.drop (i'+1)=l:=by rw [←List.tail_drop,hd1];rfl
 rw [←hdr];exact hk _ (En.put hd)
end
def aWe (P:Program) (E c:Nat):Bool:=match P.info? E with
 | some i=>match i.zero with
  | some z=>Nat.beq i.size c&&Nat.beq z.cells.size c&&Nat.ble i.bytes 140
  | none=>false
 | none=>false
theorem aNI {P:Program}{E c:Nat}(h:aWe P E c=true):∃ i z,P.info? E=some i /\ i.zero=some z /\ i.size=c /\ z.cells.size=c /\ i.bytes<=140:=by
 unfold aWe at h
 split at h
 ·rename_i i hi
  split at h
  ·rename_i z hz;simp only [Ga_] at h;exact ⟨i,z,hi,hz,Nat.eq_of_beq_eq_true h.1.1,Nat.eq_of_beq_eq_true h.1.2,Nat.le_of_ble_eq_true h.2⟩
  ·cases h
 ·cases h
end Go.Pl
namespace Go.Proofs.YtbflfefahheidaaGreatDoor
open Go.RowKit Go.Pl
def aCz (os:List ObR) (id:Bys):ObR:=(os.find? fun z=>z.o.id==id).getD ⟨⟨[],0,0,0,[],[]⟩,none,0,none,0⟩
theorem aG7 {os:List ObR}(hv:aAc (aAa os)=true) {z:ObR}(hz:z∈os) {id:Bys}(h:z.o.id=id):aCz os id=z:=by
  have hp:os.Pairwise fun x y=>blt x.o.id y.o.id=true:=List.pairwise_map.1 (aAY hv);unfold aCz
  cases hf:os.find? (fun z=>z.o.id==id) with
  | none=>exact absurd (List.find?_eq_none.1 hf z hz) (by simp [h])
  | some y =>
    have h1:y.o.id=id:=by have:=List.find?_some hf;simpa using this
    obtain ⟨i,hi,rfl⟩:=List.mem_iff_getElem.1 (List.mem_of_find?_eq_some hf);obtain ⟨j,hj,rfl⟩:=List.mem_iff_getElem.1 hz;rcases Nat.lt_trichotomy i j with q | q | q
    · have:=List.pairwise_iff_getElem.1 hp i j hi hj q
      rw [h1,h,aCc] at this;cases this
    · subst q;rfl
    · have:=List.pairwise_iff_getElem.1 hp j i hj hi q
      rw [h1,h,aCc] at this;cases this
theorem aTz {os:List ObR}(hv:aAc (aAa os)=true) {id:Bys}(h:¬ aAm (aAa os) id<0):aCz os id∈os /\ (aCz os id).o.id=id:=by
  obtain ⟨k,z,_,hz,he⟩:=aEn h;rw [aG7 hv (gm hz) he];exact ⟨gm hz,he⟩
def aBa (os:List ObR) (a:Arc):Int:=(a.2.2.2+aBz (aAy (aCz os a.2.2.1).o.tags [115,112,101,101,100]).1-1) / aBz (aAy (aCz os a.2.2.1).o.tags [115,112,101,101,100]).1
section
variable {w:World}{v:Value}{os:List ObR}{a:Arc}
theorem aLa (hmv:aCq w v os) (hv:aAc (aAa os)=true) (hfi:¬ aAm (aAa os) a.2.2.1<0) {z:ObR}(hz:z=aCz os a.2.2.1):Calls Tryz.prog 46 #[.agg #[v],aJr a] w fun e w'=>e = .returned (vA (obL z)) /\ Fr nF_ w w' :=
  (aF7 hmv hfi).mono fun e w' ⟨y,h1,h2,h3,h4⟩=>⟨by rw [hz,aG7 hv h1 h2];exact h3,h4⟩
theorem aJV (hmv:aCq w v os) (hv:aAc (aAa os)=true) (prof:Bys) (hfi:¬ aAm (aAa os) a.2.2.1<0):Calls Tryz.prog 43 #[.agg #[v],vS prof,aJr a] w fun e w'=>e = .returned (vB (aAR prof (aCz os a.2.2.1).o a)) /\ Fr nF_ w w' :=
  (aLe hmv prof hfi).mono fun e w' ⟨y,h1,h2,h3,h4⟩=>⟨by rw [aG7 hv h1 h2];exact h3,h4⟩
theorem aI7 (hmv:aCq w v os) (hv:aAc (aAa os)=true) (ha:ArcB a) (hfi:¬ aAm (aAa os) a.2.2.1<0):Calls Tryz.prog 44 #[.agg #[v],aJr a] w fun e w'=>e = .returned (vI (aBa os a)) /\ Fr nF_ w w' :=
  (aJQ hmv ha hfi).mono fun e w' ⟨y,h1,h2,h3,h4⟩=>⟨by unfold aBa;rw [aG7 hv h1 h2];exact h3,h4⟩
theorem aJZ (hmv:aCq w v os) (hol:os.length<=1000000) (hv:aAc (aAa os)=true) (hrn:aKC (aAa (ofR os 2 os))<=400000) {A:List Arc}(hA:A=aBq (aAa os) (aAa (ofR os 2 os)) (ofR os 2 os).length):Calls Tryz.prog 42 #[.agg #[v]] w fun e w'=>∃ u,e = .returned u /\ Mm nF_ w w' [rw_ arL 4 47 u A]:=by
  subst hA;exact aLk hmv hol hv hrn
theorem aNv {o:Ob}(hl:(aAy o.tags [104,111,117,114,115]).1.length<=4900):Calls Tryz.prog 47 #[vS (aAy o.tags [104,111,117,114,115]).1] w fun e w'=>∃ v c x,e = .returned (.tuple #[v,vI c,vI x]) /\ (c==0)=aDz o /\ aH6 spL 2 141 w w' v (aAd o) /\ Fr nF_ w w':=by
  refine (aJT hl w).mono ?_;rintro e w' ⟨h1,h2⟩;unfold aDQ at h1;rcases aE9 (aAy o.tags [104,111,117,114,115]).1 with ⟨c,x,hp,hc,-⟩ | ⟨l,hp,-⟩
  · rw [hp] at h1
    refine ⟨_,c,x,h1,?_,?_,h2⟩
    · unfold aDz aDW;rw [hp];simpa using hc
    · unfold aAd aDW;rw [hp];exact ⟨aPr w',fun k h=>by cases h⟩
  · rw [hp] at h1
    obtain ⟨v,h3,h4⟩:=h1;refine ⟨v,0,0,h3,?_,?_,h2⟩
    · unfold aDz aDW;rw [hp];rfl
    · unfold aAd aDW;rw [hp];exact h4
end
structure LkR where
  a:Arc
  op:Bool
  tk:Int
  fr:Bool
  hp:Option Addr
  hc:Nat
  hs:List Sp
  np:Option Addr
  nc:Nat
  nx:List Int
def lkL (x:LkR):List Value:=[vS x.a.1,vS x.a.2.1,vS x.a.2.2.1,vI x.a.2.2.2,vB x.op,vI x.tk,vB x.fr,vL x.hp x.hs.length x.hc,vL x.np x.nx.length x.nc]
theorem lkT:ElT9 Tryz.prog lkL 9 41 50:=⟨fun _=>rfl,by decide,fun x u hu=>by
  unfold lkL at hu;simp only [Gj_,List.not_mem_nil,or_false] at hu;rcases hu with rfl | rfl | rfl | rfl | rfl | rfl | rfl | rfl | rfl<;>rfl,Tryz.underlying41,aNI (by kernel_rfl)⟩
abbrev hbL (L:List LkR):List (Value×List Sp):=L.map fun x=>(vL x.hp x.hs.length x.hc,x.hs)
abbrev nbL (L:List LkR):List (Value×List Int):=L.map fun x=>(vL x.np x.nx.length x.nc,x.nx)
def nxK (os:List ObR) (prof:Bys) (A:List Arc) (a:Arc):Nat->List Int
  | 0=>[]
  | k+1=>match A[k]? with
    | some b=>bif aEQ os prof a b then nxK os prof A a k++[(k:Int)] else nxK os prof A a k
    | none=>nxK os prof A a k
theorem aP1 {os:List ObR}{prof:Bys}{A:List Arc}{a b:Arc}{k:Nat}(h:A[k]?=some b):nxK os prof A a (k+1)=bif aEQ os prof a b then nxK os prof A a k++[(k:Int)] else nxK os prof A a k:=by
  show (match A[k]? with | some b=>_ | none=>_)=_;rw [h]
theorem aP2 (os:List ObR) (prof:Bys) (A:List Arc) (a:Arc):∀ k,(nxK os prof A a k).length<=k
  | 0=>Gl_ _
  | k+1=>by
    have:=aP2 os prof A a k;show (match A[k]? with | some b=>_ | none=>_:List Int).length<=_
    cases A[k]? with
    | none=>exact Nat.le_succ_of_le this
    | some b =>
      show (bif aEQ os prof a b then _ else _:List Int).length<=_;cases aEQ os prof a b
      · exact Nat.le_succ_of_le this
      · simp only [cond_true,Gk_,List.length_singleton];omega
structure LkS (os:List ObR) (prof:Bys) (A:List Arc) (x:LkR) (a:Arc):Prop where
  arc:x.a=a
  op:x.op=aAR prof (aCz os a.2.2.1).o a
  tk:x.tk=aBa os a
  fr:x.fr = !((aAy (aCz os a.2.2.1).o.tags [104,111,117,114,115]).2&&aDz (aCz os a.2.2.1).o)
  hs:x.hs=bif (aAy (aCz os a.2.2.1).o.tags [104,111,117,114,115]).2 then aAd (aCz os a.2.2.1).o else []
  nx:x.nx=nxK os prof A a A.length
structure LksP (os:List ObR) (prof:Bys) (A:List Arc) (L:List LkR) (i:Nat):Prop where
  len:L.length=i
  at_:∀ (j:Nat) (x:LkR),L[j]?=some x->∃ a,A[j]?=some a /\ LkS os prof A x a
theorem LksP.nil (os:List ObR) (prof:Bys) (A:List Arc):LksP os prof A [] 0:=⟨rfl,fun j x h=>by simp at h⟩
theorem LksP.snoc {os:List ObR}{prof:Bys}{A:List Arc}{L:List LkR}{i:Nat}{x:LkR}{a:Arc}(h:LksP os prof A L i) (ha:A[i]?=some a) (hx:LkS os prof A x a):LksP os prof A (L++[x]) (i+1):=⟨by rw [Gk_,h.len];rfl,fun j y hy=>by
  rcases Nat.lt_or_ge j L.length with hj | hj
  · rw [List.getElem?_append_left hj] at hy;exact h.at_ j y hy
  · rw [List.getElem?_append_right hj] at hy
    have hj0:j-L.length=0:=by have:=gl hy;rw [List.length_singleton] at this;omega
    rw [hj0] at hy;cases hy;rw [show j=i by have:=h.len;omega];exact ⟨a,ha,hx⟩⟩
abbrev A18 (Z:Ending->World->Prop):=AtO Tryz.prog (aAf Tryz.f18) (aAo (bodyPost Tryz.prog Tryz.f18 Z)) [] 92
theorem aJW {w:World}{v:Value}{os:List ObR}(hmv:aCq w v os) (hol:os.length<=1000000) (hv:aAc (aAa os)=true) (hrn:aKC (aAa (ofR os 2 os))<=400000) (prof:Bys) {A:List Arc}(hAe:A=aBq (aAa os) (aAa (ofR os 2 os)) (ofR os 2 os).length) (hAl:A.length<=1000000) (hA:∀ a∈A,ArcB a /\ ¬ aAm (aAa os) a.2.2.1<0):Calls Tryz.prog 18 #[.agg #[v],vS prof] w fun e w'=>∃ u L,e = .returned u /\ LksP os prof A L A.length /\ Mm nF_ w w' [rw_ lkL 9 50 u L,aAD spL 2 141 (hbL L),aAD inL 1 3 (nbL L)]:=by
  have hm0:=hmv;obtain ⟨hs0,hob⟩:=hm0;obtain ⟨p0,cp0,hp0,sp0⟩:=hs0.op;subst hp0;refine beg Tryz.func18 rfl rfl [(0,.agg #[vL p0 os.length cp0]),(1,vS prof)] rfl rfl fun Y hY=>?_;have hM:=Mm.nil nF_ w;refine aAp 0 0 2 [] (cs:=#[vL p0 os.length cp0]) (T:=24) (v:=fun b=>vP b 0) f0 hM fun aa w1 hM=>aAM 1 1 16 [(15,.agg #[vL p0 os.length cp0])] (K:=fun u Mn=>∃ v1,u=v1 /\ Mn=[rw_ arL 4 47 v1 A]) [0] [] (fc (lam 24 0 0 1 hM rfl) f0) hM rfl rfl (by decide) (fun hm=>((aJZ (hmv.fr hM.fr) hol hv hrn hAe).mono fun e w8 ⟨v1,h1,h2⟩=>⟨_,_,h1,⟨v1,rfl,rfl⟩,aCy h2 fun _ h=>h.elim⟩)) fun u Mn w1 hK hM=>?_;obtain ⟨v1,rfl,rfl⟩:=hK;obtain ⟨qa,ca,ea,sa9⟩:=(hM.src (j:=1) rfl arT.len).op;subst ea;replace hM:Mm nF_ w w1 [bk aa #[vL p0 os.length cp0] 24,_]:=hM;have hM:=hM.row (f:=lkL) (c:=9) (E:=50);have hM:=aJo (f:=spL) (c:=2) (E:=141) hM;have hM:=aJo (f:=inL) (c:=1) (E:=3) hM;replace hM:Mm nF_ w w1 [bk aa #[vL p0 os.length cp0] 24,_,_,_,_]:=hM;refine seg 4 0 [(5,vL qa A.length ca),(6,vL none 0 0),(7,vI 0)] f0 ?_
  have aq:∀ (ai:Nat) (i:Nat) (L:List LkR) (vo:Value) (w2:World),i<=A.length->LksP os prof A L i->Mm nF_ w w2 [bk aa #[vL p0 os.length cp0] 24,rw_ arL 4 47 (vL qa A.length ca) A,rw_ lkL 9 50 vo L,aAD spL 2 141 (hbL L),aAD inL 1 3 (nbL L)]->ai=A.length-i->A18 Y (some (4,0)) [(7,vI (i:Int)),(6,vo),(5,vL qa A.length ca),(2,vP aa 0),(1,vS prof)] w2:=by
   refine aA8 fun ai ar i L vo w2 hi hL hM az=>seg 4 4 [(20,vB (decide ((i:Int)<(A.length:Int))))] f0 ?_;cases aj:(decide ((i:Int)<(A.length:Int)))
   ·have au:=df aj;exact rt1 4 vo rfl f0 (hY _ _ ⟨_,L,rfl,(show i=A.length by omega)▸hL,hM.pick [2,3,4]⟩)
   have au:=dt aj;obtain ⟨y,hy⟩:=geb (l:=A) (i:=i) (by omega);obtain ⟨hyB,hyf⟩:=hA y (gm hy);have hLl:=hL.len;obtain ⟨zw,hzw⟩:∃ z,z=aCz os y.2.2.1:=⟨_,rfl⟩;have hz1:zw∈os:=by rw [hzw];exact (aTz hv hyf).1
   have htl:(aAy zw.o.tags [104,111,117,114,115]).1.length<=4900:=Gp_ (aBV (aEh hv zw.o (List.mem_map.2 ⟨zw,hz1,rfl⟩)) _) (by decide);refine seg 6 0 [] f0 ?_;obtain ⟨a0,ad,-⟩:=hM.el arT (j:=1) rfl hy;have hM:=hM.nl;refine drx [18,19] (fun Z=>[some (vP (bn (Z 0)) 0),none]) _ (fun Z l=>[bk aa #[vL p0 os.length cp0] 24,rw_ arL 4 47 (vL qa A.length ca) A,rw_ lkL 9 50 vo L,aAD spL 2 141 (hbL L),aAD inL 1 3 (nbL L),(bif l.getD 1 false then bk (bn (Z 0)) #[vS y.1,vS y.2.1,vS y.2.2.1,vI y.2.2.2,vB (aAR prof (aCz os y.2.2.1).o y),vI (aBa os y),vB true,vL none 0 0,vL none 0 0] 50 else (bif l.getD 0 false then bk (bn (Z 0)) #[vS [],vS [],vS [],vI 0,vB false,vI 0,vB false,vL none 0 0,vL none 0 0] 50 else aJz))]) (fun Z=>[(8,vP (bn (Z 0)) 0)]) hM (fun Z=>rfl) (fun Z l w5 hM=>(fc (ix 75 ca ad (gl hy)) (fc (lar 47 1 0 4 arT hM rfl ad hy) (fc (lam 24 0 0 1 hM rfl) (fc (ix 75 ca ad (gl hy)) (fc (lar 47 1 0 4 arT hM rfl ad hy) (fc (tcl (aJV (hmv.fr hM.fr) hv prof hyf)) (fc (lam 24 0 0 1 hM rfl) (fc (ix 75 ca ad (gl hy)) (fc (lar 47 1 0 4 arT hM rfl ad hy) (fc (tcl (aI7 (hmv.fr hM.fr) hv hyB hyf)) f0))))))))))) ⟨aCJ 0 18 5 8 (fun Z=>#[vS [],vS [],vS [],vI 0,vB false,vI 0,vB false,vL none 0 0,vL none 0 0]) 50 (fun b=>vP b 0),aB8 1 19 50 5 0 (fun Z=>(bn (Z 0))) (fun Z l=>#[vS [],vS [],vS [],vI 0,vB false,vI 0,vB false,vL none 0 0,vL none 0 0]) 50 (fun Z => .agg #[vS y.1,vS y.2.1,vS y.2.2.1,vI y.2.2.2,vB (aAR prof (aCz os y.2.2.1).o y),vI (aBa os y),vB true,vL none 0 0,vL none 0 0]),trivial⟩ fun ak w1 hM=>?_;replace hM:Mm nF_ w w1 [bk aa #[vL p0 os.length cp0] 24,_,_,_,_,bk (bn (ak 0)) #[vS y.1,vS y.2.1,vS y.2.2.1,vI y.2.2.2,vB (aAR prof (aCz os y.2.2.1).o y),vI (aBa os y),vB true,vL none 0 0,vL none 0 0] 50]:=hM;obtain ⟨bl,hbl⟩:∃ z,z=(bn (ak 0)):=⟨_,rfl⟩;rw [←hbl] at hM ⊢;replace hM:Mm nF_ w w1 [bk aa #[vL p0 os.length cp0] 24,_,_,_,_,bk bl #[vS y.1,vS y.2.1,vS y.2.2.1,vI y.2.2.2,vB (aAR prof (aCz os y.2.2.1).o y),vI (aBa os y),vB true,vL none 0 0,vL none 0 0] 50]:=hM;refine seg 7 0 [] f0 ?_;obtain ⟨a1,ae,-⟩:=hM.el arT (j:=1) rfl hy;refine drc [(9,vS ((aAy zw.o.tags [104,111,117,114,115]).1)),(10,vB (aAy zw.o.tags [104,111,117,114,115]).2)] hM (fun w5 hM=>(fc (lam 24 0 0 1 hM rfl) (fc (ix 75 ca ae (gl hy)) (fc (lar 47 1 0 4 arT hM rfl ae hy) (fc (tcl (aLa (hmv.fr hM.fr) hv hyf hzw)) (fc (tcl (aEe ((hob _ hz1).tags.src.fr hM.fr) [104,111,117,114,115])) f0)))))) fun w5 hM=>?_
   have cu336:∀ (frB:Bool) (hp:Option Addr) (hc:Nat) (hs:List Sp) (w2:World),frB = !((aAy zw.o.tags [104,111,117,114,115]).2&&aDz zw.o)->(hs=bif (aAy zw.o.tags [104,111,117,114,115]).2 then aAd zw.o else [])->Mm nF_ w w2 [bk aa #[vL p0 os.length cp0] 24,rw_ arL 4 47 (vL qa A.length ca) A,rw_ lkL 9 50 vo L,aAD spL 2 141 (hbL L),aAD inL 1 3 (nbL L),bk bl #[vS y.1,vS y.2.1,vS y.2.2.1,vI y.2.2.2,vB (aAR prof (aCz os y.2.2.1).o y),vI (aBa os y),vB frB,vL hp hs.length hc,vL none 0 0] 50,rw_ spL 2 141 (vL hp hs.length hc) hs]->A18 Y (some (12,0)) [(8,vP bl 0),(7,vI (i:Int)),(6,vo),(5,vL qa A.length ca),(2,vP aa 0),(1,vS prof)] w2:=by
    intro frB hp hc hs w2 hfr hhs hM;have hM:=hM.row (f:=inL) (c:=1) (E:=3);refine seg 13 0 [(14,vI 0)] f0 ?_
    have av:∀ (al:Nat) (k:Nat) (qn:Option Addr) (cn:Nat) (w2:World),k<=A.length->Mm nF_ w w2 [bk aa #[vL p0 os.length cp0] 24,rw_ arL 4 47 (vL qa A.length ca) A,rw_ lkL 9 50 vo L,aAD spL 2 141 (hbL L),aAD inL 1 3 (nbL L),bk bl #[vS y.1,vS y.2.1,vS y.2.2.1,vI y.2.2.2,vB (aAR prof (aCz os y.2.2.1).o y),vI (aBa os y),vB frB,vL hp hs.length hc,vL qn (nxK os prof A y k).length cn] 50,rw_ spL 2 141 (vL hp hs.length hc) hs,rw_ inL 1 3 (vL qn (nxK os prof A y k).length cn) (nxK os prof A y k)]->al=A.length-k->A18 Y (some (13,0)) [(14,vI (k:Int)),(8,vP bl 0),(7,vI (i:Int)),(6,vo),(5,vL qa A.length ca),(2,vP aa 0),(1,vS prof)] w2:=by
     refine aA8 fun al am k qn cn w2 hk hM a2=>?_;have hnl:=aP2 os prof A y k;refine seg 13 4 [(67,vB (decide ((k:Int)<(A.length:Int))))] f0 ?_;cases an:(decide ((k:Int)<(A.length:Int)))
     ·have aw:=df an;have hkA:k=A.length:=by omega
      rw [hkA] at hM;replace hM:Mm nF_ w _ [bk aa #[vL p0 os.length cp0] 24,_,_,_,_,bk bl #[vS y.1,vS y.2.1,vS y.2.2.1,vI y.2.2.2,vB (aAR prof (aCz os y.2.2.1).o y),vI (aBa os y),vB frB,vL hp hs.length hc,vL qn (nxK os prof A y A.length).length cn] 50,_,_]:=hM;refine aAp 17 2 89 [(87,vo),(88,.agg #[vS y.1,vS y.2.1,vS y.2.2.1,vI y.2.2.2,vB (aAR prof (aCz os y.2.2.1).o y),vI (aBa os y),vB frB,vL hp hs.length hc,vL qn (nxK os prof A y A.length).length cn])] (cs:=#[vS y.1,vS y.2.1,vS y.2.2.1,vI y.2.2.2,vB (aAR prof (aCz os y.2.2.1).o y),vI (aBa os y),vB frB,vL hp hs.length hc,vL qn (nxK os prof A y A.length).length cn]) (T:=50) (v:=fun b=>vL (some ⟨b,0,none⟩) 1 1) (fc (lam 50 5 0 9 hM rfl) f0) hM fun a3 w1 hM=>aXo 17 3 90 [] (cap:=1) (by decide) lkT f0 hM (j:=2) rfl (aAG (f:=lkL) (x:=(⟨y,(aAR prof (aCz os y.2.2.1).o y),(aBa os y),frB,hp,hc,hs,qn,cn,(nxK os prof A y A.length)⟩:LkR)) (hM.get 8 rfl) (Gq_ _)) (fun h=>by cases h) (by simp only [Gf_,Go_];omega) fun a4 w1 hM=>?_;obtain ⟨ab,ac,ax,-⟩:=(hM.src (j:=2) rfl lkT.len).op;subst ax;have hM:Mm nF_ w _ [bk aa #[vL p0 os.length cp0] 24,rw_ arL 4 47 (vL qa A.length ca) A,rw_ lkL 9 50 (vL ab (L++[(⟨y,(aAR prof (aCz os y.2.2.1).o y),(aBa os y),frB,hp,hc,hs,qn,cn,(nxK os prof A y A.length)⟩:LkR)]).length ac) (L++[(⟨y,(aAR prof (aCz os y.2.2.1).o y),(aBa os y),frB,hp,hc,hs,qn,cn,(nxK os prof A y A.length)⟩:LkR)]),aAD inL 1 3 (nbL L),rw_ inL 1 3 (vL qn (nxK os prof A y A.length).length cn) (nxK os prof A y A.length),aAD spL 2 141 (hbL L),rw_ spL 2 141 (vL hp hs.length hc) hs]:=hM.pick [0,1,2,4,7,3,6];have hM:Mm nF_ w _ [bk aa #[vL p0 os.length cp0] 24,rw_ arL 4 47 (vL qa A.length ca) A,rw_ lkL 9 50 (vL ab (L++[(⟨y,(aAR prof (aCz os y.2.2.1).o y),(aBa os y),frB,hp,hc,hs,qn,cn,(nxK os prof A y A.length)⟩:LkR)]).length ac) (L++[(⟨y,(aAR prof (aCz os y.2.2.1).o y),(aBa os y),frB,hp,hc,hs,qn,cn,(nxK os prof A y A.length)⟩:LkR)]),aAD inL 1 3 (nbL L),rw_ inL 1 3 (vL qn (nxK os prof A y A.length).length cn) (nxK os prof A y A.length),aAD spL 2 141 (hbL (L++[(⟨y,(aAR prof (aCz os y.2.2.1).o y),(aBa os y),frB,hp,hc,hs,qn,cn,(nxK os prof A y A.length)⟩:LkR)]))]:=aHy (A:=[bk aa #[vL p0 os.length cp0] 24,rw_ arL 4 47 (vL qa A.length ca) A,rw_ lkL 9 50 (vL ab (L++[(⟨y,(aAR prof (aCz os y.2.2.1).o y),(aBa os y),frB,hp,hc,hs,qn,cn,(nxK os prof A y A.length)⟩:LkR)]).length ac) (L++[(⟨y,(aAR prof (aCz os y.2.2.1).o y),(aBa os y),frB,hp,hc,hs,qn,cn,(nxK os prof A y A.length)⟩:LkR)]),aAD inL 1 3 (nbL L),rw_ inL 1 3 (vL qn (nxK os prof A y A.length).length cn) (nxK os prof A y A.length)]) hM (by unfold hbL;rw [List.map_append];exact List.perm_append_singleton _ _);have hM:Mm nF_ w _ [bk aa #[vL p0 os.length cp0] 24,rw_ arL 4 47 (vL qa A.length ca) A,rw_ lkL 9 50 (vL ab (L++[(⟨y,(aAR prof (aCz os y.2.2.1).o y),(aBa os y),frB,hp,hc,hs,qn,cn,(nxK os prof A y A.length)⟩:LkR)]).length ac) (L++[(⟨y,(aAR prof (aCz os y.2.2.1).o y),(aBa os y),frB,hp,hc,hs,qn,cn,(nxK os prof A y A.length)⟩:LkR)]),aAD spL 2 141 (hbL (L++[(⟨y,(aAR prof (aCz os y.2.2.1).o y),(aBa os y),frB,hp,hc,hs,qn,cn,(nxK os prof A y A.length)⟩:LkR)])),aAD inL 1 3 (nbL L),rw_ inL 1 3 (vL qn (nxK os prof A y A.length).length cn) (nxK os prof A y A.length)]:=hM.pick [0,1,2,5,3,4];have hM:Mm nF_ w _ [bk aa #[vL p0 os.length cp0] 24,rw_ arL 4 47 (vL qa A.length ca) A,rw_ lkL 9 50 (vL ab (L++[(⟨y,(aAR prof (aCz os y.2.2.1).o y),(aBa os y),frB,hp,hc,hs,qn,cn,(nxK os prof A y A.length)⟩:LkR)]).length ac) (L++[(⟨y,(aAR prof (aCz os y.2.2.1).o y),(aBa os y),frB,hp,hc,hs,qn,cn,(nxK os prof A y A.length)⟩:LkR)]),aAD spL 2 141 (hbL (L++[(⟨y,(aAR prof (aCz os y.2.2.1).o y),(aBa os y),frB,hp,hc,hs,qn,cn,(nxK os prof A y A.length)⟩:LkR)])),aAD inL 1 3 (nbL (L++[(⟨y,(aAR prof (aCz os y.2.2.1).o y),(aBa os y),frB,hp,hc,hs,qn,cn,(nxK os prof A y A.length)⟩:LkR)]))]:=aHy (A:=[bk aa #[vL p0 os.length cp0] 24,rw_ arL 4 47 (vL qa A.length ca) A,rw_ lkL 9 50 (vL ab (L++[(⟨y,(aAR prof (aCz os y.2.2.1).o y),(aBa os y),frB,hp,hc,hs,qn,cn,(nxK os prof A y A.length)⟩:LkR)]).length ac) (L++[(⟨y,(aAR prof (aCz os y.2.2.1).o y),(aBa os y),frB,hp,hc,hs,qn,cn,(nxK os prof A y A.length)⟩:LkR)]),aAD spL 2 141 (hbL (L++[(⟨y,(aAR prof (aCz os y.2.2.1).o y),(aBa os y),frB,hp,hc,hs,qn,cn,(nxK os prof A y A.length)⟩:LkR)]))]) hM (by unfold nbL;rw [List.map_append];exact List.perm_append_singleton _ _);refine seg 4 0 [(6,vL ab (L++[(⟨y,(aAR prof (aCz os y.2.2.1).o y),(aBa os y),frB,hp,hc,hs,qn,cn,(nxK os prof A y A.length)⟩:LkR)]).length ac),(7,vI ((i:Int)+1))] (fc (aAe (i:Int) 1 u3_) f0) (aAb _ (ar _ (by have:=gl hy;omega) (i+1) (L++[(⟨y,(aAR prof (aCz os y.2.2.1).o y),(aBa os y),frB,hp,hc,hs,qn,cn,(nxK os prof A y A.length)⟩:LkR)]) (vL ab (L++[(⟨y,(aAR prof (aCz os y.2.2.1).o y),(aBa os y),frB,hp,hc,hs,qn,cn,(nxK os prof A y A.length)⟩:LkR)]).length ac) _ (gl hy) (hL.snoc hy ⟨rfl,rfl,rfl,by rw [←hzw];exact hfr,by rw [←hzw];exact hhs,rfl⟩) hM rfl))
     have aw:=dt an;obtain ⟨y2,hy2⟩:=geb (l:=A) (i:=k) (by omega);refine seg 15 0 [] f0 ?_;obtain ⟨a5,ao,-⟩:=hM.el arT (j:=1) rfl hy2;refine drc [(80,vB (aEQ os prof y y2))] hM (fun w5 hM=>(fc (lam 24 0 0 1 hM rfl) (fc (ix 75 ca ae (gl hy)) (fc (lar 47 1 0 4 arT hM rfl ae hy) (fc (ix 75 ca ao (gl hy2)) (fc (lar 47 1 0 4 arT hM rfl ao hy2) (fc (tcl (aLb (hmv.fr hM.fr) hol hv prof y y2)) f0))))))) fun w5 hM=>?_;cases ap:(aEQ os prof y y2)
     ·refine seg 13 0 [(14,vI ((k:Int)+1))] (fc (aAe (k:Int) 1 u3_) f0) ?_;have e9:(nxK os prof A y k)=nxK os prof A y (k+1):=by rw [aP1 hy2,ap];rfl
      replace hM:Mm nF_ w _ [bk aa #[vL p0 os.length cp0] 24,_,_,_,_,bk bl #[vS y.1,vS y.2.1,vS y.2.2.1,vI y.2.2.2,vB (aAR prof (aCz os y.2.2.1).o y),vI (aBa os y),vB frB,vL hp hs.length hc,vL qn (nxK os prof A y k).length cn] 50,_,_]:=hM;rw [e9] at hM;exact aAb _ (am _ (by have:=gl hy2;omega) (k+1) qn cn _ (gl hy2) hM rfl)
     refine aAp 16 3 84 [(82,vL qn (nxK os prof A y k).length cn),(83,vI (k:Int))] (cs:=#[vI (k:Int)]) (T:=3) (v:=fun b=>vL (some ⟨b,0,none⟩) 1 1) (fc (ldm 29 5 8 hM rfl rfl) f0) hM fun a6 w1 hM=>aH5 16 4 85 [] (cap:=1) (by decide) inT f0 hM (j:=7) rfl (aAG (f:=inL) (x:=(k:Int)) (hM.get 8 rfl) (Gq_ _)) (fun h=>by cases h) (by simp only [Gf_,Go_];omega) fun a7 w1 hM=>?_;obtain ⟨ag,ah,ay,-⟩:=(hM.src (j:=7) rfl inT.len).op;subst ay;refine stm 16 6 [(86,vP bl 8)] 29 5 8 (vL ag ((nxK os prof A y k)++[(k:Int)]).length ah) f0 hM rfl fun w1 hM=>seg 13 0 [(14,vI ((k:Int)+1))] (fc (aAe (k:Int) 1 u3_) f0) ?_;have e9:((nxK os prof A y k)++[(k:Int)])=nxK os prof A y (k+1):=by rw [aP1 hy2,ap];rfl
     replace hM:=hM.pick [0,1,2,3,4,5,6,7];replace hM:Mm nF_ w _ [bk aa #[vL p0 os.length cp0] 24,_,_,_,_,bk bl #[vS y.1,vS y.2.1,vS y.2.2.1,vI y.2.2.2,vB (aAR prof (aCz os y.2.2.1).o y),vI (aBa os y),vB frB,vL hp hs.length hc,vL ag ((nxK os prof A y k)++[(k:Int)]).length ah] 50,_,_]:=hM;rw [e9] at hM;exact aAb _ (am _ (by have:=gl hy2;omega) (k+1) ag ah _ (gl hy2) hM rfl)
    exact aAb _ (av _ 0 none 0 _ (Gg_ _) hM rfl)
   refine seg 8 1 [(52,vB (aAy zw.o.tags [104,111,117,114,115]).2)] f0 ?_
   cases af:(aAy zw.o.tags [104,111,117,114,115]).2 with
   | false =>
    refine seg 12 0 [] f0 ?_;have hM:=hM.row (f:=spL) (c:=2) (E:=141);exact aAb _ (cu336 true none 0 [] _ (by rw [af];rfl) (by rw [af];rfl) hM)
   | true =>
    refine cal 9 1 55 [(54,vS ((aAy zw.o.tags [104,111,117,114,115]).1))] (K:=fun u w8=>∃ v c x,u = .tuple #[v,vI c,vI x] /\ (c==0)=aDz zw.o /\ aH6 spL 2 141 w5 w8 v (aAd zw.o) /\ Fr nF_ w5 w8) f0 ((aNv (w:=w5) (o:=zw.o) htl).mono fun e w8 ⟨v,c,x,h1,h2⟩=>⟨_,h1,v,c,x,rfl,h2⟩) fun u w1 ⟨v,c,x,hu,hco,hO,f1⟩=>?_;subst hu;have hM:=hM.add f1 (rw_ spL 2 141 v (aAd zw.o)) hO.1 hO.2;obtain ⟨qh,ch,rfl,-⟩:=hO.op spT.len;refine stm 10 3 [(11,vL qh (aAd zw.o).length ch),(60,vB (!(c==0))),(61,vP bl 6)] 4 5 6 (vB (!(c==0))) f0 hM rfl fun w1 hM=>stm 11 2 [(62,vL qh (aAd zw.o).length ch),(63,vP bl 7)] 48 5 7 (vL qh (aAd zw.o).length ch) f0 hM rfl fun w1 hM=>seg 12 0 [] f0 (aAb _ (cu336 (!(c==0)) qh ch (aAd zw.o) _ (by rw [hco,af];rfl) (by rw [af];rfl) hM))
  exact aAb _ (aq _ 0 [] (vL none 0 0) _ (Gg_ _) (LksP.nil os prof A) hM rfl)
theorem aRV {l:List Sp}{m:Int}(h0:0<=m):0<=(aAz l m).1 /\ (aAz l m).1<=m+30000:=by
  cases hv:vl (-1) l with
  | false=>rw [aGW hv];simp only;omega
  | true =>
    cases hm:aBo m with
    | false=>rw [aFg hm];simp only;omega
    | true =>
      cases he:l.isEmpty with
      | true=>rw [aGV he];simp only;omega
      | false =>
        rw [aFh hv hm he];show 0<=aDp l m /\ aDp l m<=m+30000
        cases hf:l.find? (fun s=>decide (m%10080<s.2)) with
        | some s =>
          rw [aFE hf];obtain ⟨i,hi⟩:=List.getElem?_of_mem (List.mem_of_find?_eq_some hf);have:=aIs hv hi;omega
        | none =>
          obtain ⟨s,hs⟩:=geb (l:=l) (i:=0) (by cases l with | nil=>cases he | cons a l=>simp);rw [aFD hf hs];have:=aIs hv hs;omega
structure LkV (w:World) (x:LkR):Prop where
  hs:SrcP spL 2 w x.hp x.hc x.hs
  nx:SrcP inL 1 w x.np x.nc x.nx
theorem aPK {F0:Nat->Prop}{w0 w:World}{M:List Ent}{L:List LkR}(hM:Mm F0 w0 w M) {i j:Nat}(hi:M[i]?=some (aAD spL 2 141 (hbL L))) (hj:M[j]?=some (aAD inL 1 3 (nbL L))):∀ x∈L,LkV w x:=fun x hx =>
  ⟨(Src.p (ow.src spT.len ((hM.get i hi).1 (vL x.hp x.hs.length x.hc,x.hs) (List.mem_map.2 ⟨x,hx,rfl⟩)))).2,(Src.p (ow.src inT.len ((hM.get j hj).1 (vL x.np x.nx.length x.nc,x.nx) (List.mem_map.2 ⟨x,hx,rfl⟩)))).2⟩
def aAk (x:LkR) (m:Int):Int×Bool :=
  bif !x.op||(decide (m<0)||decide (1000000000<m)) then (0,false) else bif x.fr then (m+x.tk,true) else ((aAz x.hs m).1+x.tk,(aAz x.hs m).2&&decide ((aAz x.hs m).1<=1000000000))
theorem aBZ {w:World}(x:LkR) (hh:SrcP spL 2 w x.hp x.hc x.hs) (htk:0<=x.tk /\ x.tk<=5000000000) (m:Int):Calls Tryz.prog 21 #[vA (lkL x),vI m] w fun e w'=>e = .returned (.tuple #[vI (aAk x m).1,vB (aAk x m).2]) /\ Fr nF_ w w':=by
  refine beg Tryz.func21 rfl rfl [(0,.agg #[vS x.a.1,vS x.a.2.1,vS x.a.2.2.1,vI x.a.2.2.2,vB x.op,vI x.tk,vB x.fr,vL x.hp x.hs.length x.hc,vL x.np x.nx.length x.nc]),(1,vI m)] rfl rfl fun Z hZ=>?_;have hM:=Mm.nil nF_ w;refine aAp 0 0 2 [] (cs:=#[vS x.a.1,vS x.a.2.1,vS x.a.2.2.1,vI x.a.2.2.2,vB x.op,vI x.tk,vB x.fr,vL x.hp x.hs.length x.hc,vL x.np x.nx.length x.nc]) (T:=50) (v:=fun b=>vP b 0) f0 hM fun ah w1 hM=>seg 1 4 [(11,vB (!x.op))] (fc (ldm 4 0 4 hM rfl rfl) f0) ?_
  cases ab:x.op with
  | false =>
   exact rt2 4 5 (vI 0) (vB false) rfl rfl f0 (hZ _ _ ⟨by unfold aAk;simp only [ab]<;>rfl,hM.fr⟩)
  | true =>
   refine seg 1 8 [(15,vB (decide (m<0)))] f0 ?_;cases aa:(decide (m<0))
   rotate_left
   ·have af:=dt aa;exact rt2 4 5 (vI 0) (vB false) rfl rfl f0 (hZ _ _ ⟨by unfold aAk;simp only [ab,aa]<;>rfl,hM.fr⟩)
   have af:=df aa;refine seg 1 11 [(18,vB (decide (1000000000<m)))] f0 ?_;cases ac:(decide (1000000000<m))
   rotate_left
   ·have ag:=dt ac;exact rt2 4 5 (vI 0) (vB false) rfl rfl f0 (hZ _ _ ⟨by unfold aAk;simp only [ab,aa,ac]<;>rfl,hM.fr⟩)
   have ag:=df ac;refine seg 3 2 [(20,vB x.fr)] (fc (ldm 4 0 6 hM rfl rfl) f0) ?_
   cases ad:x.fr with
   | false =>
    refine aAq 5 3 29 [(27,vL x.hp x.hs.length x.hc),(28,vI m)] (fc (ldm 48 0 7 hM rfl rfl) f0) hM (aLf (hh.src.fr hM.fr) m) fun w1 hM=>?_;have hnb:=aRV (l:=x.hs) (m:=m) (by omega);refine seg 6 6 [(6,vI (aAz x.hs m).1),(35,vI ((aAz x.hs m).1+x.tk)),(37,vB (aAz x.hs m).2)] (fc (ldm 3 0 5 hM rfl rfl) (fc (aAe (aAz x.hs m).1 x.tk u3_) f0)) ?_
    cases ae:(aAz x.hs m).2 with
    | false =>
     exact rt2 4 5 (vI ((aAz x.hs m).1+x.tk)) (vB false) rfl rfl f0 (hZ _ _ ⟨by unfold aAk;simp only [ab,aa,ac,ad,ae]<;>rfl,hM.fr⟩)
    | true =>
     exact rt2 4 5 (vI ((aAz x.hs m).1+x.tk)) (vB (decide ((aAz x.hs m).1<=1000000000))) rfl rfl f0 (hZ _ _ ⟨by unfold aAk;simp only [ab,aa,ac,ad,ae]<;>rfl,hM.fr⟩)
   | true =>
    exact rt2 4 5 (vI (m+x.tk)) (vB true) rfl rfl (fc (ldm 3 0 5 hM rfl rfl) (fc (aAe m x.tk u3_) f0)) (hZ _ _ ⟨by unfold aAk;simp only [ab,aa,ac,ad]<;>rfl,hM.fr⟩)
theorem aFq {l:List Int}{k:Nat}{z i:Int}(h:l[k]?=some z):(l.take (k+1)).contains i=((l.take k).contains i||(z==i)):=by
  rw [gt_ h,List.contains_eq_any_beq,List.contains_eq_any_beq,List.any_append,List.any_cons,List.any_nil,Bool.or_false,Bool.beq_comm]
theorem aHs (c:UInt8):∀ (l:Bys) (a:Nat),Lib.decFrom a (l++[c])=(Lib.decFrom a l).bind fun m=>(Lib.digitVal c).map fun d=>m*10+d
 | [],a=>by
  show (match Lib.digitVal c with | some d=>Lib.decFrom (a*10+d) [] | none=>none)=_;cases Lib.digitVal c<;>rfl
 | b::l,a=>by
  show (match Lib.digitVal b with | some d=>Lib.decFrom (a*10+d) (l++[c]) | none=>none)=(match Lib.digitVal b with | some d=>Lib.decFrom (a*10+d) l | none=>none).bind _
  cases Lib.digitVal b with
  | none=>rfl
  | some d=>exact aHs c l (a*10+d)
theorem aWg {u:Nat}(h:u<10):Lib.digitVal (UInt8.ofNat (48+u))=some u:=by
 unfold Lib.digitVal;have:(UInt8.ofNat (48+u)).toNat=48+u:=by rw [UInt8.toNat_ofNat_of_lt'];show 48+u<256;omega
 rw [this,if_pos (by omega)];congr 1;omega
theorem aUI {c:UInt8}{d:Nat}(h:Lib.digitVal c=some d):d<10 /\ c=UInt8.ofNat (48+d):=by
 unfold Lib.digitVal at h
 split at h
 ·cases h;refine ⟨by omega,?_⟩;rw [show 48+(c.toNat-48)=c.toNat by omega];simp
 ·cases h
theorem aHr {u:Nat}(h:¬ u<10):Lib.decDigits u=Lib.decDigits (u / 10)++[UInt8.ofNat (48+u%10)]:=by
 rw [Lib.decDigits,dif_neg h]
theorem aSr (u:Nat):Lib.decFrom 0 (Lib.decDigits u)=some u:=by
 induction u using Nat.strongRecOn with
 | _ u ih =>
  by_cases h:u<10
  ·rw [Lib.decDigits_one h];show (match Lib.digitVal (UInt8.ofNat (48+u)) with | some d=>Lib.decFrom (0*10+d) [] | none=>none)=_;rw [aWg h];show some (0*10+u)=some u;rw [Nat.zero_mul,Nat.zero_add]
  ·rw [aHr h,aHs,ih (u / 10) (by omega),aWg (Nat.mod_lt _ (by decide))];show some (u / 10*10+u%10)=some u;congr 1;omega
theorem aTj (u:Nat):Lib.decDigits u≠[]:=by
 by_cases h:u<10
 ·rw [Lib.decDigits_one h];simp
 ·rw [aHr h];simp
theorem aKo {l m:Bys}(h:l≠[]):(l++m).headD 0=l.headD 0:=by cases l with | nil=>exact absurd rfl h | cons a l=>rfl
theorem aSq (u:Nat) (h0:0<u):((Lib.decDigits u).headD 0).toNat≠48:=by
 induction u using Nat.strongRecOn with
 | _ u ih =>
  by_cases h:u<10
  ·rw [Lib.decDigits_one h];show (UInt8.ofNat (48+u)).toNat≠48;rw [UInt8.toNat_ofNat_of_lt' (by show 48+u<256;omega)];omega
  ·rw [aHr h,aKo (aTj _)];exact ih (u / 10) (by omega) (by omega)
theorem aQk:∀ (k u:Nat),u<10 ^ (k+1)->(Lib.decDigits u).length<=k+1
 | k,u,hu=>by
  by_cases h:u<10
  ·rw [Lib.decDigits_one h];simp
  ·cases k with
   | zero=>simp at hu;omega
   | succ k =>
    rw [aHr h,Gk_,List.length_singleton];have:=aQk k (u / 10) (by rw [Nat.pow_succ] at hu;omega);omega
theorem aMO:∀ (n:Nat) (l:Bys),l.length=n->l≠[]->(l.headD 0).toNat≠48->∀ m,Lib.decFrom 0 l=some m->Lib.decDigits m=l /\ 0<m
 | 0,l,hl,hn,_,_,_=>absurd (List.eq_nil_of_length_eq_zero hl) hn
 | n+1,l,hl,hn,hh,m,hm=>by
  rcases List.eq_nil_or_concat l with rfl | ⟨t,c,rfl⟩
  ·exact absurd rfl hn
  ·rw [List.concat_eq_append] at hl hn hh hm ⊢;rw [aHs] at hm;obtain ⟨m',h1,h2⟩:=Option.bind_eq_some_iff.1 hm;obtain ⟨d,h3,rfl⟩:=Option.map_eq_some_iff.1 h2;obtain ⟨hd,rfl⟩:=aUI h3
   by_cases ht:t=[]
   ·subst ht;have h1:some 0=some m':=h1;cases h1;have h48:(UInt8.ofNat (48+d)).toNat≠48:=hh;rw [UInt8.toNat_ofNat_of_lt' (by show 48+d<256;omega)] at h48;rw [Nat.zero_mul,Nat.zero_add];exact ⟨Lib.decDigits_one hd,by omega⟩
   ·rw [aKo ht] at hh;obtain ⟨h4,h5⟩:=aMO n t (by simp at hl;omega) ht hh m' h1;refine ⟨?_,by omega⟩;rw [aHr (by omega),show (m'*10+d) / 10=m' by omega,show (m'*10+d)%10=d by omega,h4]
theorem aME {c:UInt8}{d:Nat}(h:Lib.digitVal c=some d) (k:Int):aDC k c=10*k+(d:Int):=by
 unfold Lib.digitVal at h
 split at h
 ·rename_i hc;cases h;unfold aDC;rw [decide_eq_false (by omega),decide_eq_false (by omega)];simp only [Bool.or_self,cond_false];omega
 ·cases h
theorem aMC {c:UInt8}(h:Lib.digitVal c=none) (k:Int):aDC k c <= -100000000:=by
 unfold Lib.digitVal at h
 split at h
 ·cases h
 ·rename_i hc;have:=c.toNat_lt;unfold aDC
  have:(decide ((c.toNat:Int)<48)||decide (57<(c.toNat:Int)))=true:=by
   rw [Bool.or_eq_true,decide_eq_true_eq,decide_eq_true_eq];omega
  rw [this];simp only [cond_true];omega
theorem aMD:∀ (l:Bys) (k:Int),k <= -100000000->l.foldl aDC k <= -100000000
 | [],k,h=>h
 | c::l,k,h=>by
  refine aMD l _ ?_
  cases hc:Lib.digitVal c with
  | none=>exact aMC hc k
  | some d=>rw [aME hc];have:=(aUI hc).1;omega
theorem aMF:∀ (l:Bys) (a:Nat),match Lib.decFrom a l with
  | some m=>l.foldl aDC (a:Int)=(m:Int)
  | none=>l.foldl aDC (a:Int) <= -100000000
 | [],a=>rfl
 | c::l,a=>by
  show match (match Lib.digitVal c with | some d=>Lib.decFrom (a*10+d) l | none=>none) with
   | some m=>l.foldl aDC (aDC a c)=(m:Int)
   | none=>l.foldl aDC (aDC a c) <= -100000000
  cases hc:Lib.digitVal c with
  | none=>exact aMD l _ (aMC hc _)
  | some d =>
   have:=aMF l (a*10+d);rw [aME hc,show 10*(a:Int)+(d:Int)=((a*10+d:Nat):Int) by omega];exact this
def aTK (s:Bys):Bool:=decide (1<=(s.length:Int))&&(decide ((s.length:Int)<=7) && !(((s.headD 0).toNat:Int)==48))
theorem aNj (s:Bys) (hs:s.length<=1000):aA7 s=aBz s:=by
 have hR:aBz s=bif aTK s then (bif decide (0<aCE s) then aCE s else 100) else 100:=rfl
 have hf:=aMF s 0
 have key:∀ m,Lib.decFrom 0 s=some m->aTK s=true->aA7 s=m /\ aBz s=m:=by
  intro m hm hb;have hb2:=hb;unfold aTK at hb2;simp only [Ga_,decide_eq_true_eq,Bool.not_eq_true',Gw_,ne_eq] at hb2;obtain ⟨h1,h2,h3⟩:=hb2;have hne:s≠[]:=fun e=>by rw [e] at h1;simp at h1
  obtain ⟨h4,h5⟩:=aMO _ s rfl hne (fun e=>h3 (by rw [e];rfl)) m hm
  have h6:m<10000000:=by
   have:=Lib.decFrom_lt s 0 m hm;have hp:10 ^ s.length<=10 ^ 7:=Nat.pow_le_pow_right (by decide) (by omega);omega
  have hat:aHz s=some (m:Int):=by
   unfold aHz;rw [Lib.atoiAll_short s (by omega)]
   cases s with
   | nil=>exact absurd rfl hne
   | cons c r =>
    have hc:∃ d,Lib.digitVal c=some d:=Lib.digit_of_decFrom _ _ _ hm 0 c rfl;obtain ⟨d,hd⟩:=hc;obtain ⟨hd9,rfl⟩:=aUI hd
    have e45:(UInt8.ofNat (48+d)==45)=false:=by
     rw [Gw_];intro e;have:=congrArg UInt8.toNat e;rw [UInt8.toNat_ofNat_of_lt' (by show 48+d<256;omega)] at this;have:48+d=45:=this;omega
    have e43:(UInt8.ofNat (48+d)==43)=false:=by
     rw [Gw_];intro e;have:=congrArg UInt8.toNat e;rw [UInt8.toNat_ofNat_of_lt' (by show 48+d<256;omega)] at this;have:48+d=43:=this;omega
    unfold Lib.atoi
    dsimp only
    rw [e45,e43]
    have hdn:Lib.decNat (UInt8.ofNat (48+d)::r)=some m:=by
     unfold Lib.decNat;rw [List.isEmpty_cons,if_neg (by simp)];exact hm
    simp only [Bool.false_eq_true,if_false,hdn,Option.map_some,Lib.NumEnd.ofOption]
  constructor
  ·unfold aA7;rw [hat];show (bif decide ((m:Int)<1)||decide (9999999<(m:Int)) || !(Lib.itoa (m:Int)==s) then 100 else (m:Int))=m;rw [Lib.itoa_nonneg,h4,decide_eq_false (by omega),decide_eq_false (by omega)];simp
  ·rw [hm] at hf;have hf:aCE s=(m:Int):=hf;rw [hR,hb,hf,decide_eq_true (by omega)];rfl
 cases hm:Lib.decFrom 0 s with
 | none =>
  rw [hm] at hf;have hf:aCE s <= -100000000:=hf
  have h1:aBz s=100:=by
   rw [hR,decide_eq_false (by omega)];cases aTK s<;>rfl
  rw [h1];unfold aA7
  cases ha:aHz s with
  | none=>rfl
  | some n =>
   show (bif decide (n<1)||decide (9999999<n) || !(Lib.itoa n==s) then 100 else n)=100
   cases hb:decide (n<1)||decide (9999999<n) || !(Lib.itoa n==s) with
   | true=>rfl
   | false =>
    simp only [Bool.or_eq_false_iff,decide_eq_false_iff_not,Bool.not_eq_false',beq_iff_eq] at hb;obtain ⟨⟨h2,h3⟩,h4⟩:=hb;have h5:=Lib.itoa_nonneg n.toNat;rw [show ((n.toNat:Nat):Int)=n by omega,h4] at h5;rw [h5,aSr] at hm;cases hm
 | some m =>
  cases hb:aTK s with
  | true=>obtain ⟨h1,h2⟩:=key m hm hb;rw [h1,h2]
  | false =>
   rw [hR,hb];show aA7 s=100;unfold aA7
   cases ha:aHz s with
   | none=>rfl
   | some n =>
    show (bif decide (n<1)||decide (9999999<n) || !(Lib.itoa n==s) then 100 else n)=100
    cases hc:decide (n<1)||decide (9999999<n) || !(Lib.itoa n==s) with
    | true=>rfl
    | false =>
     simp only [Bool.or_eq_false_iff,decide_eq_false_iff_not,Bool.not_eq_false',beq_iff_eq] at hc;obtain ⟨⟨h2,h3⟩,h4⟩:=hc;have h5:=Lib.itoa_nonneg n.toNat;rw [show ((n.toNat:Nat):Int)=n by omega,h4] at h5;have h6:=aQk 6 n.toNat (by have:(10:Nat) ^ (6+1)=10000000:=(by decide);omega);have h7:=aSq n.toNat (by omega);rw [←h5] at h6 h7;have h8:=aTj n.toNat;rw [←h5] at h8;have h9:0<s.length:=List.length_pos_iff.2 h8
     have:aTK s=true:=by
      unfold aTK;rw [decide_eq_true (by omega),decide_eq_true (by omega),show (((s.headD 0).toNat:Int)==48)=false by rw [Gw_];omega];rfl
     rw [hb] at this;cases this
section
variable {l:List Ob}
theorem aMG (hv:aAc l=true) {o:Ob}(ho:o∈l):l[(aAm l o.id).toNat]?=some o:=by
 obtain ⟨k,o2,h1,h2,h3⟩:=aDt (aDd (aAY hv) ho).1;rw [h1,Int.toNat_natCast,h2,aDN (aAY hv) (gm h2) ho h3]
theorem aSj {s:Bys}(h:¬ aAm l s<0):∃ o∈l,o.id=s /\ l[(aAm l s).toNat]?=some o:=by
 obtain ⟨k,o,h1,h2,h3⟩:=aDt h;exact ⟨o,gm h2,h3,by rw [h1,Int.toNat_natCast,h2]⟩
theorem aP8 {s:Bys}{p:Pt}(h:aAA l s=some p):∃ o∈l,o.kind=1 /\ o.id=s /\ p=(o.x,o.y):=by
 have key:∀ (l:List Ob) (r:Option Pt),l.foldl (fun r o=>bif (o.kind==1)&&(o.id==s) then some (o.x,o.y) else r) r=some p->r=some p∨∃ o∈l,o.kind=1 /\ o.id=s /\ p=(o.x,o.y):=by
  intro l
  induction l with
  | nil=>intro r h;exact .inl h
  | cons o l ih =>
   intro r h;rw [List.foldl_cons] at h;rcases ih _ h with h1 | ⟨y,hy,h2⟩
   ·cases hc:(o.kind==1)&&(o.id==s) with
    | false=>rw [hc] at h1;exact .inl h1
    | true =>
     rw [hc] at h1;rw [Ga_] at hc;exact .inr ⟨o,.head _,et hc.1,et hc.2,(Gh_ h1).symm⟩
   ·exact .inr ⟨y,.tail _ hy,h2⟩
 rcases key l none h with h | h
 ·cases h
 ·exact h
theorem aP6 {o:Ob}(ho:o∈l) (hk:o.kind=1):aAg l o.id=true:=by
 have key:∀ (l:List Ob) (r:Option Pt),(r.isSome=true∨o∈l)->(l.foldl (fun r y=>bif (y.kind==1)&&(y.id==o.id) then some (y.x,y.y) else r) r).isSome=true:=by
  intro l
  induction l with
  | nil=>intro r h;exact h.resolve_right (by simp)
  | cons y l ih =>
   intro r h;rw [List.foldl_cons];refine ih _ ?_;rcases h with h | h
   ·left;cases (y.kind==1)&&(y.id==o.id)<;>simp [h]
   ·rcases List.mem_cons.1 h with rfl | h
    ·left;rw [beq_iff_eq.2 hk,beq_self_eq_true];rfl
    ·exact .inr h
 exact key l none (.inr ho)
theorem aIQ {s:Bys}:aAg l s=true↔∃ o∈l,o.kind=1 /\ o.id=s:=by
 constructor
 ·intro h;obtain ⟨p,hp⟩:=Option.isSome_iff_exists.1 h;obtain ⟨o,h1,h2,h3,_⟩:=aP8 hp;exact ⟨o,h1,h2,h3⟩
 ·rintro ⟨o,h1,h2,rfl⟩;exact aP6 h1 h2
theorem aP7 (hv:aAc l=true) {s:Bys}(h:aAg l s=true):aVe l s=(aAA l s).getD (0,0):=by
 obtain ⟨p,hp⟩:=Option.isSome_iff_exists.1 h;obtain ⟨o,h1,_,rfl,h3⟩:=aP8 hp;unfold aVe;rw [aMG hv h1,hp,h3];rfl
theorem aKZ (hv:aAc l=true) {S:Ob->Bool}(hS:∀ x∈l,x.kind=1->S x=true) {o:Ob}{i:Nat}{s:Bys}(hs:o.refs[i]?=some s) (hk:aCo o (i:Int)=1):aCr l S o i=aAg l s:=by
 unfold aCr;rw [hs];show ((!decide (aAm l s<0))&&(match l[(aAm l s).toNat]? with | some x=>(x.kind==aCo o (i:Int))&&S x | none=>false))=_;rw [hk]
 by_cases h:aAm l s<0
 ·rw [decide_eq_true h]
  have:aAg l s=false:=by
   rw [Bool.eq_false_iff,ne_eq,aIQ];rintro ⟨y,hy,_,rfl⟩;exact (aDd (aAY hv) hy).1 h
  rw [this];rfl
 ·obtain ⟨x,hx,hid,hat⟩:=aSj h;rw [decide_eq_false h,hat];show ((x.kind==1)&&S x)=_
  cases hxk:(x.kind==1) with
  | true=>rw [hS x hx (et hxk)];exact (aIQ.2 ⟨x,hx,et hxk,hid⟩).symm
  | false =>
   have:aAg l s=false:=by
    rw [Bool.eq_false_iff,ne_eq,aIQ];rintro ⟨y,hy,hyk,he⟩;rw [aDN (aAY hv) hy hx (he.trans hid.symm)] at hyk;exact ef hxk hyk
   rw [this];rfl
theorem aQ8 {α:Type}{L:List α}{f:Nat->Bool}{g:α->Bool}(h:∀ i s,L[i]?=some s->f i=g s):(List.range L.length).all f=L.all g:=by
 rw [Bool.eq_iff_iff,List.all_eq_true,List.all_eq_true];constructor
 ·intro k s hs;obtain ⟨i,hi⟩:=List.getElem?_of_mem hs;rw [←h i s hi];exact k i (List.mem_range.2 (gl hi))
 ·intro k i hi;obtain ⟨s,hs⟩:=geb (List.mem_range.1 hi);rw [h i s hs];exact k s (gm hs)
theorem aSZ {o:Ob}(h:o.kind=2) (i:Int):aCo o i=1:=by unfold aCo;rw [h];rfl
theorem aSM (hv:aAc l=true) {o:Ob}(h:o.kind=2):aJJ l o=o.refs.all (aAg l):=aQ8 fun i s hs=>aKZ hv (fun _ _ _=>rfl) hs (aSZ h _)
theorem aOR (hv:aAc l=true) {o:Ob}(ho:o∈l) (h:o.kind=1):aJJ l o=true:=by
 unfold aJJ aDD;rw [aKd (aEh hv o ho) h];rfl
theorem aMk (hv:aAc l=true) {o:Ob}(h:o.kind=2):aEv l o=o.refs.all (aAg l):=aQ8 fun i s hs=>aKZ hv (fun x hx hk=>aOR hv hx hk) hs (aSZ h _)
def aWy (l:List Ob) (o:Ob):Bool:=(o.kind==2)&&aEv l o
theorem aT0 (hv:aAc l=true) {o:Ob}(ho:o∈l):aWx (aAg l) l o.id=bif (o.kind==2)&&o.refs.all (aAg l) then some o else none:=by
 have k1:∀ (m:List Ob) (r:Option Ob) (c:Ob),m.foldl (fun r y=>bif ((y.kind==2)&&y.refs.all (aAg l))&&(y.id==o.id) then some y else r) r=some c->r=some c∨(c∈m /\ (((c.kind==2)&&c.refs.all (aAg l))&&(c.id==o.id))=true):=by
  intro m
  induction m with
  | nil=>intro r c h;exact .inl h
  | cons y m ih =>
   intro r c h;rw [List.foldl_cons] at h;rcases ih _ c h with h1 | ⟨h1,h2⟩
   ·cases hc:((y.kind==2)&&y.refs.all (aAg l))&&(y.id==o.id) with
    | false=>rw [hc] at h1;exact .inl h1
    | true=>rw [hc] at h1;cases h1;exact .inr ⟨.head _,hc⟩
   ·exact .inr ⟨.tail _ h1,h2⟩
 have k2:∀ (m:List Ob) (r:Option Ob),(r.isSome=true∨∃ c∈m,(((c.kind==2)&&c.refs.all (aAg l))&&(c.id==o.id))=true)->(m.foldl (fun r y=>bif ((y.kind==2)&&y.refs.all (aAg l))&&(y.id==o.id) then some y else r) r).isSome=true:=by
  intro m
  induction m with
  | nil=>intro r h;exact h.resolve_right (by rintro ⟨c,hc,_⟩;cases hc)
  | cons y m ih =>
   intro r h;rw [List.foldl_cons];refine ih _ ?_;rcases h with h | ⟨c,hc,h2⟩
   ·left;cases ((y.kind==2)&&y.refs.all (aAg l))&&(y.id==o.id)<;>simp [h]
   ·rcases List.mem_cons.1 hc with rfl | hc
    ·left;rw [h2];rfl
    ·exact .inr ⟨c,hc,h2⟩
 cases hc:(o.kind==2)&&o.refs.all (aAg l) with
 | true =>
  have h1:=k2 l none (.inr ⟨o,ho,by rw [hc,beq_self_eq_true];rfl⟩);obtain ⟨c,hcc⟩:=Option.isSome_iff_exists.1 h1;rcases k1 l none c hcc with h | ⟨h2,h3⟩
  ·cases h
  ·rw [Ga_] at h3;rw [aDN (aAY hv) h2 ho (et h3.2)] at hcc;exact hcc
 | false =>
  cases hw:aWx (aAg l) l o.id with
  | none=>rfl
  | some c =>
   rcases k1 l none c hw with h | ⟨h2,h3⟩
   ·cases h
   ·rw [Ga_] at h3;rw [aDN (aAY hv) h2 ho (et h3.2),hc] at h3;cases h3.1
theorem aS0 (hv:aAc l=true) {o:Ob}(ho:o∈l):aNU l o=bif aWy l o then aFz l o.id o.refs else []:=by
 unfold aNU aWy;rw [aT0 hv ho]
 cases hk:(o.kind==2) with
 | false=>rfl
 | true =>
  rw [aMk hv (et hk)];cases o.refs.all (aAg l)<;>rfl
theorem aEH {α β:Type}{p:α->Bool}{g:α->List β}:∀ l:List α,(l.filter p).flatMap g=l.flatMap fun o=>bif p o then g o else []
 | []=>rfl
 | a::l=>by
  rw [List.filter_cons,List.flatMap_cons]
  cases h:p a with
  | true=>rw [if_pos rfl,List.flatMap_cons,aEH l];rfl
  | false=>rw [if_neg (by simp),aEH l];rfl
theorem aIh {α β:Type}{f g:α->List β}:∀ {l:List α},(∀ o∈l,f o=g o)->l.flatMap f=l.flatMap g
 | [],_=>rfl
 | a::l,h=>by rw [List.flatMap_cons,List.flatMap_cons,h a (.head _),aIh fun o ho=>h o (.tail _ ho)]
theorem aTn (hv:aAc l=true):asP l=(l.filter (aWy l)).flatMap fun o=>aFz l o.id o.refs:=by
 unfold asP;rw [aEH];exact aIh fun o ho=>aS0 hv ho
def ns (A:List Arc) (a:Arc):List Arc:=bif A.contains a then A else A++[a]
def aLO (l:List Ob) (A:List Arc):Prop:=∀ a∈A,a.2.2.2=aAC l a.1 a.2.1
theorem aQ5 {A:List Arc}(hA:aLO l A) {f t w:Bys}(he:aWt l f t=aAC l f t):aEM l A f t w=ns A (f,t,w,aAC l f t) /\ aLO l (aEM l A f t w):=by
 have e:A.any (aDV f t w)=A.contains (f,t,w,aAC l f t):=by
  rw [Bool.eq_iff_iff,List.any_eq_true,List.contains_iff_mem];constructor
  ·rintro ⟨a,ha,h⟩;unfold aDV at h;simp only [Ga_,beq_iff_eq] at h;obtain ⟨h1,h2,h3⟩:=h;have:=hA a ha;rw [h1,h2] at this;rw [show (f,t,w,aAC l f t)=a from Prod.ext h1.symm (Prod.ext h2.symm (Prod.ext h3.symm this.symm))];exact ha
  ·intro h;exact ⟨_,h,by unfold aDV;simp⟩
 unfold aEM ns;rw [e,he];refine ⟨rfl,?_⟩
 cases A.contains (f,t,w,aAC l f t) with
 | true=>exact hA
 | false =>
  intro a ha;rcases List.mem_append.1 ha with ha | ha
  ·exact hA a ha
  ·rw [Gd_] at ha;subst ha;rfl
theorem aQ4 (hv:aAc l=true) {f t:Bys}(hf:aAg l f=true) (ht:aAg l t=true):aWt l f t=aAC l f t:=by
 unfold aWt aAC;rw [aP7 hv hf,aP7 hv ht]
theorem aS2 (hv:aAc l=true) {f t:Bys}(hf:aAg l f=true) (ht:aAg l t=true):aAC l t f=aAC l f t:=by
 obtain ⟨p,hp⟩:=Option.isSome_iff_exists.1 hf;obtain ⟨q,hq⟩:=Option.isSome_iff_exists.1 ht;unfold aAC;rw [hp,hq];show max 1 (aB6 (aAP q p))=max 1 (aB6 (aAP p q))
 have e:aAP q p=aAP p q:=by
  unfold aAP;rw [Bool.and_comm (aBt q)]
  cases aBt p&&aBt q with
  | false=>rfl
  | true =>
   simp only [cond_true];rw [show p.1-q.1 = -(q.1-p.1) by omega,show p.2-q.2 = -(q.2-p.2) by omega,Int.neg_mul_neg,Int.neg_mul_neg]
 rw [e]
theorem aMY (hv:aAc l=true) {w:Bys}{rs:List Bys}(hn:∀ s∈rs,aAg l s=true) {A:List Arc}(hA:aLO l A):∀ k,k<=rs.length-1->(aFz l w rs).foldl ns A=(aFz l w (rs.drop k)).foldl ns (aBP l w rs A k) /\ aLO l (aBP l w rs A k)
 | 0,_=>⟨rfl,hA⟩
 | k+1,hk=>by
  obtain ⟨h1,h2⟩:=aMY hv (w:=w) hn hA k (by omega);obtain ⟨a,ha⟩:=geb (l:=rs) (i:=k) (by omega);obtain ⟨b,hb⟩:=geb (l:=rs) (i:=k+1) (by omega);have na:=hn a (gm ha);have nb:=hn b (gm hb);obtain ⟨h3,h4⟩:=aQ5 (w:=w) h2 (aQ4 hv na nb);obtain ⟨h5,h6⟩:=aQ5 (w:=w) h4 (aQ4 hv nb na);rw [aMX ha hb];refine ⟨?_,h6⟩;rw [h1,aOO ha hb,List.foldl_cons,List.foldl_cons,h5,h3,aS2 hv na nb]
theorem aQ3 (hv:aAc l=true) {w:Bys}{rs:List Bys}(hn:∀ s∈rs,aAg l s=true) {A:List Arc}(hA:aLO l A):aBP l w rs A (rs.length-1)=(aFz l w rs).foldl ns A /\ aLO l (aBP l w rs A (rs.length-1)):=by
 obtain ⟨h1,h2⟩:=aMY hv (w:=w) hn hA (rs.length-1) (Gl_ _);refine ⟨?_,h2⟩;rw [h1,aMi (by omega)];rfl
theorem aMZ (hv:aAc l=true) {B:List Ob}(hB:∀ o∈B,∀ s∈o.refs,aAg l s=true):∀ i,i<=B.length->aBq l B i=((B.take i).flatMap fun o=>aFz l o.id o.refs).foldl ns [] /\ aLO l (aBq l B i)
 | 0,_=>⟨rfl,fun a ha=>by cases ha⟩
 | i+1,hi=>by
  obtain ⟨h1,h2⟩:=aMZ hv hB i (by omega);obtain ⟨o,ho⟩:=geb (l:=B) (i:=i) (by omega);obtain ⟨h3,h4⟩:=aQ3 hv (w:=o.id) (hB o (gm ho)) h2;rw [aJq ho];refine ⟨?_,h4⟩;rw [h3,h1,gt_ ho,List.flatMap_append,List.foldl_append,List.flatMap_singleton]
end
theorem aE8 (os:List ObR) (k:Int):aAa (ofR os k os)=(aAa os).filter fun o=>(o.kind==k)&&aEv (aAa os) o:=by
 unfold ofR
 conv=>lhs;unfold aAa
 conv=>rhs;arg 2;unfold aAa
 rw [List.filter_map];rfl
theorem aQ1 {os:List ObR}(hv:aAc (aAa os)=true):aBq (aAa os) (aAa (ofR os 2 os)) (ofR os 2 os).length=asQ (aAa os):=by
 have e:=aE8 os 2
 have hB:∀ o∈aAa (ofR os 2 os),∀ s∈o.refs,aAg (aAa os) s=true:=by
  intro o ho s hs;rw [e,List.mem_filter,Ga_] at ho;have h2:=ho.2.2;rw [aMk hv (et ho.2.1),List.all_eq_true] at h2;exact h2 s hs
 rw [←aA2 (ofR os 2 os),(aMZ hv hB _ (Gl_ _)).1,List.take_length];unfold asQ;rw [aTn hv,e];rfl
section
variable {l:List Ob}
theorem aMg {w:Bys}:∀ {rs:List Bys}{a:Arc},a∈aFz l w rs->a.2.2.1=w /\ a.1∈rs /\ a.2.1∈rs
 | [],a,h=>by cases h
 | [_],a,h=>by cases h
 | x::y::t,a,h=>by
  unfold aFz at h;rcases List.mem_cons.1 h with rfl | h
  ·exact ⟨rfl,by simp,by simp⟩
  ·rcases List.mem_cons.1 h with rfl | h
   ·exact ⟨rfl,by simp,by simp⟩
   ·obtain ⟨h1,h2,h3⟩:=aMg h;exact ⟨h1,.tail _ h2,.tail _ h3⟩
theorem aJp (hv:aAc l=true) {a:Arc}(ha:a∈asQ l):∃ o∈l,o.kind=2 /\ o.id=a.2.2.1 /\ a.1∈o.refs /\ a.2.1∈o.refs /\ o.refs.all (aAg l)=true:=by
 have h:=aCP ha;rw [aTn hv,List.mem_flatMap] at h;obtain ⟨o,ho,h2⟩:=h;rw [List.mem_filter] at ho;obtain ⟨h3,h4,h5⟩:=aMg h2;have hk:=ho.2;unfold aWy at hk;rw [Ga_] at hk;exact ⟨o,ho.1,et hk.1,h3.symm,h4,h5,by rw [←aMk hv (et hk.1)];exact hk.2⟩
theorem aL2 {n:Bys}{o:Ob}:∀ {L:List Ob},o∈L->(∀ x∈L,x.id=o.id->x=o)->aMB o.id n L=o.refs.contains n
 | [],h,_=>by cases h
 | y::L,h,hu=>by
  show (bif y.id==o.id then y.refs.contains n else aMB o.id n L)=_
  cases hy:(y.id==o.id) with
  | true=>rw [hu y (.head _) (et hy)];rfl
  | false =>
   rcases List.mem_cons.1 h with rfl | h
   ·rw [beq_self_eq_true] at hy;cases hy
   ·exact aL2 h fun x hx=>hu x (.tail _ hx)
theorem aN3 {o:Ob}(hv:aA6 o=true) (hk:o.kind=5):o.refs.length=3:=by
 unfold aA6 at hv;simp only [Ga_] at hv;have:=hv.2;rw [show (o.kind==1)=false from beq_eq_false_iff_ne.2 (by omega),show (o.kind==5)=true from beq_iff_eq.2 hk] at this;simp only [cond_false,cond_true,Ga_,beq_iff_eq] at this;omega
theorem aSL (hv:aAc l=true) {S:Ob->Bool}{o x:Ob}{i:Nat}(hs:o.refs[i]?=some x.id) (hk:aCo o (i:Int)=2) (hx:x∈l) (hxk:x.kind=2) (hS:S x=true):aCr l S o i=true:=by
 unfold aCr;rw [hs];show ((!decide (aAm l x.id<0))&&(match l[(aAm l x.id).toNat]? with | some x=>(x.kind==aCo o (i:Int))&&S x | none=>false))=_;rw [hk,decide_eq_false (aDd (aAY hv) hx).1,aMG hv hx];show ((x.kind==2)&&S x)=true;rw [hS,hxk];rfl
end
theorem aJ8 {os:List ObR}(hv:aAc (aAa os)=true) (prof:Bys) {a b:Arc}(ha:a∈asQ (aAa os)) (hb:b∈asQ (aAa os)):aEQ os prof a b=aFx prof (aAa os) a b:=by
 unfold aEQ aFx
 cases h1:(a.2.1==b.1) with
 | false=>rfl
 | true =>
  have h1:=et h1;unfold aSy
  cases h2:(prof==aFo) with
  | true=>simp
  | false =>
   simp only [Bool.true_and,Bool.false_or,cond_false];obtain ⟨oa,qa1,qa2,qa3,qa4,qa5,qa6⟩:=aJp hv ha;obtain ⟨ob,qb1,qb2,qb3,qb4,qb5,qb6⟩:=aJp hv hb
   have ew:∀ {o:Ob},o∈aAa os->o.kind=2->o.refs.all (aAg (aAa os))=true->o∈aAa (ofR os 2 os):=fun {o} k1 k2 k3=>by
    rw [aE8,List.mem_filter];exact ⟨k1,by rw [k2,aMk hv k2,k3];rfl⟩
   have eu:∀ {o x:Ob},o∈aAa os->x∈aAa (ofR os 2 os)->x.id=o.id->x=o:=fun {o x} k1 k2 k3=>by
    rw [aE8,List.mem_filter] at k2;exact aDN (aAY hv) k2.1 k1 k3
   unfold aGc;rw [←qa3,←qb3,aL2 (ew qa1 qa2 qa6) (fun x hx=>eu qa1 hx),aL2 (ew qb1 qb2 qb6) (fun x hx=>eu qb1 hx),List.contains_iff_mem.2 qa5,List.contains_iff_mem.2 (h1▸qb4:a.2.1∈ob.refs),Bool.true_and,Bool.true_and];congr 1;rw [Bool.eq_iff_iff,List.any_eq_true,List.contains_iff_mem,List.mem_map];constructor
   ·rintro ⟨o,ho,h⟩;rw [aE8,List.mem_filter,Ga_] at ho;unfold aDb at h;simp only [Ga_,beq_iff_eq] at h;exact ⟨o,List.mem_filter.2 ⟨ho.1,ho.2.1⟩,by unfold aT7;rw [h.1,h.2.1,h.2.2]⟩
   ·rintro ⟨o,ho,h⟩;rw [List.mem_filter] at ho;have hk:=et ho.2;unfold aT7 at h;have e0:=congrArg (·.1) h;have e1:=congrArg (·.2.1) h;have e2:=congrArg (·.2.2) h;simp only at e0 e1 e2;have h3:=aN3 (aEh hv o ho.1) hk;obtain ⟨r0,hr0⟩:=geb (l:=o.refs) (i:=0) (by omega);obtain ⟨r1,hr1⟩:=geb (l:=o.refs) (i:=1) (by omega);obtain ⟨r2,hr2⟩:=geb (l:=o.refs) (i:=2) (by omega);rw [gd9 hr0] at e0;rw [gd9 hr1] at e1;rw [gd9 hr2] at e2;refine ⟨o,?_,by unfold aDb;rw [gd9 hr0,gd9 hr1,gd9 hr2,e0,e1,e2];simp⟩;rw [aE8,List.mem_filter];refine ⟨ho.1,?_⟩;rw [hk];show aEv (aAa os) o=true;unfold aEv aDD;rw [h3,List.all_eq_true];intro i hi;have hi:=List.mem_range.1 hi;rcases (by omega:i=0∨i=1∨i=2) with rfl | rfl | rfl
    ·exact aSL hv (x:=oa) (by rw [hr0,e0]) (by unfold aCo;rw [hk];rfl) qa1 qa2 (by rw [aSM hv qa2];exact qa6)
    ·rw [aKZ hv (fun x hx hk=>aOR hv hx hk) hr1 (by unfold aCo;rw [hk];rfl),e1];exact List.all_eq_true.1 qa6 _ qa5
    ·exact aSL hv (x:=ob) (by rw [hr2,e2]) (by unfold aCo;rw [hk];rfl) qb1 qb2 (by rw [aSM hv qb2];exact qb6)
theorem aTV {l:List Ob}(hv:aAc l=true) (prof:Bys) {o:Ob}(ho:o∈l) (hk:o.kind=2):aHD prof l o.id=aAu prof o:=by
 unfold aHD
 cases hf:((l.filter fun o=>o.kind==2).reverse).find? fun y=>y.id==o.id with
 | none =>
  have:=List.find?_eq_none.1 hf o (by rw [List.mem_reverse,List.mem_filter];exact ⟨ho,beq_iff_eq.2 hk⟩);simp at this
 | some y =>
  have h1:=List.find?_some hf;have h2:=List.mem_of_find?_eq_some hf;rw [List.mem_reverse,List.mem_filter] at h2;rw [aDN (aAY hv) h2.1 ho (by simpa using h1)]
theorem aUn (prof:Bys) (o:Ob) (a:Arc):aAR prof o a = !((aAu prof o).closed||((aAu prof o).oneway && !fwd a.1 a.2.1 (aAu prof o).refs)):=by
 show (bif (aAy o.tags prof).1==[110,111] then false else bif (prof==aFo) || !((aAy o.tags [111,110,101,119,97,121]).1==[121,101,115]) then true else fwd a.1 a.2.1 o.refs) = !(((aAy o.tags prof).1==[110,111])||((((aAy o.tags [111,110,101,119,97,121]).1==[121,101,115]) && !(prof==aFo)) && !fwd a.1 a.2.1 o.refs));cases (aAy o.tags prof).1==[110,111]<;>cases prof==aFo<;>cases (aAy o.tags [111,110,101,119,97,121]).1==[121,101,115]<;>cases fwd a.1 a.2.1 o.refs<;>rfl
theorem aPl {os:List ObR}(hv:aAc (aAa os)=true) {prof:Bys}{A:List Arc}{x:LkR}{a:Arc}(hx:LkS os prof A x a) (ha:a∈asQ (aAa os)) {m:Int}(h0:0<=m):match aLo (aHD prof (aAa os) a.2.2.1) a m with
  | some y=>aAk x m=(y,true)
  | none=>(aAk x m).2=false:=by
 obtain ⟨o,q1,q2,q3,_,_,_⟩:=aJp hv ha;obtain ⟨z,hz,rfl⟩:=List.mem_map.1 q1;have hw:=aG7 hv hz q3;have hsp:=aNj (aAy z.o.tags [115,112,101,101,100]).1 (Gp_ (aBV (aEh hv z.o q1) _) (by decide));rw [←q3,aTV hv prof q1 q2];have e1:x.op = !((aAu prof z.o).closed||((aAu prof z.o).oneway && !fwd a.1 a.2.1 (aAu prof z.o).refs)):=by rw [hx.op,hw];exact aUn prof z.o a
 have e2:x.tk=(a.2.2.2+(aAu prof z.o).speed-1) / (aAu prof z.o).speed:=by
  rw [hx.tk];unfold aBa;rw [hw,←hsp];rfl
 have e3:x.fr = !(aAu prof z.o).limited:=by rw [hx.fr,hw];rfl
 have e4:(aAu prof z.o).limited=true->x.hs=(aAu prof z.o).hours:=fun h=>by
  have h:((aAy z.o.tags [104,111,117,114,115]).2&&aDz z.o)=true:=h;rw [Ga_] at h;rw [hx.hs,hw,h.1];rfl
 generalize aAu prof z.o=r at e1 e2 e3 e4;unfold aLo aAk;rw [e1,e2,e3,decide_eq_false (show ¬ m<0 by omega)]
 cases hc:(r.closed||(r.oneway && !fwd a.1 a.2.1 r.refs)) with
 | true=>rfl
 | false =>
  simp only [Bool.not_false,Bool.not_true,Bool.false_or]
  cases hm:decide (1000000000<m) with
  | true=>rfl
  | false =>
   simp only [cond_false]
   cases hl:r.limited with
   | false=>rfl
   | true =>
    simp only [Bool.not_true,cond_false,cond_true];rw [e4 hl]
    cases hn:(aAz r.hours m).2 with
    | false=>rfl
    | true =>
     simp only [Bool.not_true,Bool.false_or,Bool.true_and]
     cases hg:decide (1000000000<(aAz r.hours m).1) with
     | true=>show decide ((aAz r.hours m).1<=1000000000)=false;have:=dt hg;exact decide_eq_false (by omega)
     | false=>rw [cond_false,decide_eq_true (show (aAz r.hours m).1<=1000000000 by have:=df hg;omega)]
theorem aLr {os:List ObR}{prof:Bys}{A:List Arc}{a:Arc}{z:Int}:∀ {k:Nat},z∈nxK os prof A a k↔∃ j,j<k /\ z=(j:Int) /\ ∃ b,A[j]?=some b /\ aEQ os prof a b=true
 | 0=>⟨fun h=>(by cases h),fun ⟨j,h,_⟩=>absurd h (Nat.not_lt_zero _)⟩
 | k+1=>by
  have ih:=aLr (os:=os) (prof:=prof) (A:=A) (a:=a) (z:=z) (k:=k)
  cases hA:A[k]? with
  | none =>
   have e:nxK os prof A a (k+1)=nxK os prof A a k:=by
    show (match A[k]? with | some b=>_ | none=>_)=_;rw [hA]
   rw [e,ih];constructor
   ·rintro ⟨j,h1,h2⟩;exact ⟨j,by omega,h2⟩
   ·rintro ⟨j,h1,h2,b,h3,h4⟩;refine ⟨j,?_,h2,b,h3,h4⟩;rcases Nat.lt_or_ge j k with h | h
    ·exact h
    ·rw [show j=k by omega,hA] at h3;cases h3
  | some b =>
   rw [aP1 hA]
   cases ht:aEQ os prof a b with
   | true =>
    rw [cond_true,List.mem_append,ih,Gd_];constructor
    ·rintro (⟨j,h1,h2⟩ | rfl)
     ·exact ⟨j,by omega,h2⟩
     ·exact ⟨k,by omega,rfl,b,hA,ht⟩
    ·rintro ⟨j,h1,h2,c,h3,h4⟩;rcases Nat.lt_or_ge j k with h | h
     ·exact .inl ⟨j,h,h2,c,h3,h4⟩
     ·right;rw [h2,show j=k by omega]
   | false =>
    rw [cond_false,ih];constructor
    ·rintro ⟨j,h1,h2⟩;exact ⟨j,by omega,h2⟩
    ·rintro ⟨j,h1,h2,c,h3,h4⟩;refine ⟨j,?_,h2,c,h3,h4⟩;rcases Nat.lt_or_ge j k with h | h
     ·exact h
     ·rw [show j=k by omega,hA] at h3;cases h3;rw [ht] at h4;cases h4
section
variable {N:NetW}{B m0:Int}{t:Nat->Option Int}
end
section
variable {os:List ObR}{prof f g:Bys}{m0 c:Int}{nd:List Bys}{mi:List Int}
theorem aUt {l:List Ob}{i:Nat}{a:Arc}(h:(asQ l)[i]?=some a) (m:Int):(aED prof l f).ps i m=aLo (aHD prof l a.2.2.1) a m:=by
 show (match (asQ l)[i]? with | some a=>_ | none=>_)=_;rw [h]
theorem aUs {l:List Ob}{i:Nat}{a:Arc}(h:(asQ l)[i]?=some a):(aED prof l f).st i=(a.1==f):=by
 show (match (asQ l)[i]? with | some a=>_ | none=>_)=_;rw [h]
theorem aP9 {l:List Ob}{i k:Nat}{a b:Arc}(h:(asQ l)[i]?=some a) (h2:(asQ l)[k]?=some b):(aED prof l f).al i k=aFx prof l a b:=by
 show (match (asQ l)[i]?,(asQ l)[k]? with | some a,some b=>aFx prof l a b | _,_=>false)=_;rw [h,h2]
end
theorem aSl {os:List ObR}(h:aL7 os=true):∀ b∈os,b.o.refs.length<=12:=by
 unfold aL7 at h;rw [Ga_] at h;exact aIk h.1
theorem aPh {k:Nat}:∀ {L:List Ob},(∀ o∈L,o.refs.length<=k)->aKC L<=k*L.length
 | [],_=>Gg_ _
 | o::L,h=>by
  have h1:=aPh (L:=L) fun x hx=>h x (.tail _ hx);have h2:=h o (.head _);show o.refs.length+aKC L<=k*(L.length+1);rw [Nat.mul_add];omega
theorem aR4 {os:List ObR}(h:aL7 os=true):aKC (aAa (ofR os 2 os))<=400000:=by
 have h1:=aG1 h;have h2:(aAa (ofR os 2 os)).length<=os.length:=by rw [aE8];exact Gp_ (List.length_filter_le _ _) (by unfold aAa;simp)
 have h3:=aPh (k:=12) (L:=aAa (ofR os 2 os)) fun o ho=>by
  rw [aE8] at ho;obtain ⟨b,hb,rfl⟩:=List.mem_map.1 (List.mem_filter.1 ho).1;exact aSl h b hb
 have:=Nat.mul_le_mul_left 12 h2;omega
theorem aNk (s:Bys):1<=aBz s:=by
 unfold aBz
 cases decide (1<=(s.length:Int))&&(decide ((s.length:Int)<=7) && !(((s.headD 0).toNat:Int)==48)) with
 | false=>exact (by decide:(1:Int)<=100)
 | true =>
  rw [cond_true]
  cases h:decide (0<aCE s) with
  | false=>exact (by decide:(1:Int)<=100)
  | true=>have:=dt h;rw [cond_true];omega
theorem aOB {os:List ObR}{a:Arc}(h:ArcB a):0<=aBa os a /\ aBa os a<=5000000000:=by
 have h1:=h.pos;have h2:=h.lt;have h3:=aNk (aAy (aCz os a.2.2.1).o.tags [115,112,101,101,100]).1;unfold aBa;generalize aBz (aAy (aCz os a.2.2.1).o.tags [115,112,101,101,100]).1=s at h3;refine ⟨Int.ediv_nonneg (by omega) (by omega),?_⟩;refine Int.ediv_le_of_le_mul (by omega) ?_;have:(5000000000:Int)*1<=5000000000*s:=Int.mul_le_mul_of_nonneg_left h3 (by decide);omega
structure LinksQ (os:List ObR) (prof:Bys) (L:List LkR):Prop where
 p:LksP os prof (asQ (aAa os)) L (asQ (aAa os)).length
 len:L.length<=240
 tk:∀ x∈L,0<=x.tk /\ x.tk<=5000000000
theorem aFY {w:World}{v:Value}{os:List ObR}(hmv:aCq w v os) (hf:aL7 os=true) (hv:aAc (aAa os)=true) (hok:∀ a∈asQ (aAa os),ArcB a) (prof:Bys):Calls Tryz.prog 18 #[.agg #[v],vS prof] w fun e w'=>∃ u L,e = .returned u /\ LinksQ os prof L /\ Mm nF_ w w' [rw_ lkL 9 50 u L,aAD spL 2 141 (hbL L),aAD inL 1 3 (nbL L)]:=by
 have hl:(asQ (aAa os)).length<=240:=by rw [←aTs];exact Gp_ (aGU _) (aHl hf hv)
 refine (aJW hmv (by have:=aG1 hf;omega) hv (aR4 hf) prof (A:=asQ (aAa os)) (aQ1 hv).symm (by omega) fun a ha=>⟨hok a ha,?_⟩).mono ?_
 ·obtain ⟨o,h1,_,h3,_⟩:=aJp hv ha;rw [←h3];exact (aDd (aAY hv) h1).1
 ·rintro e w' ⟨u,L,h1,h2,h3⟩;refine ⟨u,L,h1,⟨h2,by rw [h2.len];exact hl,fun x hx=>?_⟩,h3⟩;obtain ⟨i,hi⟩:=List.getElem?_of_mem hx;obtain ⟨a,ha,hs⟩:=h2.at_ i x hi;rw [hs.tk];exact aOB (hok a (gm ha))
end Go.Proofs.YtbflfefahheidaaGreatDoor
