/- Part 6 of the proof. -/
import Derived.Test.YtbflfefahheidaaGreatDoorG5
import Derived.Laws.OwnMore
import Derived.LaidMore
import Derived.Deep.Slices
import Derived.OpenShut
import Derived.Test.YtbflfefahheidaaGreatDoorTie
import Derived.Lib.LaidU8
import Derived.MakeChecks
import Derived.ProofKit
set_option linter.unusedVariables false
set_option linter.unusedSimpArgs false
namespace Go.Proofs.YtbflfefahheidaaGreatDoor
open Go.RowKit Go.Pl
abbrev A35 (Z:Ending->World->Prop):=AtO Tryz.prog (aAf Tryz.f35) (aAo (bodyPost Tryz.prog Tryz.f35 Z)) [] 58
theorem aEw {w:World}{v:Value}{os:List ObR}(hmv:aCq w v os) {prof:Bys}(hp63:prof.length<=9223372036854775807) (m0:Int) {pi:Option Addr}{ci:Nat}{ids:List Bys}(hids:SrcP stL 1 w pi ci ids):Calls Tryz.prog 35 #[.agg #[v],vS prof,vI m0,vL pi ids.length ci] w fun e w'=>e = .returned (vI (aEq (aAa os) prof m0 ids)) /\ Fr nF_ w w':=by
  have hm0:=hmv;obtain ⟨hs0,hob⟩:=hm0;obtain ⟨p0,cp0,hp0,sp0⟩:=hs0.op;subst hp0;have bi:=hids.bnd;refine beg Tryz.func35 rfl rfl [(0,.agg #[vL p0 os.length cp0]),(1,vS prof),(2,vI m0),(3,vL pi ids.length ci)] rfl rfl fun Y hY=>?_;have hM:=Mm.nil nF_ w;refine aAp 0 0 4 [] (cs:=#[vL p0 os.length cp0]) (T:=24) (v:=fun b=>vP b 0) f0 hM fun aa w1 hM=>aAq 1 1 12 [(11,.agg #[vL p0 os.length cp0])] (fc (lam 24 0 0 1 hM rfl) f0) hM (aDG (hmv.fr hM.fr)) fun w1 hM=>seg 1 4 [(14,vB (!(aAc (aAa os))))] f0 ?_;cases ab:(aAc (aAa os))
  ·exact rt1 8 (vI 1) rfl f0 (hY _ _ ⟨by unfold aEq;simp only [ab]<;>rfl,hM.fr⟩)
  refine aAq 1 5 16 [(15,vS prof)] f0 hM (aAx hp63 _) fun w1 hM=>seg 1 9 [(19,vB (!(aA3 prof)))] f0 ?_;cases ac:(aA3 prof)
  ·exact rt1 8 (vI 1) rfl f0 (hY _ _ ⟨by unfold aEq;simp only [ab,ac]<;>rfl,hM.fr⟩)
  refine seg 1 13 [(23,vB (decide (m0<0)))] f0 ?_;cases ad:(decide (m0<0))
  rotate_left
  ·exact rt1 8 (vI 1) rfl f0 (hY _ _ ⟨by unfold aEq;simp only [ab,ac,ad]<;>rfl,hM.fr⟩)
  refine seg 1 16 [(26,vB (decide (9999999<m0)))] f0 ?_;cases ae:(decide (9999999<m0))
  rotate_left
  ·exact rt1 8 (vI 1) rfl f0 (hY _ _ ⟨by unfold aEq;simp only [ab,ac,ad,ae]<;>rfl,hM.fr⟩)
  refine seg 4 0 [(9,vI 0)] f0 ?_
  have al:∀ (af:Nat) (j:Nat) (w2:World),j<=ids.length->(ids.take j).any (fun id=>decide (aAm (aAa os) id<0))=false->Mm nF_ w w2 [bk aa #[vL p0 os.length cp0] 24]->af=ids.length-j->A35 Y (some (4,0)) [(9,vI (j:Int)),(4,vP aa 0),(3,vL pi ids.length ci)] w2:=by
   refine aA8 fun af am j w2 hj hno hM az=>seg 4 4 [(30,vB (decide ((j:Int)<(ids.length:Int))))] f0 ?_;cases ag:(decide ((j:Int)<(ids.length:Int)))
   rotate_left
   ·have an:=dt ag;obtain ⟨s,hs,a0,a1,ao,ap⟩:=hids.el (i:=j) (by omega);refine seg 6 0 [] f0 (drx [5] (fun Z=>[some (vI (aAm (aAa os) s))]) _ (fun Z l=>[bk aa #[vL p0 os.length cp0] 24]) (fun Z=>[(39,vB (decide ((aAm (aAa os) s)<0)))]) hM (fun Z=>rfl) (fun Z l w5 hM=>(fc (lam 24 0 0 1 hM rfl) (fc (ix 28 ci ao (gl hs)) (fc (ld0 9 hM (ap 0 _ rfl)) f0)))) ⟨aFO 0 5 38 (f:=69) (fun Z=>#[.agg #[vL p0 os.length cp0],vS s]) (vI (aAm (aAa os) s)) (fun Z fr wm hM=>(aC2 (hmv.fr hM.fr) s)),trivial⟩ fun a2 w1 hM=>?_);replace hM:Mm nF_ w w1 [bk aa #[vL p0 os.length cp0] 24]:=hM;cases ah:(decide ((aAm (aAa os) s)<0))
    ·refine seg 4 0 [(9,vI ((j:Int)+1))] (fc (aAe (j:Int) 1 u3_) f0) (aAb _ (am _ (by have:=gl hs;omega) (j+1) _ (gl hs) (by rw [gt_ hs,List.any_append,hno];simp only [List.any_cons,List.any_nil,ah];rfl) hM rfl))
    have hAll:ids.any (fun id=>decide (aAm (aAa os) id<0))=true:=List.any_eq_true.2 ⟨s,gm hs,ah⟩;exact rt1 8 (vI 11) rfl f0 (hY _ _ ⟨by unfold aEq;simp only [ab,ac,ad,ae,hAll]<;>rfl,hM.fr⟩)
   have an:=df ag;rw [Gc_ (by omega)] at hno;refine seg 9 0 [(10,vI 0)] f0 ?_
   have aq:∀ (ai:Nat) (q:Nat) (w2:World),q<=ids.length->(ids.take q).any (fun id => !(aGi (aAa os) id==1))=false->Mm nF_ w w2 [bk aa #[vL p0 os.length cp0] 24]->ai=ids.length-q->A35 Y (some (9,0)) [(10,vI (q:Int)),(4,vP aa 0),(3,vL pi ids.length ci)] w2:=by
    refine aA8 fun ai ar q w2 hq hnk hM a3=>seg 9 4 [(43,vB (decide ((q:Int)<(ids.length:Int))))] f0 ?_;cases aj:(decide ((q:Int)<(ids.length:Int)))
    ·have au:=df aj;rw [Gc_ (by omega)] at hnk;exact rt1 8 (vI 0) rfl f0 (hY _ _ ⟨by unfold aEq;simp only [ab,ac,ad,ae,hno,hnk]<;>rfl,hM.fr⟩)
    have au:=dt aj;obtain ⟨s2,hs2,a4,a5,av,aw⟩:=hids.el (i:=q) (by omega);obtain ⟨kk,y0,hkk,hy0,hid⟩:=aEn (l:=os) (id:=s2) (fun h=>List.any_eq_false.1 hno s2 (gm hs2) (decide_eq_true h));have hkl:=gl hy0;obtain ⟨y,hy,a6,a7,ax,ay⟩:=sp0.el (i:=kk) (by omega);have hkq:aGi (aAa os) s2=y.o.kind:=by unfold aGi;rw [hkk,Int.toNat_natCast,aAn hy]
    refine seg 11 0 [] f0 (drx [7] (fun Z=>[some (vI (aAm (aAa os) s2))]) _ (fun Z l=>[bk aa #[vL p0 os.length cp0] 24]) (fun Z=>[(57,vB (!(y.o.kind==1)))]) hM (fun Z=>rfl) (fun Z l w5 hM=>(fc (ldm 22 0 0 hM rfl rfl) (fc (lam 24 0 0 1 hM rfl) (fc (ix 28 ci av (gl hs2)) (fc (ld0 9 hM (aw 0 _ rfl)) (fc (ix 22 cp0 ax (gl hy) (z:=(aAm (aAa os) s2)) (hz:=hkk)) (fc (ld0 3 hM (ay 1 _ rfl)) f0))))))) ⟨aFO 0 7 53 (f:=69) (fun Z=>#[.agg #[vL p0 os.length cp0],vS s2]) (vI (aAm (aAa os) s2)) (fun Z fr wm hM=>(aC2 (hmv.fr hM.fr) s2)),trivial⟩ fun a8 w1 hM=>?_);replace hM:Mm nF_ w w1 [bk aa #[vL p0 os.length cp0] 24]:=hM;cases ak:(y.o.kind==1)
    ·have hAll:ids.any (fun id => !(aGi (aAa os) id==1))=true:=List.any_eq_true.2 ⟨s2,gm hs2,by rw [hkq,ak];rfl⟩;exact rt1 8 (vI 13) rfl f0 (hY _ _ ⟨by unfold aEq;simp only [ab,ac,ad,ae,hno,hAll]<;>rfl,hM.fr⟩)
    refine seg 9 0 [(10,vI ((q:Int)+1))] (fc (aAe (q:Int) 1 u3_) f0) (aAb _ (ar _ (by have:=gl hs2;omega) (q+1) _ (gl hs2) (by rw [gt_ hs2,List.any_append,hnk];simp only [List.any_cons,List.any_nil,hkq,ak];rfl) hM rfl))
   exact aAb _ (aq _ 0 _ (Gg_ _) rfl hM rfl)
  exact aAb _ (al _ 0 _ (Gg_ _) rfl hM rfl)
section
variable {B:Code}{R:Pst}{ds:List Deferred}{n:Nat}{p:Option (Nat×Nat)}{L N:Frm}{w w0:World}{r' i':Nat}{F:List Ft}{F0:Nat->Prop}{M:List Ent}
theorem aYk:(Tryz.prog.info? 3).map (fun i=>(i.zero,i.size,i.bytes))=some (some (.int .i64 0),1,8):=by kernel_rfl
theorem aU7 (m:Nat):(List.replicate m (0:Int)).flatMap inL=List.replicate m (vI 0):=by
 induction m with
 | zero=>rfl
 | succ m ih=>rw [List.replicate_succ,List.flatMap_cons,ih];rfl
theorem mkz (r' i' d:Nat) (N:Frm) {m:Nat}(hd:d<n) (hm:m<=1000000) (hF:aAQ Tryz.prog w F) (hM:Mm F0 w0 w M) (k:∀ b w',Mm F0 w0 w' (M++[rw_ inL 1 3 (vL (some ⟨b,0,none⟩) m m) (List.replicate m 0)])->AtO Tryz.prog B R ds n (some (r',i'+1)) ((d,vL (some ⟨b,0,none⟩) m m)::(N++L)) w')
  (h:(lhs (go Tryz.prog w n B p L r' i' F) N L,aLW (go Tryz.prog w n B p L r' i' F) n L (fun x y => .makeSlice 29 x y))=(rhs (go Tryz.prog w n B p L r' i' F) N B r' i',aLV (go Tryz.prog w n B p L r' i' F) n L (fun x y => .makeSlice 29 x y) (some d) true (vI (m:Int)) (vI (m:Int))):=by kernel_rfl):AtO Tryz.prog B R ds n p L w:=by
 refine aGB hF h fun O k1 o l a x y hf hd1 En hdd hg hw ho hx hy=>?_;obtain ⟨i,hi,h2⟩:=Option.map_eq_some_iff.1 aYk;simp only [Prod.mk.injEq] at h2;obtain ⟨hz,hs,hb⟩:=h2;have hr:=run_makeSlice (P:=Tryz.prog) w 29 3 i _ Tryz.underlying29 hi hz .i64 .i64 (m:Int) (m:Int) (by omega) (Int.le_refl _) (by rw [hs];omega) (by rw [hb];omega) (by omega);rw [hs,Nat.mul_one,Int.toNat_natCast] at hr
 have hr2:(execOp a.eval o).run Tryz.prog w = .ok (.value (vL (some ⟨w.heap.size,0,none⟩) m m)) (w.alloc (.cells (madeCells #[.int .i64 0] m) 3)):=by
  simp only [execOp,ho,hx,hy,Sem.run_bind,hr,Result.andThen_ok,Sem.run_pure];rfl
 refine aCX hw hr2 ?_;rw [hdd]
 have hO:ow inL 1 3 (w.alloc (.cells (madeCells #[.int .i64 0] m) 3)) 0 (vL (some ⟨w.heap.size,0,none⟩) m m) (List.replicate m 0):=by
  unfold ow;rw [aU7,List.length_replicate,←toList_madeCells_one];exact World.ownsRow_lit w _ m (Gg_ _) (by unfold maxLen;omega) (by rw [size_madeCells,Nat.mul_one])
 have hM':=hM.add ((Fr.refl _ _).alloc _) (rw_ inL 1 3 (vL (some ⟨w.heap.size,0,none⟩) m m) (List.replicate m 0)) hO fun k e=>by cases e;exact Gl_ _
 obtain ⟨O1,dr,k2,hf1,hk⟩:=k _ _ hM';rw [hf] at hf1;cases hf1;have hdr:O.toList.drop (i'+1)=l:=by rw [←List.tail_drop,hd1];rfl
 rw [←hdr];exact hk _ (En.put hd)
end
structure LkN (N:NetW) (f:Bys) (L:List LkR):Prop where
 n:N.n=L.length
 st:∀ {i:Nat}{x:LkR},L[i]?=some x->N.st i=(x.a.1==f)
 ps:∀ {i:Nat}{x:LkR}{m:Int},L[i]?=some x->0<=m->N.ps i m=bif (aAk x m).2 then some (aAk x m).1 else none
 al:∀ {i k:Nat}{x:LkR},L[i]?=some x->(N.al i k=true↔(k:Int)∈x.nx)
 nx:∀ x∈L,∀ z∈x.nx,0<=z /\ z<(L.length:Int)
theorem aSW {os:List ObR}{prof f:Bys}(hv:aAc (aAa os)=true) {L:List LkR}(hL:LksP os prof (asQ (aAa os)) L (asQ (aAa os)).length):LkN (aED prof (aAa os) f) f L where
 n:=hL.len.symm
 st:=fun {i x} hx=>by
  obtain ⟨a,ha,hs⟩:=hL.at_ i x hx;rw [aUs ha,hs.arc]
 ps:=fun {i x m} hx h0=>by
  obtain ⟨a,ha,hs⟩:=hL.at_ i x hx;rw [aUt (prof:=prof) (f:=f) ha];have hp:=aPl hv hs (gm ha) h0
  cases hc:aLo (aHD prof (aAa os) a.2.2.1) a m with
  | none=>rw [hc] at hp;have hp:(aAk x m).2=false:=hp;rw [hp];rfl
  | some y=>rw [hc] at hp;have hp:aAk x m=(y,true):=hp;rw [hp];rfl
 al:=fun {i k x} hx=>by
  obtain ⟨a,ha,hs⟩:=hL.at_ i x hx;rw [hs.nx,aLr];constructor
  ·intro h
   cases hb:(asQ (aAa os))[k]? with
   | none =>
    have h:(match (asQ (aAa os))[i]?,(asQ (aAa os))[k]? with | some a,some b=>aFx prof (aAa os) a b | _,_=>false)=true:=h;rw [ha,hb] at h;cases h
   | some b =>
    rw [aP9 ha hb] at h;exact ⟨k,gl hb,rfl,b,hb,by rw [aJ8 hv prof (gm ha) (gm hb)];exact h⟩
  ·rintro ⟨j,h1,h2,b,h3,h4⟩;have e:k=j:=by omega
   subst e;rw [aP9 ha h3,←aJ8 hv prof (gm ha) (gm h3)];exact h4
 nx:=fun x hx z hz=>by
  obtain ⟨i,hi⟩:=List.getElem?_of_mem hx;obtain ⟨a,ha,hs⟩:=hL.at_ i x hi;rw [hs.nx,aLr] at hz;obtain ⟨j,h1,h2,_⟩:=hz;rw [hL.len];omega
def tbI (n:Nat) (t:Nat->Option Int):List Int:=(List.range n).map fun k=>(t k).getD (-1)
theorem aCm (n:Nat) (t:Nat->Option Int):(tbI n t).length=n:=by unfold tbI;simp
theorem aCg {n k:Nat}{t:Nat->Option Int}(h:k<n):(tbI n t)[k]?=some ((t k).getD (-1)):=by unfold tbI;simp [h]
theorem aO8 {n:Nat}{t:Nat->Option Int}{T:List Int}(hl:T.length=n) (h:∀ j,j<n->T[j]?=some ((t j).getD (-1))):T=tbI n t:=by
 apply List.ext_getElem?;intro j
 by_cases hj:j<n
 ·rw [h j hj,aCg hj]
 ·rw [List.getElem?_eq_none (by omega),List.getElem?_eq_none (by rw [aCm];omega)]
theorem aO7 {n k:Nat}{t:Nat->Option Int}{v:Int}:(tbI n t).set k v=tbI n (aJx t k v):=by
 refine aO8 (by rw [List.length_set,aCm]) fun j hj=>?_;rw [List.getElem?_set]
 by_cases e:k=j
 ·subst e;rw [if_pos rfl,if_pos (by rw [aCm];exact hj),aBH];rfl
 ·rw [if_neg e,aCg hj,aBW _ _ fun h=>e h.symm]
theorem aOL {T:List Int}{n i:Nat}{t:Nat->Option Int}(hl:T.length=n) (h:∀ j,j<i->T[j]?=some ((t j).getD (-1))) (hi:i<n) {v:Int}(hv:v=(t i).getD (-1)):(T.set i v).length=n /\ ∀ j,j<i+1->(T.set i v)[j]?=some ((t j).getD (-1)):=by
 refine ⟨by rw [List.length_set,hl],fun j hj=>?_⟩;rw [List.getElem?_set]
 by_cases e:i=j
 ·subst e;rw [if_pos rfl,if_pos (by omega),hv]
 ·rw [if_neg e];exact h j (by omega)
theorem getD_some {o:Option Int}(h:0<=o.getD (-1)):o=some (o.getD (-1)):=by
 cases o with
 | none=>exact absurd h (by decide)
 | some m=>rfl
def aHJ (L:List LkR) (f:Bys) (m0:Int) (j:Nat):Option Int:=match L[j]? with
 | some x=>bif (x.a.1==f)&&(aAk x m0).2 then some (aAk x m0).1 else none
 | none=>none
theorem aFu {L:List LkR}{f:Bys}{m0:Int}{j:Nat}{x:LkR}(h:L[j]?=some x):aHJ L f m0 j=bif (x.a.1==f)&&(aAk x m0).2 then some (aAk x m0).1 else none:=by
 unfold aHJ;rw [h]
structure EInv (N:NetW) (m0:Int) (t:Nat->Option Int):Prop where
 snd:∀ i m,t i=some m->Rch N m0 i m
 bas:∀ i,i<N.n->N.st i=true->∀ x,N.ps i m0=some x->∃ y,y<=x /\ t i=some y
def ClT (N:NetW) (t:Nat->Option Int) (i:Nat):Prop:=∀ m,t i=some m->Cl N t i m
section
variable {N:NetW}{f:Bys}{L:List LkR}{m0:Int}{t:Nat->Option Int}
theorem EInv.base (hL:LkN N f L) (h0:0<=m0):EInv N m0 (aHJ L f m0):=by
 refine ⟨fun i m h=>?_,fun i hi hs x hx=>?_⟩
 ·cases hx:L[i]? with
  | none=>unfold aHJ at h;rw [hx] at h;cases h
  | some x =>
   rw [aFu hx] at h
   cases h1:(x.a.1==f) with
   | false=>rw [h1] at h;cases h
   | true =>
    cases h2:(aAk x m0).2 with
    | false=>rw [h1,h2] at h;cases h
    | true =>
     rw [h1,h2] at h;cases h;exact .base (by rw [hL.n];exact gl hx) (by rw [hL.st hx];exact h1) (by rw [hL.ps hx h0,h2];rfl)
 ·obtain ⟨y,hy⟩:=geb (l:=L) (i:=i) (by rw [←hL.n];exact hi);rw [hL.st hy] at hs;rw [hL.ps hy h0] at hx;refine ⟨x,Int.le_refl _,?_⟩;rw [aFu hy,hs];exact hx
theorem EInv.put (h:EInv N m0 t) {z:Nat}{a:Int}(hb:bet t z a=true) (hr:Rch N m0 z a):EInv N m0 (aJx t z a):=by
 refine ⟨fun i m e=>?_,fun i hi hs x hx=>?_⟩
 ·by_cases hk:i=z
  ·subst hk;rw [aBH] at e;cases e;exact hr
  ·rw [aBW _ _ hk] at e;exact h.snd i m e
 ·obtain ⟨y,h1,h2⟩:=h.bas i hi hs x hx;obtain ⟨y2,h3,h4⟩:=aKM hb i y h2;exact ⟨y2,by omega,h4⟩
theorem EInv.tab (h:EInv N m0 t) (hc:∀ j,j<N.n->ClT N t j):Tab N m0 t:=⟨h.snd,h.bas,fun i m e=>hc i (h.snd i m e).lt m e⟩
theorem EInv.ge (h:EInv N m0 t) {B:Int}(hN:N.Ok B) (h0:0<=m0) {i:Nat}{m:Int}(e:t i=some m):0<=m:=by
 have:=(h.snd i m e).ge hN h0;omega
theorem aQx {i:Nat}(h:∀ m,t i=some m->0<=m) (a:Int):bet t i a=(decide ((t i).getD (-1)<0)||decide (a<(t i).getD (-1))):=by
 unfold bet
 cases e:t i with
 | none=>rfl
 | some o =>
  have:=h o e;show decide (a<o)=(decide (o<0)||decide (a<o));rw [decide_eq_false (show ¬ o<0 by omega)];rfl
def ClK (N:NetW) (t:Nat->Option Int) (i:Nat) (l:List Int):Prop:=∀ m,t i=some m->∀ z∈l,∀ y,N.ps z.toNat m=some y->∃ y',y'<=y /\ t z.toNat=some y'
theorem ClK.nil (N:NetW) (t:Nat->Option Int) (i:Nat):ClK N t i []:=fun _ _ _ h=>(by cases h)
theorem ClK.up {i k:Nat}{l:List Int}{z:Int}(h:ClK N t i (l.take k)) (hz:l[k]?=some z) (hn:∀ m,t i=some m->∀ y,N.ps z.toNat m=some y->∃ y',y'<=y /\ t z.toNat=some y'):ClK N t i (l.take (k+1)):=fun m hm u hu=>by
 rw [gt_ hz] at hu;rcases List.mem_append.1 hu with hu | hu
 ·exact h m hm u hu
 ·rw [Gd_] at hu;subst hu;exact hn m hm
theorem ClK.out (hL:LkN N f L) {i k:Nat}{x:LkR}(hx:L[i]?=some x) (h:ClK N t i (x.nx.take k)) (hk:x.nx.length<=k):ClT N t i:=fun m hm j hj ha y hy=>by
 rw [Gc_ hk] at h;have:=h m hm (j:Int) ((hL.al hx).1 ha) y (by rw [Int.toNat_natCast];exact hy);rw [Int.toNat_natCast] at this;exact this
end
theorem aXc {u v:Nat}{ch:Bool}(hw:u<=v) (hwc:ch=true->u<v):(u+bif ch then 1 else 0)<v+1:=by
  cases ch with
  | false=>show u+0<v+1;omega
  | true=>have:=hwc rfl;show u+1<v+1;omega
abbrev A36 (Z:Ending->World->Prop):=AtO Tryz.prog (aAf Tryz.f36) (aAo (bodyPost Tryz.prog Tryz.f36 Z)) [] 118
theorem aDI {w:World}{q:Option Addr}{cq:Nat}{L:List LkR}(hL:SrcP lkL 9 w q cq L) (hlk:∀ x∈L,LkV w x) (htk:∀ x∈L,0<=x.tk /\ x.tk<=5000000000) (hLl:L.length<=1000000) {N:NetW}{f:Bys}{m0:Int}(hN:N.Ok 6000000000) (hLN:LkN N f L) (h0:0<=m0):Calls Tryz.prog 36 #[vL q L.length cq,vS f,vI m0] w fun e w'=>∃ u t,e = .returned u /\ Tab N m0 t /\ Mm nF_ w w' [rw_ inL 1 3 u (tbI L.length t)]:=by
  refine beg Tryz.func36 rfl rfl [(0,vL q L.length cq),(1,vS f),(2,vI m0)] rfl rfl fun Z hZ=>?_;have hM:=Mm.nil nF_ w;refine mkz 1 2 19 [(18,vI (L.length:Int))] (m:=L.length) (by decide) hLl f0 hM (fun bT w1 hM=>?_);refine seg 3 0 [(7,vL (some ⟨bT,0,none⟩) L.length L.length),(8,vI 0)] f0 ?_
  have a5:∀ (ah:Nat) (i0:Nat) (TT:List Int) (w2:World),i0<=L.length->TT.length=L.length->(∀ j,j<i0->TT[j]?=some ((aHJ L f m0 j).getD (-1)))->Mm nF_ w w2 [rw_ inL 1 3 (vL (some ⟨bT,0,none⟩) L.length L.length) TT]->ah=L.length-i0->A36 Z (some (3,0)) [(8,vI (i0:Int)),(7,vL (some ⟨bT,0,none⟩) L.length L.length),(0,vL q L.length cq),(1,vS f),(2,vI m0)] w2:=by
   refine aA8 fun ah ae i0 TT w2 hi hTl hTT hM bl=>seg 3 4 [(23,vB (decide ((i0:Int)<(L.length:Int))))] f0 ?_;cases ai:(decide ((i0:Int)<(L.length:Int)))
   rotate_left
   ·have a6:=dt ai;obtain ⟨x,hx,bm,bo,aj,ak⟩:=hL.el (i:=i0) (by omega);obtain ⟨y0,hy0⟩:=geb (l:=TT) (i:=i0) (by omega);obtain ⟨a7,am,-⟩:=hM.el inT (j:=0) rfl hy0;refine aV1 5 3 [(28,vP a7 (0+i0*1))] 3 0 0 (-1) (vI (-1)) inT (fc (ix 29 L.length am (show i0<L.length by omega)) f0) hM rfl am hy0 rfl fun w1 hM=>aAq 6 5 35 [(33,.agg #[vS x.a.1,vS x.a.2.1,vS x.a.2.2.1,vI x.a.2.2.2,vB x.op,vI x.tk,vB x.fr,vL x.hp x.hs.length x.hc,vL x.np x.nx.length x.nc]),(34,vI m0)] (fc (ix 41 cq aj (gl hx)) (fc (la0 50 hM ak) f0)) hM (aBZ x ((hlk _ (gm hx)).hs.fr hM.fr) (htk _ (gm hx)) m0) fun w1 hM=>seg 7 9 [(9,vI (aAk x m0).1),(10,vB (aAk x m0).2),(46,vB (x.a.1==f))] (fc (ix 41 cq aj (gl hx)) (fc (ld0 9 hM (ak 0 _ rfl)) (fc (seq 9 x.a.1 f) f0))) ?_;cases af:(x.a.1==f)
    ·refine seg 3 0 [(8,vI ((i0:Int)+1))] (fc (aAe (i0:Int) 1 u3_) f0) ?_;have hb9 : -1=(aHJ L f m0 i0).getD (-1):=by rw [aFu hx];simp only [af]<;>rfl
     obtain ⟨hu1,hu2⟩:=aOL hTl hTT (gl hx) hb9;replace hM:Mm nF_ w _ [_]:=hM;exact aAb _ (ae _ (by have:=gl hx;omega) (i0+1) (TT.set i0 (-1)) _ (gl hx) hu1 hu2 hM rfl)
    refine seg 7 11 [(48,vB (aAk x m0).2)] f0 ?_
    cases an:(aAk x m0).2 with
    | false =>
     refine seg 3 0 [(8,vI ((i0:Int)+1))] (fc (aAe (i0:Int) 1 u3_) f0) ?_;have hb9 : -1=(aHJ L f m0 i0).getD (-1):=by rw [aFu hx];simp only [af,an]<;>rfl
     obtain ⟨hu1,hu2⟩:=aOL hTl hTT (gl hx) hb9;replace hM:Mm nF_ w _ [_]:=hM;exact aAb _ (ae _ (by have:=gl hx;omega) (i0+1) (TT.set i0 (-1)) _ (gl hx) hu1 hu2 hM rfl)
    | true =>
     obtain ⟨bp,ao⟩:=geb (l:=(TT.set i0 (-1))) (i:=i0) (by rw [List.length_set];omega);obtain ⟨a8,ap,-⟩:=hM.el inT (j:=0) rfl ao;refine aV1 8 4 [(51,vI (aAk x m0).1),(52,vP a8 (0+i0*1))] 3 0 0 ((aAk x m0).1) (vI (aAk x m0).1) inT (fc (ix 29 L.length ap (show i0<L.length by omega)) f0) hM rfl ap ao rfl fun w1 hM=>seg 3 0 [(8,vI ((i0:Int)+1))] (fc (aAe (i0:Int) 1 u3_) f0) ?_;have hb9:(aAk x m0).1=(aHJ L f m0 i0).getD (-1):=by rw [aFu hx];simp only [af,an]<;>rfl
     simp only [List.set_set] at hM;obtain ⟨hu1,hu2⟩:=aOL hTl hTT (gl hx) hb9;replace hM:Mm nF_ w _ [_]:=hM;exact aAb _ (ae _ (by have:=gl hx;omega) (i0+1) (TT.set i0 (aAk x m0).1) _ (gl hx) hu1 hu2 hM rfl)
   have a6:=df ai;have hTe:=aO8 hTl (t:=aHJ L f m0) fun j hj=>hTT j (by omega);rw [hTe] at hM;have hE9:=EInv.base hLN h0;refine seg 10 0 [(11,vB true)] f0 ?_
   have a9:∀ (aq:Nat) (t0:Nat->Option Int) (c0:Bool) (w2:World),EInv N m0 t0->((c0=false->∀ j,j<L.length->ClT N t0 j))->Mm nF_ w w2 [rw_ inL 1 3 (vL (some ⟨bT,0,none⟩) L.length L.length) (tbI L.length t0)]->aq=(wgt N 6000000000 t0+bif c0 then 1 else 0)->A36 Z (some (10,0)) [(11,vB c0),(7,vL (some ⟨bT,0,none⟩) L.length L.length),(0,vL q L.length cq)] w2:=by
    refine aA8 fun aq ba t0 c0 w2 hE0 hC0 hM bq=>seg 10 1 [(53,vB c0)] f0 ?_
    cases ar:c0 with
    | false =>
     exact rt1 6 (vL (some ⟨bT,0,none⟩) L.length L.length) rfl f0 (hZ _ _ ⟨_,t0,rfl,hE0.tab fun j hj=>hC0 ar j (by rw [←hLN.n];exact hj),hM⟩)
    | true =>
     refine seg 13 0 [(11,vB false),(12,vI 0)] f0 ?_
     have bb:∀ (au:Nat) (i:Nat) (t:Nat->Option Int) (ch:Bool) (w2:World),i<=L.length->EInv N m0 t->wgt N 6000000000 t<=wgt N 6000000000 t0->((ch=true->wgt N 6000000000 t<wgt N 6000000000 t0))->((ch=false->∀ j,j<i->ClT N t j))->Mm nF_ w w2 [rw_ inL 1 3 (vL (some ⟨bT,0,none⟩) L.length L.length) (tbI L.length t)]->au=L.length-i->A36 Z (some (13,0)) [(12,vI (i:Int)),(11,vB ch),(7,vL (some ⟨bT,0,none⟩) L.length L.length),(0,vL q L.length cq)] w2:=by
      refine aA8 fun au av i t ch w2 hi hE hw hwc hcl hM br=>seg 13 4 [(57,vB (decide ((i:Int)<(L.length:Int))))] f0 ?_;cases aw:(decide ((i:Int)<(L.length:Int)))
      ·have bc:=df aw;refine seg 10 0 [] f0 (aAb _ (ba _ (by have h9:=aXc hw hwc;have h8:(bif c0 then 1 else 0:Nat)=1:=(by rw [ar];rfl);omega) t ch _ hE (fun h j hj=>hcl h j (by omega)) hM rfl))
      have bc:=dt aw;obtain ⟨x,hx,bs,bt,ax,ay⟩:=hL.el (i:=i) (by omega);have hxl:=gl hx;have az:=(hlk _ (gm hx)).nx;have bu:=az.bnd;refine seg 16 0 [(13,vI 0)] f0 ?_
      have bd:∀ (a0:Nat) (k:Nat) (t2:Nat->Option Int) (ch2:Bool) (w2:World),k<=x.nx.length->EInv N m0 t2->wgt N 6000000000 t2<=wgt N 6000000000 t0->((ch2=true->wgt N 6000000000 t2<wgt N 6000000000 t0))->((ch2=false->∀ j,j<i->ClT N t2 j))->((ch2=false->ClK N t2 i (x.nx.take k)))->Mm nF_ w w2 [rw_ inL 1 3 (vL (some ⟨bT,0,none⟩) L.length L.length) (tbI L.length t2)]->a0=x.nx.length-k->A36 Z (some (16,0)) [(13,vI (k:Int)),(12,vI (i:Int)),(11,vB ch2),(7,vL (some ⟨bT,0,none⟩) L.length L.length),(0,vL q L.length cq)] w2:=by
       refine aA8 fun a0 ab k t2 ch2 w2 hk hE2 hw2 hwc2 hcl2 hcd hM bv=>seg 16 9 [(68,vB (decide ((k:Int)<(x.nx.length:Int))))] (fc (ix 41 cq ax (gl hx)) (fc (ld0 29 hM (ay 8 _ rfl)) f0)) ?_;cases a1:(decide ((k:Int)<(x.nx.length:Int)))
       ·have be:=df a1;refine seg 13 0 [(12,vI ((i:Int)+1))] (fc (aAe (i:Int) 1 u3_) f0) (aAb _ (av _ (by have:=gl hx;omega) (i+1) t2 ch2 _ (gl hx) hE2 hw2 hwc2 (fun h j hj=>by rcases Nat.lt_succ_iff_lt_or_eq.1 hj with hj | rfl;exact hcl2 h j hj;exact ClK.out hLN hx (hcd h) (by omega)) hM rfl))
       have be:=dt a1;obtain ⟨bw,ac,-⟩:=hM.el inT (j:=0) rfl (aCg (n:=L.length) (k:=i) (t:=t2) (by omega));refine seg 16 15 [(74,vB (decide (0<=((t2 i).getD (-1)))))] (fc (ix 29 L.length ac (show i<L.length by omega)) (fc (ldr 3 0 0 inT hM rfl ac (aCg (n:=L.length) (k:=i) (t:=t2) (by omega)) rfl) f0)) ?_;cases a2:(decide (0<=((t2 i).getD (-1))))
       ·have bf:=df a2;refine seg 13 0 [(12,vI ((i:Int)+1))] (fc (aAe (i:Int) 1 u3_) f0) ?_;have hG:¬ 0<=(t2 i).getD (-1):=by omega
        exact aAb _ (av _ (by have:=gl hx;omega) (i+1) t2 ch2 _ (gl hx) hE2 hw2 hwc2 (fun h j hj=>by rcases Nat.lt_succ_iff_lt_or_eq.1 hj with hj | rfl;exact hcl2 h j hj;exact fun m hm=>absurd (hE2.ge hN h0 hm) (by rw [hm] at hG;exact hG)) hM rfl)
       have bf:=dt a2;obtain ⟨z,hz,bz,b0,bg,bh⟩:=az.el (i:=k) (by omega);obtain ⟨hz0,hz1⟩:=hLN.nx x (gm hx) z (gm hz);obtain ⟨jz,hzj⟩:∃ jz:Nat,z=(jz:Int):=⟨z.toNat,(Int.toNat_of_nonneg hz0).symm⟩;have hjz:jz<L.length:=by omega
       have hGi:=getD_some (o:=t2 i) (by omega);obtain ⟨xz,hxz,b1,b2,bi,bj⟩:=hL.el (i:=jz) (by omega);refine seg 19 0 [(14,vI z)] (fc (ix 41 cq ax (gl hx)) (fc (ld0 29 hM (ay 8 _ rfl)) (fc (ix 29 x.nc bg (gl hz)) (fc (ld0 3 hM (bh 0 _ rfl)) f0)))) (drc [(15,vI (aAk xz ((t2 i).getD (-1))).1),(16,vB (aAk xz ((t2 i).getD (-1))).2)] hM (fun w5 hM=>(fc (ix 41 cq bi (gl hxz) (z:=z) (hz:=hzj)) (fc (la0 50 hM bj) (fc (ix 29 L.length ac (show i<L.length by omega)) (fc (ldr 3 0 0 inT hM rfl ac (aCg (n:=L.length) (k:=i) (t:=t2) (by omega)) rfl) (fc (tcl (aBZ xz ((hlk _ (gm hxz)).hs.fr hM.fr) (htk _ (gm hxz)) ((t2 i).getD (-1)))) f0)))))) fun w5 hM=>seg 20 2 [(98,vB (aAk xz ((t2 i).getD (-1))).2)] f0 ?_)
       cases ad:(aAk xz ((t2 i).getD (-1))).2 with
       | false =>
        refine seg 16 0 [(13,vI ((k:Int)+1))] (fc (aAe (k:Int) 1 u3_) f0) ?_;have hOk:=ad;exact aAb _ (ab _ (by have:=gl hz;omega) (k+1) t2 ch2 _ (gl hz) hE2 hw2 hwc2 hcl2 (fun h=>(hcd h).up hz (by intro m hm y hy;rw [hzj,Int.toNat_natCast,hLN.ps hxz (hE2.ge hN h0 hm)] at hy;rw [hm] at hOk;have hOk:(aAk xz m).2=false:=hOk;rw [hOk] at hy;cases hy)) hM rfl)
       | true =>
        obtain ⟨a3,aa,-⟩:=hM.el inT (j:=0) rfl (aCg (n:=L.length) (k:=jz) (t:=t2) (by omega));refine seg 20 8 [(104,vB (decide (((t2 jz).getD (-1))<0)))] (fc (ix 29 L.length aa (show jz<L.length by omega) (z:=z) (hz:=hzj)) (fc (ldr 3 0 0 inT hM rfl aa (aCg (n:=L.length) (k:=jz) (t:=t2) (by omega)) rfl) f0)) ?_;cases ag:(decide (((t2 jz).getD (-1))<0))
        rotate_left
        ·have hbt:bet t2 jz (aAk xz ((t2 i).getD (-1))).1=true:=by rw [aQx fun m e=>hE2.ge hN h0 e];simp only [ag]<;>rfl
         have hr9:Rch N m0 jz (aAk xz ((t2 i).getD (-1))).1 := .step (hE2.snd _ _ hGi) (by rw [hLN.n];exact gl hxz) ((hLN.al hx).2 (by rw [←hzj];exact gm hz)) (by rw [hLN.ps hxz (by omega),ad];rfl);refine aV1 21 4 [(115,vI (aAk xz ((t2 i).getD (-1))).1),(116,vP a3 (0+jz*1))] 3 0 0 ((aAk xz ((t2 i).getD (-1))).1) (vI (aAk xz ((t2 i).getD (-1))).1) inT (fc (ix 29 L.length aa (show jz<L.length by omega) (z:=z) (hz:=hzj)) f0) hM rfl aa (aCg (n:=L.length) (k:=jz) (t:=t2) (by omega)) rfl fun w1 hM=>seg 16 0 [(11,vB true),(13,vI ((k:Int)+1))] (fc (aAe (k:Int) 1 u3_) f0) ?_;rw [aO7] at hM;have hwl:=aKG (B:=6000000000) hr9.lt hbt (by have:=hr9.ge hN h0;omega) (hr9.le hN h0) fun m e=>(hE2.snd _ m e).le hN h0;exact aAb _ (ab _ (by have:=gl hz;omega) (k+1) (aJx t2 jz (aAk xz ((t2 i).getD (-1))).1) true _ (gl hz) (hE2.put hbt hr9) (by omega) (fun _=>by omega) (fun h=>by cases h) (fun h=>by cases h) hM rfl)
        refine seg 20 16 [(112,vB (decide ((aAk xz ((t2 i).getD (-1))).1<((t2 jz).getD (-1)))))] (fc (ix 29 L.length aa (show jz<L.length by omega) (z:=z) (hz:=hzj)) (fc (ldr 3 0 0 inT hM rfl aa (aCg (n:=L.length) (k:=jz) (t:=t2) (by omega)) rfl) f0)) ?_;cases a4:(decide ((aAk xz ((t2 i).getD (-1))).1<((t2 jz).getD (-1))))
        ·refine seg 16 0 [(13,vI ((k:Int)+1))] (fc (aAe (k:Int) 1 u3_) f0) ?_;have hbt:bet t2 jz (aAk xz ((t2 i).getD (-1))).1=false:=by rw [aQx fun m e=>hE2.ge hN h0 e];simp only [ag,a4]<;>rfl
         have hOk:=ad;exact aAb _ (ab _ (by have:=gl hz;omega) (k+1) t2 ch2 _ (gl hz) hE2 hw2 hwc2 hcl2 (fun h=>(hcd h).up hz (by intro m hm y hy;rw [hzj,Int.toNat_natCast,hLN.ps hxz (hE2.ge hN h0 hm)] at hy;rw [hm] at hOk hbt;have hOk:(aAk xz m).2=true:=hOk;rw [hOk] at hy;cases hy;rw [hzj,Int.toNat_natCast];exact aTm hbt)) hM rfl)
        have hbt:bet t2 jz (aAk xz ((t2 i).getD (-1))).1=true:=by rw [aQx fun m e=>hE2.ge hN h0 e];simp only [ag,a4]<;>rfl
        have hr9:Rch N m0 jz (aAk xz ((t2 i).getD (-1))).1 := .step (hE2.snd _ _ hGi) (by rw [hLN.n];exact gl hxz) ((hLN.al hx).2 (by rw [←hzj];exact gm hz)) (by rw [hLN.ps hxz (by omega),ad];rfl);refine aV1 21 4 [(115,vI (aAk xz ((t2 i).getD (-1))).1),(116,vP a3 (0+jz*1))] 3 0 0 ((aAk xz ((t2 i).getD (-1))).1) (vI (aAk xz ((t2 i).getD (-1))).1) inT (fc (ix 29 L.length aa (show jz<L.length by omega) (z:=z) (hz:=hzj)) f0) hM rfl aa (aCg (n:=L.length) (k:=jz) (t:=t2) (by omega)) rfl fun w1 hM=>seg 16 0 [(11,vB true),(13,vI ((k:Int)+1))] (fc (aAe (k:Int) 1 u3_) f0) ?_;rw [aO7] at hM;have hwl:=aKG (B:=6000000000) hr9.lt hbt (by have:=hr9.ge hN h0;omega) (hr9.le hN h0) fun m e=>(hE2.snd _ m e).le hN h0;exact aAb _ (ab _ (by have:=gl hz;omega) (k+1) (aJx t2 jz (aAk xz ((t2 i).getD (-1))).1) true _ (gl hz) (hE2.put hbt hr9) (by omega) (fun _=>by omega) (fun h=>by cases h) (fun h=>by cases h) hM rfl)
      exact aAb _ (bd _ 0 t ch _ (Gg_ _) hE hw hwc hcl (fun _=>ClK.nil _ _ _) hM rfl)
     exact aAb _ (bb _ 0 t0 false _ (Gg_ _) hE0 (Gl_ _) (fun h=>by cases h) (fun _ j hj=>absurd hj (Nat.not_lt_zero _)) hM rfl)
   exact aAb _ (a9 _ (aHJ L f m0) true _ hE9 (fun h=>by cases h) hM rfl)
  exact aAb _ (a5 _ 0 _ _ (Gg_ _) (List.length_replicate ..) (fun j hj=>absurd hj (Nat.not_lt_zero _)) hM rfl)
def aQB (A:List Arc) (t:Nat->Option Int) (g:Bys) (i:Nat) (le at_:Int):Prop:=(aAE A t g i=none /\ le = -1 /\ at_ = -1)∨∃ j,aAE A t g i=some j /\ t j=some le /\ at_=((j:Nat):Int)
theorem aQB.step {A:List Arc}{t:Nat->Option Int}{g:Bys}{i:Nat}{le at_:Int}(h:aQB A t g i le at_) (hge:∀ i m,t i=some m->0<=m) {a:Arc}(ha:A[i]?=some a) {c:Bool}(hc:((a.2.1==g)&&(decide (0<=(t i).getD (-1))&&(decide (le<0)||decide ((t i).getD (-1)<le))))=c):aQB A t g (i+1) (bif c then (t i).getD (-1) else le) (bif c then (i:Int) else at_):=by
  have key:((t i).isSome&&(a.2.1==g)&&aHc t (aAE A t g i) i)=c:=by
    rw [←hc]
    cases e:t i with
    | none=>cases a.2.1==g<;>rfl
    | some m =>
      have h0:=hge i m e;show (true&&(a.2.1==g)&&_)=((a.2.1==g)&&(decide (0<=m)&&(decide (le<0)||decide (m<le))));rw [decide_eq_true h0];rcases h with ⟨h1,rfl,_⟩ | ⟨j,h1,h2,_⟩
      · rw [h1];cases a.2.1==g<;>rfl
      · have:=hge j le h2
        rw [h1];show (true&&(a.2.1==g)&&decide ((t i).getD 0<(t j).getD 0))=_;rw [h2,e,decide_eq_false (show ¬ le<0 by omega)];cases a.2.1==g<;>rfl
  unfold aQB;rw [aBC ha,key]
  cases c with
  | false=>exact h
  | true =>
    right;refine ⟨i,rfl,?_,rfl⟩
    have:(t i).isSome=true:=by
      rw [Ga_,Ga_] at key;exact key.1.1
    obtain ⟨m,hm⟩:=Option.isSome_iff_exists.1 this;rw [hm];rfl
def aBS (A:List Arc) (t:Nat->Option Int) (f g:Bys) (m0:Int) (n:Nat):Int×Int:=bif f==g then (m0,-1) else match aAE A t g n with
  | some j=>((t j).getD (-1),(j:Int))
  | none=>(-1,-1)
theorem aIR {A:List Arc}{t:Nat->Option Int}{f g:Bys}{m0:Int}{n:Nat}(hf:(f==g)=true):aBS A t f g m0 n=(m0,-1):=by
  unfold aBS;rw [hf];rfl
theorem aQB.out {A:List Arc}{t:Nat->Option Int}{f g:Bys}{m0:Int}{n:Nat}{le at_:Int}(h:aQB A t g n le at_) (hf:(f==g)=false):(le,at_)=aBS A t f g m0 n:=by
  unfold aBS;rw [hf];rcases h with ⟨h1,rfl,rfl⟩ | ⟨j,h1,h2,rfl⟩
  · rw [h1];rfl
  · rw [h1];show (le,(j:Int))=((t j).getD (-1),(j:Int));rw [h2];rfl
def aXF (o:Option Nat):Int:=match o with
  | some k=>(k:Int)
  | none => -1
abbrev A37 (Z:Ending->World->Prop):=AtO Tryz.prog (aAf Tryz.f37) (aAo (bodyPost Tryz.prog Tryz.f37 Z)) [] 59
theorem aE7 {w:World}{q:Option Addr}{cq:Nat}{L:List LkR}(hL:SrcP lkL 9 w q cq L) (hLl:L.length<=1000000) {qt:Option Addr}{ct:Nat}{t:Nat->Option Int}(hT:SrcP inL 1 w qt ct (tbI L.length t)) (hge:∀ i m,t i=some m->0<=m) (f g:Bys) (m0:Int):Calls Tryz.prog 37 #[vL q L.length cq,vL qt L.length ct,vS f,vS g,vI m0] w fun e w'=>e = .returned (.tuple #[vI (aBS (L.map (·.a)) t f g m0 L.length).1,vI (aBS (L.map (·.a)) t f g m0 L.length).2]) /\ Fr nF_ w w':=by
  have bt:=hT.bnd;rw [aCm] at bt;refine beg Tryz.func37 rfl rfl [(0,vL q L.length cq),(1,vL qt L.length ct),(2,vS f),(3,vS g),(4,vI m0)] rfl rfl fun Z hZ=>?_;have hM:=Mm.nil nF_ w;refine seg 1 3 [(17,vB (f==g))] (fc (seq 9 f g) f0) ?_;cases ae:(f==g)
  rotate_left
  ·exact rt2 10 11 (vI m0) (vI (-1)) rfl rfl f0 (hZ _ _ ⟨by rw [aIR ae],hM.fr⟩)
  refine seg 6 0 [(12,vI (-1)),(13,vI (-1)),(14,vI 0)] f0 ?_
  have ai:∀ (af:Nat) (i:Nat) (le:Int) (at_:Int) (w2:World),i<=L.length->aQB (L.map (·.a)) t g i le at_->Mm nF_ w w2 []->af=L.length-i->A37 Z (some (6,0)) [(14,vI (i:Int)),(13,vI at_),(12,vI le),(0,vL q L.length cq),(1,vL qt L.length ct),(3,vS g)] w2:=by
   refine aA8 fun af aa i le at_ w2 hi hNd hM an=>seg 6 4 [(22,vB (decide ((i:Int)<(L.length:Int))))] f0 ?_;cases ag:(decide ((i:Int)<(L.length:Int)))
   ·have aj:=df ag;obtain rfl:i=L.length:=by omega
    have hn9:=hNd.out (m0:=m0) ae;exact rt2 10 11 (vI le) (vI at_) rfl rfl f0 (hZ _ _ ⟨by rw [←hn9],hM.fr⟩)
   have aj:=dt ag;obtain ⟨x,hx,ao,ap,ak,al⟩:=hL.el (i:=i) (by omega);obtain ⟨am,hv332,gT332,oT332,qT332,rT332⟩:=hT.el (i:=i) (by rw [aCm];omega);obtain rfl:((t i).getD (-1))=am:=Gh_ ((aCg (n:=L.length) (k:=i) (t:=t) (by omega)).symm.trans hv332);refine seg 8 9 [(33,vB (x.a.2.1==g))] (fc (ix 41 cq ak (gl hx)) (fc (ld0 9 hM (al 1 _ rfl)) (fc (seq 9 x.a.2.1 g) f0))) ?_;cases ab:(x.a.2.1==g)
   ·refine seg 6 0 [(14,vI ((i:Int)+1))] (fc (aAe (i:Int) 1 u3_) f0) ?_;have hs9:=hNd.step hge (show (L.map (·.a))[i]?=some x.a by rw [Gu_,hx];rfl) (c:=false) (by simp only [ab]<;>rfl);exact aAb _ (aa _ (by have:=gl hx;omega) (i+1) le at_ _ (gl hx) hs9 hM rfl)
   refine seg 8 16 [(40,vB (decide (0<=((t i).getD (-1)))))] (fc (ix 29 ct qT332 (show i<L.length by omega)) (fc (ld0 3 hM (rT332 0 _ rfl)) f0)) ?_;cases ac:(decide (0<=((t i).getD (-1))))
   ·refine seg 6 0 [(14,vI ((i:Int)+1))] (fc (aAe (i:Int) 1 u3_) f0) ?_;have hs9:=hNd.step hge (show (L.map (·.a))[i]?=some x.a by rw [Gu_,hx];rfl) (c:=false) (by simp only [ab,ac]<;>rfl);exact aAb _ (aa _ (by have:=gl hx;omega) (i+1) le at_ _ (gl hx) hs9 hM rfl)
   refine seg 8 19 [(43,vB (decide (le<0)))] f0 ?_;cases ad:(decide (le<0))
   rotate_left
   ·refine seg 6 0 [(12,vI ((t i).getD (-1))),(13,vI (i:Int)),(14,vI ((i:Int)+1))] (fc (ix 29 ct qT332 (show i<L.length by omega)) (fc (ld0 3 hM (rT332 0 _ rfl)) (fc (aAe (i:Int) 1 u3_) f0))) ?_;have hs9:=hNd.step hge (show (L.map (·.a))[i]?=some x.a by rw [Gu_,hx];rfl) (c:=true) (by simp only [ab,ac,ad]<;>rfl);exact aAb _ (aa _ (by have:=gl hx;omega) (i+1) ((t i).getD (-1)) (i:Int) _ (gl hx) hs9 hM rfl)
   refine seg 8 27 [(51,vB (decide (((t i).getD (-1))<le)))] (fc (ix 29 ct qT332 (show i<L.length by omega)) (fc (ld0 3 hM (rT332 0 _ rfl)) f0)) ?_;cases ah:(decide (((t i).getD (-1))<le))
   ·refine seg 6 0 [(14,vI ((i:Int)+1))] (fc (aAe (i:Int) 1 u3_) f0) ?_;have hs9:=hNd.step hge (show (L.map (·.a))[i]?=some x.a by rw [Gu_,hx];rfl) (c:=false) (by simp only [ab,ac,ad,ah]<;>rfl);exact aAb _ (aa _ (by have:=gl hx;omega) (i+1) le at_ _ (gl hx) hs9 hM rfl)
   refine seg 6 0 [(12,vI ((t i).getD (-1))),(13,vI (i:Int)),(14,vI ((i:Int)+1))] (fc (ix 29 ct qT332 (show i<L.length by omega)) (fc (ld0 3 hM (rT332 0 _ rfl)) (fc (aAe (i:Int) 1 u3_) f0))) ?_;have hs9:=hNd.step hge (show (L.map (·.a))[i]?=some x.a by rw [Gu_,hx];rfl) (c:=true) (by simp only [ab,ac,ad,ah]<;>rfl);exact aAb _ (aa _ (by have:=gl hx;omega) (i+1) ((t i).getD (-1)) (i:Int) _ (gl hx) hs9 hM rfl)
  exact aAb _ (ai _ 0 (-1) (-1) _ (Gg_ _) (.inl ⟨rfl,rfl,rfl⟩) hM rfl)
theorem aJn {N:NetW}{f:Bys}{L:List LkR}{t:Nat->Option Int}(hLN:LkN N f L) {i:Nat}{x:LkR}(hx:L[i]?=some x) {m0:Int}(hm:0<=m0) {mi:Int}(hTi:(t i).getD (-1)=mi) (h0:0<=mi):aLL N m0 t i=((x.a.1==f)&&((aAk x m0).2&&((aAk x m0).1==(t i).getD (-1)))):=by
  have hti:t i=some mi:=by rw [←hTi] at h0 ⊢;exact getD_some h0
  unfold aLL;rw [hLN.ps hx hm,hLN.st hx,hti];cases (aAk x m0).2<;>cases x.a.1==f<;>rfl
theorem aQ0 {N:NetW}{f:Bys}{L:List LkR}{t:Nat->Option Int}(hLN:LkN N f L) {i k:Nat}{x xk:LkR}(hx:L[i]?=some x) (hxk:L[k]?=some xk) (hge:∀ i m,t i=some m->0<=m) {mi:Int}(hTi:(t i).getD (-1)=mi) (h0:0<=mi):aD3 N t i k=((t k).isSome&&(xk.nx.contains (i:Int)&&((aAk x ((t k).getD (-1))).2&&((aAk x ((t k).getD (-1))).1==(t i).getD (-1))))):=by
  unfold aD3
  cases e:t k with
  | none=>rfl
  | some m =>
    have hti:t i=some mi:=by rw [←hTi] at h0 ⊢;exact getD_some h0
    have h1:N.al k i=xk.nx.contains (i:Int):=by rw [Bool.eq_iff_iff,hLN.al hxk,List.contains_iff_mem]
    show (true&&N.al k i&&((N.ps i m).isSome&&((N.ps i m).getD 0==(t i).getD 0)))=(true&&(xk.nx.contains (i:Int)&&((aAk x m).2&&((aAk x m).1==(t i).getD (-1)))));rw [h1,hLN.ps hx (hge k m e),hti,Bool.true_and,Bool.true_and];cases (aAk x m).2<;>rfl
theorem aLK {N:NetW}{f:Bys}{L:List LkR}{t:Nat->Option Int}(hLN:LkN N f L) {i k:Nat}{x xk:LkR}(hx:L[i]?=some x) (hxk:L[k]?=some xk) (hge:∀ i m,t i=some m->0<=m) {mi:Int}(hTi:(t i).getD (-1)=mi) (h0:0<=mi) (h:(xk.nx.contains (i:Int)&&((aAk x ((t k).getD (-1))).2&&((aAk x ((t k).getD (-1))).1==(t i).getD (-1))))=false):aD3 N t i k=false:=by
  rw [aQ0 hLN hx hxk hge hTi h0,h,Bool.and_false]
theorem aJm {N:NetW}{f:Bys}{L:List LkR}{t:Nat->Option Int}(hLN:LkN N f L) {i k j:Nat}{x xk:LkR}(hx:L[i]?=some x) (hxk:L[k]?=some xk) (hge:∀ i m,t i=some m->0<=m) {mi:Int}(hTi:(t i).getD (-1)=mi) (h0:0<=mi) (hk:0<=(t k).getD (-1)) {z:Int}(hzi:z=(i:Int)) (hz:xk.nx[j]?=some z) (h1:(aAk x ((t k).getD (-1))).2=true) (h2:((aAk x ((t k).getD (-1))).1==(t i).getD (-1))=true):aD3 N t i k=true:=by
  rw [aQ0 hLN hx hxk hge hTi h0,h1,h2,getD_some hk,show xk.nx.contains (i:Int)=true by rw [List.contains_iff_mem,←hzi];exact gm hz];rfl
abbrev A38 (Z:Ending->World->Prop):=AtO Tryz.prog (aAf Tryz.f38) (aAo (bodyPost Tryz.prog Tryz.f38 Z)) [] 100
theorem aIE {w:World}{q:Option Addr}{cq:Nat}{L:List LkR}(hL:SrcP lkL 9 w q cq L) (hlk:∀ x∈L,LkV w x) (htk:∀ x∈L,0<=x.tk /\ x.tk<=5000000000) (hLl:L.length<=1000000) {qt:Option Addr}{ct:Nat}{t:Nat->Option Int}(hT:SrcP inL 1 w qt ct (tbI L.length t)) (hge:∀ i m,t i=some m->0<=m) {N:NetW}{f:Bys}{m0:Int}(hN:N.Ok 6000000000) (hLN:LkN N f L) (h0:0<=m0) {i:Nat}(hi:i<L.length) {mi:Int}(hti:t i=some mi):Calls Tryz.prog 38 #[vL q L.length cq,vL qt L.length ct,vS f,vI m0,vI (i:Int)] w fun e w'=>e = .returned (vI (aXF (aBT N m0 t i))) /\ Fr nF_ w w':=by
  have bt:=hT.bnd;rw [aCm] at bt;obtain ⟨x,hx⟩:=geb (l:=L) (i:=i) hi;have hil:=gl hx;have hG0:=hge i mi hti;have hTi:(t i).getD (-1)=mi:=by rw [hti];rfl
  have hTi0:(t i).getD 0=mi:=by rw [hti];rfl
  refine beg Tryz.func38 rfl rfl [(0,vL q L.length cq),(1,vL qt L.length ct),(2,vS f),(3,vI m0),(4,vI (i:Int))] rfl rfl fun Z hZ=>?_;have hM:=Mm.nil nF_ w;obtain ⟨bi,bj,gx,ox,qx,rx⟩:=hL.el (i:=i) hi;obtain rfl:x=bi:=Gh_ (hx.symm.trans bj);obtain ⟨bl,hv338,gT338,oT338,qT338,rT338⟩:=hT.el (i:=i) (by rw [aCm];omega);obtain rfl:((t i).getD (-1))=bl:=Gh_ ((aCg (n:=L.length) (k:=i) (t:=t) (by omega)).symm.trans hv338);refine aAq 1 5 21 [(19,.agg #[vS x.a.1,vS x.a.2.1,vS x.a.2.2.1,vI x.a.2.2.2,vB x.op,vI x.tk,vB x.fr,vL x.hp x.hs.length x.hc,vL x.np x.nx.length x.nc]),(20,vI m0)] (fc (ix 41 cq qx (gl hx)) (fc (la0 50 hM rx) f0)) hM (aBZ x ((hlk _ (gm hx)).hs.fr hM.fr) (htk _ (gm hx)) m0) fun w1 hM=>seg 2 9 [(11,vI (aAk x m0).1),(12,vB (aAk x m0).2),(32,vB (x.a.1==f))] (fc (ix 41 cq qx (gl hx)) (fc (ld0 9 hM (rx 0 _ rfl)) (fc (seq 9 x.a.1 f) f0))) ?_;cases ad:(x.a.1==f)
  ·have hA:aLL N m0 t i=false:=by rw [aJn hLN hx h0 hTi hG0];simp only [ad]<;>rfl
   refine seg 5 0 [(13,vI 0)] f0 ?_
   have bm:∀ (ar:Nat) (k:Nat) (w2:World),k<=L.length->(∀ j,j<k->aD3 N t i j=false)->Mm nF_ w w2 []->ar=L.length-k->A38 Z (some (5,0)) [(13,vI (k:Int)),(0,vL q L.length cq),(1,vL qt L.length ct),(4,vI (i:Int))] w2:=by
    refine aA8 fun ar au k w2 hk hno hM ck=>seg 5 4 [(46,vB (decide ((k:Int)<(L.length:Int))))] f0 ?_;cases av:(decide ((k:Int)<(L.length:Int)))
    ·have bo:=df av
     have hb:aBT N m0 t i=none:=by
       unfold aBT;rw [hA];exact aDe hno (by rw [hLN.n];omega)
     exact rt1 10 (vI (-1)) rfl f0 (hZ _ _ ⟨by rw [hb];rfl,hM.fr⟩)
    have bo:=dt av;obtain ⟨xk,hxk,cl,cm,aw,ax⟩:=hL.el (i:=k) (by omega);have hkl:=gl hxk;obtain ⟨bp,hv345,gT345,oT345,qT345,rT345⟩:=hT.el (i:=k) (by rw [aCm];omega);obtain rfl:((t k).getD (-1))=bp:=Gh_ ((aCg (n:=L.length) (k:=k) (t:=t) (by omega)).symm.trans hv345);have ay:=(hlk _ (gm hxk)).nx;have co:=ay.bnd;refine seg 8 0 [(14,vI 0)] f0 ?_
    have bq:∀ (az:Nat) (j:Nat) (w2:World),j<=xk.nx.length->((xk.nx.take j).contains (i:Int)&&((aAk x ((t k).getD (-1))).2&&((aAk x ((t k).getD (-1))).1==(t i).getD (-1))))=false->Mm nF_ w w2 []->az=xk.nx.length-j->A38 Z (some (8,0)) [(14,vI (j:Int)),(13,vI (k:Int)),(0,vL q L.length cq),(1,vL qt L.length ct),(4,vI (i:Int))] w2:=by
     refine aA8 fun az ak j w2 hj hno2 hM cp=>seg 8 9 [(57,vB (decide ((j:Int)<(xk.nx.length:Int))))] (fc (ix 41 cq aw (gl hxk)) (fc (ld0 29 hM (ax 8 _ rfl)) f0)) ?_;cases a0:(decide ((j:Int)<(xk.nx.length:Int)))
     ·have br:=df a0;refine seg 5 0 [(13,vI ((k:Int)+1))] (fc (aAe (k:Int) 1 u3_) f0) ?_;rw [Gc_ (by omega)] at hno2;have hb9:aD3 N t i k=false:=aLK hLN hx hxk hge hTi hG0 hno2;exact aAb _ (au _ (by have:=gl hxk;omega) (k+1) _ (gl hxk) (fun j hj=>by rcases Nat.lt_succ_iff_lt_or_eq.1 hj with hj | rfl;exact hno j hj;exact hb9) hM rfl)
     have br:=dt a0;refine seg 8 15 [(63,vB (decide (0<=((t k).getD (-1)))))] (fc (ix 29 ct qT345 (show k<L.length by omega)) (fc (ld0 3 hM (rT345 0 _ rfl)) f0)) ?_;cases ae:(decide (0<=((t k).getD (-1))))
     ·have bs:=df ae;refine seg 5 0 [(13,vI ((k:Int)+1))] (fc (aAe (k:Int) 1 u3_) f0) ?_
      have hb9:aD3 N t i k=false:=by
        have:t k=none:=by
          cases e:t k with
          | none=>rfl
          | some m=>rw [e] at ae;have h9:=hge k m e;have h8:decide (0<=m)=false:=ae;rw [decide_eq_true h9] at h8;cases h8
        unfold aD3;rw [this];rfl
      exact aAb _ (au _ (by have:=gl hxk;omega) (k+1) _ (gl hxk) (fun j hj=>by rcases Nat.lt_succ_iff_lt_or_eq.1 hj with hj | rfl;exact hno j hj;exact hb9) hM rfl)
     have bs:=dt ae;obtain ⟨z,hz,cr,cs,bu,bv⟩:=ay.el (i:=j) (by omega);refine seg 10 0 [] f0 (drc [(11,vI (aAk x ((t k).getD (-1))).1),(12,vB (aAk x ((t k).getD (-1))).2)] hM (fun w5 hM=>(fc (ix 41 cq qx (gl hx)) (fc (la0 50 hM rx) (fc (ix 29 ct qT345 (show k<L.length by omega)) (fc (ld0 3 hM (rT345 0 _ rfl)) (fc (tcl (aBZ x ((hlk _ (gm hx)).hs.fr hM.fr) (htk _ (gm hx)) ((t k).getD (-1)))) f0)))))) fun w5 hM=>seg 11 11 [(88,vB (z==(i:Int)))] (fc (ix 41 cq aw (gl hxk)) (fc (ld0 29 hM (ax 8 _ rfl)) (fc (ix 29 xk.nc bu (gl hz)) (fc (ld0 3 hM (bv 0 _ rfl)) f0)))) ?_);cases aa:(z==(i:Int))
     ·have bw:=ef aa;refine seg 8 0 [(14,vI ((j:Int)+1))] (fc (aAe (j:Int) 1 u3_) f0) (aAb _ (ak _ (by have:=gl hz;omega) (j+1) _ (gl hz) (by rw [aFq hz,Bool.and_or_distrib_right,hno2];simp only [aa]<;>rfl) hM rfl))
     have bw:=et aa;refine seg 11 14 [(91,vB (aAk x ((t k).getD (-1))).2)] f0 ?_
     cases al:(aAk x ((t k).getD (-1))).2 with
     | false =>
      refine seg 8 0 [(14,vI ((j:Int)+1))] (fc (aAe (j:Int) 1 u3_) f0) (aAb _ (ak _ (by have:=gl hz;omega) (j+1) _ (gl hz) (by rw [aFq hz,Bool.and_or_distrib_right,hno2];simp only [aa,al]<;>rfl) hM rfl))
     | true =>
      refine seg 11 21 [(98,vB ((aAk x ((t k).getD (-1))).1==((t i).getD (-1))))] (fc (ix 29 ct qT338 (show i<L.length by omega)) (fc (ld0 3 hM (rT338 0 _ rfl)) f0)) ?_;cases af:((aAk x ((t k).getD (-1))).1==((t i).getD (-1)))
      ·have bz:=ef af;refine seg 8 0 [(14,vI ((j:Int)+1))] (fc (aAe (j:Int) 1 u3_) f0) (aAb _ (ak _ (by have:=gl hz;omega) (j+1) _ (gl hz) (by rw [aFq hz,Bool.and_or_distrib_right,hno2];simp only [aa,al,af]<;>rfl) hM rfl))
      have bz:=et af
      have hb:aBT N m0 t i=some k:=by
        unfold aBT;rw [hA];exact aEm hno (by rw [hLN.n];exact gl hxk) (aJm hLN hx hxk hge hTi hG0 (by omega) (show z=(i:Int) from et aa) hz al af)
      exact rt1 10 (vI (k:Int)) rfl f0 (hZ _ _ ⟨by rw [hb];rfl,hM.fr⟩)
    exact aAb _ (bq _ 0 _ (Gg_ _) (by rw [List.take_zero];rfl) hM rfl)
   exact aAb _ (bm _ 0 _ (Gg_ _) (fun j hj=>absurd hj (Nat.not_lt_zero _)) hM rfl)
  refine seg 2 12 [(35,vB (aAk x m0).2)] f0 ?_
  cases am:(aAk x m0).2 with
  | false =>
   have hA:aLL N m0 t i=false:=by rw [aJn hLN hx h0 hTi hG0];simp only [ad,am]<;>rfl
   refine seg 5 0 [(13,vI 0)] f0 ?_
   have b0:∀ (a1:Nat) (k:Nat) (w2:World),k<=L.length->(∀ j,j<k->aD3 N t i j=false)->Mm nF_ w w2 []->a1=L.length-k->A38 Z (some (5,0)) [(13,vI (k:Int)),(0,vL q L.length cq),(1,vL qt L.length ct),(4,vI (i:Int))] w2:=by
    refine aA8 fun a1 a2 k w2 hk hno hM cu=>seg 5 4 [(46,vB (decide ((k:Int)<(L.length:Int))))] f0 ?_;cases a3:(decide ((k:Int)<(L.length:Int)))
    ·have b1:=df a3
     have hb:aBT N m0 t i=none:=by
       unfold aBT;rw [hA];exact aDe hno (by rw [hLN.n];omega)
     exact rt1 10 (vI (-1)) rfl f0 (hZ _ _ ⟨by rw [hb];rfl,hM.fr⟩)
    have b1:=dt a3;obtain ⟨xk,hxk,cv,cw,a4,a5⟩:=hL.el (i:=k) (by omega);have hkl:=gl hxk;obtain ⟨b2,hv362,gT362,oT362,qT362,rT362⟩:=hT.el (i:=k) (by rw [aCm];omega);obtain rfl:((t k).getD (-1))=b2:=Gh_ ((aCg (n:=L.length) (k:=k) (t:=t) (by omega)).symm.trans hv362);have a6:=(hlk _ (gm hxk)).nx;have cx:=a6.bnd;refine seg 8 0 [(14,vI 0)] f0 ?_
    have b3:∀ (a7:Nat) (j:Nat) (w2:World),j<=xk.nx.length->((xk.nx.take j).contains (i:Int)&&((aAk x ((t k).getD (-1))).2&&((aAk x ((t k).getD (-1))).1==(t i).getD (-1))))=false->Mm nF_ w w2 []->a7=xk.nx.length-j->A38 Z (some (8,0)) [(14,vI (j:Int)),(13,vI (k:Int)),(0,vL q L.length cq),(1,vL qt L.length ct),(4,vI (i:Int))] w2:=by
     refine aA8 fun a7 an j w2 hj hno2 hM cy=>seg 8 9 [(57,vB (decide ((j:Int)<(xk.nx.length:Int))))] (fc (ix 41 cq a4 (gl hxk)) (fc (ld0 29 hM (a5 8 _ rfl)) f0)) ?_;cases a8:(decide ((j:Int)<(xk.nx.length:Int)))
     ·have b4:=df a8;refine seg 5 0 [(13,vI ((k:Int)+1))] (fc (aAe (k:Int) 1 u3_) f0) ?_;rw [Gc_ (by omega)] at hno2;have hb9:aD3 N t i k=false:=aLK hLN hx hxk hge hTi hG0 hno2;exact aAb _ (a2 _ (by have:=gl hxk;omega) (k+1) _ (gl hxk) (fun j hj=>by rcases Nat.lt_succ_iff_lt_or_eq.1 hj with hj | rfl;exact hno j hj;exact hb9) hM rfl)
     have b4:=dt a8;refine seg 8 15 [(63,vB (decide (0<=((t k).getD (-1)))))] (fc (ix 29 ct qT362 (show k<L.length by omega)) (fc (ld0 3 hM (rT362 0 _ rfl)) f0)) ?_;cases ag:(decide (0<=((t k).getD (-1))))
     ·have b5:=df ag;refine seg 5 0 [(13,vI ((k:Int)+1))] (fc (aAe (k:Int) 1 u3_) f0) ?_
      have hb9:aD3 N t i k=false:=by
        have:t k=none:=by
          cases e:t k with
          | none=>rfl
          | some m=>rw [e] at ag;have h9:=hge k m e;have h8:decide (0<=m)=false:=ag;rw [decide_eq_true h9] at h8;cases h8
        unfold aD3;rw [this];rfl
      exact aAb _ (a2 _ (by have:=gl hxk;omega) (k+1) _ (gl hxk) (fun j hj=>by rcases Nat.lt_succ_iff_lt_or_eq.1 hj with hj | rfl;exact hno j hj;exact hb9) hM rfl)
     have b5:=dt ag;obtain ⟨z,hz,cz,c0,b6,b7⟩:=a6.el (i:=j) (by omega);refine seg 10 0 [] f0 (drc [(11,vI (aAk x ((t k).getD (-1))).1),(12,vB (aAk x ((t k).getD (-1))).2)] hM (fun w5 hM=>(fc (ix 41 cq qx (gl hx)) (fc (la0 50 hM rx) (fc (ix 29 ct qT362 (show k<L.length by omega)) (fc (ld0 3 hM (rT362 0 _ rfl)) (fc (tcl (aBZ x ((hlk _ (gm hx)).hs.fr hM.fr) (htk _ (gm hx)) ((t k).getD (-1)))) f0)))))) fun w5 hM=>seg 11 11 [(88,vB (z==(i:Int)))] (fc (ix 41 cq a4 (gl hxk)) (fc (ld0 29 hM (a5 8 _ rfl)) (fc (ix 29 xk.nc b6 (gl hz)) (fc (ld0 3 hM (b7 0 _ rfl)) f0)))) ?_);cases ab:(z==(i:Int))
     ·have b8:=ef ab;refine seg 8 0 [(14,vI ((j:Int)+1))] (fc (aAe (j:Int) 1 u3_) f0) (aAb _ (an _ (by have:=gl hz;omega) (j+1) _ (gl hz) (by rw [aFq hz,Bool.and_or_distrib_right,hno2];simp only [ab]<;>rfl) hM rfl))
     have b8:=et ab;refine seg 11 14 [(91,vB (aAk x ((t k).getD (-1))).2)] f0 ?_
     cases ao:(aAk x ((t k).getD (-1))).2 with
     | false =>
      refine seg 8 0 [(14,vI ((j:Int)+1))] (fc (aAe (j:Int) 1 u3_) f0) (aAb _ (an _ (by have:=gl hz;omega) (j+1) _ (gl hz) (by rw [aFq hz,Bool.and_or_distrib_right,hno2];simp only [ab,ao]<;>rfl) hM rfl))
     | true =>
      refine seg 11 21 [(98,vB ((aAk x ((t k).getD (-1))).1==((t i).getD (-1))))] (fc (ix 29 ct qT338 (show i<L.length by omega)) (fc (ld0 3 hM (rT338 0 _ rfl)) f0)) ?_;cases ah:((aAk x ((t k).getD (-1))).1==((t i).getD (-1)))
      ·have b9:=ef ah;refine seg 8 0 [(14,vI ((j:Int)+1))] (fc (aAe (j:Int) 1 u3_) f0) (aAb _ (an _ (by have:=gl hz;omega) (j+1) _ (gl hz) (by rw [aFq hz,Bool.and_or_distrib_right,hno2];simp only [ab,ao,ah]<;>rfl) hM rfl))
      have b9:=et ah
      have hb:aBT N m0 t i=some k:=by
        unfold aBT;rw [hA];exact aEm hno (by rw [hLN.n];exact gl hxk) (aJm hLN hx hxk hge hTi hG0 (by omega) (show z=(i:Int) from et ab) hz ao ah)
      exact rt1 10 (vI (k:Int)) rfl f0 (hZ _ _ ⟨by rw [hb];rfl,hM.fr⟩)
    exact aAb _ (b3 _ 0 _ (Gg_ _) (by rw [List.take_zero];rfl) hM rfl)
   exact aAb _ (b0 _ 0 _ (Gg_ _) (fun j hj=>absurd hj (Nat.not_lt_zero _)) hM rfl)
  | true =>
   refine seg 2 19 [(42,vB ((aAk x m0).1==((t i).getD (-1))))] (fc (ix 29 ct qT338 (show i<L.length by omega)) (fc (ld0 3 hM (rT338 0 _ rfl)) f0)) ?_;cases a9:((aAk x m0).1==((t i).getD (-1)))
   rotate_left
   ·have hb:aBT N m0 t i=none:=by
      have hA:aLL N m0 t i=true:=by rw [aJn hLN hx h0 hTi hG0];simp only [ad,am,a9]<;>rfl
      unfold aBT;rw [hA];rfl
    exact rt1 10 (vI (-1)) rfl f0 (hZ _ _ ⟨by rw [hb];rfl,hM.fr⟩)
   have hA:aLL N m0 t i=false:=by rw [aJn hLN hx h0 hTi hG0];simp only [ad,am,a9]<;>rfl
   refine seg 5 0 [(13,vI 0)] f0 ?_
   have ca:∀ (ba:Nat) (k:Nat) (w2:World),k<=L.length->(∀ j,j<k->aD3 N t i j=false)->Mm nF_ w w2 []->ba=L.length-k->A38 Z (some (5,0)) [(13,vI (k:Int)),(0,vL q L.length cq),(1,vL qt L.length ct),(4,vI (i:Int))] w2:=by
    refine aA8 fun ba bb k w2 hk hno hM c1=>seg 5 4 [(46,vB (decide ((k:Int)<(L.length:Int))))] f0 ?_;cases bc:(decide ((k:Int)<(L.length:Int)))
    ·have cb:=df bc
     have hb:aBT N m0 t i=none:=by
       unfold aBT;rw [hA];exact aDe hno (by rw [hLN.n];omega)
     exact rt1 10 (vI (-1)) rfl f0 (hZ _ _ ⟨by rw [hb];rfl,hM.fr⟩)
    have cb:=dt bc;obtain ⟨xk,hxk,c2,c3,bd,be⟩:=hL.el (i:=k) (by omega);have hkl:=gl hxk;obtain ⟨cc,hv379,gT379,oT379,qT379,rT379⟩:=hT.el (i:=k) (by rw [aCm];omega);obtain rfl:((t k).getD (-1))=cc:=Gh_ ((aCg (n:=L.length) (k:=k) (t:=t) (by omega)).symm.trans hv379);have bf:=(hlk _ (gm hxk)).nx;have c4:=bf.bnd;refine seg 8 0 [(14,vI 0)] f0 ?_
    have cd:∀ (bg:Nat) (j:Nat) (w2:World),j<=xk.nx.length->((xk.nx.take j).contains (i:Int)&&((aAk x ((t k).getD (-1))).2&&((aAk x ((t k).getD (-1))).1==(t i).getD (-1))))=false->Mm nF_ w w2 []->bg=xk.nx.length-j->A38 Z (some (8,0)) [(14,vI (j:Int)),(13,vI (k:Int)),(0,vL q L.length cq),(1,vL qt L.length ct),(4,vI (i:Int))] w2:=by
     refine aA8 fun bg ap j w2 hj hno2 hM c5=>seg 8 9 [(57,vB (decide ((j:Int)<(xk.nx.length:Int))))] (fc (ix 41 cq bd (gl hxk)) (fc (ld0 29 hM (be 8 _ rfl)) f0)) ?_;cases bh:(decide ((j:Int)<(xk.nx.length:Int)))
     ·have ce:=df bh;refine seg 5 0 [(13,vI ((k:Int)+1))] (fc (aAe (k:Int) 1 u3_) f0) ?_;rw [Gc_ (by omega)] at hno2;have hb9:aD3 N t i k=false:=aLK hLN hx hxk hge hTi hG0 hno2;exact aAb _ (bb _ (by have:=gl hxk;omega) (k+1) _ (gl hxk) (fun j hj=>by rcases Nat.lt_succ_iff_lt_or_eq.1 hj with hj | rfl;exact hno j hj;exact hb9) hM rfl)
     have ce:=dt bh;refine seg 8 15 [(63,vB (decide (0<=((t k).getD (-1)))))] (fc (ix 29 ct qT379 (show k<L.length by omega)) (fc (ld0 3 hM (rT379 0 _ rfl)) f0)) ?_;cases ai:(decide (0<=((t k).getD (-1))))
     ·have cf:=df ai;refine seg 5 0 [(13,vI ((k:Int)+1))] (fc (aAe (k:Int) 1 u3_) f0) ?_
      have hb9:aD3 N t i k=false:=by
        have:t k=none:=by
          cases e:t k with
          | none=>rfl
          | some m=>rw [e] at ai;have h9:=hge k m e;have h8:decide (0<=m)=false:=ai;rw [decide_eq_true h9] at h8;cases h8
        unfold aD3;rw [this];rfl
      exact aAb _ (bb _ (by have:=gl hxk;omega) (k+1) _ (gl hxk) (fun j hj=>by rcases Nat.lt_succ_iff_lt_or_eq.1 hj with hj | rfl;exact hno j hj;exact hb9) hM rfl)
     have cf:=dt ai;obtain ⟨z,hz,c6,c7,cg,ch⟩:=bf.el (i:=j) (by omega);refine seg 10 0 [] f0 (drc [(11,vI (aAk x ((t k).getD (-1))).1),(12,vB (aAk x ((t k).getD (-1))).2)] hM (fun w5 hM=>(fc (ix 41 cq qx (gl hx)) (fc (la0 50 hM rx) (fc (ix 29 ct qT379 (show k<L.length by omega)) (fc (ld0 3 hM (rT379 0 _ rfl)) (fc (tcl (aBZ x ((hlk _ (gm hx)).hs.fr hM.fr) (htk _ (gm hx)) ((t k).getD (-1)))) f0)))))) fun w5 hM=>seg 11 11 [(88,vB (z==(i:Int)))] (fc (ix 41 cq bd (gl hxk)) (fc (ld0 29 hM (be 8 _ rfl)) (fc (ix 29 xk.nc cg (gl hz)) (fc (ld0 3 hM (ch 0 _ rfl)) f0)))) ?_);cases ac:(z==(i:Int))
     ·have ci:=ef ac;refine seg 8 0 [(14,vI ((j:Int)+1))] (fc (aAe (j:Int) 1 u3_) f0) (aAb _ (ap _ (by have:=gl hz;omega) (j+1) _ (gl hz) (by rw [aFq hz,Bool.and_or_distrib_right,hno2];simp only [ac]<;>rfl) hM rfl))
     have ci:=et ac;refine seg 11 14 [(91,vB (aAk x ((t k).getD (-1))).2)] f0 ?_
     cases aq:(aAk x ((t k).getD (-1))).2 with
     | false =>
      refine seg 8 0 [(14,vI ((j:Int)+1))] (fc (aAe (j:Int) 1 u3_) f0) (aAb _ (ap _ (by have:=gl hz;omega) (j+1) _ (gl hz) (by rw [aFq hz,Bool.and_or_distrib_right,hno2];simp only [ac,aq]<;>rfl) hM rfl))
     | true =>
      refine seg 11 21 [(98,vB ((aAk x ((t k).getD (-1))).1==((t i).getD (-1))))] (fc (ix 29 ct qT338 (show i<L.length by omega)) (fc (ld0 3 hM (rT338 0 _ rfl)) f0)) ?_;cases aj:((aAk x ((t k).getD (-1))).1==((t i).getD (-1)))
      ·have cj:=ef aj;refine seg 8 0 [(14,vI ((j:Int)+1))] (fc (aAe (j:Int) 1 u3_) f0) (aAb _ (ap _ (by have:=gl hz;omega) (j+1) _ (gl hz) (by rw [aFq hz,Bool.and_or_distrib_right,hno2];simp only [ac,aq,aj]<;>rfl) hM rfl))
      have cj:=et aj
      have hb:aBT N m0 t i=some k:=by
        unfold aBT;rw [hA];exact aEm hno (by rw [hLN.n];exact gl hxk) (aJm hLN hx hxk hge hTi hG0 (by omega) (show z=(i:Int) from et ac) hz aq aj)
      exact rt1 10 (vI (k:Int)) rfl f0 (hZ _ _ ⟨by rw [hb];rfl,hM.fr⟩)
    exact aAb _ (cd _ 0 _ (Gg_ _) (by rw [List.take_zero];rfl) hM rfl)
   exact aAb _ (ca _ 0 _ (Gg_ _) (fun j hj=>absurd hj (Nat.not_lt_zero _)) hM rfl)
theorem aLY {F0:Nat->Prop}{w0 w:World}{M:List Ent}(hM:Mm F0 w0 w M) {j n cT:Nat}{qT:Option Addr}{t:Nat->Option Int}(hj:M[j]?=some (rw_ inL 1 3 (vL qT n cT) (tbI n t))):SrcP inL 1 w qT cT (tbI n t):=(Src.p (hM.src hj inT.len)).2
theorem aIY {os:List ObR}{prof:Bys}{A:List Arc}{L:List LkR}(h:LksP os prof A L A.length):L.map (·.a)=A:=by
  apply List.ext_getElem?;intro i;rw [Gu_]
  cases hx:L[i]? with
  | none =>
    have:=List.getElem?_eq_none_iff.1 hx;rw [h.len] at this;rw [List.getElem?_eq_none this];rfl
  | some x =>
    obtain ⟨a,ha,hs⟩:=h.at_ i x hx;rw [ha];show some x.a=some a;rw [hs.arc]
theorem aUU (o:Option Nat):aXF o=bif o.isSome then ((o.getD 0:Nat):Int) else -1:=by cases o<;>rfl
theorem aEi {A:List Arc}{t:Nat->Option Int}(hge:∀ i m,t i=some m->0<=m) (f g:Bys) {m0:Int}(h0:0<=m0) :
    (aBS A t f g m0 A.length=(-1,-1) /\ f≠g /\ aAE A t g A.length=none)∨∃ (le:Int) (mr:Bool) (i0:Nat),aBS A t f g m0 A.length=(le,bif mr then (i0:Int) else -1) /\ 0<=le /\ ((mr=false /\ f=g /\ le=m0)∨(mr=true /\ f≠g /\ aAE A t g A.length=some i0 /\ t i0=some le)):=by
  cases hf:(f==g) with
  | true=>exact .inr ⟨m0,false,0,aIR hf,h0,.inl ⟨rfl,et hf,rfl⟩⟩
  | false =>
    cases hl:aAE A t g A.length with
    | none=>refine .inl ⟨?_,ef hf,rfl⟩;unfold aBS;rw [hf,hl];rfl
    | some j =>
      obtain ⟨_,_,h2⟩:=aFl hl;obtain ⟨m,hm⟩:=Option.isSome_iff_exists.1 h2;refine .inr ⟨m,true,j,?_,hge j m hm,.inr ⟨rfl,ef hf,rfl,hm⟩⟩;unfold aBS;rw [hf,hl];show ((t j).getD (-1),(j:Int))=_;rw [hm];rfl
theorem aDH {α:Type}{f:α->List Value}{c E:Nat}{F0:Nat->Prop}{w0 w:World}{M:List Ent}(hM:Mm F0 w0 w M) {j n cap:Nat}{q:Option Addr}{A:List α}(hf:∀ x,(f x).length=c) (hj:M[j]?=some (rw_ f c E (vL q n cap) A)):SrcP f c w q cap A:=(Src.p (hM.src hj hf)).2
theorem aT6 {os:List ObR}{prof f g:Bys}{m0:Int}{L:List LkR}(hc:aEq (aAa os) prof m0 [f,g]=0) (hL:LksP os prof (asQ (aAa os)) L (asQ (aAa os)).length) {t:Nat->Option Int}(hT:Tab (aED prof (aAa os) f) m0 t) {P:List Nat}{mr:Bool}{i0:Nat}{le:Int}(hP:P=bif mr then bkP (aED prof (aAa os) f) m0 t i0 else []) (hcs:(mr=false /\ f=g /\ le=m0)∨(mr=true /\ f≠g /\ aAE (L.map (·.a)) t g (L.map (·.a)).length=some i0 /\ t i0=some le)) :
    aGl prof (aAa os) f g m0 0 ([f]++(P.map (toN (L.map (·.a)))).reverse) ([m0]++(P.map fun j=>(t j).getD 0).reverse):=by
  rw [aIY hL] at hcs ⊢;rcases hcs with ⟨rfl,h2,_⟩ | ⟨rfl,h2,h3,_⟩
  · subst hP;exact .inr (.inl ⟨hc,h2,rfl,rfl,rfl⟩)
  · subst hP
    exact .inr (.inr ⟨hc,h2,t,hT,.inr ⟨i0,h3,rfl,by rw [List.reverse_append];rfl,by rw [List.reverse_append];rfl⟩⟩)
abbrev A13 (Z:Ending->World->Prop):=AtO Tryz.prog (aAf Tryz.f13) (aAo (bodyPost Tryz.prog Tryz.f13 Z)) [] 82
theorem aLc {w:World}{v:Value}{os:List ObR}(hmv:aCq w v os) {prof f g:Bys}(hp63:prof.length<=9223372036854775807) (hfew:aL7 os=true) (m0:Int):Calls Tryz.prog 13 #[.agg #[v],vS prof,vS f,vS g,vI m0] w fun e w'=>∃ v1 v2 c nd mi,e = .returned (.tuple #[.agg #[v1,v2],vI c]) /\ aGl prof (aAa os) f g m0 c nd mi /\ Mm nF_ w w' [rw_ stL 1 9 v1 nd,rw_ inL 1 3 v2 mi]:=by
  have hok:=(aTs os▸fun a ha=>aFv (fun b hb=>(hmv.2 b hb).bnd) a (aCP ha):∀ a∈asQ (aAa os),ArcB a);have hm0:=hmv;obtain ⟨hs0,hob⟩:=hm0;obtain ⟨p0,cp0,hp0,sp0⟩:=hs0.op;subst hp0;refine beg Tryz.func13 rfl rfl [(0,.agg #[vL p0 os.length cp0]),(1,vS prof),(2,vS f),(3,vS g),(4,vI m0)] rfl rfl fun Z hZ=>?_;have hM:=Mm.nil nF_ w;refine aAp 0 0 5 [] (cs:=#[vL p0 os.length cp0]) (T:=24) (v:=fun b=>vP b 0) f0 hM fun ab w1 hM=>aAp 0 1 10 [] (cs:=#[vL none 0 0,vL none 0 0]) (T:=31) (v:=fun b=>vP b 0) f0 hM fun aa w1 hM=>aAp 1 5 24 [(19,.agg #[vL p0 os.length cp0]),(20,vS prof),(21,vI m0),(22,vS f),(23,vS g)] (cs:=#[vS f,vS g]) (T:=9) (v:=fun b=>vL (some ⟨b,0,none⟩) 2 2) (fc (lam 24 0 0 1 hM rfl) f0) hM fun ai w1 hM=>aAq 1 6 25 [] f0 hM (aEw (hmv.fr hM.fr) hp63 m0 (ids:=[f,g]) (aKV (f:=stL) (c:=1) (fun _=>rfl) (by decide) (hM.get 2 rfl))) fun w1 hM=>seg 2 2 [(12,vI (aEq (aAa os) prof m0 [f,g])),(27,vB (!((aEq (aAa os) prof m0 [f,g])==0)))] f0 ?_;cases aj:((aEq (aAa os) prof m0 [f,g])==0)
  ·refine stm 3 2 [(28,.agg #[vL none 0 0,vL none 0 0]),(29,vI (aEq (aAa os) prof m0 [f,g]))] 31 1 0 (.agg #[vL none 0 0,vL none 0 0]) f0 hM rfl fun w1 hM=>?_;have hl9:=aAi 31 1 (P:=Tryz.prog) (n:=2) hM rfl rfl;exact aTS 10 31 11 (vI (aEq (aAa os) prof m0 [f,g])) rfl rfl hl9 f0 (hZ _ _ ⟨(vL none 0 0),(vL none 0 0),_,[],[],rfl,.inl ⟨ef aj,rfl,rfl,rfl⟩,(hM.pick (M':=[]) []).row.row⟩)
  have hc0:(aEq (aAa os) prof m0 [f,g])=0:=et aj;obtain ⟨hv,_,k0,k1,_,_⟩:=aHv hc0;have hNo:=aFF (prof:=prof) hok f;refine aAM 4 2 32 [(30,.agg #[vL p0 os.length cp0]),(31,vS prof)] (K:=fun u Mn=>∃ u1 L,u=u1 /\ LinksQ os prof L /\ Mn=[rw_ lkL 9 50 u1 L,aAD spL 2 141 (hbL L),aAD inL 1 3 (nbL L)]) [0,1,2] [] (fc (lam 24 0 0 1 hM rfl) f0) hM rfl rfl (by decide) (fun hm=>((aFY (hmv.fr hM.fr) hfew hv hok prof).mono fun e w8 ⟨v1,L,h1,h2,h3⟩=>⟨_,_,h1,⟨v1,L,rfl,h2,rfl⟩,aCy h3 fun _ h=>h.elim⟩)) fun u Mn w1 hK hM=>?_;obtain ⟨u1,L,rfl,hLQ,rfl⟩:=hK;obtain ⟨qL,cL,eL,sL⟩:=(hM.src (j:=3) rfl lkT.len).op;subst eL;have bL:=sL.bnd;replace hM:Mm nF_ w w1 [bk ab #[vL p0 os.length cp0] 24,bk aa #[vL none 0 0,vL none 0 0] 31,bk ai #[vS f,vS g] 9,_,_,_]:=hM;have hLN:LkN (aED prof (aAa os) f) f L:=aSW hv hLQ.p;refine aAM 5 3 36 [(13,vL qL L.length cL),(33,vL qL L.length cL),(34,vS f),(35,vI m0)] (K:=fun u Mn=>∃ u1 t,u=u1 /\ Tab (aED prof (aAa os) f) m0 t /\ Mn=[rw_ inL 1 3 u1 (tbI L.length t)]) [0,1,2,3,4,5] [] f0 hM rfl rfl (by decide) (fun hm=>((aDI ((Src.p (n:=L.length) (hM.src (f:=lkL) (c:=9) (E:=50) (j:=3) (A:=L) rfl lkT.len)).2) (aPK (L:=L) hM (i:=4) (j:=5) rfl rfl) hLQ.tk (by have:=hLQ.len;omega) hNo hLN k0).mono fun e w8 ⟨v1,t,h1,h2,h3⟩=>⟨_,_,h1,⟨v1,t,rfl,h2,rfl⟩,aCy h3 fun _ h=>h.elim⟩)) fun u Mn w1 hK hM=>?_;obtain ⟨u1,t,rfl,hTab,rfl⟩:=hK;obtain ⟨qT,cT,eT,sT⟩:=(hM.src (j:=6) rfl inT.len).op;rw [aCm] at eT;subst eT;have hge:∀ i m,t i=some m->0<=m:=fun i m e=>by have:=(hTab.snd i m e).ge hNo k0;omega
  replace hM:Mm nF_ w w1 [bk ab #[vL p0 os.length cp0] 24,bk aa #[vL none 0 0,vL none 0 0] 31,bk ai #[vS f,vS g] 9,_,_,_,_]:=hM;rcases aEi (A:=L.map (·.a)) hge f g k0 with ⟨hnd,hfg,hln⟩ | ⟨le,mr,i0,hnd,hle,hcs⟩
  · skip
    refine aAq 6 5 43 [(14,vL qT L.length cT),(38,vL qL L.length cL),(39,vL qT L.length cT),(40,vS f),(41,vS g),(42,vI m0)] f0 hM ((aE7 ((Src.p (n:=L.length) (hM.src (f:=lkL) (c:=9) (E:=50) (j:=3) (A:=L) rfl lkT.len)).2) (by have:=hLQ.len;omega) (aLY hM (j:=6) rfl) hge f g m0).mono fun e w8 ⟨h1,h2⟩=>⟨by rw [h1,show L.length=(L.map (·.a)).length by rw [Gs_],hnd],h2⟩) fun w1 hM=>stm 8 1 [(48,.agg #[vL none 0 0,vL none 0 0])] 31 1 0 (.agg #[vL none 0 0,vL none 0 0]) f0 hM rfl fun w1 hM=>?_;have hl9:=aAi 31 1 (P:=Tryz.prog) (n:=2) hM rfl rfl;exact aTS 10 31 11 (vI 12) rfl rfl hl9 f0 (hZ _ _ ⟨(vL none 0 0),(vL none 0 0),_,[],[],rfl,.inr (.inr ⟨hc0,hfg,t,hTab,.inl ⟨by rw [aIY hLQ.p] at hln;exact hln,rfl,rfl,rfl⟩⟩),(hM.pick (M':=[]) []).row.row⟩)
  · skip
    refine aAq 6 5 43 [(14,vL qT L.length cT),(38,vL qL L.length cL),(39,vL qT L.length cT),(40,vS f),(41,vS g),(42,vI m0)] f0 hM ((aE7 ((Src.p (n:=L.length) (hM.src (f:=lkL) (c:=9) (E:=50) (j:=3) (A:=L) rfl lkT.len)).2) (by have:=hLQ.len;omega) (aLY hM (j:=6) rfl) hge f g m0).mono fun e w8 ⟨h1,h2⟩=>⟨by rw [h1,show L.length=(L.map (·.a)).length by rw [Gs_],hnd],h2⟩) fun w1 hM=>seg 7 2 [(16,vI (bif mr then (i0:Int) else -1)),(47,vB (decide (le<0)))] f0 ?_;cases ad:(decide (le<0))
    rotate_left
    ·have aq:=dt ad;have:=dt ad;omega
    have aq:=df ad;have hM:=hM.row (f:=stL) (c:=1) (E:=9);have hM:=hM.row (f:=inL) (c:=1) (E:=3);have hB:=aMW hNo k0 hTab;have hAl:(L.map (·.a)).length=L.length:=Gs_ ..
    have hst:mr=true->i0<L.length /\ (t i0).isSome=true:=fun h=>by
      rcases hcs with ⟨h1,_⟩ | ⟨_,_,h3,h4⟩
      · rw [h1] at h;cases h
      · exact ⟨by rw [←hAl];exact (aFl h3).1,by rw [h4];rfl⟩
    have hZl:(bif mr then bkP (aED prof (aAa os) f) m0 t i0 else []).length<=6000000001:=by
      cases mr with
      | false=>exact Gg_ _
      | true=>exact aQt (by cases e:t i0 with | none=>(show (0:Int)<=_;omega) | some m=>exact (hTab.snd i0 m e).le hNo k0)
    have hM:=hM.pick [0,1,3,4,5,6,7,8];replace hM:Mm nF_ w _ [bk ab #[vL p0 os.length cp0] 24,bk aa #[vL none 0 0,vL none 0 0] 31,_,_,_,_,_,_]:=hM;refine seg 11 0 [(17,vL none 0 0),(18,vL none 0 0)] f0 ?_
    have ar:∀ (ak:Nat) (i:Nat) (mo:Bool) (P:List Nat) (qn:Option Addr) (cn:Nat) (qm:Option Addr) (cm:Nat) (w2:World),P++(bif mo then bkP (aED prof (aAa os) f) m0 t i else [])=(bif mr then bkP (aED prof (aAa os) f) m0 t i0 else [])->(mo=true->i<L.length /\ (t i).isSome=true)->Mm nF_ w w2 [bk ab #[vL p0 os.length cp0] 24,bk aa #[vL none 0 0,vL none 0 0] 31,rw_ lkL 9 50 (vL qL L.length cL) L,aAD spL 2 141 (hbL L),aAD inL 1 3 (nbL L),rw_ inL 1 3 (vL qT L.length cT) (tbI L.length t),rw_ stL 1 9 (vL qn ((P.map (toN (L.map (·.a)))).reverse).length cn) ((P.map (toN (L.map (·.a)))).reverse),rw_ inL 1 3 (vL qm ((P.map fun j=>(t j).getD 0).reverse).length cm) ((P.map fun j=>(t j).getD 0).reverse)]->ak=(bif mo then ((t i).getD 0).toNat+1 else 0)->A13 Z (some (11,0)) [(18,vL qm ((P.map fun j=>(t j).getD 0).reverse).length cm),(17,vL qn ((P.map (toN (L.map (·.a)))).reverse).length cn),(16,vI (bif mo then (i:Int) else -1)),(14,vL qT L.length cT),(13,vL qL L.length cL),(10,vP aa 0),(2,vS f),(4,vI m0)] w2:=by
     refine aA8 fun ak au i mo P qn cn qm cm w2 hL9 hmr hM av=>seg 11 2 [(50,vB (decide (0<=(bif mo then (i:Int) else -1))))] f0 ?_;cases ac:(decide (0<=(bif mo then (i:Int) else -1)))
     ·have aw:=df ac
      obtain rfl:mo=false:=by
        cases mo with
        | false=>rfl
        | true=>have:decide (0<=(i:Int))=false:=ac;rw [decide_eq_true (by omega)] at this;cases this
      have hPe:P=_:=(List.append_nil P).symm.trans hL9;have hPl:P.length<=6000000001:=by rw [hPe];exact hZl
      refine aAp 15 1 74 [(73,vS f)] (cs:=#[vS f]) (T:=9) (v:=fun b=>vL (some ⟨b,0,none⟩) 1 1) f0 hM fun a3 w1 hM=>?_;have hM:=aDq hM (f:=stL) (c:=1) (j:=8) rfl [f] 1 rfl rfl rfl;refine aH5 15 3 76 [(75,vL qn ((P.map (toN (L.map (·.a)))).reverse).length cn)] (cap:=cn) (by decide) stT f0 hM (j:=8) rfl (aDH hM (j:=6) stT.len rfl).at_ (aDH hM (j:=6) stT.len rfl).nil (by simp only [List.length_reverse,Gs_,Gf_,Go_];omega) fun a4 w1 hM=>?_;obtain ⟨ae,af,ax,-⟩:=(hM.src (j:=8) rfl stT.len).op;subst ax;refine aAp 15 5 78 [(77,vI m0)] (cs:=#[vI m0]) (T:=3) (v:=fun b=>vL (some ⟨b,0,none⟩) 1 1) f0 hM fun a5 w1 hM=>?_;have hM:=aDq hM (f:=inL) (c:=1) (j:=9) rfl [m0] 1 rfl rfl rfl;refine aH5 15 7 80 [(79,vL qm ((P.map fun j=>(t j).getD 0).reverse).length cm)] (cap:=cm) (by decide) inT f0 hM (j:=9) rfl (aDH hM (j:=7) inT.len rfl).at_ (aDH hM (j:=7) inT.len rfl).nil (by simp only [List.length_reverse,Gs_,Gf_,Go_];omega) fun a6 w1 hM=>?_;obtain ⟨ag,ah,ay,-⟩:=(hM.src (j:=9) rfl inT.len).op;subst ay;refine stm 15 9 [(81,.agg #[vL ae ([f]++(P.map (toN (L.map (·.a)))).reverse).length af,vL ag ([m0]++(P.map fun j=>(t j).getD 0).reverse).length ah])] 31 1 0 (.agg #[vL ae ([f]++(P.map (toN (L.map (·.a)))).reverse).length af,vL ag ([m0]++(P.map fun j=>(t j).getD 0).reverse).length ah]) f0 hM rfl fun w1 hM=>?_;have hl9:=aAi 31 1 (P:=Tryz.prog) (n:=2) hM rfl rfl;exact aTS 10 31 11 (vI 0) rfl rfl hl9 f0 (hZ _ _ ⟨(vL ae ([f]++(P.map (toN (L.map (·.a)))).reverse).length af),(vL ag ([m0]++(P.map fun j=>(t j).getD 0).reverse).length ah),_,_,_,rfl,aT6 hc0 hLQ.p hTab hPe hcs,hM.pick [8,9]⟩)
     have aw:=dt ac
     obtain rfl:mo=true:=by
       cases mo with
       | true=>rfl
       | false=>have h9:decide ((0:Int) <= -1)=true:=ac;exact absurd h9 (by decide)
     obtain ⟨hil,his⟩:=hmr rfl;obtain ⟨mi,hti⟩:=Option.isSome_iff_exists.1 his;obtain ⟨x,hx⟩:=geb (l:=L) (i:=i) hil;have ha:(L.map (·.a))[i]?=some x.a:=by rw [Gu_,hx];rfl
     have hPl:P.length<=6000000001:=by have:=congrArg List.length hL9;rw [Gk_] at this;omega
     have hTi:(t i).getD (-1)=(t i).getD 0:=by rw [hti];rfl
     have hLs:=(Src.p (n:=L.length) (hM.src (f:=lkL) (c:=9) (E:=50) (j:=2) (A:=L) rfl lkT.len)).2;obtain ⟨az,a0,gx,ox,qx,rx⟩:=hLs.el (i:=i) hil;obtain rfl:x=az:=Gh_ (hx.symm.trans a0);refine aAp 12 6 57 [(56,vS x.a.2.1)] (cs:=#[vS x.a.2.1]) (T:=9) (v:=fun b=>vL (some ⟨b,0,none⟩) 1 1) (fc (ix 41 cL qx (gl hx)) (fc (ld0 9 (Mm.nil nF_ _) (rx 1 _ rfl)) f0)) hM fun a7 w1 hM=>?_;have hM:=aDq hM (f:=stL) (c:=1) (j:=8) rfl [x.a.2.1] 1 rfl rfl rfl;refine aH5 12 8 59 [(58,vL qn ((P.map (toN (L.map (·.a)))).reverse).length cn)] (cap:=cn) (by decide) stT f0 hM (j:=8) rfl (aDH hM (j:=6) stT.len rfl).at_ (aDH hM (j:=6) stT.len rfl).nil (by simp only [List.length_reverse,Gs_,Gf_,Go_];omega) fun a8 w1 hM=>?_;obtain ⟨al,am,a1,-⟩:=(hM.src (j:=8) rfl stT.len).op;subst a1;obtain ⟨a9,an,-⟩:=hM.el inT (j:=5) rfl (aCg (n:=L.length) (k:=i) (t:=t) hil);refine aAp 13 4 64 [(17,vL al ([x.a.2.1]++(P.map (toN (L.map (·.a)))).reverse).length am),(63,vI ((t i).getD (-1)))] (cs:=#[vI ((t i).getD (-1))]) (T:=3) (v:=fun b=>vL (some ⟨b,0,none⟩) 1 1) (fc (ix 29 cT an (show i<L.length by omega)) (fc (ldr 3 5 0 inT hM rfl an (aCg (n:=L.length) (k:=i) (t:=t) hil) rfl) f0)) hM fun ba w1 hM=>?_;have hM:=aDq hM (f:=inL) (c:=1) (j:=9) rfl [((t i).getD (-1))] 1 rfl rfl rfl;refine aH5 13 6 66 [(65,vL qm ((P.map fun j=>(t j).getD 0).reverse).length cm)] (cap:=cm) (by decide) inT f0 hM (j:=9) rfl (aDH hM (j:=7) inT.len rfl).at_ (aDH hM (j:=7) inT.len rfl).nil (by simp only [List.length_reverse,Gs_,Gf_,Go_];omega) fun bb w1 hM=>?_;obtain ⟨ao,ap,a2,-⟩:=(hM.src (j:=9) rfl inT.len).op;subst a2;refine aAq 14 5 72 [(18,vL ao ([((t i).getD (-1))]++(P.map fun j=>(t j).getD 0).reverse).length ap),(67,vL qL L.length cL),(68,vL qT L.length cT),(69,vS f),(70,vI m0),(71,vI (i:Int))] f0 hM ((aIE ((Src.p (n:=L.length) (hM.src (f:=lkL) (c:=9) (E:=50) (j:=2) (A:=L) rfl lkT.len)).2) (aPK (L:=L) hM (i:=3) (j:=4) rfl rfl) hLQ.tk (by have:=hLQ.len;omega) (aLY hM (j:=5) rfl) hge hNo hLN k0 hil hti).mono fun e w8 ⟨h1,h2⟩=>⟨by rw [h1,aUU],h2⟩) fun w1 hM=>seg 11 0 [(16,vI (bif (aBT (aED prof (aAa os) f) m0 t i).isSome then (((aBT (aED prof (aAa os) f) m0 t i).getD 0:Nat):Int) else -1))] f0 ?_;have hM:=hM.pick [0,1,2,3,4,5,8,9];replace hM:Mm nF_ w _ [bk ab #[vL p0 os.length cp0] 24,bk aa #[vL none 0 0,vL none 0 0] 31,_,_,_,_,_,_]:=hM;have e1:([x.a.2.1]++(P.map (toN (L.map (·.a)))).reverse)=((P++[i]).map (toN (L.map (·.a)))).reverse:=by rw [List.map_append,List.reverse_append];simp [aSD ha]
     have e2:([((t i).getD (-1))]++(P.map fun j=>(t j).getD 0).reverse)=((P++[i]).map fun j=>(t j).getD 0).reverse:=by rw [List.map_append,List.reverse_append,hTi];rfl
     rw [e1,e2] at hM ⊢;exact aAb _ (au _ (by rw [av];exact (aG3 hB (by rw [hLN.n];exact hil)).2) ((aBT (aED prof (aAa os) f) m0 t i).getD 0) (aBT (aED prof (aAa os) f) m0 t i).isSome (P++[i]) al am ao ap _ (by rw [Gn_,aMV hB (by rw [hLN.n];exact hil)];exact hL9) (fun h=>by have:=(aG3 hB (by rw [hLN.n];exact hil)).1 h;rw [hLN.n] at this;exact this) hM rfl)
    exact aAb _ (ar _ i0 mr [] none 0 none 0 _ rfl hst hM rfl)
def uR (A:List Arc) (t:Nat->Option Int) (f:Bys) (m0 wi:Int) (s:Bys):Option Int:=bif decide (0<=(aBS A t f s m0 A.length).1)&&decide ((aBS A t f s m0 A.length).1-m0<=wi) then some ((aBS A t f s m0 A.length).1-m0) else none
def aOa (A:List Arc) (t:Nat->Option Int) (f:Bys) (m0 wi:Int) (o:Ob):List (Bys×Int):=bif (uR A t f m0 wi o.id).isSome&&(o.kind==1) then [(o.id,(uR A t f m0 wi o.id).getD 0)] else []
def aCv (A:List Arc) (t:Nat->Option Int) (f:Bys) (m0 wi:Int) (os:List ObR) (i:Nat):List (Bys×Int):=(os.take i).flatMap fun b=>aOa A t f m0 wi b.o
theorem aEX {A:List Arc}{t:Nat->Option Int}{f:Bys}{m0 wi:Int}{os:List ObR}{i:Nat}{y:ObR}(h:os[i]?=some y):aCv A t f m0 wi os (i+1)=aCv A t f m0 wi os i++aOa A t f m0 wi y.o:=by
  unfold aCv;rw [gt_ h,List.flatMap_append];simp
theorem aRz (A:List Arc) (t:Nat->Option Int) (f:Bys) (m0 wi:Int) (o:Ob):(aOa A t f m0 wi o).length<=1:=by
  unfold aOa;cases (uR A t f m0 wi o.id).isSome&&(o.kind==1)<;>simp
theorem aJU (A:List Arc) (t:Nat->Option Int) (f:Bys) (m0 wi:Int) (os:List ObR):∀ i,(aCv A t f m0 wi os i).length<=i
  | 0=>by unfold aCv;simp
  | i+1=>by
    have ih:=aJU A t f m0 wi os i
    cases h:os[i]? with
    | none =>
      have hl:=List.getElem?_eq_none_iff.1 h;have e:aCv A t f m0 wi os (i+1)=aCv A t f m0 wi os i:=by unfold aCv;rw [Gc_ hl,Gc_ (by omega)]
      rw [e];omega
    | some y =>
      rw [aEX h,Gk_];have:=aRz A t f m0 wi y.o;omega
theorem aWB {A:List Arc}{t:Nat->Option Int}(hge:∀ i m,t i=some m->0<=m) {f:Bys}{m0 wi:Int}(h0:0<=m0) (hw:0<=wi) (hgt:∀ i m,t i=some m->m0<=m):FirstOk A t f m0 wi (fun _=>True) (uR A t f m0 wi):=by
  refine ⟨?_,fun s d hs hu=>?_,fun k m a _ ht ha hd=>?_⟩
  · unfold uR
    rw [aIR (beq_self_eq_true f)];show (bif decide (0<=m0)&&decide (m0-m0<=wi) then some (m0-m0) else none)=some 0;rw [decide_eq_true h0,Int.sub_self,decide_eq_true hw];rfl
  · have hsp:=aFK (A:=A) (t:=t) (g:=s) (Gl_ _)
    rcases aEi (A:=A) hge f s h0 with ⟨h1,_,_⟩ | ⟨le,mr,i0,h1,h2,⟨_,h3,_⟩ | ⟨_,_,h3,h4⟩⟩
    · unfold uR at hu;rw [h1] at hu;cases hu
    · exact absurd h3.symm hs
    · rw [h3] at hsp
      obtain ⟨a,m,ha,hg,hm,_⟩:=hsp;rw [h4] at hm;cases hm;unfold uR at hu;rw [h1] at hu;have hu:(bif decide (0<=le)&&decide (le-m0<=wi) then some (le-m0) else none)=some d:=hu
      cases h5:decide (le-m0<=wi) with
      | false=>rw [h5,Bool.and_false] at hu;cases hu
      | true =>
        rw [h5,decide_eq_true h2] at hu;cases hu;exact ⟨i0,le,a,h4,ha,hg,rfl,dt h5⟩
  · have hsp:=aFK (A:=A) (t:=t) (g:=a.2.1) (Gl_ _)
    rcases aEi (A:=A) hge f a.2.1 h0 with ⟨h1,_,h3⟩ | ⟨le,mr,i0,h1,h2,h3⟩
    · rw [h3] at hsp
      have:=hsp k a (gl ha) ha rfl;rw [ht] at this;cases this
    · have hb:le-m0<=m-m0∨le=m0:=by
        rcases h3 with ⟨_,_,h3⟩ | ⟨_,_,h3,h4⟩
        · exact .inr h3
        · rw [h3] at hsp
          obtain ⟨b,m',hb,_,hm,hmin⟩:=hsp;rw [h4] at hm;cases hm;have:=hmin k a m (gl ha) ha rfl ht;exact .inl (by omega)
      have e:uR A t f m0 wi a.2.1=bif decide (0<=le)&&decide (le-m0<=wi) then some (le-m0) else none:=by unfold uR;rw [h1]
      rcases hb with hb | hb
      · refine ⟨le-m0,hb,?_⟩
        rw [e,decide_eq_true h2,decide_eq_true (show le-m0<=wi by omega)];rfl
      · subst hb
        rcases h3 with ⟨_,h3,_⟩ | ⟨_,_,h3,h4⟩
        · refine ⟨0,?_,?_⟩
          · have:=hgt k m ht;omega
          · rw [e,decide_eq_true h2,Int.sub_self,decide_eq_true hw];rfl
        · rw [h3] at hsp
          obtain ⟨b,m',hb,_,hm,hmin⟩:=hsp;rw [h4] at hm;cases hm;have:=hmin k a m (gl ha) ha rfl ht;refine ⟨0,by omega,?_⟩;rw [e,decide_eq_true h2,Int.sub_self,decide_eq_true hw];rfl
theorem aRS {A:List Arc}{t:Nat->Option Int}{N:NetW}{m0:Int}(hT:Tab N m0 t) (hN:N.Ok 6000000000) (h0:0<=m0) (f g:Bys) : -1<=(aBS A t f g m0 A.length).1 /\ (aBS A t f g m0 A.length).1<=6000000000+m0:=by
  rcases aEi (A:=A) (fun i m e=>by have:=(hT.snd i m e).ge hN h0;omega) f g h0 with ⟨h1,_⟩ | ⟨le,mr,i0,h1,h2,⟨_,_,h3⟩ | ⟨_,_,_,h4⟩⟩
  · rw [h1];simp only;omega
  · rw [h1];simp only;omega
  · rw [h1];have:=(hT.snd _ _ h4).le hN h0;simp only;omega
theorem aR5 {os:List ObR}{prof f:Bys}{m0 wi:Int}{L:List LkR}(hw:¬ (wi<0∨10080<wi)) (hc:aEq (aAa os) prof m0 [f]=0) (hN:(aED prof (aAa os) f).Ok 6000000000) (hL:LksP os prof (asQ (aAa os)) L (asQ (aAa os)).length) {t:Nat->Option Int}(hT:Tab (aED prof (aAa os) f) m0 t):aGd prof (aAa os) f wi m0 0 (aCv (L.map (·.a)) t f m0 wi os os.length):=by
  obtain ⟨_,_,k0,_⟩:=aHv hc;rw [aIY hL];refine .inr (.inr ⟨hw,hc,rfl,t,uR (asQ (aAa os)) t f m0 wi,hT,aWB (fun i m e=>by have:=(hT.snd i m e).ge hN k0;omega) k0 (by omega) (fun i m e=>by have:=(hT.snd i m e).ge hN k0;omega),?_⟩);unfold aCv aPa aAa;rw [List.take_length,List.flatMap_map];rfl
abbrev A15 (Z:Ending->World->Prop):=AtO Tryz.prog (aAf Tryz.f15) (aAo (bodyPost Tryz.prog Tryz.f15 Z)) [] 92
theorem aJS {w:World}{v:Value}{os:List ObR}(hmv:aCq w v os) {prof f:Bys}(hp63:prof.length<=9223372036854775807) (hfew:aL7 os=true) (wi m0:Int):Calls Tryz.prog 15 #[.agg #[v],vS prof,vS f,vI wi,vI m0] w fun e w'=>∃ v1 c rows,e = .returned (.tuple #[v1,vI c]) /\ aGd prof (aAa os) f wi m0 c rows /\ Mm nF_ w w' [rw_ rwL 2 56 v1 rows]:=by
  have hok:=(aTs os▸fun a ha=>aFv (fun b hb=>(hmv.2 b hb).bnd) a (aCP ha):∀ a∈asQ (aAa os),ArcB a);have hol:=aG1 hfew;have hm0:=hmv;obtain ⟨hs0,hob⟩:=hm0;obtain ⟨p0,cp0,hp0,sp0⟩:=hs0.op;subst hp0;refine beg Tryz.func15 rfl rfl [(0,.agg #[vL p0 os.length cp0]),(1,vS prof),(2,vS f),(3,vI wi),(4,vI m0)] rfl rfl fun Z hZ=>?_;have hM:=Mm.nil nF_ w;refine aAp 0 0 5 [] (cs:=#[vL p0 os.length cp0]) (T:=24) (v:=fun b=>vP b 0) f0 hM fun aa w1 hM=>seg 1 3 [(21,vB (decide (wi<0)))] f0 ?_;cases ag:(decide (wi<0))
  rotate_left
  ·have ap:=dt ag;exact rt2 10 11 (vL none 0 0) (vI 1) rfl rfl f0 (hZ _ _ ⟨_,_,[],rfl,.inl ⟨by omega,rfl,rfl⟩,(hM.pick (M':=[]) []).row⟩)
  have ap:=df ag;refine seg 1 6 [(24,vB (decide (10080<wi)))] f0 ?_;cases ah:(decide (10080<wi))
  rotate_left
  ·have aq:=dt ah;exact rt2 10 11 (vL none 0 0) (vI 1) rfl rfl f0 (hZ _ _ ⟨_,_,[],rfl,.inl ⟨by omega,rfl,rfl⟩,(hM.pick (M':=[]) []).row⟩)
  have aq:=df ah;refine aAp 3 4 29 [(25,.agg #[vL p0 os.length cp0]),(26,vS prof),(27,vI m0),(28,vS f)] (cs:=#[vS f]) (T:=9) (v:=fun b=>vL (some ⟨b,0,none⟩) 1 1) (fc (lam 24 0 0 1 hM rfl) f0) hM fun ai w1 hM=>aAq 3 5 30 [] f0 hM (aEw (hmv.fr hM.fr) hp63 m0 (ids:=[f]) (aMe (f:=stL) (c:=1) (x:=f) (hM.get 1 rfl))) fun w1 hM=>seg 4 2 [(12,vI (aEq (aAa os) prof m0 [f])),(32,vB (!((aEq (aAa os) prof m0 [f])==0)))] f0 ?_;cases aj:((aEq (aAa os) prof m0 [f])==0)
  ·exact rt2 10 11 (vL none 0 0) (vI (aEq (aAa os) prof m0 [f])) rfl rfl f0 (hZ _ _ ⟨_,_,[],rfl,.inr (.inl ⟨by omega,ef aj,rfl,rfl⟩),(hM.pick (M':=[]) []).row⟩)
  have hc0:(aEq (aAa os) prof m0 [f])=0:=et aj;obtain ⟨hv,_,k0,k1,_,_⟩:=aHv hc0;have hNo:=aFF (prof:=prof) hok f;refine aAM 6 2 36 [(34,.agg #[vL p0 os.length cp0]),(35,vS prof)] (K:=fun u Mn=>∃ u1 L,u=u1 /\ LinksQ os prof L /\ Mn=[rw_ lkL 9 50 u1 L,aAD spL 2 141 (hbL L),aAD inL 1 3 (nbL L)]) [0,1] [] (fc (lam 24 0 0 1 hM rfl) f0) hM rfl rfl (by decide) (fun hm=>((aFY (hmv.fr hM.fr) hfew hv hok prof).mono fun e w8 ⟨v1,L,h1,h2,h3⟩=>⟨_,_,h1,⟨v1,L,rfl,h2,rfl⟩,aCy h3 fun _ h=>h.elim⟩)) fun u Mn w1 hK hM=>?_;obtain ⟨u1,L,rfl,hLQ,rfl⟩:=hK;obtain ⟨qL,cL,eL,sL⟩:=(hM.src (j:=2) rfl lkT.len).op;subst eL;have bL:=sL.bnd;replace hM:Mm nF_ w w1 [bk aa #[vL p0 os.length cp0] 24,bk ai #[vS f] 9,_,_,_]:=hM;have hLN:LkN (aED prof (aAa os) f) f L:=aSW hv hLQ.p;refine aAM 7 3 40 [(13,vL qL L.length cL),(37,vL qL L.length cL),(38,vS f),(39,vI m0)] (K:=fun u Mn=>∃ u1 t,u=u1 /\ Tab (aED prof (aAa os) f) m0 t /\ Mn=[rw_ inL 1 3 u1 (tbI L.length t)]) [0,1,2,3,4] [] f0 hM rfl rfl (by decide) (fun hm=>((aDI ((Src.p (n:=L.length) (hM.src (f:=lkL) (c:=9) (E:=50) (j:=2) (A:=L) rfl lkT.len)).2) (aPK (L:=L) hM (i:=3) (j:=4) rfl rfl) hLQ.tk (by have:=hLQ.len;omega) hNo hLN k0).mono fun e w8 ⟨v1,t,h1,h2,h3⟩=>⟨_,_,h1,⟨v1,t,rfl,h2,rfl⟩,aCy h3 fun _ h=>h.elim⟩)) fun u Mn w1 hK hM=>?_;obtain ⟨u1,t,rfl,hTab,rfl⟩:=hK;obtain ⟨qT,cT,eT,sT⟩:=(hM.src (j:=5) rfl inT.len).op;rw [aCm] at eT;subst eT;have hge:∀ i m,t i=some m->0<=m:=fun i m e=>by have:=(hTab.snd i m e).ge hNo k0;omega
  replace hM:Mm nF_ w w1 [bk aa #[vL p0 os.length cp0] 24,bk ai #[vS f] 9,_,_,_,_]:=hM;have hM:=hM.row (f:=rwL) (c:=2) (E:=56);have hM:=hM.pick [0,2,3,4,5,6];replace hM:Mm nF_ w _ [bk aa #[vL p0 os.length cp0] 24,_,_,_,_,_]:=hM;have hAl:(L.map (·.a)).length=L.length:=Gs_ ..;refine seg 10 0 [(14,vL qT L.length cT),(15,vL none 0 0),(16,vI 0)] f0 ?_
  have ar:∀ (ak:Nat) (i:Nat) (qr:Option Addr) (cr:Nat) (w2:World),i<=os.length->Mm nF_ w w2 [bk aa #[vL p0 os.length cp0] 24,rw_ lkL 9 50 (vL qL L.length cL) L,aAD spL 2 141 (hbL L),aAD inL 1 3 (nbL L),rw_ inL 1 3 (vL qT L.length cT) (tbI L.length t),rw_ rwL 2 56 (vL qr (aCv (L.map (·.a)) t f m0 wi os i).length cr) (aCv (L.map (·.a)) t f m0 wi os i)]->ak=os.length-i->A15 Z (some (10,0)) [(16,vI (i:Int)),(15,vL qr (aCv (L.map (·.a)) t f m0 wi os i).length cr),(14,vL qT L.length cT),(13,vL qL L.length cL),(5,vP aa 0),(2,vS f),(3,vI wi),(4,vI m0)] w2:=by
   refine aA8 fun ak ad i qr cr w2 hi hM ay=>seg 10 5 [(45,vB (decide ((i:Int)<(os.length:Int))))] (fc (ldm 22 0 0 hM rfl rfl) f0) ?_;cases al:(decide ((i:Int)<(os.length:Int)))
   ·have au:=df al;have hrc:=aR5 (wi:=wi) (by omega) hc0 hNo hLQ.p hTab;rw [show os.length=i by omega] at hrc;exact rt2 10 11 (vL qr (aCv (L.map (·.a)) t f m0 wi os i).length cr) (vI 0) rfl rfl f0 (hZ _ _ ⟨_,_,_,rfl,hrc,hM.pick [5]⟩)
   have au:=dt al;obtain ⟨y,hy,az,a0,ae,af⟩:=sp0.el (i:=i) (by omega);have hrl:=aJU (L.map (·.a)) t f m0 wi os i;refine seg 12 7 [(54,vB (!(y.o.kind==1)))] (fc (ldm 22 0 0 hM rfl rfl) (fc (ix 22 cp0 ae (gl hy)) (fc (ld0 3 hM (af 1 _ rfl)) f0))) ?_;cases ab:(y.o.kind==1)
   ·have av:=ef ab;refine seg 10 0 [(16,vI ((i:Int)+1))] (fc (aAe (i:Int) 1 u3_) f0) ?_;replace hM:Mm nF_ w _ [bk aa #[vL p0 os.length cp0] 24,_,_,_,_,_]:=hM;have e8:aOa (L.map (·.a)) t f m0 wi y.o=[]:=by unfold aOa;simp only [ab,Bool.and_false]<;>rfl
    have e9:(aCv (L.map (·.a)) t f m0 wi os i)=aCv (L.map (·.a)) t f m0 wi os (i+1):=by rw [aEX hy,e8];exact (List.append_nil _).symm
    rw [e9] at hM ⊢;exact aAb _ (ad _ (by have:=gl hy;omega) (i+1) qr cr _ (gl hy) hM rfl)
   have av:=et ab;refine aAq 13 10 66 [(56,vL qL L.length cL),(57,vL qT L.length cT),(58,vS f),(64,vS y.o.id),(65,vI m0)] (fc (ldm 22 0 0 hM rfl rfl) (fc (ix 22 cp0 ae (gl hy)) (fc (ld0 9 hM (af 0 _ rfl)) f0))) hM ((aE7 ((Src.p (n:=L.length) (hM.src (f:=lkL) (c:=9) (E:=50) (j:=1) (A:=L) rfl lkT.len)).2) (by have:=hLQ.len;omega) (aLY hM (j:=4) rfl) hge f y.o.id m0).mono fun e w8 ⟨h1,h2⟩=>⟨by rw [h1,show L.length=(L.map (·.a)).length from hAl.symm],h2⟩) fun w1 hM=>?_;have hnb:=aRS (A:=L.map (·.a)) hTab hNo k0 f y.o.id;refine seg 14 3 [(17,vI (aBS (L.map (·.a)) t f y.o.id m0 (L.map (·.a)).length).1),(71,vB (decide (0<=(aBS (L.map (·.a)) t f y.o.id m0 (L.map (·.a)).length).1)))] f0 ?_;cases ac:(decide (0<=(aBS (L.map (·.a)) t f y.o.id m0 (L.map (·.a)).length).1))
   ·have aw:=df ac;refine seg 10 0 [(16,vI ((i:Int)+1))] (fc (aAe (i:Int) 1 u3_) f0) ?_;replace hM:Mm nF_ w _ [bk aa #[vL p0 os.length cp0] 24,_,_,_,_,_]:=hM;have e8:aOa (L.map (·.a)) t f m0 wi y.o=[]:=by unfold aOa uR;simp only [ab,ac]<;>rfl
    have e9:(aCv (L.map (·.a)) t f m0 wi os i)=aCv (L.map (·.a)) t f m0 wi os (i+1):=by rw [aEX hy,e8];exact (List.append_nil _).symm
    rw [e9] at hM ⊢;exact aAb _ (ad _ (by have:=gl hy;omega) (i+1) qr cr _ (gl hy) hM rfl)
   have aw:=dt ac;refine seg 14 9 [(77,vB (decide (((aBS (L.map (·.a)) t f y.o.id m0 (L.map (·.a)).length).1-m0)<=wi)))] (fc (aBx (aBS (L.map (·.a)) t f y.o.id m0 (L.map (·.a)).length).1 m0 u3_) f0) ?_;cases am:(decide (((aBS (L.map (·.a)) t f y.o.id m0 (L.map (·.a)).length).1-m0)<=wi))
   ·refine seg 10 0 [(16,vI ((i:Int)+1))] (fc (aAe (i:Int) 1 u3_) f0) ?_;replace hM:Mm nF_ w _ [bk aa #[vL p0 os.length cp0] 24,_,_,_,_,_]:=hM;have e8:aOa (L.map (·.a)) t f m0 wi y.o=[]:=by unfold aOa uR;simp only [ab,ac,am]<;>rfl
    have e9:(aCv (L.map (·.a)) t f m0 wi os i)=aCv (L.map (·.a)) t f m0 wi os (i+1):=by rw [aEX hy,e8];exact (List.append_nil _).symm
    rw [e9] at hM ⊢;exact aAb _ (ad _ (by have:=gl hy;omega) (i+1) qr cr _ (gl hy) hM rfl)
   refine aAp 15 11 89 [(78,vL qr (aCv (L.map (·.a)) t f m0 wi os i).length cr),(88,.agg #[vS y.o.id,vI ((aBS (L.map (·.a)) t f y.o.id m0 (L.map (·.a)).length).1-m0)])] (cs:=#[vS y.o.id,vI ((aBS (L.map (·.a)) t f y.o.id m0 (L.map (·.a)).length).1-m0)]) (T:=56) (v:=fun b=>vL (some ⟨b,0,none⟩) 1 1) (fc (ldm 22 0 0 hM rfl rfl) (fc (ix 22 cp0 ae (gl hy)) (fc (ld0 9 hM (af 0 _ rfl)) (fc (aBx (aBS (L.map (·.a)) t f y.o.id m0 (L.map (·.a)).length).1 m0 u3_) f0)))) hM fun a1 w1 hM=>aH5 15 12 90 [] (cap:=1) (by decide) rwT f0 hM (j:=5) rfl (aAG (f:=rwL) (x:=(y.o.id,((aBS (L.map (·.a)) t f y.o.id m0 (L.map (·.a)).length).1-m0))) (hM.get 6 rfl) (Gq_ _)) (fun h=>by cases h) (by simp only [Gf_,Go_];omega) fun a2 w1 hM=>?_;obtain ⟨an,ao,ax,-⟩:=(hM.src (j:=5) rfl rwT.len).op;subst ax;refine seg 10 0 [(15,vL an ((aCv (L.map (·.a)) t f m0 wi os i)++[(y.o.id,((aBS (L.map (·.a)) t f y.o.id m0 (L.map (·.a)).length).1-m0))]).length ao),(16,vI ((i:Int)+1))] (fc (aAe (i:Int) 1 u3_) f0) ?_;have hM:=hM.pick [0,1,2,3,4,5];replace hM:Mm nF_ w _ [bk aa #[vL p0 os.length cp0] 24,_,_,_,_,_]:=hM;have e8:aOa (L.map (·.a)) t f m0 wi y.o=[(y.o.id,(aBS (L.map (·.a)) t f y.o.id m0 (L.map (·.a)).length).1-m0)]:=by unfold aOa uR;simp only [ab,ac,am]<;>rfl
   have e9:((aCv (L.map (·.a)) t f m0 wi os i)++[(y.o.id,((aBS (L.map (·.a)) t f y.o.id m0 (L.map (·.a)).length).1-m0))])=aCv (L.map (·.a)) t f m0 wi os (i+1):=by rw [aEX hy,e8]
   rw [e9] at hM ⊢;exact aAb _ (ad _ (by have:=gl hy;omega) (i+1) an ao _ (gl hy) hM rfl)
  exact aAb _ (ar _ 0 none 0 _ (Gg_ _) hM rfl)
section
variable {l:List Ob}{prof f g:Bys}{m0 c c' wi:Int}{nd nd':List Bys}{mi mi':List Int}
theorem aNh (hok:∀ a∈asQ l,ArcB a) (h:aGl prof l f g m0 c nd mi) (h':aGl prof l f g m0 c' nd' mi'):c=c' /\ nd=nd' /\ mi=mi':=by
 rcases h with ⟨a1,rfl,rfl,rfl⟩ | ⟨a1,a2,rfl,rfl,rfl⟩ | ⟨a1,a2,t,a3,a4⟩<;>rcases h' with ⟨b1,rfl,rfl,rfl⟩ | ⟨b1,b2,rfl,rfl,rfl⟩ | ⟨b1,b2,t',b3,b4⟩
 ·exact ⟨rfl,rfl,rfl⟩
 ·exact absurd b1 a1
 ·exact absurd b1 a1
 ·exact absurd a1 b1
 ·exact ⟨rfl,rfl,rfl⟩
 ·exact absurd a2 b2
 ·exact absurd a1 b1
 ·exact absurd b2 a2
 ·obtain ⟨_,_,k0,_⟩:=aHv a1;obtain rfl:=Tab.uniq (aFF (prof:=prof) hok f) k0 a3 b3;rcases a4 with ⟨a5,rfl,rfl,rfl⟩ | ⟨i,a5,rfl,rfl,rfl⟩<;>rcases b4 with ⟨b5,rfl,rfl,rfl⟩ | ⟨j,b5,rfl,rfl,rfl⟩
  ·exact ⟨rfl,rfl,rfl⟩
  ·rw [a5] at b5;cases b5
  ·rw [a5] at b5;cases b5
  ·rw [a5] at b5;cases b5;exact ⟨rfl,rfl,rfl⟩
theorem aKp {A:List Arc}{t:Nat->Option Int}{u u':Bys->Option Int}(h:FirstOk A t f m0 wi (fun _=>True) u) (h':FirstOk A t f m0 wi (fun _=>True) u'):u=u':=by
 have key:∀ {u u':Bys->Option Int},FirstOk A t f m0 wi (fun _=>True) u->FirstOk A t f m0 wi (fun _=>True) u'->∀ {s d},s≠f->u s=some d->∃ d',d'<=d /\ u' s=some d':=fun {u u'} h h' {s d} hs hu=>by
  obtain ⟨k,m,a,h1,h2,rfl,rfl,h4⟩:=h.snd s d hs hu;exact h'.cmp k m a trivial h1 h2 h4
 funext s
 by_cases hs:s=f
 ·subst hs;rw [h.own,h'.own]
 ·cases hu:u s with
  | none =>
   cases hu':u' s with
   | none=>rfl
   | some d =>
    obtain ⟨d',_,h9⟩:=key h' h hs hu';rw [hu] at h9;cases h9
  | some d =>
   obtain ⟨d',h1,h2⟩:=key h h' hs hu;obtain ⟨d2,h3,h4⟩:=key h' h hs h2;rw [hu] at h4;cases h4;rw [h2];congr 1;omega
theorem aLi (hok:∀ a∈asQ l,ArcB a) {rows rows':List (Bys×Int)}(h:aGd prof l f wi m0 c rows) (h':aGd prof l f wi m0 c' rows'):c=c' /\ rows=rows':=by
 rcases h with ⟨a1,rfl,rfl⟩ | ⟨a1,a2,rfl,rfl⟩ | ⟨a1,a2,rfl,t,u,a3,a4,rfl⟩<;>rcases h' with ⟨b1,rfl,rfl⟩ | ⟨b1,b2,rfl,rfl⟩ | ⟨b1,b2,rfl,t',u',b3,b4,rfl⟩
 ·exact ⟨rfl,rfl⟩
 ·exact absurd a1 b1
 ·exact absurd a1 b1
 ·exact absurd b1 a1
 ·exact ⟨rfl,rfl⟩
 ·exact absurd b2 a2
 ·exact absurd b1 a1
 ·exact absurd a2 b2
 ·obtain ⟨_,_,k0,_⟩:=aHv a2;obtain rfl:=Tab.uniq (aFF (prof:=prof) hok f) k0 a3 b3;rw [aKp a4 b4];exact ⟨rfl,rfl⟩
end
theorem aIV {w:World}{v:Value}{os:List ObR}(hmv:aCq w v os) {prof f g:Bys}(hp63:prof.length<=9223372036854775807) (hf63:B63 f) (hTe:Te w) (wi m0:Int):Calls Tryz.prog 3 #[.agg #[v],vS prof,vS f,vS g,vI wi,vI m0] w fun e w'=>e = .returned (vB true) /\ Fr nF_ w w':=by
  obtain ⟨p0,c0,e0,s0⟩:=hmv.1.op;subst e0;have hok:=(aTs os▸fun a ha=>aFv (fun b hb=>(hmv.2 b hb).bnd) a (aCP ha):∀ a∈asQ (aAa os),ArcB a);refine beg Tryz.func3 rfl rfl [(0,.agg #[vL p0 os.length c0]),(1,vS prof),(2,vS f),(3,vS g),(4,vI wi),(5,vI m0)] rfl rfl fun Z hZ=>?_;have hM:=Mm.nil nF_ w;refine aAp 0 0 6 [] (cs:=#[vL p0 os.length c0]) (T:=24) (v:=fun b=>vP b 0) f0 hM fun ac w1 hM=>aAq 1 0 22 [] f0 hM (aNH (hTe.fr hM.fr)) fun w1 hM=>aAq 2 1 24 [(13,vB true),(23,.agg #[vL p0 os.length c0])] (fc (lam 24 0 0 1 hM rfl) f0) hM (aQb (hmv.fr hM.fr)) fun w1 hM=>seg 2 4 [(26,vB (!(aL7 os)))] f0 ?_;cases ab:(aL7 os)
  ·exact rt1 12 (vB true) rfl f0 (hZ _ _ ⟨rfl,hM.fr⟩)
  refine aAp 2 7 30 [(27,vS prof),(28,vS f),(29,vS g)] (cs:=#[vS prof,vS f,vS g]) (T:=9) (v:=fun b=>vL (some ⟨b,0,none⟩) 3 3) f0 hM fun aa w1 hM=>aAq 2 8 31 [] f0 hM (aKX (aB4 (f:=stL) (c:=1) (b:=aa) (hM.get 1 (e:=bk aa #[vS prof,vS f,vS g] 9) rfl) [prof,f,g] 3 (fun _=>rfl) rfl rfl).src) fun w1 hM=>seg 2 11 [(33,vB (!(aGF [prof,f,g])))] f0 ?_;cases ah:(aGF [prof,f,g])
  ·exact rt1 12 (vB true) rfl f0 (hZ _ _ ⟨rfl,hM.fr⟩)
  refine aAM 4 5 41 [(36,.agg #[vL p0 os.length c0]),(37,vS prof),(38,vS f),(39,vS g),(40,vI m0)] (K:=fun u Mn=>∃ u1 u2 c nd mi,u = .tuple #[.agg #[u1,u2],vI c] /\ aQA prof os f g m0 c nd mi /\ Mn=[rw_ stL 1 9 u1 nd,rw_ inL 1 3 u2 mi]) [0,1] [] (fc (lam 24 0 0 1 hM rfl) f0) hM rfl rfl (by decide) (fun hm=>((aCV (hmv.fr hM.fr) hp63 hf63 (fun h=>aHl ab h) (hTe.fr hM.fr) m0).mono fun e w8 ⟨v1,v2,c,nd,mi,h1,h2,h3⟩=>⟨_,_,h1,⟨v1,v2,c,nd,mi,rfl,h2,rfl⟩,aCy h3 fun _ h=>h.elim⟩)) fun u Mn w1 hK hM=>?_;obtain ⟨u1,u2,c,nd,mi,rfl,hR,rfl⟩:=hK;obtain ⟨qm,cm,em,sm⟩:=(hM.src (j:=3) rfl inT.len).op;subst em;obtain ⟨qn,cn,en,sn⟩:=(hM.src (j:=2) rfl stT.len).op;subst en;replace hM:Mm nF_ w w1 [bk ac #[vL p0 os.length c0] 24,bk aa #[vS prof,vS f,vS g] 9,_,_]:=hM;refine aCl 4 9 14 [(42,.agg #[vL qn nd.length cn,vL qm mi.length cm]),(43,vI c)] [] 31 (.agg #[vL qn nd.length cn,vL qm mi.length cm]) f0 hM fun ad w1 hM=>aAM 5 5 50 [(15,vI c),(45,.agg #[vL p0 os.length c0]),(46,vS prof),(47,vS f),(48,vS g),(49,vI m0)] (K:=fun u Mn=>∃ u1 u2 c2 nd2 mi2,u = .tuple #[.agg #[u1,u2],vI c2] /\ aGl prof (aAa os) f g m0 c2 nd2 mi2 /\ Mn=[rw_ stL 1 9 u1 nd2,rw_ inL 1 3 u2 mi2]) [0,1,2,3,4] [] (fc (lam 24 0 0 1 hM rfl) f0) hM rfl rfl (by decide) (fun hm=>((aLc (hmv.fr hM.fr) (f:=f) (g:=g) hp63 ab m0).mono fun e w8 ⟨v1,v2,c,nd,mi,h1,h2,h3⟩=>⟨_,_,h1,⟨v1,v2,c,nd,mi,rfl,h2,rfl⟩,aCy h3 fun _ h=>h.elim⟩)) fun u Mn w1 hK hM=>?_;obtain ⟨u1,u2,c2,nd2,mi2,rfl,hR2,rfl⟩:=hK;obtain ⟨rfl,rfl,rfl⟩:=aNh hok (aO0 hR) hR2;obtain ⟨qm2,cm2,em2,sm2⟩:=(hM.src (j:=6) rfl inT.len).op;subst em2;obtain ⟨qn2,cn2,en2,sn2⟩:=(hM.src (j:=5) rfl stT.len).op;subst en2;replace hM:Mm nF_ w w1 [bk ac #[vL p0 os.length c0] 24,bk aa #[vS prof,vS f,vS g] 9,_,_,bk ad #[vL qn nd.length cn,vL qm mi.length cm] 31,_,_]:=hM;refine aCl 5 9 16 [(51,.agg #[vL qn2 nd.length cn2,vL qm2 mi.length cm2]),(52,vI c)] [] 31 (.agg #[vL qn2 nd.length cn2,vL qm2 mi.length cm2]) f0 hM fun ae w1 hM=>aAM 6 5 59 [(17,vI c),(54,.agg #[vL p0 os.length c0]),(55,vS prof),(56,vS f),(57,vI wi),(58,vI m0)] (K:=fun u Mn=>∃ v1 d1 rows,u = .tuple #[v1,vI d1] /\ aKA prof os f wi m0 d1 rows /\ Mn=[rw_ rwL 2 56 v1 rows]) [0,1,2,3,4,5,6,7] [] (fc (lam 24 0 0 1 hM rfl) f0) hM rfl rfl (by decide) (fun hm=>((aGR (hmv.fr hM.fr) hp63 hf63 (fun h=>aHl ab h) (by have:=aG1 ab;omega) (hTe.fr hM.fr) wi m0).mono fun e w8 ⟨v1,c,rows,h1,h2,h3⟩=>⟨_,_,h1,⟨v1,c,rows,rfl,h2,rfl⟩,aCy h3 fun _ h=>h.elim⟩)) fun u Mn w1 hK hM=>?_;obtain ⟨v1,d1,rows,rfl,hQ1,rfl⟩:=hK;obtain ⟨qr1,cr1,er1,sr1⟩:=(hM.src (j:=8) rfl rwT.len).op;subst er1;replace hM:Mm nF_ w w1 [bk ac #[vL p0 os.length c0] 24,bk aa #[vS prof,vS f,vS g] 9,_,_,bk ad #[vL qn nd.length cn,vL qm mi.length cm] 31,_,_,bk ae #[vL qn2 nd.length cn2,vL qm2 mi.length cm2] 31,_]:=hM;refine aAM 7 5 68 [(18,vL qr1 rows.length cr1),(19,vI d1),(63,.agg #[vL p0 os.length c0]),(64,vS prof),(65,vS f),(66,vI wi),(67,vI m0)] (K:=fun u Mn=>∃ v1 d2 rows2,u = .tuple #[v1,vI d2] /\ aGd prof (aAa os) f wi m0 d2 rows2 /\ Mn=[rw_ rwL 2 56 v1 rows2]) [0,1,2,3,4,5,6,7,8] [] (fc (lam 24 0 0 1 hM rfl) f0) hM rfl rfl (by decide) (fun hm=>((aJS (hmv.fr hM.fr) (f:=f) hp63 ab wi m0).mono fun e w8 ⟨v1,c,rows,h1,h2,h3⟩=>⟨_,_,h1,⟨v1,c,rows,rfl,h2,rfl⟩,aCy h3 fun _ h=>h.elim⟩)) fun u Mn w1 hK hM=>?_;obtain ⟨v1,d2,rows2,rfl,hQ2,rfl⟩:=hK;obtain ⟨rfl,rfl⟩:=aLi hok (aMq hQ1) hQ2;obtain ⟨qr2,cr2,er2,sr2⟩:=(hM.src (j:=9) rfl rwT.len).op;subst er2;replace hM:Mm nF_ w w1 [bk ac #[vL p0 os.length c0] 24,bk aa #[vS prof,vS f,vS g] 9,_,_,bk ad #[vL qn nd.length cn,vL qm mi.length cm] 31,_,_,bk ae #[vL qn2 nd.length cn2,vL qm2 mi.length cm2] 31,_,_]:=hM;refine seg 8 7 [(20,vL qr2 rows.length cr2),(21,vI d1),(77,vB (c==c))] f0 ?_;cases af:(c==c)
  ·exact absurd rfl (ef af)
  refine aAq 8 9 80 [(78,.agg #[vL qn nd.length cn,vL qm mi.length cm]),(79,.agg #[vL qn2 nd.length cn2,vL qm2 mi.length cm2])] (fc (lam 31 4 0 2 hM rfl) (fc (lam 31 7 0 2 hM rfl) f0)) hM (aI5 rfl rfl rfl rfl ((hM.src (j:=2) rfl stT.len).p).2 ((hM.src (j:=3) rfl inT.len).p).2 ((hM.src (j:=5) rfl stT.len).p).2 ((hM.src (j:=6) rfl inT.len).p).2) fun w1 hM=>seg 8 17 [(87,vB (d1==d1))] f0 ?_;cases ag:(d1==d1)
  ·exact absurd rfl (ef ag)
  refine aAq 8 19 90 [(88,vL qr1 rows.length cr1),(89,vL qr2 rows.length cr2)] f0 hM (aOZ rfl rfl ((hM.src (j:=8) rfl rwT.len).p).2 ((hM.src (j:=9) rfl rwT.len).p).2) fun w1 hM=>rt1 12 (vB true) rfl f0 (hZ _ _ ⟨rfl,hM.fr⟩)
open Go.ChangeShapes Go.WideShapes
section
variable {H:Type}{enc:TypeId×Value->H}{W:World}{sp:Nat->Bool}{held:Bool}{n:Nat}{cs:List Value}{x:DataW H×List MemPlace}
theorem aII {α:Type}(dflt:α) (f:α->List Value) (c:Nat) {T E:TypeId}(hT:Tryz.prog.underlying T=some (.slice E)) (hc:Tryz.prog.cellsOf E=c) (hlen:∀ a,(f a).length=c) (hc0:0<c) (Q:α->Prop) (hel:∀ m cs x,DataW.trod enc Tryz.prog W 0 sp held m E cs=some x->∃ a,cs=f a /\ Q a)
  (h:DataW.trod enc Tryz.prog W 0 sp held n T cs=some x):∃ (l:List α) (p:Option Addr) (cap:Nat),cs=[.slice p l.length cap] /\ SrcP f c W p cap l /\ ∀ a∈l,Q a:=by
 rcases Deep.open_slice hT h with ⟨rfl,_⟩ | ⟨a,len,cap,m,n,D,Pl,rfl,_,hl,hm,hmm,_,hx⟩
 ·exact ⟨[],none,0,rfl,⟨Gl_ _,Gg_ _,.inl rfl,fun _=>rfl⟩,fun _ h=>(by cases h)⟩
 ·rw [hc] at hx;have hlm:len<=m:=by rw [hmm];split<;>omega
  have hall:∀ i,i<len->∃ s:α,(∀ j,j<c->W.cell? ((a.add (i*c)).add j)=(f s)[j]?) /\ Q s:=fun i hi=>by
   obtain ⟨cs',h1,h2⟩:=hx i (by omega);obtain ⟨_,_,h3⟩:=World.cells?_some h1;obtain ⟨s,rfl,hq⟩:=hel _ _ _ h2;exact ⟨s,fun j hj=>by rw [h3 j hj],hq⟩
  haveI:Inhabited α:=⟨dflt⟩
  obtain ⟨g,hg⟩:=Deep.choose_lt hall;refine ⟨(List.range len).map g,some a,cap,by simp,⟨by simpa using hl,hm,?_,fun h=>by cases h⟩,fun s hs=>?_⟩
  ·rcases Nat.eq_zero_or_pos len with h0 | h0
   ·left;rw [h0];rfl
   ·right
    have hspot:a=⟨a.block,a.off,none⟩ /\ a.block<W.heap.size:=by
     have:=(hg 0 h0).1 0 hc0;rw [Nat.zero_mul] at this;have e0:(a.add 0).add 0=a:=by simp [Addr.add]
     rw [e0] at this;obtain ⟨v0,hv0⟩:∃ v,(f (g 0))[0]?=some v:=⟨_,Gb_ (by rw [hlen];exact hc0)⟩;rw [hv0] at this;refine ⟨?_,World.block_lt_of_cell? W a this⟩
     cases a with
     | mk b o s =>
      cases s with
      | none=>rfl
      | some k =>
       unfold World.cell? at this
       split at this<;>simp at this
    refine ⟨a.block,a.off,by rw [←hspot.1],hspot.2,fun i s hs j v hv=>?_⟩;rw [Gu_] at hs
    have hi:i<len:=by
     cases h:(List.range len)[i]? with
     | none=>rw [h] at hs;cases hs
     | some x=>have:=(List.getElem?_eq_some_iff.1 h).1;simpa using this
    rw [List.getElem?_range hi] at hs;simp at hs;subst hs
    have hj:j<c:=by
     have:=(List.getElem?_eq_some_iff.1 hv).1;rw [hlen] at this;exact this
    have:=(hg i hi).1 j hj
    have e:((⟨a.block,a.off,none⟩:Addr).add (i*c)).add j=⟨a.block,a.off+i*c+j,none⟩:=by
     unfold Addr.add
     by_cases h1:i*c=0<;>by_cases h2:j=0<;>simp [h1,h2,Nat.add_assoc]
    rw [hv,hspot.1,e] at this;exact this
  ·obtain ⟨i,hi,rfl⟩:=List.mem_map.1 hs;exact (hg i (List.mem_range.1 hi)).2
set_option maxRecDepth 100000 in
theorem aGp (h:DataW.trod enc Tryz.prog W 0 sp held n 9 cs=some x):∃ s:Bys,cs=stL s /\ B63 s:=by
 obtain ⟨s,rfl,_,hs⟩:=DataW.trod_string u9_ h;obtain ⟨l,rfl⟩:=aEo s;rw [aBl] at hs;exact ⟨l,rfl,by unfold maxLen at hs;unfold B63;omega⟩
set_option maxRecDepth 100000 in
theorem aIJ (h:DataW.trod enc Tryz.prog W 0 sp held n 3 cs=some x):∃ m:Int,cs=[vI m]:=by
 obtain ⟨m,rfl,_⟩:=DataW.trod_int u3_ h;exact ⟨m,rfl⟩
set_option maxRecDepth 100000 in
theorem aRI (h:DataW.trod enc Tryz.prog W 0 sp held n 106 cs=some x):∃ t:Tag,cs=tgL t /\ (B63 t.1 /\ B63 t.2):=by
 obtain ⟨xs,m,_,_,hl,hlen,hf⟩:=DataW.trod_struct Tryz.underlying106 h;rw [show Tryz.prog.cellsOf 106=2 by kernel_rfl] at hl
 match cs,hl with
 | [c0,c1],_ =>
 obtain ⟨y0,e0⟩:∃ y,xs[0]?=some y:=⟨_,Gb_ (by rw [hlen];simp)⟩;obtain ⟨y1,e1⟩:∃ y,xs[1]?=some y:=⟨_,Gb_ (by rw [hlen];simp)⟩;have h0:DataW.trod enc Tryz.prog W 0 sp held m 9 (List.take (Tryz.prog.cellsOf 9) (List.drop 0 [c0,c1]))=some y0:=(hf 0 _ rfl).trans e0;have h1:DataW.trod enc Tryz.prog W 0 sp held m 9 (List.take (Tryz.prog.cellsOf 9) (List.drop 1 [c0,c1]))=some y1:=(hf 1 _ rfl).trans e1;rw [show Tryz.prog.cellsOf 9=1 by kernel_rfl] at h0 h1;obtain ⟨s0,g0,b0⟩:=aGp h0;obtain ⟨s1,g1,b1⟩:=aGp h1;have g0:[c0]=[vS s0]:=g0;have g1:[c1]=[vS s1]:=g1;cases g0;cases g1;exact ⟨(s0,s1),rfl,b0,b1⟩
set_option maxRecDepth 100000 in
theorem aUl (h:DataW.trod enc Tryz.prog W 0 sp held n 61 cs=some x):∃ a b:Int,cs=[vI a,vI b]:=by
 obtain ⟨xs,m,_,_,hl,hlen,hf⟩:=DataW.trod_struct Tryz.underlying61 h;rw [show Tryz.prog.cellsOf 61=2 by kernel_rfl] at hl
 match cs,hl with
 | [c0,c1],_ =>
 obtain ⟨y0,e0⟩:∃ y,xs[0]?=some y:=⟨_,Gb_ (by rw [hlen];simp)⟩;obtain ⟨y1,e1⟩:∃ y,xs[1]?=some y:=⟨_,Gb_ (by rw [hlen];simp)⟩;have h0:DataW.trod enc Tryz.prog W 0 sp held m 3 (List.take (Tryz.prog.cellsOf 3) (List.drop 0 [c0,c1]))=some y0:=(hf 0 _ rfl).trans e0;have h1:DataW.trod enc Tryz.prog W 0 sp held m 3 (List.take (Tryz.prog.cellsOf 3) (List.drop 1 [c0,c1]))=some y1:=(hf 1 _ rfl).trans e1;rw [show Tryz.prog.cellsOf 3=1 by kernel_rfl] at h0 h1;obtain ⟨s0,g0⟩:=aIJ h0;obtain ⟨s1,g1⟩:=aIJ h1;have g0:[c0]=[vI s0]:=g0;have g1:[c1]=[vI s1]:=g1;cases g0;cases g1;exact ⟨s0,s1,rfl⟩
set_option maxRecDepth 100000 in
theorem aUm (h:DataW.trod enc Tryz.prog W 0 sp held n 64 cs=some x):∃ b:ObR,cs=obL b /\ ObIn W b:=by
 obtain ⟨xs,m,_,_,hl,hlen,hf⟩:=DataW.trod_struct Tryz.underlying64 h;rw [show Tryz.prog.cellsOf 64=6 by kernel_rfl] at hl
 match cs,hl with
 | [c0,c1,c2,c3,c4,c5],_ =>
 obtain ⟨y0,e0⟩:∃ y,xs[0]?=some y:=⟨_,Gb_ (by rw [hlen];simp)⟩;obtain ⟨y1,e1⟩:∃ y,xs[1]?=some y:=⟨_,Gb_ (by rw [hlen];simp)⟩;obtain ⟨y2,e2⟩:∃ y,xs[2]?=some y:=⟨_,Gb_ (by rw [hlen];simp)⟩;obtain ⟨y3,e3⟩:∃ y,xs[3]?=some y:=⟨_,Gb_ (by rw [hlen];simp)⟩;obtain ⟨y4,e4⟩:∃ y,xs[4]?=some y:=⟨_,Gb_ (by rw [hlen];simp)⟩;have h0:DataW.trod enc Tryz.prog W 0 sp held m 9 (List.take (Tryz.prog.cellsOf 9) (List.drop 0 [c0,c1,c2,c3,c4,c5]))=some y0:=(hf 0 _ rfl).trans e0;have h1:DataW.trod enc Tryz.prog W 0 sp held m 3 (List.take (Tryz.prog.cellsOf 3) (List.drop 1 [c0,c1,c2,c3,c4,c5]))=some y1:=(hf 1 _ rfl).trans e1;have h2:DataW.trod enc Tryz.prog W 0 sp held m 61 (List.take (Tryz.prog.cellsOf 61) (List.drop 2 [c0,c1,c2,c3,c4,c5]))=some y2:=(hf 2 _ rfl).trans e2;have h3:DataW.trod enc Tryz.prog W 0 sp held m 28 (List.take (Tryz.prog.cellsOf 28) (List.drop 4 [c0,c1,c2,c3,c4,c5]))=some y3:=(hf 3 _ rfl).trans e3;have h4:DataW.trod enc Tryz.prog W 0 sp held m 62 (List.take (Tryz.prog.cellsOf 62) (List.drop 5 [c0,c1,c2,c3,c4,c5]))=some y4:=(hf 4 _ rfl).trans e4;rw [show Tryz.prog.cellsOf 9=1 by kernel_rfl] at h0;rw [show Tryz.prog.cellsOf 3=1 by kernel_rfl] at h1;rw [show Tryz.prog.cellsOf 61=2 by kernel_rfl] at h2;rw [show Tryz.prog.cellsOf 28=1 by kernel_rfl] at h3;rw [show Tryz.prog.cellsOf 62=1 by kernel_rfl] at h4;obtain ⟨s0,g0,b0⟩:=aGp h0;obtain ⟨s1,g1⟩:=aIJ h1;obtain ⟨s2,s3,g2⟩:=aUl h2;obtain ⟨rs,pr,cr,g3,k3,b3⟩:=aII [] stL 1 Tryz.underlying28 (by kernel_rfl) (fun _=>rfl) (by decide) B63 (fun _ _ _ h=>aGp h) h3;obtain ⟨ts,pt,ct,g4,k4,b4⟩:=aII ([],[]) tgL 2 Tryz.underlying62 (by kernel_rfl) (fun _=>rfl) (by decide) (fun t=>B63 t.1 /\ B63 t.2) (fun _ _ _ h=>aRI h) h4;have g0:[c0]=[vS s0]:=g0;have g1:[c1]=[vI s1]:=g1;have g2:[c2,c3]=[vI s2,vI s3]:=g2;have g3:[c4]=[vL pr rs.length cr]:=g3;have g4:[c5]=[vL pt ts.length ct]:=g4;cases g0;cases g1;cases g2;cases g3;cases g4;exact ⟨⟨⟨s0,s1,s2,s3,rs,ts⟩,pr,cr,pt,ct⟩,rfl,k3,k4,b0,b3,b4⟩
set_option maxRecDepth 100000 in
theorem aRJ (h:DataW.trod enc Tryz.prog W 0 sp held n 24 cs=some x):∃ (os:List ObR) (v:Value),cs=[v] /\ aCq W v os:=by
 obtain ⟨xs,m,_,_,hl,hlen,hf⟩:=DataW.trod_struct Tryz.underlying24 h;rw [show Tryz.prog.cellsOf 24=1 by kernel_rfl] at hl
 match cs,hl with
 | [c0],_ =>
 obtain ⟨y0,e0⟩:∃ y,xs[0]?=some y:=⟨_,Gb_ (by rw [hlen];simp)⟩;have h0:DataW.trod enc Tryz.prog W 0 sp held m 22 (List.take (Tryz.prog.cellsOf 22) (List.drop 0 [c0]))=some y0:=(hf 0 _ rfl).trans e0;rw [show Tryz.prog.cellsOf 22=1 by kernel_rfl] at h0;obtain ⟨os,p,cap,g0,k0,b0⟩:=aII ⟨⟨[],0,0,0,[],[]⟩,none,0,none,0⟩ obL 6 Tryz.underlying22 (by kernel_rfl) (fun _=>rfl) (by decide) (ObIn W) (fun _ _ _ h=>aUm h) h0;have g0:[c0]=[vL p os.length cap]:=g0;cases g0;exact ⟨os,_,rfl,k0.src,b0⟩
end
end Go.Proofs.YtbflfefahheidaaGreatDoor
namespace Go.Pl
open Go.RowKit Go.ChangeShapes Go.WideShapes
theorem aER {H:Type}{enc:TypeId×Value->H}{P:Program}(hl:laidOutB P=true) {W W':World}(hb:Below W.heap.size W W') :
  ∀ (ts:List TypeId) (vs:List Value) (ds:List (DataW H)) (ps:List MemPlace),(∀ t∈ts,P.readableRec t=true /\ t<P.types.size)->DataW.TrodAll enc P W 0 (fun _=>true) true ts vs ds ps->(∀ x∈ps,x.block<W.heap.size) ->
   DataW.TrodAll enc P W' 0 (fun b=>decide (b<W.heap.size)) true ts vs ds ps
 | [],[],[],ps,_,h,_=>h
 | t::ts,v::vs,d::ds,ps,hr,h,hlt=>by
  obtain ⟨p,q,h1,h2,rfl⟩:=h
  exact ⟨p,q,Below.trod hl (hr t (by simp)).1 (hr t (by simp)).2 h1 hb (fun x hx=>hlt x (by simp [hx])),
   aER hl hb ts vs ds q (fun t ht=>hr t (by simp [ht])) h2 (fun x hx=>hlt x (by simp [hx])),rfl⟩
 | [],[],_::_,_,_,h,_=>h.elim
 | [],_::_,_,_,_,h,_=>by cases h
 | _::_,[],_,_,_,h,_=>by cases h
 | _::_,_::_,[],_,_,h,_=>h.elim
theorem aSb {H:Type}{enc:TypeId×Value->H}{P:Program}(hl:laidOutB P=true) {fn:Func}{s:ChangeSpec}{apart fresh handsOn:Bool}{W W':World}{args:Array Value}{ds gs:List (DataW H)}{before:List MemPlace}
  (hread:∀ t∈fn.params.toList,P.readableRec t=true /\ t<P.types.size) {tb:TypeId}(hres:fn.resultTypes=#[tb]) (htb:P.underlying tb=some .bool) (hvars:s.vars=[])
  (hs:s.fn H (ds++gs)={ results:=[.lit (.bool true)],args:=ds }) (hW:DataW.Whole enc P fn.params.toList s.vars apart W args.toList ds gs before) (hb:Below W.heap.size W W') :
  s.post enc P fn apart fresh handsOn false W args (.bool true) W':=by
 have hlt:=hW.lt;have hW0:=hW;obtain ⟨p,q,hA,hV,hpq,_,_⟩:=hW;refine ⟨ds,gs,before,[],p,[],hW0,?_,?_,?_,hb.frame _,fun h=>by cases h⟩
 ·rw [hs,hres];exact trodAll_mk1 (shut_bool htb _)
 ·rw [hs];exact aER hl hb _ _ _ _ hread hA (fun x hx=>hlt x (by rw [hpq];simp [hx]))
 ·rw [hs,hvars];rfl
end Go.Pl
namespace Go.Proofs.YtbflfefahheidaaGreatDoor
open Go.RowKit Go.Pl Go.ChangeShapes Go.WideShapes
theorem aYi:laidOutB Tryz.prog=true:=by kernel_rfl
theorem aYh:ownKnob Tryz.prog.godebug=none:=by kernel_rfl
set_option maxRecDepth 100000 in
theorem aQf {W:World}{name:String}{g t:Nat}{s:String}{d:DataW Unit}{ms:Array _}(hg:Tryz.prog.globalNamed name=some g) (hty:(Tryz.prog.globals[g]?).map (·.type)=some t) (ht:Tryz.prog.underlying t=some (.interface ms)) (h:Lib.VarReads Tryz.prog W name (.iface s d)):aXq W g:=by
 obtain ⟨g',t',cs,fuel,p,hg',ht',hvar,hd⟩:=h;obtain rfl:=Gh_ (hg.symm.trans hg');obtain rfl:=Gh_ (hty.symm.trans ht')
 cases fuel with
 | zero=>cases hd
 | succ fuel =>
  unfold DataW.trod at hd;rw [ht] at hd;unfold World.var? at hvar;rw [hg] at hvar;simp only [Option.bind_some] at hvar
  split at hvar
  ·rename_i cs' T' fz hb;obtain rfl:=Gh_ hvar
   have key:∃ ev,cs'.toList=[ev] /\ (ev = .nilIface∨∃ te pe,ev = .iface te pe):=by
    split at hd<;>first | (cases hd;done) | skip
    all_goals (rename_i h1 h2;first | (cases h1;done) | (cases h2;done) | (exact ⟨_,h2,.inl rfl⟩) | (exact ⟨_,h2,.inr ⟨_,_,rfl⟩⟩))
   obtain ⟨ev,h1,h2⟩:=key;refine ⟨ev,?_,h2⟩;have hz:cs'[0]?=some ev:=by rw [←Array.getElem?_toList,h1];rfl
   unfold World.cell?;simp [hb,hz]
  ·cases hvar
def aNB:List (String×DataW Unit):=[("math/bits.deBruijn32tab",Rows.laid_math_bits_deBruijn32tab),("math/bits.deBruijn64tab",Rows.laid_math_bits_deBruijn64tab),("internal/strconv.uint64pow10",Rows.laid_internal_strconv_uint64pow10),("strconv.ErrRange",Rows.laid_strconv_ErrRange),("strconv.ErrSyntax",Rows.laid_strconv_ErrSyntax),("unicode.White_Space",Rows.laid_unicode_White_Space),("strings.asciiSpace",Rows.laid_strings_asciiSpace)]
set_option maxRecDepth 100000 in
theorem aSo (os:Os) (args:Array Value):laidMetH Tryz.prog aNB ((World.doorLaid Tryz.prog 86 os).forCall (fun _ _=>0) ⟨#[],args,[]⟩).memory :=
 laidMetH_of_parts3 (fuel:=8) (laidMet_of_run' 8 (by kernel_rfl) (by kernel_rfl)) (by kernel_rfl) (by kernel_rfl)
theorem aSF {W:World}{name:String}{k:IntKind}{zs:List Int}{g:Nat}{t e:TypeId}{n:Nat}(hg:Tryz.prog.globalNamed name=some g) (hty:(Tryz.prog.globals[g]?).map (·.type)=some t) (ht:Tryz.prog.underlying t=some (.array n e)) (he:Tryz.prog.underlying e=some (.int k)) (hce:Tryz.prog.cellsOf e=1) (hct:Tryz.prog.cellsOf t=n) (h:Lib.VarReads Tryz.prog W name (Lib.tabData k zs)):Lib.TabIs Tryz.prog W name k zs:=by
 obtain ⟨g',t',cs,fuel,p,hg',ht',hvar,hd⟩:=h;obtain rfl:=Gh_ (hg.symm.trans hg');obtain rfl:=Gh_ (hty.symm.trans ht');unfold Lib.TabIs;rw [hvar,←Lib.cells_of_tab ht he hce hct hd]
set_option maxRecDepth 100000 in
theorem aWF {W:World}(h:laidMetH Tryz.prog aNB W):Tb W:=by
 rw [MakeChecks.laidMetH_plain _ _ _ (by kernel_rfl)] at h
 exact ⟨aSF (g:=4) (t:=280) (e:=222) (n:=20) (by kernel_rfl) (by kernel_rfl) (by kernel_rfl) (by kernel_rfl) (by kernel_rfl) (by kernel_rfl) (Lib.laidMet.reads h (d:=Rows.laid_internal_strconv_uint64pow10) (.tail _ (.tail _ (.head _)))),
  aSF (g:=3) (t:=153) (e:=5) (n:=256) (by kernel_rfl) (by kernel_rfl) (by kernel_rfl) (by kernel_rfl) (by kernel_rfl) (by kernel_rfl) (Lib.laidMet.reads h (d:=Rows.laid_strings_asciiSpace) (.tail _ (.tail _ (.tail _ (.tail _ (.tail _ (.tail _ (.head _))))))))⟩
set_option maxRecDepth 100000 in
theorem aWE {W:World}(h:laidMetH Tryz.prog aNB W):Te W:=by
 have hT:=aWF h;rw [MakeChecks.laidMetH_plain _ _ _ (by kernel_rfl)] at h
 exact ⟨hT,aQf (g:=0) (t:=173) (by kernel_rfl) (by kernel_rfl) Tryz.underlying173 (Lib.laidMet.reads h (n := "strconv.ErrSyntax") (d:=Rows.laid_strconv_ErrSyntax) (.tail _ (.tail _ (.tail _ (.tail _ (.head _)))))),
  aQf (g:=1) (t:=173) (by kernel_rfl) (by kernel_rfl) Tryz.underlying173 (Lib.laidMet.reads h (n := "strconv.ErrRange") (d:=Rows.laid_strconv_ErrRange) (.tail _ (.tail _ (.tail _ (.head _)))))⟩
end Go.Proofs.YtbflfefahheidaaGreatDoor
