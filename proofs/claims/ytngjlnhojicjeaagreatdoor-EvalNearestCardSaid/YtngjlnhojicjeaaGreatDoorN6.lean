/- Part 6 of the proof. -/
import Derived.Test.YtngjlnhojicjeaaGreatDoorN5
import Derived.LaidMore
import Derived.Deep.Slices
import Derived.OpenShut
import Derived.Test.YtngjlnhojicjeaaGreatDoorTie
import Derived.Lib.LaidU8
import Derived.MakeChecks
import Derived.ProofKit
import Derived.Test.YtngjlnhojicjeaaGreatDoorRows
import Derived.Stop.Joined
set_option linter.unusedVariables false
set_option linter.unusedSimpArgs false
namespace Go.Proofs.YtngjlnhojicjeaaGreatDoor
open Go.RowKit Go.Pl
def mk0 (b:ObR):ShR:=⟨0,b,none,0,none,0⟩
def mkS (os:List ObR):List ShR:=(os.filter fun b=>(aAg (aAa os) b.o.id).1==0).map mk0
theorem aSc {os:List ObR}{S:List ShR}(h:aEC (aAa os) os S):S.map (fun s=>mk0 s.o)=mkS os:=by
 unfold mkS;rw [←h,List.map_map];rfl
theorem aUl {β:Type}{os:List ObR}{S:List ShR}(h:aEC (aAa os) os S) {f:ShR->Option β}(hf:∀ s,f s=f (mk0 s.o)):S.filterMap f=(mkS os).filterMap f:=by
 rw [←aSc h,List.filterMap_map];exact congrArg (fun g=>S.filterMap g) (funext hf)
theorem aQt {h:Nat}{q:QdR}{os:List ObR}{S:List ShR}{u:ShR}(hS:aEC (aAa os) os S):aGL (aAa os) h q S u=aGL (aAa os) h q (mkS os) (mk0 u.o):=aUl (f:=alR (aAa os) h q u) hS fun _=>rfl
theorem aRW {h:Nat}{q:QdR}{os:List ObR}{S:List ShR}{z:Pt}(hS:aEC (aAa os) os S):aGs (aAa os) h q S z=aGs (aAa os) h q (mkS os) z:=by
 unfold aGs;rw [aUl (f:=cdR (aAa os) h q z) hS fun _=>rfl]
def aCn (h:Nat) (q:QdR) (os:List ObR):List (Bys×Int) :=
 match os.find? fun b=>(b.o.id==q.id)&&((aAg (aAa os) b.o.id).1==0) with
 | some b=>aGL (aAa os) h q (mkS os) (mk0 b)
 | none=>[]
def aCB (h:Nat) (q:QdR) (os:List ObR):List (Bys×Int):=aGs (aAa os) h q (mkS os) (q.x,q.y)
theorem aJf {os:List ObR}{S:List ShR}(h:aEC (aAa os) os S) {b:ObR}:b∈S.map (·.o)↔b∈os /\ (aAg (aAa os) b.o.id).1=0:=by
 rw [h,List.mem_filter];simp
theorem aJY {h:Nat}{q:QdR}{os:List ObR}{S:List ShR}(hS:aEC (aAa os) os S) (hno:∀ s∈S,s.o.o.id≠q.id):aCn h q os=[]:=by
 unfold aCn
 cases hf:os.find? fun b=>(b.o.id==q.id)&&((aAg (aAa os) b.o.id).1==0) with
 | none=>rfl
 | some b =>
  have h1:=List.find?_some hf;have h2:=List.mem_of_find?_eq_some hf;simp only [Ga_,beq_iff_eq] at h1;obtain ⟨s,hs,e⟩:=List.mem_map.1 ((aJf hS).2 ⟨h2,h1.2⟩);exact absurd (by rw [e];exact h1.1) (hno s hs)
theorem aJX {h:Nat}{q:QdR}{os:List ObR}{S:List ShR}{u:ShR}(hv:aAl (aAa os)=true) (hS:aEC (aAa os) os S) (hu:u∈S) (e:u.o.o.id=q.id):aCn h q os=aGL (aAa os) h q S u:=by
 rw [aQt hS];unfold aCn;have huo:=(aJf hS).1 (List.mem_map.2 ⟨u,hu,rfl⟩)
 cases hf:os.find? fun b=>(b.o.id==q.id)&&((aAg (aAa os) b.o.id).1==0) with
 | none =>
  have:=List.find?_eq_none.1 hf u.o huo.1;simp only [Ga_,beq_iff_eq,not_and] at this;exact absurd huo.2 (this e)
 | some b =>
  have h1:=List.find?_some hf;have h2:=List.mem_of_find?_eq_some hf;simp only [Ga_,beq_iff_eq] at h1;obtain ⟨s,hs,e2⟩:=List.mem_map.1 ((aJf hS).2 ⟨h2,h1.2⟩);have e2:s.o=b:=e2;have e3:s=u:=aF7 (aUF hv hS) hs hu (by rw [e2,h1.1,e]);subst e3;rw [←e2]
theorem aID {h:Nat}{os:List ObR}{q:QdR}(hc:aAn h os q=0):aAt h q=true /\ aAl (aAa os)=true /\ (aBp q == -1)=false /\ ((aBp q==0)=true∨(¬ aAp (aAa os) q.id<0 /\ aCw os q.id=aBp q)):=by
 unfold aAn at hc;cases h1:aAt h q<;>cases h2:aAl (aAa os)<;>cases h3:(aBp q == -1)<;>cases h4:(aBp q==0)<;>cases h5:decide (aAp (aAa os) q.id<0)<;>cases h6:(aCw os q.id==aBp q)<;>rw [h1,h2] at hc<;>simp [h3,h4,h5,h6] at hc ⊢
 ·simp at h5 h6;exact ⟨h5,h6⟩
theorem aSh {os:List ObR}(hv:aAl (aAa os)=true) {b:ObR}(hb:b∈os):aCw os b.o.id=b.o.kind:=by
 have hm:b.o∈aAa os:=List.mem_map.2 ⟨b,hb,rfl⟩;have hf:=aDK (aBl hv) hm;obtain ⟨k,o,h1,h2,h3⟩:=aBi (l:=aAa os) (id:=b.o.id) hf.1;have ho:o=b.o:=aNs (aBl hv) (Ge_ h2) hm h3;unfold aCw;rw [h1];have h4:(aAa os)[k]?=some b.o:=by rw [h2,ho]
 unfold aAa at h4;rw [Gr_] at h4;obtain ⟨c,hc,e⟩:=Option.map_eq_some_iff.1 h4;simp [hc,e]
def frK (v:Value) (os:List ObR) (q:QdR) (b:Nat) (e:Ent):Prop:=∃ bs xi mb S,aEC (aAa os) os S /\ e=aDh [bk b #[v,vI q.ask,vI q.kind,vI q.wh.op,vS q.wh.key,vS q.wh.val,vI q.wh.n,vL q.wh.p q.wh.kids.length q.wh.cap,vS q.id,vI q.n,vI q.x,vI q.y,vS q.key,vS q.prof,vI q.min,.map (some bs),vP xi 0] 93,mp Tryz.prog 9 bs S.length (shF S),ixG xi mb (.pointer none) false S.length (bxS (aAa os) S),aDh (S.map (shE (aAa os)))]
def rwK (L:List (Bys×Int)) (u:Value) (z:Int) (e:Ent):Prop:=z=0 /\ e=rw_ rwL 2 42 u L
theorem aFX {w:World}{v:Value}{os:List ObR}(hm:aDr w v os) (hlen:os.length<=100000) (hvm:aAl (aAa os)=true) (q:QdR):Calls Tryz.prog 34 #[.agg #[v],vA (qdL q)] w fun e w'=>∃ u e',e = .returned (vP u 0) /\ frK v os q u e' /\ Mm nF_ w w' [e'] :=
 (aI1 hm hlen hvm q).mono fun e w' ⟨fb,bs,xi,mb,S,ns,h1,h2,h3,h4⟩=>⟨fb,_,h1,⟨bs,xi,mb,S,h3,rfl⟩,by subst h2;exact aFc (A:=[]) h4⟩
theorem aJ8 {w wm:World}{M:List Ent}{j b:Nat}{e:Ent}{v:Value}{os:List ObR}{q:QdR}(hvm:aAl (aAa os)=true) (hM:Mm nF_ w wm M) (hj:M[j]?=some (pfE (frK v os q b) e)) (hm:Mm (BlM [pfE (frK v os q b) e]) wm wm [pfE (frK v os q b) e]) :
  ∃ bs xi mb S,aEC (aAa os) os S /\ (∀ k,BlM [pfE (frK v os q b) e] k->w.heap.size<=k) /\ Mm (BlM [pfE (frK v os q b) e]) wm wm [bk b #[v,vI q.ask,vI q.kind,vI q.wh.op,vS q.wh.key,vS q.wh.val,vI q.wh.n,vL q.wh.p q.wh.kids.length q.wh.cap,vS q.id,vI q.n,vI q.x,vI q.y,vS q.key,vS q.prof,vI q.min,.map (some bs),vP xi 0] 93,mp Tryz.prog 9 bs S.length (shF S),ixO xi mb S.length (bxS (aAa os) S) fun _=>False,aDh (S.map (shE (aAa os)))]:=by
 obtain ⟨⟨bs,xi,mb,S,hS,he⟩,h1⟩:=hm.unpf (j:=0) rfl;have h1:Mm (BlM [pfE (frK v os q b) e]) wm wm [e]:=h1;have hpw:=aUF hvm hS;refine ⟨bs,xi,mb,S,hS,fun k hk=>?_,?_⟩
 ·obtain ⟨x,hx,hk⟩:=hk;rw [Gd_] at hx;subst hx;rcases Nat.lt_or_ge k w.heap.size with h | h
  ·exact (hM.own _ (Ge_ hj) k hk h).elim
  ·exact h
 ·rw [show ([e]:List Ent)=[aDh [bk b #[v,vI q.ask,vI q.kind,vI q.wh.op,vS q.wh.key,vS q.wh.val,vI q.wh.n,vL q.wh.p q.wh.kids.length q.wh.cap,vS q.id,vI q.n,vI q.x,vI q.y,vS q.key,vS q.prof,vI q.min,.map (some bs),vP xi 0] 93,mp Tryz.prog 9 bs S.length (shF S),ixG xi mb (.pointer none) false S.length (bxS (aAa os) S),aDh (S.map (shE (aAa os)))]] by rw [←he]] at h1;have h2:=Mm.ung (A:=[]) (C:=[]) h1
  have h3:=aTW (A:=[bk b #[v,vI q.ask,vI q.kind,vI q.wh.op,vS q.wh.key,vS q.wh.val,vI q.wh.n,vL q.wh.p q.wh.kids.length q.wh.cap,vS q.id,vI q.n,vI q.x,vI q.y,vS q.key,vS q.prof,vI q.min,.map (some bs),vP xi 0] 93,mp Tryz.prog 9 bs S.length (shF S),aDh (S.map (shE (aAa os)))]) (h2.pick [0,1,3,2]) fun s c hc=>by
   obtain ⟨t,ht,_,rfl⟩:=(aEi hpw).1 hc;have:=aOx hvm (aQ6 hvm rfl hS ht);unfold okB isP isI;omega
  exact h3.pick [0,1,3,2]
section
variable {w wm:World}{M:List Ent}{j b:Nat}{e:Ent}{p0:Option Addr}{cp0:Nat}{os:List ObR}(hm:aDr w (vL p0 os.length cp0) os) (hvm:aAl (aAa os)=true) {B h:Nat}{q:QdR}(hq:QdIn w B h q) (hBw:B<=w.heap.size) (hTe:Te w) (hol:os.length<=10000) (hM:Mm nF_ w wm M) (hj:M[j]?=some (pfE (frK (vL p0 os.length cp0) os q b) e)) (hF:Mm (BlM [pfE (frK (vL p0 os.length cp0) os q b) e]) wm wm [pfE (frK (vL p0 os.length cp0) os q b) e])
include hm hvm hq hBw hTe hol hM hj hF
theorem aO9:Calls Tryz.prog 28 #[vP b 0] wm fun x w'=>∃ u z e',x = .returned (.tuple #[u,vI z]) /\ rwK (aGl h q os) u z e' /\ Mm (BlM [pfE (frK (vL p0 os.length cp0) os q b) e]) wm w' [e']:=by
 obtain ⟨bs,xi,mb,S,hS,hG,h1⟩:=aJ8 hvm hM hj hF;exact (aO6 (hm.fr hM.fr) hvm (hq.fr hM.fr hBw) (Gn_ hBw hM.fr.size) (hTe.fr hM.fr) (h1.get 0 rfl) (by omega)).mono fun x w' ⟨u,g1,g2⟩=>⟨u,0,_,g1,⟨rfl,rfl⟩,aMf g2 fun _ h=>h.elim⟩
theorem aO3 (hk:aCw os q.id=2) (h0:0<=q.n) (hn:q.n<=1048576):Calls Tryz.prog 30 #[vP b 0] wm fun x w'=>∃ u z e',x = .returned (.tuple #[u,vI z]) /\ rwK (aCn h q os) u z e' /\ Mm (BlM [pfE (frK (vL p0 os.length cp0) os q b) e]) wm w' [e']:=by
 obtain ⟨bs,xi,mb,S,hS,hG,h1⟩:=aJ8 hvm hM hj hF
 by_cases hw:∃ s∈S,s.o.o.id=q.id
 ·obtain ⟨u,hu,hid⟩:=hw;have hk2:u.o.o.kind=2:=by rw [←aSh hvm (shO hS hu),hid];exact hk
  rw [aJX hvm hS hu hid];exact (aJW hM.fr hG hm hvm hq hBw hTe hS (by omega) rfl hu hid hk2 h0 hn h1).mono fun x w' ⟨u,g1,g2⟩=>⟨u,0,_,g1,⟨rfl,rfl⟩,g2⟩
 ·have hno:∀ s∈S,s.o.o.id≠q.id:=fun s hs e=>hw ⟨s,hs,e⟩;rw [aJY hS hno];exact (aMc hM.fr hG hm hvm hq hBw hTe hS (by omega) rfl hno h1).mono fun x w' ⟨u,g1,g2⟩=>⟨u,0,_,g1,⟨rfl,rfl⟩,g2⟩
theorem aN1 (hz:onG (q.x,q.y)) (h0:1<=q.n) (hn:q.n<=1048576):Calls Tryz.prog 31 #[vP b 0] wm fun x w'=>∃ u z e',x = .returned (.tuple #[u,vI z]) /\ rwK (aCB h q os) u z e' /\ Mm (BlM [pfE (frK (vL p0 os.length cp0) os q b) e]) wm w' [e']:=by
 obtain ⟨bs,xi,mb,S,hS,hG,h1⟩:=aJ8 hvm hM hj hF;have e9:aCB h q os=aGs (aAa os) h q S (q.x,q.y):=(aRW hS).symm;rw [e9];have hzP:isP (q.x,q.y):=by unfold onG at hz;unfold isP isI;dsimp only at hz ⊢;omega
 exact (aHs hM.fr hG hm hvm hq hBw hTe hS (by omega) rfl hz hzP h0 hn h1).mono fun x w' ⟨u,g1,g2⟩=>⟨u,0,_,g1,⟨rfl,rfl⟩,g2⟩
end
theorem aO4 (h:Nat) (q:QdR) (os:List ObR):(aCn h q os).length<=os.length:=by
 unfold aCn;have h1:(mkS os).length<=os.length:=by unfold mkS;rw [Gp_];exact List.length_filter_le _ _
 split
 ·exact Gn_ (List.length_filterMap_le _ _) h1
 ·exact Gg_ _
theorem aPD (h:Nat) (q:QdR) (os:List ObR):(aCB h q os).length<=os.length:=by
 have h1:(mkS os).length<=os.length:=by unfold mkS;rw [Gp_];exact List.length_filter_le _ _
 unfold aCB aGs fC;have h2:=aKO ((mkS os).filterMap (cdR (aAa os) h q (q.x,q.y))) [];have h3:((mkS os).filterMap (cdR (aAa os) h q (q.x,q.y))).length<=(mkS os).length:=List.length_filterMap_le _ _;rw [Gp_,Gq_,h2,Gm_];omega
theorem aMd {os:List ObR}{q:QdR}(hask:q.ask=3) (h1:(aBp q == -1)=false) (h2:(aBp q==0)=true∨(¬ aAp (aAa os) q.id<0 /\ aCw os q.id=aBp q)):aCw os q.id=2:=by
  have e:aBp q=2:=by
    unfold aBp at h1 ⊢;rw [hask] at h1 ⊢
    cases hk:(q.kind==4)||(q.kind==5) with
    | true=>rw [hk] at h1;have h1:((-1:Int) == -1)=false:=h1;cases h1
    | false=>rfl
  rw [e] at h2;exact (h2.resolve_left (by decide)).2
theorem aO5 {h:Nat}{q:QdR}(hask:q.ask=3) (hv:aAt h q=true):0<=q.n /\ q.n<=1048576:=by
  unfold aAt aC8 at hv;rw [hask] at hv;simp only [Ga_] at hv;have h2:=hv.2;have h3:(aBk q.id&&(decide (0<=q.n)&&decide (q.n<=1048576))&&aAF q true true false false false false)=true:=h2;simp only [Ga_,decide_eq_true_eq] at h3;exact h3.1.2
theorem aN0 {h:Nat}{q:QdR}(hask:q.ask=4) (hv:aAt h q=true):onG (q.x,q.y):=by
  unfold aAt aC8 at hv;rw [hask] at hv;simp only [Ga_] at hv;have h2:=hv.2;have h3:((decide (1<=q.n)&&decide (q.n<=10000))&&(decide (0<=q.x)&&decide (q.x<=1048575))&&(decide (0<=q.y)&&decide (q.y<=1048575))&&aAF q false true true false false false)=true:=h2;simp only [Ga_,decide_eq_true_eq] at h3;exact ⟨h3.1.1.2,h3.1.2⟩
theorem aNz {h:Nat}{q:QdR}(hask:q.ask=4) (hv:aAt h q=true):1<=q.n /\ q.n<=1048576:=by
  unfold aAt aC8 at hv;rw [hask] at hv;simp only [Ga_] at hv;have h2:=hv.2;have h3:((decide (1<=q.n)&&decide (q.n<=10000))&&(decide (0<=q.x)&&decide (q.x<=1048575))&&(decide (0<=q.y)&&decide (q.y<=1048575))&&aAF q false true true false false false)=true:=h2;simp only [Ga_,decide_eq_true_eq] at h3;have:=h3.1.1.1;omega
theorem aMl (w:World):(zeroValue 66).run Tryz.prog w = .ok .nilFunc w:=by kernel_rfl
theorem aL6 {w:World}{v:Value}{os:List ObR}(hmO:aDr w v os) {B h:Nat}{q:QdR}(hq:QdIn w B h q) (hBw:B<=w.heap.size) (hTe:Te w) (hol:os.length<=10000) (hask:q.ask=1):Calls Tryz.prog 12 #[.agg #[v],.agg (qY_ q)] w fun e w'=>∃ u,e = .returned (.tuple #[u,vI (aAn h os q)]) /\ Mm nF_ w w' [rw_ rwL 2 42 u (bif (aAn h os q)==0 then (aGl h q os) else [])]:=by
  obtain ⟨p0,cp0,hp0,-⟩:=hmO.1.op;subst hp0;refine beg Tryz.func12 rfl rfl [(0,.agg #[vL p0 os.length cp0]),(1,.agg (qY_ q))] rfl rfl fun Y hY=>?_;have hM:=Mm.nil nF_ w;refine aA1 0 0 2 [] (cs:=#[vL p0 os.length cp0]) (T:=24) (v:=fun b=>vP b 0) f0 hM fun ad w1 hM=>aA1 0 1 3 [] (cs:=(qY_ q)) (T:=31) (v:=fun b=>vP b 0) f0 hM fun ae w1 hM=>aAw 1 2 12 [(10,.agg (qY_ q)),(11,.agg #[vL p0 os.length cp0])] (fc (lam 31 1 0 14 hM rfl) (fc (lam 24 0 0 1 hM rfl) f0)) hM (aCF (hmO.fr hM.fr) (hq.fr hM.fr hBw) (Gn_ hBw hM.fr.size)) fun w1 hM=>seg 2 2 [(6,vI (aAn h os q)),(14,vB (!((aAn h os q)==0)))] f0 ?_;cases aa:((aAn h os q)==0)
  ·exact rt2 4 5 (vL none 0 0) (vI (aAn h os q)) rfl rfl f0 (hY _ _ ⟨_,rfl,by rw [aa];exact (hM.pick (M':=[]) []).row⟩)
  obtain ⟨hvq,hvm,hn1,hn2⟩:=aID (et aa);refine aNx 4 0 16 [] 3 f0 hM fun af w1 hM=>ins 4 1 [] 69 2 (vI 1) (.func (.func 28) #[] #[]) f0 hM rfl aGu u69_ (aGv (by omega)) fun w1 hM=>ins 4 2 [] 69 2 (vI 2) (.func (.func 29) #[] #[]) f0 hM rfl aGu u69_ (aGv (by omega)) fun w1 hM=>ins 4 3 [] 69 2 (vI 3) (.func (.func 30) #[] #[]) f0 hM rfl aGu u69_ (aGv (by omega)) fun w1 hM=>ins 4 4 [] 69 2 (vI 4) (.func (.func 31) #[] #[]) f0 hM rfl aGu u69_ (aGv (by omega)) fun w1 hM=>ins 4 5 [] 69 2 (vI 5) (.func (.func 32) #[] #[]) f0 hM rfl aGu u69_ (aGv (by omega)) fun w1 hM=>ins 4 6 [] 69 2 (vI 6) (.func (.func 33) #[] #[]) f0 hM rfl aGu u69_ (aGv (by omega)) fun w1 hM=>?_;obtain ⟨mA,hmA⟩:∃ z,z=(upd (upd (upd (upd (upd (upd (fun _=>none) (vI 1) (.func (.func 28) #[] #[])) (vI 2) (.func (.func 29) #[] #[])) (vI 3) (.func (.func 30) #[] #[])) (vI 4) (.func (.func 31) #[] #[])) (vI 5) (.func (.func 32) #[] #[])) (vI 6) (.func (.func 33) #[] #[])):=⟨_,rfl⟩;rw [←hmA] at hM;have hlk:(mA (vI q.ask)).getD .nilFunc = .func (.func 28) #[] #[]:=by rw [hmA,hask];simp [upd]
  clear hmA;refine seg 5 0 [(7,.map (some af))] f0 ?_;have hM:=hM.nl;refine drx [6,7] (fun Z=>[some (vP (bn (Z 0)) 0),some (.tuple #[(tp0 (Z 1)),vI (tp1 (Z 1))])]) _ (fun Z l=>[bk ad #[vL p0 os.length cp0] 24,bk ae (qY_ q) 31,mp Tryz.prog 3 af ((((((0+1)+1)+1)+1)+1)+1) mA,(bif l.getD 1 false then pfE (rwK (aGl h q os) (tp0 (Z 1)) (tp1 (Z 1))) (Z.e 1) else (bif l.getD 0 false then pfE ((frK (vL p0 os.length cp0) os q) (bn (Z 0))) (Z.e 0) else aEk))]) (fun Z=>[(8,(tp0 (Z 1))),(9,vI (tp1 (Z 1)))]) hM (fun Z=>rfl) (fun Z l w5 hM=>(fc (ldm 3 1 0 hM rfl rfl) (fc (rz2 (lk 69 2 (vI q.ask) .nilFunc hM rfl aGu u69_ (aGv (by omega)) (aMl _)) hlk) (fc (lam 24 0 0 1 hM rfl) (fc (lam 31 1 0 14 hM rfl) f0))))) ⟨aHB 0 6 3 25 (f:=34) (fun Z=>#[.agg #[vL p0 os.length cp0],.agg (qY_ q)]) (frK (vL p0 os.length cp0) os q) (fun Z fr wm hM=>(aFX (hmO.fr hM.fr) (by omega) hvm q)),aJU 1 7 3 26 (f:=28) (fun Z=>#[vP (bn (Z 0)) 0]) (fun Z=>pfE ((frK (vL p0 os.length cp0) os q) (bn (Z 0))) (Z.e 0)) (rwK (aGl h q os)) (fun Z fr wm hM hm=>(aO9 hmO hvm hq hBw hTe hol hM (j:=3) (by kernel_rfl) hm)),trivial⟩ fun ab w1 hM=>?_;replace hM:Mm nF_ w w1 [bk ad #[vL p0 os.length cp0] 24,bk ae (qY_ q) 31,_,pfE (rwK (aGl h q os) (tp0 (ab 1)) (tp1 (ab 1))) (ab.e 1)]:=hM;obtain ⟨⟨hz9,hge⟩,hM⟩:=hM.unpf (j:=3) rfl;rw [hge] at hM;obtain ⟨v1,hv1⟩:∃ z,z=tp0 (ab 1):=⟨_,rfl⟩;rw [←hv1] at hM;rw [hz9,←hv1];have hM:=hM.pick [3];replace hM:Mm nF_ w _ [_]:=hM;obtain ⟨qa,ca,e9,-⟩:=(hM.src (j:=0) rfl rwT.len).op;subst e9;refine seg 8 4 [(33,vB (decide (10000<((aGl h q os).length:Int))))] f0 ?_;cases ac:(decide (10000<((aGl h q os).length:Int)))
  ·have ag:=df ac;exact rt2 4 5 (vL qa (aGl h q os).length ca) (vI 0) rfl rfl f0 (hY _ _ ⟨_,by rw [et aa],by rw [aa];exact hM⟩)
  have ag:=dt ac;have hl9:(aGl h q os).length<=os.length:=aLc h q os;exact absurd (dt ac) (by omega)
theorem aL4 {w:World}{v:Value}{os:List ObR}(hmO:aDr w v os) {B h:Nat}{q:QdR}(hq:QdIn w B h q) (hBw:B<=w.heap.size) (hTe:Te w) (hol:os.length<=10000) (hask:q.ask=3):Calls Tryz.prog 12 #[.agg #[v],.agg (qY_ q)] w fun e w'=>∃ u,e = .returned (.tuple #[u,vI (aAn h os q)]) /\ Mm nF_ w w' [rw_ rwL 2 42 u (bif (aAn h os q)==0 then (aCn h q os) else [])]:=by
  obtain ⟨p0,cp0,hp0,-⟩:=hmO.1.op;subst hp0;refine beg Tryz.func12 rfl rfl [(0,.agg #[vL p0 os.length cp0]),(1,.agg (qY_ q))] rfl rfl fun Y hY=>?_;have hM:=Mm.nil nF_ w;refine aA1 0 0 2 [] (cs:=#[vL p0 os.length cp0]) (T:=24) (v:=fun b=>vP b 0) f0 hM fun ad w1 hM=>aA1 0 1 3 [] (cs:=(qY_ q)) (T:=31) (v:=fun b=>vP b 0) f0 hM fun ae w1 hM=>aAw 1 2 12 [(10,.agg (qY_ q)),(11,.agg #[vL p0 os.length cp0])] (fc (lam 31 1 0 14 hM rfl) (fc (lam 24 0 0 1 hM rfl) f0)) hM (aCF (hmO.fr hM.fr) (hq.fr hM.fr hBw) (Gn_ hBw hM.fr.size)) fun w1 hM=>seg 2 2 [(6,vI (aAn h os q)),(14,vB (!((aAn h os q)==0)))] f0 ?_;cases aa:((aAn h os q)==0)
  ·exact rt2 4 5 (vL none 0 0) (vI (aAn h os q)) rfl rfl f0 (hY _ _ ⟨_,rfl,by rw [aa];exact (hM.pick (M':=[]) []).row⟩)
  obtain ⟨hvq,hvm,hn1,hn2⟩:=aID (et aa);have hk2:=aMd hask hn1 hn2;have hb9:=aO5 hask hvq;refine aNx 4 0 16 [] 3 f0 hM fun af w1 hM=>ins 4 1 [] 69 2 (vI 1) (.func (.func 28) #[] #[]) f0 hM rfl aGu u69_ (aGv (by omega)) fun w1 hM=>ins 4 2 [] 69 2 (vI 2) (.func (.func 29) #[] #[]) f0 hM rfl aGu u69_ (aGv (by omega)) fun w1 hM=>ins 4 3 [] 69 2 (vI 3) (.func (.func 30) #[] #[]) f0 hM rfl aGu u69_ (aGv (by omega)) fun w1 hM=>ins 4 4 [] 69 2 (vI 4) (.func (.func 31) #[] #[]) f0 hM rfl aGu u69_ (aGv (by omega)) fun w1 hM=>ins 4 5 [] 69 2 (vI 5) (.func (.func 32) #[] #[]) f0 hM rfl aGu u69_ (aGv (by omega)) fun w1 hM=>ins 4 6 [] 69 2 (vI 6) (.func (.func 33) #[] #[]) f0 hM rfl aGu u69_ (aGv (by omega)) fun w1 hM=>?_;obtain ⟨mA,hmA⟩:∃ z,z=(upd (upd (upd (upd (upd (upd (fun _=>none) (vI 1) (.func (.func 28) #[] #[])) (vI 2) (.func (.func 29) #[] #[])) (vI 3) (.func (.func 30) #[] #[])) (vI 4) (.func (.func 31) #[] #[])) (vI 5) (.func (.func 32) #[] #[])) (vI 6) (.func (.func 33) #[] #[])):=⟨_,rfl⟩;rw [←hmA] at hM;have hlk:(mA (vI q.ask)).getD .nilFunc = .func (.func 30) #[] #[]:=by rw [hmA,hask];simp [upd]
  clear hmA;refine seg 5 0 [(7,.map (some af))] f0 ?_;have hM:=hM.nl;refine drx [6,7] (fun Z=>[some (vP (bn (Z 0)) 0),some (.tuple #[(tp0 (Z 1)),vI (tp1 (Z 1))])]) _ (fun Z l=>[bk ad #[vL p0 os.length cp0] 24,bk ae (qY_ q) 31,mp Tryz.prog 3 af ((((((0+1)+1)+1)+1)+1)+1) mA,(bif l.getD 1 false then pfE (rwK (aCn h q os) (tp0 (Z 1)) (tp1 (Z 1))) (Z.e 1) else (bif l.getD 0 false then pfE ((frK (vL p0 os.length cp0) os q) (bn (Z 0))) (Z.e 0) else aEk))]) (fun Z=>[(8,(tp0 (Z 1))),(9,vI (tp1 (Z 1)))]) hM (fun Z=>rfl) (fun Z l w5 hM=>(fc (ldm 3 1 0 hM rfl rfl) (fc (rz2 (lk 69 2 (vI q.ask) .nilFunc hM rfl aGu u69_ (aGv (by omega)) (aMl _)) hlk) (fc (lam 24 0 0 1 hM rfl) (fc (lam 31 1 0 14 hM rfl) f0))))) ⟨aHB 0 6 3 25 (f:=34) (fun Z=>#[.agg #[vL p0 os.length cp0],.agg (qY_ q)]) (frK (vL p0 os.length cp0) os q) (fun Z fr wm hM=>(aFX (hmO.fr hM.fr) (by omega) hvm q)),aJU 1 7 3 26 (f:=30) (fun Z=>#[vP (bn (Z 0)) 0]) (fun Z=>pfE ((frK (vL p0 os.length cp0) os q) (bn (Z 0))) (Z.e 0)) (rwK (aCn h q os)) (fun Z fr wm hM hm=>(aO3 hmO hvm hq hBw hTe hol hM (j:=3) (by kernel_rfl) hm hk2 hb9.1 hb9.2)),trivial⟩ fun ab w1 hM=>?_;replace hM:Mm nF_ w w1 [bk ad #[vL p0 os.length cp0] 24,bk ae (qY_ q) 31,_,pfE (rwK (aCn h q os) (tp0 (ab 1)) (tp1 (ab 1))) (ab.e 1)]:=hM;obtain ⟨⟨hz9,hge⟩,hM⟩:=hM.unpf (j:=3) rfl;rw [hge] at hM;obtain ⟨v1,hv1⟩:∃ z,z=tp0 (ab 1):=⟨_,rfl⟩;rw [←hv1] at hM;rw [hz9,←hv1];have hM:=hM.pick [3];replace hM:Mm nF_ w _ [_]:=hM;obtain ⟨qa,ca,e9,-⟩:=(hM.src (j:=0) rfl rwT.len).op;subst e9;refine seg 8 4 [(33,vB (decide (10000<((aCn h q os).length:Int))))] f0 ?_;cases ac:(decide (10000<((aCn h q os).length:Int)))
  ·have ag:=df ac;exact rt2 4 5 (vL qa (aCn h q os).length ca) (vI 0) rfl rfl f0 (hY _ _ ⟨_,by rw [et aa],by rw [aa];exact hM⟩)
  have ag:=dt ac;have hl9:(aCn h q os).length<=os.length:=aO4 h q os;exact absurd (dt ac) (by omega)
theorem aDG {w:World}{v:Value}{os:List ObR}(hmO:aDr w v os) {B h:Nat}{q:QdR}(hq:QdIn w B h q) (hBw:B<=w.heap.size) (hTe:Te w) (hol:os.length<=10000) (hask:q.ask=4):Calls Tryz.prog 12 #[.agg #[v],.agg (qY_ q)] w fun e w'=>∃ u,e = .returned (.tuple #[u,vI (aAn h os q)]) /\ Mm nF_ w w' [rw_ rwL 2 42 u (bif (aAn h os q)==0 then (aCB h q os) else [])]:=by
  obtain ⟨p0,cp0,hp0,-⟩:=hmO.1.op;subst hp0;refine beg Tryz.func12 rfl rfl [(0,.agg #[vL p0 os.length cp0]),(1,.agg (qY_ q))] rfl rfl fun Y hY=>?_;have hM:=Mm.nil nF_ w;refine aA1 0 0 2 [] (cs:=#[vL p0 os.length cp0]) (T:=24) (v:=fun b=>vP b 0) f0 hM fun ad w1 hM=>aA1 0 1 3 [] (cs:=(qY_ q)) (T:=31) (v:=fun b=>vP b 0) f0 hM fun ae w1 hM=>aAw 1 2 12 [(10,.agg (qY_ q)),(11,.agg #[vL p0 os.length cp0])] (fc (lam 31 1 0 14 hM rfl) (fc (lam 24 0 0 1 hM rfl) f0)) hM (aCF (hmO.fr hM.fr) (hq.fr hM.fr hBw) (Gn_ hBw hM.fr.size)) fun w1 hM=>seg 2 2 [(6,vI (aAn h os q)),(14,vB (!((aAn h os q)==0)))] f0 ?_;cases aa:((aAn h os q)==0)
  ·exact rt2 4 5 (vL none 0 0) (vI (aAn h os q)) rfl rfl f0 (hY _ _ ⟨_,rfl,by rw [aa];exact (hM.pick (M':=[]) []).row⟩)
  obtain ⟨hvq,hvm,hn1,hn2⟩:=aID (et aa);have hz9:=aN0 hask hvq;have hb9:=aNz hask hvq;refine aNx 4 0 16 [] 3 f0 hM fun af w1 hM=>ins 4 1 [] 69 2 (vI 1) (.func (.func 28) #[] #[]) f0 hM rfl aGu u69_ (aGv (by omega)) fun w1 hM=>ins 4 2 [] 69 2 (vI 2) (.func (.func 29) #[] #[]) f0 hM rfl aGu u69_ (aGv (by omega)) fun w1 hM=>ins 4 3 [] 69 2 (vI 3) (.func (.func 30) #[] #[]) f0 hM rfl aGu u69_ (aGv (by omega)) fun w1 hM=>ins 4 4 [] 69 2 (vI 4) (.func (.func 31) #[] #[]) f0 hM rfl aGu u69_ (aGv (by omega)) fun w1 hM=>ins 4 5 [] 69 2 (vI 5) (.func (.func 32) #[] #[]) f0 hM rfl aGu u69_ (aGv (by omega)) fun w1 hM=>ins 4 6 [] 69 2 (vI 6) (.func (.func 33) #[] #[]) f0 hM rfl aGu u69_ (aGv (by omega)) fun w1 hM=>?_;obtain ⟨mA,hmA⟩:∃ z,z=(upd (upd (upd (upd (upd (upd (fun _=>none) (vI 1) (.func (.func 28) #[] #[])) (vI 2) (.func (.func 29) #[] #[])) (vI 3) (.func (.func 30) #[] #[])) (vI 4) (.func (.func 31) #[] #[])) (vI 5) (.func (.func 32) #[] #[])) (vI 6) (.func (.func 33) #[] #[])):=⟨_,rfl⟩;rw [←hmA] at hM;have hlk:(mA (vI q.ask)).getD .nilFunc = .func (.func 31) #[] #[]:=by rw [hmA,hask];simp [upd]
  clear hmA;refine seg 5 0 [(7,.map (some af))] f0 ?_;have hM:=hM.nl;refine drx [6,7] (fun Z=>[some (vP (bn (Z 0)) 0),some (.tuple #[(tp0 (Z 1)),vI (tp1 (Z 1))])]) _ (fun Z l=>[bk ad #[vL p0 os.length cp0] 24,bk ae (qY_ q) 31,mp Tryz.prog 3 af ((((((0+1)+1)+1)+1)+1)+1) mA,(bif l.getD 1 false then pfE (rwK (aCB h q os) (tp0 (Z 1)) (tp1 (Z 1))) (Z.e 1) else (bif l.getD 0 false then pfE ((frK (vL p0 os.length cp0) os q) (bn (Z 0))) (Z.e 0) else aEk))]) (fun Z=>[(8,(tp0 (Z 1))),(9,vI (tp1 (Z 1)))]) hM (fun Z=>rfl) (fun Z l w5 hM=>(fc (ldm 3 1 0 hM rfl rfl) (fc (rz2 (lk 69 2 (vI q.ask) .nilFunc hM rfl aGu u69_ (aGv (by omega)) (aMl _)) hlk) (fc (lam 24 0 0 1 hM rfl) (fc (lam 31 1 0 14 hM rfl) f0))))) ⟨aHB 0 6 3 25 (f:=34) (fun Z=>#[.agg #[vL p0 os.length cp0],.agg (qY_ q)]) (frK (vL p0 os.length cp0) os q) (fun Z fr wm hM=>(aFX (hmO.fr hM.fr) (by omega) hvm q)),aJU 1 7 3 26 (f:=31) (fun Z=>#[vP (bn (Z 0)) 0]) (fun Z=>pfE ((frK (vL p0 os.length cp0) os q) (bn (Z 0))) (Z.e 0)) (rwK (aCB h q os)) (fun Z fr wm hM hm=>(aN1 hmO hvm hq hBw hTe hol hM (j:=3) (by kernel_rfl) hm hz9 hb9.1 hb9.2)),trivial⟩ fun ab w1 hM=>?_;replace hM:Mm nF_ w w1 [bk ad #[vL p0 os.length cp0] 24,bk ae (qY_ q) 31,_,pfE (rwK (aCB h q os) (tp0 (ab 1)) (tp1 (ab 1))) (ab.e 1)]:=hM;obtain ⟨⟨hz9,hge⟩,hM⟩:=hM.unpf (j:=3) rfl;rw [hge] at hM;obtain ⟨v1,hv1⟩:∃ z,z=tp0 (ab 1):=⟨_,rfl⟩;rw [←hv1] at hM;rw [hz9,←hv1];have hM:=hM.pick [3];replace hM:Mm nF_ w _ [_]:=hM;obtain ⟨qa,ca,e9,-⟩:=(hM.src (j:=0) rfl rwT.len).op;subst e9;refine seg 8 4 [(33,vB (decide (10000<((aCB h q os).length:Int))))] f0 ?_;cases ac:(decide (10000<((aCB h q os).length:Int)))
  ·have ag:=df ac;exact rt2 4 5 (vL qa (aCB h q os).length ca) (vI 0) rfl rfl f0 (hY _ _ ⟨_,by rw [et aa],by rw [aa];exact hM⟩)
  have ag:=dt ac;have hl9:(aCB h q os).length<=os.length:=aPD h q os;exact absurd (dt ac) (by omega)
theorem aL5 {w:World}{v:Value}{os:List ObR}(hmO:aDr w v os) {B h:Nat}{q:QdR}(hq:QdIn w B h q) (hBw:B<=w.heap.size) (hc:¬ aAn h os q=0):Calls Tryz.prog 12 #[.agg #[v],.agg (qY_ q)] w fun e w'=>∃ u,e = .returned (.tuple #[u,vI (aAn h os q)]) /\ Mm nF_ w w' [rw_ rwL 2 42 u []]:=by
  obtain ⟨p0,cp0,hp0,-⟩:=hmO.1.op;subst hp0;refine beg Tryz.func12 rfl rfl [(0,.agg #[vL p0 os.length cp0]),(1,.agg (qY_ q))] rfl rfl fun Z hZ=>?_;have hM:=Mm.nil nF_ w;refine aA1 0 0 2 [] (cs:=#[vL p0 os.length cp0]) (T:=24) (v:=fun b=>vP b 0) f0 hM fun ab w1 hM=>aA1 0 1 3 [] (cs:=(qY_ q)) (T:=31) (v:=fun b=>vP b 0) f0 hM fun ac w1 hM=>aAw 1 2 12 [(10,.agg (qY_ q)),(11,.agg #[vL p0 os.length cp0])] (fc (lam 31 1 0 14 hM rfl) (fc (lam 24 0 0 1 hM rfl) f0)) hM (aCF (hmO.fr hM.fr) (hq.fr hM.fr hBw) (Gn_ hBw hM.fr.size)) fun w1 hM=>seg 2 2 [(6,vI (aAn h os q)),(14,vB (!((aAn h os q)==0)))] f0 ?_;cases aa:((aAn h os q)==0)
  ·exact rt2 4 5 (vL none 0 0) (vI (aAn h os q)) rfl rfl f0 (hZ _ _ ⟨_,rfl,(hM.pick (M':=[]) []).row⟩)
  exact absurd (et aa) hc
theorem aT1 {w:World}(a b:Bys×Int):Ft.ok Tryz.prog w (.g2 (fun x y => .binOp .neq 42 x y 42) (.agg #[vS a.1,vI a.2]) (.agg #[vS b.1,vI b.2]) (vB (!(a==b)))):=fun o ρ x y ho hx hy=>by
  have e:(a==b)=((a.1==b.1)&&(a.2==b.2)):=rfl
  by_cases q1:a.1=b.1<;>by_cases q2:a.2=b.2<;>simp [execOp,ho,hx,hy,go_sem,Tryz.underlying42,Tryz.underlying41,u9_,u3_,e,aA9,q1,q2]
theorem toP {α:Type}{f:α->List Value}{c:Nat}{w:World}{B:Nat}{p:Option Addr}{cap:Nat}{L:List α}(h:SrcB f c w B p cap L) (hB:B<=w.heap.size):SrcP f c w p cap L:=⟨h.le,h.ca,h.at_.mono hB,h.nil⟩
abbrev aXN (Z:Ending->World->Prop):=AtO Tryz.prog (aAK Tryz.f14) (aBc (bodyPost Tryz.prog Tryz.f14 Z)) [] 26
theorem aHZ {w:World}{p1 p2:Option Addr}{c1 c2:Nat}{A B:List (Bys×Int)}(h1:SrcP rwL 2 w p1 c1 A) (h2:SrcP rwL 2 w p2 c2 B):Calls Tryz.prog 14 #[vL p1 A.length c1,vL p2 B.length c2] w fun e w'=>e = .returned (vB (A==B)) /\ Fr nF_ w w':=by
  have q1:=h1.bnd;have q2:=h2.bnd;refine beg Tryz.func14 rfl rfl [(0,vL p1 A.length c1),(1,vL p2 B.length c2)] rfl rfl fun Z hZ=>?_;have hM:=Mm.nil nF_ w;refine seg 1 5 [(10,vB (!((A.length:Int)==(B.length:Int))))] f0 ?_;cases aa:((A.length:Int)==(B.length:Int))
  ·have ae:=ef aa;exact rt1 4 (vB false) rfl f0 (hZ _ _ ⟨by rw [aSA (ef aa)],hM.fr⟩)
  have ae:=et aa;refine seg 4 0 [(5,vI 0)] f0 ?_
  have af:∀ (ab:Nat) (i:Nat) (w2:World),i<=A.length->A.take i=B.take i->Mm nF_ w w2 []->ab=A.length-i->aXN Z (some (4,0)) [(5,vI (i:Int)),(0,vL p1 A.length c1),(1,vL p2 B.length c2)] w2:=by
   refine aCC fun ab ag i w2 hi he hM am=>seg 4 4 [(14,vB (decide ((i:Int)<(A.length:Int))))] f0 ?_;cases ac:(decide ((i:Int)<(A.length:Int)))
   ·have ah:=df ac;exact rt1 4 (vB true) rfl f0 (hZ _ _ ⟨by rw [aOZ he (by omega) (by omega)],hM.fr⟩)
   have ah:=dt ac;refine seg 6 0 [] f0 ?_;have hM:=hM.q ((Fr.refl _ _).drew);obtain ⟨x1,hx1,an,ao,ai,aj⟩:=h1.el (i:=i) (by omega);obtain ⟨y1,hy1,ap,aq,ak,al⟩:=h2.el (i:=i) (by omega);refine drq [(25,vB (!(x1==y1)))] rfl (fc (ix 36 c1 ai (gl hx1)) (fc (la0 42 hM aj) (fc (ix 36 c2 ak (gl hy1)) (fc (la0 42 hM al) (fc (aT1 x1 y1) f0))))) ?_;cases ad:(x1==y1)
   ·exact rt1 4 (vB false) rfl f0 (hZ _ _ ⟨by rw [aUx hx1 hy1 (ef ad)],hM.fr⟩)
   refine seg 4 0 [(5,vI ((i:Int)+1))] (fc (aA8 (i:Int) 1 u3_) f0) (aAj _ (ag _ (by have:=gl hx1;omega) (i+1) _ (gl hx1) (aHQ he hx1 hy1 (et ad)) hM rfl))
  exact aAj _ (af _ 0 _ (Gg_ _) rfl hM rfl)
def aOF (h:Nat):Prop:=∀ {c:CdR}{w:World}{B:Nat},CdB w B h c->B<=w.heap.size->Calls Tryz.prog 26 #[vA (cdL c)] w fun e w'=>(∃ b,e = .returned (vB b)) /\ Fr nF_ w w'
def aOG (h:Nat):Prop:=∀ {c:CdR}{w:World}{B:Nat}{m:Int},CdB w B h c->B<=w.heap.size->0<=m->m<=80->Calls Tryz.prog 25 #[vA (cdL c),vI m] w fun e w'=>(∃ n:Int,e = .returned (vI n) /\ 1<=n /\ n<=m+1) /\ Fr nF_ w w'
abbrev aXL (Z:Ending->World->Prop):=AtO Tryz.prog (aAK Tryz.f26) (aBc (bodyPost Tryz.prog Tryz.f26 Z)) [] 28
theorem aLt {h:Nat}(ih:aOF h) {c:CdR}{w:World}{B:Nat}(hc:CdB w B (h+1) c) (hBw:B<=w.heap.size):Calls Tryz.prog 26 #[.agg (cY_ c)] w fun e w'=>(∃ b,e = .returned (vB b)) /\ Fr nF_ w w':=by
  have hq:=hc.2.2.1.bnd;refine beg Tryz.func26 rfl rfl [(0,.agg (cY_ c))] rfl rfl fun Z hZ=>?_;have hM:=Mm.nil nF_ w;refine aA1 0 0 1 [] (cs:=(cY_ c)) (T:=27) (v:=fun b=>vP b 0) f0 hM fun ac w1 hM=>seg 1 5 [(8,vB (decide (300<(c.key.length:Int))))] (fc (ldm 9 0 1 hM rfl rfl) (fc (aIO 9 c.key) f0)) ?_;cases ak:(decide (300<(c.key.length:Int)))
  rotate_left
  ·exact rt1 2 (vB false) rfl f0 (hZ _ _ ⟨⟨_,rfl⟩,hM.fr⟩)
  refine seg 1 10 [(13,vB (decide (300<(c.val.length:Int))))] (fc (ldm 9 0 2 hM rfl rfl) (fc (aIO 9 c.val) f0)) ?_;cases al:(decide (300<(c.val.length:Int)))
  rotate_left
  ·exact rt1 2 (vB false) rfl f0 (hZ _ _ ⟨⟨_,rfl⟩,hM.fr⟩)
  refine seg 4 0 [(3,vI 0)] f0 ?_
  have af:∀ (ad:Nat) (i:Nat) (w2:World),i<=c.kids.length->Mm nF_ w w2 [bk ac (cY_ c) 27]->ad=c.kids.length-i->aXL Z (some (4,0)) [(3,vI (i:Int)),(1,vP ac 0)] w2:=by
   refine aCC fun ad ag i w2 hi hM am=>seg 4 5 [(18,vB (decide ((i:Int)<(c.kids.length:Int))))] (fc (ldm 25 0 4 hM rfl rfl) f0) ?_;cases ae:(decide ((i:Int)<(c.kids.length:Int)))
   ·have ah:=df ae;exact rt1 2 (vB true) rfl f0 (hZ _ _ ⟨⟨_,rfl⟩,hM.fr⟩)
   have ah:=dt ae;obtain ⟨aa,ab,an,ao,ai,aj⟩:=(toP hc.2.2.1 hBw).el (i:=i) (by omega);refine aJQ 6 5 26 [(25,.agg (cY_ aa))] (K:=fun u w8=>∃ b,u=vB b) (fc (ldm 25 0 4 hM rfl rfl) (fc (ix 25 c.cap ai (gl ab)) (fc (la0 27 hM aj) f0))) hM ((ih ((hc.2.2.2 aa (gm ab)).g (fun _ h=>h.elim) hM.fr hBw) (Gn_ hBw hM.fr.size)).mono fun e w9 ⟨⟨b,h1⟩,h2⟩=>⟨⟨_,h1,b,rfl⟩,h2⟩) fun u w1 ⟨b9,hu⟩ hM f1=>?_;subst hu;refine seg 6 7 [(27,vB (!b9))] f0 ?_
   cases ap:b9 with
   | false =>
    exact rt1 2 (vB false) rfl f0 (hZ _ _ ⟨⟨_,rfl⟩,hM.fr⟩)
   | true =>
    refine seg 4 0 [(3,vI ((i:Int)+1))] (fc (aA8 (i:Int) 1 u3_) f0) (aAj _ (ag _ (by have:=gl ab;omega) (i+1) _ (gl ab) hM rfl))
  exact aAj _ (af _ 0 _ (Gg_ _) hM rfl)
theorem aKs:∀ h,aOF h
  | 0=>fun hc=>hc.elim
  | h+1=>fun hc hBw=>aLt (aKs h) hc hBw
abbrev aXM (Z:Ending->World->Prop):=AtO Tryz.prog (aAK Tryz.f25) (aBc (bodyPost Tryz.prog Tryz.f25 Z)) [] 31
theorem aLD {h:Nat}(ih:aOG h) {c:CdR}{w:World}{B:Nat}{m:Int}(hc:CdB w B (h+1) c) (hBw:B<=w.heap.size) (hm0:0<=m) (hm1:m<=80):Calls Tryz.prog 25 #[.agg (cY_ c),vI m] w fun e w'=>(∃ n:Int,e = .returned (vI n) /\ 1<=n /\ n<=m+1) /\ Fr nF_ w w':=by
  have hq:=hc.2.2.1.bnd;refine beg Tryz.func25 rfl rfl [(0,.agg (cY_ c)),(1,vI m)] rfl rfl fun Z hZ=>?_;have hM:=Mm.nil nF_ w;refine aA1 0 0 2 [] (cs:=(cY_ c)) (T:=27) (v:=fun b=>vP b 0) f0 hM fun ac w1 hM=>seg 3 0 [(5,vI 1),(6,vI 0)] f0 ?_
  have ag:∀ (ad:Nat) (i:Nat) (nn:Int) (w2:World),i<=c.kids.length->1<=nn->nn<=m+1->Mm nF_ w w2 [bk ac (cY_ c) 27]->ad=c.kids.length-i->aXM Z (some (3,0)) [(6,vI (i:Int)),(5,vI nn),(2,vP ac 0),(1,vI m)] w2:=by
   refine aCC fun ad ah i nn w2 hi hn0 hn hM am=>seg 3 6 [(12,vB (decide ((i:Int)<(c.kids.length:Int))))] (fc (ldm 25 0 4 hM rfl rfl) f0) ?_;cases ae:(decide ((i:Int)<(c.kids.length:Int)))
   ·have ai:=df ae;exact rt1 4 (vI nn) rfl f0 (hZ _ _ ⟨⟨_,rfl,by omega,by omega⟩,hM.fr⟩)
   have ai:=dt ae;refine seg 3 10 [(16,vB (decide (nn<=m)))] f0 ?_;cases af:(decide (nn<=m))
   ·have aj:=df af;exact rt1 4 (vI nn) rfl f0 (hZ _ _ ⟨⟨_,rfl,by omega,by omega⟩,hM.fr⟩)
   have aj:=dt af;obtain ⟨aa,ab,an,ao,ak,al⟩:=(toP hc.2.2.1 hBw).el (i:=i) (by omega);refine aJQ 5 9 28 [(19,vI nn),(24,.agg (cY_ aa)),(27,vI (m-nn))] (K:=fun u w8=>∃ n:Int,u=vI n /\ 1<=n /\ n<=(m-nn)+1) (fc (ldm 25 0 4 hM rfl rfl) (fc (ix 25 c.cap ak (gl ab)) (fc (la0 27 hM al) (fc (aDU m nn u3_) f0)))) hM ((ih (m:=(m-nn)) ((hc.2.2.2 aa (gm ab)).g (fun _ h=>h.elim) hM.fr hBw) (Gn_ hBw hM.fr.size) (by omega) (by omega)).mono fun e w9 ⟨⟨n,h1,h2,h3⟩,h4⟩=>⟨⟨_,h1,n,rfl,h2,h3⟩,h4⟩) fun u w1 ⟨n9,hu,hn1,hn2⟩ hM f1=>?_;subst hu;refine seg 3 0 [(5,vI (nn+n9)),(6,vI ((i:Int)+1))] (fc (aA8 nn n9 u3_) (fc (aA8 (i:Int) 1 u3_) f0)) (aAj _ (ah _ (by have:=gl ab;omega) (i+1) (nn+n9) _ (gl ab) (by omega) (by omega) hM rfl))
  exact aAj _ (ag _ 0 1 _ (Gg_ _) (by omega) (by omega) hM rfl)
theorem aKB:∀ h,aOG h
  | 0=>fun hc=>hc.elim
  | h+1=>fun hc hBw=>aLD (aKB h) hc hBw
theorem aH1 {h:Nat}{c:CdR}{w:World}{B:Nat}(hc:CdB w B h c) (hBw:B<=w.heap.size):Calls Tryz.prog 10 #[.agg (cY_ c)] w fun e w'=>(∃ b,e = .returned (vB b)) /\ Fr nF_ w w':=by
  refine beg Tryz.func10 rfl rfl [(0,.agg (cY_ c))] rfl rfl fun Z hZ=>?_;have hM:=Mm.nil nF_ w;refine aA1 0 0 1 [] (cs:=(cY_ c)) (T:=27) (v:=fun b=>vP b 0) f0 hM fun aa w1 hM=>aJQ 1 1 4 [(3,.agg (cY_ c))] (K:=fun u w8=>∃ n:Int,u=vI n /\ 1<=n /\ n<=81) (fc (lam 27 0 0 5 hM rfl) f0) hM ((aKB h (m:=80) (hc.g (fun _ h=>h.elim) hM.fr hBw) (Gn_ hBw hM.fr.size) (by omega) (by omega)).mono fun e w9 ⟨⟨n,h1,h2,h3⟩,h4⟩=>⟨⟨_,h1,n,rfl,h2,by omega⟩,h4⟩) fun u w1 ⟨n9,hu,hn1,hn2⟩ hM f1=>?_;subst hu;refine seg 1 4 [(6,vB (decide (n9<=80)))] f0 ?_;cases ab:(decide (n9<=80))
  ·exact rt1 2 (vB false) rfl f0 (hZ _ _ ⟨⟨_,rfl⟩,hM.fr⟩)
  refine aJQ 1 5 8 [(7,.agg (cY_ c))] (K:=fun u w8=>∃ b,u=vB b) (fc (lam 27 0 0 5 hM rfl) f0) hM ((aKs h (hc.g (fun _ h=>h.elim) hM.fr hBw) (Gn_ hBw hM.fr.size)).mono fun e w9 ⟨⟨b,h1⟩,h2⟩=>⟨⟨_,h1,b,rfl⟩,h2⟩) fun u w1 ⟨b9,hu⟩ hM f1=>?_;subst hu;exact rt1 2 (vB b9) rfl f0 (hZ _ _ ⟨⟨_,rfl⟩,hM.fr⟩)
theorem aJD {h:Nat}{q:QdR}{w:World}{B:Nat}(hq:QdIn w B h q) (hBw:B<=w.heap.size):Calls Tryz.prog 24 #[.agg (qY_ q)] w fun e w'=>(∃ b,e = .returned (vB b)) /\ Fr nF_ w w':=by
  refine beg Tryz.func24 rfl rfl [(0,.agg (qY_ q))] rfl rfl fun Z hZ=>?_;have hM:=Mm.nil nF_ w;refine aA1 0 0 1 [] (cs:=(qY_ q)) (T:=31) (v:=fun b=>vP b 0) f0 hM fun aa w1 hM=>aJQ 1 2 5 [(4,.agg #[vI q.wh.op,vS q.wh.key,vS q.wh.val,vI q.wh.n,vL q.wh.p q.wh.kids.length q.wh.cap])] (K:=fun u w8=>∃ b,u=vB b) (fc (lam 27 0 2 5 hM rfl) f0) hM ((aH1 (hq.fr hM.fr hBw).wh (Gn_ hBw hM.fr.size)).mono fun e w9 ⟨⟨b,h1⟩,h2⟩=>⟨⟨_,h1,b,rfl⟩,h2⟩) fun u w1 ⟨b9,hu⟩ hM f1=>?_;subst hu;refine seg 1 4 [(6,vB b9)] f0 ?_
  cases ab:b9 with
  | false =>
   exact rt1 2 (vB false) rfl f0 (hZ _ _ ⟨⟨_,rfl⟩,hM.fr⟩)
  | true =>
   exact rt1 2 (vB (decide ((IntKind.i64.wrap ((IntKind.i64.wrap ((q.id.length:Int)+(q.key.length:Int)))+(q.prof.length:Int)))<=300))) rfl (fc (ldm 9 0 7 hM rfl rfl) (fc (aIO 9 q.id) (fc (ldm 9 0 11 hM rfl rfl) (fc (aIO 9 q.key) (fc (aR3 (q.id.length:Int) (q.key.length:Int) u3_) (fc (ldm 9 0 12 hM rfl rfl) (fc (aIO 9 q.prof) (fc (aR3 (IntKind.i64.wrap ((q.id.length:Int)+(q.key.length:Int))) (q.prof.length:Int) u3_) f0)))))))) (hZ _ _ ⟨⟨_,rfl⟩,hM.fr⟩)
theorem aJC {h:Nat}{q:QdR}{w:World}{B:Nat}{v:Value}{os:List ObR}(hmO:aDr w v os) (hq:QdIn w B h q) (hBw:B<=w.heap.size):Calls Tryz.prog 9 #[.agg #[v],.agg (qY_ q)] w fun e w'=>(∃ b,e = .returned (vB b) /\ (b=true->aEz (aAa os) 30=true)) /\ Fr nF_ w w':=by
  obtain ⟨p0,cp0,hp0,-⟩:=hmO.1.op;subst hp0;refine beg Tryz.func9 rfl rfl [(0,.agg #[vL p0 os.length cp0]),(1,.agg (qY_ q))] rfl rfl fun Z hZ=>?_;have hM:=Mm.nil nF_ w;refine aA1 0 0 2 [] (cs:=#[vL p0 os.length cp0]) (T:=24) (v:=fun b=>vP b 0) f0 hM fun ab w1 hM=>aA1 0 1 3 [] (cs:=(qY_ q)) (T:=31) (v:=fun b=>vP b 0) f0 hM fun ac w1 hM=>aAw 1 1 6 [(5,.agg #[vL p0 os.length cp0])] (fc (lam 24 0 0 1 hM rfl) f0) hM (aJE (hmO.fr hM.fr) 30) fun w1 hM=>seg 1 3 [(7,vB (aEz (aAa os) 30))] f0 ?_;cases aa:(aEz (aAa os) 30)
  ·exact rt1 4 (vB false) rfl f0 (hZ _ _ ⟨⟨_,rfl,fun h9=>absurd h9 (by decide)⟩,hM.fr⟩)
  refine aJQ 1 4 9 [(8,.agg (qY_ q))] (K:=fun u w8=>∃ b,u=vB b) (fc (lam 31 1 0 14 hM rfl) f0) hM ((aJD (hq.fr hM.fr hBw) (Gn_ hBw hM.fr.size)).mono fun e w9 ⟨⟨b,h1⟩,h2⟩=>⟨⟨_,h1,b,rfl⟩,h2⟩) fun u w1 ⟨b9,hu⟩ hM f1=>?_;subst hu;exact rt1 4 (vB b9) rfl f0 (hZ _ _ ⟨⟨_,rfl,fun h9=>by rw [aa]⟩,hM.fr⟩)
def aDs (b:Nat):List ObR:=[⟨⟨[110,49],1,0,0,[],[]⟩,none,0,none,0⟩,⟨⟨[110,50],1,4,0,[],[]⟩,none,0,none,0⟩,⟨⟨[110,51],1,9,9,[],[]⟩,none,0,none,0⟩,⟨⟨[119,49],2,0,0,[[110,49],[110,50]],[]⟩,some ⟨b,0,none⟩,2,none,0⟩]
def aSM:CdR := .mk 1 [] [] 0 none 0 []
theorem aSL (w:World) (B:Nat):CdB w B 1 aSM:=⟨by unfold B63;decide,by unfold B63;decide,⟨Gk_ _,by decide,.inl rfl,fun _=>rfl⟩,fun _ h=>by cases h⟩
def qA:QdR:=⟨1,1,aSM,[],0,0,0,[],[],0⟩
def qB:QdR:=⟨3,1,aSM,[119,49],5,0,0,[],[],0⟩
def qC:QdR:=⟨4,0,aSM,[],2,9,8,[],[],0⟩
def qD:QdR:=⟨2,0,aSM,[119,49],0,0,0,[],[],0⟩
theorem aUJ {q:QdR}(w:World) (B:Nat) (h:q.wh=aSM) (h1:q.id.length<=9 /\ q.key.length<=9 /\ q.prof.length<=9):QdIn w B 1 q:=⟨by rw [h];exact aSL w B,by omega,by omega,by omega⟩
theorem aWv (b:Nat):aAn 1 (aDs b) qA=0 /\ aGl 1 qA (aDs b)=[([110,49],0),([110,50],0),([110,51],0)]:=⟨by kernel_rfl,by kernel_rfl⟩
theorem aWu (b:Nat):aAn 1 (aDs b) qD=13:=by kernel_rfl
theorem aVA (b:Nat):aAn 1 (aDs b) qB=0:=by kernel_rfl
theorem aV9 (b:Nat):aAn 1 (aDs b) qC=0:=by kernel_rfl
theorem aXB (b:Nat):aCn 1 qB (aDs b)=[([110,49],0),([110,50],0)]:=by kernel_rfl
theorem aXA (b:Nat):aCB 1 qC (aDs b)=[([110,51],1),([110,50],9)]:=by kernel_rfl
theorem aV8:ObB ⟨[119,49],2,0,0,[[110,49],[110,50]],[]⟩:=⟨by unfold B63;decide,by unfold B63;decide,by unfold B63;decide⟩
theorem aEK {w:World}(id:Bys) (x y:Int):Calls Tryz.prog 53 #[vS id,vI x,vI y] w fun e w'=>e = .returned (.agg #[vS id,vI 1,vI x,vI y,vL none 0 0,vL none 0 0]) /\ Fr nF_ w w':=by
 refine beg Tryz.func53 rfl rfl [(0,vS id),(1,vI x),(2,vI y)] rfl rfl fun Z hZ=>?_;have hM:=Mm.nil nF_ w;refine aA1 0 0 6 [] (cs:=#[vS [],vI 0,vI 0,vI 0,vL none 0 0,vL none 0 0]) (T:=48) (v:=fun b=>vP b 0) f0 hM fun aa w1 hM=>stm 1 5 [(11,.agg #[vS id,vI 1,vI x,vI y,vL none 0 0,vL none 0 0])] 48 0 0 (.agg #[vS id,vI 1,vI x,vI y,vL none 0 0,vL none 0 0]) f0 hM rfl fun w1 hM=>rtc 6 48 rfl (aBW 48 0 hM rfl rfl) f0 (hZ _ _ ⟨rfl,hM.fr⟩)
theorem aDR (w:World):Calls Tryz.prog 11 #[] w fun e w'=>e = .returned (vA (cdL aSM)) /\ Fr nF_ w w':=by
 refine beg Tryz.func11 rfl rfl [] rfl rfl fun Z hZ=>?_;have hM:=Mm.nil nF_ w;refine aA1 0 0 0 [] (cs:=#[vI 0,vS [],vS [],vI 0,vL none 0 0]) (T:=27) (v:=fun b=>vP b 0) f0 hM fun aa w1 hM=>stm 1 1 [(1,.agg #[vI 1,vS [],vS [],vI 0,vL none 0 0])] 27 0 0 (.agg #[vI 1,vS [],vS [],vI 0,vL none 0 0]) f0 hM rfl fun w1 hM=>rtc 0 27 rfl (aBW 27 0 hM rfl rfl) f0 (hZ _ _ ⟨rfl,hM.fr⟩)
theorem aGw (w:World):Calls Tryz.prog 22 #[] w fun e w'=>∃ v b,e = .returned (.agg #[v]) /\ aDr w' v (aDs b) /\ Fr nF_ w w':=by
 refine beg Tryz.func22 rfl rfl [] rfl rfl fun Z hZ=>?_;have hM:=Mm.nil nF_ w;refine aA1 0 0 0 [] (cs:=#[vL none 0 0]) (T:=24) (v:=fun b=>vP b 0) f0 hM fun ac w1 hM=>aAw 2 1 3 [(1,.func (.func 53) #[] #[]),(2,.func (.func 53) #[] #[])] f0 hM (aEK [110,49] 0 0) fun w1 hM=>aAw 2 3 5 [(4,.func (.func 53) #[] #[])] f0 hM (aEK [110,50] 4 0) fun w1 hM=>aAw 2 5 7 [(6,.func (.func 53) #[] #[])] f0 hM (aEK [110,51] 9 9) fun w1 hM=>aA1 2 6 8 [] (cs:=#[vS [110,49],vS [110,50]]) (T:=9) (v:=fun b=>vL (some ⟨b,0,none⟩) 2 2) f0 hM fun aa w1 hM=>aA1 2 8 10 [(9,.agg #[vS [119,49],vI 2,vI 0,vI 0,vL (some ⟨aa,0,none⟩) 2 2,vL none 0 0])] (cs:=#[vS [110,49],vI 1,vI 0,vI 0,vL none 0 0,vL none 0 0,vS [110,50],vI 1,vI 4,vI 0,vL none 0 0,vL none 0 0,vS [110,51],vI 1,vI 9,vI 9,vL none 0 0,vL none 0 0,vS [119,49],vI 2,vI 0,vI 0,vL (some ⟨aa,0,none⟩) 2 2,vL none 0 0]) (T:=48) (v:=fun b=>vL (some ⟨b,0,none⟩) 4 4) f0 hM fun ab w1 hM=>stm 2 10 [(11,.agg #[vL (some ⟨ab,0,none⟩) 4 4])] 24 0 0 (.agg #[vL (some ⟨ab,0,none⟩) 4 4]) f0 hM rfl fun w1 hM=>?_
 have hOb:∀ b∈aDs aa,ObIn w1 b:=by
  intro b hb;unfold aDs at hb;simp only [List.mem_cons,List.not_mem_nil,or_false] at hb;rcases hb with rfl | rfl | rfl | rfl
  ·exact aHq _ _ _ _ _ (by unfold B63;decide)
  ·exact aHq _ _ _ _ _ (by unfold B63;decide)
  ·exact aHq _ _ _ _ _ (by unfold B63;decide)
  ·exact ⟨aBO (hM.get 1 rfl) _ 2 (fun _=>rfl) rfl rfl,⟨Gk_ _,Gg_ _,.inl rfl,fun _=>rfl⟩,aV8⟩
 have hSr:=aBO (f:=obL) (c:=6) (hM.get 2 rfl) (aDs aa) 4 (fun _=>rfl) rfl rfl;exact rtc 0 24 rfl (aBW 24 0 hM rfl rfl) f0 (hZ _ _ ⟨_,aa,rfl,⟨⟨_,_,rfl,hSr.le,hSr.ca,hSr.at_,hSr.nil⟩,hOb⟩,hM.fr⟩)
theorem aVs {w:World}{v:Value}{b:Nat}(hmO:aDr w v (aDs b)) (hTe:Te w):Calls Tryz.prog 12 #[.agg #[v],vA (qdL qA)] w fun e w'=>∃ u z e',e = .returned (.tuple #[u,vI z]) /\ rwK ([([110,49],0),([110,50],0),([110,51],0)]:List (Bys×Int)) u z e' /\ Mm nF_ w w' [e'] :=
 (aL6 (q:=qA) hmO (aUJ w 0 rfl (by decide)) (Gg_ _) hTe (by unfold aDs;simp) rfl).mono fun e w' ⟨u,h1,h2⟩=>by
  rw [(aWv b).1] at h1 h2;rw [(aWv b).2] at h2;exact ⟨u,0,_,h1,⟨rfl,rfl⟩,h2⟩
theorem aVr {w:World}{v:Value}{b:Nat}(hmO:aDr w v (aDs b)) (hTe:Te w):Calls Tryz.prog 12 #[.agg #[v],vA (qdL qB)] w fun e w'=>∃ u z e',e = .returned (.tuple #[u,vI z]) /\ rwK ([([110,49],0),([110,50],0)]:List (Bys×Int)) u z e' /\ Mm nF_ w w' [e'] :=
 (aL4 (q:=qB) hmO (aUJ w 0 rfl (by decide)) (Gg_ _) hTe (by unfold aDs;simp) rfl).mono fun e w' ⟨u,h1,h2⟩=>by
  rw [aVA b] at h1 h2;rw [aXB b] at h2;exact ⟨u,0,_,h1,⟨rfl,rfl⟩,h2⟩
theorem aVq {w:World}{v:Value}{b:Nat}(hmO:aDr w v (aDs b)) (hTe:Te w):Calls Tryz.prog 12 #[.agg #[v],vA (qdL qC)] w fun e w'=>∃ u z e',e = .returned (.tuple #[u,vI z]) /\ rwK ([([110,51],1),([110,50],9)]:List (Bys×Int)) u z e' /\ Mm nF_ w w' [e'] :=
 (aDG (q:=qC) hmO (aUJ w 0 rfl (by decide)) (Gg_ _) hTe (by unfold aDs;simp) rfl).mono fun e w' ⟨u,h1,h2⟩=>by
  rw [aV9 b] at h1 h2;rw [aXA b] at h2;exact ⟨u,0,_,h1,⟨rfl,rfl⟩,h2⟩
theorem aVp {w:World}{v:Value}{b:Nat}(hmO:aDr w v (aDs b)):Calls Tryz.prog 12 #[.agg #[v],vA (qdL qD)] w fun e w'=>∃ u z e',e = .returned (.tuple #[u,vI z]) /\ (z=13 /\ e'=rw_ rwL 2 42 u []) /\ Mm nF_ w w' [e'] :=
 (aL5 (q:=qD) hmO (aUJ w 0 rfl (by decide)) (Gg_ _) (by rw [aWu b];decide)).mono fun e w' ⟨u,h1,h2⟩=>by
  rw [aWu b] at h1;exact ⟨u,13,_,h1,⟨rfl,rfl⟩,h2⟩
theorem aCO {w:World}{p1 p2:Option Addr}{c1 c2:Nat}{A B:List (Bys×Int)}(h1:SrcP rwL 2 w p1 c1 A) (h2:SrcP rwL 2 w p2 c2 B) (hq:(A==B)=true):Calls Tryz.prog 14 #[vL p1 A.length c1,vL p2 B.length c2] w fun e w'=>e = .returned (vB true) /\ Fr nF_ w w' :=
 (aHZ h1 h2).mono fun e w' ⟨a,b⟩=>⟨by rw [a,hq],b⟩
theorem aJ6 {w:World}(hTe:Te w):Calls Tryz.prog 8 #[] w fun e w'=>e = .returned (vB true) /\ Fr nF_ w w':=by
 refine beg Tryz.func8 rfl rfl [] rfl rfl fun Y hY=>?_;have hM:=Mm.nil nF_ w;refine aJQ 1 0 11 [] (K:=fun u w8=>∃ v b,u = .agg #[v] /\ aDr w8 v (aDs b)) f0 hM ((aGw _).mono fun e w9 ⟨v,b,h1,h2,h3⟩=>⟨⟨_,h1,v,b,rfl,h2⟩,h3⟩) fun u w9 ⟨v,b,hu,hmO⟩ hM9 f9=>?_;subst hu;have hY:∀ e w',(e = .returned (vB true) /\ Fr nF_ w9 w')->Y e w':=fun e w' h=>hY e w' ⟨h.1,f9.trans h.2⟩;have hTe:=hTe.fr f9;clear hM9 f9;obtain ⟨w,rfl⟩:∃ z:World,z=w9:=⟨_,rfl⟩;have hM:=Mm.nil nF_ w;obtain ⟨p0,cp0,hp0,-⟩:=hmO.1.op;subst hp0;refine aDq 1 1 1 [] [] 24 (.agg #[vL p0 (aDs b).length cp0]) f0 hM fun aa w1 hM=>seg 2 0 [] f0 ?_;have hM:=hM.nl;refine drx [1,3] (fun Z=>[some (.agg #[vI 1,vS [],vS [],vI 0,vL none 0 0]),some (.tuple #[(tp0 (Z 1)),vI (tp1 (Z 1))])]) _ (fun Z l=>[bk aa #[vL p0 (aDs b).length cp0] 24,(bif l.getD 1 false then pfE ((rwK ([([110,49],0),([110,50],0),([110,51],0)]:List (Bys×Int))) (tp0 (Z 1)) (tp1 (Z 1))) (Z.e 1) else aEk)]) (fun Z=>[(2,(tp0 (Z 1))),(3,vI (tp1 (Z 1)))]) hM (fun Z=>rfl) (fun Z l w5 hM=>(fc (lam 24 0 0 1 hM rfl) f0)) ⟨aA0 0 1 14 (f:=11) (fun Z=>#[]) (.agg #[vI 1,vS [],vS [],vI 0,vL none 0 0]) (fun Z fr wm hM=>(aDR _)),aHA 1 3 1 16 (f:=12) (fun Z=>#[.agg #[vL p0 (aDs b).length cp0],.agg #[vI 1,vI 1,vI 1,vS [],vS [],vI 0,vL none 0 0,vS [],vI 0,vI 0,vI 0,vS [],vS [],vI 0]]) (rwK ([([110,49],0),([110,50],0),([110,51],0)]:List (Bys×Int))) (fun Z fr wm hM=>(aVs (hmO.fr hM.fr) (hTe.fr hM.fr))),trivial⟩ fun ab w1 hM=>?_;replace hM:Mm nF_ w w1 [bk aa #[vL p0 (aDs b).length cp0] 24,pfE ((rwK ([([110,49],0),([110,50],0),([110,51],0)]:List (Bys×Int))) (tp0 (ab 1)) (tp1 (ab 1))) (ab.e 1)]:=hM;obtain ⟨⟨hz9,hge⟩,hM⟩:=hM.unpf (j:=1) rfl;rw [hge] at hM;obtain ⟨vA,hvA⟩:∃ z,z=tp0 (ab 1):=⟨_,rfl⟩;rw [←hvA] at hM;rw [hz9,←hvA];clear hvA hz9 hge;replace hM:Mm nF_ w _ [bk aa #[vL p0 (aDs b).length cp0] 24,_]:=hM;obtain ⟨qA,cA,e9,-⟩:=(hM.src (j:=1) rfl rwT.len).op;subst e9;refine seg 3 0 [] f0 ?_;have hM:=hM.nl;refine drx [1,3] (fun Z=>[some (.agg #[vI 1,vS [],vS [],vI 0,vL none 0 0]),some (.tuple #[(tp0 (Z 1)),vI (tp1 (Z 1))])]) _ (fun Z l=>[bk aa #[vL p0 (aDs b).length cp0] 24,rw_ rwL 2 42 (vL qA ([([110,49],0),([110,50],0),([110,51],0)]:List (Bys×Int)).length cA) ([([110,49],0),([110,50],0),([110,51],0)]:List (Bys×Int)),(bif l.getD 1 false then pfE ((rwK ([([110,49],0),([110,50],0)]:List (Bys×Int))) (tp0 (Z 1)) (tp1 (Z 1))) (Z.e 1) else aEk)]) (fun Z=>[(4,(tp0 (Z 1))),(5,vI (tp1 (Z 1)))]) hM (fun Z=>rfl) (fun Z l w5 hM=>(fc (lam 24 0 0 1 hM rfl) f0)) ⟨aA0 0 1 21 (f:=11) (fun Z=>#[]) (.agg #[vI 1,vS [],vS [],vI 0,vL none 0 0]) (fun Z fr wm hM=>(aDR _)),aHA 1 3 2 23 (f:=12) (fun Z=>#[.agg #[vL p0 (aDs b).length cp0],.agg #[vI 3,vI 1,vI 1,vS [],vS [],vI 0,vL none 0 0,vS [119,49],vI 5,vI 0,vI 0,vS [],vS [],vI 0]]) (rwK ([([110,49],0),([110,50],0)]:List (Bys×Int))) (fun Z fr wm hM=>(aVr (hmO.fr hM.fr) (hTe.fr hM.fr))),trivial⟩ fun ac w1 hM=>?_;replace hM:Mm nF_ w w1 [bk aa #[vL p0 (aDs b).length cp0] 24,_,pfE ((rwK ([([110,49],0),([110,50],0)]:List (Bys×Int))) (tp0 (ac 1)) (tp1 (ac 1))) (ac.e 1)]:=hM;obtain ⟨⟨hz9,hge⟩,hM⟩:=hM.unpf (j:=2) rfl;rw [hge] at hM;obtain ⟨vB,hvB⟩:∃ z,z=tp0 (ac 1):=⟨_,rfl⟩;rw [←hvB] at hM;rw [hz9,←hvB];clear hvB hz9 hge;replace hM:Mm nF_ w _ [bk aa #[vL p0 (aDs b).length cp0] 24,_,_]:=hM;obtain ⟨qB,cB,e9,-⟩:=(hM.src (j:=2) rfl rwT.len).op;subst e9;refine seg 4 0 [] f0 ?_;have hM:=hM.nl;refine drx [1,4] (fun Z=>[some (.agg #[vI 1,vS [],vS [],vI 0,vL none 0 0]),some (.tuple #[(tp0 (Z 1)),vI (tp1 (Z 1))])]) _ (fun Z l=>[bk aa #[vL p0 (aDs b).length cp0] 24,rw_ rwL 2 42 (vL qA ([([110,49],0),([110,50],0),([110,51],0)]:List (Bys×Int)).length cA) ([([110,49],0),([110,50],0),([110,51],0)]:List (Bys×Int)),rw_ rwL 2 42 (vL qB ([([110,49],0),([110,50],0)]:List (Bys×Int)).length cB) ([([110,49],0),([110,50],0)]:List (Bys×Int)),(bif l.getD 1 false then pfE ((rwK ([([110,51],1),([110,50],9)]:List (Bys×Int))) (tp0 (Z 1)) (tp1 (Z 1))) (Z.e 1) else aEk)]) (fun Z=>[(6,(tp0 (Z 1))),(7,vI (tp1 (Z 1)))]) hM (fun Z=>rfl) (fun Z l w5 hM=>(fc (lam 24 0 0 1 hM rfl) f0)) ⟨aA0 0 1 28 (f:=11) (fun Z=>#[]) (.agg #[vI 1,vS [],vS [],vI 0,vL none 0 0]) (fun Z fr wm hM=>(aDR _)),aHA 1 4 3 31 (f:=12) (fun Z=>#[.agg #[vL p0 (aDs b).length cp0],.agg #[vI 4,vI 0,vI 1,vS [],vS [],vI 0,vL none 0 0,vS [],vI 2,vI 9,vI 8,vS [],vS [],vI 0]]) (rwK ([([110,51],1),([110,50],9)]:List (Bys×Int))) (fun Z fr wm hM=>(aVq (hmO.fr hM.fr) (hTe.fr hM.fr))),trivial⟩ fun ad w1 hM=>?_;replace hM:Mm nF_ w w1 [bk aa #[vL p0 (aDs b).length cp0] 24,_,_,pfE ((rwK ([([110,51],1),([110,50],9)]:List (Bys×Int))) (tp0 (ad 1)) (tp1 (ad 1))) (ad.e 1)]:=hM;obtain ⟨⟨hz9,hge⟩,hM⟩:=hM.unpf (j:=3) rfl;rw [hge] at hM;obtain ⟨vC,hvC⟩:∃ z,z=tp0 (ad 1):=⟨_,rfl⟩;rw [←hvC] at hM;rw [hz9,←hvC];clear hvC hz9 hge;replace hM:Mm nF_ w _ [bk aa #[vL p0 (aDs b).length cp0] 24,_,_,_]:=hM;obtain ⟨qC,cC,e9,-⟩:=(hM.src (j:=3) rfl rwT.len).op;subst e9;refine seg 5 0 [] f0 ?_;have hM:=hM.nl;refine drx [1,3] (fun Z=>[some (.agg #[vI 1,vS [],vS [],vI 0,vL none 0 0]),some (.tuple #[(tp0 (Z 1)),vI (tp1 (Z 1))])]) _ (fun Z l=>[bk aa #[vL p0 (aDs b).length cp0] 24,rw_ rwL 2 42 (vL qA ([([110,49],0),([110,50],0),([110,51],0)]:List (Bys×Int)).length cA) ([([110,49],0),([110,50],0),([110,51],0)]:List (Bys×Int)),rw_ rwL 2 42 (vL qB ([([110,49],0),([110,50],0)]:List (Bys×Int)).length cB) ([([110,49],0),([110,50],0)]:List (Bys×Int)),rw_ rwL 2 42 (vL qC ([([110,51],1),([110,50],9)]:List (Bys×Int)).length cC) ([([110,51],1),([110,50],9)]:List (Bys×Int)),(bif l.getD 1 false then pfE ((fun u z e=>z=13 /\ e=rw_ rwL 2 42 u []) (tp0 (Z 1)) (tp1 (Z 1))) (Z.e 1) else aEk)]) (fun Z=>[(9,vI (tp1 (Z 1)))]) hM (fun Z=>rfl) (fun Z l w5 hM=>(fc (lam 24 0 0 1 hM rfl) f0)) ⟨aA0 0 1 36 (f:=11) (fun Z=>#[]) (.agg #[vI 1,vS [],vS [],vI 0,vL none 0 0]) (fun Z fr wm hM=>(aDR _)),aHA 1 3 4 38 (f:=12) (fun Z=>#[.agg #[vL p0 (aDs b).length cp0],.agg #[vI 2,vI 0,vI 1,vS [],vS [],vI 0,vL none 0 0,vS [119,49],vI 0,vI 0,vI 0,vS [],vS [],vI 0]]) (fun u z e=>z=13 /\ e=rw_ rwL 2 42 u []) (fun Z fr wm hM=>(aVp (hmO.fr hM.fr))),trivial⟩ fun ae w1 hM=>?_;replace hM:Mm nF_ w w1 [bk aa #[vL p0 (aDs b).length cp0] 24,_,_,_,pfE ((fun u z e=>z=13 /\ e=rw_ rwL 2 42 u []) (tp0 (ae 1)) (tp1 (ae 1))) (ae.e 1)]:=hM;obtain ⟨⟨hz9,hge⟩,hM⟩:=hM.unpf (j:=4) rfl;rw [hge] at hM;obtain ⟨vD,hvD⟩:∃ z,z=tp0 (ae 1):=⟨_,rfl⟩;rw [←hvD] at hM;rw [hz9];clear hvD hz9 hge;replace hM:Mm nF_ w _ [bk aa #[vL p0 (aDs b).length cp0] 24,_,_,_,_]:=hM;obtain ⟨qD,cD,e9,-⟩:=(hM.src (j:=4) rfl rwT.len).op;subst e9;refine aA1 6 7 48 [(43,vB true),(44,vL qA ([([110,49],0),([110,50],0),([110,51],0)]:List (Bys×Int)).length cA),(45,.agg #[vS [110,49],vI 0]),(46,.agg #[vS [110,50],vI 0]),(47,.agg #[vS [110,51],vI 0])] (cs:=#[vS [110,49],vI 0,vS [110,50],vI 0,vS [110,51],vI 0]) (T:=42) (v:=fun b=>vL (some ⟨b,0,none⟩) 3 3) f0 hM fun af w1 hM=>aAw 6 8 49 [] f0 hM (aCO (A:=([([110,49],0),([110,50],0),([110,51],0)]:List (Bys×Int))) (B:=([([110,49],0),([110,50],0),([110,51],0)]:List (Bys×Int))) (((hM.src (j:=1) rfl rwT.len).p).2) (aBO (f:=rwL) (c:=2) (hM.get 5 rfl) ([([110,49],0),([110,50],0),([110,51],0)]:List (Bys×Int)) 3 (fun _=>rfl) rfl rfl) (by kernel_rfl)) fun w1 hM=>aA1 6 18 59 [(55,vB true),(56,vL qB ([([110,49],0),([110,50],0)]:List (Bys×Int)).length cB),(57,.agg #[vS [110,49],vI 0]),(58,.agg #[vS [110,50],vI 0])] (cs:=#[vS [110,49],vI 0,vS [110,50],vI 0]) (T:=42) (v:=fun b=>vL (some ⟨b,0,none⟩) 2 2) f0 hM fun ag w1 hM=>aAw 6 19 60 [] f0 hM (aCO (A:=([([110,49],0),([110,50],0)]:List (Bys×Int))) (B:=([([110,49],0),([110,50],0)]:List (Bys×Int))) (((hM.src (j:=2) rfl rwT.len).p).2) (aBO (f:=rwL) (c:=2) (hM.get 6 rfl) ([([110,49],0),([110,50],0)]:List (Bys×Int)) 2 (fun _=>rfl) rfl rfl) (by kernel_rfl)) fun w1 hM=>aA1 7 9 71 [(67,vB true),(68,vL qC ([([110,51],1),([110,50],9)]:List (Bys×Int)).length cC),(69,.agg #[vS [110,51],vI 1]),(70,.agg #[vS [110,50],vI 9])] (cs:=#[vS [110,51],vI 1,vS [110,50],vI 9]) (T:=42) (v:=fun b=>vL (some ⟨b,0,none⟩) 2 2) f0 hM fun ah w1 hM=>aAw 7 10 72 [] f0 hM (aCO (A:=([([110,51],1),([110,50],9)]:List (Bys×Int))) (B:=([([110,51],1),([110,50],9)]:List (Bys×Int))) (((hM.src (j:=3) rfl rwT.len).p).2) (aBO (f:=rwL) (c:=2) (hM.get 7 rfl) ([([110,51],1),([110,50],9)]:List (Bys×Int)) 2 (fun _=>rfl) rfl rfl) (by kernel_rfl)) fun w1 hM=>rt1 0 (vB true) rfl f0 (hY _ _ ⟨rfl,hM.fr⟩)
def aCg (q:QdR) (n:Int):QdR:={ q with n:=n }
theorem aMr {w:World}{B h:Nat}{q:QdR}(hq:QdIn w B h q) (n:Int):QdIn w B h (aCg q n):=⟨hq.wh,hq.id,hq.key,hq.prof⟩
theorem aTH {os:List ObR}(hv:aAl (aAa os)=true):(mkS os).Pairwise fun a b=>blt a.o.o.id b.o.o.id=true:=by
 have h1:=aBl hv;unfold aAa at h1;rw [List.pairwise_map] at h1;unfold mkS;rw [List.pairwise_map];exact h1.filter _
theorem aTI (os:List ObR):aEC (aAa os) os (mkS os):=by
 unfold aEC mkS;rw [List.map_map];exact List.map_id _
theorem aT6 {os:List ObR}(hv:aAl (aAa os)=true) {b:ObR}(hb:b∈os):aAg (aAa os) b.o.id=aAP (aAa os) b.o:=by
 have hm:b.o∈aAa os:=List.mem_map.2 ⟨b,hb,rfl⟩;have hf:=aDK (aBl hv) hm;obtain ⟨k,o,h1,h2,h3⟩:=aBi (l:=aAa os) (id:=b.o.id) hf.1;have ho:o=b.o:=aNs (aBl hv) (Ge_ h2) hm h3;unfold aAg;rw [hv,h1,decide_eq_false (by omega),Gt_,h2,ho];rfl
theorem aPY {l:List ObR}{id:Bys}{a b:Nat}(hp:(aAa l).Pairwise fun x y=>blt x.id y.id=true) (ha:∀ j y,j<a->l[j]?=some y->blt y.o.id id=true) (hb:∀ j y,b<=j->l[j]?=some y->blt y.o.id id=false) (hab:b<=a):(∀ z,l[a]?=some z->z.o.id=id->aAp (aAa l) id=(a:Int)) /\ ((∀ z,l[a]?=some z->¬ z.o.id=id)->aAp (aAa l) id = -1):=by
  constructor
  · intro z hz e
    obtain ⟨q1,q2⟩:=aDK hp (gm (aAv hz));rw [e] at q1;obtain ⟨k,o,hk,ho,he⟩:=aBi q1;rw [hk];have hal:a<(aAa l).length:=gl (aAv hz);have hkl:k<(aAa l).length:=gl ho;rcases Nat.lt_trichotomy k a with h | h | h
    · have:=List.pairwise_iff_getElem.1 hp k a hkl hal h
      rw [(List.getElem?_eq_some_iff.1 ho).2,(List.getElem?_eq_some_iff.1 (aAv hz)).2,he,e,aAz] at this;cases this
    · rw [h]
    · have:=List.pairwise_iff_getElem.1 hp a k hal hkl h
      rw [(List.getElem?_eq_some_iff.1 ho).2,(List.getElem?_eq_some_iff.1 (aAv hz)).2,he,e,aAz] at this;cases this
  · intro hn
    by_cases q:aAp (aAa l) id<0
    · unfold aAp at q ⊢
      cases h:(aAa l).findIdx? (fun o=>o.id==id) with
      | none=>rfl
      | some i=>rw [h] at q;exact absurd q (by show ¬ (i:Int)<0;omega)
    · obtain ⟨k,o,hk,ho,he⟩:=aBi q
      have hkl:k<l.length:=by rw [←aAJ];exact gl ho
      obtain ⟨z,hz⟩:=geb (l:=l) (i:=k) hkl;have hzo:z.o=o:=by have:=aAv hz;rw [ho] at this;exact (Gi_ this).symm
      by_cases h1:k<a
      · have:=ha k z h1 hz
        rw [hzo,he,aAz] at this;cases this
      · by_cases h2:k=a
        · subst h2;exact absurd (by rw [hzo,he]) (hn z hz)
        · have hal:a<l.length:=by omega
          obtain ⟨u,hu⟩:=geb (l:=l) (i:=a) hal;have h3:=hb a u hab hu;have h4:=List.pairwise_iff_getElem.1 hp a k (by rw [aAJ];exact hal) (gl ho) (by omega);rw [(List.getElem?_eq_some_iff.1 ho).2,(List.getElem?_eq_some_iff.1 (aAv hu)).2,he,h3] at h4;cases h4
theorem aTJ {l:List ObR}{id:Bys}{a c:Nat}{y:ObR}(hp:(aAa l).Pairwise fun x y=>blt x.id y.id=true) (hy:l[c]?=some y) (h:blt y.o.id id=true):∀ j z,j<c+1->l[j]?=some z->blt z.o.id id=true:=fun j z hj hz=>by
  by_cases e:j=c
  · subst e;rw [hy] at hz;cases hz;exact h
  · have h4:=List.pairwise_iff_getElem.1 hp j c (gl (aAv hz)) (gl (aAv hy)) (by omega)
    rw [(List.getElem?_eq_some_iff.1 (aAv hz)).2,(List.getElem?_eq_some_iff.1 (aAv hy)).2] at h4;exact aCY h4 h
theorem aTK {l:List ObR}{id:Bys}{c:Nat}{y:ObR}(hp:(aAa l).Pairwise fun x y=>blt x.id y.id=true) (hy:l[c]?=some y) (h:blt y.o.id id=false):∀ j z,c<=j->l[j]?=some z->blt z.o.id id=false:=fun j z hj hz=>by
  by_cases e:j=c
  · subst e;rw [hy] at hz;cases hz;exact h
  · have h4:=List.pairwise_iff_getElem.1 hp c j (gl (aAv hy)) (gl (aAv hz)) (by omega)
    rw [(List.getElem?_eq_some_iff.1 (aAv hz)).2,(List.getElem?_eq_some_iff.1 (aAv hy)).2] at h4
    cases hq:blt z.o.id id with
    | false=>rfl
    | true=>rw [aCY h4 hq] at h;cases h
abbrev aVY (Z:Ending->World->Prop):=AtO Tryz.prog (aAK Tryz.f130) (aBc (bodyPost Tryz.prog Tryz.f130 Z)) [] 45
theorem aHk {w:World}{v:Value}{l:List ObR}(hm:aDr w v l) (hl:l.length<=1000000) (hp:(aAa l).Pairwise fun x y=>blt x.id y.id=true) (id:Bys):Calls Tryz.prog 130 #[.agg #[v],vS id] w fun e w'=>e = .returned (vI (aAp (aAa l) id)) /\ Fr nF_ w w':=by
  have hm0:=hm;obtain ⟨hs0,hob⟩:=hm0;obtain ⟨p0,cp0,hp0,sp0⟩:=hs0.op;subst hp0;refine beg Tryz.func130 rfl rfl [(0,.agg #[vL p0 l.length cp0]),(1,vS id)] rfl rfl fun Z hZ=>?_;have hM:=Mm.nil nF_ w;refine aA1 0 0 2 [] (cs:=#[vL p0 l.length cp0]) (T:=24) (v:=fun b=>vP b 0) f0 hM fun aa w1 hM=>seg 3 0 [(5,vI 0),(6,vI (l.length:Int))] (fc (ldm 22 0 0 hM rfl rfl) f0) ?_
  have ah:∀ (ab:Nat) (a:Nat) (b:Nat) (w2:World),a<=b->b<=l.length->(∀ j y,j<a->l[j]?=some y->blt y.o.id id=true)->(∀ j y,b<=j->l[j]?=some y->blt y.o.id id=false)->Mm nF_ w w2 [bk aa #[vL p0 l.length cp0] 24]->ab=b-a->aVY Z (some (3,0)) [(6,vI (b:Int)),(5,vI (a:Int)),(2,vP aa 0),(1,vS id)] w2:=by
   refine aCC fun ab ac a b w2 hab hb1 ha hb hM ao=>seg 3 3 [(13,vB (decide ((a:Int)<(b:Int))))] f0 ?_;cases ad:(decide ((a:Int)<(b:Int)))
   rotate_left
   ·have ai:=dt ad;obtain ⟨c,hc⟩:∃ c:Nat,((a:Int)+(b:Int)) / 2=(c:Int):=⟨(a+b) / 2,by omega⟩;obtain ⟨y,hy,ap,aq,aj,ak⟩:=sp0.el (i:=c) (by omega);refine seg 5 8 [(7,vI (c:Int)),(25,vB (blt y.o.id id))] (fc (aA8 (a:Int) (b:Int) u3_) (fc (hc▸aWP ((a:Int)+(b:Int)) 2 u3_) (fc (ldm 22 0 0 hM rfl rfl) (fc (ix 22 cp0 aj (gl hy)) (fc (ld0 9 hM (ak 0 _ rfl)) (fc (slt 9 y.o.id id) f0)))))) ?_;cases ae:(blt y.o.id id)
    ·refine seg 3 0 [(6,vI (c:Int))] f0 (aAj _ (ac _ (by omega) a c _ (by omega) (by omega) ha (aTK hp hy ae) hM rfl))
    refine seg 3 0 [(5,vI ((c:Int)+1))] (fc (aA8 (c:Int) 1 u3_) f0) (aAj _ (ac _ (by omega) (c+1) b _ (by omega) hb1 (aTJ (a:=a) hp hy ae) hb hM rfl))
   have ai:=df ad;obtain ⟨hf1,hf2⟩:=aPY hp ha hb (by omega);refine seg 8 6 [(34,vB (decide ((a:Int)<(l.length:Int))))] (fc (ldm 22 0 0 hM rfl rfl) f0) ?_;cases af:(decide ((a:Int)<(l.length:Int)))
   ·have al:=df af;exact rt1 4 (vI (-1)) rfl f0 (hZ _ _ ⟨by rw [hf2 fun z hz=>absurd (gl hz) (by omega)],hM.fr⟩)
   have al:=dt af;obtain ⟨z,hz,ar,au,am,an⟩:=sp0.el (i:=a) (by omega);refine seg 8 15 [(43,vB (z.o.id==id))] (fc (ldm 22 0 0 hM rfl rfl) (fc (ix 22 cp0 am (gl hz)) (fc (ld0 9 hM (an 0 _ rfl)) (fc (seq 9 z.o.id id) f0)))) ?_;cases ag:(z.o.id==id)
   ·exact rt1 4 (vI (-1)) rfl f0 (hZ _ _ ⟨by rw [hf2 fun z2 hz2=>by rw [hz] at hz2;cases hz2;exact ef ag],hM.fr⟩)
   exact rt1 4 (vI (a:Int)) rfl f0 (hZ _ _ ⟨by rw [hf1 z hz (et ag)],hM.fr⟩)
  exact aAj _ (ah _ 0 l.length _ (Gg_ _) (Gk_ _) (fun j y hj=>absurd hj (Nat.not_lt_zero _)) (fun j y hj hy=>absurd (gl hy) (by omega)) hM rfl)
def aEe (o:Ob) (i:Int):Int:=bif (o.kind==4)||((o.kind==5) && !(i==1)) then 2 else 1
theorem aFK {w:World}(b:ObR) (i:Int):Calls Tryz.prog 131 #[vA (obL b),vI i] w fun e w'=>e = .returned (vI (aEe b.o i)) /\ Fr nF_ w w':=by
  refine beg Tryz.func131 rfl rfl [(0,.agg (oY_ b)),(1,vI i)] rfl rfl fun Z hZ=>?_;have hM:=Mm.nil nF_ w;refine aA1 0 0 2 [] (cs:=(oY_ b)) (T:=48) (v:=fun b=>vP b 0) f0 hM fun ad w1 hM=>seg 1 4 [(8,vB (b.o.kind==4))] (fc (ldm 3 0 1 hM rfl rfl) f0) ?_;cases aa:(b.o.kind==4)
  rotate_left
  ·exact rt1 4 (vI 2) rfl f0 (hZ _ _ ⟨by unfold aEe;simp only [aa]<;>rfl,hM.fr⟩)
  refine seg 1 8 [(12,vB (b.o.kind==5))] (fc (ldm 3 0 1 hM rfl rfl) f0) ?_;cases ab:(b.o.kind==5)
  ·exact rt1 4 (vI 1) rfl f0 (hZ _ _ ⟨by unfold aEe;simp only [aa,ab]<;>rfl,hM.fr⟩)
  refine seg 1 12 [(16,vB (!(i==1)))] f0 ?_;cases ac:(i==1)
  ·exact rt1 4 (vI 2) rfl f0 (hZ _ _ ⟨by unfold aEe;simp only [aa,ab,ac]<;>rfl,hM.fr⟩)
  exact rt1 4 (vI 1) rfl f0 (hZ _ _ ⟨by unfold aEe;simp only [aa,ab,ac]<;>rfl,hM.fr⟩)
def aCN (l:List Ob) (S:Ob->Bool) (o:Ob) (i:Nat):Bool:=match o.refs[i]? with
  | some s=>(!decide (aAp l s<0))&&(match l[(aAp l s).toNat]? with | some x=>(x.kind==aEe o (i:Int))&&S x | none=>false)
  | none=>true
def aF5 (l:List Ob) (S:Ob->Bool) (o:Ob):Bool:=(List.range o.refs.length).all fun i=>aCN l S o i
section
variable {l:List ObR}{S:Ob->Bool}{o:Ob}{i:Nat}{y:Bys}
theorem aVo (hy:o.refs[i]?=some y) (h:aAp (aAa l) y<0):aCN (aAa l) S o i=false:=by
  unfold aCN;rw [hy];show ((!decide (aAp (aAa l) y<0))&&_)=false;rw [decide_eq_true h];rfl
theorem aRF (hy:o.refs[i]?=some y) {k:Nat}{z:ObR}(hk:aAp (aAa l) y=(k:Int)) (hz:l[k]?=some z):aCN (aAa l) S o i=((z.o.kind==aEe o (i:Int))&&S z.o):=by
  unfold aCN;rw [hy];show ((!decide (aAp (aAa l) y<0))&&(match (aAa l)[(aAp (aAa l) y).toNat]? with | some x=>(x.kind==aEe o (i:Int))&&S x | none=>false))=_;rw [hk,show ((k:Int)).toNat=k by omega,aAv hz,show decide ((k:Int)<0)=false by simp];rfl
theorem aRE (hi:i<o.refs.length) (h:aCN (aAa l) S o i=false):aF5 (aAa l) S o=false:=by
  unfold aF5;rw [←Bool.not_eq_true,List.all_eq_true];intro q;have:=q i (List.mem_range.2 hi);rw [h] at this;cases this
theorem aMA (h:∀ k,k<o.refs.length->aCN (aAa l) S o k=true):aF5 (aAa l) S o=true:=List.all_eq_true.2 fun i hi=>h i (List.mem_range.1 hi)
theorem aVn (h:∀ k,k<i->aCN (aAa l) S o k=true) (h2:aCN (aAa l) S o i=true):∀ k,k<i+1->aCN (aAa l) S o k=true:=fun k hk=>by
  by_cases e:k=i
  · rw [e];exact h2
  · exact h k (by omega)
theorem aPZ {id:Bys}(h:¬ aAp (aAa l) id<0):∃ k z,aAp (aAa l) id=((k:Nat):Int) /\ l[k]?=some z /\ z.o.id=id:=by
  obtain ⟨k,o,hk,ho,he⟩:=aBi h;obtain ⟨z,hz⟩:=geb (l:=l) (i:=k) (by rw [←aAJ];exact gl ho);have hzo:z.o=o:=by have:=aAv hz;rw [ho] at this;exact (Gi_ this).symm
  exact ⟨k,z,hk,hz,by rw [hzo];exact he⟩
end
abbrev aXK (Z:Ending->World->Prop):=AtO Tryz.prog (aAK Tryz.f77) (aBc (bodyPost Tryz.prog Tryz.f77 Z)) [] 45
theorem aG6 {w:World}{v:Value}{l:List ObR}(hm:aDr w v l) (hl:l.length<=1000000) (hp:(aAa l).Pairwise fun x y=>blt x.id y.id=true) {b:ObR}(hb:ObIn w b) {S:Ob->Bool}(hrec:∀ (i:Nat) (z:ObR),i<b.o.refs.length->z∈l->z.o.kind=aEe b.o (i:Int)->∀ w1,Fr nF_ w w1->Calls Tryz.prog 77 #[.agg #[v],vA (obL z)] w1 fun e w2=>e = .returned (vB (S z.o)) /\ Fr nF_ w1 w2):Calls Tryz.prog 77 #[.agg #[v],vA (obL b)] w fun e w'=>e = .returned (vB (aF5 (aAa l) S b.o)) /\ Fr nF_ w w':=by
  have hm0:=hm;obtain ⟨hs0,hob⟩:=hm0;obtain ⟨p0,cp0,hp0,sp0⟩:=hs0.op;subst hp0;refine beg Tryz.func77 rfl rfl [(0,.agg #[vL p0 l.length cp0]),(1,.agg (oY_ b))] rfl rfl fun Z hZ=>?_;have hM:=Mm.nil nF_ w;refine aA1 0 0 2 [] (cs:=#[vL p0 l.length cp0]) (T:=24) (v:=fun b=>vP b 0) f0 hM fun ae w1 hM=>aA1 0 1 3 [] (cs:=(oY_ b)) (T:=48) (v:=fun b=>vP b 0) f0 hM fun af w1 hM=>seg 2 0 [(5,vI 0)] f0 ?_
  have ak:∀ (ag:Nat) (i:Nat) (w2:World),i<=b.o.refs.length->(∀ k,k<i->aCN (aAa l) S b.o k=true)->Mm nF_ w w2 [bk ae #[vL p0 l.length cp0] 24,bk af (oY_ b) 48]->ag=b.o.refs.length-i->aXK Z (some (2,0)) [(5,vI (i:Int)),(3,vP af 0),(2,vP ae 0)] w2:=by
   refine aCC fun ag al i w2 hi hg hM ap=>seg 2 5 [(11,vB (decide ((i:Int)<(b.o.refs.length:Int))))] (fc (ldm 45 1 4 hM rfl rfl) f0) ?_;cases ah:(decide ((i:Int)<(b.o.refs.length:Int)))
   ·have am:=df ah;exact rt1 4 (vB true) rfl f0 (hZ _ _ ⟨by rw [aMA fun k hk=>hg k (by omega)],hM.fr⟩)
   have am:=dt ah;have ai:=hb.refs;have aq:=ai.bnd;obtain ⟨y,hy,ar,au,an,ao⟩:=ai.el (i:=i) (by omega);refine seg 4 0 [] f0 (drc [(6,vI (aAp (aAa l) y))] hM (fun w5 hM=>(fc (lam 24 0 0 1 hM rfl) (fc (ldm 45 1 4 hM rfl rfl) (fc (ix 45 b.cr an (gl hy)) (fc (ld0 9 hM (ao 0 _ rfl)) (fc (tcl (aHk (hm.fr hM.fr) hl hp y)) f0)))))) fun w5 hM=>seg 5 0 [] f0 ?_);cases aa:(decide ((aAp (aAa l) y)<0))
   rotate_left
   ·refine drc [(44,vB true)] hM (fun w5 hM=>(fc (tv 22 aa) f0)) fun w5 hM=>rt1 4 (vB false) rfl f0 (hZ _ _ ⟨by rw [aRE (gl hy) (aVo hy (dt aa))],hM.fr⟩)
   obtain ⟨k,z0,hk,hz0,-⟩:=aPZ (df aa);have hkl:=gl hz0;obtain ⟨z,hz,av,aw,ac,ad⟩:=sp0.el (i:=k) (by omega);cases ab:(z.o.kind==(aEe b.o (i:Int)))
   ·refine drc [(44,vB true)] hM (fun w5 hM=>(fc (tv 22 aa) (fc (ldm 22 0 0 hM rfl rfl) (fc (ix 22 cp0 ac (gl hz) (z:=(aAp (aAa l) y)) (hz:=hk)) (fc (ld0 3 hM (ad 1 _ rfl)) (fc (lam 48 1 0 6 hM rfl) (fc (tcl (aFK b (i:Int))) (fc (tv 33 (b:=(!(z.o.kind==(aEe b.o (i:Int))))) (c:=true) (by rw [ab]<;>rfl)) f0)))))))) fun w5 hM=>rt1 4 (vB false) rfl f0 (hZ _ _ ⟨by rw [aRE (gl hy) (by rw [aRF hy hk hz,ab];rfl)],hM.fr⟩)
   refine drc [(44,vB (!(S z.o)))] hM (fun w5 hM=>(fc (tv 22 aa) (fc (ldm 22 0 0 hM rfl rfl) (fc (ix 22 cp0 ac (gl hz) (z:=(aAp (aAa l) y)) (hz:=hk)) (fc (ld0 3 hM (ad 1 _ rfl)) (fc (lam 48 1 0 6 hM rfl) (fc (tcl (aFK b (i:Int))) (fc (tv 33 (b:=(!(z.o.kind==(aEe b.o (i:Int))))) (c:=false) (by rw [ab]<;>rfl)) (fc (lam 24 0 0 1 hM rfl) (fc (ldm 22 0 0 hM rfl rfl) (fc (ix 22 cp0 ac (gl hz) (z:=(aAp (aAa l) y)) (hz:=hk)) (fc (la0 48 hM ad) (fc (tcl (hrec i z (gl hy) (gm hz) (et ab) _ hM.fr)) f0))))))))))))) fun w5 hM=>?_;cases aj:(S z.o)
   ·exact rt1 4 (vB false) rfl f0 (hZ _ _ ⟨by rw [aRE (gl hy) (by rw [aRF hy hk hz,aj,Bool.and_false])],hM.fr⟩)
   refine seg 2 0 [(5,vI ((i:Int)+1))] (fc (aA8 (i:Int) 1 u3_) f0) (aAj _ (al _ (by have:=gl hy;omega) (i+1) _ (gl hy) (aVn hg (by rw [aRF hy hk hz,ab,aj];rfl)) hM rfl))
  exact aAj _ (ak _ 0 _ (Gg_ _) (fun k hk=>absurd hk (Nat.not_lt_zero _)) hM rfl)
theorem aIl {o:Ob}(hv:aAU o=true) (hk:o.kind=1):o.refs.length=0:=by
  unfold aAU at hv;simp only [Ga_] at hv;have:=hv.2;rw [show (o.kind==1)=true from beq_iff_eq.2 hk,cond_true] at this;simp only [Ga_,beq_iff_eq] at this;omega
def aDn (l:List Ob):Ob->Bool:=aF5 l fun _=>true
theorem aHT {w:World}{v:Value}{l:List ObR}(hm:aDr w v l) (hv:aAl (aAa l)=true) {b:ObR}(hb:b∈l) (hk:¬ b.o.kind=4 /\ ¬ b.o.kind=5):Calls Tryz.prog 77 #[.agg #[v],vA (obL b)] w fun e w2=>e = .returned (vB (aDn (aAa l) b.o)) /\ Fr nF_ w w2:=by
  have hl:l.length<=1000000:=by
    unfold aAl at hv;simp only [Ga_,decide_eq_true_eq] at hv;have:=hv.2;rw [aAJ] at this;omega
  refine aG6 hm hl (aBl hv) (hm.2 b hb) fun i z hi hz he w1 hf=>?_
  have hk1:z.o.kind=1:=by
    rw [he];unfold aEe;rw [show (b.o.kind==4)=false from beq_eq_false_iff_ne.2 hk.1,show (b.o.kind==5)=false from beq_eq_false_iff_ne.2 hk.2];rfl
  have h0:=aIl (aCt hv z.o (List.mem_map.2 ⟨z,hz,rfl⟩)) hk1;have hm1:=hm.fr hf
  exact (aG6 (S:=fun _=>true) hm1 hl (aBl hv) (hm1.2 z hz) fun i _ hi=>absurd hi (by omega)).mono fun e w2 h=>⟨by
    rw [h.1,show aF5 (aAa l) (fun _=>true) z.o=true from aMA fun k hk=>absurd hk (by omega)],h.2⟩
theorem aSi {o:Ob}(h:aAU o=true):1<=o.kind /\ o.kind<=5:=by
 unfold aAU at h;simp only [Ga_] at h
 have hw:(aDS o.kind==[])=false:=by
  have:=h.1.1.1.1.1.1
  cases hq:(aDS o.kind==[]) with
  | false=>rfl
  | true=>rw [hq] at this;cases this
 obtain ⟨h1,h2⟩:=aMp hw;have h0:¬ o.kind=0:=fun e=>by rw [e] at hw;exact absurd hw (by decide)
 omega
theorem aTz {os:List ObR}(hv:aAl (aAa os)=true) {b:ObR}(hb:b∈os):(decide (b.o.kind<=3)&&aDn (aAa os) b.o)=((aAg (aAa os) b.o.id).1==0):=by
 have hvo:=aCt hv b.o (List.mem_map.2 ⟨b,hb,rfl⟩);have hk:1<=b.o.kind /\ b.o.kind<=5:=aSi hvo;rw [aT6 hv hb];unfold aAP
 by_cases h1:b.o.kind=1
 ·have h0:=aIl hvo h1;have hs:aDn (aAa os) b.o=true:=aMA fun k hk=>absurd hk (by omega);rw [hs,h1];rfl
 by_cases h4:b.o.kind=4∨b.o.kind=5
 ·rw [decide_eq_false (by omega),show (b.o.kind==1)=false from beq_eq_false_iff_ne.2 h1,show ((b.o.kind==2)||(b.o.kind==3))=false by rw [Bool.or_eq_false_iff];exact ⟨beq_eq_false_iff_ne.2 (by omega),beq_eq_false_iff_ne.2 (by omega)⟩];rfl
 ·have h23:b.o.kind=2∨b.o.kind=3:=by omega
  rw [decide_eq_true (by omega),Bool.true_and,show (b.o.kind==1)=false from beq_eq_false_iff_ne.2 h1,show ((b.o.kind==2)||(b.o.kind==3))=true by rcases h23 with e | e<;>rw [e]<;>rfl,cond_false,cond_true]
  have hkr:∀ i:Int,aEe b.o i=1:=fun i=>by
   unfold aEe;rw [show (b.o.kind==4)=false from beq_eq_false_iff_ne.2 (by omega),show (b.o.kind==5)=false from beq_eq_false_iff_ne.2 (by omega)];rfl
  have key:∀ r,((!decide (aAp (aAa os) r<0))&&(match (aAa os)[(aAp (aAa os) r).toNat]? with | some x=>(x.kind==1)&&true | none=>false))=(aDa (aAa os) r).isSome:=fun r=>by
   unfold aDa
   cases ho:(aAa os)[(aAp (aAa os) r).toNat]? with
   | none=>simp
   | some o =>
    cases hd:decide (aAp (aAa os) r<0)<;>cases hk:(o.kind==1)<;>simp [hk]
  have hall:aDn (aAa os) b.o=b.o.refs.all fun r=>(aDa (aAa os) r).isSome:=by
   unfold aDn aF5;rw [Bool.eq_iff_iff,List.all_eq_true,List.all_eq_true];constructor
   ·intro h r hr;obtain ⟨i,hi⟩:=List.getElem?_of_mem hr;have:=h i (List.mem_range.2 (gl hi));unfold aCN at this;rw [hi] at this;simp only [hkr] at this;exact (key _).symm.trans this
   ·intro h i hi;have hi:=List.mem_range.1 hi;have hr:=Gb_ hi;have:=h _ (Ge_ hr);unfold aCN;rw [hr];simp only [hkr];exact (key _).trans this
  rw [hall];cases b.o.refs.all fun r=>(aDa (aAa os) r).isSome<;>rfl
def aS5 (h:Nat) (q:QdR) (os:List ObR):List Ca:=fC ((mkS os).filterMap (cdR (aAa os) h q (q.x,q.y)))
def aEF (h:Nat) (q:QdR) (os:List ObR):List (Bys×Int):=(aS5 h q os).map fun c=>(c.1,aAr c.2)
theorem aIn (h:Nat) (q:QdR) (os:List ObR):aCB h q os=(aEF h q os).take q.n.toNat:=by
 unfold aCB aGs aEF aS5;rw [List.map_take]
theorem aIm (h:Nat) (q:QdR) (os:List ObR) (n:Int):aCB h (aCg q n) os=(aEF h q os).take n.toNat:=aIn h (aCg q n) os
def aIL (h:Nat) (q:QdR) (os:List ObR) (b:ObR):Bool:=(decide (b.o.kind<=3)&&aDn (aAa os) b.o)&&aAT h q b
theorem aIp {h:Nat}{q:QdR}{os:List ObR}(hv:aAl (aAa os)=true):(aEF h q os).length=(os.filter (aIL h q os)).length:=by
 unfold aEF aS5 fC;rw [Gp_,aKO,Gm_,Nat.add_zero]
 have e:∀ T:List ObR,(∀ b∈T,b∈os)->(((T.filter fun b=>(aAg (aAa os) b.o.id).1==0).map mk0).filterMap (cdR (aAa os) h q (q.x,q.y))).length=(T.filter (aIL h q os)).length:=by
  intro T
  induction T with
  | nil=>intro _;rfl
  | cons b T ih =>
   intro hT;have ih:=ih fun c hc=>hT c (.tail _ hc);have hs:=aTz hv (hT b (.head _));have ha:aIL h q os b=(((aAg (aAa os) b.o.id).1==0)&&aAT h q b):=by unfold aIL;rw [hs]
   cases hp:((aAg (aAa os) b.o.id).1==0)
   ·rw [hp] at ha;rw [List.filter_cons_of_neg (p:=fun b:ObR=>(aAg (aAa os) b.o.id).1==0) (a:=b) (by simp only [hp];decide),List.filter_cons_of_neg (by rw [ha,Bool.false_and];decide)];exact ih
   rw [hp,Bool.true_and] at ha;rw [List.filter_cons_of_pos (p:=fun b:ObR=>(aAg (aAa os) b.o.id).1==0) (a:=b) hp,List.map_cons,List.filterMap_cons];have hc:cdR (aAa os) h q (q.x,q.y) (mk0 b)=bif aAT h q b then some (b.o.id,sqP (aAa os) (mk0 b) (q.x,q.y)) else none:=rfl
   cases hq:aAT h q b with
   | true =>
    rw [hc,hq,List.filter_cons_of_pos (by rw [ha,hq])];show _+1=_+1;rw [ih]
   | false =>
    rw [hc,hq,List.filter_cons_of_neg (by rw [ha,hq];decide)];exact ih
 exact e os fun _ h=>h
theorem aIo {h:Nat}{q:QdR}{os:List ObR}(hv:aAl (aAa os)=true) (hz:onG (q.x,q.y)) {i:Nat}{x y:Bys×Int}(hx:(aEF h q os)[i]?=some x) (hy:(aEF h q os)[i+1]?=some y):x.2<=y.2 /\ x.1≠y.1:=by
 have hS:=aTI os;have hpw:=aTH hv
 have hSn:(((mkS os).filterMap (cdR (aAa os) h q (q.x,q.y))).map (·.1)).Nodup:=by
  have e:∀ T:List ShR,((T.filterMap (cdR (aAa os) h q (q.x,q.y))).map (·.1)).Sublist (T.map (·.o.o.id)):=by
   intro T
   induction T with
   | nil=>exact .slnil
   | cons s T ih =>
    rw [List.filterMap_cons,List.map_cons]
    cases hc:cdR (aAa os) h q (q.x,q.y) s with
    | none=>exact ih.cons _
    | some c=>rw [List.map_cons,aEZ hc];exact ih.cons_cons _
  refine (e (mkS os)).nodup ?_;unfold List.Nodup;rw [List.pairwise_map];exact hpw.imp fun {a b} hab e=>by rw [e,aAz] at hab;cases hab
 have h2:=aNS hSn;unfold aEF at hx hy;rw [Gr_] at hx hy;obtain ⟨a,ha,rfl⟩:=Option.map_eq_some_iff.1 hx;obtain ⟨b,hb,rfl⟩:=Option.map_eq_some_iff.1 hy;have ham:=(h2.2 a).1 (Ge_ ha);obtain ⟨s,hs,hsc⟩:=List.mem_filterMap.1 ham;have ha0:0<=a.2:=by rw [aEZ hsc];exact aKo (aQ6 hv rfl hS hs) (aUG hv) hz
 obtain ⟨hi,ea⟩:=List.getElem?_eq_some_iff.1 ha;obtain ⟨hj,eb⟩:=List.getElem?_eq_some_iff.1 hb;have hlt:=List.pairwise_iff_getElem.1 h2.1 i (i+1) hi hj (by omega);have ea:(fC ((mkS os).filterMap (cdR (aAa os) h q (q.x,q.y))))[i]=a:=ea;have eb:(fC ((mkS os).filterMap (cdR (aAa os) h q (q.x,q.y))))[i+1]=b:=eb;rw [ea,eb] at hlt;unfold aDj at hlt;simp only [Bool.or_eq_true,decide_eq_true_eq,Ga_,beq_iff_eq] at hlt;refine ⟨aMY ha0 (by omega),fun e=>?_⟩
 have hperm:(fC ((mkS os).filterMap (cdR (aAa os) h q (q.x,q.y)))).Pairwise fun a b=>a.1≠b.1:=by
  have hm:∀ c∈fC ((mkS os).filterMap (cdR (aAa os) h q (q.x,q.y))),∀ d∈fC ((mkS os).filterMap (cdR (aAa os) h q (q.x,q.y))),c.1=d.1->c=d:=fun c hc d hd e=>by
   obtain ⟨s,hs,h1⟩:=List.mem_filterMap.1 ((h2.2 c).1 hc);obtain ⟨t,ht,h3⟩:=List.mem_filterMap.1 ((h2.2 d).1 hd);have e1:=aEZ h1;have e2:=aEZ h3;rw [e1,e2] at e;have:=aF7 hpw hs ht e;subst this;rw [e1,e2]
  refine h2.1.imp_of_mem fun {c d} hc hd hlt e=>?_;have:=hm c hc d hd e;subst this;rw [aFw] at hlt;cases hlt
 have h5:=List.pairwise_iff_getElem.1 hperm i (i+1) hi hj (by omega);rw [ea,eb] at h5;exact h5 e
theorem aLT {os:List ObR}{n:Nat}(h:aEz (aAa os) (n:Int)=true):os.length<=n:=by
  unfold aEz at h;simp only [Ga_,decide_eq_true_eq,aAJ] at h;omega
theorem slh {P:Program}{w:World}(T:TypeId) (E:TypeId) {p:Option Addr}{n c k:Nat}{z:Int}(hz:z=(k:Int)) (hk:k<=c) (hs:∃ s,∀ w,(Go.sizeOf E).run P w = .ok s w) (hT:P.underlying T=some (.slice E):=by kernel_rfl):Ft.ok P w (.g2 (fun x a => .slice T x none (some a) none) (vL p n c) (vI z) (vL p k c)):=fun o ρ x y ho hx hy=>by
  subst hz;obtain ⟨s,hs⟩:=hs;have hk':¬ c<k:=by omega
  have e:∀ a:Addr,a.add 0=a:=fun a=>rfl
  cases p with
  | none=>simp [execOp,ho,hx,hy,go_sem,hT,hs,hk,Result.andThen]
  | some a=>simp [execOp,ho,hx,hy,go_sem,hT,hs,hk,Result.andThen,e]
theorem aHS {α:Type}{f:α->List Value}{c:Nat}{w:World}{p:Option Addr}{cap:Nat}{L:List α}(h:SrcP f c w p cap L) (k:Nat):SrcP f c w p cap (L.take k):=by
  refine ⟨Gn_ (List.length_take_le' k L) h.le,h.ca,?_,h.nil⟩;rcases h.at_ with e | ⟨g,off,h1,h2,h3⟩
  · exact .inl (by rw [e];exact List.take_nil)
  · exact .inr ⟨g,off,h1,h2,fun i x hx=>h3 i x (by
      rw [List.getElem?_take] at hx
      by_cases q:i<k
      · rwa [if_pos q] at hx
      · rw [if_neg q] at hx;cases hx)⟩
theorem aHX {w:World}{v:Value}{os:List ObR}(hmO:aDr w v os) (hvm:aAl (aAa os)=true) {b:ObR}(hbo:b∈os) (hb:ObIn w b):Calls Tryz.prog 35 #[.agg #[v],vA (obL b)] w fun e w'=>e = .returned (vB (decide (b.o.kind<=3)&&aDn (aAa os) b.o)) /\ Fr nF_ w w':=by
  obtain ⟨p0,cp0,hp0,-⟩:=hmO.1.op;subst hp0;have hm0:=hmO;obtain ⟨hs0,hob⟩:=hm0;refine beg Tryz.func35 rfl rfl [(0,.agg #[vL p0 os.length cp0]),(1,.agg (oY_ b))] rfl rfl fun Z hZ=>?_;have hM:=Mm.nil nF_ w;refine aA1 0 0 2 [] (cs:=#[vL p0 os.length cp0]) (T:=24) (v:=fun b=>vP b 0) f0 hM fun ac w1 hM=>aA1 0 1 3 [] (cs:=(oY_ b)) (T:=48) (v:=fun b=>vP b 0) f0 hM fun ad w1 hM=>seg 1 4 [(8,vB (decide (b.o.kind<=3)))] (fc (ldm 3 1 1 hM rfl rfl) f0) ?_;cases aa:(decide (b.o.kind<=3))
  ·have ab:=df aa;exact rt1 4 (vB false) rfl f0 (hZ _ _ ⟨by simp only [aa]<;>rfl,hM.fr⟩)
  have ab:=dt aa;refine aAw 1 6 11 [(9,.agg #[vL p0 os.length cp0]),(10,.agg (oY_ b))] (fc (lam 24 0 0 1 hM rfl) (fc (lam 48 1 0 6 hM rfl) f0)) hM (aHT (hmO.fr hM.fr) hvm hbo ⟨by have:=dt aa;omega,by have:=dt aa;omega⟩) fun w1 hM=>rt1 4 (vB (aDn (aAa os) b.o)) rfl f0 (hZ _ _ ⟨by simp only [aa]<;>rfl,hM.fr⟩)
theorem aIN {w:World}{v:Value}{os:List ObR}(hmO:aDr w v os) (hvm:aAl (aAa os)=true) {b:ObR}(hbo:b∈os) (hb:ObIn w b):Calls Tryz.prog 15 #[.agg #[v],vA (obL b)] w fun e w'=>e = .returned (vB (decide (b.o.kind<=3)&&aDn (aAa os) b.o)) /\ Fr nF_ w w':=by
  obtain ⟨p0,cp0,hp0,-⟩:=hmO.1.op;subst hp0;have hm0:=hmO;obtain ⟨hs0,hob⟩:=hm0;refine beg Tryz.func15 rfl rfl [(0,.agg #[vL p0 os.length cp0]),(1,.agg (oY_ b))] rfl rfl fun Z hZ=>?_;have hM:=Mm.nil nF_ w;refine aA1 0 0 2 [] (cs:=#[vL p0 os.length cp0]) (T:=24) (v:=fun b=>vP b 0) f0 hM fun aa w1 hM=>aA1 0 1 3 [] (cs:=(oY_ b)) (T:=48) (v:=fun b=>vP b 0) f0 hM fun ab w1 hM=>aAw 1 2 7 [(5,.agg #[vL p0 os.length cp0]),(6,.agg (oY_ b))] (fc (lam 24 0 0 1 hM rfl) (fc (lam 48 1 0 6 hM rfl) f0)) hM (aHX (hmO.fr hM.fr) hvm hbo ((hob _ hbo).fr hM.fr)) fun w1 hM=>rt1 4 (vB (decide (b.o.kind<=3)&&aDn (aAa os) b.o)) rfl f0 (hZ _ _ ⟨rfl,hM.fr⟩)
theorem aKb {h:Nat}{os:List ObR}{q:QdR}(hask:q.ask=4) (hc:aAn h os q=0) {n:Int}(h1:1<=n) (h2:n<=10000):aAn h os (aCg q n)=0:=by
  have hv:=(aID hc).1
  have hv2:aAt h (aCg q n)=true:=by
    have hv1:=hv;unfold aAt at hv1 ⊢;rw [Ga_] at hv1 ⊢;refine ⟨hv1.1,?_⟩;have h9:=hv1.2;unfold aC8 at h9 ⊢;rw [hask] at h9;rw [show (aCg q n).ask=4 from hask];have h3:((decide (1<=q.n)&&decide (q.n<=10000))&&(decide (0<=q.x)&&decide (q.x<=1048575))&&(decide (0<=q.y)&&decide (q.y<=1048575))&&aAF q false true true false false false)=true:=h9;show ((decide (1<=n)&&decide (n<=10000))&&(decide (0<=q.x)&&decide (q.x<=1048575))&&(decide (0<=q.y)&&decide (q.y<=1048575))&&aAF (aCg q n) false true true false false false)=true;simp only [Ga_,decide_eq_true_eq] at h3 ⊢;exact ⟨⟨⟨⟨h1,h2⟩,h3.1.1.2⟩,h3.1.2⟩,h3.2⟩
  unfold aAn at hc ⊢;rw [hv2];rw [hv] at hc;exact hc
theorem aKi {α:Type}{L:List α}{a b:Nat}(h:min a L.length=min b L.length):L.take a=L.take b:=by
  rw [List.take_eq_take_iff];exact h
abbrev AZ4 (Z:Ending->World->Prop):=AtO Tryz.prog (aAK Tryz.f4) (aBc (bodyPost Tryz.prog Tryz.f4 Z)) [] 186
theorem aEL {w:World}{v:Value}{os:List ObR}(hmO:aDr w v os) {B h:Nat}{q:QdR}(hq:QdIn w B h q) (hBw:B<=w.heap.size) (hTe:Te w):Calls Tryz.prog 4 #[.agg #[v],.agg (qY_ q)] w fun e w'=>e = .returned (vB true) /\ Fr nF_ w w':=by
  obtain ⟨p0,cp0,hp0,-⟩:=hmO.1.op;subst hp0;have hm0:=hmO;obtain ⟨hs0,hob⟩:=hm0;have sp0:=hs0.p.2;have bp0:=sp0.bnd;refine beg Tryz.func4 rfl rfl [(0,.agg #[vL p0 os.length cp0]),(1,.agg (qY_ q))] rfl rfl fun Y hY=>?_;have hM:=Mm.nil nF_ w;refine aA1 0 0 2 [] (cs:=#[vL p0 os.length cp0]) (T:=24) (v:=fun b=>vP b 0) f0 hM fun ab w1 hM=>aA1 0 1 3 [] (cs:=(qY_ q)) (T:=31) (v:=fun b=>vP b 0) f0 hM fun ac w1 hM=>aAw 1 0 18 [] f0 hM (aJ6 (hTe.fr hM.fr)) fun w1 hM=>aJQ 2 2 21 [(5,vB true),(19,.agg #[vL p0 os.length cp0]),(20,.agg (qY_ q))] (K:=fun u w8=>∃ b,u=vB b /\ (b=true->aEz (aAa os) 30=true)) (fc (lam 24 0 0 1 hM rfl) (fc (lam 31 1 0 14 hM rfl) f0)) hM ((aJC (hmO.fr hM.fr) (hq.fr hM.fr hBw) (Gn_ hBw hM.fr.size)).mono fun e w9 ⟨⟨b,h1,h3⟩,h2⟩=>⟨⟨_,h1,b,rfl,h3⟩,h2⟩) fun u w1 ⟨b9,hu,hb9⟩ hM f1=>?_;subst hu;refine seg 2 5 [(23,vB (!b9))] f0 ?_
  cases a2:b9 with
  | false =>
   exact rt1 4 (vB true) rfl f0 (hY _ _ ⟨rfl,hM.fr⟩)
  | true =>
   have hol9:=aLT (n:=30) (hb9 a2);have hol:os.length<=10000:=by omega
   refine seg 2 10 [(28,vB (!(q.ask==4)))] (fc (ldm 3 1 0 hM rfl rfl) f0) ?_;cases a3:(q.ask==4)
   ·exact rt1 4 (vB true) rfl f0 (hY _ _ ⟨rfl,hM.fr⟩)
   have hask:q.ask=4:=et a3;refine seg 2 14 [(32,vB (decide (10000<=q.n)))] (fc (ldm 3 1 8 hM rfl rfl) f0) ?_;cases ar:(decide (10000<=q.n))
   rotate_left
   ·have a4:=dt ar;exact rt1 4 (vB true) rfl f0 (hY _ _ ⟨rfl,hM.fr⟩)
   have a4:=df ar;refine aOM 4 2 37 [(35,.agg #[vL p0 os.length cp0]),(36,.agg (qY_ q))] (K:=fun u Mn=>∃ v9,u = .tuple #[v9,vI (aAn h os q)] /\ Mn=[rw_ rwL 2 42 v9 (bif (aAn h os q)==0 then aCB h q os else [])]) [0,1] [] (fc (lam 24 0 0 1 hM rfl) (fc (lam 31 1 0 14 hM rfl) f0)) hM rfl rfl (by decide) (fun hm=>((aDG (q:=q) (hmO.fr hM.fr) (hq.fr hM.fr hBw) (Gn_ hBw hM.fr.size) (hTe.fr hM.fr) hol hask).mono fun e w9 ⟨u,h1,h2⟩=>⟨_,_,h1,⟨u,rfl,rfl⟩,aMf h2 fun _ h=>h.elim⟩)) fun u Mn w1 hK hM=>?_;obtain ⟨v9,rfl,rfl⟩:=hK;obtain ⟨A1,hA1⟩:∃ z,z=(bif (aAn h os q)==0 then aCB h q os else []):=⟨_,rfl⟩;rw [←hA1] at hM;replace hM:Mm nF_ w _ [bk ab #[vL p0 os.length cp0] 24,bk ac (qY_ q) 31,_]:=hM;obtain ⟨qa1,ca1,e9,-⟩:=(hM.src (j:=2) rfl rwT.len).op;subst e9;refine seg 5 2 [(6,vL qa1 A1.length ca1),(41,vB (!((aAn h os q)==0)))] f0 ?_;cases ao:((aAn h os q)==0)
   ·exact rt1 4 (vB ((A1.length:Int)==0)) rfl f0 (hY _ _ ⟨by rw [hA1,ao];rfl,hM.fr⟩)
   have hc1:(aAn h os q)=0:=et ao;obtain ⟨hvq,hvm,hn1,hn2⟩:=aID hc1;have hbq:=aNz hask hvq;have hz:=aN0 hask hvq;refine seg 7 0 [] f0 ?_;have hM:=hM.nl;have hM:=hM.nl;refine drx [2,3,4,5] (fun Z=>[some (vP (bn (Z 0)) 0),some (vP (bn (Z 1)) 0),none,none]) _ (fun Z l=>[bk ab #[vL p0 os.length cp0] 24,bk ac (qY_ q) 31,rw_ rwL 2 42 (vL qa1 A1.length ca1) A1,(bif l.getD 2 false then bk (bn (Z 0)) (qY_ q) 31 else (bif l.getD 0 false then bk (bn (Z 0)) #[vI 0,vI 0,vI 0,vS [],vS [],vI 0,vL none 0 0,vS [],vI 0,vI 0,vI 0,vS [],vS [],vI 0] 31 else aEk)),(bif l.getD 3 false then bk (bn (Z 1)) (qY_ q) 31 else (bif l.getD 1 false then bk (bn (Z 1)) #[vI 0,vI 0,vI 0,vS [],vS [],vI 0,vL none 0 0,vS [],vI 0,vI 0,vI 0,vS [],vS [],vI 0] 31 else aEk))]) (fun Z=>[(8,vP (bn (Z 0)) 0),(9,vP (bn (Z 1)) 0)]) hM (fun Z=>rfl) (fun Z l w5 hM=>(fc (lam 31 1 0 14 hM rfl) (fc (lam 31 1 0 14 hM rfl) f0))) ⟨aCZ 0 2 3 8 (fun Z=>#[vI 0,vI 0,vI 0,vS [],vS [],vI 0,vL none 0 0,vS [],vI 0,vI 0,vI 0,vS [],vS [],vI 0]) 31 (fun b=>vP b 0),aCZ 1 3 4 9 (fun Z=>#[vI 0,vI 0,vI 0,vS [],vS [],vI 0,vL none 0 0,vS [],vI 0,vI 0,vI 0,vS [],vS [],vI 0]) 31 (fun b=>vP b 0),aBd 2 4 31 3 0 (fun Z=>(bn (Z 0))) (fun Z l=>#[vI 0,vI 0,vI 0,vS [],vS [],vI 0,vL none 0 0,vS [],vI 0,vI 0,vI 0,vS [],vS [],vI 0]) 31 (fun Z => .agg (qY_ q)),aBd 3 5 31 4 0 (fun Z=>(bn (Z 1))) (fun Z l=>#[vI 0,vI 0,vI 0,vS [],vS [],vI 0,vL none 0 0,vS [],vI 0,vI 0,vI 0,vS [],vS [],vI 0]) 31 (fun Z => .agg (qY_ q)),trivial⟩ fun aa w1 hM=>?_;replace hM:Mm nF_ w w1 [bk ab #[vL p0 os.length cp0] 24,bk ac (qY_ q) 31,_,bk (bn (aa 0)) (qY_ q) 31,bk (bn (aa 1)) (qY_ q) 31]:=hM;refine stm 8 1 [(50,vP (bn (aa 0)) 8)] 3 3 8 (vI 10000) f0 hM rfl fun w1 hM=>stm 9 4 [(53,vI (q.n+1)),(54,vP (bn (aa 1)) 8)] 3 4 8 (vI (q.n+1)) (fc (ldm 3 1 8 hM rfl rfl) (fc (aA8 q.n 1 u3_) f0)) hM rfl fun w1 hM=>aOM 10 2 58 [(56,.agg #[vL p0 os.length cp0]),(57,.agg #[vI q.ask,vI q.kind,vI q.wh.op,vS q.wh.key,vS q.wh.val,vI q.wh.n,vL q.wh.p q.wh.kids.length q.wh.cap,vS q.id,vI 10000,vI q.x,vI q.y,vS q.key,vS q.prof,vI q.min])] (K:=fun u Mn=>∃ v9,u = .tuple #[v9,vI (aAn h os (aCg q 10000))] /\ Mn=[rw_ rwL 2 42 v9 (bif (aAn h os (aCg q 10000))==0 then aCB h (aCg q 10000) os else [])]) [0,1,2,3,4] [] (fc (lam 24 0 0 1 hM rfl) (fc (lam 31 3 0 14 hM rfl) f0)) hM rfl rfl (by decide) (fun hm=>((aDG (q:=(aCg q 10000)) (hmO.fr hM.fr) ((aMr hq 10000).fr hM.fr hBw) (Gn_ hBw hM.fr.size) (hTe.fr hM.fr) hol hask).mono fun e w9 ⟨u,h1,h2⟩=>⟨_,_,h1,⟨u,rfl,rfl⟩,aMf h2 fun _ h=>h.elim⟩)) fun u Mn w1 hK hM=>?_;obtain ⟨v9,rfl,rfl⟩:=hK;obtain ⟨A2,hA2⟩:∃ z,z=(bif (aAn h os (aCg q 10000))==0 then aCB h (aCg q 10000) os else []):=⟨_,rfl⟩;rw [←hA2] at hM;replace hM:Mm nF_ w _ [bk ab #[vL p0 os.length cp0] 24,bk ac (qY_ q) 31,_,bk (bn (aa 0)) #[vI q.ask,vI q.kind,vI q.wh.op,vS q.wh.key,vS q.wh.val,vI q.wh.n,vL q.wh.p q.wh.kids.length q.wh.cap,vS q.id,vI 10000,vI q.x,vI q.y,vS q.key,vS q.prof,vI q.min] 31,bk (bn (aa 1)) #[vI q.ask,vI q.kind,vI q.wh.op,vS q.wh.key,vS q.wh.val,vI q.wh.n,vL q.wh.p q.wh.kids.length q.wh.cap,vS q.id,vI (q.n+1),vI q.x,vI q.y,vS q.key,vS q.prof,vI q.min] 31,_]:=hM;obtain ⟨qa2,ca2,e9,-⟩:=(hM.src (j:=5) rfl rwT.len).op;subst e9;refine aOM 11 2 64 [(10,vL qa2 A2.length ca2),(11,vI (aAn h os (aCg q 10000))),(62,.agg #[vL p0 os.length cp0]),(63,.agg #[vI q.ask,vI q.kind,vI q.wh.op,vS q.wh.key,vS q.wh.val,vI q.wh.n,vL q.wh.p q.wh.kids.length q.wh.cap,vS q.id,vI (q.n+1),vI q.x,vI q.y,vS q.key,vS q.prof,vI q.min])] (K:=fun u Mn=>∃ v9,u = .tuple #[v9,vI (aAn h os (aCg q (q.n+1)))] /\ Mn=[rw_ rwL 2 42 v9 (bif (aAn h os (aCg q (q.n+1)))==0 then aCB h (aCg q (q.n+1)) os else [])]) [0,1,2,3,4,5] [] (fc (lam 24 0 0 1 hM rfl) (fc (lam 31 4 0 14 hM rfl) f0)) hM rfl rfl (by decide) (fun hm=>((aDG (q:=(aCg q (q.n+1))) (hmO.fr hM.fr) ((aMr hq (q.n+1)).fr hM.fr hBw) (Gn_ hBw hM.fr.size) (hTe.fr hM.fr) hol hask).mono fun e w9 ⟨u,h1,h2⟩=>⟨_,_,h1,⟨u,rfl,rfl⟩,aMf h2 fun _ h=>h.elim⟩)) fun u Mn w1 hK hM=>?_;obtain ⟨v9,rfl,rfl⟩:=hK;obtain ⟨A3,hA3⟩:∃ z,z=(bif (aAn h os (aCg q (q.n+1)))==0 then aCB h (aCg q (q.n+1)) os else []):=⟨_,rfl⟩;rw [←hA3] at hM;replace hM:Mm nF_ w _ [bk ab #[vL p0 os.length cp0] 24,bk ac (qY_ q) 31,_,bk (bn (aa 0)) #[vI q.ask,vI q.kind,vI q.wh.op,vS q.wh.key,vS q.wh.val,vI q.wh.n,vL q.wh.p q.wh.kids.length q.wh.cap,vS q.id,vI 10000,vI q.x,vI q.y,vS q.key,vS q.prof,vI q.min] 31,bk (bn (aa 1)) #[vI q.ask,vI q.kind,vI q.wh.op,vS q.wh.key,vS q.wh.val,vI q.wh.n,vL q.wh.p q.wh.kids.length q.wh.cap,vS q.id,vI (q.n+1),vI q.x,vI q.y,vS q.key,vS q.prof,vI q.min] 31,_,_]:=hM;obtain ⟨qa3,ca3,e9,-⟩:=(hM.src (j:=6) rfl rwT.len).op;subst e9;refine seg 12 3 [(12,vL qa3 A3.length ca3),(13,vI (aAn h os (aCg q (q.n+1)))),(69,vB (!((aAn h os (aCg q 10000))==0)))] f0 ?_;cases au:((aAn h os (aCg q 10000))==0)
   ·exact absurd (aKb hask hc1 (by omega) (by omega)) (ef au)
   refine seg 12 7 [(73,vB (!((aAn h os (aCg q (q.n+1)))==0)))] f0 ?_;cases av:((aAn h os (aCg q (q.n+1)))==0)
   ·exact absurd (aKb hask hc1 (by omega) (by omega)) (ef av)
   have hA1e:A1=(aEF h q os).take q.n.toNat:=by rw [hA1,ao];exact aIn _ _ _
   have hA2e:A2=(aEF h q os).take (10000:Int).toNat:=by rw [hA2,au];exact aIm _ _ _ _
   have hA3e:A3=(aEF h q os).take (q.n+1).toNat:=by rw [hA3,av];exact aIm _ _ _ _
   have hlM:(aEF h q os).length<=30:=by rw [aIp hvm];exact Gn_ (List.length_filter_le _ _) hol9
   have hA2f:A2=aEF h q os:=by rw [hA2e];exact Gc_ (by show _<=10000;omega)
   rw [←hA2f] at hA1e hA3e hlM;have hL1:A1.length=min q.n.toNat A2.length:=by rw [hA1e,Gq_]
   have hL3:A3.length=min (q.n+1).toNat A2.length:=by rw [hA3e,Gq_]
   have hlA3A1:A1.length<=A3.length:=by omega
   have hlA2A3:A3.length<=A2.length:=by omega
   have htA1:A3.take A1.length=A1:=by rw [hA3e,hA1e,List.take_take,Gq_];exact aKi (by omega)
   have htA3:A2.take A3.length=A3:=by rw [hA3e,Gq_];exact aKi (by omega)
   refine seg 12 17 [(83,vB (!((A1.length:Int)==(min q.n (A2.length:Int)))))] (fc (ldm 3 1 8 hM rfl rfl) (fc (aOJ 3 q.n (A2.length:Int)) f0)) ?_;cases ap:((A1.length:Int)==(min q.n (A2.length:Int)))
   ·have a5:=ef ap;exact absurd (by omega) (ef ap)
   have a5:=et ap;refine seg 12 28 [(94,vB (!((A3.length:Int)==(min (q.n+1) (A2.length:Int)))))] (fc (ldm 3 1 8 hM rfl rfl) (fc (aA8 q.n 1 u3_) (fc (aOJ 3 (q.n+1) (A2.length:Int)) f0))) ?_;cases aq:((A3.length:Int)==(min (q.n+1) (A2.length:Int)))
   ·have a6:=ef aq;exact absurd (by omega) (ef aq)
   have a6:=et aq;refine aAw 12 33 100 [(95,vL qa1 A1.length ca1),(99,vL qa3 A1.length ca3)] (fc (slh 36 42 (p:=qa3) (n:=A3.length) (z:=(A1.length:Int)) (k:=A1.length) rfl (Gn_ hlA3A1 ((hM.src (j:=6) rfl rwT.len).p).2.le) ⟨2,fun _=>by kernel_rfl⟩) f0) hM (aCO (A:=A1) (B:=A1) (((hM.src (j:=2) rfl rwT.len).p).2) (htA1▸aHS ((hM.src (j:=6) rfl rwT.len).p).2 A1.length) (by simp)) fun w1 hM=>aAw 12 42 109 [(103,vB false),(104,vL qa3 A3.length ca3),(108,vL qa2 A3.length ca2)] (fc (slh 36 42 (p:=qa2) (n:=A2.length) (z:=(A3.length:Int)) (k:=A3.length) rfl (Gn_ hlA2A3 ((hM.src (j:=5) rfl rwT.len).p).2.le) ⟨2,fun _=>by kernel_rfl⟩) f0) hM (aCO (A:=A3) (B:=A3) (((hM.src (j:=6) rfl rwT.len).p).2) (htA3▸aHS ((hM.src (j:=5) rfl rwT.len).p).2 A3.length) (by simp)) fun w1 hM=>seg 16 0 [(14,vI 0),(15,vI 0)] f0 ?_
   have a7:∀ (aw:Nat) (i:Nat) (nn:Nat) (w2:World),i<=os.length->nn<=i->nn=((os.take i).filter (aIL h q os)).length->Mm nF_ w w2 [bk ab #[vL p0 os.length cp0] 24,bk ac (qY_ q) 31,rw_ rwL 2 42 (vL qa1 A1.length ca1) A1,bk (bn (aa 0)) #[vI q.ask,vI q.kind,vI q.wh.op,vS q.wh.key,vS q.wh.val,vI q.wh.n,vL q.wh.p q.wh.kids.length q.wh.cap,vS q.id,vI 10000,vI q.x,vI q.y,vS q.key,vS q.prof,vI q.min] 31,bk (bn (aa 1)) #[vI q.ask,vI q.kind,vI q.wh.op,vS q.wh.key,vS q.wh.val,vI q.wh.n,vL q.wh.p q.wh.kids.length q.wh.cap,vS q.id,vI (q.n+1),vI q.x,vI q.y,vS q.key,vS q.prof,vI q.min] 31,rw_ rwL 2 42 (vL qa2 A2.length ca2) A2,rw_ rwL 2 42 (vL qa3 A3.length ca3) A3]->aw=os.length-i->AZ4 Y (some (16,0)) [(15,vI (i:Int)),(14,vI (nn:Int)),(10,vL qa2 A2.length ca2),(5,vB true),(3,vP ac 0),(2,vP ab 0)] w2:=by
    refine aCC fun aw ag i nn w2 hi hnb hn hM bi=>seg 16 5 [(116,vB (decide ((i:Int)<(os.length:Int))))] (fc (ldm 22 0 0 hM rfl rfl) f0) ?_;cases ax:(decide ((i:Int)<(os.length:Int)))
    ·have a8:=df ax;have hnA:nn=A2.length:=by rw [hn,Gc_ (by omega),hA2f,aIp hvm]
     refine seg 22 0 [(17,vI 1)] f0 ?_
     have a9:∀ (ay:Nat) (i2:Nat) (w2:World),1<=i2->i2<=A2.length+1->Mm nF_ w w2 [bk ab #[vL p0 os.length cp0] 24,bk ac (qY_ q) 31,rw_ rwL 2 42 (vL qa1 A1.length ca1) A1,bk (bn (aa 0)) #[vI q.ask,vI q.kind,vI q.wh.op,vS q.wh.key,vS q.wh.val,vI q.wh.n,vL q.wh.p q.wh.kids.length q.wh.cap,vS q.id,vI 10000,vI q.x,vI q.y,vS q.key,vS q.prof,vI q.min] 31,bk (bn (aa 1)) #[vI q.ask,vI q.kind,vI q.wh.op,vS q.wh.key,vS q.wh.val,vI q.wh.n,vL q.wh.p q.wh.kids.length q.wh.cap,vS q.id,vI (q.n+1),vI q.x,vI q.y,vS q.key,vS q.prof,vI q.min] 31,rw_ rwL 2 42 (vL qa2 A2.length ca2) A2,rw_ rwL 2 42 (vL qa3 A3.length ca3) A3]->ay=A2.length+1-i2->AZ4 Y (some (22,0)) [(17,vI (i2:Int)),(14,vI (nn:Int)),(10,vL qa2 A2.length ca2),(5,vB true)] w2:=by
      refine aCC fun ay ba i2 w2 hi1 hi2 hM bj=>seg 22 4 [(150,vB (decide ((i2:Int)<(A2.length:Int))))] f0 ?_;cases az:(decide ((i2:Int)<(A2.length:Int)))
      ·have bb:=df az;exact rt1 4 (vB ((nn:Int)==(A2.length:Int))) rfl f0 (hY _ _ ⟨by rw [hnA,beq_self_eq_true],hM.fr⟩)
      have bb:=dt az;obtain ⟨aj,ad⟩:=geb (l:=A2) (i:=(i2-1)) (by omega);obtain ⟨bl,ak,-⟩:=hM.el rwT (j:=5) rfl ad;obtain ⟨al,ae⟩:=geb (l:=A2) (i:=i2) (by omega);obtain ⟨bm,am,-⟩:=hM.el rwT (j:=5) rfl ae;refine seg 24 0 [] f0 ?_;cases an:(decide (al.2<aj.2))
      rotate_left
      ·have bc:=dt an;exact absurd (dt an) (by have:=(aIo hvm hz (hA2f▸ad) (i:=i2-1) (by rw [show i2-1+1=i2 by omega];exact hA2f▸ae)).1;omega)
      have bc:=df an;have hM:=hM.q ((Fr.refl _ _).drew);refine drq [(178,vB (aj.1==al.1))] rfl (fc (aDU (i2:Int) 1 u3_) (fc (ix 36 ca2 ak (gl ad) (z:=((i2:Int)-1)) (hz:=(by omega))) (fc (ldr 3 5 1 rwT hM rfl ak ad rfl) (fc (ix 36 ca2 am (gl ae)) (fc (ldr 3 5 1 rwT hM rfl am ae rfl) (fc (tv 164 an) (fc (aDU (i2:Int) 1 u3_) (fc (ix 36 ca2 ak (gl ad) (z:=((i2:Int)-1)) (hz:=(by omega))) (fc (ldr 9 5 0 rwT hM rfl ak ad rfl) (fc (ix 36 ca2 am (gl ae)) (fc (ldr 9 5 0 rwT hM rfl am ae rfl) (fc (seq 9 aj.1 al.1) f0)))))))))))) ?_;cases bd:(aj.1==al.1)
      ·refine seg 22 0 [(17,vI ((i2:Int)+1))] (fc (aA8 (i2:Int) 1 u3_) f0) (aAj _ (ba _ (by omega) (i2+1) _ (by omega) (by omega) hM rfl))
      exact absurd (et bd) (aIo hvm hz (hA2f▸ad) (i:=i2-1) (by rw [show i2-1+1=i2 by omega];exact hA2f▸ae)).2
     exact aAj _ (a9 _ 1 _ (Gk_ _) (by omega) hM rfl)
    have a8:=dt ax;obtain ⟨b,hb,bo,bp,be,bf⟩:=sp0.el (i:=i) (by omega);refine aDq 18 5 16 [(123,.agg (oY_ b))] [] 48 (.agg (oY_ b)) (fc (ldm 22 0 0 hM rfl rfl) (fc (ix 22 cp0 be (gl hb)) (fc (la0 48 hM bf) f0))) hM fun bq w1 hM=>aAw 19 2 126 [(124,.agg #[vL p0 os.length cp0]),(125,.agg (oY_ b))] (fc (lam 24 0 0 1 hM rfl) (fc (lam 48 7 0 6 hM rfl) f0)) hM (aIN (hmO.fr hM.fr) hvm (gm hb) ((hob _ (gm hb)).fr hM.fr)) fun w1 hM=>seg 19 4 [(127,vB (decide (b.o.kind<=3)&&aDn (aAa os) b.o))] f0 ?_;cases ah:(decide (b.o.kind<=3)&&aDn (aAa os) b.o)
    ·refine seg 16 0 [(15,vI ((i:Int)+1))] (fc (aA8 (i:Int) 1 u3_) f0) ?_;have ha:aIL h q os b=false:=by unfold aIL aAT;simp only [ah]<;>rfl
     exact aAj _ (ag _ (by have:=gl hb;omega) (i+1) nn _ (gl hb) (by omega) (by rw [gt_ hb,List.filter_append,Gj_,←hn];simp [ha]) (hM.pick [0,1,2,3,4,5,6]) rfl)
    refine seg 19 8 [(131,vB (q.kind==0))] (fc (ldm 3 1 1 hM rfl rfl) f0) ?_;cases af:(q.kind==0)
    rotate_left
    ·have bg:=et af;refine aAw 19 19 143 [(139,vB true),(141,.agg #[vI q.wh.op,vS q.wh.key,vS q.wh.val,vI q.wh.n,vL q.wh.p q.wh.kids.length q.wh.cap]),(142,.agg (oY_ b))] (fc (lam 27 1 2 5 hM rfl) (fc (lam 48 7 0 6 hM rfl) f0)) hM (aDm (aGV hvm (gm hb)) ((hob _ (gm hb)).fr hM.fr) (hTe.fr hM.fr) (hq.wh.g (fun _ h=>h.elim) hM.fr hBw) (Gn_ hBw hM.fr.size)) fun w1 hM=>seg 19 21 [(144,vB (aDp h q.wh b.o.tags))] f0 ?_;cases a0:(aDp h q.wh b.o.tags)
     ·refine seg 16 0 [(15,vI ((i:Int)+1))] (fc (aA8 (i:Int) 1 u3_) f0) ?_;have ha:aIL h q os b=false:=by unfold aIL aAT;simp only [ah,af,a0]<;>rfl
      exact aAj _ (ag _ (by have:=gl hb;omega) (i+1) nn _ (gl hb) (by omega) (by rw [gt_ hb,List.filter_append,Gj_,←hn];simp [ha]) (hM.pick [0,1,2,3,4,5,6]) rfl)
     refine seg 16 0 [(14,vI ((nn:Int)+1)),(15,vI ((i:Int)+1))] (fc (aA8 (nn:Int) 1 u3_) (fc (aA8 (i:Int) 1 u3_) f0)) ?_;have ha:aIL h q os b=true:=by unfold aIL aAT;simp only [ah,af,a0]<;>rfl
     exact aAj _ (ag _ (by have:=gl hb;omega) (i+1) (nn+1) _ (gl hb) (by omega) (by rw [gt_ hb,List.filter_append,Gj_,←hn];simp [ha]) (hM.pick [0,1,2,3,4,5,6]) rfl)
    have bg:=ef af;refine seg 19 16 [(139,vB (q.kind==b.o.kind))] (fc (ldm 3 1 1 hM rfl rfl) (fc (ldm 3 7 1 hM rfl rfl) f0)) ?_;cases ai:(q.kind==b.o.kind)
    ·have bh:=ef ai;refine seg 16 0 [(15,vI ((i:Int)+1))] (fc (aA8 (i:Int) 1 u3_) f0) ?_;have ha:aIL h q os b=false:=by unfold aIL aAT;simp only [ah,af,ai]<;>rfl
     exact aAj _ (ag _ (by have:=gl hb;omega) (i+1) nn _ (gl hb) (by omega) (by rw [gt_ hb,List.filter_append,Gj_,←hn];simp [ha]) (hM.pick [0,1,2,3,4,5,6]) rfl)
    have bh:=et ai;refine aAw 19 19 143 [(141,.agg #[vI q.wh.op,vS q.wh.key,vS q.wh.val,vI q.wh.n,vL q.wh.p q.wh.kids.length q.wh.cap]),(142,.agg (oY_ b))] (fc (lam 27 1 2 5 hM rfl) (fc (lam 48 7 0 6 hM rfl) f0)) hM (aDm (aGV hvm (gm hb)) ((hob _ (gm hb)).fr hM.fr) (hTe.fr hM.fr) (hq.wh.g (fun _ h=>h.elim) hM.fr hBw) (Gn_ hBw hM.fr.size)) fun w1 hM=>seg 19 21 [(144,vB (aDp h q.wh b.o.tags))] f0 ?_;cases a1:(aDp h q.wh b.o.tags)
    ·refine seg 16 0 [(15,vI ((i:Int)+1))] (fc (aA8 (i:Int) 1 u3_) f0) ?_;have ha:aIL h q os b=false:=by unfold aIL aAT;simp only [ah,af,ai,a1]<;>rfl
     exact aAj _ (ag _ (by have:=gl hb;omega) (i+1) nn _ (gl hb) (by omega) (by rw [gt_ hb,List.filter_append,Gj_,←hn];simp [ha]) (hM.pick [0,1,2,3,4,5,6]) rfl)
    refine seg 16 0 [(14,vI ((nn:Int)+1)),(15,vI ((i:Int)+1))] (fc (aA8 (nn:Int) 1 u3_) (fc (aA8 (i:Int) 1 u3_) f0)) ?_;have ha:aIL h q os b=true:=by unfold aIL aAT;simp only [ah,af,ai,a1]<;>rfl
    exact aAj _ (ag _ (by have:=gl hb;omega) (i+1) (nn+1) _ (gl hb) (by omega) (by rw [gt_ hb,List.filter_append,Gj_,←hn];simp [ha]) (hM.pick [0,1,2,3,4,5,6]) rfl)
   exact aAj _ (a7 _ 0 0 _ (Gg_ _) (Gk_ _) rfl hM rfl)
open Go.ChangeShapes Go.WideShapes
section
variable {H:Type}{enc:TypeId×Value->H}{W:World}{sp:Nat->Bool}{held:Bool}{n:Nat}{cs:List Value}{x:DataW H×List MemPlace}
theorem aHp {α:Type}(dflt:α) (f:α->List Value) (c:Nat) {T E:TypeId}(hT:Tryz.prog.underlying T=some (.slice E)) (hc:Tryz.prog.cellsOf E=c) (hlen:∀ a,(f a).length=c) (hc0:0<c) (Q:α->Prop) (hel:∀ m cs x,DataW.trod enc Tryz.prog W 0 sp held m E cs=some x->∃ a,cs=f a /\ Q a)
  (h:DataW.trod enc Tryz.prog W 0 sp held n T cs=some x):∃ (l:List α) (p:Option Addr) (cap:Nat),cs=[.slice p l.length cap] /\ SrcP f c W p cap l /\ ∀ a∈l,Q a:=by
 rcases Deep.open_slice hT h with ⟨rfl,_⟩ | ⟨a,len,cap,m,n,D,Pl,rfl,_,hl,hm,hmm,_,hx⟩
 ·exact ⟨[],none,0,rfl,⟨Gk_ _,Gg_ _,.inl rfl,fun _=>rfl⟩,fun _ h=>(by cases h)⟩
 ·rw [hc] at hx;have hlm:len<=m:=by rw [hmm];split<;>omega
  have hall:∀ i,i<len->∃ s:α,(∀ j,j<c->W.cell? ((a.add (i*c)).add j)=(f s)[j]?) /\ Q s:=fun i hi=>by
   obtain ⟨cs',h1,h2⟩:=hx i (by omega);obtain ⟨_,_,h3⟩:=World.cells?_some h1;obtain ⟨s,rfl,hq⟩:=hel _ _ _ h2;exact ⟨s,fun j hj=>by rw [h3 j hj],hq⟩
  haveI:Inhabited α:=⟨dflt⟩
  obtain ⟨g,hg⟩:=Deep.choose_lt hall;refine ⟨(List.range len).map g,some a,cap,by simp,⟨by simpa using hl,hm,?_,fun h=>by cases h⟩,fun s hs=>?_⟩
  ·rcases Nat.eq_zero_or_pos len with h0 | h0
   ·left;rw [h0];rfl
   ·right
    have hspot:a=⟨a.block,a.off,none⟩ /\ a.block<W.heap.size:=by
     have:=(hg 0 h0).1 0 hc0;rw [Nat.zero_mul] at this;have e0:(a.add 0).add 0=a:=by simp [Addr.add]
     rw [e0] at this;obtain ⟨v0,hv0⟩:∃ v,(f (g 0))[0]?=some v:=⟨_,Gb_ (by rw [hlen];exact hc0)⟩;rw [hv0] at this;refine ⟨?_,World.block_lt_of_cell? W a this⟩
     cases a with
     | mk b o s =>
      cases s with
      | none=>rfl
      | some k =>
       unfold World.cell? at this
       split at this<;>simp at this
    refine ⟨a.block,a.off,by rw [←hspot.1],hspot.2,fun i s hs j v hv=>?_⟩;rw [Gr_] at hs
    have hi:i<len:=by
     cases h:(List.range len)[i]? with
     | none=>rw [h] at hs;cases hs
     | some x=>have:=(List.getElem?_eq_some_iff.1 h).1;simpa using this
    rw [List.getElem?_range hi] at hs;simp at hs;subst hs
    have hj:j<c:=by
     have:=(List.getElem?_eq_some_iff.1 hv).1;rw [hlen] at this;exact this
    have:=(hg i hi).1 j hj
    have e:((⟨a.block,a.off,none⟩:Addr).add (i*c)).add j=⟨a.block,a.off+i*c+j,none⟩:=by
     unfold Addr.add
     by_cases h1:i*c=0<;>by_cases h2:j=0<;>simp [h1,h2,Nat.add_assoc]
    rw [hv,hspot.1,e] at this;exact this
  ·obtain ⟨i,hi,rfl⟩:=List.mem_map.1 hs;exact (hg i (List.mem_range.1 hi)).2
set_option maxRecDepth 100000 in
theorem aCq (h:DataW.trod enc Tryz.prog W 0 sp held n 9 cs=some x):∃ s:Bys,cs=stL s /\ B63 s:=by
 obtain ⟨s,rfl,_,hs⟩:=DataW.trod_string u9_ h;obtain ⟨l,rfl⟩:=aGE s;rw [aDI] at hs;exact ⟨l,rfl,by unfold maxLen at hs;unfold B63;omega⟩
set_option maxRecDepth 100000 in
theorem aCr (h:DataW.trod enc Tryz.prog W 0 sp held n 3 cs=some x):∃ m:Int,cs=[vI m]:=by
 obtain ⟨m,rfl,_⟩:=DataW.trod_int u3_ h;exact ⟨m,rfl⟩
set_option maxRecDepth 100000 in
theorem aP7 (h:DataW.trod enc Tryz.prog W 0 sp held n 72 cs=some x):∃ t:Tag,cs=tgL t /\ (B63 t.1 /\ B63 t.2):=by
 obtain ⟨xs,m,_,_,hl,hlen,hf⟩:=DataW.trod_struct Tryz.underlying72 h;rw [show Tryz.prog.cellsOf 72=2 by kernel_rfl] at hl
 match cs,hl with
 | [c0,c1],_ =>
 obtain ⟨y0,e0⟩:∃ y,xs[0]?=some y:=⟨_,Gb_ (by rw [hlen];simp)⟩;obtain ⟨y1,e1⟩:∃ y,xs[1]?=some y:=⟨_,Gb_ (by rw [hlen];simp)⟩;have h0:DataW.trod enc Tryz.prog W 0 sp held m 9 (List.take (Tryz.prog.cellsOf 9) (List.drop 0 [c0,c1]))=some y0:=(hf 0 _ rfl).trans e0;have h1:DataW.trod enc Tryz.prog W 0 sp held m 9 (List.take (Tryz.prog.cellsOf 9) (List.drop 1 [c0,c1]))=some y1:=(hf 1 _ rfl).trans e1;rw [show Tryz.prog.cellsOf 9=1 by kernel_rfl] at h0 h1;obtain ⟨s0,g0,b0⟩:=aCq h0;obtain ⟨s1,g1,b1⟩:=aCq h1;have g0:[c0]=[vS s0]:=g0;have g1:[c1]=[vS s1]:=g1;cases g0;cases g1;exact ⟨(s0,s1),rfl,b0,b1⟩
set_option maxRecDepth 100000 in
theorem aNn (h:DataW.trod enc Tryz.prog W 0 sp held n 29 cs=some x):∃ a b:Int,cs=[vI a,vI b]:=by
 obtain ⟨xs,m,_,_,hl,hlen,hf⟩:=DataW.trod_struct u29_ h;rw [show Tryz.prog.cellsOf 29=2 by kernel_rfl] at hl
 match cs,hl with
 | [c0,c1],_ =>
 obtain ⟨y0,e0⟩:∃ y,xs[0]?=some y:=⟨_,Gb_ (by rw [hlen];simp)⟩;obtain ⟨y1,e1⟩:∃ y,xs[1]?=some y:=⟨_,Gb_ (by rw [hlen];simp)⟩;have h0:DataW.trod enc Tryz.prog W 0 sp held m 3 (List.take (Tryz.prog.cellsOf 3) (List.drop 0 [c0,c1]))=some y0:=(hf 0 _ rfl).trans e0;have h1:DataW.trod enc Tryz.prog W 0 sp held m 3 (List.take (Tryz.prog.cellsOf 3) (List.drop 1 [c0,c1]))=some y1:=(hf 1 _ rfl).trans e1;rw [show Tryz.prog.cellsOf 3=1 by kernel_rfl] at h0 h1;obtain ⟨s0,g0⟩:=aCr h0;obtain ⟨s1,g1⟩:=aCr h1;have g0:[c0]=[vI s0]:=g0;have g1:[c1]=[vI s1]:=g1;cases g0;cases g1;exact ⟨s0,s1,rfl⟩
set_option maxRecDepth 100000 in
theorem aRT (h:DataW.trod enc Tryz.prog W 0 sp held n 48 cs=some x):∃ b:ObR,cs=obL b /\ ObIn W b:=by
 obtain ⟨xs,m,_,_,hl,hlen,hf⟩:=DataW.trod_struct Tryz.underlying48 h;rw [show Tryz.prog.cellsOf 48=6 by kernel_rfl] at hl
 match cs,hl with
 | [c0,c1,c2,c3,c4,c5],_ =>
 obtain ⟨y0,e0⟩:∃ y,xs[0]?=some y:=⟨_,Gb_ (by rw [hlen];simp)⟩;obtain ⟨y1,e1⟩:∃ y,xs[1]?=some y:=⟨_,Gb_ (by rw [hlen];simp)⟩;obtain ⟨y2,e2⟩:∃ y,xs[2]?=some y:=⟨_,Gb_ (by rw [hlen];simp)⟩;obtain ⟨y3,e3⟩:∃ y,xs[3]?=some y:=⟨_,Gb_ (by rw [hlen];simp)⟩;obtain ⟨y4,e4⟩:∃ y,xs[4]?=some y:=⟨_,Gb_ (by rw [hlen];simp)⟩;have h0:DataW.trod enc Tryz.prog W 0 sp held m 9 (List.take (Tryz.prog.cellsOf 9) (List.drop 0 [c0,c1,c2,c3,c4,c5]))=some y0:=(hf 0 _ rfl).trans e0;have h1:DataW.trod enc Tryz.prog W 0 sp held m 3 (List.take (Tryz.prog.cellsOf 3) (List.drop 1 [c0,c1,c2,c3,c4,c5]))=some y1:=(hf 1 _ rfl).trans e1;have h2:DataW.trod enc Tryz.prog W 0 sp held m 29 (List.take (Tryz.prog.cellsOf 29) (List.drop 2 [c0,c1,c2,c3,c4,c5]))=some y2:=(hf 2 _ rfl).trans e2;have h3:DataW.trod enc Tryz.prog W 0 sp held m 45 (List.take (Tryz.prog.cellsOf 45) (List.drop 4 [c0,c1,c2,c3,c4,c5]))=some y3:=(hf 3 _ rfl).trans e3;have h4:DataW.trod enc Tryz.prog W 0 sp held m 46 (List.take (Tryz.prog.cellsOf 46) (List.drop 5 [c0,c1,c2,c3,c4,c5]))=some y4:=(hf 4 _ rfl).trans e4;rw [show Tryz.prog.cellsOf 9=1 by kernel_rfl] at h0;rw [show Tryz.prog.cellsOf 3=1 by kernel_rfl] at h1;rw [show Tryz.prog.cellsOf 29=2 by kernel_rfl] at h2;rw [show Tryz.prog.cellsOf 45=1 by kernel_rfl] at h3;rw [show Tryz.prog.cellsOf 46=1 by kernel_rfl] at h4;obtain ⟨s0,g0,b0⟩:=aCq h0;obtain ⟨s1,g1⟩:=aCr h1;obtain ⟨s2,s3,g2⟩:=aNn h2;obtain ⟨rs,pr,cr,g3,k3,b3⟩:=aHp [] stL 1 u45_ (by kernel_rfl) (fun _=>rfl) (by decide) B63 (fun _ _ _ h=>aCq h) h3;obtain ⟨ts,pt,ct,g4,k4,b4⟩:=aHp ([],[]) tgL 2 Tryz.underlying46 (by kernel_rfl) (fun _=>rfl) (by decide) (fun t=>B63 t.1 /\ B63 t.2) (fun _ _ _ h=>aP7 h) h4;have g0:[c0]=[vS s0]:=g0;have g1:[c1]=[vI s1]:=g1;have g2:[c2,c3]=[vI s2,vI s3]:=g2;have g3:[c4]=[vL pr rs.length cr]:=g3;have g4:[c5]=[vL pt ts.length ct]:=g4;cases g0;cases g1;cases g2;cases g3;cases g4;exact ⟨⟨⟨s0,s1,s2,s3,rs,ts⟩,pr,cr,pt,ct⟩,rfl,k3,k4,b0,b3,b4⟩
set_option maxRecDepth 100000 in
theorem aP9 (h:DataW.trod enc Tryz.prog W 0 sp held n 24 cs=some x):∃ (os:List ObR) (v:Value),cs=[v] /\ aDr W v os:=by
 obtain ⟨xs,m,_,_,hl,hlen,hf⟩:=DataW.trod_struct Tryz.underlying24 h;rw [show Tryz.prog.cellsOf 24=1 by kernel_rfl] at hl
 match cs,hl with
 | [c0],_ =>
 obtain ⟨y0,e0⟩:∃ y,xs[0]?=some y:=⟨_,Gb_ (by rw [hlen];simp)⟩;have h0:DataW.trod enc Tryz.prog W 0 sp held m 22 (List.take (Tryz.prog.cellsOf 22) (List.drop 0 [c0]))=some y0:=(hf 0 _ rfl).trans e0;rw [show Tryz.prog.cellsOf 22=1 by kernel_rfl] at h0;obtain ⟨os,p,cap,g0,k0,b0⟩:=aHp ⟨⟨[],0,0,0,[],[]⟩,none,0,none,0⟩ obL 6 Tryz.underlying22 (by kernel_rfl) (fun _=>rfl) (by decide) (ObIn W) (fun _ _ _ h=>aRT h) h0;have g0:[c0]=[vL p os.length cap]:=g0;cases g0;exact ⟨os,_,rfl,k0.src,b0⟩
end
end Go.Proofs.YtngjlnhojicjeaaGreatDoor
namespace Go.Pl
open Go.RowKit Go.ChangeShapes Go.WideShapes
theorem aEo {H:Type}{enc:TypeId×Value->H}{P:Program}(hl:laidOutB P=true) {W W':World}(hb:Below W.heap.size W W') :
  ∀ (ts:List TypeId) (vs:List Value) (ds:List (DataW H)) (ps:List MemPlace),(∀ t∈ts,P.readableRec t=true /\ t<P.types.size)->DataW.TrodAll enc P W 0 (fun _=>true) true ts vs ds ps->(∀ x∈ps,x.block<W.heap.size) ->
   DataW.TrodAll enc P W' 0 (fun b=>decide (b<W.heap.size)) true ts vs ds ps
 | [],[],[],ps,_,h,_=>h
 | t::ts,v::vs,d::ds,ps,hr,h,hlt=>by
  obtain ⟨p,q,h1,h2,rfl⟩:=h
  exact ⟨p,q,Below.trod hl (hr t (by simp)).1 (hr t (by simp)).2 h1 hb (fun x hx=>hlt x (by simp [hx])),
   aEo hl hb ts vs ds q (fun t ht=>hr t (by simp [ht])) h2 (fun x hx=>hlt x (by simp [hx])),rfl⟩
 | [],[],_::_,_,_,h,_=>h.elim
 | [],_::_,_,_,_,h,_=>by cases h
 | _::_,[],_,_,_,h,_=>by cases h
 | _::_,_::_,[],_,_,h,_=>h.elim
theorem aPK {H:Type}{enc:TypeId×Value->H}{P:Program}(hl:laidOutB P=true) {fn:Func}{s:ChangeSpec}{apart fresh handsOn:Bool}{W W':World}{args:Array Value}{ds gs:List (DataW H)}{before:List MemPlace}
  (hread:∀ t∈fn.params.toList,P.readableRec t=true /\ t<P.types.size) {tb:TypeId}(hres:fn.resultTypes=#[tb]) (htb:P.underlying tb=some .bool) (hvars:s.vars=[])
  (hs:s.fn H (ds++gs)={ results:=[.lit (.bool true)],args:=ds }) (hW:DataW.Whole enc P fn.params.toList s.vars apart W args.toList ds gs before) (hb:Below W.heap.size W W') :
  s.post enc P fn apart fresh handsOn false W args (.bool true) W':=by
 have hlt:=hW.lt;have hW0:=hW;obtain ⟨p,q,hA,hV,hpq,_,_⟩:=hW;refine ⟨ds,gs,before,[],p,[],hW0,?_,?_,?_,hb.frame _,fun h=>by cases h⟩
 ·rw [hs,hres];exact trodAll_mk1 (shut_bool htb _)
 ·rw [hs];exact aEo hl hb _ _ _ _ hread hA (fun x hx=>hlt x (by rw [hpq];simp [hx]))
 ·rw [hs,hvars];rfl
end Go.Pl
namespace Go.Proofs.YtngjlnhojicjeaaGreatDoor
open Go.RowKit Go.Pl Go.ChangeShapes Go.WideShapes
theorem aXj:laidOutB Tryz.prog=true:=by kernel_rfl
theorem aXi:ownKnob Tryz.prog.godebug=none:=by kernel_rfl
set_option maxRecDepth 100000 in
theorem aNW {W:World}{name:String}{g t:Nat}{s:String}{d:DataW Unit}{ms:Array _}(hg:Tryz.prog.globalNamed name=some g) (hty:(Tryz.prog.globals[g]?).map (·.type)=some t) (ht:Tryz.prog.underlying t=some (.interface ms)) (h:Lib.VarReads Tryz.prog W name (.iface s d)):aVW W g:=by
 obtain ⟨g',t',cs,fuel,p,hg',ht',hvar,hd⟩:=h;obtain rfl:=Gi_ (hg.symm.trans hg');obtain rfl:=Gi_ (hty.symm.trans ht')
 cases fuel with
 | zero=>cases hd
 | succ fuel =>
  unfold DataW.trod at hd;rw [ht] at hd;unfold World.var? at hvar;rw [hg] at hvar;simp only [Option.bind_some] at hvar
  split at hvar
  ·rename_i cs' T' fz hb;obtain rfl:=Gi_ hvar
   have key:∃ ev,cs'.toList=[ev] /\ (ev = .nilIface∨∃ te pe,ev = .iface te pe):=by
    split at hd<;>first | (cases hd;done) | skip
    all_goals (rename_i h1 h2;first | (cases h1;done) | (cases h2;done) | (exact ⟨_,h2,.inl rfl⟩) | (exact ⟨_,h2,.inr ⟨_,_,rfl⟩⟩))
   obtain ⟨ev,h1,h2⟩:=key;refine ⟨ev,?_,h2⟩;have hz:cs'[0]?=some ev:=by rw [←Array.getElem?_toList,h1];rfl
   unfold World.cell?;simp [hb,hz]
  ·cases hvar
def aLH:List (String×DataW Unit):=[("math/bits.deBruijn32tab",Rows.laid_math_bits_deBruijn32tab),("math/bits.deBruijn64tab",Rows.laid_math_bits_deBruijn64tab),("internal/strconv.uint64pow10",Rows.laid_internal_strconv_uint64pow10),("strconv.ErrRange",Rows.laid_strconv_ErrRange),("strconv.ErrSyntax",Rows.laid_strconv_ErrSyntax),("unicode.White_Space",Rows.laid_unicode_White_Space),("strings.asciiSpace",Rows.laid_strings_asciiSpace)]
set_option maxRecDepth 100000 in
theorem aQg (os:Os) (args:Array Value):laidMetH Tryz.prog aLH ((World.doorLaid Tryz.prog 86 os).forCall (fun _ _=>0) ⟨#[],args,[]⟩).memory :=
 laidMetH_of_parts3 (fuel:=8) (laidMet_of_run' 8 (by kernel_rfl) (by kernel_rfl)) (by kernel_rfl) (by kernel_rfl)
theorem aQ2 {W:World}{name:String}{k:IntKind}{zs:List Int}{g:Nat}{t e:TypeId}{n:Nat}(hg:Tryz.prog.globalNamed name=some g) (hty:(Tryz.prog.globals[g]?).map (·.type)=some t) (ht:Tryz.prog.underlying t=some (.array n e)) (he:Tryz.prog.underlying e=some (.int k)) (hce:Tryz.prog.cellsOf e=1) (hct:Tryz.prog.cellsOf t=n) (h:Lib.VarReads Tryz.prog W name (Lib.tabData k zs)):Lib.TabIs Tryz.prog W name k zs:=by
 obtain ⟨g',t',cs,fuel,p,hg',ht',hvar,hd⟩:=h;obtain rfl:=Gi_ (hg.symm.trans hg');obtain rfl:=Gi_ (hty.symm.trans ht');unfold Lib.TabIs;rw [hvar,←Lib.cells_of_tab ht he hce hct hd]
set_option maxRecDepth 100000 in
theorem aVg {W:World}(h:laidMetH Tryz.prog aLH W):Tb W:=by
 rw [MakeChecks.laidMetH_plain _ _ _ (by kernel_rfl)] at h
 exact ⟨aQ2 (g:=6) (t:=412) (e:=164) (n:=20) (by kernel_rfl) (by kernel_rfl) (by kernel_rfl) (by kernel_rfl) (by kernel_rfl) (by kernel_rfl) (Lib.laidMet.reads h (d:=Rows.laid_internal_strconv_uint64pow10) (.tail _ (.tail _ (.head _)))),
  aQ2 (g:=5) (t:=137) (e:=5) (n:=256) (by kernel_rfl) (by kernel_rfl) (by kernel_rfl) (by kernel_rfl) (by kernel_rfl) (by kernel_rfl) (Lib.laidMet.reads h (d:=Rows.laid_strings_asciiSpace) (.tail _ (.tail _ (.tail _ (.tail _ (.tail _ (.tail _ (.head _))))))))⟩
set_option maxRecDepth 100000 in
theorem aVf {W:World}(h:laidMetH Tryz.prog aLH W):Te W:=by
 have hT:=aVg h;rw [MakeChecks.laidMetH_plain _ _ _ (by kernel_rfl)] at h
 exact ⟨hT,aNW (g:=3) (t:=133) (by kernel_rfl) (by kernel_rfl) Tryz.underlying133 (Lib.laidMet.reads h (n := "strconv.ErrSyntax") (d:=Rows.laid_strconv_ErrSyntax) (.tail _ (.tail _ (.tail _ (.tail _ (.head _)))))),
  aNW (g:=4) (t:=133) (by kernel_rfl) (by kernel_rfl) Tryz.underlying133 (Lib.laidMet.reads h (n := "strconv.ErrRange") (d:=Rows.laid_strconv_ErrRange) (.tail _ (.tail _ (.tail _ (.head _)))))⟩
section
variable {H:Type}{enc:TypeId×Value->H}{W:World}{sp:Nat->Bool}{held:Bool}
theorem aNm {n:Nat}{cs:List Value}{x:DataW H×List MemPlace}{α:Type}(dflt:α) (f:α->List Value) (c:Nat) {T E:TypeId}(hT:Tryz.prog.underlying T=some (.slice E)) (hc:Tryz.prog.cellsOf E=c) (hlen:∀ a,(f a).length=c) (hc0:0<c) (Q:Nat->α->Prop) (hel:∀ m,m<n->∀ cs x,DataW.trod enc Tryz.prog W 0 sp held m E cs=some x->∃ a,cs=f a /\ Q m a)
  (h:DataW.trod enc Tryz.prog W 0 sp held n T cs=some x):∃ (l:List α) (p:Option Addr) (cap m:Nat),m<=n /\ cs=[.slice p l.length cap] /\ SrcP f c W p cap l /\ ∀ a∈l,m<n /\ Q m a:=by
 rcases DataW.trod_slice hT h with ⟨rfl,_⟩ | ⟨a,len,cap,elems,rest,m,hfu,rfl,_,_,hl,hm,hle9,hel9,_,_⟩
 ·exact ⟨[],none,0,0,Gg_ _,rfl,⟨Gk_ _,Gg_ _,.inl rfl,fun _=>rfl⟩,fun _ h=>(by cases h)⟩
 ·rw [hc] at hel9
  have hall:∀ i,i<len->∃ s:α,(∀ j,j<c->W.cell? ((a.add (i*c)).add j)=(f s)[j]?) /\ Q m s:=fun i hi=>by
   have key:=hel9 i hi;rw [Gb_ (by omega)] at key;obtain ⟨cs',h1,h2⟩:=Option.bind_eq_some_iff.1 key;obtain ⟨_,_,h3⟩:=World.cells?_some h1;obtain ⟨s,rfl,hq⟩:=hel m (by omega) _ _ h2;exact ⟨s,fun j hj=>by rw [h3 j hj],hq⟩
  haveI:Inhabited α:=⟨dflt⟩
  obtain ⟨g,hg⟩:=Deep.choose_lt hall;refine ⟨(List.range len).map g,some a,cap,m,by omega,by simp,⟨by simpa using hl,hm,?_,fun h=>by cases h⟩,fun s hs=>?_⟩
  ·rcases Nat.eq_zero_or_pos len with h0 | h0
   ·left;rw [h0];rfl
   ·right
    have hspot:a=⟨a.block,a.off,none⟩ /\ a.block<W.heap.size:=by
     have:=(hg 0 h0).1 0 hc0;rw [Nat.zero_mul] at this;have e0:(a.add 0).add 0=a:=by simp [Addr.add]
     rw [e0] at this;obtain ⟨v0,hv0⟩:∃ v,(f (g 0))[0]?=some v:=⟨_,Gb_ (by rw [hlen];exact hc0)⟩;rw [hv0] at this;refine ⟨?_,World.block_lt_of_cell? W a this⟩
     cases a with
     | mk b o s =>
      cases s with
      | none=>rfl
      | some k =>
       unfold World.cell? at this
       split at this<;>simp at this
    refine ⟨a.block,a.off,by rw [←hspot.1],hspot.2,fun i s hs j v hv=>?_⟩;rw [Gr_] at hs
    have hi:i<len:=by
     cases h:(List.range len)[i]? with
     | none=>rw [h] at hs;cases hs
     | some x=>have:=(List.getElem?_eq_some_iff.1 h).1;simpa using this
    rw [List.getElem?_range hi] at hs;simp at hs;subst hs
    have hj:j<c:=by
     have:=(List.getElem?_eq_some_iff.1 hv).1;rw [hlen] at this;exact this
    have:=(hg i hi).1 j hj
    have e:((⟨a.block,a.off,none⟩:Addr).add (i*c)).add j=⟨a.block,a.off+i*c+j,none⟩:=by
     unfold Addr.add
     by_cases h1:i*c=0<;>by_cases h2:j=0<;>simp [h1,h2,Nat.add_assoc]
    rw [hv,hspot.1,e] at this;exact this
  ·obtain ⟨i,hi,rfl⟩:=List.mem_map.1 hs;exact ⟨by omega,(hg i (List.mem_range.1 hi)).2⟩
theorem CdB.up {w:World}{B:Nat}:∀ {h k:Nat}{c:CdR},h<=k->CdB w B h c->CdB w B k c
 | 0,_,_,_,hc=>hc.elim
 | h+1,0,_,hk,_=>absurd hk (by omega)
 | h+1,k+1,_,hk,⟨a,b,s,ks⟩=>⟨a,b,s,fun x hx=>(ks x hx).up (by omega)⟩
set_option maxRecDepth 100000 in
theorem aNo:∀ {n:Nat}{cs:List Value}{x:DataW H×List MemPlace},DataW.trod enc Tryz.prog W 0 sp held n 27 cs=some x->∃ c:CdR,cs=cdL c /\ CdB W W.heap.size n c:=by
 intro n
 induction n using Nat.strongRecOn with
 | _ n ih =>
 intro cs x h;obtain ⟨xs,m,hnm,_,hl,hlen,hf⟩:=DataW.trod_struct Tryz.underlying27 h;rw [show Tryz.prog.cellsOf 27=5 by kernel_rfl] at hl
 match cs,hl with
 | [c0,c1,c2,c3,c4],_ =>
 obtain ⟨y0,e0⟩:∃ y,xs[0]?=some y:=⟨_,Gb_ (by rw [hlen];simp)⟩;obtain ⟨y1,e1⟩:∃ y,xs[1]?=some y:=⟨_,Gb_ (by rw [hlen];simp)⟩;obtain ⟨y2,e2⟩:∃ y,xs[2]?=some y:=⟨_,Gb_ (by rw [hlen];simp)⟩;obtain ⟨y3,e3⟩:∃ y,xs[3]?=some y:=⟨_,Gb_ (by rw [hlen];simp)⟩;obtain ⟨y4,e4⟩:∃ y,xs[4]?=some y:=⟨_,Gb_ (by rw [hlen];simp)⟩;have h0:DataW.trod enc Tryz.prog W 0 sp held m 3 (List.take (Tryz.prog.cellsOf 3) (List.drop 0 [c0,c1,c2,c3,c4]))=some y0:=(hf 0 _ rfl).trans e0;have h1:DataW.trod enc Tryz.prog W 0 sp held m 9 (List.take (Tryz.prog.cellsOf 9) (List.drop 1 [c0,c1,c2,c3,c4]))=some y1:=(hf 1 _ rfl).trans e1;have h2:DataW.trod enc Tryz.prog W 0 sp held m 9 (List.take (Tryz.prog.cellsOf 9) (List.drop 2 [c0,c1,c2,c3,c4]))=some y2:=(hf 2 _ rfl).trans e2;have h3:DataW.trod enc Tryz.prog W 0 sp held m 3 (List.take (Tryz.prog.cellsOf 3) (List.drop 3 [c0,c1,c2,c3,c4]))=some y3:=(hf 3 _ rfl).trans e3;have h4:DataW.trod enc Tryz.prog W 0 sp held m 25 (List.take (Tryz.prog.cellsOf 25) (List.drop 4 [c0,c1,c2,c3,c4]))=some y4:=(hf 4 _ rfl).trans e4;rw [show Tryz.prog.cellsOf 3=1 by kernel_rfl] at h0 h3;rw [show Tryz.prog.cellsOf 9=1 by kernel_rfl] at h1 h2;rw [show Tryz.prog.cellsOf 25=1 by kernel_rfl] at h4;obtain ⟨s0,g0⟩:=aCr h0;obtain ⟨s1,g1,b1⟩:=aCq h1;obtain ⟨s2,g2,b2⟩:=aCq h2;obtain ⟨s3,g3⟩:=aCr h3;obtain ⟨ks,p,cap,k,hk,g4,k4,b4⟩:=aNm (.mk 0 [] [] 0 none 0 []) cdL 5 Tryz.underlying25 (by kernel_rfl) (fun _=>rfl) (by decide) (fun m c=>CdB W W.heap.size m c) (fun j hj _ _ h=>ih j (by omega) h) h4;have g0:[c0]=[vI s0]:=g0;have g1:[c1]=[vS s1]:=g1;have g2:[c2]=[vS s2]:=g2;have g3:[c3]=[vI s3]:=g3;have g4:[c4]=[vL p ks.length cap]:=g4;cases g0;cases g1;cases g2;cases g3;cases g4;refine ⟨.mk s0 s1 s2 s3 p cap ks,rfl,?_⟩;rw [hnm];exact ⟨b1,b2,k4.b (Fr.refl _ _),fun a ha=>(b4 a ha).2.up (by omega)⟩
set_option maxRecDepth 100000 in
theorem aP8 {n:Nat}{cs:List Value}{x:DataW H×List MemPlace}(h:DataW.trod enc Tryz.prog W 0 sp held n 31 cs=some x):∃ (q:QdR) (m:Nat),cs=qdL q /\ QdIn W W.heap.size m q:=by
 obtain ⟨xs,m,hnm,_,hl,hlen,hf⟩:=DataW.trod_struct Tryz.underlying31 h;rw [show Tryz.prog.cellsOf 31=14 by kernel_rfl] at hl
 match cs,hl with
 | [c0,c1,c2,c3,c4,c5,c6,c7,c8,c9,c10,c11,c12,c13],_ =>
 obtain ⟨y0,e0⟩:∃ y,xs[0]?=some y:=⟨_,Gb_ (by rw [hlen];simp)⟩;obtain ⟨y1,e1⟩:∃ y,xs[1]?=some y:=⟨_,Gb_ (by rw [hlen];simp)⟩;obtain ⟨y2,e2⟩:∃ y,xs[2]?=some y:=⟨_,Gb_ (by rw [hlen];simp)⟩;obtain ⟨y3,e3⟩:∃ y,xs[3]?=some y:=⟨_,Gb_ (by rw [hlen];simp)⟩;obtain ⟨y4,e4⟩:∃ y,xs[4]?=some y:=⟨_,Gb_ (by rw [hlen];simp)⟩;obtain ⟨y5,e5⟩:∃ y,xs[5]?=some y:=⟨_,Gb_ (by rw [hlen];simp)⟩;obtain ⟨y6,e6⟩:∃ y,xs[6]?=some y:=⟨_,Gb_ (by rw [hlen];simp)⟩;obtain ⟨y7,e7⟩:∃ y,xs[7]?=some y:=⟨_,Gb_ (by rw [hlen];simp)⟩;obtain ⟨y8,e8⟩:∃ y,xs[8]?=some y:=⟨_,Gb_ (by rw [hlen];simp)⟩;have h0:DataW.trod enc Tryz.prog W 0 sp held m 3 (List.take (Tryz.prog.cellsOf 3) (List.drop 0 [c0,c1,c2,c3,c4,c5,c6,c7,c8,c9,c10,c11,c12,c13]))=some y0:=(hf 0 _ rfl).trans e0;have h1:DataW.trod enc Tryz.prog W 0 sp held m 3 (List.take (Tryz.prog.cellsOf 3) (List.drop 1 [c0,c1,c2,c3,c4,c5,c6,c7,c8,c9,c10,c11,c12,c13]))=some y1:=(hf 1 _ rfl).trans e1;have h2:DataW.trod enc Tryz.prog W 0 sp held m 27 (List.take (Tryz.prog.cellsOf 27) (List.drop 2 [c0,c1,c2,c3,c4,c5,c6,c7,c8,c9,c10,c11,c12,c13]))=some y2:=(hf 2 _ rfl).trans e2;have h3:DataW.trod enc Tryz.prog W 0 sp held m 9 (List.take (Tryz.prog.cellsOf 9) (List.drop 7 [c0,c1,c2,c3,c4,c5,c6,c7,c8,c9,c10,c11,c12,c13]))=some y3:=(hf 3 _ rfl).trans e3;have h4:DataW.trod enc Tryz.prog W 0 sp held m 3 (List.take (Tryz.prog.cellsOf 3) (List.drop 8 [c0,c1,c2,c3,c4,c5,c6,c7,c8,c9,c10,c11,c12,c13]))=some y4:=(hf 4 _ rfl).trans e4;have h5:DataW.trod enc Tryz.prog W 0 sp held m 29 (List.take (Tryz.prog.cellsOf 29) (List.drop 9 [c0,c1,c2,c3,c4,c5,c6,c7,c8,c9,c10,c11,c12,c13]))=some y5:=(hf 5 _ rfl).trans e5;have h6:DataW.trod enc Tryz.prog W 0 sp held m 9 (List.take (Tryz.prog.cellsOf 9) (List.drop 11 [c0,c1,c2,c3,c4,c5,c6,c7,c8,c9,c10,c11,c12,c13]))=some y6:=(hf 6 _ rfl).trans e6;have h7:DataW.trod enc Tryz.prog W 0 sp held m 9 (List.take (Tryz.prog.cellsOf 9) (List.drop 12 [c0,c1,c2,c3,c4,c5,c6,c7,c8,c9,c10,c11,c12,c13]))=some y7:=(hf 7 _ rfl).trans e7;have h8:DataW.trod enc Tryz.prog W 0 sp held m 3 (List.take (Tryz.prog.cellsOf 3) (List.drop 13 [c0,c1,c2,c3,c4,c5,c6,c7,c8,c9,c10,c11,c12,c13]))=some y8:=(hf 8 _ rfl).trans e8;rw [show Tryz.prog.cellsOf 3=1 by kernel_rfl] at h0 h1 h4 h8;rw [show Tryz.prog.cellsOf 9=1 by kernel_rfl] at h3 h6 h7;rw [show Tryz.prog.cellsOf 27=5 by kernel_rfl] at h2;rw [show Tryz.prog.cellsOf 29=2 by kernel_rfl] at h5;obtain ⟨s0,g0⟩:=aCr h0;obtain ⟨s1,g1⟩:=aCr h1;obtain ⟨c,g2,b2⟩:=aNo h2;obtain ⟨s3,g3,b3⟩:=aCq h3;obtain ⟨s4,g4⟩:=aCr h4;obtain ⟨s5,t5,g5⟩:=aNn h5;obtain ⟨s6,g6,b6⟩:=aCq h6;obtain ⟨s7,g7,b7⟩:=aCq h7;obtain ⟨s8,g8⟩:=aCr h8;have g0:[c0]=[vI s0]:=g0;have g1:[c1]=[vI s1]:=g1;have g2:[c2,c3,c4,c5,c6]=[vI c.op,vS c.key,vS c.val,vI c.n,vL c.p c.kids.length c.cap]:=g2;have g3:[c7]=[vS s3]:=g3;have g4:[c8]=[vI s4]:=g4;have g5:[c9,c10]=[vI s5,vI t5]:=g5;have g6:[c11]=[vS s6]:=g6;have g7:[c12]=[vS s7]:=g7;have g8:[c13]=[vI s8]:=g8;cases g0;cases g1;cases g2;cases g3;cases g4;cases g5;cases g6;cases g7;cases g8;exact ⟨⟨s0,s1,c,s3,s4,s5,t5,s6,s7,s8⟩,m,rfl,b2,b3,b6,b7⟩
end
open Go
theorem aBC {a b:Bool}(h:a=true) (k:b=true):(a&&b)=true:=by rw [h,k];rfl
theorem jk0:(Rows.evalNearestRow.wf (OpenSpec.ofChange Rows.evalNearestSpec))=true:=by kernel_rfl
theorem jk1:(laidOutB (Tryz.pinned.checked.prog))=true:=by kernel_rfl
theorem jk2:(mapsRowed (Tryz.pinned.checked.prog))=true:=by kernel_rfl
theorem jk3:(Tryz.f4.params.all ((Tryz.pinned.checked.prog).readableRec ·))=true:=by kernel_rfl
theorem jk4:(namedTie (Tryz.pinned.checked.prog) Rows.evalNearestRow.named Rows.evalNearestSpec.vars)=true:=by kernel_rfl
theorem jk5:((Rows.evalNearestRow.stops==[]))=true:=by kernel_rfl
theorem jk6:(((Tryz.pinned.checked.prog).stops==[]))=true:=by kernel_rfl
theorem jk7:((Rows.evalNearestRow.knobs==[]))=true:=by kernel_rfl
theorem jk8:(((Tryz.pinned.checked.prog).stopKnobs==[]))=true:=by kernel_rfl
theorem jk9:((Rows.evalNearestRow.inPlace==(Tryz.pinned.checked.prog).inPlace 4))=true:=by kernel_rfl
theorem aX5:((Rows.evalNearestRow.unfollowed==(Tryz.pinned.checked.prog).unfollowed 4))=true:=by kernel_rfl
theorem aX4:((Rows.evalNearestRow.recurses==(Tryz.pinned.checked.prog).recurses 4))=true:=by kernel_rfl
theorem aX3:((Rows.evalNearestRow.named==(Tryz.pinned.checked.prog).varsNamed 4))=true:=by kernel_rfl
theorem aX2:((Rows.evalNearestRow.maps==(Tryz.f4.params.toList++Rows.evalNearestSpec.plain.varTypes (Tryz.pinned.checked.prog)).any ((Tryz.pinned.checked.prog).mapsRec ·)))=true:=by kernel_rfl
theorem aX1:((Rows.evalNearestRow.ifaces==(Tryz.f4.params.toList++Rows.evalNearestSpec.plain.varTypes (Tryz.pinned.checked.prog)).any ((Tryz.pinned.checked.prog).ifacesRec ·)))=true:=by kernel_rfl
theorem aX0:((Rows.evalNearestRow.mapsOut==(Tryz.pinned.checked.prog).mapsAmong Tryz.f4.resultTypes.toList))=true:=by kernel_rfl
theorem aXz:((Rows.evalNearestRow.loops==(Tryz.f4.params.toList++Rows.evalNearestSpec.plain.varTypes (Tryz.pinned.checked.prog)).any ((Tryz.pinned.checked.prog).loopsFrom ·)))=true:=by kernel_rfl
theorem aXy:((Rows.evalNearestRow.wideKeys==(Tryz.f4.params.toList++Rows.evalNearestSpec.plain.varTypes (Tryz.pinned.checked.prog)++Tryz.f4.resultTypes.toList).any ((Tryz.pinned.checked.prog).wideKeysFrom ·)))=true:=by kernel_rfl
theorem aXx:(Rows.evalNearestSpec.vars.all ((Tryz.pinned.checked.prog).varReadable ·))=true:=by kernel_rfl
theorem aXw:(Tryz.f4.resultTypes.all (fun t=>(Tryz.pinned.checked.prog).readableRec t&&decide (t<(Tryz.pinned.checked.prog).types.size)))=true:=by kernel_rfl
theorem aXv:((Rows.evalNearestRow.ifacesOut==Tryz.f4.resultTypes.toList.any ((Tryz.pinned.checked.prog).ifacesRec ·)))=true:=by kernel_rfl
theorem aXu:((Rows.evalNearestRow.loopsOut==Tryz.f4.resultTypes.toList.any ((Tryz.pinned.checked.prog).loopsFrom ·)))=true:=by kernel_rfl
theorem aXt:((Rows.evalNearestRow.plainKeys==(Tryz.pinned.checked.prog).plainKeys))=true:=by kernel_rfl
theorem aXs:(Rows.evalNearestRow.shortTexts.isNone)=true:=by kernel_rfl
theorem aXr:((Tryz.pinned.checked.prog).stopsHeard)=true:=by kernel_rfl
theorem aXq:((Tryz.pinned.checked.prog).mayEnter)=true:=by kernel_rfl
theorem aXp:((Rows.evalNearestRow.lifted==(Tryz.pinned.checked.prog).liftsFinal))=true:=by kernel_rfl
theorem aXo:(((Tryz.pinned.checked.prog).make==some Rows.evalNearestRow.make))=true:=by kernel_rfl
theorem aXn:((Rows.evalNearestRow.kinds==(if Rows.evalNearestRow.domain.isEmpty then [] else Tryz.f4.params.toList.map fun t=>match (Tryz.pinned.checked.prog).underlying t with | some (.int k)=>some k | _=>none)))=true:=by kernel_rfl
theorem aXm:((Rows.evalNearestRow.pinned==Rows.evalNearestRow.pinnedBy))=true:=by kernel_rfl
theorem aXl:((Rows.evalNearestRow.veiled==(Tryz.f4.params.toList++Rows.evalNearestSpec.plain.varTypes (Tryz.pinned.checked.prog)++Tryz.f4.resultTypes.toList).any ((Tryz.pinned.checked.prog).veiledRec ·)))=true:=by kernel_rfl
theorem aXk:(Rows.evalNearestRow.veiledFits (Tryz.pinned.checked.prog) Tryz.f4.params.toList (Tryz.f4.params.toList++Rows.evalNearestSpec.plain.varTypes (Tryz.pinned.checked.prog)++Tryz.f4.resultTypes.toList))=true:=by kernel_rfl
theorem aNG (P:Program) (f:FuncId) (fn:Func) (s:ChangeSpec) (c:OpenClaim) (h0:(c.wf (OpenSpec.ofChange s))=true) (h1:(laidOutB P)=true) (h2:(mapsRowed P)=true) (h3:(fn.params.all (P.readableRec ·))=true) (h4:(namedTie P c.named s.vars)=true) (h5:((c.stops==[]))=true) (h6:((P.stops==[]))=true) (h7:((c.knobs==[]))=true) (h8:((P.stopKnobs==[]))=true) (h9:((c.inPlace==P.inPlace f))=true) (h10:((c.unfollowed==P.unfollowed f))=true) (h11:((c.recurses==P.recurses f))=true) (h12:((c.named==P.varsNamed f))=true) (h13:((c.maps==(fn.params.toList++s.plain.varTypes P).any (P.mapsRec ·)))=true) (h14:((c.ifaces==(fn.params.toList++s.plain.varTypes P).any (P.ifacesRec ·)))=true) (h15:((c.mapsOut==P.mapsAmong fn.resultTypes.toList))=true) (h16:((c.loops==(fn.params.toList++s.plain.varTypes P).any (P.loopsFrom ·)))=true) (h17:((c.wideKeys==(fn.params.toList++s.plain.varTypes P++fn.resultTypes.toList).any (P.wideKeysFrom ·)))=true) (h18:(s.vars.all (P.varReadable ·))=true) (h19:(fn.resultTypes.all (fun t=>P.readableRec t&&decide (t<P.types.size)))=true) (h20:((c.ifacesOut==fn.resultTypes.toList.any (P.ifacesRec ·)))=true) (h21:((c.loopsOut==fn.resultTypes.toList.any (P.loopsFrom ·)))=true) (h22:((c.plainKeys==P.plainKeys))=true) (h23:(c.shortTexts.isNone)=true) (h24:(P.stopsHeard)=true) (h25:(P.mayEnter)=true) (h26:((c.lifted==P.liftsFinal))=true) (h27:((P.make==some c.make))=true) (h28:((c.kinds==(if c.domain.isEmpty then [] else fn.params.toList.map fun t=>match P.underlying t with | some (.int k)=>some k | _=>none)))=true) (h29:((c.pinned==c.pinnedBy))=true) (h30:((c.veiled==(fn.params.toList++s.plain.varTypes P++fn.resultTypes.toList).any (P.veiledRec ·)))=true) (h31:(c.veiledFits P fn.params.toList (fn.params.toList++s.plain.varTypes P++fn.resultTypes.toList))=true):joinedFacts P f fn s c=true:=by
 unfold joinedFacts;exact (aBC (aBC (aBC (aBC (aBC (aBC (aBC (aBC (aBC (aBC (aBC (aBC (aBC (aBC (aBC (aBC (aBC (aBC (aBC (aBC (aBC (aBC (aBC (aBC (aBC (aBC (aBC (aBC (aBC (aBC (aBC h0 h1) h2) h3) h4) h5) h6) h7) h8) h9) h10) h11) h12) h13) h14) h15) h16) h17) h18) h19) h20) h21) h22) h23) h24) h25) h26) h27) h28) h29) h30) h31)
theorem aE1:joinedFacts Tryz.pinned.checked.prog 4 Tryz.f4 Rows.evalNearestSpec Rows.evalNearestRow=true :=
 aNG (Tryz.pinned.checked.prog) 4 Tryz.f4 Rows.evalNearestSpec Rows.evalNearestRow jk0 jk1 jk2 jk3 jk4 jk5 jk6 jk7 jk8 jk9 aX5 aX4 aX3 aX2 aX1 aX0 aXz aXy aXx aXw aXv aXu aXt aXs aXr aXq aXp aXo aXn aXm aXl aXk
theorem aEM:Tryz.pinned.checked.prog.funcNamed Rows.evalNearestRow.func=some 4:=by kernel_rfl
end Go.Proofs.YtngjlnhojicjeaaGreatDoor
