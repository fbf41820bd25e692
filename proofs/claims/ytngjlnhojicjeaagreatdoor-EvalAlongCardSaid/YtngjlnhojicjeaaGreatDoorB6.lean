/- Part 6 of the proof. -/
import Derived.Test.YtngjlnhojicjeaaGreatDoorB5
import Derived.LaidMore
import Derived.Deep.Slices
import Derived.OpenShut
import Derived.Test.YtngjlnhojicjeaaGreatDoorTie
import Derived.Lib.LaidU8
import Derived.MakeChecks
import Derived.ProofKit
import Derived.Test.YtngjlnhojicjeaaGreatDoorRows
import Derived.Stop.Joined
set_option linter.unusedVariables false
set_option linter.unusedSimpArgs false
namespace Go.Proofs.YtngjlnhojicjeaaGreatDoor
open Go.RowKit Go.Pl
def mk0 (b:ObR):ShR:=⟨0,b,none,0,none,0⟩
def mkS (os:List ObR):List ShR:=(os.filter fun b=>(aAg (aAa os) b.o.id).1==0).map mk0
theorem aRN {os:List ObR}{S:List ShR}(h:aE7 (aAa os) os S):S.map (fun s=>mk0 s.o)=mkS os:=by
 unfold mkS;rw [←h,List.map_map];rfl
theorem aTT {β:Type}{os:List ObR}{S:List ShR}(h:aE7 (aAa os) os S) {f:ShR->Option β}(hf:∀ s,f s=f (mk0 s.o)):S.filterMap f=(mkS os).filterMap f:=by
 rw [←aRN h,List.filterMap_map];exact congrArg (fun g=>S.filterMap g) (funext hf)
theorem aQe {h:Nat}{q:QdR}{os:List ObR}{S:List ShR}{u:ShR}(hS:aE7 (aAa os) os S):aGf (aAa os) h q S u=aGf (aAa os) h q (mkS os) (mk0 u.o):=aTT (f:=alR (aAa os) h q u) hS fun _=>rfl
theorem aRF {h:Nat}{q:QdR}{os:List ObR}{S:List ShR}{z:Pt}(hS:aE7 (aAa os) os S):aHm (aAa os) h q S z=aHm (aAa os) h q (mkS os) z:=by
 unfold aHm;rw [aTT (f:=cdR (aAa os) h q z) hS fun _=>rfl]
def aAM (h:Nat) (q:QdR) (os:List ObR):List (Bys×Int) :=
 match os.find? fun b=>(b.o.id==q.id)&&((aAg (aAa os) b.o.id).1==0) with
 | some b=>aGf (aAa os) h q (mkS os) (mk0 b)
 | none=>[]
def aEC (h:Nat) (q:QdR) (os:List ObR):List (Bys×Int):=aHm (aAa os) h q (mkS os) (q.x,q.y)
theorem aIT {os:List ObR}{S:List ShR}(h:aE7 (aAa os) os S) {b:ObR}:b∈S.map (·.o)↔b∈os /\ (aAg (aAa os) b.o.id).1=0:=by
 rw [h,List.mem_filter];simp
theorem aJM {h:Nat}{q:QdR}{os:List ObR}{S:List ShR}(hS:aE7 (aAa os) os S) (hno:∀ s∈S,s.o.o.id≠q.id):aAM h q os=[]:=by
 unfold aAM
 cases hf:os.find? fun b=>(b.o.id==q.id)&&((aAg (aAa os) b.o.id).1==0) with
 | none=>rfl
 | some b =>
  have h1:=List.find?_some hf;have h2:=List.mem_of_find?_eq_some hf;simp only [Ga_,beq_iff_eq] at h1;obtain ⟨s,hs,e⟩:=List.mem_map.1 ((aIT hS).2 ⟨h2,h1.2⟩);exact absurd (by rw [e];exact h1.1) (hno s hs)
theorem aJL {h:Nat}{q:QdR}{os:List ObR}{S:List ShR}{u:ShR}(hv:aAl (aAa os)=true) (hS:aE7 (aAa os) os S) (hu:u∈S) (e:u.o.o.id=q.id):aAM h q os=aGf (aAa os) h q S u:=by
 rw [aQe hS];unfold aAM;have huo:=(aIT hS).1 (List.mem_map.2 ⟨u,hu,rfl⟩)
 cases hf:os.find? fun b=>(b.o.id==q.id)&&((aAg (aAa os) b.o.id).1==0) with
 | none =>
  have:=List.find?_eq_none.1 hf u.o huo.1;simp only [Ga_,beq_iff_eq,not_and] at this;exact absurd huo.2 (this e)
 | some b =>
  have h1:=List.find?_some hf;have h2:=List.mem_of_find?_eq_some hf;simp only [Ga_,beq_iff_eq] at h1;obtain ⟨s,hs,e2⟩:=List.mem_map.1 ((aIT hS).2 ⟨h2,h1.2⟩);have e2:s.o=b:=e2;have e3:s=u:=aG2 (aUz hv hS) hs hu (by rw [e2,h1.1,e]);subst e3;rw [←e2]
theorem aKF {h:Nat}{os:List ObR}{q:QdR}(hc:aAo h os q=0):aAs h q=true /\ aAl (aAa os)=true /\ (aBl q == -1)=false /\ ((aBl q==0)=true∨(¬ aAt (aAa os) q.id<0 /\ aCx os q.id=aBl q)):=by
 unfold aAo at hc;cases h1:aAs h q<;>cases h2:aAl (aAa os)<;>cases h3:(aBl q == -1)<;>cases h4:(aBl q==0)<;>cases h5:decide (aAt (aAa os) q.id<0)<;>cases h6:(aCx os q.id==aBl q)<;>rw [h1,h2] at hc<;>simp [h3,h4,h5,h6] at hc ⊢
 ·simp at h5 h6;exact ⟨h5,h6⟩
theorem aNu {os:List ObR}(hv:aAl (aAa os)=true) {b:ObR}(hb:b∈os):aCx os b.o.id=b.o.kind:=by
 have hm:b.o∈aAa os:=List.mem_map.2 ⟨b,hb,rfl⟩;have hf:=aDC (aBd hv) hm;obtain ⟨k,o,h1,h2,h3⟩:=aBn (l:=aAa os) (id:=b.o.id) hf.1;have ho:o=b.o:=aIc (aBd hv) (Ge_ h2) hm h3;unfold aCx;rw [h1];have h4:(aAa os)[k]?=some b.o:=by rw [h2,ho]
 unfold aAa at h4;rw [Gr_] at h4;obtain ⟨c,hc,e⟩:=Option.map_eq_some_iff.1 h4;simp [hc,e]
def frK (v:Value) (os:List ObR) (q:QdR) (b:Nat) (e:Ent):Prop:=∃ bs xi mb S,aE7 (aAa os) os S /\ e=aDd [bk b #[v,vI q.ask,vI q.kind,vI q.wh.op,vS q.wh.key,vS q.wh.val,vI q.wh.n,vL q.wh.p q.wh.kids.length q.wh.cap,vS q.id,vI q.n,vI q.x,vI q.y,vS q.key,vS q.prof,vI q.min,.map (some bs),vP xi 0] 93,mp Tryz.prog 9 bs S.length (shF S),ixG xi mb (.pointer none) false S.length (bxS (aAa os) S),aDd (S.map (shE (aAa os)))]
def rwK (L:List (Bys×Int)) (u:Value) (z:Int) (e:Ent):Prop:=z=0 /\ e=rw_ rwL 2 42 u L
theorem aFO {w:World}{v:Value}{os:List ObR}(hm:aDT w v os) (hlen:os.length<=100000) (hvm:aAl (aAa os)=true) (q:QdR):Calls Tryz.prog 34 #[.agg #[v],vA (qdL q)] w fun e w'=>∃ u e',e = .returned (vP u 0) /\ frK v os q u e' /\ Mm nF_ w w' [e'] :=
 (aIq hm hlen hvm q).mono fun e w' ⟨fb,bs,xi,mb,S,ns,h1,h2,h3,h4⟩=>⟨fb,_,h1,⟨bs,xi,mb,S,h3,rfl⟩,by subst h2;exact aEX (A:=[]) h4⟩
theorem aJw {w wm:World}{M:List Ent}{j b:Nat}{e:Ent}{v:Value}{os:List ObR}{q:QdR}(hvm:aAl (aAa os)=true) (hM:Mm nF_ w wm M) (hj:M[j]?=some (pfE (frK v os q b) e)) (hm:Mm (BlM [pfE (frK v os q b) e]) wm wm [pfE (frK v os q b) e]) :
  ∃ bs xi mb S,aE7 (aAa os) os S /\ (∀ k,BlM [pfE (frK v os q b) e] k->w.heap.size<=k) /\ Mm (BlM [pfE (frK v os q b) e]) wm wm [bk b #[v,vI q.ask,vI q.kind,vI q.wh.op,vS q.wh.key,vS q.wh.val,vI q.wh.n,vL q.wh.p q.wh.kids.length q.wh.cap,vS q.id,vI q.n,vI q.x,vI q.y,vS q.key,vS q.prof,vI q.min,.map (some bs),vP xi 0] 93,mp Tryz.prog 9 bs S.length (shF S),ixO xi mb S.length (bxS (aAa os) S) fun _=>False,aDd (S.map (shE (aAa os)))]:=by
 obtain ⟨⟨bs,xi,mb,S,hS,he⟩,h1⟩:=hm.unpf (j:=0) rfl;have h1:Mm (BlM [pfE (frK v os q b) e]) wm wm [e]:=h1;have hpw:=aUz hvm hS;refine ⟨bs,xi,mb,S,hS,fun k hk=>?_,?_⟩
 ·obtain ⟨x,hx,hk⟩:=hk;rw [Gd_] at hx;subst hx;rcases Nat.lt_or_ge k w.heap.size with h | h
  ·exact (hM.own _ (Ge_ hj) k hk h).elim
  ·exact h
 ·rw [show ([e]:List Ent)=[aDd [bk b #[v,vI q.ask,vI q.kind,vI q.wh.op,vS q.wh.key,vS q.wh.val,vI q.wh.n,vL q.wh.p q.wh.kids.length q.wh.cap,vS q.id,vI q.n,vI q.x,vI q.y,vS q.key,vS q.prof,vI q.min,.map (some bs),vP xi 0] 93,mp Tryz.prog 9 bs S.length (shF S),ixG xi mb (.pointer none) false S.length (bxS (aAa os) S),aDd (S.map (shE (aAa os)))]] by rw [←he]] at h1;have h2:=Mm.ung (A:=[]) (C:=[]) h1
  have h3:=aTE (A:=[bk b #[v,vI q.ask,vI q.kind,vI q.wh.op,vS q.wh.key,vS q.wh.val,vI q.wh.n,vL q.wh.p q.wh.kids.length q.wh.cap,vS q.id,vI q.n,vI q.x,vI q.y,vS q.key,vS q.prof,vI q.min,.map (some bs),vP xi 0] 93,mp Tryz.prog 9 bs S.length (shF S),aDd (S.map (shE (aAa os)))]) (h2.pick [0,1,3,2]) fun s c hc=>by
   obtain ⟨t,ht,_,rfl⟩:=(aEd hpw).1 hc;have:=aOe hvm (aOM hvm rfl hS ht);unfold okB isP isI;omega
  exact h3.pick [0,1,3,2]
section
variable {w wm:World}{M:List Ent}{j b:Nat}{e:Ent}{p0:Option Addr}{cp0:Nat}{os:List ObR}(hm:aDT w (vL p0 os.length cp0) os) (hvm:aAl (aAa os)=true) {B h:Nat}{q:QdR}(hq:QdIn w B h q) (hBw:B<=w.heap.size) (hTe:Te w) (hol:os.length<=10000) (hM:Mm nF_ w wm M) (hj:M[j]?=some (pfE (frK (vL p0 os.length cp0) os q b) e)) (hF:Mm (BlM [pfE (frK (vL p0 os.length cp0) os q b) e]) wm wm [pfE (frK (vL p0 os.length cp0) os q b) e])
include hm hvm hq hBw hTe hol hM hj hF
theorem aOo:Calls Tryz.prog 28 #[vP b 0] wm fun x w'=>∃ u z e',x = .returned (.tuple #[u,vI z]) /\ rwK (aGg h q os) u z e' /\ Mm (BlM [pfE (frK (vL p0 os.length cp0) os q b) e]) wm w' [e']:=by
 obtain ⟨bs,xi,mb,S,hS,hG,h1⟩:=aJw hvm hM hj hF;exact (aOl (hm.fr hM.fr) hvm (hq.fr hM.fr hBw) (Gn_ hBw hM.fr.size) (hTe.fr hM.fr) (h1.get 0 rfl) (by omega)).mono fun x w' ⟨u,g1,g2⟩=>⟨u,0,_,g1,⟨rfl,rfl⟩,aOw g2 fun _ h=>h.elim⟩
theorem aOk (hk:aCx os q.id=2) (h0:0<=q.n) (hn:q.n<=1048576):Calls Tryz.prog 30 #[vP b 0] wm fun x w'=>∃ u z e',x = .returned (.tuple #[u,vI z]) /\ rwK (aAM h q os) u z e' /\ Mm (BlM [pfE (frK (vL p0 os.length cp0) os q b) e]) wm w' [e']:=by
 obtain ⟨bs,xi,mb,S,hS,hG,h1⟩:=aJw hvm hM hj hF
 by_cases hw:∃ s∈S,s.o.o.id=q.id
 ·obtain ⟨u,hu,hid⟩:=hw;have hk2:u.o.o.kind=2:=by rw [←aNu hvm (shO hS hu),hid];exact hk
  rw [aJL hvm hS hu hid];exact (aJK hM.fr hG hm hvm hq hBw hTe hS (by omega) rfl hu hid hk2 h0 hn h1).mono fun x w' ⟨u,g1,g2⟩=>⟨u,0,_,g1,⟨rfl,rfl⟩,g2⟩
 ·have hno:∀ s∈S,s.o.o.id≠q.id:=fun s hs e=>hw ⟨s,hs,e⟩;rw [aJM hS hno];exact (aLM hM.fr hG hm hvm hq hBw hTe hS (by omega) rfl hno h1).mono fun x w' ⟨u,g1,g2⟩=>⟨u,0,_,g1,⟨rfl,rfl⟩,g2⟩
theorem aNe (hz:onG (q.x,q.y)) (h0:1<=q.n) (hn:q.n<=1048576):Calls Tryz.prog 31 #[vP b 0] wm fun x w'=>∃ u z e',x = .returned (.tuple #[u,vI z]) /\ rwK (aEC h q os) u z e' /\ Mm (BlM [pfE (frK (vL p0 os.length cp0) os q b) e]) wm w' [e']:=by
 obtain ⟨bs,xi,mb,S,hS,hG,h1⟩:=aJw hvm hM hj hF;have e9:aEC h q os=aHm (aAa os) h q S (q.x,q.y):=(aRF hS).symm;rw [e9];have hzP:isP (q.x,q.y):=by unfold onG at hz;unfold isP isI;dsimp only at hz ⊢;omega
 exact (aHn hM.fr hG hm hvm hq hBw hTe hS (by omega) rfl hz hzP h0 hn h1).mono fun x w' ⟨u,g1,g2⟩=>⟨u,0,_,g1,⟨rfl,rfl⟩,g2⟩
end
theorem aGe (h:Nat) (q:QdR) (os:List ObR):(aAM h q os).length<=os.length:=by
 unfold aAM;have h1:(mkS os).length<=os.length:=by unfold mkS;rw [Gp_];exact List.length_filter_le _ _
 split
 ·exact Gn_ (List.length_filterMap_le _ _) h1
 ·exact Gg_ _
theorem aPy (h:Nat) (q:QdR) (os:List ObR):(aEC h q os).length<=os.length:=by
 have h1:(mkS os).length<=os.length:=by unfold mkS;rw [Gp_];exact List.length_filter_le _ _
 unfold aEC aHm fC;have h2:=aN9 ((mkS os).filterMap (cdR (aAa os) h q (q.x,q.y))) [];have h3:((mkS os).filterMap (cdR (aAa os) h q (q.x,q.y))).length<=(mkS os).length:=List.length_filterMap_le _ _;rw [Gp_,Gq_,h2,Gm_];omega
theorem aGG {os:List ObR}{q:QdR}(hask:q.ask=3) (h1:(aBl q == -1)=false) (h2:(aBl q==0)=true∨(¬ aAt (aAa os) q.id<0 /\ aCx os q.id=aBl q)):aCx os q.id=2:=by
  have e:aBl q=2:=by
    unfold aBl at h1 ⊢;rw [hask] at h1 ⊢
    cases hk:(q.kind==4)||(q.kind==5) with
    | true=>rw [hk] at h1;have h1:((-1:Int) == -1)=false:=h1;cases h1
    | false=>rfl
  rw [e] at h2;exact (h2.resolve_left (by decide)).2
theorem aIB {h:Nat}{q:QdR}(hask:q.ask=3) (hv:aAs h q=true):0<=q.n /\ q.n<=1048576:=by
  unfold aAs aC8 at hv;rw [hask] at hv;simp only [Ga_] at hv;have h2:=hv.2;have h3:(aBm q.id&&(decide (0<=q.n)&&decide (q.n<=1048576))&&aAI q true true false false false false)=true:=h2;simp only [Ga_,decide_eq_true_eq] at h3;exact h3.1.2
theorem aRJ {h:Nat}{q:QdR}(hask:q.ask=4) (hv:aAs h q=true):onG (q.x,q.y):=by
  unfold aAs aC8 at hv;rw [hask] at hv;simp only [Ga_] at hv;have h2:=hv.2;have h3:((decide (1<=q.n)&&decide (q.n<=10000))&&(decide (0<=q.x)&&decide (q.x<=1048575))&&(decide (0<=q.y)&&decide (q.y<=1048575))&&aAI q false true true false false false)=true:=h2;simp only [Ga_,decide_eq_true_eq] at h3;exact ⟨h3.1.1.2,h3.1.2⟩
theorem aRI {h:Nat}{q:QdR}(hask:q.ask=4) (hv:aAs h q=true):1<=q.n /\ q.n<=1048576:=by
  unfold aAs aC8 at hv;rw [hask] at hv;simp only [Ga_] at hv;have h2:=hv.2;have h3:((decide (1<=q.n)&&decide (q.n<=10000))&&(decide (0<=q.x)&&decide (q.x<=1048575))&&(decide (0<=q.y)&&decide (q.y<=1048575))&&aAI q false true true false false false)=true:=h2;simp only [Ga_,decide_eq_true_eq] at h3;have:=h3.1.1.1;omega
theorem aLT (w:World):(zeroValue 66).run Tryz.prog w = .ok .nilFunc w:=by kernel_rfl
theorem aLr {w:World}{v:Value}{os:List ObR}(hmO:aDT w v os) {B h:Nat}{q:QdR}(hq:QdIn w B h q) (hBw:B<=w.heap.size) (hTe:Te w) (hol:os.length<=10000) (hask:q.ask=1):Calls Tryz.prog 12 #[.agg #[v],.agg (qY_ q)] w fun e w'=>∃ u,e = .returned (.tuple #[u,vI (aAo h os q)]) /\ Mm nF_ w w' [rw_ rwL 2 42 u (bif (aAo h os q)==0 then (aGg h q os) else [])]:=by
  obtain ⟨p0,cp0,hp0,-⟩:=hmO.1.op;subst hp0;refine beg Tryz.func12 rfl rfl [(0,.agg #[vL p0 os.length cp0]),(1,.agg (qY_ q))] rfl rfl fun Y hY=>?_;have hM:=Mm.nil nF_ w;refine aA0 0 0 2 [] (cs:=#[vL p0 os.length cp0]) (T:=24) (v:=fun b=>vP b 0) f0 hM fun ad w1 hM=>aA0 0 1 3 [] (cs:=(qY_ q)) (T:=31) (v:=fun b=>vP b 0) f0 hM fun ae w1 hM=>aAw 1 2 12 [(10,.agg (qY_ q)),(11,.agg #[vL p0 os.length cp0])] (fc (lam 31 1 0 14 hM rfl) (fc (lam 24 0 0 1 hM rfl) f0)) hM (aCE (hmO.fr hM.fr) (hq.fr hM.fr hBw) (Gn_ hBw hM.fr.size)) fun w1 hM=>seg 2 2 [(6,vI (aAo h os q)),(14,vB (!((aAo h os q)==0)))] f0 ?_;cases aa:((aAo h os q)==0)
  ·exact rt2 4 5 (vL none 0 0) (vI (aAo h os q)) rfl rfl f0 (hY _ _ ⟨_,rfl,by rw [aa];exact (hM.pick (M':=[]) []).row⟩)
  obtain ⟨hvq,hvm,hn1,hn2⟩:=aKF (et aa);refine aNd 4 0 16 [] 3 f0 hM fun af w1 hM=>ins 4 1 [] 69 2 (vI 1) (.func (.func 28) #[] #[]) f0 hM rfl aGq u69_ (aGr (by omega)) fun w1 hM=>ins 4 2 [] 69 2 (vI 2) (.func (.func 29) #[] #[]) f0 hM rfl aGq u69_ (aGr (by omega)) fun w1 hM=>ins 4 3 [] 69 2 (vI 3) (.func (.func 30) #[] #[]) f0 hM rfl aGq u69_ (aGr (by omega)) fun w1 hM=>ins 4 4 [] 69 2 (vI 4) (.func (.func 31) #[] #[]) f0 hM rfl aGq u69_ (aGr (by omega)) fun w1 hM=>ins 4 5 [] 69 2 (vI 5) (.func (.func 32) #[] #[]) f0 hM rfl aGq u69_ (aGr (by omega)) fun w1 hM=>ins 4 6 [] 69 2 (vI 6) (.func (.func 33) #[] #[]) f0 hM rfl aGq u69_ (aGr (by omega)) fun w1 hM=>?_;obtain ⟨mA,hmA⟩:∃ z,z=(upd (upd (upd (upd (upd (upd (fun _=>none) (vI 1) (.func (.func 28) #[] #[])) (vI 2) (.func (.func 29) #[] #[])) (vI 3) (.func (.func 30) #[] #[])) (vI 4) (.func (.func 31) #[] #[])) (vI 5) (.func (.func 32) #[] #[])) (vI 6) (.func (.func 33) #[] #[])):=⟨_,rfl⟩;rw [←hmA] at hM;have hlk:(mA (vI q.ask)).getD .nilFunc = .func (.func 28) #[] #[]:=by rw [hmA,hask];simp [upd]
  clear hmA;refine seg 5 0 [(7,.map (some af))] f0 ?_;have hM:=hM.nl;refine drx [6,7] (fun Z=>[some (vP (bn (Z 0)) 0),some (.tuple #[(tp0 (Z 1)),vI (tp1 (Z 1))])]) _ (fun Z l=>[bk ad #[vL p0 os.length cp0] 24,bk ae (qY_ q) 31,mp Tryz.prog 3 af ((((((0+1)+1)+1)+1)+1)+1) mA,(bif l.getD 1 false then pfE (rwK (aGg h q os) (tp0 (Z 1)) (tp1 (Z 1))) (Z.e 1) else (bif l.getD 0 false then pfE ((frK (vL p0 os.length cp0) os q) (bn (Z 0))) (Z.e 0) else aE3))]) (fun Z=>[(8,(tp0 (Z 1))),(9,vI (tp1 (Z 1)))]) hM (fun Z=>rfl) (fun Z l w5 hM=>(fc (ldm 3 1 0 hM rfl rfl) (fc (rz2 (lk 69 2 (vI q.ask) .nilFunc hM rfl aGq u69_ (aGr (by omega)) (aLT _)) hlk) (fc (lam 24 0 0 1 hM rfl) (fc (lam 31 1 0 14 hM rfl) f0))))) ⟨aH7 0 6 3 25 (f:=34) (fun Z=>#[.agg #[vL p0 os.length cp0],.agg (qY_ q)]) (frK (vL p0 os.length cp0) os q) (fun Z fr wm hM=>(aFO (hmO.fr hM.fr) (by omega) hvm q)),aJI 1 7 3 26 (f:=28) (fun Z=>#[vP (bn (Z 0)) 0]) (fun Z=>pfE ((frK (vL p0 os.length cp0) os q) (bn (Z 0))) (Z.e 0)) (rwK (aGg h q os)) (fun Z fr wm hM hm=>(aOo hmO hvm hq hBw hTe hol hM (j:=3) (by kernel_rfl) hm)),trivial⟩ fun ab w1 hM=>?_;replace hM:Mm nF_ w w1 [bk ad #[vL p0 os.length cp0] 24,bk ae (qY_ q) 31,_,pfE (rwK (aGg h q os) (tp0 (ab 1)) (tp1 (ab 1))) (ab.e 1)]:=hM;obtain ⟨⟨hz9,hge⟩,hM⟩:=hM.unpf (j:=3) rfl;rw [hge] at hM;obtain ⟨v1,hv1⟩:∃ z,z=tp0 (ab 1):=⟨_,rfl⟩;rw [←hv1] at hM;rw [hz9,←hv1];have hM:=hM.pick [3];replace hM:Mm nF_ w _ [_]:=hM;obtain ⟨qa,ca,e9,-⟩:=(hM.src (j:=0) rfl rwT.len).op;subst e9;refine seg 8 4 [(33,vB (decide (10000<((aGg h q os).length:Int))))] f0 ?_;cases ac:(decide (10000<((aGg h q os).length:Int)))
  ·have ag:=df ac;exact rt2 4 5 (vL qa (aGg h q os).length ca) (vI 0) rfl rfl f0 (hY _ _ ⟨_,by rw [et aa],by rw [aa];exact hM⟩)
  have ag:=dt ac;have hl9:(aGg h q os).length<=os.length:=aKN h q os;exact absurd (dt ac) (by omega)
theorem aE8 {w:World}{v:Value}{os:List ObR}(hmO:aDT w v os) {B h:Nat}{q:QdR}(hq:QdIn w B h q) (hBw:B<=w.heap.size) (hTe:Te w) (hol:os.length<=10000) (hask:q.ask=3):Calls Tryz.prog 12 #[.agg #[v],.agg (qY_ q)] w fun e w'=>∃ u,e = .returned (.tuple #[u,vI (aAo h os q)]) /\ Mm nF_ w w' [rw_ rwL 2 42 u (bif (aAo h os q)==0 then (aAM h q os) else [])]:=by
  obtain ⟨p0,cp0,hp0,-⟩:=hmO.1.op;subst hp0;refine beg Tryz.func12 rfl rfl [(0,.agg #[vL p0 os.length cp0]),(1,.agg (qY_ q))] rfl rfl fun Y hY=>?_;have hM:=Mm.nil nF_ w;refine aA0 0 0 2 [] (cs:=#[vL p0 os.length cp0]) (T:=24) (v:=fun b=>vP b 0) f0 hM fun ad w1 hM=>aA0 0 1 3 [] (cs:=(qY_ q)) (T:=31) (v:=fun b=>vP b 0) f0 hM fun ae w1 hM=>aAw 1 2 12 [(10,.agg (qY_ q)),(11,.agg #[vL p0 os.length cp0])] (fc (lam 31 1 0 14 hM rfl) (fc (lam 24 0 0 1 hM rfl) f0)) hM (aCE (hmO.fr hM.fr) (hq.fr hM.fr hBw) (Gn_ hBw hM.fr.size)) fun w1 hM=>seg 2 2 [(6,vI (aAo h os q)),(14,vB (!((aAo h os q)==0)))] f0 ?_;cases aa:((aAo h os q)==0)
  ·exact rt2 4 5 (vL none 0 0) (vI (aAo h os q)) rfl rfl f0 (hY _ _ ⟨_,rfl,by rw [aa];exact (hM.pick (M':=[]) []).row⟩)
  obtain ⟨hvq,hvm,hn1,hn2⟩:=aKF (et aa);have hk2:=aGG hask hn1 hn2;have hb9:=aIB hask hvq;refine aNd 4 0 16 [] 3 f0 hM fun af w1 hM=>ins 4 1 [] 69 2 (vI 1) (.func (.func 28) #[] #[]) f0 hM rfl aGq u69_ (aGr (by omega)) fun w1 hM=>ins 4 2 [] 69 2 (vI 2) (.func (.func 29) #[] #[]) f0 hM rfl aGq u69_ (aGr (by omega)) fun w1 hM=>ins 4 3 [] 69 2 (vI 3) (.func (.func 30) #[] #[]) f0 hM rfl aGq u69_ (aGr (by omega)) fun w1 hM=>ins 4 4 [] 69 2 (vI 4) (.func (.func 31) #[] #[]) f0 hM rfl aGq u69_ (aGr (by omega)) fun w1 hM=>ins 4 5 [] 69 2 (vI 5) (.func (.func 32) #[] #[]) f0 hM rfl aGq u69_ (aGr (by omega)) fun w1 hM=>ins 4 6 [] 69 2 (vI 6) (.func (.func 33) #[] #[]) f0 hM rfl aGq u69_ (aGr (by omega)) fun w1 hM=>?_;obtain ⟨mA,hmA⟩:∃ z,z=(upd (upd (upd (upd (upd (upd (fun _=>none) (vI 1) (.func (.func 28) #[] #[])) (vI 2) (.func (.func 29) #[] #[])) (vI 3) (.func (.func 30) #[] #[])) (vI 4) (.func (.func 31) #[] #[])) (vI 5) (.func (.func 32) #[] #[])) (vI 6) (.func (.func 33) #[] #[])):=⟨_,rfl⟩;rw [←hmA] at hM;have hlk:(mA (vI q.ask)).getD .nilFunc = .func (.func 30) #[] #[]:=by rw [hmA,hask];simp [upd]
  clear hmA;refine seg 5 0 [(7,.map (some af))] f0 ?_;have hM:=hM.nl;refine drx [6,7] (fun Z=>[some (vP (bn (Z 0)) 0),some (.tuple #[(tp0 (Z 1)),vI (tp1 (Z 1))])]) _ (fun Z l=>[bk ad #[vL p0 os.length cp0] 24,bk ae (qY_ q) 31,mp Tryz.prog 3 af ((((((0+1)+1)+1)+1)+1)+1) mA,(bif l.getD 1 false then pfE (rwK (aAM h q os) (tp0 (Z 1)) (tp1 (Z 1))) (Z.e 1) else (bif l.getD 0 false then pfE ((frK (vL p0 os.length cp0) os q) (bn (Z 0))) (Z.e 0) else aE3))]) (fun Z=>[(8,(tp0 (Z 1))),(9,vI (tp1 (Z 1)))]) hM (fun Z=>rfl) (fun Z l w5 hM=>(fc (ldm 3 1 0 hM rfl rfl) (fc (rz2 (lk 69 2 (vI q.ask) .nilFunc hM rfl aGq u69_ (aGr (by omega)) (aLT _)) hlk) (fc (lam 24 0 0 1 hM rfl) (fc (lam 31 1 0 14 hM rfl) f0))))) ⟨aH7 0 6 3 25 (f:=34) (fun Z=>#[.agg #[vL p0 os.length cp0],.agg (qY_ q)]) (frK (vL p0 os.length cp0) os q) (fun Z fr wm hM=>(aFO (hmO.fr hM.fr) (by omega) hvm q)),aJI 1 7 3 26 (f:=30) (fun Z=>#[vP (bn (Z 0)) 0]) (fun Z=>pfE ((frK (vL p0 os.length cp0) os q) (bn (Z 0))) (Z.e 0)) (rwK (aAM h q os)) (fun Z fr wm hM hm=>(aOk hmO hvm hq hBw hTe hol hM (j:=3) (by kernel_rfl) hm hk2 hb9.1 hb9.2)),trivial⟩ fun ab w1 hM=>?_;replace hM:Mm nF_ w w1 [bk ad #[vL p0 os.length cp0] 24,bk ae (qY_ q) 31,_,pfE (rwK (aAM h q os) (tp0 (ab 1)) (tp1 (ab 1))) (ab.e 1)]:=hM;obtain ⟨⟨hz9,hge⟩,hM⟩:=hM.unpf (j:=3) rfl;rw [hge] at hM;obtain ⟨v1,hv1⟩:∃ z,z=tp0 (ab 1):=⟨_,rfl⟩;rw [←hv1] at hM;rw [hz9,←hv1];have hM:=hM.pick [3];replace hM:Mm nF_ w _ [_]:=hM;obtain ⟨qa,ca,e9,-⟩:=(hM.src (j:=0) rfl rwT.len).op;subst e9;refine seg 8 4 [(33,vB (decide (10000<((aAM h q os).length:Int))))] f0 ?_;cases ac:(decide (10000<((aAM h q os).length:Int)))
  ·have ag:=df ac;exact rt2 4 5 (vL qa (aAM h q os).length ca) (vI 0) rfl rfl f0 (hY _ _ ⟨_,by rw [et aa],by rw [aa];exact hM⟩)
  have ag:=dt ac;have hl9:(aAM h q os).length<=os.length:=aGe h q os;exact absurd (dt ac) (by omega)
theorem aLp {w:World}{v:Value}{os:List ObR}(hmO:aDT w v os) {B h:Nat}{q:QdR}(hq:QdIn w B h q) (hBw:B<=w.heap.size) (hTe:Te w) (hol:os.length<=10000) (hask:q.ask=4):Calls Tryz.prog 12 #[.agg #[v],.agg (qY_ q)] w fun e w'=>∃ u,e = .returned (.tuple #[u,vI (aAo h os q)]) /\ Mm nF_ w w' [rw_ rwL 2 42 u (bif (aAo h os q)==0 then (aEC h q os) else [])]:=by
  obtain ⟨p0,cp0,hp0,-⟩:=hmO.1.op;subst hp0;refine beg Tryz.func12 rfl rfl [(0,.agg #[vL p0 os.length cp0]),(1,.agg (qY_ q))] rfl rfl fun Y hY=>?_;have hM:=Mm.nil nF_ w;refine aA0 0 0 2 [] (cs:=#[vL p0 os.length cp0]) (T:=24) (v:=fun b=>vP b 0) f0 hM fun ad w1 hM=>aA0 0 1 3 [] (cs:=(qY_ q)) (T:=31) (v:=fun b=>vP b 0) f0 hM fun ae w1 hM=>aAw 1 2 12 [(10,.agg (qY_ q)),(11,.agg #[vL p0 os.length cp0])] (fc (lam 31 1 0 14 hM rfl) (fc (lam 24 0 0 1 hM rfl) f0)) hM (aCE (hmO.fr hM.fr) (hq.fr hM.fr hBw) (Gn_ hBw hM.fr.size)) fun w1 hM=>seg 2 2 [(6,vI (aAo h os q)),(14,vB (!((aAo h os q)==0)))] f0 ?_;cases aa:((aAo h os q)==0)
  ·exact rt2 4 5 (vL none 0 0) (vI (aAo h os q)) rfl rfl f0 (hY _ _ ⟨_,rfl,by rw [aa];exact (hM.pick (M':=[]) []).row⟩)
  obtain ⟨hvq,hvm,hn1,hn2⟩:=aKF (et aa);have hz9:=aRJ hask hvq;have hb9:=aRI hask hvq;refine aNd 4 0 16 [] 3 f0 hM fun af w1 hM=>ins 4 1 [] 69 2 (vI 1) (.func (.func 28) #[] #[]) f0 hM rfl aGq u69_ (aGr (by omega)) fun w1 hM=>ins 4 2 [] 69 2 (vI 2) (.func (.func 29) #[] #[]) f0 hM rfl aGq u69_ (aGr (by omega)) fun w1 hM=>ins 4 3 [] 69 2 (vI 3) (.func (.func 30) #[] #[]) f0 hM rfl aGq u69_ (aGr (by omega)) fun w1 hM=>ins 4 4 [] 69 2 (vI 4) (.func (.func 31) #[] #[]) f0 hM rfl aGq u69_ (aGr (by omega)) fun w1 hM=>ins 4 5 [] 69 2 (vI 5) (.func (.func 32) #[] #[]) f0 hM rfl aGq u69_ (aGr (by omega)) fun w1 hM=>ins 4 6 [] 69 2 (vI 6) (.func (.func 33) #[] #[]) f0 hM rfl aGq u69_ (aGr (by omega)) fun w1 hM=>?_;obtain ⟨mA,hmA⟩:∃ z,z=(upd (upd (upd (upd (upd (upd (fun _=>none) (vI 1) (.func (.func 28) #[] #[])) (vI 2) (.func (.func 29) #[] #[])) (vI 3) (.func (.func 30) #[] #[])) (vI 4) (.func (.func 31) #[] #[])) (vI 5) (.func (.func 32) #[] #[])) (vI 6) (.func (.func 33) #[] #[])):=⟨_,rfl⟩;rw [←hmA] at hM;have hlk:(mA (vI q.ask)).getD .nilFunc = .func (.func 31) #[] #[]:=by rw [hmA,hask];simp [upd]
  clear hmA;refine seg 5 0 [(7,.map (some af))] f0 ?_;have hM:=hM.nl;refine drx [6,7] (fun Z=>[some (vP (bn (Z 0)) 0),some (.tuple #[(tp0 (Z 1)),vI (tp1 (Z 1))])]) _ (fun Z l=>[bk ad #[vL p0 os.length cp0] 24,bk ae (qY_ q) 31,mp Tryz.prog 3 af ((((((0+1)+1)+1)+1)+1)+1) mA,(bif l.getD 1 false then pfE (rwK (aEC h q os) (tp0 (Z 1)) (tp1 (Z 1))) (Z.e 1) else (bif l.getD 0 false then pfE ((frK (vL p0 os.length cp0) os q) (bn (Z 0))) (Z.e 0) else aE3))]) (fun Z=>[(8,(tp0 (Z 1))),(9,vI (tp1 (Z 1)))]) hM (fun Z=>rfl) (fun Z l w5 hM=>(fc (ldm 3 1 0 hM rfl rfl) (fc (rz2 (lk 69 2 (vI q.ask) .nilFunc hM rfl aGq u69_ (aGr (by omega)) (aLT _)) hlk) (fc (lam 24 0 0 1 hM rfl) (fc (lam 31 1 0 14 hM rfl) f0))))) ⟨aH7 0 6 3 25 (f:=34) (fun Z=>#[.agg #[vL p0 os.length cp0],.agg (qY_ q)]) (frK (vL p0 os.length cp0) os q) (fun Z fr wm hM=>(aFO (hmO.fr hM.fr) (by omega) hvm q)),aJI 1 7 3 26 (f:=31) (fun Z=>#[vP (bn (Z 0)) 0]) (fun Z=>pfE ((frK (vL p0 os.length cp0) os q) (bn (Z 0))) (Z.e 0)) (rwK (aEC h q os)) (fun Z fr wm hM hm=>(aNe hmO hvm hq hBw hTe hol hM (j:=3) (by kernel_rfl) hm hz9 hb9.1 hb9.2)),trivial⟩ fun ab w1 hM=>?_;replace hM:Mm nF_ w w1 [bk ad #[vL p0 os.length cp0] 24,bk ae (qY_ q) 31,_,pfE (rwK (aEC h q os) (tp0 (ab 1)) (tp1 (ab 1))) (ab.e 1)]:=hM;obtain ⟨⟨hz9,hge⟩,hM⟩:=hM.unpf (j:=3) rfl;rw [hge] at hM;obtain ⟨v1,hv1⟩:∃ z,z=tp0 (ab 1):=⟨_,rfl⟩;rw [←hv1] at hM;rw [hz9,←hv1];have hM:=hM.pick [3];replace hM:Mm nF_ w _ [_]:=hM;obtain ⟨qa,ca,e9,-⟩:=(hM.src (j:=0) rfl rwT.len).op;subst e9;refine seg 8 4 [(33,vB (decide (10000<((aEC h q os).length:Int))))] f0 ?_;cases ac:(decide (10000<((aEC h q os).length:Int)))
  ·have ag:=df ac;exact rt2 4 5 (vL qa (aEC h q os).length ca) (vI 0) rfl rfl f0 (hY _ _ ⟨_,by rw [et aa],by rw [aa];exact hM⟩)
  have ag:=dt ac;have hl9:(aEC h q os).length<=os.length:=aPy h q os;exact absurd (dt ac) (by omega)
theorem aLq {w:World}{v:Value}{os:List ObR}(hmO:aDT w v os) {B h:Nat}{q:QdR}(hq:QdIn w B h q) (hBw:B<=w.heap.size) (hc:¬ aAo h os q=0):Calls Tryz.prog 12 #[.agg #[v],.agg (qY_ q)] w fun e w'=>∃ u,e = .returned (.tuple #[u,vI (aAo h os q)]) /\ Mm nF_ w w' [rw_ rwL 2 42 u []]:=by
  obtain ⟨p0,cp0,hp0,-⟩:=hmO.1.op;subst hp0;refine beg Tryz.func12 rfl rfl [(0,.agg #[vL p0 os.length cp0]),(1,.agg (qY_ q))] rfl rfl fun Z hZ=>?_;have hM:=Mm.nil nF_ w;refine aA0 0 0 2 [] (cs:=#[vL p0 os.length cp0]) (T:=24) (v:=fun b=>vP b 0) f0 hM fun ab w1 hM=>aA0 0 1 3 [] (cs:=(qY_ q)) (T:=31) (v:=fun b=>vP b 0) f0 hM fun ac w1 hM=>aAw 1 2 12 [(10,.agg (qY_ q)),(11,.agg #[vL p0 os.length cp0])] (fc (lam 31 1 0 14 hM rfl) (fc (lam 24 0 0 1 hM rfl) f0)) hM (aCE (hmO.fr hM.fr) (hq.fr hM.fr hBw) (Gn_ hBw hM.fr.size)) fun w1 hM=>seg 2 2 [(6,vI (aAo h os q)),(14,vB (!((aAo h os q)==0)))] f0 ?_;cases aa:((aAo h os q)==0)
  ·exact rt2 4 5 (vL none 0 0) (vI (aAo h os q)) rfl rfl f0 (hZ _ _ ⟨_,rfl,(hM.pick (M':=[]) []).row⟩)
  exact absurd (et aa) hc
theorem aTm {w:World}(a b:Bys×Int):Ft.ok Tryz.prog w (.g2 (fun x y => .binOp .neq 42 x y 42) (.agg #[vS a.1,vI a.2]) (.agg #[vS b.1,vI b.2]) (vB (!(a==b)))):=fun o ρ x y ho hx hy=>by
  have e:(a==b)=((a.1==b.1)&&(a.2==b.2)):=rfl
  by_cases q1:a.1=b.1<;>by_cases q2:a.2=b.2<;>simp [execOp,ho,hx,hy,go_sem,Tryz.underlying42,Tryz.underlying41,u9_,u3_,e,aA7,q1,q2]
theorem toP {α:Type}{f:α->List Value}{c:Nat}{w:World}{B:Nat}{p:Option Addr}{cap:Nat}{L:List α}(h:SrcB f c w B p cap L) (hB:B<=w.heap.size):SrcP f c w p cap L:=⟨h.le,h.ca,h.at_.mono hB,h.nil⟩
abbrev aX2 (Z:Ending->World->Prop):=AtO Tryz.prog (aAO Tryz.f14) (aBh (bodyPost Tryz.prog Tryz.f14 Z)) [] 26
theorem aHS {w:World}{p1 p2:Option Addr}{c1 c2:Nat}{A B:List (Bys×Int)}(h1:SrcP rwL 2 w p1 c1 A) (h2:SrcP rwL 2 w p2 c2 B):Calls Tryz.prog 14 #[vL p1 A.length c1,vL p2 B.length c2] w fun e w'=>e = .returned (vB (A==B)) /\ Fr nF_ w w':=by
  have q1:=h1.bnd;have q2:=h2.bnd;refine beg Tryz.func14 rfl rfl [(0,vL p1 A.length c1),(1,vL p2 B.length c2)] rfl rfl fun Z hZ=>?_;have hM:=Mm.nil nF_ w;refine seg 1 5 [(10,vB (!((A.length:Int)==(B.length:Int))))] f0 ?_;cases aa:((A.length:Int)==(B.length:Int))
  ·have ae:=ef aa;exact rt1 4 (vB false) rfl f0 (hZ _ _ ⟨by rw [aSs (ef aa)],hM.fr⟩)
  have ae:=et aa;refine seg 4 0 [(5,vI 0)] f0 ?_
  have af:∀ (ab:Nat) (i:Nat) (w2:World),i<=A.length->A.take i=B.take i->Mm nF_ w w2 []->ab=A.length-i->aX2 Z (some (4,0)) [(5,vI (i:Int)),(0,vL p1 A.length c1),(1,vL p2 B.length c2)] w2:=by
   refine aCI fun ab ag i w2 hi he hM am=>seg 4 4 [(14,vB (decide ((i:Int)<(A.length:Int))))] f0 ?_;cases ac:(decide ((i:Int)<(A.length:Int)))
   ·have ah:=df ac;exact rt1 4 (vB true) rfl f0 (hZ _ _ ⟨by rw [aOF he (by omega) (by omega)],hM.fr⟩)
   have ah:=dt ac;refine seg 6 0 [] f0 ?_;have hM:=hM.q ((Fr.refl _ _).drew);obtain ⟨x1,hx1,an,ao,ai,aj⟩:=h1.el (i:=i) (by omega);obtain ⟨y1,hy1,ap,aq,ak,al⟩:=h2.el (i:=i) (by omega);refine drq [(25,vB (!(x1==y1)))] rfl (fc (ix 36 c1 ai (gl hx1)) (fc (la0 42 hM aj) (fc (ix 36 c2 ak (gl hy1)) (fc (la0 42 hM al) (fc (aTm x1 y1) f0))))) ?_;cases ad:(x1==y1)
   ·exact rt1 4 (vB false) rfl f0 (hZ _ _ ⟨by rw [aUf hx1 hy1 (ef ad)],hM.fr⟩)
   refine seg 4 0 [(5,vI ((i:Int)+1))] (fc (aAG (i:Int) 1 u3_) f0) (aAk _ (ag _ (by have:=gl hx1;omega) (i+1) _ (gl hx1) (aHM he hx1 hy1 (et ad)) hM rfl))
  exact aAk _ (af _ 0 _ (Gg_ _) rfl hM rfl)
def aOu (h:Nat):Prop:=∀ {c:CdR}{w:World}{B:Nat},CdB w B h c->B<=w.heap.size->Calls Tryz.prog 26 #[vA (cdL c)] w fun e w'=>(∃ b,e = .returned (vB b)) /\ Fr nF_ w w'
def aOv (h:Nat):Prop:=∀ {c:CdR}{w:World}{B:Nat}{m:Int},CdB w B h c->B<=w.heap.size->0<=m->m<=80->Calls Tryz.prog 25 #[vA (cdL c),vI m] w fun e w'=>(∃ n:Int,e = .returned (vI n) /\ 1<=n /\ n<=m+1) /\ Fr nF_ w w'
abbrev aX0 (Z:Ending->World->Prop):=AtO Tryz.prog (aAO Tryz.f26) (aBh (bodyPost Tryz.prog Tryz.f26 Z)) [] 28
theorem aLe {h:Nat}(ih:aOu h) {c:CdR}{w:World}{B:Nat}(hc:CdB w B (h+1) c) (hBw:B<=w.heap.size):Calls Tryz.prog 26 #[.agg (cY_ c)] w fun e w'=>(∃ b,e = .returned (vB b)) /\ Fr nF_ w w':=by
  have hq:=hc.2.2.1.bnd;refine beg Tryz.func26 rfl rfl [(0,.agg (cY_ c))] rfl rfl fun Z hZ=>?_;have hM:=Mm.nil nF_ w;refine aA0 0 0 1 [] (cs:=(cY_ c)) (T:=27) (v:=fun b=>vP b 0) f0 hM fun ac w1 hM=>seg 1 5 [(8,vB (decide (300<(c.key.length:Int))))] (fc (ldm 9 0 1 hM rfl rfl) (fc (aIC 9 c.key) f0)) ?_;cases ak:(decide (300<(c.key.length:Int)))
  rotate_left
  ·exact rt1 2 (vB false) rfl f0 (hZ _ _ ⟨⟨_,rfl⟩,hM.fr⟩)
  refine seg 1 10 [(13,vB (decide (300<(c.val.length:Int))))] (fc (ldm 9 0 2 hM rfl rfl) (fc (aIC 9 c.val) f0)) ?_;cases al:(decide (300<(c.val.length:Int)))
  rotate_left
  ·exact rt1 2 (vB false) rfl f0 (hZ _ _ ⟨⟨_,rfl⟩,hM.fr⟩)
  refine seg 4 0 [(3,vI 0)] f0 ?_
  have af:∀ (ad:Nat) (i:Nat) (w2:World),i<=c.kids.length->Mm nF_ w w2 [bk ac (cY_ c) 27]->ad=c.kids.length-i->aX0 Z (some (4,0)) [(3,vI (i:Int)),(1,vP ac 0)] w2:=by
   refine aCI fun ad ag i w2 hi hM am=>seg 4 5 [(18,vB (decide ((i:Int)<(c.kids.length:Int))))] (fc (ldm 25 0 4 hM rfl rfl) f0) ?_;cases ae:(decide ((i:Int)<(c.kids.length:Int)))
   ·have ah:=df ae;exact rt1 2 (vB true) rfl f0 (hZ _ _ ⟨⟨_,rfl⟩,hM.fr⟩)
   have ah:=dt ae;obtain ⟨aa,ab,an,ao,ai,aj⟩:=(toP hc.2.2.1 hBw).el (i:=i) (by omega);refine aJE 6 5 26 [(25,.agg (cY_ aa))] (K:=fun u w8=>∃ b,u=vB b) (fc (ldm 25 0 4 hM rfl rfl) (fc (ix 25 c.cap ai (gl ab)) (fc (la0 27 hM aj) f0))) hM ((ih ((hc.2.2.2 aa (gm ab)).g (fun _ h=>h.elim) hM.fr hBw) (Gn_ hBw hM.fr.size)).mono fun e w9 ⟨⟨b,h1⟩,h2⟩=>⟨⟨_,h1,b,rfl⟩,h2⟩) fun u w1 ⟨b9,hu⟩ hM f1=>?_;subst hu;refine seg 6 7 [(27,vB (!b9))] f0 ?_
   cases ap:b9 with
   | false =>
    exact rt1 2 (vB false) rfl f0 (hZ _ _ ⟨⟨_,rfl⟩,hM.fr⟩)
   | true =>
    refine seg 4 0 [(3,vI ((i:Int)+1))] (fc (aAG (i:Int) 1 u3_) f0) (aAk _ (ag _ (by have:=gl ab;omega) (i+1) _ (gl ab) hM rfl))
  exact aAk _ (af _ 0 _ (Gg_ _) hM rfl)
theorem aKe:∀ h,aOu h
  | 0=>fun hc=>hc.elim
  | h+1=>fun hc hBw=>aLe (aKe h) hc hBw
abbrev aX1 (Z:Ending->World->Prop):=AtO Tryz.prog (aAO Tryz.f25) (aBh (bodyPost Tryz.prog Tryz.f25 Z)) [] 31
theorem aLy {h:Nat}(ih:aOv h) {c:CdR}{w:World}{B:Nat}{m:Int}(hc:CdB w B (h+1) c) (hBw:B<=w.heap.size) (hm0:0<=m) (hm1:m<=80):Calls Tryz.prog 25 #[.agg (cY_ c),vI m] w fun e w'=>(∃ n:Int,e = .returned (vI n) /\ 1<=n /\ n<=m+1) /\ Fr nF_ w w':=by
  have hq:=hc.2.2.1.bnd;refine beg Tryz.func25 rfl rfl [(0,.agg (cY_ c)),(1,vI m)] rfl rfl fun Z hZ=>?_;have hM:=Mm.nil nF_ w;refine aA0 0 0 2 [] (cs:=(cY_ c)) (T:=27) (v:=fun b=>vP b 0) f0 hM fun ac w1 hM=>seg 3 0 [(5,vI 1),(6,vI 0)] f0 ?_
  have ag:∀ (ad:Nat) (i:Nat) (nn:Int) (w2:World),i<=c.kids.length->1<=nn->nn<=m+1->Mm nF_ w w2 [bk ac (cY_ c) 27]->ad=c.kids.length-i->aX1 Z (some (3,0)) [(6,vI (i:Int)),(5,vI nn),(2,vP ac 0),(1,vI m)] w2:=by
   refine aCI fun ad ah i nn w2 hi hn0 hn hM am=>seg 3 6 [(12,vB (decide ((i:Int)<(c.kids.length:Int))))] (fc (ldm 25 0 4 hM rfl rfl) f0) ?_;cases ae:(decide ((i:Int)<(c.kids.length:Int)))
   ·have ai:=df ae;exact rt1 4 (vI nn) rfl f0 (hZ _ _ ⟨⟨_,rfl,by omega,by omega⟩,hM.fr⟩)
   have ai:=dt ae;refine seg 3 10 [(16,vB (decide (nn<=m)))] f0 ?_;cases af:(decide (nn<=m))
   ·have aj:=df af;exact rt1 4 (vI nn) rfl f0 (hZ _ _ ⟨⟨_,rfl,by omega,by omega⟩,hM.fr⟩)
   have aj:=dt af;obtain ⟨aa,ab,an,ao,ak,al⟩:=(toP hc.2.2.1 hBw).el (i:=i) (by omega);refine aJE 5 9 28 [(19,vI nn),(24,.agg (cY_ aa)),(27,vI (m-nn))] (K:=fun u w8=>∃ n:Int,u=vI n /\ 1<=n /\ n<=(m-nn)+1) (fc (ldm 25 0 4 hM rfl rfl) (fc (ix 25 c.cap ak (gl ab)) (fc (la0 27 hM al) (fc (aDL m nn u3_) f0)))) hM ((ih (m:=(m-nn)) ((hc.2.2.2 aa (gm ab)).g (fun _ h=>h.elim) hM.fr hBw) (Gn_ hBw hM.fr.size) (by omega) (by omega)).mono fun e w9 ⟨⟨n,h1,h2,h3⟩,h4⟩=>⟨⟨_,h1,n,rfl,h2,h3⟩,h4⟩) fun u w1 ⟨n9,hu,hn1,hn2⟩ hM f1=>?_;subst hu;refine seg 3 0 [(5,vI (nn+n9)),(6,vI ((i:Int)+1))] (fc (aAG nn n9 u3_) (fc (aAG (i:Int) 1 u3_) f0)) (aAk _ (ah _ (by have:=gl ab;omega) (i+1) (nn+n9) _ (gl ab) (by omega) (by omega) hM rfl))
  exact aAk _ (ag _ 0 1 _ (Gg_ _) (by omega) (by omega) hM rfl)
theorem aKw:∀ h,aOv h
  | 0=>fun hc=>hc.elim
  | h+1=>fun hc hBw=>aLy (aKw h) hc hBw
theorem aHw {h:Nat}{c:CdR}{w:World}{B:Nat}(hc:CdB w B h c) (hBw:B<=w.heap.size):Calls Tryz.prog 10 #[.agg (cY_ c)] w fun e w'=>(∃ b,e = .returned (vB b)) /\ Fr nF_ w w':=by
  refine beg Tryz.func10 rfl rfl [(0,.agg (cY_ c))] rfl rfl fun Z hZ=>?_;have hM:=Mm.nil nF_ w;refine aA0 0 0 1 [] (cs:=(cY_ c)) (T:=27) (v:=fun b=>vP b 0) f0 hM fun aa w1 hM=>aJE 1 1 4 [(3,.agg (cY_ c))] (K:=fun u w8=>∃ n:Int,u=vI n /\ 1<=n /\ n<=81) (fc (lam 27 0 0 5 hM rfl) f0) hM ((aKw h (m:=80) (hc.g (fun _ h=>h.elim) hM.fr hBw) (Gn_ hBw hM.fr.size) (by omega) (by omega)).mono fun e w9 ⟨⟨n,h1,h2,h3⟩,h4⟩=>⟨⟨_,h1,n,rfl,h2,by omega⟩,h4⟩) fun u w1 ⟨n9,hu,hn1,hn2⟩ hM f1=>?_;subst hu;refine seg 1 4 [(6,vB (decide (n9<=80)))] f0 ?_;cases ab:(decide (n9<=80))
  ·exact rt1 2 (vB false) rfl f0 (hZ _ _ ⟨⟨_,rfl⟩,hM.fr⟩)
  refine aJE 1 5 8 [(7,.agg (cY_ c))] (K:=fun u w8=>∃ b,u=vB b) (fc (lam 27 0 0 5 hM rfl) f0) hM ((aKe h (hc.g (fun _ h=>h.elim) hM.fr hBw) (Gn_ hBw hM.fr.size)).mono fun e w9 ⟨⟨b,h1⟩,h2⟩=>⟨⟨_,h1,b,rfl⟩,h2⟩) fun u w1 ⟨b9,hu⟩ hM f1=>?_;subst hu;exact rt1 2 (vB b9) rfl f0 (hZ _ _ ⟨⟨_,rfl⟩,hM.fr⟩)
theorem aJ1 {h:Nat}{q:QdR}{w:World}{B:Nat}(hq:QdIn w B h q) (hBw:B<=w.heap.size):Calls Tryz.prog 24 #[.agg (qY_ q)] w fun e w'=>(∃ b,e = .returned (vB b)) /\ Fr nF_ w w':=by
  refine beg Tryz.func24 rfl rfl [(0,.agg (qY_ q))] rfl rfl fun Z hZ=>?_;have hM:=Mm.nil nF_ w;refine aA0 0 0 1 [] (cs:=(qY_ q)) (T:=31) (v:=fun b=>vP b 0) f0 hM fun aa w1 hM=>aJE 1 2 5 [(4,.agg #[vI q.wh.op,vS q.wh.key,vS q.wh.val,vI q.wh.n,vL q.wh.p q.wh.kids.length q.wh.cap])] (K:=fun u w8=>∃ b,u=vB b) (fc (lam 27 0 2 5 hM rfl) f0) hM ((aHw (hq.fr hM.fr hBw).wh (Gn_ hBw hM.fr.size)).mono fun e w9 ⟨⟨b,h1⟩,h2⟩=>⟨⟨_,h1,b,rfl⟩,h2⟩) fun u w1 ⟨b9,hu⟩ hM f1=>?_;subst hu;refine seg 1 4 [(6,vB b9)] f0 ?_
  cases ab:b9 with
  | false =>
   exact rt1 2 (vB false) rfl f0 (hZ _ _ ⟨⟨_,rfl⟩,hM.fr⟩)
  | true =>
   exact rt1 2 (vB (decide ((IntKind.i64.wrap ((IntKind.i64.wrap ((q.id.length:Int)+(q.key.length:Int)))+(q.prof.length:Int)))<=300))) rfl (fc (ldm 9 0 7 hM rfl rfl) (fc (aIC 9 q.id) (fc (ldm 9 0 11 hM rfl rfl) (fc (aIC 9 q.key) (fc (aOG (q.id.length:Int) (q.key.length:Int) u3_) (fc (ldm 9 0 12 hM rfl rfl) (fc (aIC 9 q.prof) (fc (aOG (IntKind.i64.wrap ((q.id.length:Int)+(q.key.length:Int))) (q.prof.length:Int) u3_) f0)))))))) (hZ _ _ ⟨⟨_,rfl⟩,hM.fr⟩)
theorem aJ0 {h:Nat}{q:QdR}{w:World}{B:Nat}{v:Value}{os:List ObR}(hmO:aDT w v os) (hq:QdIn w B h q) (hBw:B<=w.heap.size):Calls Tryz.prog 9 #[.agg #[v],.agg (qY_ q)] w fun e w'=>(∃ b,e = .returned (vB b) /\ (b=true->aEt (aAa os) 30=true)) /\ Fr nF_ w w':=by
  obtain ⟨p0,cp0,hp0,-⟩:=hmO.1.op;subst hp0;refine beg Tryz.func9 rfl rfl [(0,.agg #[vL p0 os.length cp0]),(1,.agg (qY_ q))] rfl rfl fun Z hZ=>?_;have hM:=Mm.nil nF_ w;refine aA0 0 0 2 [] (cs:=#[vL p0 os.length cp0]) (T:=24) (v:=fun b=>vP b 0) f0 hM fun ab w1 hM=>aA0 0 1 3 [] (cs:=(qY_ q)) (T:=31) (v:=fun b=>vP b 0) f0 hM fun ac w1 hM=>aAw 1 1 6 [(5,.agg #[vL p0 os.length cp0])] (fc (lam 24 0 0 1 hM rfl) f0) hM (aJ2 (hmO.fr hM.fr) 30) fun w1 hM=>seg 1 3 [(7,vB (aEt (aAa os) 30))] f0 ?_;cases aa:(aEt (aAa os) 30)
  ·exact rt1 4 (vB false) rfl f0 (hZ _ _ ⟨⟨_,rfl,fun h9=>absurd h9 (by decide)⟩,hM.fr⟩)
  refine aJE 1 4 9 [(8,.agg (qY_ q))] (K:=fun u w8=>∃ b,u=vB b) (fc (lam 31 1 0 14 hM rfl) f0) hM ((aJ1 (hq.fr hM.fr hBw) (Gn_ hBw hM.fr.size)).mono fun e w9 ⟨⟨b,h1⟩,h2⟩=>⟨⟨_,h1,b,rfl⟩,h2⟩) fun u w1 ⟨b9,hu⟩ hM f1=>?_;subst hu;exact rt1 4 (vB b9) rfl f0 (hZ _ _ ⟨⟨_,rfl,fun h9=>by rw [aa]⟩,hM.fr⟩)
def aDj (b:Nat):List ObR:=[⟨⟨[110,49],1,0,0,[],[]⟩,none,0,none,0⟩,⟨⟨[110,50],1,4,0,[],[]⟩,none,0,none,0⟩,⟨⟨[110,51],1,9,9,[],[]⟩,none,0,none,0⟩,⟨⟨[119,49],2,0,0,[[110,49],[110,50]],[]⟩,some ⟨b,0,none⟩,2,none,0⟩]
def aS5:CdR := .mk 1 [] [] 0 none 0 []
theorem aS4 (w:World) (B:Nat):CdB w B 1 aS5:=⟨by unfold B63;decide,by unfold B63;decide,⟨Gk_ _,by decide,.inl rfl,fun _=>rfl⟩,fun _ h=>by cases h⟩
def qA:QdR:=⟨1,1,aS5,[],0,0,0,[],[],0⟩
def qB:QdR:=⟨3,1,aS5,[119,49],5,0,0,[],[],0⟩
def qC:QdR:=⟨4,0,aS5,[],2,9,8,[],[],0⟩
def qD:QdR:=⟨2,0,aS5,[119,49],0,0,0,[],[],0⟩
theorem aU2 {q:QdR}(w:World) (B:Nat) (h:q.wh=aS5) (h1:q.id.length<=9 /\ q.key.length<=9 /\ q.prof.length<=9):QdIn w B 1 q:=⟨by rw [h];exact aS4 w B,by omega,by omega,by omega⟩
theorem aWc (b:Nat):aAo 1 (aDj b) qA=0 /\ aGg 1 qA (aDj b)=[([110,49],0),([110,50],0),([110,51],0)]:=⟨by kernel_rfl,by kernel_rfl⟩
theorem aWb (b:Nat):aAo 1 (aDj b) qD=13:=by kernel_rfl
theorem aVs (b:Nat):aAo 1 (aDj b) qB=0:=by kernel_rfl
theorem aVr (b:Nat):aAo 1 (aDj b) qC=0:=by kernel_rfl
theorem aXr (b:Nat):aAM 1 qB (aDj b)=[([110,49],0),([110,50],0)]:=by kernel_rfl
theorem aXq (b:Nat):aEC 1 qC (aDj b)=[([110,51],1),([110,50],9)]:=by kernel_rfl
theorem aVq:ObB ⟨[119,49],2,0,0,[[110,49],[110,50]],[]⟩:=⟨by unfold B63;decide,by unfold B63;decide,by unfold B63;decide⟩
theorem aEI {w:World}(id:Bys) (x y:Int):Calls Tryz.prog 53 #[vS id,vI x,vI y] w fun e w'=>e = .returned (.agg #[vS id,vI 1,vI x,vI y,vL none 0 0,vL none 0 0]) /\ Fr nF_ w w':=by
 refine beg Tryz.func53 rfl rfl [(0,vS id),(1,vI x),(2,vI y)] rfl rfl fun Z hZ=>?_;have hM:=Mm.nil nF_ w;refine aA0 0 0 6 [] (cs:=#[vS [],vI 0,vI 0,vI 0,vL none 0 0,vL none 0 0]) (T:=48) (v:=fun b=>vP b 0) f0 hM fun aa w1 hM=>stm 1 5 [(11,.agg #[vS id,vI 1,vI x,vI y,vL none 0 0,vL none 0 0])] 48 0 0 (.agg #[vS id,vI 1,vI x,vI y,vL none 0 0,vL none 0 0]) f0 hM rfl fun w1 hM=>rtc 6 48 rfl (aBZ 48 0 hM rfl rfl) f0 (hZ _ _ ⟨rfl,hM.fr⟩)
theorem aDJ (w:World):Calls Tryz.prog 11 #[] w fun e w'=>e = .returned (vA (cdL aS5)) /\ Fr nF_ w w':=by
 refine beg Tryz.func11 rfl rfl [] rfl rfl fun Z hZ=>?_;have hM:=Mm.nil nF_ w;refine aA0 0 0 0 [] (cs:=#[vI 0,vS [],vS [],vI 0,vL none 0 0]) (T:=27) (v:=fun b=>vP b 0) f0 hM fun aa w1 hM=>stm 1 1 [(1,.agg #[vI 1,vS [],vS [],vI 0,vL none 0 0])] 27 0 0 (.agg #[vI 1,vS [],vS [],vI 0,vL none 0 0]) f0 hM rfl fun w1 hM=>rtc 0 27 rfl (aBZ 27 0 hM rfl rfl) f0 (hZ _ _ ⟨rfl,hM.fr⟩)
theorem aGs (w:World):Calls Tryz.prog 22 #[] w fun e w'=>∃ v b,e = .returned (.agg #[v]) /\ aDT w' v (aDj b) /\ Fr nF_ w w':=by
 refine beg Tryz.func22 rfl rfl [] rfl rfl fun Z hZ=>?_;have hM:=Mm.nil nF_ w;refine aA0 0 0 0 [] (cs:=#[vL none 0 0]) (T:=24) (v:=fun b=>vP b 0) f0 hM fun ac w1 hM=>aAw 2 1 3 [(1,.func (.func 53) #[] #[]),(2,.func (.func 53) #[] #[])] f0 hM (aEI [110,49] 0 0) fun w1 hM=>aAw 2 3 5 [(4,.func (.func 53) #[] #[])] f0 hM (aEI [110,50] 4 0) fun w1 hM=>aAw 2 5 7 [(6,.func (.func 53) #[] #[])] f0 hM (aEI [110,51] 9 9) fun w1 hM=>aA0 2 6 8 [] (cs:=#[vS [110,49],vS [110,50]]) (T:=9) (v:=fun b=>vL (some ⟨b,0,none⟩) 2 2) f0 hM fun aa w1 hM=>aA0 2 8 10 [(9,.agg #[vS [119,49],vI 2,vI 0,vI 0,vL (some ⟨aa,0,none⟩) 2 2,vL none 0 0])] (cs:=#[vS [110,49],vI 1,vI 0,vI 0,vL none 0 0,vL none 0 0,vS [110,50],vI 1,vI 4,vI 0,vL none 0 0,vL none 0 0,vS [110,51],vI 1,vI 9,vI 9,vL none 0 0,vL none 0 0,vS [119,49],vI 2,vI 0,vI 0,vL (some ⟨aa,0,none⟩) 2 2,vL none 0 0]) (T:=48) (v:=fun b=>vL (some ⟨b,0,none⟩) 4 4) f0 hM fun ab w1 hM=>stm 2 10 [(11,.agg #[vL (some ⟨ab,0,none⟩) 4 4])] 24 0 0 (.agg #[vL (some ⟨ab,0,none⟩) 4 4]) f0 hM rfl fun w1 hM=>?_
 have hOb:∀ b∈aDj aa,ObIn w1 b:=by
  intro b hb;unfold aDj at hb;simp only [List.mem_cons,List.not_mem_nil,or_false] at hb;rcases hb with rfl | rfl | rfl | rfl
  ·exact aHk _ _ _ _ _ (by unfold B63;decide)
  ·exact aHk _ _ _ _ _ (by unfold B63;decide)
  ·exact aHk _ _ _ _ _ (by unfold B63;decide)
  ·exact ⟨aBQ (hM.get 1 rfl) _ 2 (fun _=>rfl) rfl rfl,⟨Gk_ _,Gg_ _,.inl rfl,fun _=>rfl⟩,aVq⟩
 have hSr:=aBQ (f:=obL) (c:=6) (hM.get 2 rfl) (aDj aa) 4 (fun _=>rfl) rfl rfl;exact rtc 0 24 rfl (aBZ 24 0 hM rfl rfl) f0 (hZ _ _ ⟨_,aa,rfl,⟨⟨_,_,rfl,hSr.le,hSr.ca,hSr.at_,hSr.nil⟩,hOb⟩,hM.fr⟩)
theorem aUZ {w:World}{v:Value}{b:Nat}(hmO:aDT w v (aDj b)) (hTe:Te w):Calls Tryz.prog 12 #[.agg #[v],vA (qdL qA)] w fun e w'=>∃ u z e',e = .returned (.tuple #[u,vI z]) /\ rwK ([([110,49],0),([110,50],0),([110,51],0)]:List (Bys×Int)) u z e' /\ Mm nF_ w w' [e'] :=
 (aLr (q:=qA) hmO (aU2 w 0 rfl (by decide)) (Gg_ _) hTe (by unfold aDj;simp) rfl).mono fun e w' ⟨u,h1,h2⟩=>by
  rw [(aWc b).1] at h1 h2;rw [(aWc b).2] at h2;exact ⟨u,0,_,h1,⟨rfl,rfl⟩,h2⟩
theorem aUY {w:World}{v:Value}{b:Nat}(hmO:aDT w v (aDj b)) (hTe:Te w):Calls Tryz.prog 12 #[.agg #[v],vA (qdL qB)] w fun e w'=>∃ u z e',e = .returned (.tuple #[u,vI z]) /\ rwK ([([110,49],0),([110,50],0)]:List (Bys×Int)) u z e' /\ Mm nF_ w w' [e'] :=
 (aE8 (q:=qB) hmO (aU2 w 0 rfl (by decide)) (Gg_ _) hTe (by unfold aDj;simp) rfl).mono fun e w' ⟨u,h1,h2⟩=>by
  rw [aVs b] at h1 h2;rw [aXr b] at h2;exact ⟨u,0,_,h1,⟨rfl,rfl⟩,h2⟩
theorem aUX {w:World}{v:Value}{b:Nat}(hmO:aDT w v (aDj b)) (hTe:Te w):Calls Tryz.prog 12 #[.agg #[v],vA (qdL qC)] w fun e w'=>∃ u z e',e = .returned (.tuple #[u,vI z]) /\ rwK ([([110,51],1),([110,50],9)]:List (Bys×Int)) u z e' /\ Mm nF_ w w' [e'] :=
 (aLp (q:=qC) hmO (aU2 w 0 rfl (by decide)) (Gg_ _) hTe (by unfold aDj;simp) rfl).mono fun e w' ⟨u,h1,h2⟩=>by
  rw [aVr b] at h1 h2;rw [aXq b] at h2;exact ⟨u,0,_,h1,⟨rfl,rfl⟩,h2⟩
theorem aUW {w:World}{v:Value}{b:Nat}(hmO:aDT w v (aDj b)):Calls Tryz.prog 12 #[.agg #[v],vA (qdL qD)] w fun e w'=>∃ u z e',e = .returned (.tuple #[u,vI z]) /\ (z=13 /\ e'=rw_ rwL 2 42 u []) /\ Mm nF_ w w' [e'] :=
 (aLq (q:=qD) hmO (aU2 w 0 rfl (by decide)) (Gg_ _) (by rw [aWb b];decide)).mono fun e w' ⟨u,h1,h2⟩=>by
  rw [aWb b] at h1;exact ⟨u,13,_,h1,⟨rfl,rfl⟩,h2⟩
theorem aD7 {w:World}{p1 p2:Option Addr}{c1 c2:Nat}{A B:List (Bys×Int)}(h1:SrcP rwL 2 w p1 c1 A) (h2:SrcP rwL 2 w p2 c2 B) (hq:(A==B)=true):Calls Tryz.prog 14 #[vL p1 A.length c1,vL p2 B.length c2] w fun e w'=>e = .returned (vB true) /\ Fr nF_ w w' :=
 (aHS h1 h2).mono fun e w' ⟨a,b⟩=>⟨by rw [a,hq],b⟩
theorem aJv {w:World}(hTe:Te w):Calls Tryz.prog 8 #[] w fun e w'=>e = .returned (vB true) /\ Fr nF_ w w':=by
 refine beg Tryz.func8 rfl rfl [] rfl rfl fun Y hY=>?_;have hM:=Mm.nil nF_ w;refine aJE 1 0 11 [] (K:=fun u w8=>∃ v b,u = .agg #[v] /\ aDT w8 v (aDj b)) f0 hM ((aGs _).mono fun e w9 ⟨v,b,h1,h2,h3⟩=>⟨⟨_,h1,v,b,rfl,h2⟩,h3⟩) fun u w9 ⟨v,b,hu,hmO⟩ hM9 f9=>?_;subst hu;have hY:∀ e w',(e = .returned (vB true) /\ Fr nF_ w9 w')->Y e w':=fun e w' h=>hY e w' ⟨h.1,f9.trans h.2⟩;have hTe:=hTe.fr f9;clear hM9 f9;obtain ⟨w,rfl⟩:∃ z:World,z=w9:=⟨_,rfl⟩;have hM:=Mm.nil nF_ w;obtain ⟨p0,cp0,hp0,-⟩:=hmO.1.op;subst hp0;refine aDi 1 1 1 [] [] 24 (.agg #[vL p0 (aDj b).length cp0]) f0 hM fun aa w1 hM=>seg 2 0 [] f0 ?_;have hM:=hM.nl;refine drx [1,3] (fun Z=>[some (.agg #[vI 1,vS [],vS [],vI 0,vL none 0 0]),some (.tuple #[(tp0 (Z 1)),vI (tp1 (Z 1))])]) _ (fun Z l=>[bk aa #[vL p0 (aDj b).length cp0] 24,(bif l.getD 1 false then pfE ((rwK ([([110,49],0),([110,50],0),([110,51],0)]:List (Bys×Int))) (tp0 (Z 1)) (tp1 (Z 1))) (Z.e 1) else aE3)]) (fun Z=>[(2,(tp0 (Z 1))),(3,vI (tp1 (Z 1)))]) hM (fun Z=>rfl) (fun Z l w5 hM=>(fc (lam 24 0 0 1 hM rfl) f0)) ⟨aAy 0 1 14 (f:=11) (fun Z=>#[]) (.agg #[vI 1,vS [],vS [],vI 0,vL none 0 0]) (fun Z fr wm hM=>(aDJ _)),aH6 1 3 1 16 (f:=12) (fun Z=>#[.agg #[vL p0 (aDj b).length cp0],.agg #[vI 1,vI 1,vI 1,vS [],vS [],vI 0,vL none 0 0,vS [],vI 0,vI 0,vI 0,vS [],vS [],vI 0]]) (rwK ([([110,49],0),([110,50],0),([110,51],0)]:List (Bys×Int))) (fun Z fr wm hM=>(aUZ (hmO.fr hM.fr) (hTe.fr hM.fr))),trivial⟩ fun ab w1 hM=>?_;replace hM:Mm nF_ w w1 [bk aa #[vL p0 (aDj b).length cp0] 24,pfE ((rwK ([([110,49],0),([110,50],0),([110,51],0)]:List (Bys×Int))) (tp0 (ab 1)) (tp1 (ab 1))) (ab.e 1)]:=hM;obtain ⟨⟨hz9,hge⟩,hM⟩:=hM.unpf (j:=1) rfl;rw [hge] at hM;obtain ⟨vA,hvA⟩:∃ z,z=tp0 (ab 1):=⟨_,rfl⟩;rw [←hvA] at hM;rw [hz9,←hvA];clear hvA hz9 hge;replace hM:Mm nF_ w _ [bk aa #[vL p0 (aDj b).length cp0] 24,_]:=hM;obtain ⟨qA,cA,e9,-⟩:=(hM.src (j:=1) rfl rwT.len).op;subst e9;refine seg 3 0 [] f0 ?_;have hM:=hM.nl;refine drx [1,3] (fun Z=>[some (.agg #[vI 1,vS [],vS [],vI 0,vL none 0 0]),some (.tuple #[(tp0 (Z 1)),vI (tp1 (Z 1))])]) _ (fun Z l=>[bk aa #[vL p0 (aDj b).length cp0] 24,rw_ rwL 2 42 (vL qA ([([110,49],0),([110,50],0),([110,51],0)]:List (Bys×Int)).length cA) ([([110,49],0),([110,50],0),([110,51],0)]:List (Bys×Int)),(bif l.getD 1 false then pfE ((rwK ([([110,49],0),([110,50],0)]:List (Bys×Int))) (tp0 (Z 1)) (tp1 (Z 1))) (Z.e 1) else aE3)]) (fun Z=>[(4,(tp0 (Z 1))),(5,vI (tp1 (Z 1)))]) hM (fun Z=>rfl) (fun Z l w5 hM=>(fc (lam 24 0 0 1 hM rfl) f0)) ⟨aAy 0 1 21 (f:=11) (fun Z=>#[]) (.agg #[vI 1,vS [],vS [],vI 0,vL none 0 0]) (fun Z fr wm hM=>(aDJ _)),aH6 1 3 2 23 (f:=12) (fun Z=>#[.agg #[vL p0 (aDj b).length cp0],.agg #[vI 3,vI 1,vI 1,vS [],vS [],vI 0,vL none 0 0,vS [119,49],vI 5,vI 0,vI 0,vS [],vS [],vI 0]]) (rwK ([([110,49],0),([110,50],0)]:List (Bys×Int))) (fun Z fr wm hM=>(aUY (hmO.fr hM.fr) (hTe.fr hM.fr))),trivial⟩ fun ac w1 hM=>?_;replace hM:Mm nF_ w w1 [bk aa #[vL p0 (aDj b).length cp0] 24,_,pfE ((rwK ([([110,49],0),([110,50],0)]:List (Bys×Int))) (tp0 (ac 1)) (tp1 (ac 1))) (ac.e 1)]:=hM;obtain ⟨⟨hz9,hge⟩,hM⟩:=hM.unpf (j:=2) rfl;rw [hge] at hM;obtain ⟨vB,hvB⟩:∃ z,z=tp0 (ac 1):=⟨_,rfl⟩;rw [←hvB] at hM;rw [hz9,←hvB];clear hvB hz9 hge;replace hM:Mm nF_ w _ [bk aa #[vL p0 (aDj b).length cp0] 24,_,_]:=hM;obtain ⟨qB,cB,e9,-⟩:=(hM.src (j:=2) rfl rwT.len).op;subst e9;refine seg 4 0 [] f0 ?_;have hM:=hM.nl;refine drx [1,4] (fun Z=>[some (.agg #[vI 1,vS [],vS [],vI 0,vL none 0 0]),some (.tuple #[(tp0 (Z 1)),vI (tp1 (Z 1))])]) _ (fun Z l=>[bk aa #[vL p0 (aDj b).length cp0] 24,rw_ rwL 2 42 (vL qA ([([110,49],0),([110,50],0),([110,51],0)]:List (Bys×Int)).length cA) ([([110,49],0),([110,50],0),([110,51],0)]:List (Bys×Int)),rw_ rwL 2 42 (vL qB ([([110,49],0),([110,50],0)]:List (Bys×Int)).length cB) ([([110,49],0),([110,50],0)]:List (Bys×Int)),(bif l.getD 1 false then pfE ((rwK ([([110,51],1),([110,50],9)]:List (Bys×Int))) (tp0 (Z 1)) (tp1 (Z 1))) (Z.e 1) else aE3)]) (fun Z=>[(6,(tp0 (Z 1))),(7,vI (tp1 (Z 1)))]) hM (fun Z=>rfl) (fun Z l w5 hM=>(fc (lam 24 0 0 1 hM rfl) f0)) ⟨aAy 0 1 28 (f:=11) (fun Z=>#[]) (.agg #[vI 1,vS [],vS [],vI 0,vL none 0 0]) (fun Z fr wm hM=>(aDJ _)),aH6 1 4 3 31 (f:=12) (fun Z=>#[.agg #[vL p0 (aDj b).length cp0],.agg #[vI 4,vI 0,vI 1,vS [],vS [],vI 0,vL none 0 0,vS [],vI 2,vI 9,vI 8,vS [],vS [],vI 0]]) (rwK ([([110,51],1),([110,50],9)]:List (Bys×Int))) (fun Z fr wm hM=>(aUX (hmO.fr hM.fr) (hTe.fr hM.fr))),trivial⟩ fun ad w1 hM=>?_;replace hM:Mm nF_ w w1 [bk aa #[vL p0 (aDj b).length cp0] 24,_,_,pfE ((rwK ([([110,51],1),([110,50],9)]:List (Bys×Int))) (tp0 (ad 1)) (tp1 (ad 1))) (ad.e 1)]:=hM;obtain ⟨⟨hz9,hge⟩,hM⟩:=hM.unpf (j:=3) rfl;rw [hge] at hM;obtain ⟨vC,hvC⟩:∃ z,z=tp0 (ad 1):=⟨_,rfl⟩;rw [←hvC] at hM;rw [hz9,←hvC];clear hvC hz9 hge;replace hM:Mm nF_ w _ [bk aa #[vL p0 (aDj b).length cp0] 24,_,_,_]:=hM;obtain ⟨qC,cC,e9,-⟩:=(hM.src (j:=3) rfl rwT.len).op;subst e9;refine seg 5 0 [] f0 ?_;have hM:=hM.nl;refine drx [1,3] (fun Z=>[some (.agg #[vI 1,vS [],vS [],vI 0,vL none 0 0]),some (.tuple #[(tp0 (Z 1)),vI (tp1 (Z 1))])]) _ (fun Z l=>[bk aa #[vL p0 (aDj b).length cp0] 24,rw_ rwL 2 42 (vL qA ([([110,49],0),([110,50],0),([110,51],0)]:List (Bys×Int)).length cA) ([([110,49],0),([110,50],0),([110,51],0)]:List (Bys×Int)),rw_ rwL 2 42 (vL qB ([([110,49],0),([110,50],0)]:List (Bys×Int)).length cB) ([([110,49],0),([110,50],0)]:List (Bys×Int)),rw_ rwL 2 42 (vL qC ([([110,51],1),([110,50],9)]:List (Bys×Int)).length cC) ([([110,51],1),([110,50],9)]:List (Bys×Int)),(bif l.getD 1 false then pfE ((fun u z e=>z=13 /\ e=rw_ rwL 2 42 u []) (tp0 (Z 1)) (tp1 (Z 1))) (Z.e 1) else aE3)]) (fun Z=>[(9,vI (tp1 (Z 1)))]) hM (fun Z=>rfl) (fun Z l w5 hM=>(fc (lam 24 0 0 1 hM rfl) f0)) ⟨aAy 0 1 36 (f:=11) (fun Z=>#[]) (.agg #[vI 1,vS [],vS [],vI 0,vL none 0 0]) (fun Z fr wm hM=>(aDJ _)),aH6 1 3 4 38 (f:=12) (fun Z=>#[.agg #[vL p0 (aDj b).length cp0],.agg #[vI 2,vI 0,vI 1,vS [],vS [],vI 0,vL none 0 0,vS [119,49],vI 0,vI 0,vI 0,vS [],vS [],vI 0]]) (fun u z e=>z=13 /\ e=rw_ rwL 2 42 u []) (fun Z fr wm hM=>(aUW (hmO.fr hM.fr))),trivial⟩ fun ae w1 hM=>?_;replace hM:Mm nF_ w w1 [bk aa #[vL p0 (aDj b).length cp0] 24,_,_,_,pfE ((fun u z e=>z=13 /\ e=rw_ rwL 2 42 u []) (tp0 (ae 1)) (tp1 (ae 1))) (ae.e 1)]:=hM;obtain ⟨⟨hz9,hge⟩,hM⟩:=hM.unpf (j:=4) rfl;rw [hge] at hM;obtain ⟨vD,hvD⟩:∃ z,z=tp0 (ae 1):=⟨_,rfl⟩;rw [←hvD] at hM;rw [hz9];clear hvD hz9 hge;replace hM:Mm nF_ w _ [bk aa #[vL p0 (aDj b).length cp0] 24,_,_,_,_]:=hM;obtain ⟨qD,cD,e9,-⟩:=(hM.src (j:=4) rfl rwT.len).op;subst e9;refine aA0 6 7 48 [(43,vB true),(44,vL qA ([([110,49],0),([110,50],0),([110,51],0)]:List (Bys×Int)).length cA),(45,.agg #[vS [110,49],vI 0]),(46,.agg #[vS [110,50],vI 0]),(47,.agg #[vS [110,51],vI 0])] (cs:=#[vS [110,49],vI 0,vS [110,50],vI 0,vS [110,51],vI 0]) (T:=42) (v:=fun b=>vL (some ⟨b,0,none⟩) 3 3) f0 hM fun af w1 hM=>aAw 6 8 49 [] f0 hM (aD7 (A:=([([110,49],0),([110,50],0),([110,51],0)]:List (Bys×Int))) (B:=([([110,49],0),([110,50],0),([110,51],0)]:List (Bys×Int))) (((hM.src (j:=1) rfl rwT.len).p).2) (aBQ (f:=rwL) (c:=2) (hM.get 5 rfl) ([([110,49],0),([110,50],0),([110,51],0)]:List (Bys×Int)) 3 (fun _=>rfl) rfl rfl) (by kernel_rfl)) fun w1 hM=>aA0 6 18 59 [(55,vB true),(56,vL qB ([([110,49],0),([110,50],0)]:List (Bys×Int)).length cB),(57,.agg #[vS [110,49],vI 0]),(58,.agg #[vS [110,50],vI 0])] (cs:=#[vS [110,49],vI 0,vS [110,50],vI 0]) (T:=42) (v:=fun b=>vL (some ⟨b,0,none⟩) 2 2) f0 hM fun ag w1 hM=>aAw 6 19 60 [] f0 hM (aD7 (A:=([([110,49],0),([110,50],0)]:List (Bys×Int))) (B:=([([110,49],0),([110,50],0)]:List (Bys×Int))) (((hM.src (j:=2) rfl rwT.len).p).2) (aBQ (f:=rwL) (c:=2) (hM.get 6 rfl) ([([110,49],0),([110,50],0)]:List (Bys×Int)) 2 (fun _=>rfl) rfl rfl) (by kernel_rfl)) fun w1 hM=>aA0 7 9 71 [(67,vB true),(68,vL qC ([([110,51],1),([110,50],9)]:List (Bys×Int)).length cC),(69,.agg #[vS [110,51],vI 1]),(70,.agg #[vS [110,50],vI 9])] (cs:=#[vS [110,51],vI 1,vS [110,50],vI 9]) (T:=42) (v:=fun b=>vL (some ⟨b,0,none⟩) 2 2) f0 hM fun ah w1 hM=>aAw 7 10 72 [] f0 hM (aD7 (A:=([([110,51],1),([110,50],9)]:List (Bys×Int))) (B:=([([110,51],1),([110,50],9)]:List (Bys×Int))) (((hM.src (j:=3) rfl rwT.len).p).2) (aBQ (f:=rwL) (c:=2) (hM.get 7 rfl) ([([110,51],1),([110,50],9)]:List (Bys×Int)) 2 (fun _=>rfl) rfl rfl) (by kernel_rfl)) fun w1 hM=>rt1 0 (vB true) rfl f0 (hY _ _ ⟨rfl,hM.fr⟩)
def aB1 (q:QdR) (n:Int):QdR:={ q with n:=n }
theorem aRh {w:World}{B h:Nat}{q:QdR}(hq:QdIn w B h q) (n:Int):QdIn w B h (aB1 q n):=⟨hq.wh,hq.id,hq.key,hq.prof⟩
theorem aQg {l:List Ob}{h:Nat}{q:QdR}{n:Int}{u s:ShR}(hn:q.n<=n):alR l h q u s=(alR l h (aB1 q n) u s).bind fun x=>bif decide (x.2<=q.n) then some x else none:=by
 have e:alR l h (aB1 q n) u s=bif (s.o.o.id==q.id) || !(aBo h q s.o) then none else bif decide (aAp (apP l s u)<=n) then some (s.o.o.id,aAp (apP l s u)) else none:=rfl
 rw [e];unfold alR
 cases (s.o.o.id==q.id) || !(aBo h q s.o) with
 | true=>rfl
 | false =>
  rw [cond_false,cond_false]
  by_cases h1:aAp (apP l s u)<=q.n
  ·rw [decide_eq_true h1,decide_eq_true (Int.le_trans h1 hn),cond_true,Option.bind_some,decide_eq_true (show (s.o.o.id,aAp (apP l s u)).2<=q.n from h1)];rfl
  ·rw [decide_eq_false h1,cond_false]
   cases decide (aAp (apP l s u)<=n) with
   | true=>rw [cond_true,Option.bind_some,decide_eq_false (show ¬ (s.o.o.id,aAp (apP l s u)).2<=q.n from h1)];rfl
   | false=>rfl
theorem aN2 {α:Type}{p:Bys×Int->Bool}{f g:α->Option (Bys×Int)}(hf:∀ s,f s=(g s).bind fun x=>bif p x then some x else none):∀ S:List α,S.filterMap f=(S.filterMap g).filter p
 | []=>rfl
 | s::S=>by
  have ih:=aN2 hf S;rw [List.filterMap_cons,List.filterMap_cons,hf s]
  cases hg:g s with
  | none=>exact ih
  | some x =>
   rw [Option.bind_some]
   cases hp:p x with
   | true=>rw [cond_true,List.filter_cons_of_pos hp,←ih]
   | false=>rw [cond_false,List.filter_cons_of_neg (by rw [hp];decide),←ih]
theorem aIA {h:Nat}{q:QdR}{os:List ObR}{n:Int}(hn:q.n<=n):aAM h q os=(aAM h (aB1 q n) os).filter fun x=>decide (x.2<=q.n):=by
 unfold aAM;have e:(aB1 q n).id=q.id:=rfl;rw [e]
 split
 ·exact aN2 (fun s=>aQg hn) _
 ·rfl
theorem aRb {h:Nat}{q:QdR}{os:List ObR}{x:Bys×Int}(hx:x∈aAM h q os):∃ b,(os.find? fun b=>(b.o.id==q.id)&&((aAg (aAa os) b.o.id).1==0))=some b /\ ∃ s∈mkS os,s.o.o.id≠q.id /\ x=(s.o.o.id,aAp (apP (aAa os) s (mk0 b))) /\ aAp (apP (aAa os) s (mk0 b))<=q.n:=by
 unfold aAM at hx
 split at hx
 ·rename_i b hb;refine ⟨b,hb,?_⟩;obtain ⟨s,hs,e⟩:=List.mem_filterMap.1 hx;unfold alR at e
  cases h1:(s.o.o.id==q.id) || !(aBo h q s.o) with
  | true=>rw [h1] at e;cases e
  | false =>
   rw [h1,cond_false] at e
   cases h2:decide (aAp (apP (aAa os) s (mk0 b))<=q.n) with
   | false=>rw [h2] at e;cases e
   | true =>
    rw [h2,cond_true] at e;have h3:=(Bool.or_eq_false_iff.1 h1).1;exact ⟨s,hs,by simpa using h3,(Gi_ e).symm,by simpa using h2⟩
 ·cases hx
theorem aDS {h:Nat}{q:QdR}{os:List ObR}{x:Bys×Int}(hx:x∈aAM h q os):x.1≠q.id /\ 0<=x.2 /\ x.2<=q.n:=by
 obtain ⟨b,_,s,_,h1,rfl,h2⟩:=aRb hx;exact ⟨h1,aR1 _,h2⟩
theorem aT1 {os:List ObR}(hv:aAl (aAa os)=true):(mkS os).Pairwise fun a b=>blt a.o.o.id b.o.o.id=true:=by
 have h1:=aBd hv;unfold aAa at h1;rw [List.pairwise_map] at h1;unfold mkS;rw [List.pairwise_map];exact h1.filter _
theorem aUo {h:Nat}{q:QdR}{os:List ObR}(hv:aAl (aAa os)=true):(aAM h q os).Pairwise fun a b=>blt a.1 b.1=true:=by
 unfold aAM
 split
 ·rename_i b _;unfold aGf;rw [List.pairwise_filterMap];refine (aT1 hv).imp fun {s t} hst x hx y hy=>?_
  have key:∀ {s:ShR}{x:Bys×Int},alR (aAa os) h q (mk0 b) s=some x->x.1=s.o.o.id:=fun {s x} e=>by
   unfold alR at e
   cases h1:(s.o.o.id==q.id) || !(aBo h q s.o) with
   | true=>rw [h1] at e;cases e
   | false =>
    rw [h1,cond_false] at e
    cases h2:decide (aAp (apP (aAa os) s (mk0 b))<=q.n) with
    | false=>rw [h2] at e;cases e
    | true=>rw [h2,cond_true] at e;rw [←Gi_ e]
  rw [key hx,key hy];exact hst
 ·exact .nil
theorem aUp {h:Nat}{q:QdR}{os:List ObR}(hv:aAl (aAa os)=true) {i:Nat}{x y:Bys×Int}(hx:(aAM h q os)[i]?=some x) (hy:(aAM h q os)[i+1]?=some y):blt x.1 y.1=true:=by
 obtain ⟨hi,rfl⟩:=List.getElem?_eq_some_iff.1 hx;obtain ⟨hj,rfl⟩:=List.getElem?_eq_some_iff.1 hy;exact List.pairwise_iff_getElem.1 (aUo hv) i (i+1) hi hj (by omega)
theorem aT2 (os:List ObR):aE7 (aAa os) os (mkS os):=by
 unfold aE7 mkS;rw [List.map_map];exact List.map_id _
theorem aQw {os:List ObR}(hv:aAl (aAa os)=true) {b:ObR}(hb:b∈os):aAg (aAa os) b.o.id=aAD (aAa os) b.o:=by
 have hm:b.o∈aAa os:=List.mem_map.2 ⟨b,hb,rfl⟩;have hf:=aDC (aBd hv) hm;obtain ⟨k,o,h1,h2,h3⟩:=aBn (l:=aAa os) (id:=b.o.id) hf.1;have ho:o=b.o:=aIc (aBd hv) (Ge_ h2) hm h3;unfold aAg;rw [hv,h1,decide_eq_false (by omega),Gt_,h2,ho];rfl
theorem aVl {P:List Pt}{i:Nat}(h2:2<=P.length) (hi:i<P.length):∃ x∈aDP 2 P,aEG P i=x.1∨aEG P i=x.2:=by
 have key:∀ j,j+1<P.length->(aEG P j,aEG P (j+1))∈aDP 2 P:=fun j hj=>by
  unfold aDP;refine List.mem_flatMap.2 ⟨j,List.mem_range.2 (by omega),?_⟩;unfold aGp;have e1:((j:Int)+1)%(P.length:Int)=(j:Int)+1:=Int.emod_eq_of_lt (by omega) (by omega);have e2:(j+1)%P.length=j+1:=Nat.mod_eq_of_lt hj;rw [e1,decide_eq_true (by omega),e2];exact List.mem_singleton.2 rfl
 rcases Nat.lt_or_ge (i+1) P.length with h | h
 ·exact ⟨_,key i h,.inl rfl⟩
 ·obtain ⟨j,rfl⟩:∃ j,i=j+1:=⟨i-1,by omega⟩;exact ⟨_,key j hi,.inr rfl⟩
theorem aS6 {h:Nat}{q:QdR}{os:List ObR}{x:Bys×Int}{c:ObR}(hv:aAl (aAa os)=true) (hx:x∈aAM h q os) (hc:c∈os) (hid:c.o.id=q.id) (hk:c.o.kind=2) (hr:x.1∈c.o.refs):x.2=0:=by
 obtain ⟨b,hb,s,hs,_,rfl,_⟩:=aRb hx;have h1:=List.find?_some hb;have h2:=List.mem_of_find?_eq_some hb;simp only [Ga_,beq_iff_eq] at h1;have hbc:b.o=c.o:=aIc (aBd hv) (List.mem_map.2 ⟨b,h2,rfl⟩) (List.mem_map.2 ⟨c,hc,rfl⟩) (by rw [h1.1,hid])
 have hum:mk0 b∈mkS os:=by
  unfold mkS;exact List.mem_map.2 ⟨b,List.mem_filter.2 ⟨h2,by simpa using h1.2⟩,rfl⟩
 have hS:=aT2 os;have hNs:ShN (aAa os) s:=aOM hv rfl hS hs;have hNu:ShN (aAa os) (mk0 b):=aOM hv rfl hS hum;have hku:(mk0 b).o.o.kind=2:=by show b.o.kind=2;rw [hbc];exact hk
 have hso:=shO hS hs;have hr':s.o.o.id∈b.o.refs:=by rw [hbc];exact hr
 have hpb:=aQw hv h2
 have hall:(b.o.refs.all fun r=>(aCW (aAa os) r).isSome)=true:=by
  have h9:=h1.2;rw [hpb] at h9;unfold aAD at h9;have hk9:b.o.kind=2:=by rw [hbc];exact hk
  rw [hk9] at h9
  cases ha:b.o.refs.all fun r=>(aCW (aAa os) r).isSome with
  | true=>rfl
  | false=>rw [ha] at h9;have h9:(14:Int)=0:=h9;omega
 have hPb:(mk0 b).P (aAa os)=b.o.refs.map fun r=>(aCW (aAa os) r).getD (0,0):=by
  show (aAg (aAa os) b.o.id).2=_;rw [hpb];unfold aAD;have hk9:b.o.kind=2:=by rw [hbc];exact hk
  rw [hk9,hall];rfl
 have hpt:=List.all_eq_true.1 hall _ hr';obtain ⟨p,hp⟩:=Option.isSome_iff_exists.1 hpt
 have hPs:s.P (aAa os)=[p]:=by
  show (aAg (aAa os) s.o.o.id).2=_;rw [aQw hv hso];have hm:s.o.o∈aAa os:=List.mem_map.2 ⟨s.o,hso,rfl⟩;have hf:=aDC (aBd hv) hm;obtain ⟨k,o,g1,g2,g3⟩:=aBn (l:=aAa os) (id:=s.o.o.id) hf.1;have ho:o=s.o.o:=aIc (aBd hv) (Ge_ g2) hm g3;unfold aCW at hp;rw [g1,Gt_,g2,ho] at hp;simp only at hp
  cases hkk:decide ((k:Int)<0) || !(s.o.o.kind==1) with
  | true=>rw [hkk] at hp;cases hp
  | false =>
   rw [hkk,cond_false] at hp;have h5:=(Bool.or_eq_false_iff.1 hkk).2;unfold aAD;rw [show (s.o.o.kind==1)=true by simpa using h5,cond_true,Gi_ hp]
 obtain ⟨i,hi⟩:=List.getElem?_of_mem hr'
 have hPi:aEG ((mk0 b).P (aAa os)) i=p:=by
  unfold aEG;rw [List.getD_eq_getElem?_getD,hPb,Gr_,hi,Option.map_some,hp];rfl
 have hlen:2<=((mk0 b).P (aAa os)).length:=by
  rw [hPb,Gp_];have:=aHp (aCA hv b.o (List.mem_map.2 ⟨b,h2,rfl⟩));have hk9:b.o.kind=2:=by rw [hbc];exact hk
  rw [hk9] at this;have:(2:Int)<=b.o.refs.length:=this;omega
 have hil:i<((mk0 b).P (aAa os)).length:=by rw [hPb,Gp_];exact gl hi
 obtain ⟨y,hy,he⟩:=aVl hlen hil
 have hyL:y∈(mk0 b).L (aAa os):=by
  show y∈aDP (mk0 b).o.o.kind ((mk0 b).P (aAa os));rw [hku];exact hy
 have h0:aEG (s.P (aAa os)) 0=p:=by rw [hPs];rfl
 have:=aS2 hNs hNu (aTk hv) (aTk hv) hku hyL (by rw [h0,←hPi];exact he)
 dsimp only
 rw [this];rfl
theorem aN6 {os:List ObR}{n:Nat}(h:aEt (aAa os) (n:Int)=true):os.length<=n:=by
  unfold aEt at h;simp only [Ga_,decide_eq_true_eq,aAU] at h;omega
theorem c16 {w:World}(m:Int) (h0:0<=m) (h1:m<=65535):Ft.ok Tryz.prog w (.g1 (.convert 53 3) (.int .u16 m) (vI m)):=fun o ρ x ho hx=>by
  have hw:IntKind.i64.wrap m=m:=by rw [IntKind.wrap_i64];omega
  simp [execOp,ho,hx,go_sem,Tryz.underlying53,u3_,hw]
abbrev AW6 (Z:Ending->World->Prop):=AtO Tryz.prog (aAO Tryz.f6) (aBh (bodyPost Tryz.prog Tryz.f6 Z)) [] 188
abbrev qX_ (q:QdR) (n:Int):Array Value:=#[vI q.ask,vI q.kind,vI q.wh.op,vS q.wh.key,vS q.wh.val,vI q.wh.n,vL q.wh.p q.wh.kids.length q.wh.cap,vS q.id,vI n,vI q.x,vI q.y,vS q.key,vS q.prof,vI q.min]
theorem aFR {w:World}{v:Value}{os:List ObR}(hmO:aDT w v os) {B h:Nat}{q:QdR}(hq:QdIn w B h q) (hBw:B<=w.heap.size) (hTe:Te w) {mo:Int}(hmo:0<=mo /\ mo<=65535):Calls Tryz.prog 6 #[.agg #[v],.agg (qY_ q),.int .u16 mo] w fun e w'=>e = .returned (vB true) /\ Fr nF_ w w':=by
  obtain ⟨p0,cp0,hp0,-⟩:=hmO.1.op;subst hp0;have hm0:=hmO;obtain ⟨hs0,hob⟩:=hm0;have sp0:=hs0.p.2;have bp0:=sp0.bnd;refine beg Tryz.func6 rfl rfl [(0,.agg #[vL p0 os.length cp0]),(1,.agg (qY_ q)),(2,.int .u16 mo)] rfl rfl fun Z hZ=>?_;have hM:=Mm.nil nF_ w;refine aA0 0 0 3 [] (cs:=#[vL p0 os.length cp0]) (T:=24) (v:=fun b=>vP b 0) f0 hM fun ad w1 hM=>aA0 0 1 4 [] (cs:=(qY_ q)) (T:=31) (v:=fun b=>vP b 0) f0 hM fun ae w1 hM=>aAw 1 0 18 [] f0 hM (aJv (hTe.fr hM.fr)) fun w1 hM=>aJE 2 2 21 [(7,vB true),(19,.agg #[vL p0 os.length cp0]),(20,.agg (qY_ q))] (K:=fun u w8=>∃ b,u=vB b /\ (b=true->aEt (aAa os) 30=true)) (fc (lam 24 0 0 1 hM rfl) (fc (lam 31 1 0 14 hM rfl) f0)) hM ((aJ0 (hmO.fr hM.fr) (hq.fr hM.fr hBw) (Gn_ hBw hM.fr.size)).mono fun e w9 ⟨⟨b,h1,h3⟩,h2⟩=>⟨⟨_,h1,b,rfl,h3⟩,h2⟩) fun u w1 ⟨b9,hu,hb9⟩ hM f1=>?_;subst hu;refine seg 2 5 [(23,vB (!b9))] f0 ?_
  cases bu:b9 with
  | false =>
   exact rt1 6 (vB true) rfl f0 (hZ _ _ ⟨rfl,hM.fr⟩)
  | true =>
   have hol9:=aN6 (n:=30) (hb9 bu);have hol:os.length<=10000:=by omega
   refine seg 2 9 [(27,vB (!(q.ask==3)))] (fc (ldm 3 1 0 hM rfl rfl) f0) ?_;cases bv:(q.ask==3)
   ·exact rt1 6 (vB true) rfl f0 (hZ _ _ ⟨rfl,hM.fr⟩)
   have hask:q.ask=3:=et bv;refine aPX 4 2 32 [(30,.agg #[vL p0 os.length cp0]),(31,.agg (qY_ q))] (K:=fun u Mn=>∃ v9,u = .tuple #[v9,vI (aAo h os q)] /\ Mn=[rw_ rwL 2 42 v9 (bif (aAo h os q)==0 then aAM h q os else [])]) [0,1] [] (fc (lam 24 0 0 1 hM rfl) (fc (lam 31 1 0 14 hM rfl) f0)) hM rfl rfl (by decide) (fun hm=>((aE8 (q:=q) (hmO.fr hM.fr) (hq.fr hM.fr hBw) (Gn_ hBw hM.fr.size) (hTe.fr hM.fr) hol hask).mono fun e w9 ⟨u,h1,h2⟩=>⟨_,_,h1,⟨u,rfl,rfl⟩,aOw h2 fun _ h=>h.elim⟩)) fun u Mn w1 hK hM=>?_;obtain ⟨v9,rfl,rfl⟩:=hK;obtain ⟨A1,hA1⟩:∃ z,z=(bif (aAo h os q)==0 then aAM h q os else []):=⟨_,rfl⟩;rw [←hA1] at hM;replace hM:Mm nF_ w _ [bk ad #[vL p0 os.length cp0] 24,bk ae (qY_ q) 31,_]:=hM;obtain ⟨qa1,ca1,e9,-⟩:=(hM.src (j:=2) rfl rwT.len).op;subst e9;refine aDi 5 1 10 [(8,vL qa1 A1.length ca1),(9,vI (aAo h os q)),(35,.agg (qY_ q))] [] 31 (.agg (qY_ q)) (fc (lam 31 1 0 14 hM rfl) f0) hM fun af w1 hM=>stm 6 6 [(40,vI (IntKind.i64.wrap (q.n+mo))),(41,vP af 8)] 3 3 8 (vI (IntKind.i64.wrap (q.n+mo))) (fc (ldm 3 1 8 hM rfl rfl) (fc (c16 mo hmo.1 hmo.2) (fc (aOG q.n mo u3_) f0))) hM rfl fun w1 hM=>aPX 7 2 45 [(43,.agg #[vL p0 os.length cp0]),(44,.agg (qX_ q (IntKind.i64.wrap (q.n+mo))))] (K:=fun u Mn=>∃ v9,u = .tuple #[v9,vI (aAo h os (aB1 q (IntKind.i64.wrap (q.n+mo))))] /\ Mn=[rw_ rwL 2 42 v9 (bif (aAo h os (aB1 q (IntKind.i64.wrap (q.n+mo))))==0 then aAM h (aB1 q (IntKind.i64.wrap (q.n+mo))) os else [])]) [0,1,2,3] [] (fc (lam 24 0 0 1 hM rfl) (fc (lam 31 3 0 14 hM rfl) f0)) hM rfl rfl (by decide) (fun hm=>((aE8 (q:=(aB1 q (IntKind.i64.wrap (q.n+mo)))) (hmO.fr hM.fr) ((aRh hq (IntKind.i64.wrap (q.n+mo))).fr hM.fr hBw) (Gn_ hBw hM.fr.size) (hTe.fr hM.fr) hol hask).mono fun e w9 ⟨u,h1,h2⟩=>⟨_,_,h1,⟨u,rfl,rfl⟩,aOw h2 fun _ h=>h.elim⟩)) fun u Mn w1 hK hM=>?_;obtain ⟨v9,rfl,rfl⟩:=hK;obtain ⟨A2,hA2⟩:∃ z,z=(bif (aAo h os (aB1 q (IntKind.i64.wrap (q.n+mo))))==0 then aAM h (aB1 q (IntKind.i64.wrap (q.n+mo))) os else []):=⟨_,rfl⟩;rw [←hA2] at hM;replace hM:Mm nF_ w _ [bk ad #[vL p0 os.length cp0] 24,bk ae (qY_ q) 31,_,bk af (qX_ q (IntKind.i64.wrap (q.n+mo))) 31,_]:=hM;obtain ⟨qa2,ca2,e9,-⟩:=(hM.src (j:=4) rfl rwT.len).op;subst e9;refine seg 8 3 [(11,vL qa2 A2.length ca2),(12,vI (aAo h os (aB1 q (IntKind.i64.wrap (q.n+mo))))),(50,vB (!((aAo h os q)==0)))] f0 ?_;cases bb:((aAo h os q)==0)
   ·exact rt1 6 (vB true) rfl f0 (hZ _ _ ⟨rfl,hM.fr⟩)
   refine seg 8 6 [(53,vB (!((aAo h os (aB1 q (IntKind.i64.wrap (q.n+mo))))==0)))] f0 ?_;cases bw:((aAo h os (aB1 q (IntKind.i64.wrap (q.n+mo))))==0)
   ·exact rt1 6 (vB true) rfl f0 (hZ _ _ ⟨rfl,hM.fr⟩)
   have hc1:(aAo h os q)=0:=et bb;obtain ⟨hvq,hvm,hn1,hn2⟩:=aKF hc1;have hbq:=aIB hask hvq;have hkq:=aGG hask hn1 hn2;have hN2:(IntKind.i64.wrap (q.n+mo))=q.n+mo:=by rw [IntKind.wrap_i64];omega
   have hA1e:A1=aAM h q os:=by rw [hA1,bb];rfl
   have hA2e:A2=aAM h (aB1 q (IntKind.i64.wrap (q.n+mo))) os:=by rw [hA2,bw];rfl
   have hfil:A1=A2.filter fun x=>decide (x.2<=q.n):=by rw [hA1e,hA2e];exact aIA (by omega)
   have hl2:A2.length<=30:=by rw [hA2e];exact Gn_ (aGe _ _ _) hol9
   have hl1:A1.length<=30:=by rw [hA1e];exact Gn_ (aGe _ _ _) hol9
   have hnq:aBl q=2:=by unfold aBl at hn1 ⊢;rw [hask] at hn1 ⊢;cases hk9:(q.kind==4)||(q.kind==5) with | true=>(rw [hk9] at hn1;have hn1:((-1:Int) == -1)=false:=hn1;cases hn1) | false=>rfl
   have hfi:¬ (aAt (aAa os) q.id)<0:=(hn2.resolve_left (by rw [hnq];decide)).1;obtain ⟨fi,o9,hfe,ho9,hoi9⟩:=aBn hfi;have hfl:fi<os.length:=by have:=gl ho9;rw [aAU] at this;exact this
   have hM:=hM.row (f:=rwL) (c:=2) (E:=42);replace hM:Mm nF_ w _ [bk ad #[vL p0 os.length cp0] 24,bk ae (qY_ q) 31,_,bk af (qX_ q (IntKind.i64.wrap (q.n+mo))) 31,_,_]:=hM;refine seg 12 0 [(13,vL none 0 0),(14,vI 0)] f0 ?_
   have bz:∀ (bc:Nat) (i:Nat) (vo:Value) (w2:World),i<=A2.length->Mm nF_ w w2 [bk ad #[vL p0 os.length cp0] 24,bk ae (qY_ q) 31,rw_ rwL 2 42 (vL qa1 A1.length ca1) A1,bk af (qX_ q (IntKind.i64.wrap (q.n+mo))) 31,rw_ rwL 2 42 (vL qa2 A2.length ca2) A2,rw_ rwL 2 42 vo ((A2.take i).filter fun x=>decide (x.2<=q.n))]->bc=A2.length-i->AW6 Z (some (12,0)) [(14,vI (i:Int)),(13,vo),(11,vL qa2 A2.length ca2),(10,vP af 0),(8,vL qa1 A1.length ca1),(7,vB true),(4,vP ae 0),(3,vP ad 0)] w2:=by
    refine aCI fun bc an i vo w2 hi hM cl=>seg 12 4 [(58,vB (decide ((i:Int)<(A2.length:Int))))] f0 ?_;cases bd:(decide ((i:Int)<(A2.length:Int)))
    ·have b0:=df bd;have hW:((A2.take i).filter fun x=>decide (x.2<=q.n))=A1:=by rw [Gc_ (by omega)];exact hfil.symm
     rw [hW] at hM;replace hM:Mm nF_ w _ [bk ad #[vL p0 os.length cp0] 24,bk ae (qY_ q) 31,_,bk af (qX_ q (IntKind.i64.wrap (q.n+mo))) 31,_,_]:=hM;obtain ⟨qw,cw,e9,-⟩:=(hM.src (j:=5) rfl rwT.len).op;subst e9;refine aAw 18 2 122 [(120,vL qa1 A1.length ca1),(121,vL qw A1.length cw)] f0 hM (aD7 (A:=A1) (B:=A1) (((hM.src (j:=2) rfl rwT.len).p).2) (((hM.src (j:=5) rfl rwT.len).p).2) (by simp)) fun w1 hM=>aAw 20 3 127 [(124,.agg #[vL p0 os.length cp0]),(126,vS q.id)] (fc (lam 24 0 0 1 hM rfl) (fc (ldm 9 1 7 hM rfl rfl) f0)) hM (aBU (hmO.fr hM.fr) q.id) fun w1 hM=>seg 21 3 [(15,vI (aAt (aAa os) q.id)),(130,vB (decide ((aAt (aAa os) q.id)<0)))] f0 ?_;cases b1:(decide ((aAt (aAa os) q.id)<0))
     rotate_left
     ·exact absurd (dt b1) hfi
     refine seg 21 10 [(137,vB (decide ((os.length:Int)<=(aAt (aAa os) q.id))))] (fc (ldm 22 0 0 hM rfl rfl) f0) ?_;cases az:(decide ((os.length:Int)<=(aAt (aAa os) q.id)))
     rotate_left
     ·have b2:=dt az;exact absurd (dt az) (by omega)
     have b2:=df az;refine seg 21 14 [(141,vB ((A1.length:Int)==0))] f0 ?_;cases cm:((A1.length:Int)==0)
     rotate_left
     ·exact rt1 6 (vB (decide (0<=(aAt (aAa os) q.id)))) rfl f0 (hZ _ _ ⟨by rw [decide_eq_true (by omega)],hM.fr⟩)
     refine seg 24 0 [(16,vI 0)] f0 ?_
     have b3:∀ (be:Nat) (i2:Nat) (w2:World),i2<=A1.length->Mm nF_ w w2 [bk ad #[vL p0 os.length cp0] 24,bk ae (qY_ q) 31,rw_ rwL 2 42 (vL qa1 A1.length ca1) A1,bk af (qX_ q (IntKind.i64.wrap (q.n+mo))) 31,rw_ rwL 2 42 (vL qa2 A2.length ca2) A2,rw_ rwL 2 42 (vL qw A1.length cw) A1]->be=A1.length-i2->AW6 Z (some (24,0)) [(16,vI (i2:Int)),(15,vI (aAt (aAa os) q.id)),(8,vL qa1 A1.length ca1),(7,vB true),(3,vP ad 0)] w2:=by
      refine aCI fun be b4 i2 w2 hi2 hM co=>seg 24 4 [(150,vB (decide ((i2:Int)<(A1.length:Int))))] f0 ?_;cases bf:(decide ((i2:Int)<(A1.length:Int)))
      ·have b5:=df bf;exact rt1 6 (vB true) rfl f0 (hZ _ _ ⟨rfl,hM.fr⟩)
      have b5:=dt bf;obtain ⟨ag,ai,cp,cq,a0,a1⟩:=sp0.el (i:=fi) (by omega);have hoid:ag.o.id=q.id:=by have h9:=aAS ai;rw [ho9] at h9;rw [←hoi9,Gi_ h9]
      have hok:ag.o.kind=2:=by rw [←aNu hvm (gm ai),hoid];exact hkq
      refine seg 27 0 [(17,vI 0)] f0 ?_
      have b6:∀ (bg:Nat) (k:Nat) (w2:World),k<=ag.o.refs.length->Mm nF_ w w2 [bk ad #[vL p0 os.length cp0] 24,bk ae (qY_ q) 31,rw_ rwL 2 42 (vL qa1 A1.length ca1) A1,bk af (qX_ q (IntKind.i64.wrap (q.n+mo))) 31,rw_ rwL 2 42 (vL qa2 A2.length ca2) A2,rw_ rwL 2 42 (vL qw A1.length cw) A1]->bg=ag.o.refs.length-k->AW6 Z (some (27,0)) [(17,vI (k:Int)),(16,vI (i2:Int)),(15,vI (aAt (aAa os) q.id)),(8,vL qa1 A1.length ca1),(7,vB true),(3,vP ad 0)] w2:=by
       refine aCI fun bg bh k w2 hk hM ct=>seg 27 9 [(161,vB (decide ((k:Int)<(ag.o.refs.length:Int))))] (fc (ldm 22 0 0 hM rfl rfl) (fc (ix 22 cp0 a0 (gl ai) (z:=(aAt (aAa os) q.id)) (hz:=hfe)) (fc (ld0 45 hM (a1 4 _ rfl)) f0))) ?_;cases bi:(decide ((k:Int)<(ag.o.refs.length:Int)))
       ·have b7:=df bi;refine seg 24 0 [(16,vI ((i2:Int)+1))] (fc (aAG (i2:Int) 1 u3_) f0) (aAk _ (b4 _ (by omega) (i2+1) _ (by omega) hM rfl))
       have b7:=dt bi;obtain ⟨ak,ah⟩:=geb (l:=A1) (i:=i2) (by omega);obtain ⟨cu,aj,-⟩:=hM.el rwT (j:=2) rfl ah;have bj:=(hob _ (gm ai)).refs;have cv:=bj.bnd;obtain ⟨a2,a3,cx,cy,bl,bm⟩:=bj.el (i:=k) (by omega);refine seg 29 0 [] f0 ?_;cases a4:(ak.1==a2)
       ·have hM:=hM.q ((Fr.refl _ _).drew);refine drq [(186,vB false)] rfl (fc (ix 36 ca1 aj (gl ah)) (fc (ldr 9 2 0 rwT hM rfl aj ah rfl) (fc (ldm 22 0 0 hM rfl rfl) (fc (ix 22 cp0 a0 (gl ai) (z:=(aAt (aAa os) q.id)) (hz:=hfe)) (fc (ld0 45 hM (a1 4 _ rfl)) (fc (ix 45 ag.cr bl (gl a3)) (fc (ld0 9 hM (bm 0 _ rfl)) (fc (rz (seq 9 ak.1 a2) a4) f0)))))))) (seg 27 0 [(17,vI ((k:Int)+1))] (fc (aAG (k:Int) 1 u3_) f0) (aAk _ (bh _ (by omega) (k+1) _ (by omega) hM rfl)))
       have hM:=hM.q ((Fr.refl _ _).drew);refine drq [(186,vB (!(ak.2==0)))] rfl (fc (ix 36 ca1 aj (gl ah)) (fc (ldr 9 2 0 rwT hM rfl aj ah rfl) (fc (ldm 22 0 0 hM rfl rfl) (fc (ix 22 cp0 a0 (gl ai) (z:=(aAt (aAa os) q.id)) (hz:=hfe)) (fc (ld0 45 hM (a1 4 _ rfl)) (fc (ix 45 ag.cr bl (gl a3)) (fc (ld0 9 hM (bm 0 _ rfl)) (fc (rz (seq 9 ak.1 a2) a4) (fc (ix 36 ca1 aj (gl ah)) (fc (ldr 3 2 1 rwT hM rfl aj ah rfl) f0)))))))))) ?_;cases b8:(ak.2==0)
       ·exact absurd (aS6 hvm (hA1e▸gm ah) (gm ai) hoid hok (by rw [et a4];exact gm a3)) (ef b8)
       refine seg 27 0 [(17,vI ((k:Int)+1))] (fc (aAG (k:Int) 1 u3_) f0) (aAk _ (bh _ (by omega) (k+1) _ (by omega) hM rfl))
      exact aAk _ (b6 _ 0 _ (Gg_ _) hM rfl)
     exact aAk _ (b3 _ 0 _ (Gg_ _) hM rfl)
    have b0:=dt bd;obtain ⟨ab,aa⟩:=geb (l:=A2) (i:=i) (by omega);obtain ⟨cz,ac,-⟩:=hM.el rwT (j:=4) rfl aa;refine seg 14 0 [] f0 ?_;have hM:=hM.q ((Fr.refl _ _).drew);refine drq [(68,vB (decide (ab.2<=q.n)))] rfl (fc (ix 36 ca2 ac (gl aa)) (fc (ldr 3 4 1 rwT hM rfl ac aa rfl) (fc (ldm 3 1 8 hM rfl rfl) f0))) ?_;cases ao:(decide (ab.2<=q.n))
    ·refine seg 16 0 [] f0 ?_;cases a5:(ab.1==q.id)
     rotate_left
     ·exact absurd (et a5) (aDS (h:=h) (os:=os) (q:=aB1 q (IntKind.i64.wrap (q.n+mo))) (hA2e▸gm aa)).1
     cases ap:(decide (0<(i:Int)))
     ·have ca:=df ap;cases aq:(decide (ab.2<0))
      rotate_left
      ·have cb:=dt aq;exact absurd (dt aq) (by have:=(aDS (h:=h) (os:=os) (q:=aB1 q (IntKind.i64.wrap (q.n+mo))) (hA2e▸gm aa)).2.1;omega)
      have cb:=df aq;have hM:=hM.q ((Fr.refl _ _).drew);refine drq [(119,vB (decide ((IntKind.i64.wrap (q.n+mo))<ab.2)))] rfl (fc (ix 36 ca2 ac (gl aa)) (fc (ldr 9 4 0 rwT hM rfl ac aa rfl) (fc (ldm 9 1 7 hM rfl rfl) (fc (rz (seq 9 ab.1 q.id) a5) (fc (tv 86 ap) (fc (ix 36 ca2 ac (gl aa)) (fc (ldr 3 4 1 rwT hM rfl ac aa rfl) (fc (tv 108 aq) (fc (ix 36 ca2 ac (gl aa)) (fc (ldr 3 4 1 rwT hM rfl ac aa rfl) (fc (ldm 3 3 8 hM rfl rfl) f0))))))))))) ?_;cases a6:(decide ((IntKind.i64.wrap (q.n+mo))<ab.2))
      rotate_left
      ·have cc:=dt a6;exact absurd (dt a6) (by have h9:ab.2<=(aB1 q (IntKind.i64.wrap (q.n+mo))).n:=(aDS (h:=h) (os:=os) (q:=aB1 q (IntKind.i64.wrap (q.n+mo))) (hA2e▸gm aa)).2.2;have h8:(aB1 q (IntKind.i64.wrap (q.n+mo))).n=(IntKind.i64.wrap (q.n+mo)):=rfl;omega)
      have cc:=df a6;refine seg 12 0 [(14,vI ((i:Int)+1))] (fc (aAG (i:Int) 1 u3_) f0) ?_;have hM:=hM.pick [0,1,2,3,4,5];replace hM:Mm nF_ w _ [bk ad #[vL p0 os.length cp0] 24,bk ae (qY_ q) 31,_,bk af (qX_ q (IntKind.i64.wrap (q.n+mo))) 31,_,_]:=hM;obtain ⟨u1,hu1⟩:∃ z,z=vo:=⟨_,rfl⟩;rw [←hu1] at hM;have eL:((A2.take i).filter fun x=>decide (x.2<=q.n))=((A2.take (i+1)).filter fun x=>decide (x.2<=q.n)):=by rw [gt_ aa,List.filter_append];simp [ao]
      rw [eL,hu1] at hM;exact aAk _ (an _ (by have:=gl aa;omega) (i+1) vo _ (gl aa) hM rfl)
     have ca:=dt ap;obtain ⟨bo,ar⟩:=geb (l:=A2) (i:=(i-1)) (by omega);obtain ⟨c0,bp,-⟩:=hM.el rwT (j:=4) rfl ar;cases bq:(blt bo.1 ab.1)
     ·exact absurd (aUp hvm (hA2e▸ar) (i:=i-1) (by rw [show i-1+1=i by omega];exact hA2e▸aa)) (by rw [bq];decide)
     cases au:(decide (ab.2<0))
     rotate_left
     ·have cd:=dt au;exact absurd (dt au) (by have:=(aDS (h:=h) (os:=os) (q:=aB1 q (IntKind.i64.wrap (q.n+mo))) (hA2e▸gm aa)).2.1;omega)
     have cd:=df au;have hM:=hM.q ((Fr.refl _ _).drew);refine drq [(119,vB (decide ((IntKind.i64.wrap (q.n+mo))<ab.2)))] rfl (fc (ix 36 ca2 ac (gl aa)) (fc (ldr 9 4 0 rwT hM rfl ac aa rfl) (fc (ldm 9 1 7 hM rfl rfl) (fc (rz (seq 9 ab.1 q.id) a5) (fc (tv 86 ap) (fc (aDL (i:Int) 1 u3_) (fc (ix 36 ca2 bp (gl ar) (z:=((i:Int)-1)) (hz:=(by omega))) (fc (ldr 9 4 0 rwT hM rfl bp ar rfl) (fc (ix 36 ca2 ac (gl aa)) (fc (ldr 9 4 0 rwT hM rfl ac aa rfl) (fc (rz (sge 9 bo.1 ab.1) (by rw [bq]<;>rfl)) (fc (ix 36 ca2 ac (gl aa)) (fc (ldr 3 4 1 rwT hM rfl ac aa rfl) (fc (tv 108 au) (fc (ix 36 ca2 ac (gl aa)) (fc (ldr 3 4 1 rwT hM rfl ac aa rfl) (fc (ldm 3 3 8 hM rfl rfl) f0))))))))))))))))) ?_;cases a7:(decide ((IntKind.i64.wrap (q.n+mo))<ab.2))
     rotate_left
     ·have ce:=dt a7;exact absurd (dt a7) (by have h9:ab.2<=(aB1 q (IntKind.i64.wrap (q.n+mo))).n:=(aDS (h:=h) (os:=os) (q:=aB1 q (IntKind.i64.wrap (q.n+mo))) (hA2e▸gm aa)).2.2;have h8:(aB1 q (IntKind.i64.wrap (q.n+mo))).n=(IntKind.i64.wrap (q.n+mo)):=rfl;omega)
     have ce:=df a7;refine seg 12 0 [(14,vI ((i:Int)+1))] (fc (aAG (i:Int) 1 u3_) f0) ?_;have hM:=hM.pick [0,1,2,3,4,5];replace hM:Mm nF_ w _ [bk ad #[vL p0 os.length cp0] 24,bk ae (qY_ q) 31,_,bk af (qX_ q (IntKind.i64.wrap (q.n+mo))) 31,_,_]:=hM;obtain ⟨u1,hu1⟩:∃ z,z=vo:=⟨_,rfl⟩;rw [←hu1] at hM;have eL:((A2.take i).filter fun x=>decide (x.2<=q.n))=((A2.take (i+1)).filter fun x=>decide (x.2<=q.n)):=by rw [gt_ aa,List.filter_append];simp [ao]
     rw [eL,hu1] at hM;exact aAk _ (an _ (by have:=gl aa;omega) (i+1) vo _ (gl aa) hM rfl)
    refine aA0 15 5 74 [(69,vo),(73,.agg #[vS ab.1,vI ab.2])] (cs:=#[vS ab.1,vI ab.2]) (T:=42) (v:=fun b=>vL (some ⟨b,0,none⟩) 1 1) (fc (ix 36 ca2 ac (gl aa)) (fc (lar 42 4 0 2 rwT hM rfl ac aa) f0)) hM fun c1 w1 hM=>aSJ 15 6 75 [] (cap:=1) (by decide) rwT f0 hM (j:=5) rfl (aCl (f:=rwL) (x:=ab) (hM.get 6 rfl) (Nat.lt_succ_self _)) (fun h=>by cases h) (by have:=List.length_filter_le (fun x:Bys×Int=>decide (x.2<=q.n)) (A2.take i);have h2:=List.length_take_le i A2;simp only [Gf_,Gm_];omega) fun c2 w1 hM=>?_;obtain ⟨al,am,cf,-⟩:=(hM.src (j:=5) rfl rwT.len).op;subst cf;refine seg 16 0 [(13,vL al (((A2.take i).filter fun x=>decide (x.2<=q.n))++[ab]).length am)] f0 ?_;cases a8:(ab.1==q.id)
    rotate_left
    ·exact absurd (et a8) (aDS (h:=h) (os:=os) (q:=aB1 q (IntKind.i64.wrap (q.n+mo))) (hA2e▸gm aa)).1
    cases av:(decide (0<(i:Int)))
    ·have cg:=df av;cases aw:(decide (ab.2<0))
     rotate_left
     ·have ch:=dt aw;exact absurd (dt aw) (by have:=(aDS (h:=h) (os:=os) (q:=aB1 q (IntKind.i64.wrap (q.n+mo))) (hA2e▸gm aa)).2.1;omega)
     have ch:=df aw;have hM:=hM.q ((Fr.refl _ _).drew);refine drq [(119,vB (decide ((IntKind.i64.wrap (q.n+mo))<ab.2)))] rfl (fc (ix 36 ca2 ac (gl aa)) (fc (ldr 9 4 0 rwT hM rfl ac aa rfl) (fc (ldm 9 1 7 hM rfl rfl) (fc (rz (seq 9 ab.1 q.id) a8) (fc (tv 86 av) (fc (ix 36 ca2 ac (gl aa)) (fc (ldr 3 4 1 rwT hM rfl ac aa rfl) (fc (tv 108 aw) (fc (ix 36 ca2 ac (gl aa)) (fc (ldr 3 4 1 rwT hM rfl ac aa rfl) (fc (ldm 3 3 8 hM rfl rfl) f0))))))))))) ?_;cases a9:(decide ((IntKind.i64.wrap (q.n+mo))<ab.2))
     rotate_left
     ·have ci:=dt a9;exact absurd (dt a9) (by have h9:ab.2<=(aB1 q (IntKind.i64.wrap (q.n+mo))).n:=(aDS (h:=h) (os:=os) (q:=aB1 q (IntKind.i64.wrap (q.n+mo))) (hA2e▸gm aa)).2.2;have h8:(aB1 q (IntKind.i64.wrap (q.n+mo))).n=(IntKind.i64.wrap (q.n+mo)):=rfl;omega)
     have ci:=df a9;refine seg 12 0 [(14,vI ((i:Int)+1))] (fc (aAG (i:Int) 1 u3_) f0) ?_;have hM:=hM.pick [0,1,2,3,4,5];replace hM:Mm nF_ w _ [bk ad #[vL p0 os.length cp0] 24,bk ae (qY_ q) 31,_,bk af (qX_ q (IntKind.i64.wrap (q.n+mo))) 31,_,_]:=hM;obtain ⟨u1,hu1⟩:∃ z,z=(vL al (((A2.take i).filter fun x=>decide (x.2<=q.n))++[ab]).length am):=⟨_,rfl⟩;rw [←hu1] at hM;have eL:(((A2.take i).filter fun x=>decide (x.2<=q.n))++[ab])=((A2.take (i+1)).filter fun x=>decide (x.2<=q.n)):=by rw [gt_ aa,List.filter_append];simp [ao]
     rw [eL,hu1] at hM;exact aAk _ (an _ (by have:=gl aa;omega) (i+1) (vL al (((A2.take i).filter fun x=>decide (x.2<=q.n))++[ab]).length am) _ (gl aa) hM rfl)
    have cg:=dt av;obtain ⟨br,ax⟩:=geb (l:=A2) (i:=(i-1)) (by omega);obtain ⟨c3,bs,-⟩:=hM.el rwT (j:=4) rfl ax;cases bt:(blt br.1 ab.1)
    ·exact absurd (aUp hvm (hA2e▸ax) (i:=i-1) (by rw [show i-1+1=i by omega];exact hA2e▸aa)) (by rw [bt];decide)
    cases ay:(decide (ab.2<0))
    rotate_left
    ·have cj:=dt ay;exact absurd (dt ay) (by have:=(aDS (h:=h) (os:=os) (q:=aB1 q (IntKind.i64.wrap (q.n+mo))) (hA2e▸gm aa)).2.1;omega)
    have cj:=df ay;have hM:=hM.q ((Fr.refl _ _).drew);refine drq [(119,vB (decide ((IntKind.i64.wrap (q.n+mo))<ab.2)))] rfl (fc (ix 36 ca2 ac (gl aa)) (fc (ldr 9 4 0 rwT hM rfl ac aa rfl) (fc (ldm 9 1 7 hM rfl rfl) (fc (rz (seq 9 ab.1 q.id) a8) (fc (tv 86 av) (fc (aDL (i:Int) 1 u3_) (fc (ix 36 ca2 bs (gl ax) (z:=((i:Int)-1)) (hz:=(by omega))) (fc (ldr 9 4 0 rwT hM rfl bs ax rfl) (fc (ix 36 ca2 ac (gl aa)) (fc (ldr 9 4 0 rwT hM rfl ac aa rfl) (fc (rz (sge 9 br.1 ab.1) (by rw [bt]<;>rfl)) (fc (ix 36 ca2 ac (gl aa)) (fc (ldr 3 4 1 rwT hM rfl ac aa rfl) (fc (tv 108 ay) (fc (ix 36 ca2 ac (gl aa)) (fc (ldr 3 4 1 rwT hM rfl ac aa rfl) (fc (ldm 3 3 8 hM rfl rfl) f0))))))))))))))))) ?_;cases ba:(decide ((IntKind.i64.wrap (q.n+mo))<ab.2))
    rotate_left
    ·have ck:=dt ba;exact absurd (dt ba) (by have h9:ab.2<=(aB1 q (IntKind.i64.wrap (q.n+mo))).n:=(aDS (h:=h) (os:=os) (q:=aB1 q (IntKind.i64.wrap (q.n+mo))) (hA2e▸gm aa)).2.2;have h8:(aB1 q (IntKind.i64.wrap (q.n+mo))).n=(IntKind.i64.wrap (q.n+mo)):=rfl;omega)
    have ck:=df ba;refine seg 12 0 [(14,vI ((i:Int)+1))] (fc (aAG (i:Int) 1 u3_) f0) ?_;have hM:=hM.pick [0,1,2,3,4,5];replace hM:Mm nF_ w _ [bk ad #[vL p0 os.length cp0] 24,bk ae (qY_ q) 31,_,bk af (qX_ q (IntKind.i64.wrap (q.n+mo))) 31,_,_]:=hM;obtain ⟨u1,hu1⟩:∃ z,z=(vL al (((A2.take i).filter fun x=>decide (x.2<=q.n))++[ab]).length am):=⟨_,rfl⟩;rw [←hu1] at hM;have eL:(((A2.take i).filter fun x=>decide (x.2<=q.n))++[ab])=((A2.take (i+1)).filter fun x=>decide (x.2<=q.n)):=by rw [gt_ aa,List.filter_append];simp [ao]
    rw [eL,hu1] at hM;exact aAk _ (an _ (by have:=gl aa;omega) (i+1) (vL al (((A2.take i).filter fun x=>decide (x.2<=q.n))++[ab]).length am) _ (gl aa) hM rfl)
   exact aAk _ (bz _ 0 (vL none 0 0) _ (Gg_ _) hM rfl)
open Go.ChangeShapes Go.WideShapes
section
variable {H:Type}{enc:TypeId×Value->H}{W:World}{sp:Nat->Bool}{held:Bool}{n:Nat}{cs:List Value}{x:DataW H×List MemPlace}
theorem aHj {α:Type}(dflt:α) (f:α->List Value) (c:Nat) {T E:TypeId}(hT:Tryz.prog.underlying T=some (.slice E)) (hc:Tryz.prog.cellsOf E=c) (hlen:∀ a,(f a).length=c) (hc0:0<c) (Q:α->Prop) (hel:∀ m cs x,DataW.trod enc Tryz.prog W 0 sp held m E cs=some x->∃ a,cs=f a /\ Q a)
  (h:DataW.trod enc Tryz.prog W 0 sp held n T cs=some x):∃ (l:List α) (p:Option Addr) (cap:Nat),cs=[.slice p l.length cap] /\ SrcP f c W p cap l /\ ∀ a∈l,Q a:=by
 rcases Deep.open_slice hT h with ⟨rfl,_⟩ | ⟨a,len,cap,m,n,D,Pl,rfl,_,hl,hm,hmm,_,hx⟩
 ·exact ⟨[],none,0,rfl,⟨Gk_ _,Gg_ _,.inl rfl,fun _=>rfl⟩,fun _ h=>(by cases h)⟩
 ·rw [hc] at hx;have hlm:len<=m:=by rw [hmm];split<;>omega
  have hall:∀ i,i<len->∃ s:α,(∀ j,j<c->W.cell? ((a.add (i*c)).add j)=(f s)[j]?) /\ Q s:=fun i hi=>by
   obtain ⟨cs',h1,h2⟩:=hx i (by omega);obtain ⟨_,_,h3⟩:=World.cells?_some h1;obtain ⟨s,rfl,hq⟩:=hel _ _ _ h2;exact ⟨s,fun j hj=>by rw [h3 j hj],hq⟩
  haveI:Inhabited α:=⟨dflt⟩
  obtain ⟨g,hg⟩:=Deep.choose_lt hall;refine ⟨(List.range len).map g,some a,cap,by simp,⟨by simpa using hl,hm,?_,fun h=>by cases h⟩,fun s hs=>?_⟩
  ·rcases Nat.eq_zero_or_pos len with h0 | h0
   ·left;rw [h0];rfl
   ·right
    have hspot:a=⟨a.block,a.off,none⟩ /\ a.block<W.heap.size:=by
     have:=(hg 0 h0).1 0 hc0;rw [Nat.zero_mul] at this;have e0:(a.add 0).add 0=a:=by simp [Addr.add]
     rw [e0] at this;obtain ⟨v0,hv0⟩:∃ v,(f (g 0))[0]?=some v:=⟨_,Gb_ (by rw [hlen];exact hc0)⟩;rw [hv0] at this;refine ⟨?_,World.block_lt_of_cell? W a this⟩
     cases a with
     | mk b o s =>
      cases s with
      | none=>rfl
      | some k =>
       unfold World.cell? at this
       split at this<;>simp at this
    refine ⟨a.block,a.off,by rw [←hspot.1],hspot.2,fun i s hs j v hv=>?_⟩;rw [Gr_] at hs
    have hi:i<len:=by
     cases h:(List.range len)[i]? with
     | none=>rw [h] at hs;cases hs
     | some x=>have:=(List.getElem?_eq_some_iff.1 h).1;simpa using this
    rw [List.getElem?_range hi] at hs;simp at hs;subst hs
    have hj:j<c:=by
     have:=(List.getElem?_eq_some_iff.1 hv).1;rw [hlen] at this;exact this
    have:=(hg i hi).1 j hj
    have e:((⟨a.block,a.off,none⟩:Addr).add (i*c)).add j=⟨a.block,a.off+i*c+j,none⟩:=by
     unfold Addr.add
     by_cases h1:i*c=0<;>by_cases h2:j=0<;>simp [h1,h2,Nat.add_assoc]
    rw [hv,hspot.1,e] at this;exact this
  ·obtain ⟨i,hi,rfl⟩:=List.mem_map.1 hs;exact (hg i (List.mem_range.1 hi)).2
set_option maxRecDepth 100000 in
theorem aCt (h:DataW.trod enc Tryz.prog W 0 sp held n 9 cs=some x):∃ s:Bys,cs=stL s /\ B63 s:=by
 obtain ⟨s,rfl,_,hs⟩:=DataW.trod_string u9_ h;obtain ⟨l,rfl⟩:=aG9 s;rw [aDA] at hs;exact ⟨l,rfl,by unfold maxLen at hs;unfold B63;omega⟩
set_option maxRecDepth 100000 in
theorem aCu (h:DataW.trod enc Tryz.prog W 0 sp held n 3 cs=some x):∃ m:Int,cs=[vI m]:=by
 obtain ⟨m,rfl,_⟩:=DataW.trod_int u3_ h;exact ⟨m,rfl⟩
set_option maxRecDepth 100000 in
theorem aPr (h:DataW.trod enc Tryz.prog W 0 sp held n 72 cs=some x):∃ t:Tag,cs=tgL t /\ (B63 t.1 /\ B63 t.2):=by
 obtain ⟨xs,m,_,_,hl,hlen,hf⟩:=DataW.trod_struct Tryz.underlying72 h;rw [show Tryz.prog.cellsOf 72=2 by kernel_rfl] at hl
 match cs,hl with
 | [c0,c1],_ =>
 obtain ⟨y0,e0⟩:∃ y,xs[0]?=some y:=⟨_,Gb_ (by rw [hlen];simp)⟩;obtain ⟨y1,e1⟩:∃ y,xs[1]?=some y:=⟨_,Gb_ (by rw [hlen];simp)⟩;have h0:DataW.trod enc Tryz.prog W 0 sp held m 9 (List.take (Tryz.prog.cellsOf 9) (List.drop 0 [c0,c1]))=some y0:=(hf 0 _ rfl).trans e0;have h1:DataW.trod enc Tryz.prog W 0 sp held m 9 (List.take (Tryz.prog.cellsOf 9) (List.drop 1 [c0,c1]))=some y1:=(hf 1 _ rfl).trans e1;rw [show Tryz.prog.cellsOf 9=1 by kernel_rfl] at h0 h1;obtain ⟨s0,g0,b0⟩:=aCt h0;obtain ⟨s1,g1,b1⟩:=aCt h1;have g0:[c0]=[vS s0]:=g0;have g1:[c1]=[vS s1]:=g1;cases g0;cases g1;exact ⟨(s0,s1),rfl,b0,b1⟩
set_option maxRecDepth 100000 in
theorem aMU (h:DataW.trod enc Tryz.prog W 0 sp held n 29 cs=some x):∃ a b:Int,cs=[vI a,vI b]:=by
 obtain ⟨xs,m,_,_,hl,hlen,hf⟩:=DataW.trod_struct u29_ h;rw [show Tryz.prog.cellsOf 29=2 by kernel_rfl] at hl
 match cs,hl with
 | [c0,c1],_ =>
 obtain ⟨y0,e0⟩:∃ y,xs[0]?=some y:=⟨_,Gb_ (by rw [hlen];simp)⟩;obtain ⟨y1,e1⟩:∃ y,xs[1]?=some y:=⟨_,Gb_ (by rw [hlen];simp)⟩;have h0:DataW.trod enc Tryz.prog W 0 sp held m 3 (List.take (Tryz.prog.cellsOf 3) (List.drop 0 [c0,c1]))=some y0:=(hf 0 _ rfl).trans e0;have h1:DataW.trod enc Tryz.prog W 0 sp held m 3 (List.take (Tryz.prog.cellsOf 3) (List.drop 1 [c0,c1]))=some y1:=(hf 1 _ rfl).trans e1;rw [show Tryz.prog.cellsOf 3=1 by kernel_rfl] at h0 h1;obtain ⟨s0,g0⟩:=aCu h0;obtain ⟨s1,g1⟩:=aCu h1;have g0:[c0]=[vI s0]:=g0;have g1:[c1]=[vI s1]:=g1;cases g0;cases g1;exact ⟨s0,s1,rfl⟩
set_option maxRecDepth 100000 in
theorem aRC (h:DataW.trod enc Tryz.prog W 0 sp held n 48 cs=some x):∃ b:ObR,cs=obL b /\ ObIn W b:=by
 obtain ⟨xs,m,_,_,hl,hlen,hf⟩:=DataW.trod_struct Tryz.underlying48 h;rw [show Tryz.prog.cellsOf 48=6 by kernel_rfl] at hl
 match cs,hl with
 | [c0,c1,c2,c3,c4,c5],_ =>
 obtain ⟨y0,e0⟩:∃ y,xs[0]?=some y:=⟨_,Gb_ (by rw [hlen];simp)⟩;obtain ⟨y1,e1⟩:∃ y,xs[1]?=some y:=⟨_,Gb_ (by rw [hlen];simp)⟩;obtain ⟨y2,e2⟩:∃ y,xs[2]?=some y:=⟨_,Gb_ (by rw [hlen];simp)⟩;obtain ⟨y3,e3⟩:∃ y,xs[3]?=some y:=⟨_,Gb_ (by rw [hlen];simp)⟩;obtain ⟨y4,e4⟩:∃ y,xs[4]?=some y:=⟨_,Gb_ (by rw [hlen];simp)⟩;have h0:DataW.trod enc Tryz.prog W 0 sp held m 9 (List.take (Tryz.prog.cellsOf 9) (List.drop 0 [c0,c1,c2,c3,c4,c5]))=some y0:=(hf 0 _ rfl).trans e0;have h1:DataW.trod enc Tryz.prog W 0 sp held m 3 (List.take (Tryz.prog.cellsOf 3) (List.drop 1 [c0,c1,c2,c3,c4,c5]))=some y1:=(hf 1 _ rfl).trans e1;have h2:DataW.trod enc Tryz.prog W 0 sp held m 29 (List.take (Tryz.prog.cellsOf 29) (List.drop 2 [c0,c1,c2,c3,c4,c5]))=some y2:=(hf 2 _ rfl).trans e2;have h3:DataW.trod enc Tryz.prog W 0 sp held m 45 (List.take (Tryz.prog.cellsOf 45) (List.drop 4 [c0,c1,c2,c3,c4,c5]))=some y3:=(hf 3 _ rfl).trans e3;have h4:DataW.trod enc Tryz.prog W 0 sp held m 46 (List.take (Tryz.prog.cellsOf 46) (List.drop 5 [c0,c1,c2,c3,c4,c5]))=some y4:=(hf 4 _ rfl).trans e4;rw [show Tryz.prog.cellsOf 9=1 by kernel_rfl] at h0;rw [show Tryz.prog.cellsOf 3=1 by kernel_rfl] at h1;rw [show Tryz.prog.cellsOf 29=2 by kernel_rfl] at h2;rw [show Tryz.prog.cellsOf 45=1 by kernel_rfl] at h3;rw [show Tryz.prog.cellsOf 46=1 by kernel_rfl] at h4;obtain ⟨s0,g0,b0⟩:=aCt h0;obtain ⟨s1,g1⟩:=aCu h1;obtain ⟨s2,s3,g2⟩:=aMU h2;obtain ⟨rs,pr,cr,g3,k3,b3⟩:=aHj [] stL 1 u45_ (by kernel_rfl) (fun _=>rfl) (by decide) B63 (fun _ _ _ h=>aCt h) h3;obtain ⟨ts,pt,ct,g4,k4,b4⟩:=aHj ([],[]) tgL 2 Tryz.underlying46 (by kernel_rfl) (fun _=>rfl) (by decide) (fun t=>B63 t.1 /\ B63 t.2) (fun _ _ _ h=>aPr h) h4;have g0:[c0]=[vS s0]:=g0;have g1:[c1]=[vI s1]:=g1;have g2:[c2,c3]=[vI s2,vI s3]:=g2;have g3:[c4]=[vL pr rs.length cr]:=g3;have g4:[c5]=[vL pt ts.length ct]:=g4;cases g0;cases g1;cases g2;cases g3;cases g4;exact ⟨⟨⟨s0,s1,s2,s3,rs,ts⟩,pr,cr,pt,ct⟩,rfl,k3,k4,b0,b3,b4⟩
set_option maxRecDepth 100000 in
theorem aPt (h:DataW.trod enc Tryz.prog W 0 sp held n 24 cs=some x):∃ (os:List ObR) (v:Value),cs=[v] /\ aDT W v os:=by
 obtain ⟨xs,m,_,_,hl,hlen,hf⟩:=DataW.trod_struct Tryz.underlying24 h;rw [show Tryz.prog.cellsOf 24=1 by kernel_rfl] at hl
 match cs,hl with
 | [c0],_ =>
 obtain ⟨y0,e0⟩:∃ y,xs[0]?=some y:=⟨_,Gb_ (by rw [hlen];simp)⟩;have h0:DataW.trod enc Tryz.prog W 0 sp held m 22 (List.take (Tryz.prog.cellsOf 22) (List.drop 0 [c0]))=some y0:=(hf 0 _ rfl).trans e0;rw [show Tryz.prog.cellsOf 22=1 by kernel_rfl] at h0;obtain ⟨os,p,cap,g0,k0,b0⟩:=aHj ⟨⟨[],0,0,0,[],[]⟩,none,0,none,0⟩ obL 6 Tryz.underlying22 (by kernel_rfl) (fun _=>rfl) (by decide) (ObIn W) (fun _ _ _ h=>aRC h) h0;have g0:[c0]=[vL p os.length cap]:=g0;cases g0;exact ⟨os,_,rfl,k0.src,b0⟩
end
end Go.Proofs.YtngjlnhojicjeaaGreatDoor
namespace Go.Pl
open Go.RowKit Go.ChangeShapes Go.WideShapes
theorem aEj {H:Type}{enc:TypeId×Value->H}{P:Program}(hl:laidOutB P=true) {W W':World}(hb:Below W.heap.size W W') :
  ∀ (ts:List TypeId) (vs:List Value) (ds:List (DataW H)) (ps:List MemPlace),(∀ t∈ts,P.readableRec t=true /\ t<P.types.size)->DataW.TrodAll enc P W 0 (fun _=>true) true ts vs ds ps->(∀ x∈ps,x.block<W.heap.size) ->
   DataW.TrodAll enc P W' 0 (fun b=>decide (b<W.heap.size)) true ts vs ds ps
 | [],[],[],ps,_,h,_=>h
 | t::ts,v::vs,d::ds,ps,hr,h,hlt=>by
  obtain ⟨p,q,h1,h2,rfl⟩:=h
  exact ⟨p,q,Below.trod hl (hr t (by simp)).1 (hr t (by simp)).2 h1 hb (fun x hx=>hlt x (by simp [hx])),
   aEj hl hb ts vs ds q (fun t ht=>hr t (by simp [ht])) h2 (fun x hx=>hlt x (by simp [hx])),rfl⟩
 | [],[],_::_,_,_,h,_=>h.elim
 | [],_::_,_,_,_,h,_=>by cases h
 | _::_,[],_,_,_,h,_=>by cases h
 | _::_,_::_,[],_,_,h,_=>h.elim
theorem aP5 {H:Type}{enc:TypeId×Value->H}{P:Program}(hl:laidOutB P=true) {fn:Func}{s:ChangeSpec}{apart fresh handsOn:Bool}{W W':World}{args:Array Value}{ds gs:List (DataW H)}{before:List MemPlace}
  (hread:∀ t∈fn.params.toList,P.readableRec t=true /\ t<P.types.size) {tb:TypeId}(hres:fn.resultTypes=#[tb]) (htb:P.underlying tb=some .bool) (hvars:s.vars=[])
  (hs:s.fn H (ds++gs)={ results:=[.lit (.bool true)],args:=ds }) (hW:DataW.Whole enc P fn.params.toList s.vars apart W args.toList ds gs before) (hb:Below W.heap.size W W') :
  s.post enc P fn apart fresh handsOn false W args (.bool true) W':=by
 have hlt:=hW.lt;have hW0:=hW;obtain ⟨p,q,hA,hV,hpq,_,_⟩:=hW;refine ⟨ds,gs,before,[],p,[],hW0,?_,?_,?_,hb.frame _,fun h=>by cases h⟩
 ·rw [hs,hres];exact trodAll_mk1 (shut_bool htb _)
 ·rw [hs];exact aEj hl hb _ _ _ _ hread hA (fun x hx=>hlt x (by rw [hpq];simp [hx]))
 ·rw [hs,hvars];rfl
end Go.Pl
namespace Go.Proofs.YtngjlnhojicjeaaGreatDoor
open Go.RowKit Go.Pl Go.ChangeShapes Go.WideShapes
theorem aWP:laidOutB Tryz.prog=true:=by kernel_rfl
theorem aWO:ownKnob Tryz.prog.godebug=none:=by kernel_rfl
set_option maxRecDepth 100000 in
theorem aND {W:World}{name:String}{g t:Nat}{s:String}{d:DataW Unit}{ms:Array _}(hg:Tryz.prog.globalNamed name=some g) (hty:(Tryz.prog.globals[g]?).map (·.type)=some t) (ht:Tryz.prog.underlying t=some (.interface ms)) (h:Lib.VarReads Tryz.prog W name (.iface s d)):aVE W g:=by
 obtain ⟨g',t',cs,fuel,p,hg',ht',hvar,hd⟩:=h;obtain rfl:=Gi_ (hg.symm.trans hg');obtain rfl:=Gi_ (hty.symm.trans ht')
 cases fuel with
 | zero=>cases hd
 | succ fuel =>
  unfold DataW.trod at hd;rw [ht] at hd;unfold World.var? at hvar;rw [hg] at hvar;simp only [Option.bind_some] at hvar
  split at hvar
  ·rename_i cs' T' fz hb;obtain rfl:=Gi_ hvar
   have key:∃ ev,cs'.toList=[ev] /\ (ev = .nilIface∨∃ te pe,ev = .iface te pe):=by
    split at hd<;>first | (cases hd;done) | skip
    all_goals (rename_i h1 h2;first | (cases h1;done) | (cases h2;done) | (exact ⟨_,h2,.inl rfl⟩) | (exact ⟨_,h2,.inr ⟨_,_,rfl⟩⟩))
   obtain ⟨ev,h1,h2⟩:=key;refine ⟨ev,?_,h2⟩;have hz:cs'[0]?=some ev:=by rw [←Array.getElem?_toList,h1];rfl
   unfold World.cell?;simp [hb,hz]
  ·cases hvar
def aL2:List (String×DataW Unit):=[("math/bits.deBruijn32tab",Rows.laid_math_bits_deBruijn32tab),("math/bits.deBruijn64tab",Rows.laid_math_bits_deBruijn64tab),("internal/strconv.uint64pow10",Rows.laid_internal_strconv_uint64pow10),("strconv.ErrRange",Rows.laid_strconv_ErrRange),("strconv.ErrSyntax",Rows.laid_strconv_ErrSyntax),("unicode.White_Space",Rows.laid_unicode_White_Space),("strings.asciiSpace",Rows.laid_strings_asciiSpace)]
set_option maxRecDepth 100000 in
theorem aPQ (os:Os) (args:Array Value):laidMetH Tryz.prog aL2 ((World.doorLaid Tryz.prog 86 os).forCall (fun _ _=>0) ⟨#[],args,[]⟩).memory :=
 laidMetH_of_parts3 (fuel:=8) (laidMet_of_run' 8 (by kernel_rfl) (by kernel_rfl)) (by kernel_rfl) (by kernel_rfl)
theorem aQp {W:World}{name:String}{k:IntKind}{zs:List Int}{g:Nat}{t e:TypeId}{n:Nat}(hg:Tryz.prog.globalNamed name=some g) (hty:(Tryz.prog.globals[g]?).map (·.type)=some t) (ht:Tryz.prog.underlying t=some (.array n e)) (he:Tryz.prog.underlying e=some (.int k)) (hce:Tryz.prog.cellsOf e=1) (hct:Tryz.prog.cellsOf t=n) (h:Lib.VarReads Tryz.prog W name (Lib.tabData k zs)):Lib.TabIs Tryz.prog W name k zs:=by
 obtain ⟨g',t',cs,fuel,p,hg',ht',hvar,hd⟩:=h;obtain rfl:=Gi_ (hg.symm.trans hg');obtain rfl:=Gi_ (hty.symm.trans ht');unfold Lib.TabIs;rw [hvar,←Lib.cells_of_tab ht he hce hct hd]
set_option maxRecDepth 100000 in
theorem aUP {W:World}(h:laidMetH Tryz.prog aL2 W):Tb W:=by
 rw [MakeChecks.laidMetH_plain _ _ _ (by kernel_rfl)] at h
 exact ⟨aQp (g:=6) (t:=412) (e:=164) (n:=20) (by kernel_rfl) (by kernel_rfl) (by kernel_rfl) (by kernel_rfl) (by kernel_rfl) (by kernel_rfl) (Lib.laidMet.reads h (d:=Rows.laid_internal_strconv_uint64pow10) (.tail _ (.tail _ (.head _)))),
  aQp (g:=5) (t:=137) (e:=5) (n:=256) (by kernel_rfl) (by kernel_rfl) (by kernel_rfl) (by kernel_rfl) (by kernel_rfl) (by kernel_rfl) (Lib.laidMet.reads h (d:=Rows.laid_strings_asciiSpace) (.tail _ (.tail _ (.tail _ (.tail _ (.tail _ (.tail _ (.head _))))))))⟩
set_option maxRecDepth 100000 in
theorem aUO {W:World}(h:laidMetH Tryz.prog aL2 W):Te W:=by
 have hT:=aUP h;rw [MakeChecks.laidMetH_plain _ _ _ (by kernel_rfl)] at h
 exact ⟨hT,aND (g:=3) (t:=133) (by kernel_rfl) (by kernel_rfl) Tryz.underlying133 (Lib.laidMet.reads h (n := "strconv.ErrSyntax") (d:=Rows.laid_strconv_ErrSyntax) (.tail _ (.tail _ (.tail _ (.tail _ (.head _)))))),
  aND (g:=4) (t:=133) (by kernel_rfl) (by kernel_rfl) Tryz.underlying133 (Lib.laidMet.reads h (n := "strconv.ErrRange") (d:=Rows.laid_strconv_ErrRange) (.tail _ (.tail _ (.tail _ (.head _)))))⟩
section
variable {H:Type}{enc:TypeId×Value->H}{W:World}{sp:Nat->Bool}{held:Bool}
theorem aMT {n:Nat}{cs:List Value}{x:DataW H×List MemPlace}{α:Type}(dflt:α) (f:α->List Value) (c:Nat) {T E:TypeId}(hT:Tryz.prog.underlying T=some (.slice E)) (hc:Tryz.prog.cellsOf E=c) (hlen:∀ a,(f a).length=c) (hc0:0<c) (Q:Nat->α->Prop) (hel:∀ m,m<n->∀ cs x,DataW.trod enc Tryz.prog W 0 sp held m E cs=some x->∃ a,cs=f a /\ Q m a)
  (h:DataW.trod enc Tryz.prog W 0 sp held n T cs=some x):∃ (l:List α) (p:Option Addr) (cap m:Nat),m<=n /\ cs=[.slice p l.length cap] /\ SrcP f c W p cap l /\ ∀ a∈l,m<n /\ Q m a:=by
 rcases DataW.trod_slice hT h with ⟨rfl,_⟩ | ⟨a,len,cap,elems,rest,m,hfu,rfl,_,_,hl,hm,hle9,hel9,_,_⟩
 ·exact ⟨[],none,0,0,Gg_ _,rfl,⟨Gk_ _,Gg_ _,.inl rfl,fun _=>rfl⟩,fun _ h=>(by cases h)⟩
 ·rw [hc] at hel9
  have hall:∀ i,i<len->∃ s:α,(∀ j,j<c->W.cell? ((a.add (i*c)).add j)=(f s)[j]?) /\ Q m s:=fun i hi=>by
   have key:=hel9 i hi;rw [Gb_ (by omega)] at key;obtain ⟨cs',h1,h2⟩:=Option.bind_eq_some_iff.1 key;obtain ⟨_,_,h3⟩:=World.cells?_some h1;obtain ⟨s,rfl,hq⟩:=hel m (by omega) _ _ h2;exact ⟨s,fun j hj=>by rw [h3 j hj],hq⟩
  haveI:Inhabited α:=⟨dflt⟩
  obtain ⟨g,hg⟩:=Deep.choose_lt hall;refine ⟨(List.range len).map g,some a,cap,m,by omega,by simp,⟨by simpa using hl,hm,?_,fun h=>by cases h⟩,fun s hs=>?_⟩
  ·rcases Nat.eq_zero_or_pos len with h0 | h0
   ·left;rw [h0];rfl
   ·right
    have hspot:a=⟨a.block,a.off,none⟩ /\ a.block<W.heap.size:=by
     have:=(hg 0 h0).1 0 hc0;rw [Nat.zero_mul] at this;have e0:(a.add 0).add 0=a:=by simp [Addr.add]
     rw [e0] at this;obtain ⟨v0,hv0⟩:∃ v,(f (g 0))[0]?=some v:=⟨_,Gb_ (by rw [hlen];exact hc0)⟩;rw [hv0] at this;refine ⟨?_,World.block_lt_of_cell? W a this⟩
     cases a with
     | mk b o s =>
      cases s with
      | none=>rfl
      | some k =>
       unfold World.cell? at this
       split at this<;>simp at this
    refine ⟨a.block,a.off,by rw [←hspot.1],hspot.2,fun i s hs j v hv=>?_⟩;rw [Gr_] at hs
    have hi:i<len:=by
     cases h:(List.range len)[i]? with
     | none=>rw [h] at hs;cases hs
     | some x=>have:=(List.getElem?_eq_some_iff.1 h).1;simpa using this
    rw [List.getElem?_range hi] at hs;simp at hs;subst hs
    have hj:j<c:=by
     have:=(List.getElem?_eq_some_iff.1 hv).1;rw [hlen] at this;exact this
    have:=(hg i hi).1 j hj
    have e:((⟨a.block,a.off,none⟩:Addr).add (i*c)).add j=⟨a.block,a.off+i*c+j,none⟩:=by
     unfold Addr.add
     by_cases h1:i*c=0<;>by_cases h2:j=0<;>simp [h1,h2,Nat.add_assoc]
    rw [hv,hspot.1,e] at this;exact this
  ·obtain ⟨i,hi,rfl⟩:=List.mem_map.1 hs;exact ⟨by omega,(hg i (List.mem_range.1 hi)).2⟩
theorem CdB.up {w:World}{B:Nat}:∀ {h k:Nat}{c:CdR},h<=k->CdB w B h c->CdB w B k c
 | 0,_,_,_,hc=>hc.elim
 | h+1,0,_,hk,_=>absurd hk (by omega)
 | h+1,k+1,_,hk,⟨a,b,s,ks⟩=>⟨a,b,s,fun x hx=>(ks x hx).up (by omega)⟩
set_option maxRecDepth 100000 in
theorem aMV:∀ {n:Nat}{cs:List Value}{x:DataW H×List MemPlace},DataW.trod enc Tryz.prog W 0 sp held n 27 cs=some x->∃ c:CdR,cs=cdL c /\ CdB W W.heap.size n c:=by
 intro n
 induction n using Nat.strongRecOn with
 | _ n ih =>
 intro cs x h;obtain ⟨xs,m,hnm,_,hl,hlen,hf⟩:=DataW.trod_struct Tryz.underlying27 h;rw [show Tryz.prog.cellsOf 27=5 by kernel_rfl] at hl
 match cs,hl with
 | [c0,c1,c2,c3,c4],_ =>
 obtain ⟨y0,e0⟩:∃ y,xs[0]?=some y:=⟨_,Gb_ (by rw [hlen];simp)⟩;obtain ⟨y1,e1⟩:∃ y,xs[1]?=some y:=⟨_,Gb_ (by rw [hlen];simp)⟩;obtain ⟨y2,e2⟩:∃ y,xs[2]?=some y:=⟨_,Gb_ (by rw [hlen];simp)⟩;obtain ⟨y3,e3⟩:∃ y,xs[3]?=some y:=⟨_,Gb_ (by rw [hlen];simp)⟩;obtain ⟨y4,e4⟩:∃ y,xs[4]?=some y:=⟨_,Gb_ (by rw [hlen];simp)⟩;have h0:DataW.trod enc Tryz.prog W 0 sp held m 3 (List.take (Tryz.prog.cellsOf 3) (List.drop 0 [c0,c1,c2,c3,c4]))=some y0:=(hf 0 _ rfl).trans e0;have h1:DataW.trod enc Tryz.prog W 0 sp held m 9 (List.take (Tryz.prog.cellsOf 9) (List.drop 1 [c0,c1,c2,c3,c4]))=some y1:=(hf 1 _ rfl).trans e1;have h2:DataW.trod enc Tryz.prog W 0 sp held m 9 (List.take (Tryz.prog.cellsOf 9) (List.drop 2 [c0,c1,c2,c3,c4]))=some y2:=(hf 2 _ rfl).trans e2;have h3:DataW.trod enc Tryz.prog W 0 sp held m 3 (List.take (Tryz.prog.cellsOf 3) (List.drop 3 [c0,c1,c2,c3,c4]))=some y3:=(hf 3 _ rfl).trans e3;have h4:DataW.trod enc Tryz.prog W 0 sp held m 25 (List.take (Tryz.prog.cellsOf 25) (List.drop 4 [c0,c1,c2,c3,c4]))=some y4:=(hf 4 _ rfl).trans e4;rw [show Tryz.prog.cellsOf 3=1 by kernel_rfl] at h0 h3;rw [show Tryz.prog.cellsOf 9=1 by kernel_rfl] at h1 h2;rw [show Tryz.prog.cellsOf 25=1 by kernel_rfl] at h4;obtain ⟨s0,g0⟩:=aCu h0;obtain ⟨s1,g1,b1⟩:=aCt h1;obtain ⟨s2,g2,b2⟩:=aCt h2;obtain ⟨s3,g3⟩:=aCu h3;obtain ⟨ks,p,cap,k,hk,g4,k4,b4⟩:=aMT (.mk 0 [] [] 0 none 0 []) cdL 5 Tryz.underlying25 (by kernel_rfl) (fun _=>rfl) (by decide) (fun m c=>CdB W W.heap.size m c) (fun j hj _ _ h=>ih j (by omega) h) h4;have g0:[c0]=[vI s0]:=g0;have g1:[c1]=[vS s1]:=g1;have g2:[c2]=[vS s2]:=g2;have g3:[c3]=[vI s3]:=g3;have g4:[c4]=[vL p ks.length cap]:=g4;cases g0;cases g1;cases g2;cases g3;cases g4;refine ⟨.mk s0 s1 s2 s3 p cap ks,rfl,?_⟩;rw [hnm];exact ⟨b1,b2,k4.b (Fr.refl _ _),fun a ha=>(b4 a ha).2.up (by omega)⟩
set_option maxRecDepth 100000 in
theorem aPs {n:Nat}{cs:List Value}{x:DataW H×List MemPlace}(h:DataW.trod enc Tryz.prog W 0 sp held n 31 cs=some x):∃ (q:QdR) (m:Nat),cs=qdL q /\ QdIn W W.heap.size m q:=by
 obtain ⟨xs,m,hnm,_,hl,hlen,hf⟩:=DataW.trod_struct Tryz.underlying31 h;rw [show Tryz.prog.cellsOf 31=14 by kernel_rfl] at hl
 match cs,hl with
 | [c0,c1,c2,c3,c4,c5,c6,c7,c8,c9,c10,c11,c12,c13],_ =>
 obtain ⟨y0,e0⟩:∃ y,xs[0]?=some y:=⟨_,Gb_ (by rw [hlen];simp)⟩;obtain ⟨y1,e1⟩:∃ y,xs[1]?=some y:=⟨_,Gb_ (by rw [hlen];simp)⟩;obtain ⟨y2,e2⟩:∃ y,xs[2]?=some y:=⟨_,Gb_ (by rw [hlen];simp)⟩;obtain ⟨y3,e3⟩:∃ y,xs[3]?=some y:=⟨_,Gb_ (by rw [hlen];simp)⟩;obtain ⟨y4,e4⟩:∃ y,xs[4]?=some y:=⟨_,Gb_ (by rw [hlen];simp)⟩;obtain ⟨y5,e5⟩:∃ y,xs[5]?=some y:=⟨_,Gb_ (by rw [hlen];simp)⟩;obtain ⟨y6,e6⟩:∃ y,xs[6]?=some y:=⟨_,Gb_ (by rw [hlen];simp)⟩;obtain ⟨y7,e7⟩:∃ y,xs[7]?=some y:=⟨_,Gb_ (by rw [hlen];simp)⟩;obtain ⟨y8,e8⟩:∃ y,xs[8]?=some y:=⟨_,Gb_ (by rw [hlen];simp)⟩;have h0:DataW.trod enc Tryz.prog W 0 sp held m 3 (List.take (Tryz.prog.cellsOf 3) (List.drop 0 [c0,c1,c2,c3,c4,c5,c6,c7,c8,c9,c10,c11,c12,c13]))=some y0:=(hf 0 _ rfl).trans e0;have h1:DataW.trod enc Tryz.prog W 0 sp held m 3 (List.take (Tryz.prog.cellsOf 3) (List.drop 1 [c0,c1,c2,c3,c4,c5,c6,c7,c8,c9,c10,c11,c12,c13]))=some y1:=(hf 1 _ rfl).trans e1;have h2:DataW.trod enc Tryz.prog W 0 sp held m 27 (List.take (Tryz.prog.cellsOf 27) (List.drop 2 [c0,c1,c2,c3,c4,c5,c6,c7,c8,c9,c10,c11,c12,c13]))=some y2:=(hf 2 _ rfl).trans e2;have h3:DataW.trod enc Tryz.prog W 0 sp held m 9 (List.take (Tryz.prog.cellsOf 9) (List.drop 7 [c0,c1,c2,c3,c4,c5,c6,c7,c8,c9,c10,c11,c12,c13]))=some y3:=(hf 3 _ rfl).trans e3;have h4:DataW.trod enc Tryz.prog W 0 sp held m 3 (List.take (Tryz.prog.cellsOf 3) (List.drop 8 [c0,c1,c2,c3,c4,c5,c6,c7,c8,c9,c10,c11,c12,c13]))=some y4:=(hf 4 _ rfl).trans e4;have h5:DataW.trod enc Tryz.prog W 0 sp held m 29 (List.take (Tryz.prog.cellsOf 29) (List.drop 9 [c0,c1,c2,c3,c4,c5,c6,c7,c8,c9,c10,c11,c12,c13]))=some y5:=(hf 5 _ rfl).trans e5;have h6:DataW.trod enc Tryz.prog W 0 sp held m 9 (List.take (Tryz.prog.cellsOf 9) (List.drop 11 [c0,c1,c2,c3,c4,c5,c6,c7,c8,c9,c10,c11,c12,c13]))=some y6:=(hf 6 _ rfl).trans e6;have h7:DataW.trod enc Tryz.prog W 0 sp held m 9 (List.take (Tryz.prog.cellsOf 9) (List.drop 12 [c0,c1,c2,c3,c4,c5,c6,c7,c8,c9,c10,c11,c12,c13]))=some y7:=(hf 7 _ rfl).trans e7;have h8:DataW.trod enc Tryz.prog W 0 sp held m 3 (List.take (Tryz.prog.cellsOf 3) (List.drop 13 [c0,c1,c2,c3,c4,c5,c6,c7,c8,c9,c10,c11,c12,c13]))=some y8:=(hf 8 _ rfl).trans e8;rw [show Tryz.prog.cellsOf 3=1 by kernel_rfl] at h0 h1 h4 h8;rw [show Tryz.prog.cellsOf 9=1 by kernel_rfl] at h3 h6 h7;rw [show Tryz.prog.cellsOf 27=5 by kernel_rfl] at h2;rw [show Tryz.prog.cellsOf 29=2 by kernel_rfl] at h5;obtain ⟨s0,g0⟩:=aCu h0;obtain ⟨s1,g1⟩:=aCu h1;obtain ⟨c,g2,b2⟩:=aMV h2;obtain ⟨s3,g3,b3⟩:=aCt h3;obtain ⟨s4,g4⟩:=aCu h4;obtain ⟨s5,t5,g5⟩:=aMU h5;obtain ⟨s6,g6,b6⟩:=aCt h6;obtain ⟨s7,g7,b7⟩:=aCt h7;obtain ⟨s8,g8⟩:=aCu h8;have g0:[c0]=[vI s0]:=g0;have g1:[c1]=[vI s1]:=g1;have g2:[c2,c3,c4,c5,c6]=[vI c.op,vS c.key,vS c.val,vI c.n,vL c.p c.kids.length c.cap]:=g2;have g3:[c7]=[vS s3]:=g3;have g4:[c8]=[vI s4]:=g4;have g5:[c9,c10]=[vI s5,vI t5]:=g5;have g6:[c11]=[vS s6]:=g6;have g7:[c12]=[vS s7]:=g7;have g8:[c13]=[vI s8]:=g8;cases g0;cases g1;cases g2;cases g3;cases g4;cases g5;cases g6;cases g7;cases g8;exact ⟨⟨s0,s1,c,s3,s4,s5,t5,s6,s7,s8⟩,m,rfl,b2,b3,b6,b7⟩
end
open Go
theorem aBF {a b:Bool}(h:a=true) (k:b=true):(a&&b)=true:=by rw [h,k];rfl
theorem jk0:(Rows.evalAlongRow.wf (OpenSpec.ofChange Rows.evalAlongSpec))=true:=by kernel_rfl
theorem jk1:(laidOutB (Tryz.pinned.checked.prog))=true:=by kernel_rfl
theorem jk2:(mapsRowed (Tryz.pinned.checked.prog))=true:=by kernel_rfl
theorem jk3:(Tryz.f6.params.all ((Tryz.pinned.checked.prog).readableRec ·))=true:=by kernel_rfl
theorem jk4:(namedTie (Tryz.pinned.checked.prog) Rows.evalAlongRow.named Rows.evalAlongSpec.vars)=true:=by kernel_rfl
theorem jk5:((Rows.evalAlongRow.stops==[]))=true:=by kernel_rfl
theorem jk6:(((Tryz.pinned.checked.prog).stops==[]))=true:=by kernel_rfl
theorem jk7:((Rows.evalAlongRow.knobs==[]))=true:=by kernel_rfl
theorem jk8:(((Tryz.pinned.checked.prog).stopKnobs==[]))=true:=by kernel_rfl
theorem jk9:((Rows.evalAlongRow.inPlace==(Tryz.pinned.checked.prog).inPlace 6))=true:=by kernel_rfl
theorem aXl:((Rows.evalAlongRow.unfollowed==(Tryz.pinned.checked.prog).unfollowed 6))=true:=by kernel_rfl
theorem aXk:((Rows.evalAlongRow.recurses==(Tryz.pinned.checked.prog).recurses 6))=true:=by kernel_rfl
theorem aXj:((Rows.evalAlongRow.named==(Tryz.pinned.checked.prog).varsNamed 6))=true:=by kernel_rfl
theorem aXi:((Rows.evalAlongRow.maps==(Tryz.f6.params.toList++Rows.evalAlongSpec.plain.varTypes (Tryz.pinned.checked.prog)).any ((Tryz.pinned.checked.prog).mapsRec ·)))=true:=by kernel_rfl
theorem aXh:((Rows.evalAlongRow.ifaces==(Tryz.f6.params.toList++Rows.evalAlongSpec.plain.varTypes (Tryz.pinned.checked.prog)).any ((Tryz.pinned.checked.prog).ifacesRec ·)))=true:=by kernel_rfl
theorem aXg:((Rows.evalAlongRow.mapsOut==(Tryz.pinned.checked.prog).mapsAmong Tryz.f6.resultTypes.toList))=true:=by kernel_rfl
theorem aXf:((Rows.evalAlongRow.loops==(Tryz.f6.params.toList++Rows.evalAlongSpec.plain.varTypes (Tryz.pinned.checked.prog)).any ((Tryz.pinned.checked.prog).loopsFrom ·)))=true:=by kernel_rfl
theorem aXe:((Rows.evalAlongRow.wideKeys==(Tryz.f6.params.toList++Rows.evalAlongSpec.plain.varTypes (Tryz.pinned.checked.prog)++Tryz.f6.resultTypes.toList).any ((Tryz.pinned.checked.prog).wideKeysFrom ·)))=true:=by kernel_rfl
theorem aXd:(Rows.evalAlongSpec.vars.all ((Tryz.pinned.checked.prog).varReadable ·))=true:=by kernel_rfl
theorem aXc:(Tryz.f6.resultTypes.all (fun t=>(Tryz.pinned.checked.prog).readableRec t&&decide (t<(Tryz.pinned.checked.prog).types.size)))=true:=by kernel_rfl
theorem aXb:((Rows.evalAlongRow.ifacesOut==Tryz.f6.resultTypes.toList.any ((Tryz.pinned.checked.prog).ifacesRec ·)))=true:=by kernel_rfl
theorem aXa:((Rows.evalAlongRow.loopsOut==Tryz.f6.resultTypes.toList.any ((Tryz.pinned.checked.prog).loopsFrom ·)))=true:=by kernel_rfl
theorem aWZ:((Rows.evalAlongRow.plainKeys==(Tryz.pinned.checked.prog).plainKeys))=true:=by kernel_rfl
theorem aWY:(Rows.evalAlongRow.shortTexts.isNone)=true:=by kernel_rfl
theorem aWX:((Tryz.pinned.checked.prog).stopsHeard)=true:=by kernel_rfl
theorem aWW:((Tryz.pinned.checked.prog).mayEnter)=true:=by kernel_rfl
theorem aWV:((Rows.evalAlongRow.lifted==(Tryz.pinned.checked.prog).liftsFinal))=true:=by kernel_rfl
theorem aWU:(((Tryz.pinned.checked.prog).make==some Rows.evalAlongRow.make))=true:=by kernel_rfl
theorem aWT:((Rows.evalAlongRow.kinds==(if Rows.evalAlongRow.domain.isEmpty then [] else Tryz.f6.params.toList.map fun t=>match (Tryz.pinned.checked.prog).underlying t with | some (.int k)=>some k | _=>none)))=true:=by kernel_rfl
theorem aWS:((Rows.evalAlongRow.pinned==Rows.evalAlongRow.pinnedBy))=true:=by kernel_rfl
theorem aWR:((Rows.evalAlongRow.veiled==(Tryz.f6.params.toList++Rows.evalAlongSpec.plain.varTypes (Tryz.pinned.checked.prog)++Tryz.f6.resultTypes.toList).any ((Tryz.pinned.checked.prog).veiledRec ·)))=true:=by kernel_rfl
theorem aWQ:(Rows.evalAlongRow.veiledFits (Tryz.pinned.checked.prog) Tryz.f6.params.toList (Tryz.f6.params.toList++Rows.evalAlongSpec.plain.varTypes (Tryz.pinned.checked.prog)++Tryz.f6.resultTypes.toList))=true:=by kernel_rfl
theorem aNv (P:Program) (f:FuncId) (fn:Func) (s:ChangeSpec) (c:OpenClaim) (h0:(c.wf (OpenSpec.ofChange s))=true) (h1:(laidOutB P)=true) (h2:(mapsRowed P)=true) (h3:(fn.params.all (P.readableRec ·))=true) (h4:(namedTie P c.named s.vars)=true) (h5:((c.stops==[]))=true) (h6:((P.stops==[]))=true) (h7:((c.knobs==[]))=true) (h8:((P.stopKnobs==[]))=true) (h9:((c.inPlace==P.inPlace f))=true) (h10:((c.unfollowed==P.unfollowed f))=true) (h11:((c.recurses==P.recurses f))=true) (h12:((c.named==P.varsNamed f))=true) (h13:((c.maps==(fn.params.toList++s.plain.varTypes P).any (P.mapsRec ·)))=true) (h14:((c.ifaces==(fn.params.toList++s.plain.varTypes P).any (P.ifacesRec ·)))=true) (h15:((c.mapsOut==P.mapsAmong fn.resultTypes.toList))=true) (h16:((c.loops==(fn.params.toList++s.plain.varTypes P).any (P.loopsFrom ·)))=true) (h17:((c.wideKeys==(fn.params.toList++s.plain.varTypes P++fn.resultTypes.toList).any (P.wideKeysFrom ·)))=true) (h18:(s.vars.all (P.varReadable ·))=true) (h19:(fn.resultTypes.all (fun t=>P.readableRec t&&decide (t<P.types.size)))=true) (h20:((c.ifacesOut==fn.resultTypes.toList.any (P.ifacesRec ·)))=true) (h21:((c.loopsOut==fn.resultTypes.toList.any (P.loopsFrom ·)))=true) (h22:((c.plainKeys==P.plainKeys))=true) (h23:(c.shortTexts.isNone)=true) (h24:(P.stopsHeard)=true) (h25:(P.mayEnter)=true) (h26:((c.lifted==P.liftsFinal))=true) (h27:((P.make==some c.make))=true) (h28:((c.kinds==(if c.domain.isEmpty then [] else fn.params.toList.map fun t=>match P.underlying t with | some (.int k)=>some k | _=>none)))=true) (h29:((c.pinned==c.pinnedBy))=true) (h30:((c.veiled==(fn.params.toList++s.plain.varTypes P++fn.resultTypes.toList).any (P.veiledRec ·)))=true) (h31:(c.veiledFits P fn.params.toList (fn.params.toList++s.plain.varTypes P++fn.resultTypes.toList))=true):joinedFacts P f fn s c=true:=by
 unfold joinedFacts;exact (aBF (aBF (aBF (aBF (aBF (aBF (aBF (aBF (aBF (aBF (aBF (aBF (aBF (aBF (aBF (aBF (aBF (aBF (aBF (aBF (aBF (aBF (aBF (aBF (aBF (aBF (aBF (aBF (aBF (aBF (aBF h0 h1) h2) h3) h4) h5) h6) h7) h8) h9) h10) h11) h12) h13) h14) h15) h16) h17) h18) h19) h20) h21) h22) h23) h24) h25) h26) h27) h28) h29) h30) h31)
theorem aFb:joinedFacts Tryz.pinned.checked.prog 6 Tryz.f6 Rows.evalAlongSpec Rows.evalAlongRow=true :=
 aNv (Tryz.pinned.checked.prog) 6 Tryz.f6 Rows.evalAlongSpec Rows.evalAlongRow jk0 jk1 jk2 jk3 jk4 jk5 jk6 jk7 jk8 jk9 aXl aXk aXj aXi aXh aXg aXf aXe aXd aXc aXb aXa aWZ aWY aWX aWW aWV aWU aWT aWS aWR aWQ
theorem aFS:Tryz.pinned.checked.prog.funcNamed Rows.evalAlongRow.func=some 6:=by kernel_rfl
end Go.Proofs.YtngjlnhojicjeaaGreatDoor
