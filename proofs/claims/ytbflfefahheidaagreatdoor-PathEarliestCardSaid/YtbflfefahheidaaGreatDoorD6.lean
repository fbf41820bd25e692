/- Part 6 of the proof. -/
import Derived.Test.YtbflfefahheidaaGreatDoorD5
import Derived.Lib.AtoiTie
import Derived.LaidMore
import Derived.Deep.Slices
import Derived.OpenShut
import Derived.Test.YtbflfefahheidaaGreatDoorTie
import Derived.Lib.LaidU8
import Derived.MakeChecks
import Derived.ProofKit
set_option linter.unusedVariables false
set_option linter.unusedSimpArgs false
namespace Go.Proofs.YtbflfefahheidaaGreatDoor
open Go.RowKit Go.Pl
def aCo (os:List ObR) (id:Bys):ObR:=(os.find? fun z=>z.o.id==id).getD ⟨⟨[],0,0,0,[],[]⟩,none,0,none,0⟩
theorem aGh {os:List ObR}(hv:aAc (aAa os)=true) {z:ObR}(hz:z∈os) {id:Bys}(h:z.o.id=id):aCo os id=z:=by
  have hp:os.Pairwise fun x y=>blt x.o.id y.o.id=true:=List.pairwise_map.1 (aAP hv)
  unfold aCo
  cases hf:os.find? (fun z=>z.o.id==id) with
  | none=>exact absurd (List.find?_eq_none.1 hf z hz) (by simp [h])
  | some y =>
    have h1:y.o.id=id:=by have:=List.find?_some hf;simpa using this
    obtain ⟨i,hi,rfl⟩:=List.mem_iff_getElem.1 (List.mem_of_find?_eq_some hf)
    obtain ⟨j,hj,rfl⟩:=List.mem_iff_getElem.1 hz
    rcases Nat.lt_trichotomy i j with q | q | q
    · have:=List.pairwise_iff_getElem.1 hp i j hi hj q
      rw [h1,h,aBW] at this;cases this
    · subst q;rfl
    · have:=List.pairwise_iff_getElem.1 hp j i hj hi q
      rw [h1,h,aBW] at this;cases this
theorem aSQ {os:List ObR}(hv:aAc (aAa os)=true) {id:Bys}(h:¬ aAm (aAa os) id<0):aCo os id∈os∧(aCo os id).o.id=id:=by
  obtain ⟨k,z,_,hz,he⟩:=aEV h
  rw [aGh hv (gm hz) he]
  exact ⟨gm hz,he⟩
def aAZ (os:List ObR) (a:Arc):Int:=(a.2.2.2+aBy (aAw (aCo os a.2.2.1).o.tags [115,112,101,101,100]).1-1) / aBy (aAw (aCo os a.2.2.1).o.tags [115,112,101,101,100]).1
section
variable {w:World}{v:Value}{os:List ObR}{a:Arc}
theorem aK4 (hmv:aCr w v os) (hv:aAc (aAa os)=true) (hfi:¬ aAm (aAa os) a.2.2.1<0) {z:ObR}(hz:z=aCo os a.2.2.1):Calls Tryz.prog 46 #[.agg #[v],aIP a] w fun e w'=>e = .returned (vA (obL z))∧Fr (fun _=>False) w w' :=
  (aFk hmv hfi).mono fun e w' ⟨y,h1,h2,h3,h4⟩=>⟨by rw [hz,aGh hv h1 h2];exact h3,h4⟩
theorem aJ1 (hmv:aCr w v os) (hv:aAc (aAa os)=true) (prof:Bys) (hfi:¬ aAm (aAa os) a.2.2.1<0):Calls Tryz.prog 43 #[.agg #[v],vS prof,aIP a] w fun e w'=>e = .returned (vB (aAR prof (aCo os a.2.2.1).o a))∧Fr (fun _=>False) w w' :=
  (aK8 hmv prof hfi).mono fun e w' ⟨y,h1,h2,h3,h4⟩=>⟨by rw [aGh hv h1 h2];exact h3,h4⟩
theorem aIk (hmv:aCr w v os) (hv:aAc (aAa os)=true) (ha:ArcB a) (hfi:¬ aAm (aAa os) a.2.2.1<0):Calls Tryz.prog 44 #[.agg #[v],aIP a] w fun e w'=>e = .returned (vI (aAZ os a))∧Fr (fun _=>False) w w' :=
  (aJy hmv ha hfi).mono fun e w' ⟨y,h1,h2,h3,h4⟩=>⟨by unfold aAZ;rw [aGh hv h1 h2];exact h3,h4⟩
theorem aJ5 (hmv:aCr w v os) (hol:os.length≤1000000) (hv:aAc (aAa os)=true) (hrn:aKh (aAa (ofR os 2 os))≤400000) {A:List Arc}(hA:A=aBo (aAa os) (aAa (ofR os 2 os)) (ofR os 2 os).length):Calls Tryz.prog 42 #[.agg #[v]] w fun e w'=>∃ u,e = .returned u∧Mm (fun _=>False) w w' [rw_ arL 4 47 u A]:=by
  subst hA;exact aKE hmv hol hv hrn
theorem aML {o:Ob}(hl:(aAw o.tags [104,111,117,114,115]).1.length≤4900):Calls Tryz.prog 47 #[vS (aAw o.tags [104,111,117,114,115]).1] w fun e w'=>∃ v c x,e = .returned (.tuple #[v,vI c,vI x])∧(c==0)=aDq o∧aHg spL 2 141 w w' v (aAd o)∧Fr (fun _=>False) w w':=by
  refine (aJ0 hl w).mono ?_
  rintro e w' ⟨h1,h2⟩
  unfold aDE at h1
  rcases aEr (aAw o.tags [104,111,117,114,115]).1 with ⟨c,x,hp,hc,-⟩ | ⟨l,hp,-⟩
  · rw [hp] at h1
    refine ⟨_,c,x,h1,?_,?_,h2⟩
    · unfold aDq aDL;rw [hp];simpa using hc
    · unfold aAd aDL;rw [hp];exact ⟨aOJ w',fun k h=>by cases h⟩
  · rw [hp] at h1
    obtain ⟨v,h3,h4⟩:=h1
    refine ⟨v,0,0,h3,?_,?_,h2⟩
    · unfold aDq aDL;rw [hp];rfl
    · unfold aAd aDL;rw [hp];exact h4
end
structure LkR where
  a:Arc
  op:Bool
  tk:Int
  fr:Bool
  hp:Option Addr
  hc:Nat
  hs:List Sp
  np:Option Addr
  nc:Nat
  nx:List Int
def lkL (x:LkR):List Value:=[vS x.a.1,vS x.a.2.1,vS x.a.2.2.1,vI x.a.2.2.2,vB x.op,vI x.tk,vB x.fr,vL x.hp x.hs.length x.hc,vL x.np x.nx.length x.nc]
theorem lkT:ElT9 Tryz.prog lkL 9 41 50:=⟨fun _=>rfl,by decide,fun x u hu=>by
  unfold lkL at hu
  simp only [List.mem_cons,List.not_mem_nil,or_false] at hu
  rcases hu with rfl | rfl | rfl | rfl | rfl | rfl | rfl | rfl | rfl<;>rfl,Tryz.underlying41,aNk (by kernel_rfl)⟩
abbrev hbL (L:List LkR):List (Value×List Sp):=L.map fun x=>(vL x.hp x.hs.length x.hc,x.hs)
abbrev nbL (L:List LkR):List (Value×List Int):=L.map fun x=>(vL x.np x.nx.length x.nc,x.nx)
def nxK (os:List ObR) (prof:Bys) (A:List Arc) (a:Arc):Nat→List Int
  | 0=>[]
  | k+1=>match A[k]? with
    | some b=>bif aE7 os prof a b then nxK os prof A a k++[(k:Int)] else nxK os prof A a k
    | none=>nxK os prof A a k
theorem aOT {os:List ObR}{prof:Bys}{A:List Arc}{a b:Arc}{k:Nat}(h:A[k]?=some b):nxK os prof A a (k+1)=bif aE7 os prof a b then nxK os prof A a k++[(k:Int)] else nxK os prof A a k:=by
  show (match A[k]? with | some b=>_ | none=>_)=_
  rw [h]
theorem aOV (os:List ObR) (prof:Bys) (A:List Arc) (a:Arc):∀ k,(nxK os prof A a k).length≤k
  | 0=>Nat.le_refl _
  | k+1=>by
    have:=aOV os prof A a k
    show (match A[k]? with | some b=>_ | none=>_:List Int).length≤_
    cases A[k]? with
    | none=>exact Nat.le_succ_of_le this
    | some b =>
      show (bif aE7 os prof a b then _ else _:List Int).length≤_
      cases aE7 os prof a b
      · exact Nat.le_succ_of_le this
      · simp only [cond_true,List.length_append,List.length_singleton];omega
structure LkS (os:List ObR) (prof:Bys) (A:List Arc) (x:LkR) (a:Arc):Prop where
  arc:x.a=a
  op:x.op=aAR prof (aCo os a.2.2.1).o a
  tk:x.tk=aAZ os a
  fr:x.fr = !((aAw (aCo os a.2.2.1).o.tags [104,111,117,114,115]).2&&aDq (aCo os a.2.2.1).o)
  hs:x.hs=bif (aAw (aCo os a.2.2.1).o.tags [104,111,117,114,115]).2 then aAd (aCo os a.2.2.1).o else []
  nx:x.nx=nxK os prof A a A.length
structure LksP (os:List ObR) (prof:Bys) (A:List Arc) (L:List LkR) (i:Nat):Prop where
  len:L.length=i
  at_:∀ (j:Nat) (x:LkR),L[j]?=some x→∃ a,A[j]?=some a∧LkS os prof A x a
theorem LksP.nil (os:List ObR) (prof:Bys) (A:List Arc):LksP os prof A [] 0:=⟨rfl,fun j x h=>by simp at h⟩
theorem LksP.snoc {os:List ObR}{prof:Bys}{A:List Arc}{L:List LkR}{i:Nat}{x:LkR}{a:Arc}(h:LksP os prof A L i) (ha:A[i]?=some a) (hx:LkS os prof A x a):LksP os prof A (L++[x]) (i+1):=⟨by rw [List.length_append,h.len];rfl,fun j y hy=>by
  rcases Nat.lt_or_ge j L.length with hj | hj
  · rw [List.getElem?_append_left hj] at hy;exact h.at_ j y hy
  · rw [List.getElem?_append_right hj] at hy
    have hj0:j-L.length=0:=by have:=gl hy;rw [List.length_singleton] at this;omega
    rw [hj0] at hy;cases hy
    rw [show j=i by have:=h.len;omega];exact ⟨a,ha,hx⟩⟩
abbrev A18 (Φ:Ending→World→Prop):=AtO Tryz.prog (aAf Tryz.f18) (aAo (bodyPost Tryz.prog Tryz.f18 Φ)) [] 92
theorem aJ2 {w:World}{v:Value}{os:List ObR}(hmv:aCr w v os) (hol:os.length≤1000000) (hv:aAc (aAa os)=true) (hrn:aKh (aAa (ofR os 2 os))≤400000) (prof:Bys) {A:List Arc}(hAe:A=aBo (aAa os) (aAa (ofR os 2 os)) (ofR os 2 os).length) (hAl:A.length≤1000000) (hA:∀ a∈A,ArcB a∧¬ aAm (aAa os) a.2.2.1<0):Calls Tryz.prog 18 #[.agg #[v],vS prof] w fun e w'=>∃ u L,e = .returned u∧LksP os prof A L A.length∧Mm (fun _=>False) w w' [rw_ lkL 9 50 u L,aAB spL 2 141 (hbL L),aAB inL 1 3 (nbL L)]:=by
  have hm0:=hmv;obtain ⟨hs0,hob⟩:=hm0
  obtain ⟨p0,cp0,hp0,sp0⟩:=hs0.op
  subst hp0
  refine beg Tryz.func18 rfl rfl [(0,.agg #[vL p0 os.length cp0]),(1,vS prof)] rfl rfl fun Φ hΦ=>?_
  have hM:=Mm.nil (fun _=>False) w
  refine aAq 0 0 2 [] (cs:=#[vL p0 os.length cp0]) (T:=24) (v:=fun b=>vP b 0) f0 hM fun aa w1 hM=>aAO 1 1 16 [(15,.agg #[vL p0 os.length cp0])] (K:=fun u Mn=>∃ v1,u=v1∧Mn=[rw_ arL 4 47 v1 A]) [0] [] (fc (lam 24 0 0 1 hM rfl) f0) hM rfl rfl (by decide) (fun hm=>((aJ5 (hmv.fr hM.fr) hol hv hrn hAe).mono fun e w8 ⟨v1,h1,h2⟩=>⟨_,_,h1,⟨v1,rfl,rfl⟩,aDn h2 fun _ h=>h.elim⟩)) fun u Mn w1 hK hM=>?_
  obtain ⟨v1,rfl,rfl⟩:=hK
  obtain ⟨qa,ca,ea,sa9⟩:=(hM.src (j:=1) rfl arT.len).op
  subst ea
  replace hM:Mm (fun _=>False) w w1 [bk aa #[vL p0 os.length cp0] 24,_]:=hM
  have hM:=hM.row (f:=lkL) (c:=9) (E:=50)
  have hM:=aIN (f:=spL) (c:=2) (E:=141) hM
  have hM:=aIN (f:=inL) (c:=1) (E:=3) hM
  replace hM:Mm (fun _=>False) w w1 [bk aa #[vL p0 os.length cp0] 24,_,_,_,_]:=hM
  refine seg 4 0 [(5,vL qa A.length ca),(6,vL none 0 0),(7,vI 0)] f0 ?_
  have aq:∀ (ai:Nat) (i:Nat) (L:List LkR) (vo:Value) (w2:World),i≤A.length→LksP os prof A L i→Mm (fun _=>False) w w2 [bk aa #[vL p0 os.length cp0] 24,rw_ arL 4 47 (vL qa A.length ca) A,rw_ lkL 9 50 vo L,aAB spL 2 141 (hbL L),aAB inL 1 3 (nbL L)]→ai=A.length-i→A18 Φ (some (4,0)) [(7,vI (i:Int)),(6,vo),(5,vL qa A.length ca),(2,vP aa 0),(1,vS prof)] w2:=by
   refine aAH fun ai ar i L vo w2 hi hL hM az=>seg 4 4 [(20,vB (decide ((i:Int)<(A.length:Int))))] f0 ?_
   cases aj:(decide ((i:Int)<(A.length:Int)))
   ·have au:=df aj
    exact rt1 4 vo rfl f0 (hΦ _ _ ⟨_,L,rfl,(show i=A.length by omega)▸hL,hM.pick [2,3,4]⟩)
   have au:=dt aj
   obtain ⟨y,hy⟩:=geb (l:=A) (i:=i) (by omega)
   obtain ⟨hyB,hyf⟩:=hA y (gm hy)
   have hLl:=hL.len
   obtain ⟨zw,hzw⟩:∃ z,z=aCo os y.2.2.1:=⟨_,rfl⟩
   have hz1:zw∈os:=by rw [hzw];exact (aSQ hv hyf).1
   have htl:(aAw zw.o.tags [104,111,117,114,115]).1.length≤4900:=Nat.le_trans (aBQ (aDW hv zw.o (List.mem_map.2 ⟨zw,hz1,rfl⟩)) _) (by decide)
   refine seg 6 0 [] f0 ?_
   obtain ⟨a0,ad,-⟩:=hM.el arT (j:=1) rfl hy
   have hM:=hM.nl
   refine drx [18,19] (fun γ=>[some (vP (bn (γ 0)) 0),none]) _ (fun γ l=>[bk aa #[vL p0 os.length cp0] 24,rw_ arL 4 47 (vL qa A.length ca) A,rw_ lkL 9 50 vo L,aAB spL 2 141 (hbL L),aAB inL 1 3 (nbL L),(bif l.getD 1 false then bk (bn (γ 0)) #[vS y.1,vS y.2.1,vS y.2.2.1,vI y.2.2.2,vB (aAR prof (aCo os y.2.2.1).o y),vI (aAZ os y),vB true,vL none 0 0,vL none 0 0] 50 else (bif l.getD 0 false then bk (bn (γ 0)) #[vS [],vS [],vS [],vI 0,vB false,vI 0,vB false,vL none 0 0,vL none 0 0] 50 else aIX))]) (fun γ=>[(8,vP (bn (γ 0)) 0)]) hM (fun γ=>rfl) (fun γ l w5 hM=>(fc (ix 75 ca ad (gl hy)) (fc (lar 47 1 0 4 arT hM rfl ad hy) (fc (lam 24 0 0 1 hM rfl) (fc (ix 75 ca ad (gl hy)) (fc (lar 47 1 0 4 arT hM rfl ad hy) (fc (tcl (aJ1 (hmv.fr hM.fr) hv prof hyf)) (fc (lam 24 0 0 1 hM rfl) (fc (ix 75 ca ad (gl hy)) (fc (lar 47 1 0 4 arT hM rfl ad hy) (fc (tcl (aIk (hmv.fr hM.fr) hv hyB hyf)) f0))))))))))) ⟨aCC 0 18 5 8 (fun γ=>#[vS [],vS [],vS [],vI 0,vB false,vI 0,vB false,vL none 0 0,vL none 0 0]) 50 (fun b=>vP b 0),aB7 1 19 50 5 0 (fun γ=>(bn (γ 0))) (fun γ l=>#[vS [],vS [],vS [],vI 0,vB false,vI 0,vB false,vL none 0 0,vL none 0 0]) 50 (fun γ => .agg #[vS y.1,vS y.2.1,vS y.2.2.1,vI y.2.2.2,vB (aAR prof (aCo os y.2.2.1).o y),vI (aAZ os y),vB true,vL none 0 0,vL none 0 0]),trivial⟩ fun ak w1 hM=>?_
   replace hM:Mm (fun _=>False) w w1 [bk aa #[vL p0 os.length cp0] 24,_,_,_,_,bk (bn (ak 0)) #[vS y.1,vS y.2.1,vS y.2.2.1,vI y.2.2.2,vB (aAR prof (aCo os y.2.2.1).o y),vI (aAZ os y),vB true,vL none 0 0,vL none 0 0] 50]:=hM
   obtain ⟨bl,hbl⟩:∃ z,z=(bn (ak 0)):=⟨_,rfl⟩
   rw [←hbl] at hM ⊢
   replace hM:Mm (fun _=>False) w w1 [bk aa #[vL p0 os.length cp0] 24,_,_,_,_,bk bl #[vS y.1,vS y.2.1,vS y.2.2.1,vI y.2.2.2,vB (aAR prof (aCo os y.2.2.1).o y),vI (aAZ os y),vB true,vL none 0 0,vL none 0 0] 50]:=hM
   refine seg 7 0 [] f0 ?_
   obtain ⟨a1,ae,-⟩:=hM.el arT (j:=1) rfl hy
   refine drc [(9,vS ((aAw zw.o.tags [104,111,117,114,115]).1)),(10,vB (aAw zw.o.tags [104,111,117,114,115]).2)] hM (fun w5 hM=>(fc (lam 24 0 0 1 hM rfl) (fc (ix 75 ca ae (gl hy)) (fc (lar 47 1 0 4 arT hM rfl ae hy) (fc (tcl (aK4 (hmv.fr hM.fr) hv hyf hzw)) (fc (tcl (aDT ((hob _ hz1).tags.src.fr hM.fr) [104,111,117,114,115])) f0)))))) fun w5 hM=>?_
   have cu336:∀ (frB:Bool) (hp:Option Addr) (hc:Nat) (hs:List Sp) (w2:World),frB = !((aAw zw.o.tags [104,111,117,114,115]).2&&aDq zw.o)→(hs=bif (aAw zw.o.tags [104,111,117,114,115]).2 then aAd zw.o else [])→Mm (fun _=>False) w w2 [bk aa #[vL p0 os.length cp0] 24,rw_ arL 4 47 (vL qa A.length ca) A,rw_ lkL 9 50 vo L,aAB spL 2 141 (hbL L),aAB inL 1 3 (nbL L),bk bl #[vS y.1,vS y.2.1,vS y.2.2.1,vI y.2.2.2,vB (aAR prof (aCo os y.2.2.1).o y),vI (aAZ os y),vB frB,vL hp hs.length hc,vL none 0 0] 50,rw_ spL 2 141 (vL hp hs.length hc) hs]→A18 Φ (some (12,0)) [(8,vP bl 0),(7,vI (i:Int)),(6,vo),(5,vL qa A.length ca),(2,vP aa 0),(1,vS prof)] w2:=by
    intro frB hp hc hs w2 hfr hhs hM
    have hM:=hM.row (f:=inL) (c:=1) (E:=3)
    refine seg 13 0 [(14,vI 0)] f0 ?_
    have av:∀ (al:Nat) (k:Nat) (qn:Option Addr) (cn:Nat) (w2:World),k≤A.length→Mm (fun _=>False) w w2 [bk aa #[vL p0 os.length cp0] 24,rw_ arL 4 47 (vL qa A.length ca) A,rw_ lkL 9 50 vo L,aAB spL 2 141 (hbL L),aAB inL 1 3 (nbL L),bk bl #[vS y.1,vS y.2.1,vS y.2.2.1,vI y.2.2.2,vB (aAR prof (aCo os y.2.2.1).o y),vI (aAZ os y),vB frB,vL hp hs.length hc,vL qn (nxK os prof A y k).length cn] 50,rw_ spL 2 141 (vL hp hs.length hc) hs,rw_ inL 1 3 (vL qn (nxK os prof A y k).length cn) (nxK os prof A y k)]→al=A.length-k→A18 Φ (some (13,0)) [(14,vI (k:Int)),(8,vP bl 0),(7,vI (i:Int)),(6,vo),(5,vL qa A.length ca),(2,vP aa 0),(1,vS prof)] w2:=by
     refine aAH fun al am k qn cn w2 hk hM a2=>?_
     have hnl:=aOV os prof A y k
     refine seg 13 4 [(67,vB (decide ((k:Int)<(A.length:Int))))] f0 ?_
     cases an:(decide ((k:Int)<(A.length:Int)))
     ·have aw:=df an
      have hkA:k=A.length:=by omega
      rw [hkA] at hM
      replace hM:Mm (fun _=>False) w _ [bk aa #[vL p0 os.length cp0] 24,_,_,_,_,bk bl #[vS y.1,vS y.2.1,vS y.2.2.1,vI y.2.2.2,vB (aAR prof (aCo os y.2.2.1).o y),vI (aAZ os y),vB frB,vL hp hs.length hc,vL qn (nxK os prof A y A.length).length cn] 50,_,_]:=hM
      refine aAq 17 2 89 [(87,vo),(88,.agg #[vS y.1,vS y.2.1,vS y.2.2.1,vI y.2.2.2,vB (aAR prof (aCo os y.2.2.1).o y),vI (aAZ os y),vB frB,vL hp hs.length hc,vL qn (nxK os prof A y A.length).length cn])] (cs:=#[vS y.1,vS y.2.1,vS y.2.2.1,vI y.2.2.2,vB (aAR prof (aCo os y.2.2.1).o y),vI (aAZ os y),vB frB,vL hp hs.length hc,vL qn (nxK os prof A y A.length).length cn]) (T:=50) (v:=fun b=>vL (some ⟨b,0,none⟩) 1 1) (fc (lam 50 5 0 9 hM rfl) f0) hM fun a3 w1 hM=>aWH 17 3 90 [] (cap:=1) (by decide) lkT f0 hM (j:=2) rfl (aAD (f:=lkL) (x:=(⟨y,(aAR prof (aCo os y.2.2.1).o y),(aAZ os y),frB,hp,hc,hs,qn,cn,(nxK os prof A y A.length)⟩:LkR)) (hM.get 8 rfl) (Nat.lt_succ_self _)) (fun h=>by cases h) (by simp only [List.length_cons,List.length_nil];omega) fun a4 w1 hM=>?_
      obtain ⟨ab,ac,ax,-⟩:=(hM.src (j:=2) rfl lkT.len).op
      subst ax
      have hM:Mm (fun _=>False) w _ [bk aa #[vL p0 os.length cp0] 24,rw_ arL 4 47 (vL qa A.length ca) A,rw_ lkL 9 50 (vL ab (L++[(⟨y,(aAR prof (aCo os y.2.2.1).o y),(aAZ os y),frB,hp,hc,hs,qn,cn,(nxK os prof A y A.length)⟩:LkR)]).length ac) (L++[(⟨y,(aAR prof (aCo os y.2.2.1).o y),(aAZ os y),frB,hp,hc,hs,qn,cn,(nxK os prof A y A.length)⟩:LkR)]),aAB inL 1 3 (nbL L),rw_ inL 1 3 (vL qn (nxK os prof A y A.length).length cn) (nxK os prof A y A.length),aAB spL 2 141 (hbL L),rw_ spL 2 141 (vL hp hs.length hc) hs]:=hM.pick [0,1,2,4,7,3,6]
      have hM:Mm (fun _=>False) w _ [bk aa #[vL p0 os.length cp0] 24,rw_ arL 4 47 (vL qa A.length ca) A,rw_ lkL 9 50 (vL ab (L++[(⟨y,(aAR prof (aCo os y.2.2.1).o y),(aAZ os y),frB,hp,hc,hs,qn,cn,(nxK os prof A y A.length)⟩:LkR)]).length ac) (L++[(⟨y,(aAR prof (aCo os y.2.2.1).o y),(aAZ os y),frB,hp,hc,hs,qn,cn,(nxK os prof A y A.length)⟩:LkR)]),aAB inL 1 3 (nbL L),rw_ inL 1 3 (vL qn (nxK os prof A y A.length).length cn) (nxK os prof A y A.length),aAB spL 2 141 (hbL (L++[(⟨y,(aAR prof (aCo os y.2.2.1).o y),(aAZ os y),frB,hp,hc,hs,qn,cn,(nxK os prof A y A.length)⟩:LkR)]))]:=aFC (A:=[bk aa #[vL p0 os.length cp0] 24,rw_ arL 4 47 (vL qa A.length ca) A,rw_ lkL 9 50 (vL ab (L++[(⟨y,(aAR prof (aCo os y.2.2.1).o y),(aAZ os y),frB,hp,hc,hs,qn,cn,(nxK os prof A y A.length)⟩:LkR)]).length ac) (L++[(⟨y,(aAR prof (aCo os y.2.2.1).o y),(aAZ os y),frB,hp,hc,hs,qn,cn,(nxK os prof A y A.length)⟩:LkR)]),aAB inL 1 3 (nbL L),rw_ inL 1 3 (vL qn (nxK os prof A y A.length).length cn) (nxK os prof A y A.length)]) hM (by unfold hbL;rw [List.map_append];exact List.perm_append_singleton _ _)
      have hM:Mm (fun _=>False) w _ [bk aa #[vL p0 os.length cp0] 24,rw_ arL 4 47 (vL qa A.length ca) A,rw_ lkL 9 50 (vL ab (L++[(⟨y,(aAR prof (aCo os y.2.2.1).o y),(aAZ os y),frB,hp,hc,hs,qn,cn,(nxK os prof A y A.length)⟩:LkR)]).length ac) (L++[(⟨y,(aAR prof (aCo os y.2.2.1).o y),(aAZ os y),frB,hp,hc,hs,qn,cn,(nxK os prof A y A.length)⟩:LkR)]),aAB spL 2 141 (hbL (L++[(⟨y,(aAR prof (aCo os y.2.2.1).o y),(aAZ os y),frB,hp,hc,hs,qn,cn,(nxK os prof A y A.length)⟩:LkR)])),aAB inL 1 3 (nbL L),rw_ inL 1 3 (vL qn (nxK os prof A y A.length).length cn) (nxK os prof A y A.length)]:=hM.pick [0,1,2,5,3,4]
      have hM:Mm (fun _=>False) w _ [bk aa #[vL p0 os.length cp0] 24,rw_ arL 4 47 (vL qa A.length ca) A,rw_ lkL 9 50 (vL ab (L++[(⟨y,(aAR prof (aCo os y.2.2.1).o y),(aAZ os y),frB,hp,hc,hs,qn,cn,(nxK os prof A y A.length)⟩:LkR)]).length ac) (L++[(⟨y,(aAR prof (aCo os y.2.2.1).o y),(aAZ os y),frB,hp,hc,hs,qn,cn,(nxK os prof A y A.length)⟩:LkR)]),aAB spL 2 141 (hbL (L++[(⟨y,(aAR prof (aCo os y.2.2.1).o y),(aAZ os y),frB,hp,hc,hs,qn,cn,(nxK os prof A y A.length)⟩:LkR)])),aAB inL 1 3 (nbL (L++[(⟨y,(aAR prof (aCo os y.2.2.1).o y),(aAZ os y),frB,hp,hc,hs,qn,cn,(nxK os prof A y A.length)⟩:LkR)]))]:=aFC (A:=[bk aa #[vL p0 os.length cp0] 24,rw_ arL 4 47 (vL qa A.length ca) A,rw_ lkL 9 50 (vL ab (L++[(⟨y,(aAR prof (aCo os y.2.2.1).o y),(aAZ os y),frB,hp,hc,hs,qn,cn,(nxK os prof A y A.length)⟩:LkR)]).length ac) (L++[(⟨y,(aAR prof (aCo os y.2.2.1).o y),(aAZ os y),frB,hp,hc,hs,qn,cn,(nxK os prof A y A.length)⟩:LkR)]),aAB spL 2 141 (hbL (L++[(⟨y,(aAR prof (aCo os y.2.2.1).o y),(aAZ os y),frB,hp,hc,hs,qn,cn,(nxK os prof A y A.length)⟩:LkR)]))]) hM (by unfold nbL;rw [List.map_append];exact List.perm_append_singleton _ _)
      refine seg 4 0 [(6,vL ab (L++[(⟨y,(aAR prof (aCo os y.2.2.1).o y),(aAZ os y),frB,hp,hc,hs,qn,cn,(nxK os prof A y A.length)⟩:LkR)]).length ac),(7,vI ((i:Int)+1))] (fc (aAe (i:Int) 1 u3_) f0) (aAb _ (ar _ (by have:=gl hy;omega) (i+1) (L++[(⟨y,(aAR prof (aCo os y.2.2.1).o y),(aAZ os y),frB,hp,hc,hs,qn,cn,(nxK os prof A y A.length)⟩:LkR)]) (vL ab (L++[(⟨y,(aAR prof (aCo os y.2.2.1).o y),(aAZ os y),frB,hp,hc,hs,qn,cn,(nxK os prof A y A.length)⟩:LkR)]).length ac) _ (gl hy) (hL.snoc hy ⟨rfl,rfl,rfl,by rw [←hzw];exact hfr,by rw [←hzw];exact hhs,rfl⟩) hM rfl))
     have aw:=dt an
     obtain ⟨y2,hy2⟩:=geb (l:=A) (i:=k) (by omega)
     refine seg 15 0 [] f0 ?_
     obtain ⟨a5,ao,-⟩:=hM.el arT (j:=1) rfl hy2
     refine drc [(80,vB (aE7 os prof y y2))] hM (fun w5 hM=>(fc (lam 24 0 0 1 hM rfl) (fc (ix 75 ca ae (gl hy)) (fc (lar 47 1 0 4 arT hM rfl ae hy) (fc (ix 75 ca ao (gl hy2)) (fc (lar 47 1 0 4 arT hM rfl ao hy2) (fc (tcl (aK5 (hmv.fr hM.fr) hol hv prof y y2)) f0))))))) fun w5 hM=>?_
     cases ap:(aE7 os prof y y2)
     ·refine seg 13 0 [(14,vI ((k:Int)+1))] (fc (aAe (k:Int) 1 u3_) f0) ?_
      have e9:(nxK os prof A y k)=nxK os prof A y (k+1):=by rw [aOT hy2,ap];rfl
      replace hM:Mm (fun _=>False) w _ [bk aa #[vL p0 os.length cp0] 24,_,_,_,_,bk bl #[vS y.1,vS y.2.1,vS y.2.2.1,vI y.2.2.2,vB (aAR prof (aCo os y.2.2.1).o y),vI (aAZ os y),vB frB,vL hp hs.length hc,vL qn (nxK os prof A y k).length cn] 50,_,_]:=hM
      rw [e9] at hM
      exact aAb _ (am _ (by have:=gl hy2;omega) (k+1) qn cn _ (gl hy2) hM rfl)
     refine aAq 16 3 84 [(82,vL qn (nxK os prof A y k).length cn),(83,vI (k:Int))] (cs:=#[vI (k:Int)]) (T:=3) (v:=fun b=>vL (some ⟨b,0,none⟩) 1 1) (fc (ldm 29 5 8 hM rfl rfl) f0) hM fun a6 w1 hM=>aIZ 16 4 85 [] (cap:=1) (by decide) inT f0 hM (j:=7) rfl (aAD (f:=inL) (x:=(k:Int)) (hM.get 8 rfl) (Nat.lt_succ_self _)) (fun h=>by cases h) (by simp only [List.length_cons,List.length_nil];omega) fun a7 w1 hM=>?_
     obtain ⟨ag,ah,ay,-⟩:=(hM.src (j:=7) rfl inT.len).op
     subst ay
     refine stm 16 6 [(86,vP bl 8)] 29 5 8 (vL ag ((nxK os prof A y k)++[(k:Int)]).length ah) f0 hM rfl fun w1 hM=>seg 13 0 [(14,vI ((k:Int)+1))] (fc (aAe (k:Int) 1 u3_) f0) ?_
     have e9:((nxK os prof A y k)++[(k:Int)])=nxK os prof A y (k+1):=by rw [aOT hy2,ap];rfl
     replace hM:=hM.pick [0,1,2,3,4,5,6,7]
     replace hM:Mm (fun _=>False) w _ [bk aa #[vL p0 os.length cp0] 24,_,_,_,_,bk bl #[vS y.1,vS y.2.1,vS y.2.2.1,vI y.2.2.2,vB (aAR prof (aCo os y.2.2.1).o y),vI (aAZ os y),vB frB,vL hp hs.length hc,vL ag ((nxK os prof A y k)++[(k:Int)]).length ah] 50,_,_]:=hM
     rw [e9] at hM
     exact aAb _ (am _ (by have:=gl hy2;omega) (k+1) ag ah _ (gl hy2) hM rfl)
    exact aAb _ (av _ 0 none 0 _ (Nat.zero_le _) hM rfl)
   refine seg 8 1 [(52,vB (aAw zw.o.tags [104,111,117,114,115]).2)] f0 ?_
   cases af:(aAw zw.o.tags [104,111,117,114,115]).2 with
   | false =>
    refine seg 12 0 [] f0 ?_
    have hM:=hM.row (f:=spL) (c:=2) (E:=141)
    exact aAb _ (cu336 true none 0 [] _ (by rw [af];rfl) (by rw [af];rfl) hM)
   | true =>
    refine cal 9 1 55 [(54,vS ((aAw zw.o.tags [104,111,117,114,115]).1))] (K:=fun u w8=>∃ v c x,u = .tuple #[v,vI c,vI x]∧(c==0)=aDq zw.o∧aHg spL 2 141 w5 w8 v (aAd zw.o)∧Fr (fun _=>False) w5 w8) f0 ((aML (w:=w5) (o:=zw.o) htl).mono fun e w8 ⟨v,c,x,h1,h2⟩=>⟨_,h1,v,c,x,rfl,h2⟩) fun u w1 ⟨v,c,x,hu,hco,hO,f1⟩=>?_
    subst hu
    have hM:=hM.add f1 (rw_ spL 2 141 v (aAd zw.o)) hO.1 hO.2
    obtain ⟨qh,ch,rfl,-⟩:=hO.op spT.len
    refine stm 10 3 [(11,vL qh (aAd zw.o).length ch),(60,vB (!(c==0))),(61,vP bl 6)] 4 5 6 (vB (!(c==0))) f0 hM rfl fun w1 hM=>stm 11 2 [(62,vL qh (aAd zw.o).length ch),(63,vP bl 7)] 48 5 7 (vL qh (aAd zw.o).length ch) f0 hM rfl fun w1 hM=>seg 12 0 [] f0 (aAb _ (cu336 (!(c==0)) qh ch (aAd zw.o) _ (by rw [hco,af];rfl) (by rw [af];rfl) hM))
  exact aAb _ (aq _ 0 [] (vL none 0 0) _ (Nat.zero_le _) (LksP.nil os prof A) hM rfl)
theorem aRu {l:List Sp}{m:Int}(h0:0≤m):0≤(aAy l m).1∧(aAy l m).1≤m+30000:=by
  cases hv:vl (-1) l with
  | false=>rw [aG5 hv];simp only;omega
  | true =>
    cases hm:aBm m with
    | false=>rw [aEM hm];simp only;omega
    | true =>
      cases he:l.isEmpty with
      | true=>rw [aG4 he];simp only;omega
      | false =>
        rw [aEN hv hm he]
        show 0≤aDf l m∧aDf l m≤m+30000
        cases hf:l.find? (fun s=>decide (m%10080<s.2)) with
        | some s =>
          rw [aFr hf]
          obtain ⟨i,hi⟩:=List.getElem?_of_mem (List.mem_of_find?_eq_some hf)
          have:=aHW hv hi
          omega
        | none =>
          obtain ⟨s,hs⟩:=geb (l:=l) (i:=0) (by cases l with | nil=>cases he | cons a l=>simp)
          rw [aFq hf hs]
          have:=aHW hv hs
          omega
def aCx (x:LkR) (m:Int):Int×Bool :=
  bif !x.op||(decide (m<0)||decide (1000000000<m)) then (0,false) else bif x.fr then (m+x.tk,true) else ((aAy x.hs m).1+x.tk,(aAy x.hs m).2&&decide ((aAy x.hs m).1≤1000000000))
theorem aK7 {w:World}(x:LkR) (hh:SrcP spL 2 w x.hp x.hc x.hs) (htk:0≤x.tk∧x.tk≤5000000000) (m:Int):Calls Tryz.prog 21 #[vA (lkL x),vI m] w fun e w'=>e = .returned (.tuple #[vI (aCx x m).1,vB (aCx x m).2])∧Fr (fun _=>False) w w':=by
  refine beg Tryz.func21 rfl rfl [(0,.agg #[vS x.a.1,vS x.a.2.1,vS x.a.2.2.1,vI x.a.2.2.2,vB x.op,vI x.tk,vB x.fr,vL x.hp x.hs.length x.hc,vL x.np x.nx.length x.nc]),(1,vI m)] rfl rfl fun Φ hΦ=>?_
  have hM:=Mm.nil (fun _=>False) w
  refine aAq 0 0 2 [] (cs:=#[vS x.a.1,vS x.a.2.1,vS x.a.2.2.1,vI x.a.2.2.2,vB x.op,vI x.tk,vB x.fr,vL x.hp x.hs.length x.hc,vL x.np x.nx.length x.nc]) (T:=50) (v:=fun b=>vP b 0) f0 hM fun ah w1 hM=>seg 1 4 [(11,vB (!x.op))] (fc (ldm 4 0 4 hM rfl rfl) f0) ?_
  cases ab:x.op with
  | false =>
   exact rt2 4 5 (vI 0) (vB false) rfl rfl f0 (hΦ _ _ ⟨by unfold aCx;simp only [ab]<;>rfl,hM.fr⟩)
  | true =>
   refine seg 1 8 [(15,vB (decide (m<0)))] f0 ?_
   cases aa:(decide (m<0))
   rotate_left
   ·have af:=dt aa
    exact rt2 4 5 (vI 0) (vB false) rfl rfl f0 (hΦ _ _ ⟨by unfold aCx;simp only [ab,aa]<;>rfl,hM.fr⟩)
   have af:=df aa
   refine seg 1 11 [(18,vB (decide (1000000000<m)))] f0 ?_
   cases ac:(decide (1000000000<m))
   rotate_left
   ·have ag:=dt ac
    exact rt2 4 5 (vI 0) (vB false) rfl rfl f0 (hΦ _ _ ⟨by unfold aCx;simp only [ab,aa,ac]<;>rfl,hM.fr⟩)
   have ag:=df ac
   refine seg 3 2 [(20,vB x.fr)] (fc (ldm 4 0 6 hM rfl rfl) f0) ?_
   cases ad:x.fr with
   | false =>
    refine aAr 5 3 29 [(27,vL x.hp x.hs.length x.hc),(28,vI m)] (fc (ldm 48 0 7 hM rfl rfl) f0) hM (aK9 (hh.src.fr hM.fr) m) fun w1 hM=>?_
    have hnb:=aRu (l:=x.hs) (m:=m) (by omega)
    refine seg 6 6 [(6,vI (aAy x.hs m).1),(35,vI ((aAy x.hs m).1+x.tk)),(37,vB (aAy x.hs m).2)] (fc (ldm 3 0 5 hM rfl rfl) (fc (aAe (aAy x.hs m).1 x.tk u3_) f0)) ?_
    cases ae:(aAy x.hs m).2 with
    | false =>
     exact rt2 4 5 (vI ((aAy x.hs m).1+x.tk)) (vB false) rfl rfl f0 (hΦ _ _ ⟨by unfold aCx;simp only [ab,aa,ac,ad,ae]<;>rfl,hM.fr⟩)
    | true =>
     exact rt2 4 5 (vI ((aAy x.hs m).1+x.tk)) (vB (decide ((aAy x.hs m).1≤1000000000))) rfl rfl f0 (hΦ _ _ ⟨by unfold aCx;simp only [ab,aa,ac,ad,ae]<;>rfl,hM.fr⟩)
   | true =>
    exact rt2 4 5 (vI (m+x.tk)) (vB true) rfl rfl (fc (ldm 3 0 5 hM rfl rfl) (fc (aAe m x.tk u3_) f0)) (hΦ _ _ ⟨by unfold aCx;simp only [ab,aa,ac,ad]<;>rfl,hM.fr⟩)
theorem aGT (c:UInt8):∀ (l:Bys) (a:Nat),Lib.decFrom a (l++[c])=(Lib.decFrom a l).bind fun m=>(Lib.digitVal c).map fun d=>m*10+d
 | [],a=>by
  show (match Lib.digitVal c with | some d=>Lib.decFrom (a*10+d) [] | none=>none)=_
  cases Lib.digitVal c<;>rfl
 | b::l,a=>by
  show (match Lib.digitVal b with | some d=>Lib.decFrom (a*10+d) (l++[c]) | none=>none)=(match Lib.digitVal b with | some d=>Lib.decFrom (a*10+d) l | none=>none).bind _
  cases Lib.digitVal b with
  | none=>rfl
  | some d=>exact aGT c l (a*10+d)
theorem aVA {u:Nat}(h:u<10):Lib.digitVal (UInt8.ofNat (48+u))=some u:=by
 unfold Lib.digitVal
 have:(UInt8.ofNat (48+u)).toNat=48+u:=by rw [UInt8.toNat_ofNat_of_lt'];show 48+u<256;omega
 rw [this,if_pos (by omega)]
 congr 1;omega
theorem aUk {c:UInt8}{d:Nat}(h:Lib.digitVal c=some d):d<10∧c=UInt8.ofNat (48+d):=by
 unfold Lib.digitVal at h
 split at h
 ·cases h
  refine ⟨by omega,?_⟩
  rw [show 48+(c.toNat-48)=c.toNat by omega]
  simp
 ·cases h
theorem aGS {u:Nat}(h:¬ u<10):Lib.decDigits u=Lib.decDigits (u / 10)++[UInt8.ofNat (48+u%10)]:=by
 rw [Lib.decDigits,dif_neg h]
theorem aRI (u:Nat):Lib.decFrom 0 (Lib.decDigits u)=some u:=by
 induction u using Nat.strongRecOn with
 | _ u ih =>
  by_cases h:u<10
  ·rw [Lib.decDigits_one h]
   show (match Lib.digitVal (UInt8.ofNat (48+u)) with | some d=>Lib.decFrom (0*10+d) [] | none=>none)=_
   rw [aVA h]
   show some (0*10+u)=some u
   rw [Nat.zero_mul,Nat.zero_add]
  ·rw [aGS h,aGT,ih (u / 10) (by omega),aVA (Nat.mod_lt _ (by decide))]
   show some (u / 10*10+u%10)=some u
   congr 1;omega
theorem aSA (u:Nat):Lib.decDigits u≠[]:=by
 by_cases h:u<10
 ·rw [Lib.decDigits_one h];simp
 ·rw [aGS h];simp
theorem aJL {l m:Bys}(h:l≠[]):(l++m).headD 0=l.headD 0:=by cases l with | nil=>exact absurd rfl h | cons a l=>rfl
theorem aRH (u:Nat) (h0:0<u):((Lib.decDigits u).headD 0).toNat≠48:=by
 induction u using Nat.strongRecOn with
 | _ u ih =>
  by_cases h:u<10
  ·rw [Lib.decDigits_one h]
   show (UInt8.ofNat (48+u)).toNat≠48
   rw [UInt8.toNat_ofNat_of_lt' (by show 48+u<256;omega)]
   omega
  ·rw [aGS h,aJL (aSA _)]
   exact ih (u / 10) (by omega) (by omega)
theorem aPB:∀ (k u:Nat),u<10 ^ (k+1)→(Lib.decDigits u).length≤k+1
 | k,u,hu=>by
  by_cases h:u<10
  ·rw [Lib.decDigits_one h];simp
  ·cases k with
   | zero=>simp at hu;omega
   | succ k =>
    rw [aGS h,List.length_append,List.length_singleton]
    have:=aPB k (u / 10) (by rw [Nat.pow_succ] at hu;omega)
    omega
theorem aMl:∀ (n:Nat) (l:Bys),l.length=n→l≠[]→(l.headD 0).toNat≠48→∀ m,Lib.decFrom 0 l=some m→Lib.decDigits m=l∧0<m
 | 0,l,hl,hn,_,_,_=>absurd (List.eq_nil_of_length_eq_zero hl) hn
 | n+1,l,hl,hn,hh,m,hm=>by
  rcases List.eq_nil_or_concat l with rfl | ⟨t,c,rfl⟩
  ·exact absurd rfl hn
  ·rw [List.concat_eq_append] at hl hn hh hm ⊢
   rw [aGT] at hm
   obtain ⟨m',h1,h2⟩:=Option.bind_eq_some_iff.1 hm
   obtain ⟨d,h3,rfl⟩:=Option.map_eq_some_iff.1 h2
   obtain ⟨hd,rfl⟩:=aUk h3
   by_cases ht:t=[]
   ·subst ht
    have h1:some 0=some m':=h1
    cases h1
    have h48:(UInt8.ofNat (48+d)).toNat≠48:=hh
    rw [UInt8.toNat_ofNat_of_lt' (by show 48+d<256;omega)] at h48
    rw [Nat.zero_mul,Nat.zero_add]
    exact ⟨Lib.decDigits_one hd,by omega⟩
   ·rw [aJL ht] at hh
    obtain ⟨h4,h5⟩:=aMl n t (by simp at hl;omega) ht hh m' h1
    refine ⟨?_,by omega⟩
    rw [aGS (by omega),show (m'*10+d) / 10=m' by omega,show (m'*10+d)%10=d by omega,h4]
theorem aMa {c:UInt8}{d:Nat}(h:Lib.digitVal c=some d) (k:Int):aD3 k c=10*k+(d:Int):=by
 unfold Lib.digitVal at h
 split at h
 ·rename_i hc
  cases h
  unfold aD3
  rw [decide_eq_false (by omega),decide_eq_false (by omega)]
  simp only [Bool.or_self,cond_false];omega
 ·cases h
theorem aLY {c:UInt8}(h:Lib.digitVal c=none) (k:Int):aD3 k c ≤ -100000000:=by
 unfold Lib.digitVal at h
 split at h
 ·cases h
 ·rename_i hc
  have:=c.toNat_lt
  unfold aD3
  have:(decide ((c.toNat:Int)<48)||decide (57<(c.toNat:Int)))=true:=by
   rw [Bool.or_eq_true,decide_eq_true_eq,decide_eq_true_eq];omega
  rw [this]
  simp only [cond_true];omega
theorem aLZ:∀ (l:Bys) (k:Int),k ≤ -100000000→l.foldl aD3 k ≤ -100000000
 | [],k,h=>h
 | c::l,k,h=>by
  refine aLZ l _ ?_
  cases hc:Lib.digitVal c with
  | none=>exact aLY hc k
  | some d=>rw [aMa hc];have:=(aUk hc).1;omega
theorem aMb:∀ (l:Bys) (a:Nat),match Lib.decFrom a l with
  | some m=>l.foldl aD3 (a:Int)=(m:Int)
  | none=>l.foldl aD3 (a:Int) ≤ -100000000
 | [],a=>rfl
 | c::l,a=>by
  show match (match Lib.digitVal c with | some d=>Lib.decFrom (a*10+d) l | none=>none) with
   | some m=>l.foldl aD3 (aD3 a c)=(m:Int)
   | none=>l.foldl aD3 (aD3 a c) ≤ -100000000
  cases hc:Lib.digitVal c with
  | none=>exact aLZ l _ (aLY hc _)
  | some d =>
   have:=aMb l (a*10+d)
   rw [aMa hc,show 10*(a:Int)+(d:Int)=((a*10+d:Nat):Int) by omega]
   exact this
def aTm (s:Bys):Bool:=decide (1≤(s.length:Int))&&(decide ((s.length:Int)≤7) && !(((s.headD 0).toNat:Int)==48))
theorem aM9 (s:Bys) (hs:s.length≤1000):aA6 s=aBy s:=by
 have hR:aBy s=bif aTm s then (bif decide (0<aC7 s) then aC7 s else 100) else 100:=rfl
 have hf:=aMb s 0
 have key:∀ m,Lib.decFrom 0 s=some m→aTm s=true→aA6 s=m∧aBy s=m:=by
  intro m hm hb
  have hb2:=hb
  unfold aTm at hb2
  simp only [Bool.and_eq_true,decide_eq_true_eq,Bool.not_eq_true',beq_eq_false_iff_ne,ne_eq] at hb2
  obtain ⟨h1,h2,h3⟩:=hb2
  have hne:s≠[]:=fun e=>by rw [e] at h1;simp at h1
  obtain ⟨h4,h5⟩:=aMl _ s rfl hne (fun e=>h3 (by rw [e];rfl)) m hm
  have h6:m<10000000:=by
   have:=Lib.decFrom_lt s 0 m hm
   have hp:10 ^ s.length≤10 ^ 7:=Nat.pow_le_pow_right (by decide) (by omega)
   omega
  have hat:aGY s=some (m:Int):=by
   unfold aGY
   rw [Lib.atoiAll_short s (by omega)]
   cases s with
   | nil=>exact absurd rfl hne
   | cons c r =>
    have hc:∃ d,Lib.digitVal c=some d:=Lib.digit_of_decFrom _ _ _ hm 0 c rfl
    obtain ⟨d,hd⟩:=hc
    obtain ⟨hd9,rfl⟩:=aUk hd
    have e45:(UInt8.ofNat (48+d)==45)=false:=by
     rw [beq_eq_false_iff_ne];intro e
     have:=congrArg UInt8.toNat e
     rw [UInt8.toNat_ofNat_of_lt' (by show 48+d<256;omega)] at this
     have:48+d=45:=this
     omega
    have e43:(UInt8.ofNat (48+d)==43)=false:=by
     rw [beq_eq_false_iff_ne];intro e
     have:=congrArg UInt8.toNat e
     rw [UInt8.toNat_ofNat_of_lt' (by show 48+d<256;omega)] at this
     have:48+d=43:=this
     omega
    unfold Lib.atoi
    dsimp only
    rw [e45,e43]
    have hdn:Lib.decNat (UInt8.ofNat (48+d)::r)=some m:=by
     unfold Lib.decNat
     rw [List.isEmpty_cons,if_neg (by simp)];exact hm
    simp only [Bool.false_eq_true,if_false,hdn,Option.map_some,Lib.NumEnd.ofOption]
  constructor
  ·unfold aA6
   rw [hat]
   show (bif decide ((m:Int)<1)||decide (9999999<(m:Int)) || !(Lib.itoa (m:Int)==s) then 100 else (m:Int))=m
   rw [Lib.itoa_nonneg,h4,decide_eq_false (by omega),decide_eq_false (by omega)]
   simp
  ·rw [hm] at hf
   have hf:aC7 s=(m:Int):=hf
   rw [hR,hb,hf,decide_eq_true (by omega)];rfl
 cases hm:Lib.decFrom 0 s with
 | none =>
  rw [hm] at hf
  have hf:aC7 s ≤ -100000000:=hf
  have h1:aBy s=100:=by
   rw [hR,decide_eq_false (by omega)]
   cases aTm s<;>rfl
  rw [h1]
  unfold aA6
  cases ha:aGY s with
  | none=>rfl
  | some n =>
   show (bif decide (n<1)||decide (9999999<n) || !(Lib.itoa n==s) then 100 else n)=100
   cases hb:decide (n<1)||decide (9999999<n) || !(Lib.itoa n==s) with
   | true=>rfl
   | false =>
    simp only [Bool.or_eq_false_iff,decide_eq_false_iff_not,Bool.not_eq_false',beq_iff_eq] at hb
    obtain ⟨⟨h2,h3⟩,h4⟩:=hb
    have h5:=Lib.itoa_nonneg n.toNat
    rw [show ((n.toNat:Nat):Int)=n by omega,h4] at h5
    rw [h5,aRI] at hm;cases hm
 | some m =>
  cases hb:aTm s with
  | true=>obtain ⟨h1,h2⟩:=key m hm hb;rw [h1,h2]
  | false =>
   rw [hR,hb]
   show aA6 s=100
   unfold aA6
   cases ha:aGY s with
   | none=>rfl
   | some n =>
    show (bif decide (n<1)||decide (9999999<n) || !(Lib.itoa n==s) then 100 else n)=100
    cases hc:decide (n<1)||decide (9999999<n) || !(Lib.itoa n==s) with
    | true=>rfl
    | false =>
     simp only [Bool.or_eq_false_iff,decide_eq_false_iff_not,Bool.not_eq_false',beq_iff_eq] at hc
     obtain ⟨⟨h2,h3⟩,h4⟩:=hc
     have h5:=Lib.itoa_nonneg n.toNat
     rw [show ((n.toNat:Nat):Int)=n by omega,h4] at h5
     have h6:=aPB 6 n.toNat (by have:(10:Nat) ^ (6+1)=10000000:=(by decide);omega)
     have h7:=aRH n.toNat (by omega)
     rw [←h5] at h6 h7
     have h8:=aSA n.toNat
     rw [←h5] at h8
     have h9:0<s.length:=List.length_pos_iff.2 h8
     have:aTm s=true:=by
      unfold aTm
      rw [decide_eq_true (by omega),decide_eq_true (by omega),show (((s.headD 0).toNat:Int)==48)=false by rw [beq_eq_false_iff_ne];omega];rfl
     rw [hb] at this;cases this
section
variable {l:List Ob}
theorem aMc (hv:aAc l=true) {o:Ob}(ho:o∈l):l[(aAm l o.id).toNat]?=some o:=by
 obtain ⟨k,o2,h1,h2,h3⟩:=aDi (aCq (aAP hv) ho).1
 rw [h1,Int.toNat_natCast,h2,aDB (aAP hv) (gm h2) ho h3]
theorem aR8 {s:Bys}(h:¬ aAm l s<0):∃ o∈l,o.id=s∧l[(aAm l s).toNat]?=some o:=by
 obtain ⟨k,o,h1,h2,h3⟩:=aDi h
 exact ⟨o,gm h2,h3,by rw [h1,Int.toNat_natCast,h2]⟩
theorem aPb {s:Bys}{p:Pt}(h:aA8 l s=some p):∃ o∈l,o.kind=1∧o.id=s∧p=(o.x,o.y):=by
 have key:∀ (l:List Ob) (r:Option Pt),l.foldl (fun r o=>bif (o.kind==1)&&(o.id==s) then some (o.x,o.y) else r) r=some p→r=some p∨∃ o∈l,o.kind=1∧o.id=s∧p=(o.x,o.y):=by
  intro l
  induction l with
  | nil=>intro r h;exact .inl h
  | cons o l ih =>
   intro r h
   rw [List.foldl_cons] at h
   rcases ih _ h with h1 | ⟨y,hy,h2⟩
   ·cases hc:(o.kind==1)&&(o.id==s) with
    | false=>rw [hc] at h1;exact .inl h1
    | true =>
     rw [hc] at h1
     rw [Bool.and_eq_true] at hc
     exact .inr ⟨o,.head _,et hc.1,et hc.2,(Option.some.inj h1).symm⟩
   ·exact .inr ⟨y,.tail _ hy,h2⟩
 rcases key l none h with h | h
 ·cases h
 ·exact h
theorem aOZ {o:Ob}(ho:o∈l) (hk:o.kind=1):aAg l o.id=true:=by
 have key:∀ (l:List Ob) (r:Option Pt),(r.isSome=true∨o∈l)→(l.foldl (fun r y=>bif (y.kind==1)&&(y.id==o.id) then some (y.x,y.y) else r) r).isSome=true:=by
  intro l
  induction l with
  | nil=>intro r h;exact h.resolve_right (by simp)
  | cons y l ih =>
   intro r h
   rw [List.foldl_cons]
   refine ih _ ?_
   rcases h with h | h
   ·left;cases (y.kind==1)&&(y.id==o.id)<;>simp [h]
   ·rcases List.mem_cons.1 h with rfl | h
    ·left;rw [beq_iff_eq.2 hk,beq_self_eq_true];rfl
    ·exact .inr h
 exact key l none (.inr ho)
theorem aFS {s:Bys}:aAg l s=true↔∃ o∈l,o.kind=1∧o.id=s:=by
 constructor
 ·intro h
  obtain ⟨p,hp⟩:=Option.isSome_iff_exists.1 h
  obtain ⟨o,h1,h2,h3,_⟩:=aPb hp
  exact ⟨o,h1,h2,h3⟩
 ·rintro ⟨o,h1,h2,rfl⟩;exact aOZ h1 h2
theorem aPa (hv:aAc l=true) {s:Bys}(h:aAg l s=true):aU6 l s=(aA8 l s).getD (0,0):=by
 obtain ⟨p,hp⟩:=Option.isSome_iff_exists.1 h
 obtain ⟨o,h1,_,rfl,h3⟩:=aPb hp
 unfold aU6
 rw [aMc hv h1,hp,h3];rfl
theorem aK3 (hv:aAc l=true) {S:Ob→Bool}(hS:∀ x∈l,x.kind=1→S x=true) {o:Ob}{i:Nat}{s:Bys}(hs:o.refs[i]?=some s) (hk:aCg o (i:Int)=1):aCi l S o i=aAg l s:=by
 unfold aCi
 rw [hs]
 show ((!decide (aAm l s<0))&&(match l[(aAm l s).toNat]? with | some x=>(x.kind==aCg o (i:Int))&&S x | none=>false))=_
 rw [hk]
 by_cases h:aAm l s<0
 ·rw [decide_eq_true h]
  have:aAg l s=false:=by
   rw [Bool.eq_false_iff,ne_eq,aFS]
   rintro ⟨y,hy,_,rfl⟩
   exact (aCq (aAP hv) hy).1 h
  rw [this];rfl
 ·obtain ⟨x,hx,hid,hat⟩:=aR8 h
  rw [decide_eq_false h,hat]
  show ((x.kind==1)&&S x)=_
  cases hxk:(x.kind==1) with
  | true=>rw [hS x hx (et hxk)];exact (aFS.2 ⟨x,hx,et hxk,hid⟩).symm
  | false =>
   have:aAg l s=false:=by
    rw [Bool.eq_false_iff,ne_eq,aFS]
    rintro ⟨y,hy,hyk,he⟩
    rw [aDB (aAP hv) hy hx (he.trans hid.symm)] at hyk
    exact ef hxk hyk
   rw [this];rfl
theorem aPX {α:Type}{L:List α}{f:Nat→Bool}{g:α→Bool}(h:∀ i s,L[i]?=some s→f i=g s):(List.range L.length).all f=L.all g:=by
 rw [Bool.eq_iff_iff,List.all_eq_true,List.all_eq_true]
 constructor
 ·intro k s hs
  obtain ⟨i,hi⟩:=List.getElem?_of_mem hs
  rw [←h i s hi];exact k i (List.mem_range.2 (gl hi))
 ·intro k i hi
  obtain ⟨s,hs⟩:=geb (List.mem_range.1 hi)
  rw [h i s hs];exact k s (gm hs)
theorem aS0 {o:Ob}(h:o.kind=2) (i:Int):aCg o i=1:=by unfold aCg;rw [h];rfl
theorem aSo (hv:aAc l=true) {o:Ob}(h:o.kind=2):aJr l o=o.refs.all (aAg l):=aPX fun i s hs=>aK3 hv (fun _ _ _=>rfl) hs (aS0 h _)
theorem aOv (hv:aAc l=true) {o:Ob}(ho:o∈l) (h:o.kind=1):aJr l o=true:=by
 unfold aJr aD4
 rw [aJ9 (aDW hv o ho) h];rfl
theorem aL7 (hv:aAc l=true) {o:Ob}(h:o.kind=2):aEe l o=o.refs.all (aAg l):=aPX fun i s hs=>aK3 hv (fun x hx hk=>aOv hv hx hk) hs (aS0 h _)
def aVS (l:List Ob) (o:Ob):Bool:=(o.kind==2)&&aEe l o
theorem aSR (hv:aAc l=true) {o:Ob}(ho:o∈l):aVR (aAg l) l o.id=bif (o.kind==2)&&o.refs.all (aAg l) then some o else none:=by
 have k1:∀ (m:List Ob) (r:Option Ob) (c:Ob),m.foldl (fun r y=>bif ((y.kind==2)&&y.refs.all (aAg l))&&(y.id==o.id) then some y else r) r=some c→r=some c∨(c∈m∧(((c.kind==2)&&c.refs.all (aAg l))&&(c.id==o.id))=true):=by
  intro m
  induction m with
  | nil=>intro r c h;exact .inl h
  | cons y m ih =>
   intro r c h
   rw [List.foldl_cons] at h
   rcases ih _ c h with h1 | ⟨h1,h2⟩
   ·cases hc:((y.kind==2)&&y.refs.all (aAg l))&&(y.id==o.id) with
    | false=>rw [hc] at h1;exact .inl h1
    | true=>rw [hc] at h1;cases h1;exact .inr ⟨.head _,hc⟩
   ·exact .inr ⟨.tail _ h1,h2⟩
 have k2:∀ (m:List Ob) (r:Option Ob),(r.isSome=true∨∃ c∈m,(((c.kind==2)&&c.refs.all (aAg l))&&(c.id==o.id))=true)→(m.foldl (fun r y=>bif ((y.kind==2)&&y.refs.all (aAg l))&&(y.id==o.id) then some y else r) r).isSome=true:=by
  intro m
  induction m with
  | nil=>intro r h;exact h.resolve_right (by rintro ⟨c,hc,_⟩;cases hc)
  | cons y m ih =>
   intro r h
   rw [List.foldl_cons]
   refine ih _ ?_
   rcases h with h | ⟨c,hc,h2⟩
   ·left;cases ((y.kind==2)&&y.refs.all (aAg l))&&(y.id==o.id)<;>simp [h]
   ·rcases List.mem_cons.1 hc with rfl | hc
    ·left;rw [h2];rfl
    ·exact .inr ⟨c,hc,h2⟩
 cases hc:(o.kind==2)&&o.refs.all (aAg l) with
 | true =>
  have h1:=k2 l none (.inr ⟨o,ho,by rw [hc,beq_self_eq_true];rfl⟩)
  obtain ⟨c,hcc⟩:=Option.isSome_iff_exists.1 h1
  rcases k1 l none c hcc with h | ⟨h2,h3⟩
  ·cases h
  ·rw [Bool.and_eq_true] at h3
   rw [aDB (aAP hv) h2 ho (et h3.2)] at hcc
   exact hcc
 | false =>
  cases hw:aVR (aAg l) l o.id with
  | none=>rfl
  | some c =>
   rcases k1 l none c hw with h | ⟨h2,h3⟩
   ·cases h
   ·rw [Bool.and_eq_true] at h3
    rw [aDB (aAP hv) h2 ho (et h3.2),hc] at h3
    cases h3.1
theorem aRT (hv:aAc l=true) {o:Ob}(ho:o∈l):aNw l o=bif aVS l o then aFc l o.id o.refs else []:=by
 unfold aNw aVS
 rw [aSR hv ho]
 cases hk:(o.kind==2) with
 | false=>rfl
 | true =>
  rw [aL7 hv (et hk)]
  cases o.refs.all (aAg l)<;>rfl
theorem aEy {α β:Type}{p:α→Bool}{g:α→List β}:∀ l:List α,(l.filter p).flatMap g=l.flatMap fun o=>bif p o then g o else []
 | []=>rfl
 | a::l=>by
  rw [List.filter_cons,List.flatMap_cons]
  cases h:p a with
  | true=>rw [if_pos rfl,List.flatMap_cons,aEy l];rfl
  | false=>rw [if_neg (by simp),aEy l];rfl
theorem aHL {α β:Type}{f g:α→List β}:∀ {l:List α},(∀ o∈l,f o=g o)→l.flatMap f=l.flatMap g
 | [],_=>rfl
 | a::l,h=>by rw [List.flatMap_cons,List.flatMap_cons,h a (.head _),aHL fun o ho=>h o (.tail _ ho)]
theorem aSE (hv:aAc l=true):asP l=(l.filter (aVS l)).flatMap fun o=>aFc l o.id o.refs:=by
 unfold asP
 rw [aEy]
 exact aHL fun o ho=>aRT hv ho
def ns (A:List Arc) (a:Arc):List Arc:=bif A.contains a then A else A++[a]
def aLo (l:List Ob) (A:List Arc):Prop:=∀ a∈A,a.2.2.2=aAA l a.1 a.2.1
theorem aPU {A:List Arc}(hA:aLo l A) {f t w:Bys}(he:aVN l f t=aAA l f t):aE3 l A f t w=ns A (f,t,w,aAA l f t)∧aLo l (aE3 l A f t w):=by
 have e:A.any (aDK f t w)=A.contains (f,t,w,aAA l f t):=by
  rw [Bool.eq_iff_iff,List.any_eq_true,List.contains_iff_mem]
  constructor
  ·rintro ⟨a,ha,h⟩
   unfold aDK at h
   simp only [Bool.and_eq_true,beq_iff_eq] at h
   obtain ⟨h1,h2,h3⟩:=h
   have:=hA a ha
   rw [h1,h2] at this
   rw [show (f,t,w,aAA l f t)=a from Prod.ext h1.symm (Prod.ext h2.symm (Prod.ext h3.symm this.symm))]
   exact ha
  ·intro h
   exact ⟨_,h,by unfold aDK;simp⟩
 unfold aE3 ns
 rw [e,he]
 refine ⟨rfl,?_⟩
 cases A.contains (f,t,w,aAA l f t) with
 | true=>exact hA
 | false =>
  intro a ha
  rcases List.mem_append.1 ha with ha | ha
  ·exact hA a ha
  ·rw [List.mem_singleton] at ha;subst ha;rfl
theorem aPT (hv:aAc l=true) {f t:Bys}(hf:aAg l f=true) (ht:aAg l t=true):aVN l f t=aAA l f t:=by
 unfold aVN aAA
 rw [aPa hv hf,aPa hv ht]
theorem aRV (hv:aAc l=true) {f t:Bys}(hf:aAg l f=true) (ht:aAg l t=true):aAA l t f=aAA l f t:=by
 obtain ⟨p,hp⟩:=Option.isSome_iff_exists.1 hf
 obtain ⟨q,hq⟩:=Option.isSome_iff_exists.1 ht
 unfold aAA
 rw [hp,hq]
 show max 1 (aB5 (aAN q p))=max 1 (aB5 (aAN p q))
 have e:aAN q p=aAN p q:=by
  unfold aAN
  rw [Bool.and_comm (aBs q)]
  cases aBs p&&aBs q with
  | false=>rfl
  | true =>
   simp only [cond_true]
   rw [show p.1-q.1 = -(q.1-p.1) by omega,show p.2-q.2 = -(q.2-p.2) by omega,Int.neg_mul_neg,Int.neg_mul_neg]
 rw [e]
theorem aMv (hv:aAc l=true) {w:Bys}{rs:List Bys}(hn:∀ s∈rs,aAg l s=true) {A:List Arc}(hA:aLo l A):∀ k,k≤rs.length-1→(aFc l w rs).foldl ns A=(aFc l w (rs.drop k)).foldl ns (aBM l w rs A k)∧aLo l (aBM l w rs A k)
 | 0,_=>⟨rfl,hA⟩
 | k+1,hk=>by
  obtain ⟨h1,h2⟩:=aMv hv (w:=w) hn hA k (by omega)
  obtain ⟨a,ha⟩:=geb (l:=rs) (i:=k) (by omega)
  obtain ⟨b,hb⟩:=geb (l:=rs) (i:=k+1) (by omega)
  have na:=hn a (gm ha)
  have nb:=hn b (gm hb)
  obtain ⟨h3,h4⟩:=aPU (w:=w) h2 (aPT hv na nb)
  obtain ⟨h5,h6⟩:=aPU (w:=w) h4 (aPT hv nb na)
  rw [aMu ha hb]
  refine ⟨?_,h6⟩
  rw [h1,aOs ha hb,List.foldl_cons,List.foldl_cons,h5,h3,aRV hv na nb]
theorem aPS (hv:aAc l=true) {w:Bys}{rs:List Bys}(hn:∀ s∈rs,aAg l s=true) {A:List Arc}(hA:aLo l A):aBM l w rs A (rs.length-1)=(aFc l w rs).foldl ns A∧aLo l (aBM l w rs A (rs.length-1)):=by
 obtain ⟨h1,h2⟩:=aMv hv (w:=w) hn hA (rs.length-1) (Nat.le_refl _)
 refine ⟨?_,h2⟩
 rw [h1,aL5 (by omega)];rfl
theorem aMw (hv:aAc l=true) {B:List Ob}(hB:∀ o∈B,∀ s∈o.refs,aAg l s=true):∀ i,i≤B.length→aBo l B i=((B.take i).flatMap fun o=>aFc l o.id o.refs).foldl ns []∧aLo l (aBo l B i)
 | 0,_=>⟨rfl,fun a ha=>by cases ha⟩
 | i+1,hi=>by
  obtain ⟨h1,h2⟩:=aMw hv hB i (by omega)
  obtain ⟨o,ho⟩:=geb (l:=B) (i:=i) (by omega)
  obtain ⟨h3,h4⟩:=aPS hv (w:=o.id) (hB o (gm ho)) h2
  rw [aIO ho]
  refine ⟨?_,h4⟩
  rw [h3,h1,gt_ ho,List.flatMap_append,List.foldl_append,List.flatMap_singleton]
end
theorem aEq (os:List ObR) (k:Int):aAa (ofR os k os)=(aAa os).filter fun o=>(o.kind==k)&&aEe (aAa os) o:=by
 unfold ofR
 conv=>lhs;unfold aAa
 conv=>rhs;arg 2;unfold aAa
 rw [List.filter_map];rfl
theorem aPQ {os:List ObR}(hv:aAc (aAa os)=true):aBo (aAa os) (aAa (ofR os 2 os)) (ofR os 2 os).length=asQ (aAa os):=by
 have e:=aEq os 2
 have hB:∀ o∈aAa (ofR os 2 os),∀ s∈o.refs,aAg (aAa os) s=true:=by
  intro o ho s hs
  rw [e,List.mem_filter,Bool.and_eq_true] at ho
  have h2:=ho.2.2
  rw [aL7 hv (et ho.2.1),List.all_eq_true] at h2
  exact h2 s hs
 rw [←aA1 (ofR os 2 os),(aMw hv hB _ (Nat.le_refl _)).1,List.take_length]
 unfold asQ
 rw [aSE hv,e];rfl
section
variable {l:List Ob}
theorem aL3 {w:Bys}:∀ {rs:List Bys}{a:Arc},a∈aFc l w rs→a.2.2.1=w∧a.1∈rs∧a.2.1∈rs
 | [],a,h=>by cases h
 | [_],a,h=>by cases h
 | x::y::t,a,h=>by
  unfold aFc at h
  rcases List.mem_cons.1 h with rfl | h
  ·exact ⟨rfl,by simp,by simp⟩
  ·rcases List.mem_cons.1 h with rfl | h
   ·exact ⟨rfl,by simp,by simp⟩
   ·obtain ⟨h1,h2,h3⟩:=aL3 h
    exact ⟨h1,.tail _ h2,.tail _ h3⟩
theorem aGZ (hv:aAc l=true) {a:Arc}(ha:a∈asQ l):∃ o∈l,o.kind=2∧o.id=a.2.2.1∧a.1∈o.refs∧a.2.1∈o.refs∧o.refs.all (aAg l)=true:=by
 have h:=aDF ha
 rw [aSE hv,List.mem_flatMap] at h
 obtain ⟨o,ho,h2⟩:=h
 rw [List.mem_filter] at ho
 obtain ⟨h3,h4,h5⟩:=aL3 h2
 have hk:=ho.2
 unfold aVS at hk
 rw [Bool.and_eq_true] at hk
 exact ⟨o,ho.1,et hk.1,h3.symm,h4,h5,by rw [←aL7 hv (et hk.1)];exact hk.2⟩
theorem aKU {n:Bys}{o:Ob}:∀ {L:List Ob},o∈L→(∀ x∈L,x.id=o.id→x=o)→aLX o.id n L=o.refs.contains n
 | [],h,_=>by cases h
 | y::L,h,hu=>by
  show (bif y.id==o.id then y.refs.contains n else aLX o.id n L)=_
  cases hy:(y.id==o.id) with
  | true=>rw [hu y (.head _) (et hy)];rfl
  | false =>
   rcases List.mem_cons.1 h with rfl | h
   ·rw [beq_self_eq_true] at hy;cases hy
   ·exact aKU h fun x hx=>hu x (.tail _ hx)
theorem aMT {o:Ob}(hv:aA5 o=true) (hk:o.kind=5):o.refs.length=3:=by
 unfold aA5 at hv
 simp only [Bool.and_eq_true] at hv
 have:=hv.2
 rw [show (o.kind==1)=false from beq_eq_false_iff_ne.2 (by omega),show (o.kind==5)=true from beq_iff_eq.2 hk] at this
 simp only [cond_false,cond_true,Bool.and_eq_true,beq_iff_eq] at this
 omega
theorem aSn (hv:aAc l=true) {S:Ob→Bool}{o x:Ob}{i:Nat}(hs:o.refs[i]?=some x.id) (hk:aCg o (i:Int)=2) (hx:x∈l) (hxk:x.kind=2) (hS:S x=true):aCi l S o i=true:=by
 unfold aCi
 rw [hs]
 show ((!decide (aAm l x.id<0))&&(match l[(aAm l x.id).toNat]? with | some x=>(x.kind==aCg o (i:Int))&&S x | none=>false))=_
 rw [hk,decide_eq_false (aCq (aAP hv) hx).1,aMc hv hx]
 show ((x.kind==2)&&S x)=true
 rw [hS,hxk];rfl
end
theorem aNU {os:List ObR}(hv:aAc (aAa os)=true) (prof:Bys) {a b:Arc}(ha:a∈asQ (aAa os)) (hb:b∈asQ (aAa os)):aE7 os prof a b=aFa prof (aAa os) a b:=by
 unfold aE7 aFa
 cases h1:(a.2.1==b.1) with
 | false=>rfl
 | true =>
  have h1:=et h1
  unfold aRR
  cases h2:(prof==aET) with
  | true=>simp
  | false =>
   simp only [Bool.true_and,Bool.false_or,cond_false]
   obtain ⟨oa,qa1,qa2,qa3,qa4,qa5,qa6⟩:=aGZ hv ha
   obtain ⟨ob,qb1,qb2,qb3,qb4,qb5,qb6⟩:=aGZ hv hb
   have ew:∀ {o:Ob},o∈aAa os→o.kind=2→o.refs.all (aAg (aAa os))=true→o∈aAa (ofR os 2 os):=fun {o} k1 k2 k3=>by
    rw [aEq,List.mem_filter]
    exact ⟨k1,by rw [k2,aL7 hv k2,k3];rfl⟩
   have eu:∀ {o x:Ob},o∈aAa os→x∈aAa (ofR os 2 os)→x.id=o.id→x=o:=fun {o x} k1 k2 k3=>by
    rw [aEq,List.mem_filter] at k2
    exact aDB (aAP hv) k2.1 k1 k3
   unfold aFE
   rw [←qa3,←qb3,aKU (ew qa1 qa2 qa6) (fun x hx=>eu qa1 hx),aKU (ew qb1 qb2 qb6) (fun x hx=>eu qb1 hx),List.contains_iff_mem.2 qa5,List.contains_iff_mem.2 (h1▸qb4:a.2.1∈ob.refs),Bool.true_and,Bool.true_and]
   congr 1
   rw [Bool.eq_iff_iff,List.any_eq_true,List.contains_iff_mem,List.mem_map]
   constructor
   ·rintro ⟨o,ho,h⟩
    rw [aEq,List.mem_filter,Bool.and_eq_true] at ho
    unfold aCT at h
    simp only [Bool.and_eq_true,beq_iff_eq] at h
    exact ⟨o,List.mem_filter.2 ⟨ho.1,ho.2.1⟩,by unfold aSZ;rw [h.1,h.2.1,h.2.2]⟩
   ·rintro ⟨o,ho,h⟩
    rw [List.mem_filter] at ho
    have hk:=et ho.2
    unfold aSZ at h
    have e0:=congrArg (·.1) h
    have e1:=congrArg (·.2.1) h
    have e2:=congrArg (·.2.2) h
    simp only at e0 e1 e2
    have h3:=aMT (aDW hv o ho.1) hk
    obtain ⟨r0,hr0⟩:=geb (l:=o.refs) (i:=0) (by omega)
    obtain ⟨r1,hr1⟩:=geb (l:=o.refs) (i:=1) (by omega)
    obtain ⟨r2,hr2⟩:=geb (l:=o.refs) (i:=2) (by omega)
    rw [gd9 hr0] at e0
    rw [gd9 hr1] at e1
    rw [gd9 hr2] at e2
    refine ⟨o,?_,by unfold aCT;rw [gd9 hr0,gd9 hr1,gd9 hr2,e0,e1,e2];simp⟩
    rw [aEq,List.mem_filter]
    refine ⟨ho.1,?_⟩
    rw [hk]
    show aEe (aAa os) o=true
    unfold aEe aD4
    rw [h3,List.all_eq_true]
    intro i hi
    have hi:=List.mem_range.1 hi
    rcases (by omega:i=0∨i=1∨i=2) with rfl | rfl | rfl
    ·exact aSn hv (x:=oa) (by rw [hr0,e0]) (by unfold aCg;rw [hk];rfl) qa1 qa2 (by rw [aSo hv qa2];exact qa6)
    ·rw [aK3 hv (fun x hx hk=>aOv hv hx hk) hr1 (by unfold aCg;rw [hk];rfl),e1]
     exact List.all_eq_true.1 qa6 _ qa5
    ·exact aSn hv (x:=ob) (by rw [hr2,e2]) (by unfold aCg;rw [hk];rfl) qb1 qb2 (by rw [aSo hv qb2];exact qb6)
theorem aTx {l:List Ob}(hv:aAc l=true) (prof:Bys) {o:Ob}(ho:o∈l) (hk:o.kind=2):aIn prof l o.id=aAt prof o:=by
 unfold aIn
 cases hf:((l.filter fun o=>o.kind==2).reverse).find? fun y=>y.id==o.id with
 | none =>
  have:=List.find?_eq_none.1 hf o (by rw [List.mem_reverse,List.mem_filter];exact ⟨ho,beq_iff_eq.2 hk⟩)
  simp at this
 | some y =>
  have h1:=List.find?_some hf
  have h2:=List.mem_of_find?_eq_some hf
  rw [List.mem_reverse,List.mem_filter] at h2
  rw [aDB (aAP hv) h2.1 ho (by simpa using h1)]
theorem aTF (prof:Bys) (o:Ob) (a:Arc):aAR prof o a = !((aAt prof o).closed||((aAt prof o).oneway && !fwd a.1 a.2.1 (aAt prof o).refs)):=by
 show (bif (aAw o.tags prof).1==[110,111] then false else bif (prof==aET) || !((aAw o.tags [111,110,101,119,97,121]).1==[121,101,115]) then true else fwd a.1 a.2.1 o.refs) = !(((aAw o.tags prof).1==[110,111])||((((aAw o.tags [111,110,101,119,97,121]).1==[121,101,115]) && !(prof==aET)) && !fwd a.1 a.2.1 o.refs))
 cases (aAw o.tags prof).1==[110,111]<;>cases prof==aET<;>cases (aAw o.tags [111,110,101,119,97,121]).1==[121,101,115]<;>cases fwd a.1 a.2.1 o.refs<;>rfl
theorem aOD {os:List ObR}(hv:aAc (aAa os)=true) {prof:Bys}{A:List Arc}{x:LkR}{a:Arc}(hx:LkS os prof A x a) (ha:a∈asQ (aAa os)) {m:Int}(h0:0≤m):match aMX (aIn prof (aAa os) a.2.2.1) a m with
  | some y=>aCx x m=(y,true)
  | none=>(aCx x m).2=false:=by
 obtain ⟨o,q1,q2,q3,_,_,_⟩:=aGZ hv ha
 obtain ⟨z,hz,rfl⟩:=List.mem_map.1 q1
 have hw:=aGh hv hz q3
 have hsp:=aM9 (aAw z.o.tags [115,112,101,101,100]).1 (Nat.le_trans (aBQ (aDW hv z.o q1) _) (by decide))
 rw [←q3,aTx hv prof q1 q2]
 have e1:x.op = !((aAt prof z.o).closed||((aAt prof z.o).oneway && !fwd a.1 a.2.1 (aAt prof z.o).refs)):=by rw [hx.op,hw];exact aTF prof z.o a
 have e2:x.tk=(a.2.2.2+(aAt prof z.o).speed-1) / (aAt prof z.o).speed:=by
  rw [hx.tk];unfold aAZ;rw [hw,←hsp];rfl
 have e3:x.fr = !(aAt prof z.o).limited:=by rw [hx.fr,hw];rfl
 have e4:(aAt prof z.o).limited=true→x.hs=(aAt prof z.o).hours:=fun h=>by
  have h:((aAw z.o.tags [104,111,117,114,115]).2&&aDq z.o)=true:=h
  rw [Bool.and_eq_true] at h
  rw [hx.hs,hw,h.1];rfl
 generalize aAt prof z.o=r at e1 e2 e3 e4
 unfold aMX aCx
 rw [e1,e2,e3,decide_eq_false (show ¬ m<0 by omega)]
 cases hc:(r.closed||(r.oneway && !fwd a.1 a.2.1 r.refs)) with
 | true=>rfl
 | false =>
  simp only [Bool.not_false,Bool.not_true,Bool.false_or]
  cases hm:decide (1000000000<m) with
  | true=>rfl
  | false =>
   simp only [cond_false]
   cases hl:r.limited with
   | false=>rfl
   | true =>
    simp only [Bool.not_true,cond_false,cond_true]
    rw [e4 hl]
    cases hn:(aAy r.hours m).2 with
    | false=>rfl
    | true =>
     simp only [Bool.not_true,Bool.false_or,Bool.true_and]
     cases hg:decide (1000000000<(aAy r.hours m).1) with
     | true=>show decide ((aAy r.hours m).1≤1000000000)=false;have:=dt hg;exact decide_eq_false (by omega)
     | false=>rw [cond_false,decide_eq_true (show (aAy r.hours m).1≤1000000000 by have:=df hg;omega)]
theorem aOU {os:List ObR}{prof:Bys}{A:List Arc}{a:Arc}{z:Int}:∀ {k:Nat},z∈nxK os prof A a k↔∃ j,j<k∧z=(j:Int)∧∃ b,A[j]?=some b∧aE7 os prof a b=true
 | 0=>⟨fun h=>(by cases h),fun ⟨j,h,_⟩=>absurd h (Nat.not_lt_zero _)⟩
 | k+1=>by
  have ih:=aOU (os:=os) (prof:=prof) (A:=A) (a:=a) (z:=z) (k:=k)
  cases hA:A[k]? with
  | none =>
   have e:nxK os prof A a (k+1)=nxK os prof A a k:=by
    show (match A[k]? with | some b=>_ | none=>_)=_
    rw [hA]
   rw [e,ih]
   constructor
   ·rintro ⟨j,h1,h2⟩;exact ⟨j,by omega,h2⟩
   ·rintro ⟨j,h1,h2,b,h3,h4⟩
    refine ⟨j,?_,h2,b,h3,h4⟩
    rcases Nat.lt_or_ge j k with h | h
    ·exact h
    ·rw [show j=k by omega,hA] at h3;cases h3
  | some b =>
   rw [aOT hA]
   cases ht:aE7 os prof a b with
   | true =>
    rw [cond_true,List.mem_append,ih,List.mem_singleton]
    constructor
    ·rintro (⟨j,h1,h2⟩ | rfl)
     ·exact ⟨j,by omega,h2⟩
     ·exact ⟨k,by omega,rfl,b,hA,ht⟩
    ·rintro ⟨j,h1,h2,c,h3,h4⟩
     rcases Nat.lt_or_ge j k with h | h
     ·exact .inl ⟨j,h,h2,c,h3,h4⟩
     ·right;rw [h2,show j=k by omega]
   | false =>
    rw [cond_false,ih]
    constructor
    ·rintro ⟨j,h1,h2⟩;exact ⟨j,by omega,h2⟩
    ·rintro ⟨j,h1,h2,c,h3,h4⟩
     refine ⟨j,?_,h2,c,h3,h4⟩
     rcases Nat.lt_or_ge j k with h | h
     ·exact h
     ·rw [show j=k by omega,hA] at h3;cases h3
      rw [ht] at h4;cases h4
section
variable {N:NetW}{B m0:Int}{t:Nat→Option Int}
end
section
variable {os:List ObR}{prof f g:Bys}{m0 c:Int}{nd:List Bys}{mi:List Int}
theorem aTL {l:List Ob}{i:Nat}{a:Arc}(h:(asQ l)[i]?=some a) (m:Int):(aFT prof l f).ps i m=aMX (aIn prof l a.2.2.1) a m:=by
 show (match (asQ l)[i]? with | some a=>_ | none=>_)=_
 rw [h]
theorem aTK {l:List Ob}{i:Nat}{a:Arc}(h:(asQ l)[i]?=some a):(aFT prof l f).st i=(a.1==f):=by
 show (match (asQ l)[i]? with | some a=>_ | none=>_)=_
 rw [h]
theorem aTM {l:List Ob}{i k:Nat}{a b:Arc}(h:(asQ l)[i]?=some a) (h2:(asQ l)[k]?=some b):(aFT prof l f).al i k=aFa prof l a b:=by
 show (match (asQ l)[i]?,(asQ l)[k]? with | some a,some b=>aFa prof l a b | _,_=>false)=_
 rw [h,h2]
theorem aVt {A:List Arc}{L:List LkR}(hL:LksP os prof A L A.length) {i:Nat}{a:Arc}(ha:A[i]?=some a):∃ x,L[i]?=some x∧LkS os prof A x a:=by
 obtain ⟨x,hx⟩:=geb (l:=L) (i:=i) (by rw [hL.len];exact gl ha)
 obtain ⟨b,hb,h⟩:=hL.at_ i x hx
 rw [ha] at hb;cases hb
 exact ⟨x,hx,h⟩
def aNy (os:List ObR) (prof f:Bys) (m0 at_:Int) (nx:List Int):Prop :=
 (at_=m0∧∀ z∈nx,∃ j a,z=((j:Nat):Int)∧(asQ (aAa os))[j]?=some a∧a.1=f) ∨
 (∃ i,Rch (aFT prof (aAa os) f) m0 i at_∧∀ z∈nx,∃ j a d,z=((j:Nat):Int)∧(asQ (aAa os))[j]?=some a∧(asQ (aAa os))[i]?=some d∧aFa prof (aAa os) d a=true)
theorem aST {at_:Int}{nx:List Int}(h:aNy os prof f m0 at_ nx) {z:Int}(hz:z∈nx):∃ j a,z=((j:Nat):Int)∧(asQ (aAa os))[j]?=some a:=by
 rcases h with ⟨_,h⟩ | ⟨_,_,h⟩
 ·obtain ⟨j,a,h1,h2,_⟩:=h z hz;exact ⟨j,a,h1,h2⟩
 ·obtain ⟨j,a,d,h1,h2,_⟩:=h z hz;exact ⟨j,a,h1,h2⟩
theorem aSS (hok:∀ a∈asQ (aAa os),ArcB a) (h0:0≤m0) {at_:Int}{nx:List Int}(h:aNy os prof f m0 at_ nx):0≤at_∧at_≤6000000000+m0:=by
 rcases h with ⟨rfl,_⟩ | ⟨i,h,_⟩
 ·omega
 ·have:=h.ge (aFs (prof:=prof) hok f) h0
  have:=h.le (aFs (prof:=prof) hok f) h0
  omega
theorem aNM (hok:∀ a∈asQ (aAa os),ArcB a) (hv:aAc (aAa os)=true) {L:List LkR}(hL:LksP os prof (asQ (aAa os)) L (asQ (aAa os)).length) (h0:0≤m0) {at_:Int}{nx:List Int}(h:aNy os prof f m0 at_ nx) {j:Nat}(hz:(j:Int)∈nx) {x:LkR}(hx:L[j]?=some x) {n:Int}(hn:aCx x at_=(n,true)) :
  Rch (aFT prof (aAa os) f) m0 j n∧aNy os prof f m0 n x.nx:=by
 obtain ⟨a,ha,hxs⟩:=hL.at_ j x hx
 have hg:=(aSS hok h0 h).1
 have hp:=aOD hv hxs (gm ha) hg
 rw [←aTL (prof:=prof) (f:=f) ha] at hp
 have hps:(aFT prof (aAa os) f).ps j at_=some n:=by
  cases hc:(aFT prof (aAa os) f).ps j at_ with
  | none =>
   rw [hc] at hp
   have hp:(aCx x at_).2=false:=hp
   rw [hn] at hp;cases hp
  | some y =>
   rw [hc] at hp
   have hp:aCx x at_=(y,true):=hp
   rw [hn] at hp;cases hp;rfl
 have hr:Rch (aFT prof (aAa os) f) m0 j n:=by
  rcases h with ⟨rfl,h⟩ | ⟨i,h1,h⟩
  ·obtain ⟨j2,b,e,hb,hf⟩:=h _ hz
   have e:j=j2:=by omega
   subst e
   exact .base (gl ha) (by rw [aTK hb,hf];simp) hps
  ·obtain ⟨j2,b,d,e,hb,hd,hal⟩:=h _ hz
   have e:j=j2:=by omega
   subst e
   exact .step h1 (gl ha) (by rw [aTM hd hb];exact hal) hps
 refine ⟨hr,.inr ⟨j,hr,fun z hz=>?_⟩⟩
 rw [hxs.nx,aOU] at hz
 obtain ⟨k,_,h2,b,h3,h4⟩:=hz
 exact ⟨k,b,a,h2,h3,ha,by rw [←aNU hv prof (gm ha) (gm h3)];exact h4⟩
theorem aNL (hok:∀ a∈asQ (aAa os),ArcB a) (hc:aHs (aAa os) prof m0 [f,f]=0) {j:Nat}{a:Arc}(ha:(asQ (aAa os))[j]?=some a) {n:Int}(hr:Rch (aFT prof (aAa os) f) m0 j n) (h:aHv prof (aAa os) f a.2.1 m0 c nd mi):c=0∧∃ x,aRE c mi=some x∧x≤n:=by
 obtain ⟨hv,hp,k0,k1,hf,hk⟩:=aLh hc
 obtain ⟨o,q1,q2,q3,q4,q5,q6⟩:=aGZ hv (gm ha)
 obtain ⟨y,r1,r2,r3⟩:=aFS.1 (List.all_eq_true.1 q6 _ q5)
 have hfv:=aCq (aAP hv) r1
 have hck:aHs (aAa os) prof m0 [f,a.2.1]=0:=by
  unfold aHs
  have e1:(!(aAc (aAa os))||(!(aA2 prof)||(decide (m0<0)||decide (9999999<m0))))=false:=by
   rw [hv,hp,decide_eq_false (by omega),decide_eq_false (by omega)];rfl
  have e2:([f,a.2.1].any fun id=>decide (aAm (aAa os) id<0))=false:=by
   simp only [List.any_cons,List.any_nil,Bool.or_false,Bool.or_eq_false_iff,decide_eq_false_iff_not]
   exact ⟨hf f (.head _),by rw [←r3];exact hfv.1⟩
  have e3:([f,a.2.1].any fun id => !(aI9 (aAa os) id==1))=false:=by
   simp only [List.any_cons,List.any_nil,Bool.or_false,Bool.or_eq_false_iff,Bool.not_eq_false',beq_iff_eq]
   exact ⟨hk f (.head _),by rw [←r3,hfv.2];exact r2⟩
  rw [e1,e2,e3];rfl
 have hN:=aFs (prof:=prof) hok f
 rcases aQt hok h with ⟨_,_,_,h5 | h5⟩ | ⟨_,h1,h5 | ⟨_,x,h6,_,h7⟩⟩
 ·exact absurd hck h5.1
 ·exact absurd hr (h5.2.2.2 j a n ha rfl)
 ·exact ⟨h1,m0,h5.2.1,by have:=hr.ge hN k0;omega⟩
 ·exact ⟨h1,x,h6,h7 j a n ha rfl hr⟩
end
theorem aRA {os:List ObR}(h:aNj os=true):∀ b∈os,b.o.refs.length≤12:=by
 unfold aNj at h
 rw [Bool.and_eq_true] at h
 exact aHO h.1
theorem aO9 {k:Nat}:∀ {L:List Ob},(∀ o∈L,o.refs.length≤k)→aKh L≤k*L.length
 | [],_=>Nat.zero_le _
 | o::L,h=>by
  have h1:=aO9 (L:=L) fun x hx=>h x (.tail _ hx)
  have h2:=h o (.head _)
  show o.refs.length+aKh L≤k*(L.length+1)
  rw [Nat.mul_add];omega
theorem aQU {os:List ObR}(h:aNj os=true):aKh (aAa (ofR os 2 os))≤400000:=by
 have h1:=aMf h
 have h2:(aAa (ofR os 2 os)).length≤os.length:=by rw [aEq];exact Nat.le_trans (List.length_filter_le _ _) (by unfold aAa;simp)
 have h3:=aO9 (k:=12) (L:=aAa (ofR os 2 os)) fun o ho=>by
  rw [aEq] at ho
  obtain ⟨b,hb,rfl⟩:=List.mem_map.1 (List.mem_filter.1 ho).1
  exact aRA h b hb
 have:=Nat.mul_le_mul_left 12 h2
 omega
theorem aMA (s:Bys):1≤aBy s:=by
 unfold aBy
 cases decide (1≤(s.length:Int))&&(decide ((s.length:Int)≤7) && !(((s.headD 0).toNat:Int)==48)) with
 | false=>exact (by decide:(1:Int)≤100)
 | true =>
  rw [cond_true]
  cases h:decide (0<aC7 s) with
  | false=>exact (by decide:(1:Int)≤100)
  | true=>have:=dt h;rw [cond_true];omega
theorem aOf {os:List ObR}{a:Arc}(h:ArcB a):0≤aAZ os a∧aAZ os a≤5000000000:=by
 have h1:=h.pos
 have h2:=h.lt
 have h3:=aMA (aAw (aCo os a.2.2.1).o.tags [115,112,101,101,100]).1
 unfold aAZ
 generalize aBy (aAw (aCo os a.2.2.1).o.tags [115,112,101,101,100]).1=s at h3
 refine ⟨Int.ediv_nonneg (by omega) (by omega),?_⟩
 refine Int.ediv_le_of_le_mul (by omega) ?_
 have:(5000000000:Int)*1≤5000000000*s:=Int.mul_le_mul_of_nonneg_left h3 (by decide)
 omega
structure LinksQ (os:List ObR) (prof:Bys) (L:List LkR):Prop where
 p:LksP os prof (asQ (aAa os)) L (asQ (aAa os)).length
 len:L.length≤240
 tk:∀ x∈L,0≤x.tk∧x.tk≤5000000000
theorem aJB {w:World}{v:Value}{os:List ObR}(hmv:aCr w v os) (hf:aNj os=true) (hv:aAc (aAa os)=true) (hok:∀ a∈asQ (aAa os),ArcB a) (prof:Bys):Calls Tryz.prog 18 #[.agg #[v],vS prof] w fun e w'=>∃ u L,e = .returned u∧LinksQ os prof L∧Mm (fun _=>False) w w' [rw_ lkL 9 50 u L,aAB spL 2 141 (hbL L),aAB inL 1 3 (nbL L)]:=by
 have hl:(asQ (aAa os)).length≤240:=by rw [←aUB];exact Nat.le_trans (aG3 _) (aGL hf hv)
 refine (aJ2 hmv (by have:=aMf hf;omega) hv (aQU hf) prof (A:=asQ (aAa os)) (aPQ hv).symm (by omega) fun a ha=>⟨hok a ha,?_⟩).mono ?_
 ·obtain ⟨o,h1,_,h3,_⟩:=aGZ hv ha
  rw [←h3];exact (aCq (aAP hv) h1).1
 ·rintro e w' ⟨u,L,h1,h2,h3⟩
  refine ⟨u,L,h1,⟨h2,by rw [h2.len];exact hl,fun x hx=>?_⟩,h3⟩
  obtain ⟨i,hi⟩:=List.getElem?_of_mem hx
  obtain ⟨a,ha,hs⟩:=h2.at_ i x hi
  rw [hs.tk];exact aOf (hok a (gm ha))
theorem aNV {prof f g:Bys}{l:List Ob}{m0:Int}{nd:List Bys}{mi:List Int}(h:aHv prof l f g m0 0 nd mi):aHs l prof m0 [f,g]=0:=by
  rcases h with ⟨h1,h2,_⟩ | ⟨h1,_⟩ | ⟨h1,_⟩
  · exact absurd h2.symm h1
  · exact h1
  · exact h1
theorem aPP {α:Type}{f:α→List Value}{c E:Nat}{F0:Nat→Prop}{w0 w:World}{M:List Ent}{B:List (Value×List α)}{q:Option Addr}{cq:Nat}{A:List α}(hM:Mm F0 w0 w M) (i:Nat) (hf:∀ x,(f x).length=c) (hi:M[i]?=some (aAB f c E B)) (h:(vL q A.length cq,A)∈B):SrcP f c w q cq A :=
  (Src.p (n:=A.length) (ow.src hf ((hM.get i hi).1 _ h))).2
abbrev A5 (Φ:Ending→World→Prop):=AtO Tryz.prog (aAf Tryz.f5) (aAo (bodyPost Tryz.prog Tryz.f5 Φ)) [] 149
theorem aGP {w:World}{v:Value}{os:List ObR}(hmv:aCr w v os) {prof f:Bys}(hp63:prof.length≤9223372036854775807) (hf63:B63 f) (hTe:Te w) (m0:Int) {qc:Option Addr}{cc:Nat}{cs:Bys}(hcs:SrcP byL 1 w qc cc cs):Calls Tryz.prog 5 #[.agg #[v],vS prof,vS f,vI m0,vL qc cs.length cc] w fun e w'=>e = .returned (vB true)∧Fr (fun _=>False) w w':=by
  obtain ⟨p0,c0,e0,s0⟩:=hmv.1.op
  subst e0
  have hok:=(aUB os▸fun a ha=>aHa (fun b hb=>(hmv.2 b hb).bnd) a (aDF ha):∀ a∈asQ (aAa os),ArcB a)
  have bcs:=hcs.bnd
  refine beg Tryz.func5 rfl rfl [(0,.agg #[vL p0 os.length c0]),(1,vS prof),(2,vS f),(3,vI m0),(4,vL qc cs.length cc)] rfl rfl fun Φ hΦ=>?_
  have hM:=Mm.nil (fun _=>False) w
  refine aAq 0 0 5 [] (cs:=#[vL p0 os.length c0]) (T:=24) (v:=fun b=>vP b 0) f0 hM fun aa w1 hM=>aAr 1 0 25 [] f0 hM (aNi (hTe.fr hM.fr)) fun w1 hM=>aAr 2 1 27 [(11,vB true),(26,.agg #[vL p0 os.length c0])] (fc (lam 24 0 0 1 hM rfl) f0) hM (aP2 (hmv.fr hM.fr)) fun w1 hM=>seg 2 4 [(29,vB (!(aNj os)))] f0 ?_
  cases ac:(aNj os)
  ·exact rt1 10 (vB true) rfl f0 (hΦ _ _ ⟨rfl,hM.fr⟩)
  refine aAq 2 6 32 [(30,vS prof),(31,vS f)] (cs:=#[vS prof,vS f]) (T:=9) (v:=fun b=>vL (some ⟨b,0,none⟩) 2 2) f0 hM fun ab w1 hM=>aAr 2 7 33 [] f0 hM (aK0 (aB3 (f:=stL) (c:=1) (b:=ab) (hM.get 1 (e:=bk ab #[vS prof,vS f] 9) rfl) [prof,f] 2 (fun _=>rfl) rfl rfl).src) fun w1 hM=>seg 2 11 [(36,vB (!(aGo [prof,f])))] f0 ?_
  cases be:(aGo [prof,f])
  ·exact rt1 10 (vB true) rfl f0 (hΦ _ _ ⟨rfl,hM.fr⟩)
  refine seg 2 16 [(41,vB (decide (12<(cs.length:Int))))] f0 ?_
  cases ag:(decide (12<(cs.length:Int)))
  rotate_left
  ·have aq:=dt ag
   exact rt1 10 (vB true) rfl f0 (hΦ _ _ ⟨rfl,hM.fr⟩)
  have aq:=df ag
  refine aAr 2 17 43 [(42,.agg #[vL p0 os.length c0])] (fc (lam 24 0 0 1 hM rfl) f0) hM (aCG (hmv.fr hM.fr)) fun w1 hM=>seg 2 20 [(45,vB (!(aAc (aAa os))))] f0 ?_
  cases bf:(aAc (aAa os))
  ·exact rt1 10 (vB true) rfl f0 (hΦ _ _ ⟨rfl,hM.fr⟩)
  refine aAO 4 5 53 [(48,.agg #[vL p0 os.length c0]),(49,vS prof),(50,vS f),(51,vS f),(52,vI m0)] (K:=fun u Mn=>∃ u1 u2 c nd mi,u = .tuple #[.agg #[u1,u2],vI c]∧aNz prof os f f m0 c nd mi∧Mn=[rw_ stL 1 9 u1 nd,rw_ inL 1 3 u2 mi]) [0,1] [] (fc (lam 24 0 0 1 hM rfl) f0) hM rfl rfl (by decide) (fun hm=>((aCp (hmv.fr hM.fr) hp63 hf63 (fun h=>aGL ac h) (hTe.fr hM.fr) m0).mono fun e w8 ⟨v1,v2,c,nd,mi,h1,h2,h3⟩=>⟨_,_,h1,⟨v1,v2,c,nd,mi,rfl,h2,rfl⟩,aDn h3 fun _ h=>h.elim⟩)) fun u Mn w1 hK hM=>?_
  obtain ⟨u1,u2,c,nd,mi,rfl,hR,rfl⟩:=hK
  obtain ⟨qm,cm,em,sm⟩:=(hM.src (j:=3) rfl inT.len).op
  subst em
  obtain ⟨qn,cn,en,sn⟩:=(hM.src (j:=2) rfl stT.len).op
  subst en
  replace hM:Mm (fun _=>False) w w1 [bk aa #[vL p0 os.length c0] 24,bk ab #[vS prof,vS f] 9,_,_]:=hM
  refine aCe 4 9 12 [(54,.agg #[vL qn nd.length cn,vL qm mi.length cm]),(55,vI c)] [] 31 (.agg #[vL qn nd.length cn,vL qm mi.length cm]) f0 hM fun ar w1 hM=>seg 5 2 [(57,vB (!(c==0)))] f0 ?_
  cases ad:(c==0)
  ·have au:=ef ad
   exact rt1 10 (vB true) rfl f0 (hΦ _ _ ⟨rfl,hM.fr⟩)
  have au:=et ad
  obtain rfl:c=0:=et ad
  have hck:=aNV (aKq hR)
  obtain ⟨hv,_,k0,k1,_,_⟩:=aLh hck
  refine aAO 7 2 61 [(59,.agg #[vL p0 os.length c0]),(60,vS prof)] (K:=fun u Mn=>∃ u1 L,u=u1∧LinksQ os prof L∧Mn=[rw_ lkL 9 50 u1 L,aAB spL 2 141 (hbL L),aAB inL 1 3 (nbL L)]) [0,1,2,3,4] [] (fc (lam 24 0 0 1 hM rfl) f0) hM rfl rfl (by decide) (fun hm=>((aJB (hmv.fr hM.fr) ac hv hok prof).mono fun e w8 ⟨v1,L,h1,h2,h3⟩=>⟨_,_,h1,⟨v1,L,rfl,h2,rfl⟩,aDn h3 fun _ h=>h.elim⟩)) fun u Mn w1 hK hM=>?_
  obtain ⟨u1,L,rfl,hLQ,rfl⟩:=hK
  obtain ⟨qL,cL,eL,sL⟩:=(hM.src (j:=5) rfl lkT.len).op
  subst eL
  have bL:=sL.bnd
  replace hM:Mm (fun _=>False) w w1 [bk aa #[vL p0 os.length c0] 24,bk ab #[vS prof,vS f] 9,_,_,bk ar #[vL qn nd.length cn,vL qm mi.length cm] 31,_,_,_]:=hM
  have hM:=hM.row (f:=inL) (c:=1) (E:=3)
  have hM:=hM.pick [0,5,6,7,8]
  replace hM:Mm (fun _=>False) w _ [bk aa #[vL p0 os.length c0] 24,_,_,_,_]:=hM
  refine seg 10 0 [(14,vL qL L.length cL),(15,vL none 0 0),(16,vI 0)] f0 ?_
  have av:∀ (ah:Nat) (i:Nat) (qo:Option Addr) (co:Nat) (ns:List Int) (w2:World),i≤L.length→(∀ z∈ns,∃ (j:Nat) (x:LkR),z=(j:Int)∧L[j]?=some x∧x.a.1=f)→ns.length≤i→Mm (fun _=>False) w w2 [bk aa #[vL p0 os.length c0] 24,rw_ lkL 9 50 (vL qL L.length cL) L,aAB spL 2 141 (hbL L),aAB inL 1 3 (nbL L),rw_ inL 1 3 (vL qo ns.length co) ns]→ah=L.length-i→A5 Φ (some (10,0)) [(16,vI (i:Int)),(15,vL qo ns.length co),(14,vL qL L.length cL),(11,vB true),(5,vP aa 0),(1,vS prof),(2,vS f),(3,vI m0),(4,vL qc cs.length cc)] w2:=by
   refine aAH fun ah ai i qo co ns w2 hi hns hnl hM bg=>?_
   have hL2:=hLQ.len
   refine seg 10 4 [(65,vB (decide ((i:Int)<(L.length:Int))))] f0 ?_
   cases aj:(decide ((i:Int)<(L.length:Int)))
   rotate_left
   ·have aw:=dt aj
    have hLs:=(Src.p (n:=L.length) (hM.src (j:=1) rfl lkT.len)).2
    obtain ⟨y,hy,bh,bi,ax,ay⟩:=hLs.el (i:=i) (by omega)
    refine seg 12 8 [(75,vB (y.a.1==f))] (fc (ix 41 cL ax (gl hy)) (fc (ld0 9 (Mm.nil (fun _=>False) _) (ay 0 _ rfl)) (fc (seq 9 y.a.1 f) f0))) ?_
    cases az:(y.a.1==f)
    ·refine seg 10 0 [(16,vI ((i:Int)+1))] (fc (aAe (i:Int) 1 u3_) f0) ?_
     replace hM:Mm (fun _=>False) w _ [bk aa #[vL p0 os.length c0] 24,_,_,_,_]:=hM
     exact aAb _ (ai _ (by have:=gl hy;omega) (i+1) qo co ns _ (gl hy) hns (by omega) hM rfl)
    refine aAq 13 2 78 [(76,vL qo ns.length co),(77,vI (i:Int))] (cs:=#[vI (i:Int)]) (T:=3) (v:=fun b=>vL (some ⟨b,0,none⟩) 1 1) f0 hM fun bj w1 hM=>aIZ 13 3 79 [] (cap:=1) (by decide) inT f0 hM (j:=4) rfl (aAD (f:=inL) (x:=(i:Int)) (hM.get 5 rfl) (Nat.lt_succ_self _)) (fun h=>by cases h) (by simp only [List.length_cons,List.length_nil];omega) fun bl w1 hM=>?_
    obtain ⟨ak,al,a0,-⟩:=(hM.src (j:=4) rfl inT.len).op
    subst a0
    refine seg 10 0 [(15,vL ak (ns++[(i:Int)]).length al),(16,vI ((i:Int)+1))] (fc (aAe (i:Int) 1 u3_) f0) ?_
    have hM:=hM.pick [0,1,2,3,4]
    replace hM:Mm (fun _=>False) w _ [bk aa #[vL p0 os.length c0] 24,_,_,_,_]:=hM
    exact aAb _ (ai _ (by have:=gl hy;omega) (i+1) ak al (ns++[(i:Int)]) _ (gl hy) (fun z hz=>(List.mem_append.1 hz).elim (hns z) fun h=>⟨i,y,List.mem_singleton.1 h,hy,et az⟩) (by rw [List.length_append,List.length_singleton];omega) hM rfl)
   have aw:=df aj
   have hM:Mm (fun _=>False) w _ [bk aa #[vL p0 os.length c0] 24,rw_ lkL 9 50 (vL qL L.length cL) L,aAB spL 2 141 (hbL L),aAB inL 1 3 (((vL qo ns.length co:Value),ns)::nbL L)]:=aFC (A:=[bk aa #[vL p0 os.length c0] 24,rw_ lkL 9 50 (vL qL L.length cL) L,aAB spL 2 141 (hbL L)]) hM (List.Perm.refl _)
   have hW:aNy os prof f m0 m0 ns := .inl ⟨rfl,fun z hz=>by
     obtain ⟨j,x,h1,h2,h3⟩:=hns z hz
     obtain ⟨a,ha,hs⟩:=hLQ.p.at_ j x h2
     exact ⟨j,a,h1,ha,by rw [←hs.arc,h3]⟩⟩
   refine seg 16 0 [(17,vI m0),(18,vI 0)] f0 ?_
   have a1:∀ (am:Nat) (k:Nat) (at_:Int) (q2:Option Addr) (c2x:Nat) (nx:List Int) (w2:World),k≤cs.length→(vL q2 nx.length c2x,nx)∈((vL qo ns.length co:Value),ns)::nbL L→aNy os prof f m0 at_ nx→Mm (fun _=>False) w w2 [bk aa #[vL p0 os.length c0] 24,rw_ lkL 9 50 (vL qL L.length cL) L,aAB spL 2 141 (hbL L),aAB inL 1 3 (((vL qo ns.length co:Value),ns)::nbL L)]→am=cs.length-k→A5 Φ (some (16,0)) [(18,vI (k:Int)),(17,vI at_),(15,vL q2 nx.length c2x),(14,vL qL L.length cL),(11,vB true),(5,vP aa 0),(1,vS prof),(2,vS f),(3,vI m0),(4,vL qc cs.length cc)] w2:=by
    refine aAH fun am a2 k at_ q2 c2x nx w2 hk hbg hW9 hM bm=>seg 16 5 [(85,vB (decide ((k:Int)<(cs.length:Int))))] f0 ?_
    cases an:(decide ((k:Int)<(cs.length:Int)))
    ·have a3:=df an
     exact rt1 10 (vB true) rfl f0 (hΦ _ _ ⟨rfl,hM.fr⟩)
    have a3:=dt an
    refine seg 16 9 [(89,vB (decide (0<(nx.length:Int))))] f0 ?_
    cases ao:(decide (0<(nx.length:Int)))
    ·have a4:=df ao
     exact rt1 10 (vB true) rfl f0 (hΦ _ _ ⟨rfl,hM.fr⟩)
    have a4:=dt ao
    have hsn:=aPP hM 3 inT.len rfl hbg
    have bsn:=hsn.bnd
    obtain ⟨u,hu,gu,ou,qu,ru⟩:=hcs.el (i:=k) (by omega)
    have hun:((u.toNat:Int)%(nx.length:Int))=((((u.toNat:Int)%(nx.length:Int)).toNat:Nat):Int):=(Int.toNat_of_nonneg (Int.emod_nonneg _ (by omega))).symm
    have hul:((u.toNat:Int)%(nx.length:Int))<(nx.length:Int):=Int.emod_lt_of_pos _ (by omega)
    have hub:=u.toNat_lt
    obtain ⟨z,hz,bo,bp,a5,a6⟩:=hsn.el (i:=((u.toNat:Int)%(nx.length:Int)).toNat) (by omega)
    obtain ⟨jj,a,hzj,ha⟩:=aST hW9 (gm hz)
    obtain ⟨x9,hx9,hxs⟩:=aVt hLQ.p ha
    have hLs:=(Src.p (n:=L.length) (hM.src (j:=1) rfl lkT.len)).2
    obtain ⟨x,hx,bq,br,a7,a8⟩:=hLs.el (i:=jj) (gl hx9)
    obtain rfl:x=x9:=Option.some.inj (hx.symm.trans hx9)
    refine aCe 18 14 19 [(105,.agg #[vS x.a.1,vS x.a.2.1,vS x.a.2.2.1,vI x.a.2.2.2,vB x.op,vI x.tk,vB x.fr,vL x.hp x.hs.length x.hc,vL x.np x.nx.length x.nc])] [] 50 (.agg #[vS x.a.1,vS x.a.2.1,vS x.a.2.2.1,vI x.a.2.2.2,vB x.op,vI x.tk,vB x.fr,vL x.hp x.hs.length x.hc,vL x.np x.nx.length x.nc]) (fc (ix 45 cc qu (gl hu)) (fc (ld0 5 hM (ru 0 _ rfl)) (fc (b2i 5 3 (u.toNat:Int) (by omega)) (fc (aM7 (u.toNat:Int) (nx.length:Int) u3_) (fc (ix 29 c2x a5 (gl hz) (z:=((u.toNat:Int)%(nx.length:Int))) (hz:=hun)) (fc (ld0 3 (Mm.nil (fun _=>False) _) (a6 0 _ rfl)) (fc (ix 41 cL a7 (gl hx) (z:=z) (hz:=hzj)) (fc (la0 50 (Mm.nil (fun _=>False) _) a8) f0)))))))) hM fun a9 w1 hM=>aAr 19 2 109 [(107,.agg #[vS x.a.1,vS x.a.2.1,vS x.a.2.2.1,vI x.a.2.2.2,vB x.op,vI x.tk,vB x.fr,vL x.hp x.hs.length x.hc,vL x.np x.nx.length x.nc]),(108,vI at_)] (fc (lam 50 4 0 9 hM rfl) f0) hM (aK7 x (aPP hM 2 spT.len rfl (List.mem_map.2 ⟨x,gm hx,rfl⟩)) (hLQ.tk x (gm hx)) at_) fun w1 hM=>seg 20 2 [(20,vI (aCx x at_).1),(113,vB (!(aCx x at_).2))] f0 ?_
    cases ba:(aCx x at_).2 with
    | false =>
     exact rt1 10 (vB true) rfl f0 (hΦ _ _ ⟨rfl,hM.fr⟩)
    | true =>
     have hps:aCx x at_=((aCx x at_).1,true):=by rw [←ba]
     rw [hzj] at hz
     obtain ⟨hr,hW2⟩:=aNM hok hv hLQ.p k0 hW9 (gm hz) hx hps
     refine aAO 23 7 124 [(17,vI (aCx x at_).1),(117,.agg #[vL p0 os.length c0]),(118,vS prof),(119,vS f),(122,vS x.a.2.1),(123,vI m0)] (K:=fun u Mn=>∃ u1 u2 c2 nd2 mi2,u = .tuple #[.agg #[u1,u2],vI c2]∧aNz prof os f x.a.2.1 m0 c2 nd2 mi2∧Mn=[rw_ stL 1 9 u1 nd2,rw_ inL 1 3 u2 mi2]) [0,1,2,3,4] [] (fc (lam 24 0 0 1 hM rfl) (fc (ldm 9 4 1 hM rfl rfl) f0)) hM rfl rfl (by decide) (fun hm=>((aCp (hmv.fr hM.fr) hp63 hf63 (fun h=>aGL ac h) (hTe.fr hM.fr) m0).mono fun e w8 ⟨v1,v2,c,nd,mi,h1,h2,h3⟩=>⟨_,_,h1,⟨v1,v2,c,nd,mi,rfl,h2,rfl⟩,aDn h3 fun _ h=>h.elim⟩)) fun u Mn w1 hK hM=>?_
     obtain ⟨u1,u2,c2,nd2,mi2,rfl,hR2,rfl⟩:=hK
     obtain ⟨qm2,cm2,em2,sm2⟩:=(hM.src (j:=6) rfl inT.len).op
     subst em2
     have bm2:=sm2.bnd
     obtain ⟨qn2,cn2,en2,sn2⟩:=(hM.src (j:=5) rfl stT.len).op
     subst en2
     replace hM:Mm (fun _=>False) w w1 [bk aa #[vL p0 os.length c0] 24,_,_,_,bk a9 #[vS x.a.1,vS x.a.2.1,vS x.a.2.2.1,vI x.a.2.2.2,vB x.op,vI x.tk,vB x.fr,vL x.hp x.hs.length x.hc,vL x.np x.nx.length x.nc] 50,_,_]:=hM
     refine aCe 23 11 22 [(125,.agg #[vL qn2 nd2.length cn2,vL qm2 mi2.length cm2]),(126,vI c2)] [] 31 (.agg #[vL qn2 nd2.length cn2,vL qm2 mi2.length cm2]) f0 hM fun bs w1 hM=>?_
     have hT2:=aKq hR2
     rw [hxs.arc] at hT2
     obtain ⟨hc2,y2,hy2,hle⟩:=aNL hok hck ha hr hT2
     have hmp:¬ (mi2.length:Int)=0:=fun h=>by
       unfold aRE at hy2;rw [h,hc2] at hy2;cases hy2
     have hz2:mi2[mi2.length-1]?=some y2:=by
       unfold aRE at hy2;rw [hc2,beq_eq_false_iff_ne.2 hmp] at hy2;exact hy2
     refine seg 25 3 [(24,vI (mi2.length:Int)),(132,vB (!(c2==0)))] (fc (ldm 29 7 1 hM rfl rfl) f0) ?_
     cases bb:(c2==0)
     ·exact absurd hc2 (ef bb)
     refine seg 25 7 [(136,vB ((mi2.length:Int)==0))] f0 ?_
     cases ae:((mi2.length:Int)==0)
     rotate_left
     ·have bc:=et ae
      exact absurd (et ae) hmp
     have bc:=ef ae
     obtain ⟨bt,ap,-⟩:=hM.el inT (j:=6) rfl hz2
     refine seg 25 16 [(145,vB (decide ((aCx x at_).1<y2)))] (fc (ldm 29 7 1 hM rfl rfl) (fc (aBw (mi2.length:Int) 1 u3_) (fc (ix 29 cm2 ap (gl hz2) (z:=((mi2.length:Int)-1)) (hz:=(by omega))) (fc (ldr 3 6 0 inT hM rfl ap hz2 rfl) f0)))) ?_
     cases af:(decide ((aCx x at_).1<y2))
     rotate_left
     ·have bd:=dt af
      have:=dt af;omega
     have bd:=df af
     refine seg 16 0 [(15,vL x.np x.nx.length x.nc),(18,vI ((k:Int)+1))] (fc (ldm 29 4 8 hM rfl rfl) (fc (aAe (k:Int) 1 u3_) f0)) ?_
     have hM:=hM.pick [0,1,2,3]
     replace hM:Mm (fun _=>False) w _ [bk aa #[vL p0 os.length c0] 24,_,_,_]:=hM
     exact aAb _ (a2 _ (by omega) (k+1) (aCx x at_).1 x.np x.nc x.nx _ (by omega) (List.mem_cons_of_mem _ (List.mem_map.2 ⟨x,gm hx,rfl⟩)) hW2 hM rfl)
   exact aAb _ (a1 _ 0 m0 qo co ns _ (Nat.zero_le _) (.head _) hW hM rfl)
  exact aAb _ (av _ 0 none 0 [] _ (Nat.zero_le _) (fun z hz=>(by cases hz)) (Nat.le_refl _) hM rfl)
open Go.ChangeShapes Go.WideShapes
section
variable {H:Type}{enc:TypeId×Value→H}{W:World}{sp:Nat→Bool}{held:Bool}{n:Nat}{cs:List Value}{x:DataW H×List MemPlace}
theorem aFP {α:Type}(dflt:α) (f:α→List Value) (c:Nat) {T E:TypeId}(hT:Tryz.prog.underlying T=some (.slice E)) (hc:Tryz.prog.cellsOf E=c) (hlen:∀ a,(f a).length=c) (hc0:0<c) (Q:α→Prop) (hel:∀ m cs x,DataW.trod enc Tryz.prog W 0 sp held m E cs=some x→∃ a,cs=f a∧Q a)
  (h:DataW.trod enc Tryz.prog W 0 sp held n T cs=some x):∃ (l:List α) (p:Option Addr) (cap:Nat),cs=[.slice p l.length cap]∧SrcP f c W p cap l∧∀ a∈l,Q a:=by
 rcases Deep.open_slice hT h with ⟨rfl,_⟩ | ⟨a,len,cap,m,n,D,Pl,rfl,_,hl,hm,hmm,_,hx⟩
 ·exact ⟨[],none,0,rfl,⟨Nat.le_refl _,Nat.zero_le _,.inl rfl,fun _=>rfl⟩,fun _ h=>(by cases h)⟩
 ·rw [hc] at hx
  have hlm:len≤m:=by rw [hmm];split<;>omega
  have hall:∀ i,i<len→∃ s:α,(∀ j,j<c→W.cell? ((a.add (i*c)).add j)=(f s)[j]?)∧Q s:=fun i hi=>by
   obtain ⟨cs',h1,h2⟩:=hx i (by omega)
   obtain ⟨_,_,h3⟩:=World.cells?_some h1
   obtain ⟨s,rfl,hq⟩:=hel _ _ _ h2
   exact ⟨s,fun j hj=>by rw [h3 j hj],hq⟩
  haveI:Inhabited α:=⟨dflt⟩
  obtain ⟨g,hg⟩:=Deep.choose_lt hall
  refine ⟨(List.range len).map g,some a,cap,by simp,⟨by simpa using hl,hm,?_,fun h=>by cases h⟩,fun s hs=>?_⟩
  ·rcases Nat.eq_zero_or_pos len with h0 | h0
   ·left;rw [h0];rfl
   ·right
    have hspot:a=⟨a.block,a.off,none⟩∧a.block<W.heap.size:=by
     have:=(hg 0 h0).1 0 hc0
     rw [Nat.zero_mul] at this
     have e0:(a.add 0).add 0=a:=by simp [Addr.add]
     rw [e0] at this
     obtain ⟨v0,hv0⟩:∃ v,(f (g 0))[0]?=some v:=⟨_,List.getElem?_eq_getElem (by rw [hlen];exact hc0)⟩
     rw [hv0] at this
     refine ⟨?_,World.block_lt_of_cell? W a this⟩
     cases a with
     | mk b o s =>
      cases s with
      | none=>rfl
      | some k =>
       unfold World.cell? at this
       split at this<;>simp at this
    refine ⟨a.block,a.off,by rw [←hspot.1],hspot.2,fun i s hs j v hv=>?_⟩
    rw [List.getElem?_map] at hs
    have hi:i<len:=by
     cases h:(List.range len)[i]? with
     | none=>rw [h] at hs;cases hs
     | some x=>have:=(List.getElem?_eq_some_iff.1 h).1;simpa using this
    rw [List.getElem?_range hi] at hs
    simp at hs
    subst hs
    have hj:j<c:=by
     have:=(List.getElem?_eq_some_iff.1 hv).1
     rw [hlen] at this;exact this
    have:=(hg i hi).1 j hj
    have e:((⟨a.block,a.off,none⟩:Addr).add (i*c)).add j=⟨a.block,a.off+i*c+j,none⟩:=by
     unfold Addr.add
     by_cases h1:i*c=0<;>by_cases h2:j=0<;>simp [h1,h2,Nat.add_assoc]
    rw [hv,hspot.1,e] at this
    exact this
  ·obtain ⟨i,hi,rfl⟩:=List.mem_map.1 hs
   exact (hg i (List.mem_range.1 hi)).2
set_option maxRecDepth 100000 in
theorem aFO (h:DataW.trod enc Tryz.prog W 0 sp held n 9 cs=some x):∃ s:Bys,cs=stL s∧B63 s:=by
 obtain ⟨s,rfl,_,hs⟩:=DataW.trod_string u9_ h
 obtain ⟨l,rfl⟩:=aFy s
 rw [aBr] at hs
 exact ⟨l,rfl,by unfold maxLen at hs;unfold B63;omega⟩
set_option maxRecDepth 100000 in
theorem aIv (h:DataW.trod enc Tryz.prog W 0 sp held n 3 cs=some x):∃ m:Int,cs=[vI m]:=by
 obtain ⟨m,rfl,_⟩:=DataW.trod_int u3_ h
 exact ⟨m,rfl⟩
set_option maxRecDepth 100000 in
theorem aRi (h:DataW.trod enc Tryz.prog W 0 sp held n 106 cs=some x):∃ t:Tag,cs=tgL t∧(B63 t.1∧B63 t.2):=by
 obtain ⟨xs,m,_,_,hl,hlen,hf⟩:=DataW.trod_struct Tryz.underlying106 h
 rw [show Tryz.prog.cellsOf 106=2 by kernel_rfl] at hl
 match cs,hl with
 | [c0,c1],_ =>
 obtain ⟨y0,e0⟩:∃ y,xs[0]?=some y:=⟨_,List.getElem?_eq_getElem (by rw [hlen];simp)⟩
 obtain ⟨y1,e1⟩:∃ y,xs[1]?=some y:=⟨_,List.getElem?_eq_getElem (by rw [hlen];simp)⟩
 have h0:DataW.trod enc Tryz.prog W 0 sp held m 9 (List.take (Tryz.prog.cellsOf 9) (List.drop 0 [c0,c1]))=some y0:=(hf 0 _ rfl).trans e0
 have h1:DataW.trod enc Tryz.prog W 0 sp held m 9 (List.take (Tryz.prog.cellsOf 9) (List.drop 1 [c0,c1]))=some y1:=(hf 1 _ rfl).trans e1
 rw [show Tryz.prog.cellsOf 9=1 by kernel_rfl] at h0 h1
 obtain ⟨s0,g0,b0⟩:=aFO h0
 obtain ⟨s1,g1,b1⟩:=aFO h1
 have g0:[c0]=[vS s0]:=g0
 have g1:[c1]=[vS s1]:=g1
 cases g0;cases g1
 exact ⟨(s0,s1),rfl,b0,b1⟩
set_option maxRecDepth 100000 in
theorem aTD (h:DataW.trod enc Tryz.prog W 0 sp held n 61 cs=some x):∃ a b:Int,cs=[vI a,vI b]:=by
 obtain ⟨xs,m,_,_,hl,hlen,hf⟩:=DataW.trod_struct Tryz.underlying61 h
 rw [show Tryz.prog.cellsOf 61=2 by kernel_rfl] at hl
 match cs,hl with
 | [c0,c1],_ =>
 obtain ⟨y0,e0⟩:∃ y,xs[0]?=some y:=⟨_,List.getElem?_eq_getElem (by rw [hlen];simp)⟩
 obtain ⟨y1,e1⟩:∃ y,xs[1]?=some y:=⟨_,List.getElem?_eq_getElem (by rw [hlen];simp)⟩
 have h0:DataW.trod enc Tryz.prog W 0 sp held m 3 (List.take (Tryz.prog.cellsOf 3) (List.drop 0 [c0,c1]))=some y0:=(hf 0 _ rfl).trans e0
 have h1:DataW.trod enc Tryz.prog W 0 sp held m 3 (List.take (Tryz.prog.cellsOf 3) (List.drop 1 [c0,c1]))=some y1:=(hf 1 _ rfl).trans e1
 rw [show Tryz.prog.cellsOf 3=1 by kernel_rfl] at h0 h1
 obtain ⟨s0,g0⟩:=aIv h0
 obtain ⟨s1,g1⟩:=aIv h1
 have g0:[c0]=[vI s0]:=g0
 have g1:[c1]=[vI s1]:=g1
 cases g0;cases g1
 exact ⟨s0,s1,rfl⟩
set_option maxRecDepth 100000 in
theorem aTE (h:DataW.trod enc Tryz.prog W 0 sp held n 64 cs=some x):∃ b:ObR,cs=obL b∧ObIn W b:=by
 obtain ⟨xs,m,_,_,hl,hlen,hf⟩:=DataW.trod_struct Tryz.underlying64 h
 rw [show Tryz.prog.cellsOf 64=6 by kernel_rfl] at hl
 match cs,hl with
 | [c0,c1,c2,c3,c4,c5],_ =>
 obtain ⟨y0,e0⟩:∃ y,xs[0]?=some y:=⟨_,List.getElem?_eq_getElem (by rw [hlen];simp)⟩
 obtain ⟨y1,e1⟩:∃ y,xs[1]?=some y:=⟨_,List.getElem?_eq_getElem (by rw [hlen];simp)⟩
 obtain ⟨y2,e2⟩:∃ y,xs[2]?=some y:=⟨_,List.getElem?_eq_getElem (by rw [hlen];simp)⟩
 obtain ⟨y3,e3⟩:∃ y,xs[3]?=some y:=⟨_,List.getElem?_eq_getElem (by rw [hlen];simp)⟩
 obtain ⟨y4,e4⟩:∃ y,xs[4]?=some y:=⟨_,List.getElem?_eq_getElem (by rw [hlen];simp)⟩
 have h0:DataW.trod enc Tryz.prog W 0 sp held m 9 (List.take (Tryz.prog.cellsOf 9) (List.drop 0 [c0,c1,c2,c3,c4,c5]))=some y0:=(hf 0 _ rfl).trans e0
 have h1:DataW.trod enc Tryz.prog W 0 sp held m 3 (List.take (Tryz.prog.cellsOf 3) (List.drop 1 [c0,c1,c2,c3,c4,c5]))=some y1:=(hf 1 _ rfl).trans e1
 have h2:DataW.trod enc Tryz.prog W 0 sp held m 61 (List.take (Tryz.prog.cellsOf 61) (List.drop 2 [c0,c1,c2,c3,c4,c5]))=some y2:=(hf 2 _ rfl).trans e2
 have h3:DataW.trod enc Tryz.prog W 0 sp held m 28 (List.take (Tryz.prog.cellsOf 28) (List.drop 4 [c0,c1,c2,c3,c4,c5]))=some y3:=(hf 3 _ rfl).trans e3
 have h4:DataW.trod enc Tryz.prog W 0 sp held m 62 (List.take (Tryz.prog.cellsOf 62) (List.drop 5 [c0,c1,c2,c3,c4,c5]))=some y4:=(hf 4 _ rfl).trans e4
 rw [show Tryz.prog.cellsOf 9=1 by kernel_rfl] at h0
 rw [show Tryz.prog.cellsOf 3=1 by kernel_rfl] at h1
 rw [show Tryz.prog.cellsOf 61=2 by kernel_rfl] at h2
 rw [show Tryz.prog.cellsOf 28=1 by kernel_rfl] at h3
 rw [show Tryz.prog.cellsOf 62=1 by kernel_rfl] at h4
 obtain ⟨s0,g0,b0⟩:=aFO h0
 obtain ⟨s1,g1⟩:=aIv h1
 obtain ⟨s2,s3,g2⟩:=aTD h2
 obtain ⟨rs,pr,cr,g3,k3,b3⟩:=aFP [] stL 1 Tryz.underlying28 (by kernel_rfl) (fun _=>rfl) (by decide) B63 (fun _ _ _ h=>aFO h) h3
 obtain ⟨ts,pt,ct,g4,k4,b4⟩:=aFP ([],[]) tgL 2 Tryz.underlying62 (by kernel_rfl) (fun _=>rfl) (by decide) (fun t=>B63 t.1∧B63 t.2) (fun _ _ _ h=>aRi h) h4
 have g0:[c0]=[vS s0]:=g0
 have g1:[c1]=[vI s1]:=g1
 have g2:[c2,c3]=[vI s2,vI s3]:=g2
 have g3:[c4]=[vL pr rs.length cr]:=g3
 have g4:[c5]=[vL pt ts.length ct]:=g4
 cases g0;cases g1;cases g2;cases g3;cases g4
 exact ⟨⟨⟨s0,s1,s2,s3,rs,ts⟩,pr,cr,pt,ct⟩,rfl,k3,k4,b0,b3,b4⟩
set_option maxRecDepth 100000 in
theorem aRj (h:DataW.trod enc Tryz.prog W 0 sp held n 24 cs=some x):∃ (os:List ObR) (v:Value),cs=[v]∧aCr W v os:=by
 obtain ⟨xs,m,_,_,hl,hlen,hf⟩:=DataW.trod_struct Tryz.underlying24 h
 rw [show Tryz.prog.cellsOf 24=1 by kernel_rfl] at hl
 match cs,hl with
 | [c0],_ =>
 obtain ⟨y0,e0⟩:∃ y,xs[0]?=some y:=⟨_,List.getElem?_eq_getElem (by rw [hlen];simp)⟩
 have h0:DataW.trod enc Tryz.prog W 0 sp held m 22 (List.take (Tryz.prog.cellsOf 22) (List.drop 0 [c0]))=some y0:=(hf 0 _ rfl).trans e0
 rw [show Tryz.prog.cellsOf 22=1 by kernel_rfl] at h0
 obtain ⟨os,p,cap,g0,k0,b0⟩:=aFP ⟨⟨[],0,0,0,[],[]⟩,none,0,none,0⟩ obL 6 Tryz.underlying22 (by kernel_rfl) (fun _=>rfl) (by decide) (ObIn W) (fun _ _ _ h=>aTE h) h0
 have g0:[c0]=[vL p os.length cap]:=g0
 cases g0
 exact ⟨os,_,rfl,k0.src,b0⟩
end
end Go.Proofs.YtbflfefahheidaaGreatDoor
namespace Go.Pl
open Go.RowKit Go.ChangeShapes Go.WideShapes
theorem aE8 {H:Type}{enc:TypeId×Value→H}{P:Program}(hl:laidOutB P=true) {W W':World}(hb:Below W.heap.size W W') :
  ∀ (ts:List TypeId) (vs:List Value) (ds:List (DataW H)) (ps:List MemPlace),(∀ t∈ts,P.readableRec t=true∧t<P.types.size)→DataW.TrodAll enc P W 0 (fun _=>true) true ts vs ds ps→(∀ x∈ps,x.block<W.heap.size) →
   DataW.TrodAll enc P W' 0 (fun b=>decide (b<W.heap.size)) true ts vs ds ps
 | [],[],[],ps,_,h,_=>h
 | t::ts,v::vs,d::ds,ps,hr,h,hlt=>by
  obtain ⟨p,q,h1,h2,rfl⟩:=h
  exact ⟨p,q,Below.trod hl (hr t (by simp)).1 (hr t (by simp)).2 h1 hb (fun x hx=>hlt x (by simp [hx])),
   aE8 hl hb ts vs ds q (fun t ht=>hr t (by simp [ht])) h2 (fun x hx=>hlt x (by simp [hx])),rfl⟩
 | [],[],_::_,_,_,h,_=>h.elim
 | [],_::_,_,_,_,h,_=>by cases h
 | _::_,[],_,_,_,h,_=>by cases h
 | _::_,_::_,[],_,_,h,_=>h.elim
theorem aR0 {H:Type}{enc:TypeId×Value→H}{P:Program}(hl:laidOutB P=true) {fn:Func}{s:ChangeSpec}{apart fresh handsOn:Bool}{W W':World}{args:Array Value}{ds gs:List (DataW H)}{before:List MemPlace}
  (hread:∀ t∈fn.params.toList,P.readableRec t=true∧t<P.types.size) {tb:TypeId}(hres:fn.resultTypes=#[tb]) (htb:P.underlying tb=some .bool) (hvars:s.vars=[])
  (hs:s.fn H (ds++gs)={ results:=[.lit (.bool true)],args:=ds }) (hW:DataW.Whole enc P fn.params.toList s.vars apart W args.toList ds gs before) (hb:Below W.heap.size W W') :
  s.post enc P fn apart fresh handsOn false W args (.bool true) W':=by
 have hlt:=hW.lt
 have hW0:=hW
 obtain ⟨p,q,hA,hV,hpq,_,_⟩:=hW
 refine ⟨ds,gs,before,[],p,[],hW0,?_,?_,?_,hb.frame _,fun h=>by cases h⟩
 ·rw [hs,hres]
  exact trodAll_mk1 (shut_bool htb _)
 ·rw [hs]
  exact aE8 hl hb _ _ _ _ hread hA (fun x hx=>hlt x (by rw [hpq];simp [hx]))
 ·rw [hs,hvars]
  rfl
end Go.Pl
namespace Go.Proofs.YtbflfefahheidaaGreatDoor
open Go.RowKit Go.Pl Go.ChangeShapes Go.WideShapes
theorem aXB:laidOutB Tryz.prog=true:=by kernel_rfl
theorem aXA:ownKnob Tryz.prog.godebug=none:=by kernel_rfl
set_option maxRecDepth 100000 in
theorem aP6 {W:World}{name:String}{g t:Nat}{s:String}{d:DataW Unit}{ms:Array _}(hg:Tryz.prog.globalNamed name=some g) (hty:(Tryz.prog.globals[g]?).map (·.type)=some t) (ht:Tryz.prog.underlying t=some (.interface ms)) (h:Lib.VarReads Tryz.prog W name (.iface s d)):aWJ W g:=by
 obtain ⟨g',t',cs,fuel,p,hg',ht',hvar,hd⟩:=h
 obtain rfl:=Option.some.inj (hg.symm.trans hg')
 obtain rfl:=Option.some.inj (hty.symm.trans ht')
 cases fuel with
 | zero=>cases hd
 | succ fuel =>
  unfold DataW.trod at hd
  rw [ht] at hd
  unfold World.var? at hvar
  rw [hg] at hvar
  simp only [Option.bind_some] at hvar
  split at hvar
  ·rename_i cs' T' fz hb
   obtain rfl:=Option.some.inj hvar
   have key:∃ ev,cs'.toList=[ev]∧(ev = .nilIface∨∃ te pe,ev = .iface te pe):=by
    split at hd<;>first | (cases hd;done) | skip
    all_goals (rename_i h1 h2;first | (cases h1;done) | (cases h2;done) | (exact ⟨_,h2,.inl rfl⟩) | (exact ⟨_,h2,.inr ⟨_,_,rfl⟩⟩))
   obtain ⟨ev,h1,h2⟩:=key
   refine ⟨ev,?_,h2⟩
   have hz:cs'[0]?=some ev:=by rw [←Array.getElem?_toList,h1];rfl
   unfold World.cell?
   simp [hb,hz]
  ·cases hvar
def aNc:List (String×DataW Unit):=[("math/bits.deBruijn32tab",Rows.laid_math_bits_deBruijn32tab),("math/bits.deBruijn64tab",Rows.laid_math_bits_deBruijn64tab),("internal/strconv.uint64pow10",Rows.laid_internal_strconv_uint64pow10),("strconv.ErrRange",Rows.laid_strconv_ErrRange),("strconv.ErrSyntax",Rows.laid_strconv_ErrSyntax),("unicode.White_Space",Rows.laid_unicode_White_Space),("strings.asciiSpace",Rows.laid_strings_asciiSpace)]
set_option maxRecDepth 100000 in
theorem aRF (os:Os) (args:Array Value):laidMetH Tryz.prog aNc ((World.doorLaid Tryz.prog 86 os).forCall (fun _ _=>0) ⟨#[],args,[]⟩).memory :=
 laidMetH_of_parts3 (fuel:=8) (laidMet_of_run' 8 (by kernel_rfl) (by kernel_rfl)) (by kernel_rfl) (by kernel_rfl)
theorem aSh {W:World}{name:String}{k:IntKind}{zs:List Int}{g:Nat}{t e:TypeId}{n:Nat}(hg:Tryz.prog.globalNamed name=some g) (hty:(Tryz.prog.globals[g]?).map (·.type)=some t) (ht:Tryz.prog.underlying t=some (.array n e)) (he:Tryz.prog.underlying e=some (.int k)) (hce:Tryz.prog.cellsOf e=1) (hct:Tryz.prog.cellsOf t=n) (h:Lib.VarReads Tryz.prog W name (Lib.tabData k zs)):Lib.TabIs Tryz.prog W name k zs:=by
 obtain ⟨g',t',cs,fuel,p,hg',ht',hvar,hd⟩:=h
 obtain rfl:=Option.some.inj (hg.symm.trans hg')
 obtain rfl:=Option.some.inj (hty.symm.trans ht')
 unfold Lib.TabIs
 rw [hvar,←Lib.cells_of_tab ht he hce hct hd]
set_option maxRecDepth 100000 in
theorem aWj {W:World}(h:laidMetH Tryz.prog aNc W):Tb W:=by
 rw [MakeChecks.laidMetH_plain _ _ _ (by kernel_rfl)] at h
 exact ⟨aSh (g:=4) (t:=280) (e:=222) (n:=20) (by kernel_rfl) (by kernel_rfl) (by kernel_rfl) (by kernel_rfl) (by kernel_rfl) (by kernel_rfl) (Lib.laidMet.reads h (d:=Rows.laid_internal_strconv_uint64pow10) (.tail _ (.tail _ (.head _)))),
  aSh (g:=3) (t:=153) (e:=5) (n:=256) (by kernel_rfl) (by kernel_rfl) (by kernel_rfl) (by kernel_rfl) (by kernel_rfl) (by kernel_rfl) (Lib.laidMet.reads h (d:=Rows.laid_strings_asciiSpace) (.tail _ (.tail _ (.tail _ (.tail _ (.tail _ (.tail _ (.head _))))))))⟩
set_option maxRecDepth 100000 in
theorem aWi {W:World}(h:laidMetH Tryz.prog aNc W):Te W:=by
 have hT:=aWj h
 rw [MakeChecks.laidMetH_plain _ _ _ (by kernel_rfl)] at h
 exact ⟨hT,aP6 (g:=0) (t:=173) (by kernel_rfl) (by kernel_rfl) Tryz.underlying173 (Lib.laidMet.reads h (n := "strconv.ErrSyntax") (d:=Rows.laid_strconv_ErrSyntax) (.tail _ (.tail _ (.tail _ (.tail _ (.head _)))))),
  aP6 (g:=1) (t:=173) (by kernel_rfl) (by kernel_rfl) Tryz.underlying173 (Lib.laidMet.reads h (n := "strconv.ErrRange") (d:=Rows.laid_strconv_ErrRange) (.tail _ (.tail _ (.tail _ (.head _)))))⟩
end Go.Proofs.YtbflfefahheidaaGreatDoor
