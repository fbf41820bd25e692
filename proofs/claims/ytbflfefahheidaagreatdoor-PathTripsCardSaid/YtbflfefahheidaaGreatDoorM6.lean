/- Part 6 of the proof. -/
import Derived.Test.YtbflfefahheidaaGreatDoorM5
import Derived.Lib.AtoiTie
import Derived.LaidMore
import Derived.Deep.Slices
import Derived.OpenShut
import Derived.Test.YtbflfefahheidaaGreatDoorTie
import Derived.Lib.LaidU8
import Derived.MakeChecks
import Derived.ProofKit
set_option linter.unusedVariables false
set_option linter.unusedSimpArgs false
namespace Go.Proofs.YtbflfefahheidaaGreatDoor
open Go.RowKit Go.Pl
def aCo (os:List ObR) (id:Bys):ObR:=(os.find? fun z=>z.o.id==id).getD ⟨⟨[],0,0,0,[],[]⟩,none,0,none,0⟩
theorem aGg {os:List ObR}(hv:aAd (aAa os)=true) {z:ObR}(hz:z∈os) {id:Bys}(h:z.o.id=id):aCo os id=z:=by
  have hp:os.Pairwise fun x y=>blt x.o.id y.o.id=true:=List.pairwise_map.1 (aAX hv)
  unfold aCo
  cases hf:os.find? (fun z=>z.o.id==id) with
  | none=>exact absurd (List.find?_eq_none.1 hf z hz) (by simp [h])
  | some y =>
    have h1:y.o.id=id:=by have:=List.find?_some hf;simpa using this
    obtain ⟨i,hi,rfl⟩:=List.mem_iff_getElem.1 (List.mem_of_find?_eq_some hf)
    obtain ⟨j,hj,rfl⟩:=List.mem_iff_getElem.1 hz
    rcases Nat.lt_trichotomy i j with q | q | q
    · have:=List.pairwise_iff_getElem.1 hp i j hi hj q
      rw [h1,h,aBW] at this;cases this
    · subst q;rfl
    · have:=List.pairwise_iff_getElem.1 hp j i hj hi q
      rw [h1,h,aBW] at this;cases this
theorem aSX {os:List ObR}(hv:aAd (aAa os)=true) {id:Bys}(h:¬ aAm (aAa os) id<0):aCo os id∈os∧(aCo os id).o.id=id:=by
  obtain ⟨k,z,_,hz,he⟩:=aEY h
  rw [aGg hv (gm hz) he]
  exact ⟨gm hz,he⟩
def aAZ (os:List ObR) (a:Arc):Int:=(a.2.2.2+aBy (aAw (aCo os a.2.2.1).o.tags [115,112,101,101,100]).1-1) / aBy (aAw (aCo os a.2.2.1).o.tags [115,112,101,101,100]).1
section
variable {w:World}{v:Value}{os:List ObR}{a:Arc}
theorem aK8 (hmv:aCp w v os) (hv:aAd (aAa os)=true) (hfi:¬ aAm (aAa os) a.2.2.1<0) {z:ObR}(hz:z=aCo os a.2.2.1):Calls Tryz.prog 46 #[.agg #[v],aIQ a] w fun e w'=>e = .returned (vA (obL z))∧Fr (fun _=>False) w w' :=
  (aFo hmv hfi).mono fun e w' ⟨y,h1,h2,h3,h4⟩=>⟨by rw [hz,aGg hv h1 h2];exact h3,h4⟩
theorem aJ2 (hmv:aCp w v os) (hv:aAd (aAa os)=true) (prof:Bys) (hfi:¬ aAm (aAa os) a.2.2.1<0):Calls Tryz.prog 43 #[.agg #[v],vS prof,aIQ a] w fun e w'=>e = .returned (vB (aAQ prof (aCo os a.2.2.1).o a))∧Fr (fun _=>False) w w' :=
  (aKC hmv prof hfi).mono fun e w' ⟨y,h1,h2,h3,h4⟩=>⟨by rw [aGg hv h1 h2];exact h3,h4⟩
theorem aIg (hmv:aCp w v os) (hv:aAd (aAa os)=true) (ha:ArcB a) (hfi:¬ aAm (aAa os) a.2.2.1<0):Calls Tryz.prog 44 #[.agg #[v],aIQ a] w fun e w'=>e = .returned (vI (aAZ os a))∧Fr (fun _=>False) w w' :=
  (aJz hmv ha hfi).mono fun e w' ⟨y,h1,h2,h3,h4⟩=>⟨by unfold aAZ;rw [aGg hv h1 h2];exact h3,h4⟩
theorem aJ6 (hmv:aCp w v os) (hol:os.length≤1000000) (hv:aAd (aAa os)=true) (hrn:aKl (aAa (ofR os 2 os))≤400000) {A:List Arc}(hA:A=aBp (aAa os) (aAa (ofR os 2 os)) (ofR os 2 os).length):Calls Tryz.prog 42 #[.agg #[v]] w fun e w'=>∃ u,e = .returned u∧Mm (fun _=>False) w w' [rw_ arL 4 47 u A]:=by
  subst hA;exact aKI hmv hol hv hrn
theorem aMT {o:Ob}(hl:(aAw o.tags [104,111,117,114,115]).1.length≤4900):Calls Tryz.prog 47 #[vS (aAw o.tags [104,111,117,114,115]).1] w fun e w'=>∃ v c x,e = .returned (.tuple #[v,vI c,vI x])∧(c==0)=aDr o∧aHd spL 2 141 w w' v (aAc o)∧Fr (fun _=>False) w w':=by
  refine (aJ1 hl w).mono ?_
  rintro e w' ⟨h1,h2⟩
  unfold aDE at h1
  rcases aEu (aAw o.tags [104,111,117,114,115]).1 with ⟨c,x,hp,hc,-⟩ | ⟨l,hp,-⟩
  · rw [hp] at h1
    refine ⟨_,c,x,h1,?_,?_,h2⟩
    · unfold aDr aDL;rw [hp];simpa using hc
    · unfold aAc aDL;rw [hp];exact ⟨aOS w',fun k h=>by cases h⟩
  · rw [hp] at h1
    obtain ⟨v,h3,h4⟩:=h1
    refine ⟨v,0,0,h3,?_,?_,h2⟩
    · unfold aDr aDL;rw [hp];rfl
    · unfold aAc aDL;rw [hp];exact h4
end
structure LkR where
  a:Arc
  op:Bool
  tk:Int
  fr:Bool
  hp:Option Addr
  hc:Nat
  hs:List Sp
  np:Option Addr
  nc:Nat
  nx:List Int
def lkL (x:LkR):List Value:=[vS x.a.1,vS x.a.2.1,vS x.a.2.2.1,vI x.a.2.2.2,vB x.op,vI x.tk,vB x.fr,vL x.hp x.hs.length x.hc,vL x.np x.nx.length x.nc]
theorem lkT:ElT9 Tryz.prog lkL 9 41 50:=⟨fun _=>rfl,by decide,fun x u hu=>by
  unfold lkL at hu
  simp only [List.mem_cons,List.not_mem_nil,or_false] at hu
  rcases hu with rfl | rfl | rfl | rfl | rfl | rfl | rfl | rfl | rfl<;>rfl,Tryz.underlying41,aNs (by kernel_rfl)⟩
abbrev hbL (L:List LkR):List (Value×List Sp):=L.map fun x=>(vL x.hp x.hs.length x.hc,x.hs)
abbrev nbL (L:List LkR):List (Value×List Int):=L.map fun x=>(vL x.np x.nx.length x.nc,x.nx)
def nxK (os:List ObR) (prof:Bys) (A:List Arc) (a:Arc):Nat→List Int
  | 0=>[]
  | k+1=>match A[k]? with
    | some b=>bif aEA os prof a b then nxK os prof A a k++[(k:Int)] else nxK os prof A a k
    | none=>nxK os prof A a k
theorem aPc {os:List ObR}{prof:Bys}{A:List Arc}{a b:Arc}{k:Nat}(h:A[k]?=some b):nxK os prof A a (k+1)=bif aEA os prof a b then nxK os prof A a k++[(k:Int)] else nxK os prof A a k:=by
  show (match A[k]? with | some b=>_ | none=>_)=_
  rw [h]
theorem aPe (os:List ObR) (prof:Bys) (A:List Arc) (a:Arc):∀ k,(nxK os prof A a k).length≤k
  | 0=>Nat.le_refl _
  | k+1=>by
    have:=aPe os prof A a k
    show (match A[k]? with | some b=>_ | none=>_:List Int).length≤_
    cases A[k]? with
    | none=>exact Nat.le_succ_of_le this
    | some b =>
      show (bif aEA os prof a b then _ else _:List Int).length≤_
      cases aEA os prof a b
      · exact Nat.le_succ_of_le this
      · simp only [cond_true,List.length_append,List.length_singleton];omega
structure LkS (os:List ObR) (prof:Bys) (A:List Arc) (x:LkR) (a:Arc):Prop where
  arc:x.a=a
  op:x.op=aAQ prof (aCo os a.2.2.1).o a
  tk:x.tk=aAZ os a
  fr:x.fr = !((aAw (aCo os a.2.2.1).o.tags [104,111,117,114,115]).2&&aDr (aCo os a.2.2.1).o)
  hs:x.hs=bif (aAw (aCo os a.2.2.1).o.tags [104,111,117,114,115]).2 then aAc (aCo os a.2.2.1).o else []
  nx:x.nx=nxK os prof A a A.length
structure LksP (os:List ObR) (prof:Bys) (A:List Arc) (L:List LkR) (i:Nat):Prop where
  len:L.length=i
  at_:∀ (j:Nat) (x:LkR),L[j]?=some x→∃ a,A[j]?=some a∧LkS os prof A x a
theorem LksP.nil (os:List ObR) (prof:Bys) (A:List Arc):LksP os prof A [] 0:=⟨rfl,fun j x h=>by simp at h⟩
theorem LksP.snoc {os:List ObR}{prof:Bys}{A:List Arc}{L:List LkR}{i:Nat}{x:LkR}{a:Arc}(h:LksP os prof A L i) (ha:A[i]?=some a) (hx:LkS os prof A x a):LksP os prof A (L++[x]) (i+1):=⟨by rw [List.length_append,h.len];rfl,fun j y hy=>by
  rcases Nat.lt_or_ge j L.length with hj | hj
  · rw [List.getElem?_append_left hj] at hy;exact h.at_ j y hy
  · rw [List.getElem?_append_right hj] at hy
    have hj0:j-L.length=0:=by have:=gl hy;rw [List.length_singleton] at this;omega
    rw [hj0] at hy;cases hy
    rw [show j=i by have:=h.len;omega];exact ⟨a,ha,hx⟩⟩
abbrev A18 (Φ:Ending→World→Prop):=AtO Tryz.prog (aAf Tryz.f18) (aAo (bodyPost Tryz.prog Tryz.f18 Φ)) [] 92
theorem aJ3 {w:World}{v:Value}{os:List ObR}(hmv:aCp w v os) (hol:os.length≤1000000) (hv:aAd (aAa os)=true) (hrn:aKl (aAa (ofR os 2 os))≤400000) (prof:Bys) {A:List Arc}(hAe:A=aBp (aAa os) (aAa (ofR os 2 os)) (ofR os 2 os).length) (hAl:A.length≤1000000) (hA:∀ a∈A,ArcB a∧¬ aAm (aAa os) a.2.2.1<0):Calls Tryz.prog 18 #[.agg #[v],vS prof] w fun e w'=>∃ u L,e = .returned u∧LksP os prof A L A.length∧Mm (fun _=>False) w w' [rw_ lkL 9 50 u L,aAB spL 2 141 (hbL L),aAB inL 1 3 (nbL L)]:=by
  have hm0:=hmv;obtain ⟨hs0,hob⟩:=hm0
  obtain ⟨p0,cp0,hp0,sp0⟩:=hs0.op
  subst hp0
  refine beg Tryz.func18 rfl rfl [(0,.agg #[vL p0 os.length cp0]),(1,vS prof)] rfl rfl fun Φ hΦ=>?_
  have hM:=Mm.nil (fun _=>False) w
  refine aAq 0 0 2 [] (cs:=#[vL p0 os.length cp0]) (T:=24) (v:=fun b=>vP b 0) f0 hM fun aa w1 hM=>aAO 1 1 16 [(15,.agg #[vL p0 os.length cp0])] (K:=fun u Mn=>∃ v1,u=v1∧Mn=[rw_ arL 4 47 v1 A]) [0] [] (fc (lam 24 0 0 1 hM rfl) f0) hM rfl rfl (by decide) (fun hm=>((aJ6 (hmv.fr hM.fr) hol hv hrn hAe).mono fun e w8 ⟨v1,h1,h2⟩=>⟨_,_,h1,⟨v1,rfl,rfl⟩,aDo h2 fun _ h=>h.elim⟩)) fun u Mn w1 hK hM=>?_
  obtain ⟨v1,rfl,rfl⟩:=hK
  obtain ⟨qa,ca,ea,sa9⟩:=(hM.src (j:=1) rfl arT.len).op
  subst ea
  replace hM:Mm (fun _=>False) w w1 [bk aa #[vL p0 os.length cp0] 24,_]:=hM
  have hM:=hM.row (f:=lkL) (c:=9) (E:=50)
  have hM:=aIL (f:=spL) (c:=2) (E:=141) hM
  have hM:=aIL (f:=inL) (c:=1) (E:=3) hM
  replace hM:Mm (fun _=>False) w w1 [bk aa #[vL p0 os.length cp0] 24,_,_,_,_]:=hM
  refine seg 4 0 [(5,vL qa A.length ca),(6,vL none 0 0),(7,vI 0)] f0 ?_
  have aq:∀ (ai:Nat) (i:Nat) (L:List LkR) (vo:Value) (w2:World),i≤A.length→LksP os prof A L i→Mm (fun _=>False) w w2 [bk aa #[vL p0 os.length cp0] 24,rw_ arL 4 47 (vL qa A.length ca) A,rw_ lkL 9 50 vo L,aAB spL 2 141 (hbL L),aAB inL 1 3 (nbL L)]→ai=A.length-i→A18 Φ (some (4,0)) [(7,vI (i:Int)),(6,vo),(5,vL qa A.length ca),(2,vP aa 0),(1,vS prof)] w2:=by
   refine aAG fun ai ar i L vo w2 hi hL hM az=>seg 4 4 [(20,vB (decide ((i:Int)<(A.length:Int))))] f0 ?_
   cases aj:(decide ((i:Int)<(A.length:Int)))
   ·have au:=df aj
    exact rt1 4 vo rfl f0 (hΦ _ _ ⟨_,L,rfl,(show i=A.length by omega)▸hL,hM.pick [2,3,4]⟩)
   have au:=dt aj
   obtain ⟨y,hy⟩:=geb (l:=A) (i:=i) (by omega)
   obtain ⟨hyB,hyf⟩:=hA y (gm hy)
   have hLl:=hL.len
   obtain ⟨zw,hzw⟩:∃ z,z=aCo os y.2.2.1:=⟨_,rfl⟩
   have hz1:zw∈os:=by rw [hzw];exact (aSX hv hyf).1
   have htl:(aAw zw.o.tags [104,111,117,114,115]).1.length≤4900:=Nat.le_trans (aBQ (aDX hv zw.o (List.mem_map.2 ⟨zw,hz1,rfl⟩)) _) (by decide)
   refine seg 6 0 [] f0 ?_
   obtain ⟨a0,ad,-⟩:=hM.el arT (j:=1) rfl hy
   have hM:=hM.nl
   refine drx [18,19] (fun γ=>[some (vP (bn (γ 0)) 0),none]) _ (fun γ l=>[bk aa #[vL p0 os.length cp0] 24,rw_ arL 4 47 (vL qa A.length ca) A,rw_ lkL 9 50 vo L,aAB spL 2 141 (hbL L),aAB inL 1 3 (nbL L),(bif l.getD 1 false then bk (bn (γ 0)) #[vS y.1,vS y.2.1,vS y.2.2.1,vI y.2.2.2,vB (aAQ prof (aCo os y.2.2.1).o y),vI (aAZ os y),vB true,vL none 0 0,vL none 0 0] 50 else (bif l.getD 0 false then bk (bn (γ 0)) #[vS [],vS [],vS [],vI 0,vB false,vI 0,vB false,vL none 0 0,vL none 0 0] 50 else aIY))]) (fun γ=>[(8,vP (bn (γ 0)) 0)]) hM (fun γ=>rfl) (fun γ l w5 hM=>(fc (ix 75 ca ad (gl hy)) (fc (lar 47 1 0 4 arT hM rfl ad hy) (fc (lam 24 0 0 1 hM rfl) (fc (ix 75 ca ad (gl hy)) (fc (lar 47 1 0 4 arT hM rfl ad hy) (fc (tcl (aJ2 (hmv.fr hM.fr) hv prof hyf)) (fc (lam 24 0 0 1 hM rfl) (fc (ix 75 ca ad (gl hy)) (fc (lar 47 1 0 4 arT hM rfl ad hy) (fc (tcl (aIg (hmv.fr hM.fr) hv hyB hyf)) f0))))))))))) ⟨aCB 0 18 5 8 (fun γ=>#[vS [],vS [],vS [],vI 0,vB false,vI 0,vB false,vL none 0 0,vL none 0 0]) 50 (fun b=>vP b 0),aB7 1 19 50 5 0 (fun γ=>(bn (γ 0))) (fun γ l=>#[vS [],vS [],vS [],vI 0,vB false,vI 0,vB false,vL none 0 0,vL none 0 0]) 50 (fun γ => .agg #[vS y.1,vS y.2.1,vS y.2.2.1,vI y.2.2.2,vB (aAQ prof (aCo os y.2.2.1).o y),vI (aAZ os y),vB true,vL none 0 0,vL none 0 0]),trivial⟩ fun ak w1 hM=>?_
   replace hM:Mm (fun _=>False) w w1 [bk aa #[vL p0 os.length cp0] 24,_,_,_,_,bk (bn (ak 0)) #[vS y.1,vS y.2.1,vS y.2.2.1,vI y.2.2.2,vB (aAQ prof (aCo os y.2.2.1).o y),vI (aAZ os y),vB true,vL none 0 0,vL none 0 0] 50]:=hM
   obtain ⟨bl,hbl⟩:∃ z,z=(bn (ak 0)):=⟨_,rfl⟩
   rw [←hbl] at hM ⊢
   replace hM:Mm (fun _=>False) w w1 [bk aa #[vL p0 os.length cp0] 24,_,_,_,_,bk bl #[vS y.1,vS y.2.1,vS y.2.2.1,vI y.2.2.2,vB (aAQ prof (aCo os y.2.2.1).o y),vI (aAZ os y),vB true,vL none 0 0,vL none 0 0] 50]:=hM
   refine seg 7 0 [] f0 ?_
   obtain ⟨a1,ae,-⟩:=hM.el arT (j:=1) rfl hy
   refine drc [(9,vS ((aAw zw.o.tags [104,111,117,114,115]).1)),(10,vB (aAw zw.o.tags [104,111,117,114,115]).2)] hM (fun w5 hM=>(fc (lam 24 0 0 1 hM rfl) (fc (ix 75 ca ae (gl hy)) (fc (lar 47 1 0 4 arT hM rfl ae hy) (fc (tcl (aK8 (hmv.fr hM.fr) hv hyf hzw)) (fc (tcl (aDU ((hob _ hz1).tags.src.fr hM.fr) [104,111,117,114,115])) f0)))))) fun w5 hM=>?_
   have cu336:∀ (frB:Bool) (hp:Option Addr) (hc:Nat) (hs:List Sp) (w2:World),frB = !((aAw zw.o.tags [104,111,117,114,115]).2&&aDr zw.o)→(hs=bif (aAw zw.o.tags [104,111,117,114,115]).2 then aAc zw.o else [])→Mm (fun _=>False) w w2 [bk aa #[vL p0 os.length cp0] 24,rw_ arL 4 47 (vL qa A.length ca) A,rw_ lkL 9 50 vo L,aAB spL 2 141 (hbL L),aAB inL 1 3 (nbL L),bk bl #[vS y.1,vS y.2.1,vS y.2.2.1,vI y.2.2.2,vB (aAQ prof (aCo os y.2.2.1).o y),vI (aAZ os y),vB frB,vL hp hs.length hc,vL none 0 0] 50,rw_ spL 2 141 (vL hp hs.length hc) hs]→A18 Φ (some (12,0)) [(8,vP bl 0),(7,vI (i:Int)),(6,vo),(5,vL qa A.length ca),(2,vP aa 0),(1,vS prof)] w2:=by
    intro frB hp hc hs w2 hfr hhs hM
    have hM:=hM.row (f:=inL) (c:=1) (E:=3)
    refine seg 13 0 [(14,vI 0)] f0 ?_
    have av:∀ (al:Nat) (k:Nat) (qn:Option Addr) (cn:Nat) (w2:World),k≤A.length→Mm (fun _=>False) w w2 [bk aa #[vL p0 os.length cp0] 24,rw_ arL 4 47 (vL qa A.length ca) A,rw_ lkL 9 50 vo L,aAB spL 2 141 (hbL L),aAB inL 1 3 (nbL L),bk bl #[vS y.1,vS y.2.1,vS y.2.2.1,vI y.2.2.2,vB (aAQ prof (aCo os y.2.2.1).o y),vI (aAZ os y),vB frB,vL hp hs.length hc,vL qn (nxK os prof A y k).length cn] 50,rw_ spL 2 141 (vL hp hs.length hc) hs,rw_ inL 1 3 (vL qn (nxK os prof A y k).length cn) (nxK os prof A y k)]→al=A.length-k→A18 Φ (some (13,0)) [(14,vI (k:Int)),(8,vP bl 0),(7,vI (i:Int)),(6,vo),(5,vL qa A.length ca),(2,vP aa 0),(1,vS prof)] w2:=by
     refine aAG fun al am k qn cn w2 hk hM a2=>?_
     have hnl:=aPe os prof A y k
     refine seg 13 4 [(67,vB (decide ((k:Int)<(A.length:Int))))] f0 ?_
     cases an:(decide ((k:Int)<(A.length:Int)))
     ·have aw:=df an
      have hkA:k=A.length:=by omega
      rw [hkA] at hM
      replace hM:Mm (fun _=>False) w _ [bk aa #[vL p0 os.length cp0] 24,_,_,_,_,bk bl #[vS y.1,vS y.2.1,vS y.2.2.1,vI y.2.2.2,vB (aAQ prof (aCo os y.2.2.1).o y),vI (aAZ os y),vB frB,vL hp hs.length hc,vL qn (nxK os prof A y A.length).length cn] 50,_,_]:=hM
      refine aAq 17 2 89 [(87,vo),(88,.agg #[vS y.1,vS y.2.1,vS y.2.2.1,vI y.2.2.2,vB (aAQ prof (aCo os y.2.2.1).o y),vI (aAZ os y),vB frB,vL hp hs.length hc,vL qn (nxK os prof A y A.length).length cn])] (cs:=#[vS y.1,vS y.2.1,vS y.2.2.1,vI y.2.2.2,vB (aAQ prof (aCo os y.2.2.1).o y),vI (aAZ os y),vB frB,vL hp hs.length hc,vL qn (nxK os prof A y A.length).length cn]) (T:=50) (v:=fun b=>vL (some ⟨b,0,none⟩) 1 1) (fc (lam 50 5 0 9 hM rfl) f0) hM fun a3 w1 hM=>aWN 17 3 90 [] (cap:=1) (by decide) lkT f0 hM (j:=2) rfl (aAD (f:=lkL) (x:=(⟨y,(aAQ prof (aCo os y.2.2.1).o y),(aAZ os y),frB,hp,hc,hs,qn,cn,(nxK os prof A y A.length)⟩:LkR)) (hM.get 8 rfl) (Nat.lt_succ_self _)) (fun h=>by cases h) (by simp only [List.length_cons,List.length_nil];omega) fun a4 w1 hM=>?_
      obtain ⟨ab,ac,ax,-⟩:=(hM.src (j:=2) rfl lkT.len).op
      subst ax
      have hM:Mm (fun _=>False) w _ [bk aa #[vL p0 os.length cp0] 24,rw_ arL 4 47 (vL qa A.length ca) A,rw_ lkL 9 50 (vL ab (L++[(⟨y,(aAQ prof (aCo os y.2.2.1).o y),(aAZ os y),frB,hp,hc,hs,qn,cn,(nxK os prof A y A.length)⟩:LkR)]).length ac) (L++[(⟨y,(aAQ prof (aCo os y.2.2.1).o y),(aAZ os y),frB,hp,hc,hs,qn,cn,(nxK os prof A y A.length)⟩:LkR)]),aAB inL 1 3 (nbL L),rw_ inL 1 3 (vL qn (nxK os prof A y A.length).length cn) (nxK os prof A y A.length),aAB spL 2 141 (hbL L),rw_ spL 2 141 (vL hp hs.length hc) hs]:=hM.pick [0,1,2,4,7,3,6]
      have hM:Mm (fun _=>False) w _ [bk aa #[vL p0 os.length cp0] 24,rw_ arL 4 47 (vL qa A.length ca) A,rw_ lkL 9 50 (vL ab (L++[(⟨y,(aAQ prof (aCo os y.2.2.1).o y),(aAZ os y),frB,hp,hc,hs,qn,cn,(nxK os prof A y A.length)⟩:LkR)]).length ac) (L++[(⟨y,(aAQ prof (aCo os y.2.2.1).o y),(aAZ os y),frB,hp,hc,hs,qn,cn,(nxK os prof A y A.length)⟩:LkR)]),aAB inL 1 3 (nbL L),rw_ inL 1 3 (vL qn (nxK os prof A y A.length).length cn) (nxK os prof A y A.length),aAB spL 2 141 (hbL (L++[(⟨y,(aAQ prof (aCo os y.2.2.1).o y),(aAZ os y),frB,hp,hc,hs,qn,cn,(nxK os prof A y A.length)⟩:LkR)]))]:=aGV (A:=[bk aa #[vL p0 os.length cp0] 24,rw_ arL 4 47 (vL qa A.length ca) A,rw_ lkL 9 50 (vL ab (L++[(⟨y,(aAQ prof (aCo os y.2.2.1).o y),(aAZ os y),frB,hp,hc,hs,qn,cn,(nxK os prof A y A.length)⟩:LkR)]).length ac) (L++[(⟨y,(aAQ prof (aCo os y.2.2.1).o y),(aAZ os y),frB,hp,hc,hs,qn,cn,(nxK os prof A y A.length)⟩:LkR)]),aAB inL 1 3 (nbL L),rw_ inL 1 3 (vL qn (nxK os prof A y A.length).length cn) (nxK os prof A y A.length)]) hM (by unfold hbL;rw [List.map_append];exact List.perm_append_singleton _ _)
      have hM:Mm (fun _=>False) w _ [bk aa #[vL p0 os.length cp0] 24,rw_ arL 4 47 (vL qa A.length ca) A,rw_ lkL 9 50 (vL ab (L++[(⟨y,(aAQ prof (aCo os y.2.2.1).o y),(aAZ os y),frB,hp,hc,hs,qn,cn,(nxK os prof A y A.length)⟩:LkR)]).length ac) (L++[(⟨y,(aAQ prof (aCo os y.2.2.1).o y),(aAZ os y),frB,hp,hc,hs,qn,cn,(nxK os prof A y A.length)⟩:LkR)]),aAB spL 2 141 (hbL (L++[(⟨y,(aAQ prof (aCo os y.2.2.1).o y),(aAZ os y),frB,hp,hc,hs,qn,cn,(nxK os prof A y A.length)⟩:LkR)])),aAB inL 1 3 (nbL L),rw_ inL 1 3 (vL qn (nxK os prof A y A.length).length cn) (nxK os prof A y A.length)]:=hM.pick [0,1,2,5,3,4]
      have hM:Mm (fun _=>False) w _ [bk aa #[vL p0 os.length cp0] 24,rw_ arL 4 47 (vL qa A.length ca) A,rw_ lkL 9 50 (vL ab (L++[(⟨y,(aAQ prof (aCo os y.2.2.1).o y),(aAZ os y),frB,hp,hc,hs,qn,cn,(nxK os prof A y A.length)⟩:LkR)]).length ac) (L++[(⟨y,(aAQ prof (aCo os y.2.2.1).o y),(aAZ os y),frB,hp,hc,hs,qn,cn,(nxK os prof A y A.length)⟩:LkR)]),aAB spL 2 141 (hbL (L++[(⟨y,(aAQ prof (aCo os y.2.2.1).o y),(aAZ os y),frB,hp,hc,hs,qn,cn,(nxK os prof A y A.length)⟩:LkR)])),aAB inL 1 3 (nbL (L++[(⟨y,(aAQ prof (aCo os y.2.2.1).o y),(aAZ os y),frB,hp,hc,hs,qn,cn,(nxK os prof A y A.length)⟩:LkR)]))]:=aGV (A:=[bk aa #[vL p0 os.length cp0] 24,rw_ arL 4 47 (vL qa A.length ca) A,rw_ lkL 9 50 (vL ab (L++[(⟨y,(aAQ prof (aCo os y.2.2.1).o y),(aAZ os y),frB,hp,hc,hs,qn,cn,(nxK os prof A y A.length)⟩:LkR)]).length ac) (L++[(⟨y,(aAQ prof (aCo os y.2.2.1).o y),(aAZ os y),frB,hp,hc,hs,qn,cn,(nxK os prof A y A.length)⟩:LkR)]),aAB spL 2 141 (hbL (L++[(⟨y,(aAQ prof (aCo os y.2.2.1).o y),(aAZ os y),frB,hp,hc,hs,qn,cn,(nxK os prof A y A.length)⟩:LkR)]))]) hM (by unfold nbL;rw [List.map_append];exact List.perm_append_singleton _ _)
      refine seg 4 0 [(6,vL ab (L++[(⟨y,(aAQ prof (aCo os y.2.2.1).o y),(aAZ os y),frB,hp,hc,hs,qn,cn,(nxK os prof A y A.length)⟩:LkR)]).length ac),(7,vI ((i:Int)+1))] (fc (aAe (i:Int) 1 u3_) f0) (aAb _ (ar _ (by have:=gl hy;omega) (i+1) (L++[(⟨y,(aAQ prof (aCo os y.2.2.1).o y),(aAZ os y),frB,hp,hc,hs,qn,cn,(nxK os prof A y A.length)⟩:LkR)]) (vL ab (L++[(⟨y,(aAQ prof (aCo os y.2.2.1).o y),(aAZ os y),frB,hp,hc,hs,qn,cn,(nxK os prof A y A.length)⟩:LkR)]).length ac) _ (gl hy) (hL.snoc hy ⟨rfl,rfl,rfl,by rw [←hzw];exact hfr,by rw [←hzw];exact hhs,rfl⟩) hM rfl))
     have aw:=dt an
     obtain ⟨y2,hy2⟩:=geb (l:=A) (i:=k) (by omega)
     refine seg 15 0 [] f0 ?_
     obtain ⟨a5,ao,-⟩:=hM.el arT (j:=1) rfl hy2
     refine drc [(80,vB (aEA os prof y y2))] hM (fun w5 hM=>(fc (lam 24 0 0 1 hM rfl) (fc (ix 75 ca ae (gl hy)) (fc (lar 47 1 0 4 arT hM rfl ae hy) (fc (ix 75 ca ao (gl hy2)) (fc (lar 47 1 0 4 arT hM rfl ao hy2) (fc (tcl (aK9 (hmv.fr hM.fr) hol hv prof y y2)) f0))))))) fun w5 hM=>?_
     cases ap:(aEA os prof y y2)
     ·refine seg 13 0 [(14,vI ((k:Int)+1))] (fc (aAe (k:Int) 1 u3_) f0) ?_
      have e9:(nxK os prof A y k)=nxK os prof A y (k+1):=by rw [aPc hy2,ap];rfl
      replace hM:Mm (fun _=>False) w _ [bk aa #[vL p0 os.length cp0] 24,_,_,_,_,bk bl #[vS y.1,vS y.2.1,vS y.2.2.1,vI y.2.2.2,vB (aAQ prof (aCo os y.2.2.1).o y),vI (aAZ os y),vB frB,vL hp hs.length hc,vL qn (nxK os prof A y k).length cn] 50,_,_]:=hM
      rw [e9] at hM
      exact aAb _ (am _ (by have:=gl hy2;omega) (k+1) qn cn _ (gl hy2) hM rfl)
     refine aAq 16 3 84 [(82,vL qn (nxK os prof A y k).length cn),(83,vI (k:Int))] (cs:=#[vI (k:Int)]) (T:=3) (v:=fun b=>vL (some ⟨b,0,none⟩) 1 1) (fc (ldm 29 5 8 hM rfl rfl) f0) hM fun a6 w1 hM=>aJa 16 4 85 [] (cap:=1) (by decide) inT f0 hM (j:=7) rfl (aAD (f:=inL) (x:=(k:Int)) (hM.get 8 rfl) (Nat.lt_succ_self _)) (fun h=>by cases h) (by simp only [List.length_cons,List.length_nil];omega) fun a7 w1 hM=>?_
     obtain ⟨ag,ah,ay,-⟩:=(hM.src (j:=7) rfl inT.len).op
     subst ay
     refine stm 16 6 [(86,vP bl 8)] 29 5 8 (vL ag ((nxK os prof A y k)++[(k:Int)]).length ah) f0 hM rfl fun w1 hM=>seg 13 0 [(14,vI ((k:Int)+1))] (fc (aAe (k:Int) 1 u3_) f0) ?_
     have e9:((nxK os prof A y k)++[(k:Int)])=nxK os prof A y (k+1):=by rw [aPc hy2,ap];rfl
     replace hM:=hM.pick [0,1,2,3,4,5,6,7]
     replace hM:Mm (fun _=>False) w _ [bk aa #[vL p0 os.length cp0] 24,_,_,_,_,bk bl #[vS y.1,vS y.2.1,vS y.2.2.1,vI y.2.2.2,vB (aAQ prof (aCo os y.2.2.1).o y),vI (aAZ os y),vB frB,vL hp hs.length hc,vL ag ((nxK os prof A y k)++[(k:Int)]).length ah] 50,_,_]:=hM
     rw [e9] at hM
     exact aAb _ (am _ (by have:=gl hy2;omega) (k+1) ag ah _ (gl hy2) hM rfl)
    exact aAb _ (av _ 0 none 0 _ (Nat.zero_le _) hM rfl)
   refine seg 8 1 [(52,vB (aAw zw.o.tags [104,111,117,114,115]).2)] f0 ?_
   cases af:(aAw zw.o.tags [104,111,117,114,115]).2 with
   | false =>
    refine seg 12 0 [] f0 ?_
    have hM:=hM.row (f:=spL) (c:=2) (E:=141)
    exact aAb _ (cu336 true none 0 [] _ (by rw [af];rfl) (by rw [af];rfl) hM)
   | true =>
    refine cal 9 1 55 [(54,vS ((aAw zw.o.tags [104,111,117,114,115]).1))] (K:=fun u w8=>∃ v c x,u = .tuple #[v,vI c,vI x]∧(c==0)=aDr zw.o∧aHd spL 2 141 w5 w8 v (aAc zw.o)∧Fr (fun _=>False) w5 w8) f0 ((aMT (w:=w5) (o:=zw.o) htl).mono fun e w8 ⟨v,c,x,h1,h2⟩=>⟨_,h1,v,c,x,rfl,h2⟩) fun u w1 ⟨v,c,x,hu,hco,hO,f1⟩=>?_
    subst hu
    have hM:=hM.add f1 (rw_ spL 2 141 v (aAc zw.o)) hO.1 hO.2
    obtain ⟨qh,ch,rfl,-⟩:=hO.op spT.len
    refine stm 10 3 [(11,vL qh (aAc zw.o).length ch),(60,vB (!(c==0))),(61,vP bl 6)] 4 5 6 (vB (!(c==0))) f0 hM rfl fun w1 hM=>stm 11 2 [(62,vL qh (aAc zw.o).length ch),(63,vP bl 7)] 48 5 7 (vL qh (aAc zw.o).length ch) f0 hM rfl fun w1 hM=>seg 12 0 [] f0 (aAb _ (cu336 (!(c==0)) qh ch (aAc zw.o) _ (by rw [hco,af];rfl) (by rw [af];rfl) hM))
  exact aAb _ (aq _ 0 [] (vL none 0 0) _ (Nat.zero_le _) (LksP.nil os prof A) hM rfl)
theorem aR1 {l:List Sp}{m:Int}(h0:0≤m):0≤(aAy l m).1∧(aAy l m).1≤m+30000:=by
  cases hv:vl (-1) l with
  | false=>rw [aG4 hv];simp only;omega
  | true =>
    cases hm:aBn m with
    | false=>rw [aEP hm];simp only;omega
    | true =>
      cases he:l.isEmpty with
      | true=>rw [aG3 he];simp only;omega
      | false =>
        rw [aEQ hv hm he]
        show 0≤aDg l m∧aDg l m≤m+30000
        cases hf:l.find? (fun s=>decide (m%10080<s.2)) with
        | some s =>
          rw [aFv hf]
          obtain ⟨i,hi⟩:=List.getElem?_of_mem (List.mem_of_find?_eq_some hf)
          have:=aHS hv hi
          omega
        | none =>
          obtain ⟨s,hs⟩:=geb (l:=l) (i:=0) (by cases l with | nil=>cases he | cons a l=>simp)
          rw [aFu hf hs]
          have:=aHS hv hs
          omega
structure LkV (w:World) (x:LkR):Prop where
  hs:SrcP spL 2 w x.hp x.hc x.hs
  nx:SrcP inL 1 w x.np x.nc x.nx
theorem aVy {F0:Nat→Prop}{w0 w:World}{M:List Ent}{L:List LkR}(hM:Mm F0 w0 w M) {i j:Nat}(hi:M[i]?=some (aAB spL 2 141 (hbL L))) (hj:M[j]?=some (aAB inL 1 3 (nbL L))):∀ x∈L,LkV w x:=fun x hx =>
  ⟨(Src.p (ow.src spT.len ((hM.get i hi).1 (vL x.hp x.hs.length x.hc,x.hs) (List.mem_map.2 ⟨x,hx,rfl⟩)))).2,(Src.p (ow.src inT.len ((hM.get j hj).1 (vL x.np x.nx.length x.nc,x.nx) (List.mem_map.2 ⟨x,hx,rfl⟩)))).2⟩
def aCQ (x:LkR) (m:Int):Int×Bool :=
  bif !x.op||(decide (m<0)||decide (1000000000<m)) then (0,false) else bif x.fr then (m+x.tk,true) else ((aAy x.hs m).1+x.tk,(aAy x.hs m).2&&decide ((aAy x.hs m).1≤1000000000))
theorem aKB {w:World}(x:LkR) (hh:SrcP spL 2 w x.hp x.hc x.hs) (htk:0≤x.tk∧x.tk≤5000000000) (m:Int):Calls Tryz.prog 21 #[vA (lkL x),vI m] w fun e w'=>e = .returned (.tuple #[vI (aCQ x m).1,vB (aCQ x m).2])∧Fr (fun _=>False) w w':=by
  refine beg Tryz.func21 rfl rfl [(0,.agg #[vS x.a.1,vS x.a.2.1,vS x.a.2.2.1,vI x.a.2.2.2,vB x.op,vI x.tk,vB x.fr,vL x.hp x.hs.length x.hc,vL x.np x.nx.length x.nc]),(1,vI m)] rfl rfl fun Φ hΦ=>?_
  have hM:=Mm.nil (fun _=>False) w
  refine aAq 0 0 2 [] (cs:=#[vS x.a.1,vS x.a.2.1,vS x.a.2.2.1,vI x.a.2.2.2,vB x.op,vI x.tk,vB x.fr,vL x.hp x.hs.length x.hc,vL x.np x.nx.length x.nc]) (T:=50) (v:=fun b=>vP b 0) f0 hM fun ah w1 hM=>seg 1 4 [(11,vB (!x.op))] (fc (ldm 4 0 4 hM rfl rfl) f0) ?_
  cases ab:x.op with
  | false =>
   exact rt2 4 5 (vI 0) (vB false) rfl rfl f0 (hΦ _ _ ⟨by unfold aCQ;simp only [ab]<;>rfl,hM.fr⟩)
  | true =>
   refine seg 1 8 [(15,vB (decide (m<0)))] f0 ?_
   cases aa:(decide (m<0))
   rotate_left
   ·have af:=dt aa
    exact rt2 4 5 (vI 0) (vB false) rfl rfl f0 (hΦ _ _ ⟨by unfold aCQ;simp only [ab,aa]<;>rfl,hM.fr⟩)
   have af:=df aa
   refine seg 1 11 [(18,vB (decide (1000000000<m)))] f0 ?_
   cases ac:(decide (1000000000<m))
   rotate_left
   ·have ag:=dt ac
    exact rt2 4 5 (vI 0) (vB false) rfl rfl f0 (hΦ _ _ ⟨by unfold aCQ;simp only [ab,aa,ac]<;>rfl,hM.fr⟩)
   have ag:=df ac
   refine seg 3 2 [(20,vB x.fr)] (fc (ldm 4 0 6 hM rfl rfl) f0) ?_
   cases ad:x.fr with
   | false =>
    refine aAr 5 3 29 [(27,vL x.hp x.hs.length x.hc),(28,vI m)] (fc (ldm 48 0 7 hM rfl rfl) f0) hM (aKD (hh.src.fr hM.fr) m) fun w1 hM=>?_
    have hnb:=aR1 (l:=x.hs) (m:=m) (by omega)
    refine seg 6 6 [(6,vI (aAy x.hs m).1),(35,vI ((aAy x.hs m).1+x.tk)),(37,vB (aAy x.hs m).2)] (fc (ldm 3 0 5 hM rfl rfl) (fc (aAe (aAy x.hs m).1 x.tk u3_) f0)) ?_
    cases ae:(aAy x.hs m).2 with
    | false =>
     exact rt2 4 5 (vI ((aAy x.hs m).1+x.tk)) (vB false) rfl rfl f0 (hΦ _ _ ⟨by unfold aCQ;simp only [ab,aa,ac,ad,ae]<;>rfl,hM.fr⟩)
    | true =>
     exact rt2 4 5 (vI ((aAy x.hs m).1+x.tk)) (vB (decide ((aAy x.hs m).1≤1000000000))) rfl rfl f0 (hΦ _ _ ⟨by unfold aCQ;simp only [ab,aa,ac,ad,ae]<;>rfl,hM.fr⟩)
   | true =>
    exact rt2 4 5 (vI (m+x.tk)) (vB true) rfl rfl (fc (ldm 3 0 5 hM rfl rfl) (fc (aAe m x.tk u3_) f0)) (hΦ _ _ ⟨by unfold aCQ;simp only [ab,aa,ac,ad]<;>rfl,hM.fr⟩)
def aFe (L:List LkR) (i:Int) (z:Int):Bool:=match L[z.toNat]? with
  | some x=>x.nx.contains i
  | none=>false
def aHN (L:List LkR) (la:List Int) (first:Bool) (f t:Bys) (at_ th:Int) (i:Nat) (x:LkR):Bool:=(x.a.1==f)&&((x.a.2.1==t)&&((first||la.any (aFe L (i:Int)))&&((aCQ x at_).2&&((aCQ x at_).1==th))))
def aCz (L:List LkR) (la:List Int) (first:Bool) (f t:Bys) (at_ th:Int):Nat→List Int
  | 0=>[]
  | i+1=>match L[i]? with
    | some x=>bif aHN L la first f t at_ th i x then aCz L la first f t at_ th i++[(i:Int)] else aCz L la first f t at_ th i
    | none=>aCz L la first f t at_ th i
theorem aDP {L:List LkR}{la:List Int}{first:Bool}{f t:Bys}{at_ th:Int}{i:Nat}{x:LkR}(h:L[i]?=some x):aCz L la first f t at_ th (i+1)=bif aHN L la first f t at_ th i x then aCz L la first f t at_ th i++[(i:Int)] else aCz L la first f t at_ th i:=by
  show (match L[i]? with | some x=>_ | none=>_)=_
  rw [h]
theorem aM1 (L:List LkR) (la:List Int) (first:Bool) (f t:Bys) (at_ th:Int):∀ i,(aCz L la first f t at_ th i).length≤i
  | 0=>Nat.le_refl _
  | i+1=>by
    have:=aM1 L la first f t at_ th i
    show (match L[i]? with | some x=>_ | none=>_:List Int).length≤_
    cases L[i]? with
    | none=>exact Nat.le_succ_of_le this
    | some x =>
      show (bif aHN L la first f t at_ th i x then _ else _:List Int).length≤_
      cases aHN L la first f t at_ th i x
      · exact Nat.le_succ_of_le this
      · simp only [cond_true,List.length_append,List.length_singleton];omega
theorem aVU {α:Type}{p:α→Bool}{l:List α}{k:Nat}{z:α}(h:l[k]?=some z):(l.take (k+1)).any p=((l.take k).any p||p z):=by rw [gt_ h,List.any_append,List.any_cons,List.any_nil,Bool.or_false]
theorem aSJ {l:List Int}{k:Nat}{z i:Int}(h:l[k]?=some z):(l.take (k+1)).contains i=((l.take k).contains i||(z==i)):=by
  rw [gt_ h,List.contains_eq_any_beq,List.contains_eq_any_beq,List.any_append,List.any_cons,List.any_nil,Bool.or_false,Bool.beq_comm]
abbrev A19 (Φ:Ending→World→Prop):=AtO Tryz.prog (aAf Tryz.f19) (aAo (bodyPost Tryz.prog Tryz.f19 Φ)) [] 105
theorem aIN {w:World}{q ql:Option Addr}{cq cl:Nat}{L:List LkR}{la:List Int}(hL:SrcP lkL 9 w q cq L) (hl:SrcP inL 1 w ql cl la) (hlk:∀ x∈L,LkV w x) (htk:∀ x∈L,0≤x.tk∧x.tk≤5000000000) (hlb:∀ z∈la,0≤z∧z<(L.length:Int)) (hLl:L.length≤1000000) (first:Bool) (f t:Bys) (at_ th:Int):Calls Tryz.prog 19 #[vL q L.length cq,vL ql la.length cl,vB first,vS f,vS t,vI at_,vI th] w fun e w'=>∃ u,e = .returned u∧Mm (fun _=>False) w w' [rw_ inL 1 3 u (aCz L la first f t at_ th L.length)]:=by
  have bl:=hl.bnd
  refine beg Tryz.func19 rfl rfl [(0,vL q L.length cq),(1,vL ql la.length cl),(2,vB first),(3,vS f),(4,vS t),(5,vI at_),(6,vI th)] rfl rfl fun Φ hΦ=>?_
  have hM:=Mm.nil (fun _=>False) w
  have hM:=hM.row (f:=inL) (c:=1) (E:=3)
  refine seg 3 0 [(15,vL none 0 0),(16,vI 0)] f0 ?_
  have a0:∀ (aj:Nat) (i:Nat) (qo:Option Addr) (co:Nat) (w2:World),i≤L.length→Mm (fun _=>False) w w2 [rw_ inL 1 3 (vL qo (aCz L la first f t at_ th i).length co) (aCz L la first f t at_ th i)]→aj=L.length-i→A19 Φ (some (3,0)) [(16,vI (i:Int)),(15,vL qo (aCz L la first f t at_ th i).length co),(0,vL q L.length cq),(1,vL ql la.length cl),(2,vB first),(3,vS f),(4,vS t),(5,vI at_),(6,vI th)] w2:=by
   refine aAG fun aj aa i qo co w2 hi hM bb=>?_
   have hrl:=aM1 L la first f t at_ th i
   refine seg 3 4 [(25,vB (decide ((i:Int)<(L.length:Int))))] f0 ?_
   cases ak:(decide ((i:Int)<(L.length:Int)))
   ·have a1:=df ak
    have e9:(aCz L la first f t at_ th i)=(aCz L la first f t at_ th L.length):=by rw [show i=L.length by omega]
    exact rt1 14 (vL qo (aCz L la first f t at_ th i).length co) rfl f0 (hΦ _ _ ⟨_,rfl,hM.cast (by rw [←e9])⟩)
   have a1:=dt ak
   obtain ⟨y,hy,bc,bd,af,ag⟩:=hL.el (i:=i) (by omega)
   refine seg 5 9 [(36,vB (!(y.a.1==f)))] (fc (ix 41 cq af (gl hy)) (fc (ld0 9 hM (ag 0 _ rfl)) (fc (sne 9 y.a.1 f) f0))) ?_
   cases ab:(y.a.1==f)
   ·refine seg 3 0 [(16,vI ((i:Int)+1))] (fc (aAe (i:Int) 1 u3_) f0) ?_
    have hb9:aHN L la first f t at_ th i y=false:=by unfold aHN;simp only [ab]<;>rfl
    have e9:(aCz L la first f t at_ th i)=(aCz L la first f t at_ th (i+1)):=by rw [aDP hy,hb9];rfl
    replace hM:Mm (fun _=>False) w _ [_]:=hM
    rw [e9] at hM ⊢
    exact aAb _ (aa _ (by have:=gl hy;omega) (i+1) qo co _ (gl hy) hM rfl)
   refine seg 5 18 [(45,vB (!(y.a.2.1==t)))] (fc (ix 41 cq af (gl hy)) (fc (ld0 9 hM (ag 1 _ rfl)) (fc (sne 9 y.a.2.1 t) f0))) ?_
   cases ac:(y.a.2.1==t)
   ·refine seg 3 0 [(16,vI ((i:Int)+1))] (fc (aAe (i:Int) 1 u3_) f0) ?_
    have hb9:aHN L la first f t at_ th i y=false:=by unfold aHN;simp only [ab,ac]<;>rfl
    have e9:(aCz L la first f t at_ th i)=(aCz L la first f t at_ th (i+1)):=by rw [aDP hy,hb9];rfl
    replace hM:Mm (fun _=>False) w _ [_]:=hM
    rw [e9] at hM ⊢
    exact aAb _ (aa _ (by have:=gl hy;omega) (i+1) qo co _ (gl hy) hM rfl)
   refine seg 8 0 [(17,vB first),(18,vI 0)] f0 ?_
   have a2:∀ (am:Nat) (k:Nat) (al:Bool) (w2:World),k≤la.length→(al=(first||(la.take k).any (aFe L (i:Int))))→Mm (fun _=>False) w w2 [rw_ inL 1 3 (vL qo (aCz L la first f t at_ th i).length co) (aCz L la first f t at_ th i)]→am=la.length-k→A19 Φ (some (8,0)) [(18,vI (k:Int)),(17,vB al),(16,vI (i:Int)),(15,vL qo (aCz L la first f t at_ th i).length co),(0,vL q L.length cq),(1,vL ql la.length cl),(2,vB first),(3,vS f),(4,vS t),(5,vI at_),(6,vI th)] w2:=by
    refine aAG fun am a3 k al w2 hk hal hM be=>seg 8 4 [(50,vB (decide ((k:Int)<(la.length:Int))))] f0 ?_
    cases an:(decide ((k:Int)<(la.length:Int)))
    rotate_left
    ·have a4:=dt an
     obtain ⟨z,hz,bf,bg,ao,ap⟩:=hl.el (i:=k) (by omega)
     have hzb:=hlb z (gm hz)
     obtain ⟨xz,hxz,bh,bi,aq,ar⟩:=hL.el (i:=z.toNat) (by omega)
     have ah:=(hlk _ (gm hxz)).nx;have bj:=ah.bnd
     refine seg 11 0 [(19,vI 0)] f0 ?_
     have a5:∀ (au:Nat) (n:Nat) (al2:Bool) (w2:World),n≤xz.nx.length→(al2=((first||(la.take k).any (aFe L (i:Int)))||(xz.nx.take n).contains (i:Int)))→Mm (fun _=>False) w w2 [rw_ inL 1 3 (vL qo (aCz L la first f t at_ th i).length co) (aCz L la first f t at_ th i)]→au=xz.nx.length-n→A19 Φ (some (11,0)) [(19,vI (n:Int)),(18,vI (k:Int)),(17,vB al2),(16,vI (i:Int)),(15,vL qo (aCz L la first f t at_ th i).length co),(0,vL q L.length cq),(1,vL ql la.length cl),(2,vB first),(3,vS f),(4,vS t),(5,vI at_),(6,vI th)] w2:=by
      refine aAG fun au av n al2 w2 hn hl2 hM bm=>seg 11 11 [(63,vB (decide ((n:Int)<(xz.nx.length:Int))))] (fc (ix 29 cl ao (gl hz)) (fc (ld0 3 hM (ap 0 _ rfl)) (fc (ix 41 cq aq (gl hxz) (z:=z) (hz:=(by omega))) (fc (ld0 29 hM (ar 8 _ rfl)) f0)))) ?_
      cases aw:(decide ((n:Int)<(xz.nx.length:Int)))
      ·have a6:=df aw
       refine seg 8 0 [(18,vI ((k:Int)+1))] (fc (aAe (k:Int) 1 u3_) f0) (aAb _ (a3 _ (by have:=gl hz;omega) (k+1) al2 _ (gl hz) (by rw [hl2,aVU hz,show aFe L (i:Int) z=xz.nx.contains (i:Int) by unfold aFe;rw [hxz],show xz.nx.take n=xz.nx from List.take_of_length_le (by omega),Bool.or_assoc]) hM rfl))
      have a6:=dt aw
      refine seg 13 2 [(67,vB al2)] f0 ?_
      cases ax:al2 with
      | false =>
       obtain ⟨v,hv,bo,bp,a7,a8⟩:=ah.el (i:=n) (by omega)
       refine seg 11 0 [(17,vB (v==(i:Int))),(19,vI ((n:Int)+1))] (fc (ix 29 cl ao (gl hz)) (fc (ld0 3 hM (ap 0 _ rfl)) (fc (ix 41 cq aq (gl hxz) (z:=z) (hz:=(by omega))) (fc (ld0 29 hM (ar 8 _ rfl)) (fc (ix 29 xz.nc a7 (gl hv)) (fc (ld0 3 hM (a8 0 _ rfl)) (fc (aAe (n:Int) 1 u3_) f0))))))) (aAb _ (av _ (by omega) (n+1) (v==(i:Int)) _ (by omega) (by rw [aSJ hv,←Bool.or_assoc,←hl2,ax];rfl) hM rfl))
      | true =>
       refine seg 11 0 [(17,vB true),(19,vI ((n:Int)+1))] (fc (aAe (n:Int) 1 u3_) f0) ?_
       obtain ⟨v,hv,bq,br,bs,bt⟩:=ah.el (i:=n) (by omega)
       exact aAb _ (av _ (by omega) (n+1) true _ (by omega) (by rw [aSJ hv,←Bool.or_assoc,←hl2,ax];rfl) hM rfl)
     exact aAb _ (a5 _ 0 al _ (Nat.zero_le _) (by rw [hal];simp) hM rfl)
    have a4:=df an
    have hal9:(first||la.any (aFe L (i:Int)))=al:=by rw [hal,show la.take k=la from List.take_of_length_le (by omega)]
    refine aAr 14 5 88 [(86,.agg #[vS y.a.1,vS y.a.2.1,vS y.a.2.2.1,vI y.a.2.2.2,vB y.op,vI y.tk,vB y.fr,vL y.hp y.hs.length y.hc,vL y.np y.nx.length y.nc]),(87,vI at_)] (fc (ix 41 cq af (gl hy)) (fc (la0 50 hM ag) f0)) hM (aKB y ((hlk _ (gm hy)).hs.fr hM.fr) (htk _ (gm hy)) at_) fun w1 hM=>seg 15 2 [(20,vI (aCQ y at_).1),(21,vB (aCQ y at_).2),(92,vB al)] f0 ?_
    cases ad:al with
    | false =>
     refine seg 3 0 [(16,vI ((i:Int)+1))] (fc (aAe (i:Int) 1 u3_) f0) ?_
     have hb9:aHN L la first f t at_ th i y=false:=by unfold aHN;rw [hal9];simp only [ab,ac,ad]<;>rfl
     have e9:(aCz L la first f t at_ th i)=(aCz L la first f t at_ th (i+1)):=by rw [aDP hy,hb9];rfl
     replace hM:Mm (fun _=>False) w _ [_]:=hM
     rw [e9] at hM ⊢
     exact aAb _ (aa _ (by have:=gl hy;omega) (i+1) qo co _ (gl hy) hM rfl)
    | true =>
     refine seg 15 5 [(95,vB (aCQ y at_).2)] f0 ?_
     cases ai:(aCQ y at_).2 with
     | false =>
      refine seg 3 0 [(16,vI ((i:Int)+1))] (fc (aAe (i:Int) 1 u3_) f0) ?_
      have hb9:aHN L la first f t at_ th i y=false:=by unfold aHN;rw [hal9];simp only [ab,ac,ad,ai]<;>rfl
      have e9:(aCz L la first f t at_ th i)=(aCz L la first f t at_ th (i+1)):=by rw [aDP hy,hb9];rfl
      replace hM:Mm (fun _=>False) w _ [_]:=hM
      rw [e9] at hM ⊢
      exact aAb _ (aa _ (by have:=gl hy;omega) (i+1) qo co _ (gl hy) hM rfl)
     | true =>
      refine seg 15 9 [(99,vB ((aCQ y at_).1==th))] f0 ?_
      cases ae:((aCQ y at_).1==th)
      ·have a9:=ef ae
       refine seg 3 0 [(16,vI ((i:Int)+1))] (fc (aAe (i:Int) 1 u3_) f0) ?_
       have hb9:aHN L la first f t at_ th i y=false:=by unfold aHN;rw [hal9];simp only [ab,ac,ad,ai,ae]<;>rfl
       have e9:(aCz L la first f t at_ th i)=(aCz L la first f t at_ th (i+1)):=by rw [aDP hy,hb9];rfl
       replace hM:Mm (fun _=>False) w _ [_]:=hM
       rw [e9] at hM ⊢
       exact aAb _ (aa _ (by have:=gl hy;omega) (i+1) qo co _ (gl hy) hM rfl)
      have a9:=et ae
      refine aAq 16 2 102 [(100,vL qo (aCz L la first f t at_ th i).length co),(101,vI (i:Int))] (cs:=#[vI (i:Int)]) (T:=3) (v:=fun b=>vL (some ⟨b,0,none⟩) 1 1) f0 hM fun bu w1 hM=>aJa 16 3 103 [] (cap:=1) (by decide) inT f0 hM (j:=0) rfl (aAD (f:=inL) (x:=(i:Int)) (hM.get 1 rfl) (Nat.lt_succ_self _)) (fun h=>by cases h) (by simp only [List.length_cons,List.length_nil];omega) fun bv w1 hM=>?_
      obtain ⟨ay,az,ba,-⟩:=(hM.src (j:=0) rfl inT.len).op
      subst ba
      refine seg 3 0 [(15,vL ay ((aCz L la first f t at_ th i)++[(i:Int)]).length az),(16,vI ((i:Int)+1))] (fc (aAe (i:Int) 1 u3_) f0) ?_
      have hb9:aHN L la first f t at_ th i y=true:=by unfold aHN;rw [hal9];simp only [ab,ac,ad,ai,ae]<;>rfl
      have e9:((aCz L la first f t at_ th i)++[(i:Int)])=(aCz L la first f t at_ th (i+1)):=by rw [aDP hy,hb9];rfl
      replace hM:=hM.pick [0]
      replace hM:Mm (fun _=>False) w _ [_]:=hM
      rw [e9] at hM ⊢
      exact aAb _ (aa _ (by have:=gl hy;omega) (i+1) ay az _ (gl hy) hM rfl)
   exact aAb _ (a2 _ 0 first _ (Nat.zero_le _) (by rw [List.take_zero];simp) hM rfl)
  exact aAb _ (a0 _ 0 none 0 _ (Nat.zero_le _) hM rfl)
theorem aGQ (c:UInt8):∀ (l:Bys) (a:Nat),Lib.decFrom a (l++[c])=(Lib.decFrom a l).bind fun m=>(Lib.digitVal c).map fun d=>m*10+d
 | [],a=>by
  show (match Lib.digitVal c with | some d=>Lib.decFrom (a*10+d) [] | none=>none)=_
  cases Lib.digitVal c<;>rfl
 | b::l,a=>by
  show (match Lib.digitVal b with | some d=>Lib.decFrom (a*10+d) (l++[c]) | none=>none)=(match Lib.digitVal b with | some d=>Lib.decFrom (a*10+d) l | none=>none).bind _
  cases Lib.digitVal b with
  | none=>rfl
  | some d=>exact aGQ c l (a*10+d)
theorem aVF {u:Nat}(h:u<10):Lib.digitVal (UInt8.ofNat (48+u))=some u:=by
 unfold Lib.digitVal
 have:(UInt8.ofNat (48+u)).toNat=48+u:=by rw [UInt8.toNat_ofNat_of_lt'];show 48+u<256;omega
 rw [this,if_pos (by omega)]
 congr 1;omega
theorem aUp {c:UInt8}{d:Nat}(h:Lib.digitVal c=some d):d<10∧c=UInt8.ofNat (48+d):=by
 unfold Lib.digitVal at h
 split at h
 ·cases h
  refine ⟨by omega,?_⟩
  rw [show 48+(c.toNat-48)=c.toNat by omega]
  simp
 ·cases h
theorem aGP {u:Nat}(h:¬ u<10):Lib.decDigits u=Lib.decDigits (u / 10)++[UInt8.ofNat (48+u%10)]:=by
 rw [Lib.decDigits,dif_neg h]
theorem aRN (u:Nat):Lib.decFrom 0 (Lib.decDigits u)=some u:=by
 induction u using Nat.strongRecOn with
 | _ u ih =>
  by_cases h:u<10
  ·rw [Lib.decDigits_one h]
   show (match Lib.digitVal (UInt8.ofNat (48+u)) with | some d=>Lib.decFrom (0*10+d) [] | none=>none)=_
   rw [aVF h]
   show some (0*10+u)=some u
   rw [Nat.zero_mul,Nat.zero_add]
  ·rw [aGP h,aGQ,ih (u / 10) (by omega),aVF (Nat.mod_lt _ (by decide))]
   show some (u / 10*10+u%10)=some u
   congr 1;omega
theorem aSH (u:Nat):Lib.decDigits u≠[]:=by
 by_cases h:u<10
 ·rw [Lib.decDigits_one h];simp
 ·rw [aGP h];simp
theorem aJN {l m:Bys}(h:l≠[]):(l++m).headD 0=l.headD 0:=by cases l with | nil=>exact absurd rfl h | cons a l=>rfl
theorem aRM (u:Nat) (h0:0<u):((Lib.decDigits u).headD 0).toNat≠48:=by
 induction u using Nat.strongRecOn with
 | _ u ih =>
  by_cases h:u<10
  ·rw [Lib.decDigits_one h]
   show (UInt8.ofNat (48+u)).toNat≠48
   rw [UInt8.toNat_ofNat_of_lt' (by show 48+u<256;omega)]
   omega
  ·rw [aGP h,aJN (aSH _)]
   exact ih (u / 10) (by omega) (by omega)
theorem aPK:∀ (k u:Nat),u<10 ^ (k+1)→(Lib.decDigits u).length≤k+1
 | k,u,hu=>by
  by_cases h:u<10
  ·rw [Lib.decDigits_one h];simp
  ·cases k with
   | zero=>simp at hu;omega
   | succ k =>
    rw [aGP h,List.length_append,List.length_singleton]
    have:=aPK k (u / 10) (by rw [Nat.pow_succ] at hu;omega)
    omega
theorem aMr:∀ (n:Nat) (l:Bys),l.length=n→l≠[]→(l.headD 0).toNat≠48→∀ m,Lib.decFrom 0 l=some m→Lib.decDigits m=l∧0<m
 | 0,l,hl,hn,_,_,_=>absurd (List.eq_nil_of_length_eq_zero hl) hn
 | n+1,l,hl,hn,hh,m,hm=>by
  rcases List.eq_nil_or_concat l with rfl | ⟨t,c,rfl⟩
  ·exact absurd rfl hn
  ·rw [List.concat_eq_append] at hl hn hh hm ⊢
   rw [aGQ] at hm
   obtain ⟨m',h1,h2⟩:=Option.bind_eq_some_iff.1 hm
   obtain ⟨d,h3,rfl⟩:=Option.map_eq_some_iff.1 h2
   obtain ⟨hd,rfl⟩:=aUp h3
   by_cases ht:t=[]
   ·subst ht
    have h1:some 0=some m':=h1
    cases h1
    have h48:(UInt8.ofNat (48+d)).toNat≠48:=hh
    rw [UInt8.toNat_ofNat_of_lt' (by show 48+d<256;omega)] at h48
    rw [Nat.zero_mul,Nat.zero_add]
    exact ⟨Lib.decDigits_one hd,by omega⟩
   ·rw [aJN ht] at hh
    obtain ⟨h4,h5⟩:=aMr n t (by simp at hl;omega) ht hh m' h1
    refine ⟨?_,by omega⟩
    rw [aGP (by omega),show (m'*10+d) / 10=m' by omega,show (m'*10+d)%10=d by omega,h4]
theorem aMg {c:UInt8}{d:Nat}(h:Lib.digitVal c=some d) (k:Int):aD3 k c=10*k+(d:Int):=by
 unfold Lib.digitVal at h
 split at h
 ·rename_i hc
  cases h
  unfold aD3
  rw [decide_eq_false (by omega),decide_eq_false (by omega)]
  simp only [Bool.or_self,cond_false];omega
 ·cases h
theorem aMe {c:UInt8}(h:Lib.digitVal c=none) (k:Int):aD3 k c ≤ -100000000:=by
 unfold Lib.digitVal at h
 split at h
 ·cases h
 ·rename_i hc
  have:=c.toNat_lt
  unfold aD3
  have:(decide ((c.toNat:Int)<48)||decide (57<(c.toNat:Int)))=true:=by
   rw [Bool.or_eq_true,decide_eq_true_eq,decide_eq_true_eq];omega
  rw [this]
  simp only [cond_true];omega
theorem aMf:∀ (l:Bys) (k:Int),k ≤ -100000000→l.foldl aD3 k ≤ -100000000
 | [],k,h=>h
 | c::l,k,h=>by
  refine aMf l _ ?_
  cases hc:Lib.digitVal c with
  | none=>exact aMe hc k
  | some d=>rw [aMg hc];have:=(aUp hc).1;omega
theorem aMh:∀ (l:Bys) (a:Nat),match Lib.decFrom a l with
  | some m=>l.foldl aD3 (a:Int)=(m:Int)
  | none=>l.foldl aD3 (a:Int) ≤ -100000000
 | [],a=>rfl
 | c::l,a=>by
  show match (match Lib.digitVal c with | some d=>Lib.decFrom (a*10+d) l | none=>none) with
   | some m=>l.foldl aD3 (aD3 a c)=(m:Int)
   | none=>l.foldl aD3 (aD3 a c) ≤ -100000000
  cases hc:Lib.digitVal c with
  | none=>exact aMf l _ (aMe hc _)
  | some d =>
   have:=aMh l (a*10+d)
   rw [aMg hc,show 10*(a:Int)+(d:Int)=((a*10+d:Nat):Int) by omega]
   exact this
def aTr (s:Bys):Bool:=decide (1≤(s.length:Int))&&(decide ((s.length:Int)≤7) && !(((s.headD 0).toNat:Int)==48))
theorem aMH (s:Bys) (hs:s.length≤1000):aA6 s=aBy s:=by
 have hR:aBy s=bif aTr s then (bif decide (0<aC5 s) then aC5 s else 100) else 100:=rfl
 have hf:=aMh s 0
 have key:∀ m,Lib.decFrom 0 s=some m→aTr s=true→aA6 s=m∧aBy s=m:=by
  intro m hm hb
  have hb2:=hb
  unfold aTr at hb2
  simp only [Bool.and_eq_true,decide_eq_true_eq,Bool.not_eq_true',beq_eq_false_iff_ne,ne_eq] at hb2
  obtain ⟨h1,h2,h3⟩:=hb2
  have hne:s≠[]:=fun e=>by rw [e] at h1;simp at h1
  obtain ⟨h4,h5⟩:=aMr _ s rfl hne (fun e=>h3 (by rw [e];rfl)) m hm
  have h6:m<10000000:=by
   have:=Lib.decFrom_lt s 0 m hm
   have hp:10 ^ s.length≤10 ^ 7:=Nat.pow_le_pow_right (by decide) (by omega)
   omega
  have hat:aGW s=some (m:Int):=by
   unfold aGW
   rw [Lib.atoiAll_short s (by omega)]
   cases s with
   | nil=>exact absurd rfl hne
   | cons c r =>
    have hc:∃ d,Lib.digitVal c=some d:=Lib.digit_of_decFrom _ _ _ hm 0 c rfl
    obtain ⟨d,hd⟩:=hc
    obtain ⟨hd9,rfl⟩:=aUp hd
    have e45:(UInt8.ofNat (48+d)==45)=false:=by
     rw [beq_eq_false_iff_ne];intro e
     have:=congrArg UInt8.toNat e
     rw [UInt8.toNat_ofNat_of_lt' (by show 48+d<256;omega)] at this
     have:48+d=45:=this
     omega
    have e43:(UInt8.ofNat (48+d)==43)=false:=by
     rw [beq_eq_false_iff_ne];intro e
     have:=congrArg UInt8.toNat e
     rw [UInt8.toNat_ofNat_of_lt' (by show 48+d<256;omega)] at this
     have:48+d=43:=this
     omega
    unfold Lib.atoi
    dsimp only
    rw [e45,e43]
    have hdn:Lib.decNat (UInt8.ofNat (48+d)::r)=some m:=by
     unfold Lib.decNat
     rw [List.isEmpty_cons,if_neg (by simp)];exact hm
    simp only [Bool.false_eq_true,if_false,hdn,Option.map_some,Lib.NumEnd.ofOption]
  constructor
  ·unfold aA6
   rw [hat]
   show (bif decide ((m:Int)<1)||decide (9999999<(m:Int)) || !(Lib.itoa (m:Int)==s) then 100 else (m:Int))=m
   rw [Lib.itoa_nonneg,h4,decide_eq_false (by omega),decide_eq_false (by omega)]
   simp
  ·rw [hm] at hf
   have hf:aC5 s=(m:Int):=hf
   rw [hR,hb,hf,decide_eq_true (by omega)];rfl
 cases hm:Lib.decFrom 0 s with
 | none =>
  rw [hm] at hf
  have hf:aC5 s ≤ -100000000:=hf
  have h1:aBy s=100:=by
   rw [hR,decide_eq_false (by omega)]
   cases aTr s<;>rfl
  rw [h1]
  unfold aA6
  cases ha:aGW s with
  | none=>rfl
  | some n =>
   show (bif decide (n<1)||decide (9999999<n) || !(Lib.itoa n==s) then 100 else n)=100
   cases hb:decide (n<1)||decide (9999999<n) || !(Lib.itoa n==s) with
   | true=>rfl
   | false =>
    simp only [Bool.or_eq_false_iff,decide_eq_false_iff_not,Bool.not_eq_false',beq_iff_eq] at hb
    obtain ⟨⟨h2,h3⟩,h4⟩:=hb
    have h5:=Lib.itoa_nonneg n.toNat
    rw [show ((n.toNat:Nat):Int)=n by omega,h4] at h5
    rw [h5,aRN] at hm;cases hm
 | some m =>
  cases hb:aTr s with
  | true=>obtain ⟨h1,h2⟩:=key m hm hb;rw [h1,h2]
  | false =>
   rw [hR,hb]
   show aA6 s=100
   unfold aA6
   cases ha:aGW s with
   | none=>rfl
   | some n =>
    show (bif decide (n<1)||decide (9999999<n) || !(Lib.itoa n==s) then 100 else n)=100
    cases hc:decide (n<1)||decide (9999999<n) || !(Lib.itoa n==s) with
    | true=>rfl
    | false =>
     simp only [Bool.or_eq_false_iff,decide_eq_false_iff_not,Bool.not_eq_false',beq_iff_eq] at hc
     obtain ⟨⟨h2,h3⟩,h4⟩:=hc
     have h5:=Lib.itoa_nonneg n.toNat
     rw [show ((n.toNat:Nat):Int)=n by omega,h4] at h5
     have h6:=aPK 6 n.toNat (by have:(10:Nat) ^ (6+1)=10000000:=(by decide);omega)
     have h7:=aRM n.toNat (by omega)
     rw [←h5] at h6 h7
     have h8:=aSH n.toNat
     rw [←h5] at h8
     have h9:0<s.length:=List.length_pos_iff.2 h8
     have:aTr s=true:=by
      unfold aTr
      rw [decide_eq_true (by omega),decide_eq_true (by omega),show (((s.headD 0).toNat:Int)==48)=false by rw [beq_eq_false_iff_ne];omega];rfl
     rw [hb] at this;cases this
section
variable {l:List Ob}
theorem aMi (hv:aAd l=true) {o:Ob}(ho:o∈l):l[(aAm l o.id).toNat]?=some o:=by
 obtain ⟨k,o2,h1,h2,h3⟩:=aDj (aCV (aAX hv) ho).1
 rw [h1,Int.toNat_natCast,h2,aDB (aAX hv) (gm h2) ho h3]
theorem aRF {s:Bys}(h:¬ aAm l s<0):∃ o∈l,o.id=s∧l[(aAm l s).toNat]?=some o:=by
 obtain ⟨k,o,h1,h2,h3⟩:=aDj h
 exact ⟨o,gm h2,h3,by rw [h1,Int.toNat_natCast,h2]⟩
theorem aPk {s:Bys}{p:Pt}(h:aA8 l s=some p):∃ o∈l,o.kind=1∧o.id=s∧p=(o.x,o.y):=by
 have key:∀ (l:List Ob) (r:Option Pt),l.foldl (fun r o=>bif (o.kind==1)&&(o.id==s) then some (o.x,o.y) else r) r=some p→r=some p∨∃ o∈l,o.kind=1∧o.id=s∧p=(o.x,o.y):=by
  intro l
  induction l with
  | nil=>intro r h;exact .inl h
  | cons o l ih =>
   intro r h
   rw [List.foldl_cons] at h
   rcases ih _ h with h1 | ⟨y,hy,h2⟩
   ·cases hc:(o.kind==1)&&(o.id==s) with
    | false=>rw [hc] at h1;exact .inl h1
    | true =>
     rw [hc] at h1
     rw [Bool.and_eq_true] at hc
     exact .inr ⟨o,.head _,et hc.1,et hc.2,(Option.some.inj h1).symm⟩
   ·exact .inr ⟨y,.tail _ hy,h2⟩
 rcases key l none h with h | h
 ·cases h
 ·exact h
theorem aPi {o:Ob}(ho:o∈l) (hk:o.kind=1):aAg l o.id=true:=by
 have key:∀ (l:List Ob) (r:Option Pt),(r.isSome=true∨o∈l)→(l.foldl (fun r y=>bif (y.kind==1)&&(y.id==o.id) then some (y.x,y.y) else r) r).isSome=true:=by
  intro l
  induction l with
  | nil=>intro r h;exact h.resolve_right (by simp)
  | cons y l ih =>
   intro r h
   rw [List.foldl_cons]
   refine ih _ ?_
   rcases h with h | h
   ·left;cases (y.kind==1)&&(y.id==o.id)<;>simp [h]
   ·rcases List.mem_cons.1 h with rfl | h
    ·left;rw [beq_iff_eq.2 hk,beq_self_eq_true];rfl
    ·exact .inr h
 exact key l none (.inr ho)
theorem aIz {s:Bys}:aAg l s=true↔∃ o∈l,o.kind=1∧o.id=s:=by
 constructor
 ·intro h
  obtain ⟨p,hp⟩:=Option.isSome_iff_exists.1 h
  obtain ⟨o,h1,h2,h3,_⟩:=aPk hp
  exact ⟨o,h1,h2,h3⟩
 ·rintro ⟨o,h1,h2,rfl⟩;exact aPi h1 h2
theorem aPj (hv:aAd l=true) {s:Bys}(h:aAg l s=true):aUC l s=(aA8 l s).getD (0,0):=by
 obtain ⟨p,hp⟩:=Option.isSome_iff_exists.1 h
 obtain ⟨o,h1,_,rfl,h3⟩:=aPk hp
 unfold aUC
 rw [aMi hv h1,hp,h3];rfl
theorem aK7 (hv:aAd l=true) {S:Ob→Bool}(hS:∀ x∈l,x.kind=1→S x=true) {o:Ob}{i:Nat}{s:Bys}(hs:o.refs[i]?=some s) (hk:aCf o (i:Int)=1):aCi l S o i=aAg l s:=by
 unfold aCi
 rw [hs]
 show ((!decide (aAm l s<0))&&(match l[(aAm l s).toNat]? with | some x=>(x.kind==aCf o (i:Int))&&S x | none=>false))=_
 rw [hk]
 by_cases h:aAm l s<0
 ·rw [decide_eq_true h]
  have:aAg l s=false:=by
   rw [Bool.eq_false_iff,ne_eq,aIz]
   rintro ⟨y,hy,_,rfl⟩
   exact (aCV (aAX hv) hy).1 h
  rw [this];rfl
 ·obtain ⟨x,hx,hid,hat⟩:=aRF h
  rw [decide_eq_false h,hat]
  show ((x.kind==1)&&S x)=_
  cases hxk:(x.kind==1) with
  | true=>rw [hS x hx (et hxk)];exact (aIz.2 ⟨x,hx,et hxk,hid⟩).symm
  | false =>
   have:aAg l s=false:=by
    rw [Bool.eq_false_iff,ne_eq,aIz]
    rintro ⟨y,hy,hyk,he⟩
    rw [aDB (aAX hv) hy hx (he.trans hid.symm)] at hyk
    exact ef hxk hyk
   rw [this];rfl
theorem aQf {α:Type}{L:List α}{f:Nat→Bool}{g:α→Bool}(h:∀ i s,L[i]?=some s→f i=g s):(List.range L.length).all f=L.all g:=by
 rw [Bool.eq_iff_iff,List.all_eq_true,List.all_eq_true]
 constructor
 ·intro k s hs
  obtain ⟨i,hi⟩:=List.getElem?_of_mem hs
  rw [←h i s hi];exact k i (List.mem_range.2 (gl hi))
 ·intro k i hi
  obtain ⟨s,hs⟩:=geb (List.mem_range.1 hi)
  rw [h i s hs];exact k s (gm hs)
theorem aS7 {o:Ob}(h:o.kind=2) (i:Int):aCf o i=1:=by unfold aCf;rw [h];rfl
theorem aSu (hv:aAd l=true) {o:Ob}(h:o.kind=2):aJs l o=o.refs.all (aAg l):=aQf fun i s hs=>aK7 hv (fun _ _ _=>rfl) hs (aS7 h _)
theorem aO4 (hv:aAd l=true) {o:Ob}(ho:o∈l) (h:o.kind=1):aJs l o=true:=by
 unfold aJs aD4
 rw [aJA (aDX hv o ho) h];rfl
theorem aLD (hv:aAd l=true) {o:Ob}(h:o.kind=2):aEh l o=o.refs.all (aAg l):=aQf fun i s hs=>aK7 hv (fun x hx hk=>aO4 hv hx hk) hs (aS7 h _)
def aVY (l:List Ob) (o:Ob):Bool:=(o.kind==2)&&aEh l o
theorem aSY (hv:aAd l=true) {o:Ob}(ho:o∈l):aVX (aAg l) l o.id=bif (o.kind==2)&&o.refs.all (aAg l) then some o else none:=by
 have k1:∀ (m:List Ob) (r:Option Ob) (c:Ob),m.foldl (fun r y=>bif ((y.kind==2)&&y.refs.all (aAg l))&&(y.id==o.id) then some y else r) r=some c→r=some c∨(c∈m∧(((c.kind==2)&&c.refs.all (aAg l))&&(c.id==o.id))=true):=by
  intro m
  induction m with
  | nil=>intro r c h;exact .inl h
  | cons y m ih =>
   intro r c h
   rw [List.foldl_cons] at h
   rcases ih _ c h with h1 | ⟨h1,h2⟩
   ·cases hc:((y.kind==2)&&y.refs.all (aAg l))&&(y.id==o.id) with
    | false=>rw [hc] at h1;exact .inl h1
    | true=>rw [hc] at h1;cases h1;exact .inr ⟨.head _,hc⟩
   ·exact .inr ⟨.tail _ h1,h2⟩
 have k2:∀ (m:List Ob) (r:Option Ob),(r.isSome=true∨∃ c∈m,(((c.kind==2)&&c.refs.all (aAg l))&&(c.id==o.id))=true)→(m.foldl (fun r y=>bif ((y.kind==2)&&y.refs.all (aAg l))&&(y.id==o.id) then some y else r) r).isSome=true:=by
  intro m
  induction m with
  | nil=>intro r h;exact h.resolve_right (by rintro ⟨c,hc,_⟩;cases hc)
  | cons y m ih =>
   intro r h
   rw [List.foldl_cons]
   refine ih _ ?_
   rcases h with h | ⟨c,hc,h2⟩
   ·left;cases ((y.kind==2)&&y.refs.all (aAg l))&&(y.id==o.id)<;>simp [h]
   ·rcases List.mem_cons.1 hc with rfl | hc
    ·left;rw [h2];rfl
    ·exact .inr ⟨c,hc,h2⟩
 cases hc:(o.kind==2)&&o.refs.all (aAg l) with
 | true =>
  have h1:=k2 l none (.inr ⟨o,ho,by rw [hc,beq_self_eq_true];rfl⟩)
  obtain ⟨c,hcc⟩:=Option.isSome_iff_exists.1 h1
  rcases k1 l none c hcc with h | ⟨h2,h3⟩
  ·cases h
  ·rw [Bool.and_eq_true] at h3
   rw [aDB (aAX hv) h2 ho (et h3.2)] at hcc
   exact hcc
 | false =>
  cases hw:aVX (aAg l) l o.id with
  | none=>rfl
  | some c =>
   rcases k1 l none c hw with h | ⟨h2,h3⟩
   ·cases h
   ·rw [Bool.and_eq_true] at h3
    rw [aDB (aAX hv) h2 ho (et h3.2),hc] at h3
    cases h3.1
theorem aRZ (hv:aAd l=true) {o:Ob}(ho:o∈l):aN6 l o=bif aVY l o then aFg l o.id o.refs else []:=by
 unfold aN6 aVY
 rw [aSY hv ho]
 cases hk:(o.kind==2) with
 | false=>rfl
 | true =>
  rw [aLD hv (et hk)]
  cases o.refs.all (aAg l)<;>rfl
theorem aE1 {α β:Type}{p:α→Bool}{g:α→List β}:∀ l:List α,(l.filter p).flatMap g=l.flatMap fun o=>bif p o then g o else []
 | []=>rfl
 | a::l=>by
  rw [List.filter_cons,List.flatMap_cons]
  cases h:p a with
  | true=>rw [if_pos rfl,List.flatMap_cons,aE1 l];rfl
  | false=>rw [if_neg (by simp),aE1 l];rfl
theorem aHG {α β:Type}{f g:α→List β}:∀ {l:List α},(∀ o∈l,f o=g o)→l.flatMap f=l.flatMap g
 | [],_=>rfl
 | a::l,h=>by rw [List.flatMap_cons,List.flatMap_cons,h a (.head _),aHG fun o ho=>h o (.tail _ ho)]
theorem aSL (hv:aAd l=true):asP l=(l.filter (aVY l)).flatMap fun o=>aFg l o.id o.refs:=by
 unfold asP
 rw [aE1]
 exact aHG fun o ho=>aRZ hv ho
def ns (A:List Arc) (a:Arc):List Arc:=bif A.contains a then A else A++[a]
def aLt (l:List Ob) (A:List Arc):Prop:=∀ a∈A,a.2.2.2=aAA l a.1 a.2.1
theorem aQd {A:List Arc}(hA:aLt l A) {f t w:Bys}(he:aVS l f t=aAA l f t):aE6 l A f t w=ns A (f,t,w,aAA l f t)∧aLt l (aE6 l A f t w):=by
 have e:A.any (aDK f t w)=A.contains (f,t,w,aAA l f t):=by
  rw [Bool.eq_iff_iff,List.any_eq_true,List.contains_iff_mem]
  constructor
  ·rintro ⟨a,ha,h⟩
   unfold aDK at h
   simp only [Bool.and_eq_true,beq_iff_eq] at h
   obtain ⟨h1,h2,h3⟩:=h
   have:=hA a ha
   rw [h1,h2] at this
   rw [show (f,t,w,aAA l f t)=a from Prod.ext h1.symm (Prod.ext h2.symm (Prod.ext h3.symm this.symm))]
   exact ha
  ·intro h
   exact ⟨_,h,by unfold aDK;simp⟩
 unfold aE6 ns
 rw [e,he]
 refine ⟨rfl,?_⟩
 cases A.contains (f,t,w,aAA l f t) with
 | true=>exact hA
 | false =>
  intro a ha
  rcases List.mem_append.1 ha with ha | ha
  ·exact hA a ha
  ·rw [List.mem_singleton] at ha;subst ha;rfl
theorem aQc (hv:aAd l=true) {f t:Bys}(hf:aAg l f=true) (ht:aAg l t=true):aVS l f t=aAA l f t:=by
 unfold aVS aAA
 rw [aPj hv hf,aPj hv ht]
theorem aSb (hv:aAd l=true) {f t:Bys}(hf:aAg l f=true) (ht:aAg l t=true):aAA l t f=aAA l f t:=by
 obtain ⟨p,hp⟩:=Option.isSome_iff_exists.1 hf
 obtain ⟨q,hq⟩:=Option.isSome_iff_exists.1 ht
 unfold aAA
 rw [hp,hq]
 show max 1 (aB5 (aAN q p))=max 1 (aB5 (aAN p q))
 have e:aAN q p=aAN p q:=by
  unfold aAN
  rw [Bool.and_comm (aBt q)]
  cases aBt p&&aBt q with
  | false=>rfl
  | true =>
   simp only [cond_true]
   rw [show p.1-q.1 = -(q.1-p.1) by omega,show p.2-q.2 = -(q.2-p.2) by omega,Int.neg_mul_neg,Int.neg_mul_neg]
 rw [e]
theorem aM3 (hv:aAd l=true) {w:Bys}{rs:List Bys}(hn:∀ s∈rs,aAg l s=true) {A:List Arc}(hA:aLt l A):∀ k,k≤rs.length-1→(aFg l w rs).foldl ns A=(aFg l w (rs.drop k)).foldl ns (aBM l w rs A k)∧aLt l (aBM l w rs A k)
 | 0,_=>⟨rfl,hA⟩
 | k+1,hk=>by
  obtain ⟨h1,h2⟩:=aM3 hv (w:=w) hn hA k (by omega)
  obtain ⟨a,ha⟩:=geb (l:=rs) (i:=k) (by omega)
  obtain ⟨b,hb⟩:=geb (l:=rs) (i:=k+1) (by omega)
  have na:=hn a (gm ha)
  have nb:=hn b (gm hb)
  obtain ⟨h3,h4⟩:=aQd (w:=w) h2 (aQc hv na nb)
  obtain ⟨h5,h6⟩:=aQd (w:=w) h4 (aQc hv nb na)
  rw [aM2 ha hb]
  refine ⟨?_,h6⟩
  rw [h1,aO1 ha hb,List.foldl_cons,List.foldl_cons,h5,h3,aSb hv na nb]
theorem aQb (hv:aAd l=true) {w:Bys}{rs:List Bys}(hn:∀ s∈rs,aAg l s=true) {A:List Arc}(hA:aLt l A):aBM l w rs A (rs.length-1)=(aFg l w rs).foldl ns A∧aLt l (aBM l w rs A (rs.length-1)):=by
 obtain ⟨h1,h2⟩:=aM3 hv (w:=w) hn hA (rs.length-1) (Nat.le_refl _)
 refine ⟨?_,h2⟩
 rw [h1,aLB (by omega)];rfl
theorem aM4 (hv:aAd l=true) {B:List Ob}(hB:∀ o∈B,∀ s∈o.refs,aAg l s=true):∀ i,i≤B.length→aBp l B i=((B.take i).flatMap fun o=>aFg l o.id o.refs).foldl ns []∧aLt l (aBp l B i)
 | 0,_=>⟨rfl,fun a ha=>by cases ha⟩
 | i+1,hi=>by
  obtain ⟨h1,h2⟩:=aM4 hv hB i (by omega)
  obtain ⟨o,ho⟩:=geb (l:=B) (i:=i) (by omega)
  obtain ⟨h3,h4⟩:=aQb hv (w:=o.id) (hB o (gm ho)) h2
  rw [aIP ho]
  refine ⟨?_,h4⟩
  rw [h3,h1,gt_ ho,List.flatMap_append,List.foldl_append,List.flatMap_singleton]
end
theorem aEt (os:List ObR) (k:Int):aAa (ofR os k os)=(aAa os).filter fun o=>(o.kind==k)&&aEh (aAa os) o:=by
 unfold ofR
 conv=>lhs;unfold aAa
 conv=>rhs;arg 2;unfold aAa
 rw [List.filter_map];rfl
theorem aPZ {os:List ObR}(hv:aAd (aAa os)=true):aBp (aAa os) (aAa (ofR os 2 os)) (ofR os 2 os).length=asQ (aAa os):=by
 have e:=aEt os 2
 have hB:∀ o∈aAa (ofR os 2 os),∀ s∈o.refs,aAg (aAa os) s=true:=by
  intro o ho s hs
  rw [e,List.mem_filter,Bool.and_eq_true] at ho
  have h2:=ho.2.2
  rw [aLD hv (et ho.2.1),List.all_eq_true] at h2
  exact h2 s hs
 rw [←aA1 (ofR os 2 os),(aM4 hv hB _ (Nat.le_refl _)).1,List.take_length]
 unfold asQ
 rw [aSL hv,e];rfl
section
variable {l:List Ob}
theorem aL9 {w:Bys}:∀ {rs:List Bys}{a:Arc},a∈aFg l w rs→a.2.2.1=w∧a.1∈rs∧a.2.1∈rs
 | [],a,h=>by cases h
 | [_],a,h=>by cases h
 | x::y::t,a,h=>by
  unfold aFg at h
  rcases List.mem_cons.1 h with rfl | h
  ·exact ⟨rfl,by simp,by simp⟩
  ·rcases List.mem_cons.1 h with rfl | h
   ·exact ⟨rfl,by simp,by simp⟩
   ·obtain ⟨h1,h2,h3⟩:=aL9 h
    exact ⟨h1,.tail _ h2,.tail _ h3⟩
theorem aIM (hv:aAd l=true) {a:Arc}(ha:a∈asQ l):∃ o∈l,o.kind=2∧o.id=a.2.2.1∧a.1∈o.refs∧a.2.1∈o.refs∧o.refs.all (aAg l)=true:=by
 have h:=aDF ha
 rw [aSL hv,List.mem_flatMap] at h
 obtain ⟨o,ho,h2⟩:=h
 rw [List.mem_filter] at ho
 obtain ⟨h3,h4,h5⟩:=aL9 h2
 have hk:=ho.2
 unfold aVY at hk
 rw [Bool.and_eq_true] at hk
 exact ⟨o,ho.1,et hk.1,h3.symm,h4,h5,by rw [←aLD hv (et hk.1)];exact hk.2⟩
theorem aKY {n:Bys}{o:Ob}:∀ {L:List Ob},o∈L→(∀ x∈L,x.id=o.id→x=o)→aMd o.id n L=o.refs.contains n
 | [],h,_=>by cases h
 | y::L,h,hu=>by
  show (bif y.id==o.id then y.refs.contains n else aMd o.id n L)=_
  cases hy:(y.id==o.id) with
  | true=>rw [hu y (.head _) (et hy)];rfl
  | false =>
   rcases List.mem_cons.1 h with rfl | h
   ·rw [beq_self_eq_true] at hy;cases hy
   ·exact aKY h fun x hx=>hu x (.tail _ hx)
theorem aNb {o:Ob}(hv:aA5 o=true) (hk:o.kind=5):o.refs.length=3:=by
 unfold aA5 at hv
 simp only [Bool.and_eq_true] at hv
 have:=hv.2
 rw [show (o.kind==1)=false from beq_eq_false_iff_ne.2 (by omega),show (o.kind==5)=true from beq_iff_eq.2 hk] at this
 simp only [cond_false,cond_true,Bool.and_eq_true,beq_iff_eq] at this
 omega
theorem aSt (hv:aAd l=true) {S:Ob→Bool}{o x:Ob}{i:Nat}(hs:o.refs[i]?=some x.id) (hk:aCf o (i:Int)=2) (hx:x∈l) (hxk:x.kind=2) (hS:S x=true):aCi l S o i=true:=by
 unfold aCi
 rw [hs]
 show ((!decide (aAm l x.id<0))&&(match l[(aAm l x.id).toNat]? with | some x=>(x.kind==aCf o (i:Int))&&S x | none=>false))=_
 rw [hk,decide_eq_false (aCV (aAX hv) hx).1,aMi hv hx]
 show ((x.kind==2)&&S x)=true
 rw [hS,hxk];rfl
end
theorem aOc {os:List ObR}(hv:aAd (aAa os)=true) (prof:Bys) {a b:Arc}(ha:a∈asQ (aAa os)) (hb:b∈asQ (aAa os)):aEA os prof a b=aFd prof (aAa os) a b:=by
 unfold aEA aFd
 cases h1:(a.2.1==b.1) with
 | false=>rfl
 | true =>
  have h1:=et h1
  unfold aRX
  cases h2:(prof==aEW) with
  | true=>simp
  | false =>
   simp only [Bool.true_and,Bool.false_or,cond_false]
   obtain ⟨oa,qa1,qa2,qa3,qa4,qa5,qa6⟩:=aIM hv ha
   obtain ⟨ob,qb1,qb2,qb3,qb4,qb5,qb6⟩:=aIM hv hb
   have ew:∀ {o:Ob},o∈aAa os→o.kind=2→o.refs.all (aAg (aAa os))=true→o∈aAa (ofR os 2 os):=fun {o} k1 k2 k3=>by
    rw [aEt,List.mem_filter]
    exact ⟨k1,by rw [k2,aLD hv k2,k3];rfl⟩
   have eu:∀ {o x:Ob},o∈aAa os→x∈aAa (ofR os 2 os)→x.id=o.id→x=o:=fun {o x} k1 k2 k3=>by
    rw [aEt,List.mem_filter] at k2
    exact aDB (aAX hv) k2.1 k1 k3
   unfold aFF
   rw [←qa3,←qb3,aKY (ew qa1 qa2 qa6) (fun x hx=>eu qa1 hx),aKY (ew qb1 qb2 qb6) (fun x hx=>eu qb1 hx),List.contains_iff_mem.2 qa5,List.contains_iff_mem.2 (h1▸qb4:a.2.1∈ob.refs),Bool.true_and,Bool.true_and]
   congr 1
   rw [Bool.eq_iff_iff,List.any_eq_true,List.contains_iff_mem,List.mem_map]
   constructor
   ·rintro ⟨o,ho,h⟩
    rw [aEt,List.mem_filter,Bool.and_eq_true] at ho
    unfold aCT at h
    simp only [Bool.and_eq_true,beq_iff_eq] at h
    exact ⟨o,List.mem_filter.2 ⟨ho.1,ho.2.1⟩,by unfold aTe;rw [h.1,h.2.1,h.2.2]⟩
   ·rintro ⟨o,ho,h⟩
    rw [List.mem_filter] at ho
    have hk:=et ho.2
    unfold aTe at h
    have e0:=congrArg (·.1) h
    have e1:=congrArg (·.2.1) h
    have e2:=congrArg (·.2.2) h
    simp only at e0 e1 e2
    have h3:=aNb (aDX hv o ho.1) hk
    obtain ⟨r0,hr0⟩:=geb (l:=o.refs) (i:=0) (by omega)
    obtain ⟨r1,hr1⟩:=geb (l:=o.refs) (i:=1) (by omega)
    obtain ⟨r2,hr2⟩:=geb (l:=o.refs) (i:=2) (by omega)
    rw [gd9 hr0] at e0
    rw [gd9 hr1] at e1
    rw [gd9 hr2] at e2
    refine ⟨o,?_,by unfold aCT;rw [gd9 hr0,gd9 hr1,gd9 hr2,e0,e1,e2];simp⟩
    rw [aEt,List.mem_filter]
    refine ⟨ho.1,?_⟩
    rw [hk]
    show aEh (aAa os) o=true
    unfold aEh aD4
    rw [h3,List.all_eq_true]
    intro i hi
    have hi:=List.mem_range.1 hi
    rcases (by omega:i=0∨i=1∨i=2) with rfl | rfl | rfl
    ·exact aSt hv (x:=oa) (by rw [hr0,e0]) (by unfold aCf;rw [hk];rfl) qa1 qa2 (by rw [aSu hv qa2];exact qa6)
    ·rw [aK7 hv (fun x hx hk=>aO4 hv hx hk) hr1 (by unfold aCf;rw [hk];rfl),e1]
     exact List.all_eq_true.1 qa6 _ qa5
    ·exact aSt hv (x:=ob) (by rw [hr2,e2]) (by unfold aCf;rw [hk];rfl) qb1 qb2 (by rw [aSu hv qb2];exact qb6)
theorem aT2 {l:List Ob}(hv:aAd l=true) (prof:Bys) {o:Ob}(ho:o∈l) (hk:o.kind=2):aIj prof l o.id=aAt prof o:=by
 unfold aIj
 cases hf:((l.filter fun o=>o.kind==2).reverse).find? fun y=>y.id==o.id with
 | none =>
  have:=List.find?_eq_none.1 hf o (by rw [List.mem_reverse,List.mem_filter];exact ⟨ho,beq_iff_eq.2 hk⟩)
  simp at this
 | some y =>
  have h1:=List.find?_some hf
  have h2:=List.mem_of_find?_eq_some hf
  rw [List.mem_reverse,List.mem_filter] at h2
  rw [aDB (aAX hv) h2.1 ho (by simpa using h1)]
theorem aTK (prof:Bys) (o:Ob) (a:Arc):aAQ prof o a = !((aAt prof o).closed||((aAt prof o).oneway && !fwd a.1 a.2.1 (aAt prof o).refs)):=by
 show (bif (aAw o.tags prof).1==[110,111] then false else bif (prof==aEW) || !((aAw o.tags [111,110,101,119,97,121]).1==[121,101,115]) then true else fwd a.1 a.2.1 o.refs) = !(((aAw o.tags prof).1==[110,111])||((((aAw o.tags [111,110,101,119,97,121]).1==[121,101,115]) && !(prof==aEW)) && !fwd a.1 a.2.1 o.refs))
 cases (aAw o.tags prof).1==[110,111]<;>cases prof==aEW<;>cases (aAw o.tags [111,110,101,119,97,121]).1==[121,101,115]<;>cases fwd a.1 a.2.1 o.refs<;>rfl
theorem aOM {os:List ObR}(hv:aAd (aAa os)=true) {prof:Bys}{A:List Arc}{x:LkR}{a:Arc}(hx:LkS os prof A x a) (ha:a∈asQ (aAa os)) {m:Int}(h0:0≤m):match aNf (aIj prof (aAa os) a.2.2.1) a m with
  | some y=>aCQ x m=(y,true)
  | none=>(aCQ x m).2=false:=by
 obtain ⟨o,q1,q2,q3,_,_,_⟩:=aIM hv ha
 obtain ⟨z,hz,rfl⟩:=List.mem_map.1 q1
 have hw:=aGg hv hz q3
 have hsp:=aMH (aAw z.o.tags [115,112,101,101,100]).1 (Nat.le_trans (aBQ (aDX hv z.o q1) _) (by decide))
 rw [←q3,aT2 hv prof q1 q2]
 have e1:x.op = !((aAt prof z.o).closed||((aAt prof z.o).oneway && !fwd a.1 a.2.1 (aAt prof z.o).refs)):=by rw [hx.op,hw];exact aTK prof z.o a
 have e2:x.tk=(a.2.2.2+(aAt prof z.o).speed-1) / (aAt prof z.o).speed:=by
  rw [hx.tk];unfold aAZ;rw [hw,←hsp];rfl
 have e3:x.fr = !(aAt prof z.o).limited:=by rw [hx.fr,hw];rfl
 have e4:(aAt prof z.o).limited=true→x.hs=(aAt prof z.o).hours:=fun h=>by
  have h:((aAw z.o.tags [104,111,117,114,115]).2&&aDr z.o)=true:=h
  rw [Bool.and_eq_true] at h
  rw [hx.hs,hw,h.1];rfl
 generalize aAt prof z.o=r at e1 e2 e3 e4
 unfold aNf aCQ
 rw [e1,e2,e3,decide_eq_false (show ¬ m<0 by omega)]
 cases hc:(r.closed||(r.oneway && !fwd a.1 a.2.1 r.refs)) with
 | true=>rfl
 | false =>
  simp only [Bool.not_false,Bool.not_true,Bool.false_or]
  cases hm:decide (1000000000<m) with
  | true=>rfl
  | false =>
   simp only [cond_false]
   cases hl:r.limited with
   | false=>rfl
   | true =>
    simp only [Bool.not_true,cond_false,cond_true]
    rw [e4 hl]
    cases hn:(aAy r.hours m).2 with
    | false=>rfl
    | true =>
     simp only [Bool.not_true,Bool.false_or,Bool.true_and]
     cases hg:decide (1000000000<(aAy r.hours m).1) with
     | true=>show decide ((aAy r.hours m).1≤1000000000)=false;have:=dt hg;exact decide_eq_false (by omega)
     | false=>rw [cond_false,decide_eq_true (show (aAy r.hours m).1≤1000000000 by have:=df hg;omega)]
theorem aPd {os:List ObR}{prof:Bys}{A:List Arc}{a:Arc}{z:Int}:∀ {k:Nat},z∈nxK os prof A a k↔∃ j,j<k∧z=(j:Int)∧∃ b,A[j]?=some b∧aEA os prof a b=true
 | 0=>⟨fun h=>(by cases h),fun ⟨j,h,_⟩=>absurd h (Nat.not_lt_zero _)⟩
 | k+1=>by
  have ih:=aPd (os:=os) (prof:=prof) (A:=A) (a:=a) (z:=z) (k:=k)
  cases hA:A[k]? with
  | none =>
   have e:nxK os prof A a (k+1)=nxK os prof A a k:=by
    show (match A[k]? with | some b=>_ | none=>_)=_
    rw [hA]
   rw [e,ih]
   constructor
   ·rintro ⟨j,h1,h2⟩;exact ⟨j,by omega,h2⟩
   ·rintro ⟨j,h1,h2,b,h3,h4⟩
    refine ⟨j,?_,h2,b,h3,h4⟩
    rcases Nat.lt_or_ge j k with h | h
    ·exact h
    ·rw [show j=k by omega,hA] at h3;cases h3
  | some b =>
   rw [aPc hA]
   cases ht:aEA os prof a b with
   | true =>
    rw [cond_true,List.mem_append,ih,List.mem_singleton]
    constructor
    ·rintro (⟨j,h1,h2⟩ | rfl)
     ·exact ⟨j,by omega,h2⟩
     ·exact ⟨k,by omega,rfl,b,hA,ht⟩
    ·rintro ⟨j,h1,h2,c,h3,h4⟩
     rcases Nat.lt_or_ge j k with h | h
     ·exact .inl ⟨j,h,h2,c,h3,h4⟩
     ·right;rw [h2,show j=k by omega]
   | false =>
    rw [cond_false,ih]
    constructor
    ·rintro ⟨j,h1,h2⟩;exact ⟨j,by omega,h2⟩
    ·rintro ⟨j,h1,h2,c,h3,h4⟩
     refine ⟨j,?_,h2,c,h3,h4⟩
     rcases Nat.lt_or_ge j k with h | h
     ·exact h
     ·rw [show j=k by omega,hA] at h3;cases h3
      rw [ht] at h4;cases h4
theorem aLp {L:List LkR}{la:List Int}{first:Bool}{f t:Bys}{at_ th:Int}{q:Nat}{x:LkR}(hx:L[q]?=some x) (hb:aHN L la first f t at_ th q x=true):∀ {k:Nat},q<k→(q:Int)∈aCz L la first f t at_ th k
 | k+1,h=>by
  cases hk:L[k]? with
  | none =>
   have e:aCz L la first f t at_ th (k+1)=aCz L la first f t at_ th k:=by
    show (match L[k]? with | some x=>_ | none=>_)=_
    rw [hk]
   rw [e]
   refine aLp hx hb ?_
   rcases Nat.lt_or_ge q k with h | h
   ·exact h
   ·rw [show q=k by omega,hk] at hx;cases hx
  | some y =>
   rw [aDP hk]
   rcases Nat.lt_or_ge q k with h1 | h1
   ·have:=aLp (k:=k) hx hb h1
    cases aHN L la first f t at_ th k y
    ·exact this
    ·exact List.mem_append_left _ this
   ·obtain rfl:q=k:=by omega
    rw [hx] at hk;cases hk
    rw [hb];simp
theorem aIO {L:List LkR}{la:List Int}{first:Bool}{f t:Bys}{at_ th:Int}{z:Int}:∀ {k:Nat},z∈aCz L la first f t at_ th k→0≤z∧z<(k:Int)
 | 0,h=>by cases h
 | k+1,h=>by
  cases hk:L[k]? with
  | none =>
   have e:aCz L la first f t at_ th (k+1)=aCz L la first f t at_ th k:=by
    show (match L[k]? with | some x=>_ | none=>_)=_
    rw [hk]
   rw [e] at h
   have:=aIO h;omega
  | some y =>
   rw [aDP hk] at h
   cases hb:aHN L la first f t at_ th k y with
   | false=>rw [hb] at h;have:=aIO (k:=k) h;omega
   | true =>
    rw [hb] at h
    rcases List.mem_append.1 h with h | h
    ·have:=aIO (k:=k) h;omega
    ·rw [List.mem_singleton] at h;omega
section
variable {N:NetW}{B m0:Int}{t:Nat→Option Int}
theorem aRU {i k:Nat}(h:aC6 N m0 t i=some k):k<N.n∧N.al k i=true∧∃ m,t k=some m∧N.ps i m=some ((t i).getD 0):=by
 unfold aC6 at h
 cases hA:aN4 N m0 t i with
 | true=>rw [hA] at h;cases h
 | false =>
  rw [hA] at h
  have h:(List.range N.n).find? (aFM N t i)=some k:=h
  have h1:=List.find?_some h
  have h2:=List.mem_range.1 (List.mem_of_find?_eq_some h)
  unfold aFM at h1
  simp only [Bool.and_eq_true] at h1
  obtain ⟨⟨h3,h4⟩,h5,h6⟩:=h1
  obtain ⟨m,hm⟩:=Option.isSome_iff_exists.1 h3
  rw [hm] at h5 h6
  obtain ⟨x,hx⟩:=Option.isSome_iff_exists.1 h5
  have hx:N.ps i m=some x:=hx
  have h6:=et h6
  have h6:(N.ps i m).getD 0=(t i).getD 0:=h6
  rw [hx] at h6
  have h6:x=(t i).getD 0:=h6
  exact ⟨h2,h4,m,hm,by rw [hx,h6]⟩
theorem aRV (hN:N.Ok B) (h0:0≤m0) (hT:Tab N m0 t) {i:Nat}{m:Int}(hm:t i=some m) (h:aC6 N m0 t i=none):N.st i=true∧N.ps i m0=some m:=by
 unfold aC6 at h
 cases hA:aN4 N m0 t i with
 | true =>
  unfold aN4 at hA
  simp only [Bool.and_eq_true] at hA
  obtain ⟨⟨h1,h2⟩,h3⟩:=hA
  obtain ⟨x,hx⟩:=Option.isSome_iff_exists.1 h1
  have h3:=et h3
  rw [hx,hm] at h3
  have h3:x=m:=h3
  exact ⟨h2,by rw [hx,h3]⟩
 | false =>
  rw [hA] at h
  have h:(List.range N.n).find? (aFM N t i)=none:=h
  exfalso
  have hr:=hT.snd _ _ hm
  cases hr with
  | base h1 h2 h3 =>
   unfold aN4 at hA
   rw [h2,h3,hm] at hA
   simp at hA
  | step h1 h2 h3 h4 =>
   rename_i k m'
   obtain ⟨y,hy,hy2⟩:=hT.le hN h0 h1
   have hg:=(hT.snd _ _ hy2).ge hN h0
   obtain ⟨z,hz,hz2⟩:=hN.mono (by omega) hy h4
   obtain ⟨u,hu,hu2⟩:=hT.stp _ _ hy2 _ h2 h3 _ hz2
   rw [hm] at hu2
   cases hu2
   have e:z=m:=by omega
   subst e
   have:=List.find?_eq_none.1 h k (List.mem_range.2 h1.lt)
   apply this
   unfold aFM
   rw [hy2,h3]
   show (true&&true&&((N.ps i y).isSome&&((N.ps i y).getD 0==(t i).getD 0)))=true
   rw [hz2,hm];simp
theorem aU0 (hB:aNA N m0 t):∀ (F i:Nat),i<N.n→(t i).isSome=true→((t i).getD 0).toNat≤F →
  (∀ j a b,(bkP N m0 t i)[j]?=some a→(bkP N m0 t i)[j+1]?=some b→aC6 N m0 t a=some b)∧(∀ a,(bkP N m0 t i).getLast?=some a→aC6 N m0 t a=none)∧∀ a∈bkP N m0 t i,a<N.n∧(t a).isSome=true:=by
 intro F
 induction F using Nat.strongRecOn with
 | _ F ih =>
  intro i hi hs hF
  rw [aMy hB hi]
  cases hb:aC6 N m0 t i with
  | none =>
   refine ⟨fun j a b h1 h2=>by simp at h2,fun a h=>?_,fun a h=>?_⟩
   ·simp at h;subst h;exact hb
   ·simp at h;subst h;exact ⟨hi,hs⟩
  | some k =>
   dsimp only
   obtain ⟨h1,h2,h3,h4⟩:=hB i k hi hb
   have hc:((t k).getD 0).toNat<F:=by omega
   obtain ⟨g1,g2,g3⟩:=ih _ hc k h1 h2 (Nat.le_refl _)
   have hne:bkP N m0 t k=k::match aC6 N m0 t k with | some k=>bkP N m0 t k | none=>[]:=aMy hB h1
   refine ⟨fun j a b ha hbb=>?_,fun a h=>?_,fun a h=>?_⟩
   ·cases j with
    | zero =>
     simp only [List.getElem?_cons_zero,Option.some.injEq] at ha
     subst ha
     rw [List.getElem?_cons_succ,hne] at hbb
     simp only [List.getElem?_cons_zero,Option.some.injEq] at hbb
     rw [hb,hbb]
    | succ j =>
     rw [List.getElem?_cons_succ] at ha hbb
     exact g1 j a b ha hbb
   ·refine g2 a ?_
    rw [hne] at h ⊢
    rw [List.getLast?_cons_cons] at h
    exact h
   ·rcases List.mem_cons.1 h with rfl | h
    ·exact ⟨hi,hs⟩
    ·exact g3 a h
end
structure TripS (N:NetW) (A:List Arc) (f:Bys) (m0:Int) (nd:List Bys) (mi:List Int) (Q:List Nat) (tm:Nat→Int):Prop where
 nd:nd=f::Q.map (toN A)
 mi:mi=m0::Q.map tm
 fst:∀ q,Q[0]?=some q→q<N.n∧N.st q=true∧N.ps q m0=some (tm q)
 stp:∀ j k q,Q[j]?=some k→Q[j+1]?=some q→k<N.n∧q<N.n∧N.al k q=true∧N.ps q (tm k)=some (tm q)∧m0<tm k
section
variable {os:List ObR}{prof f g:Bys}{m0 c:Int}{nd:List Bys}{mi:List Int}
theorem aMF (hok:∀ a∈asQ (aAa os),ArcB a) (h:aKi prof (aAa os) f g m0 c nd mi):(¬ c=0∧nd=[]∧mi=[])∨(c=0∧aAd (aAa os)=true∧0≤m0∧m0≤9999999∧mi.length=nd.length∧nd[nd.length-1]?=some g∧(nd.length=1→f=g)∧∃ Q tm,TripS (aHm prof (aAa os) f) (asQ (aAa os)) f m0 nd mi Q tm):=by
 rcases h with ⟨h1,rfl,rfl,rfl⟩ | ⟨h1,h2,rfl,rfl,rfl⟩ | ⟨h1,h2,t,hT,h3⟩
 ·exact .inl ⟨h1,rfl,rfl⟩
 ·obtain ⟨hv,_,k0,k1,_,_⟩:=aPQ h1
  exact .inr ⟨rfl,hv,k0,k1,rfl,by rw [h2];rfl,fun _=>h2,[],fun _=>0,⟨rfl,rfl,fun q h=>by simp at h,fun j k q h=>by simp at h⟩⟩
 ·obtain ⟨hv,_,k0,k1,_,_⟩:=aPQ h1
  have hN:=aI2 (prof:=prof) hok f
  have hs:=aHD (A:=asQ (aAa os)) (t:=t) (g:=g) (Nat.le_refl _)
  rcases h3 with ⟨h4,rfl,rfl,rfl⟩ | ⟨i,h4,rfl,rfl,rfl⟩
  ·exact .inl ⟨by decide,rfl,rfl⟩
  ·rw [h4] at hs
   obtain ⟨a,m,ha,hg,hm,hmin⟩:=hs
   have hB:=aM0 hN k0 hT
   obtain ⟨p1,p2,p3⟩:=aU0 hB _ i (gl ha) (by rw [hm];rfl) (Nat.le_refl _)
   have hP:=aMy hB (gl ha:i<(aHm prof (aAa os) f).n)
   generalize hPP:bkP (aHm prof (aAa os) f) m0 t i=P at p1 p2 p3 hP ⊢
   have hPl:0<P.length:=by rw [hP];simp
   have key:∀ {q:Nat},q∈P→t q=some ((t q).getD 0):=fun {q} hq=>by
    obtain ⟨y,hy⟩:=Option.isSome_iff_exists.1 (p3 q hq).2
    rw [hy];rfl
   have hnl:((P.map (toN (asQ (aAa os)))++[f]).reverse).length=P.length+1:=by simp
   refine .inr ⟨rfl,hv,k0,k1,by simp,?_,fun h=>by rw [hnl] at h;omega,P.reverse,fun j=>(t j).getD 0,⟨by simp,by simp,fun q hq=>?_,fun j k q hk hq=>?_⟩⟩
   ·rw [hnl,show P.length+1-1=P.length by omega,List.getElem?_reverse (by simp)]
    simp only [List.length_append,List.length_map,List.length_singleton]
    rw [show P.length+1-1-P.length=0 by omega,hP]
    show some (toN (asQ (aAa os)) i)=some g
    rw [aL1 ha,hg]
   ·have hq2:P.getLast?=some q:=by rw [List.getLast?_eq_head?_reverse,List.head?_eq_getElem?];exact hq
    have hm2:=List.mem_of_getLast? hq2
    obtain ⟨g1,g2⟩:=aRV hN k0 hT (key hm2) (p2 q hq2)
    exact ⟨(p3 q hm2).1,g1,g2⟩
   ·have hj:=gl hq
    rw [List.length_reverse] at hj
    rw [List.getElem?_reverse (by omega)] at hk
    rw [List.getElem?_reverse hj] at hq
    have hb:=p1 (P.length-1-(j+1)) q k hq (by rw [show P.length-1-(j+1)+1=P.length-1-j by omega];exact hk)
    obtain ⟨b1,b2,tm,b3,b4⟩:=aRU hb
    refine ⟨b1,(p3 q (gm hq)).1,b2,?_,?_⟩
    ·show (aHm prof (aAa os) f).ps q ((t k).getD 0)=some ((t q).getD 0)
     rw [b3];exact b4
    ·show m0<(t k).getD 0
     rw [b3];exact (hT.snd _ _ b3).ge hN k0
theorem aTQ {l:List Ob}{i:Nat}{a:Arc}(h:(asQ l)[i]?=some a) (m:Int):(aHm prof l f).ps i m=aNf (aIj prof l a.2.2.1) a m:=by
 show (match (asQ l)[i]? with | some a=>_ | none=>_)=_
 rw [h]
theorem aTP {l:List Ob}{i:Nat}{a:Arc}(h:(asQ l)[i]?=some a):(aHm prof l f).st i=(a.1==f):=by
 show (match (asQ l)[i]? with | some a=>_ | none=>_)=_
 rw [h]
theorem aTR {l:List Ob}{i k:Nat}{a b:Arc}(h:(asQ l)[i]?=some a) (h2:(asQ l)[k]?=some b):(aHm prof l f).al i k=aFd prof l a b:=by
 show (match (asQ l)[i]?,(asQ l)[k]? with | some a,some b=>aFd prof l a b | _,_=>false)=_
 rw [h,h2]
theorem aS4 {A:List Arc}{L:List LkR}(hL:LksP os prof A L A.length) {i:Nat}{a:Arc}(ha:A[i]?=some a):∃ x,L[i]?=some x∧LkS os prof A x a:=by
 obtain ⟨x,hx⟩:=geb (l:=L) (i:=i) (by rw [hL.len];exact gl ha)
 obtain ⟨b,hb,h⟩:=hL.at_ i x hx
 rw [ha] at hb;cases hb
 exact ⟨x,hx,h⟩
theorem aOd (hok:∀ a∈asQ (aAa os),ArcB a) (hv:aAd (aAa os)=true) {L:List LkR}(hL:LksP os prof (asQ (aAa os)) L (asQ (aAa os)).length) (h0:0≤m0) {Q:List Nat}{tm:Nat→Int}(hS:TripS (aHm prof (aAa os) f) (asQ (aAa os)) f m0 nd mi Q tm) {i:Nat}(h1:1≤i) (h2:i<nd.length) {x1 x2:Bys}{y1 y2:Int}(e1:nd[i-1]?=some x1) (e2:nd[i]?=some x2) (e3:mi[i-1]?=some y1) (e4:mi[i]?=some y2) {la:List Int}(hla:i=1∨∃ q,Q[i-2]?=some q∧(q:Int)∈la) {b:Bool}(hb:b=decide (i=1)) :
  ∃ q,Q[i-1]?=some q∧(q:Int)∈aCz L la b x1 x2 y1 y2 L.length∧y1<y2:=by
 obtain ⟨p1,p2,p3,p4⟩:=hS
 have hN:=aI2 (prof:=prof) hok f
 rw [p1,List.length_cons,List.length_map] at h2
 obtain ⟨j,rfl⟩:∃ j,i=j+1:=⟨i-1,by omega⟩
 simp only [Nat.add_sub_cancel] at e1 e3 ⊢
 obtain ⟨q,hq⟩:=geb (l:=Q) (i:=j) (by omega)
 rw [p1,List.getElem?_cons_succ,List.getElem?_map,hq] at e2
 rw [p2,List.getElem?_cons_succ,List.getElem?_map,hq] at e4
 have e2:toN (asQ (aAa os)) q=x2:=Option.some.inj e2
 have e4:tm q=y2:=Option.some.inj e4
 refine ⟨q,hq,?_⟩
 have key:∀ {a:Arc},(asQ (aAa os))[q]?=some a→(aHm prof (aAa os) f).ps q y1=some y2→0≤y1→a.1=x1→(b=true∨∃ z∈la,aFe L (q:Int) z=true)→(q:Int)∈aCz L la b x1 x2 y1 y2 L.length∧y1<y2:=by
  intro a ha hps hy1 hx1 hal
  obtain ⟨x,hx,hxs⟩:=aS4 hL ha
  have hp:=aOM hv hxs (gm ha) hy1
  rw [←aTQ (prof:=prof) (f:=f) ha,hps] at hp
  have hp:aCQ x y1=(y2,true):=hp
  refine ⟨aLp hx ?_ (gl hx),hN.gt (i:=q) (gl ha) hy1 hps⟩
  unfold aHN
  rw [hxs.arc,hx1,hp,←e2,aL1 ha]
  have:(b||la.any (aFe L (q:Int)))=true:=by
   rw [Bool.or_eq_true,List.any_eq_true];exact hal
  rw [this];simp
 cases j with
 | zero =>
  rw [p1,List.getElem?_cons_zero] at e1
  rw [p2,List.getElem?_cons_zero] at e3
  have e1:=Option.some.inj e1
  have e3:=Option.some.inj e3
  obtain ⟨k1,k2,k3⟩:=p3 q hq
  obtain ⟨a,ha⟩:=geb (l:=asQ (aAa os)) (i:=q) k1
  rw [aTP ha] at k2
  exact key ha (by rw [←e3,←e4];exact k3) (by omega) (by rw [←e1];exact et k2) (.inl (by rw [hb];rfl))
 | succ j =>
  obtain ⟨k,hk,hkl⟩:=hla.resolve_left (by omega)
  rw [show j+1+1-2=j by omega] at hk
  rw [p1,List.getElem?_cons_succ,List.getElem?_map,hk] at e1
  rw [p2,List.getElem?_cons_succ,List.getElem?_map,hk] at e3
  have e1:toN (asQ (aAa os)) k=x1:=Option.some.inj e1
  have e3:tm k=y1:=Option.some.inj e3
  obtain ⟨k1,k2,k3,k4,k5⟩:=p4 j k q hk hq
  obtain ⟨a,ha⟩:=geb (l:=asQ (aAa os)) (i:=q) k2
  obtain ⟨d,hd⟩:=geb (l:=asQ (aAa os)) (i:=k) k1
  rw [aTR hd ha] at k3
  obtain ⟨xk,hxk,hxs⟩:=aS4 hL hd
  have h3:=k3
  unfold aFd at h3
  rw [Bool.and_eq_true] at h3
  refine key ha (by rw [←e3,←e4];exact k4) (by omega) (by rw [←e1,aL1 hd];exact (et h3.1).symm) (.inr ⟨(k:Int),hkl,?_⟩)
  unfold aFe
  rw [Int.toNat_natCast,hxk]
  show xk.nx.contains (q:Int)=true
  rw [List.contains_iff_mem,hxs.nx,aPd]
  exact ⟨q,gl ha,rfl,a,ha,by rw [aOc hv prof (gm hd) (gm ha)];exact k3⟩
end
theorem aRH {os:List ObR}(h:aNr os=true):∀ b∈os,b.o.refs.length≤12:=by
 unfold aNr at h
 rw [Bool.and_eq_true] at h
 exact aHJ h.1
theorem aOI {k:Nat}:∀ {L:List Ob},(∀ o∈L,o.refs.length≤k)→aKl L≤k*L.length
 | [],_=>Nat.zero_le _
 | o::L,h=>by
  have h1:=aOI (L:=L) fun x hx=>h x (.tail _ hx)
  have h2:=h o (.head _)
  show o.refs.length+aKl L≤k*(L.length+1)
  rw [Nat.mul_add];omega
theorem aRb {os:List ObR}(h:aNr os=true):aKl (aAa (ofR os 2 os))≤400000:=by
 have h1:=aMl h
 have h2:(aAa (ofR os 2 os)).length≤os.length:=by rw [aEt];exact Nat.le_trans (List.length_filter_le _ _) (by unfold aAa;simp)
 have h3:=aOI (k:=12) (L:=aAa (ofR os 2 os)) fun o ho=>by
  rw [aEt] at ho
  obtain ⟨b,hb,rfl⟩:=List.mem_map.1 (List.mem_filter.1 ho).1
  exact aRH h b hb
 have:=Nat.mul_le_mul_left 12 h2
 omega
theorem aMI (s:Bys):1≤aBy s:=by
 unfold aBy
 cases decide (1≤(s.length:Int))&&(decide ((s.length:Int)≤7) && !(((s.headD 0).toNat:Int)==48)) with
 | false=>exact (by decide:(1:Int)≤100)
 | true =>
  rw [cond_true]
  cases h:decide (0<aC5 s) with
  | false=>exact (by decide:(1:Int)≤100)
  | true=>have:=dt h;rw [cond_true];omega
theorem aOo {os:List ObR}{a:Arc}(h:ArcB a):0≤aAZ os a∧aAZ os a≤5000000000:=by
 have h1:=h.pos
 have h2:=h.lt
 have h3:=aMI (aAw (aCo os a.2.2.1).o.tags [115,112,101,101,100]).1
 unfold aAZ
 generalize aBy (aAw (aCo os a.2.2.1).o.tags [115,112,101,101,100]).1=s at h3
 refine ⟨Int.ediv_nonneg (by omega) (by omega),?_⟩
 refine Int.ediv_le_of_le_mul (by omega) ?_
 have:(5000000000:Int)*1≤5000000000*s:=Int.mul_le_mul_of_nonneg_left h3 (by decide)
 omega
structure LinksQ (os:List ObR) (prof:Bys) (L:List LkR):Prop where
 p:LksP os prof (asQ (aAa os)) L (asQ (aAa os)).length
 len:L.length≤240
 tk:∀ x∈L,0≤x.tk∧x.tk≤5000000000
theorem aJC {w:World}{v:Value}{os:List ObR}(hmv:aCp w v os) (hf:aNr os=true) (hv:aAd (aAa os)=true) (hok:∀ a∈asQ (aAa os),ArcB a) (prof:Bys):Calls Tryz.prog 18 #[.agg #[v],vS prof] w fun e w'=>∃ u L,e = .returned u∧LinksQ os prof L∧Mm (fun _=>False) w w' [rw_ lkL 9 50 u L,aAB spL 2 141 (hbL L),aAB inL 1 3 (nbL L)]:=by
 have hl:(asQ (aAa os)).length≤240:=by rw [←aUH];exact Nat.le_trans (aG2 _) (aJQ hf hv)
 refine (aJ3 hmv (by have:=aMl hf;omega) hv (aRb hf) prof (A:=asQ (aAa os)) (aPZ hv).symm (by omega) fun a ha=>⟨hok a ha,?_⟩).mono ?_
 ·obtain ⟨o,h1,_,h3,_⟩:=aIM hv ha
  rw [←h3];exact (aCV (aAX hv) h1).1
 ·rintro e w' ⟨u,L,h1,h2,h3⟩
  refine ⟨u,L,h1,⟨h2,by rw [h2.len];exact hl,fun x hx=>?_⟩,h3⟩
  obtain ⟨i,hi⟩:=List.getElem?_of_mem hx
  obtain ⟨a,ha,hs⟩:=h2.at_ i x hi
  rw [hs.tk];exact aOo (hok a (gm ha))
abbrev A4 (Φ:Ending→World→Prop):=AtO Tryz.prog (aAf Tryz.f4) (aAo (bodyPost Tryz.prog Tryz.f4 Φ)) [] 153
theorem aKu {w:World}{v:Value}{os:List ObR}(hmv:aCp w v os) {prof f g:Bys}(hp63:prof.length≤9223372036854775807) (hf63:B63 f) (hTe:Te w) (m0:Int):Calls Tryz.prog 4 #[.agg #[v],vS prof,vS f,vS g,vI m0] w fun e w'=>e = .returned (vB true)∧Fr (fun _=>False) w w':=by
  obtain ⟨p0,c0,e0,s0⟩:=hmv.1.op
  subst e0
  have hok:=(aUH os▸fun a ha=>aGX (fun b hb=>(hmv.2 b hb).bnd) a (aDF ha):∀ a∈asQ (aAa os),ArcB a)
  refine beg Tryz.func4 rfl rfl [(0,.agg #[vL p0 os.length c0]),(1,vS prof),(2,vS f),(3,vS g),(4,vI m0)] rfl rfl fun Φ hΦ=>?_
  have hM:=Mm.nil (fun _=>False) w
  refine aAq 0 0 5 [] (cs:=#[vL p0 os.length c0]) (T:=24) (v:=fun b=>vP b 0) f0 hM fun ab w1 hM=>aAr 1 0 18 [] f0 hM (aNq (hTe.fr hM.fr)) fun w1 hM=>aAr 2 1 20 [(11,vB true),(19,.agg #[vL p0 os.length c0])] (fc (lam 24 0 0 1 hM rfl) f0) hM (aPB (hmv.fr hM.fr)) fun w1 hM=>seg 2 4 [(22,vB (!(aNr os)))] f0 ?_
  cases ai:(aNr os)
  ·exact rt1 10 (vB true) rfl f0 (hΦ _ _ ⟨rfl,hM.fr⟩)
  refine aAq 2 7 26 [(23,vS prof),(24,vS f),(25,vS g)] (cs:=#[vS prof,vS f,vS g]) (T:=9) (v:=fun b=>vL (some ⟨b,0,none⟩) 3 3) f0 hM fun aa w1 hM=>aAr 2 8 27 [] f0 hM (aK4 (aB3 (f:=stL) (c:=1) (b:=aa) (hM.get 1 (e:=bk aa #[vS prof,vS f,vS g] 9) rfl) [prof,f,g] 3 (fun _=>rfl) rfl rfl).src) fun w1 hM=>seg 2 11 [(29,vB (!(aGn [prof,f,g])))] f0 ?_
  cases a9:(aGn [prof,f,g])
  ·exact rt1 10 (vB true) rfl f0 (hΦ _ _ ⟨rfl,hM.fr⟩)
  refine aAO 4 5 37 [(32,.agg #[vL p0 os.length c0]),(33,vS prof),(34,vS f),(35,vS g),(36,vI m0)] (K:=fun u Mn=>∃ u1 u2 c nd mi,u = .tuple #[.agg #[u1,u2],vI c]∧aQh prof os f g m0 c nd mi∧Mn=[rw_ stL 1 9 u1 nd,rw_ inL 1 3 u2 mi]) [0,1] [] (fc (lam 24 0 0 1 hM rfl) f0) hM rfl rfl (by decide) (fun hm=>((aCM (hmv.fr hM.fr) hp63 hf63 (fun h=>aJQ ai h) (hTe.fr hM.fr) m0).mono fun e w8 ⟨v1,v2,c,nd,mi,h1,h2,h3⟩=>⟨_,_,h1,⟨v1,v2,c,nd,mi,rfl,h2,rfl⟩,aDo h3 fun _ h=>h.elim⟩)) fun u Mn w1 hK hM=>?_
  obtain ⟨u1,u2,c,nd,mi,rfl,hR,rfl⟩:=hK
  obtain ⟨qm,cm,em,sm⟩:=(hM.src (j:=3) rfl inT.len).op
  subst em
  obtain ⟨qn,cn,en,sn⟩:=(hM.src (j:=2) rfl stT.len).op
  subst en
  have bn:=sn.bnd
  replace hM:Mm (fun _=>False) w w1 [bk ab #[vL p0 os.length c0] 24,bk aa #[vS prof,vS f,vS g] 9,_,_]:=hM
  refine aCh 4 9 12 [(38,.agg #[vL qn nd.length cn,vL qm mi.length cm]),(39,vI c)] [] 31 (.agg #[vL qn nd.length cn,vL qm mi.length cm]) f0 hM fun ac w1 hM=>?_
  have hsh:=aMF hok (aOe hR)
  have hE:=fun h:¬ c=0=>(hsh.resolve_right fun h1=>h h1.1).2
  refine seg 6 2 [(14,vI (nd.length:Int)),(44,vB (!(c==0)))] (fc (ldm 28 4 0 hM rfl rfl) f0) ?_
  cases ae:(c==0)
  ·refine seg 7 6 [(50,vB ((nd.length:Int)==0))] f0 ?_
   cases aw:((nd.length:Int)==0)
   ·exact absurd (by rw [(hE (ef ae)).1];rfl) (ef aw)
   exact rt1 10 (vB ((mi.length:Int)==0)) rfl (fc (ldm 29 4 1 hM rfl rfl) f0) (hΦ _ _ ⟨congrArg (fun b=>Ending.returned (vB b)) (show ((mi.length:Int)==0)=true by rw [(hE (ef ae)).2];rfl),hM.fr⟩)
  obtain ⟨_,hv,k0,k1,hlen,hlast,hone,Q,tm,hS⟩:=hsh.resolve_left fun h=>h.1 (et ae)
  have hn0:nd[0]?=some f:=by rw [hS.nd];rfl
  have hm0:mi[0]?=some m0:=by rw [hS.mi];rfl
  have hnp:=gl hn0
  refine seg 8 3 [(58,vB ((nd.length:Int)==0))] f0 ?_
  cases af:((nd.length:Int)==0)
  rotate_left
  ·have ax:=et af
   have:=et af;omega
  have ax:=ef af
  refine seg 8 10 [(65,vB (!((mi.length:Int)==(nd.length:Int))))] (fc (ldm 29 4 1 hM rfl rfl) f0) ?_
  cases ay:((mi.length:Int)==(nd.length:Int))
  ·exact absurd (congrArg _ hlen) (ef ay)
  obtain ⟨ba,aj,-⟩:=hM.el stT (j:=2) rfl hn0
  refine seg 8 18 [(73,vB (!(f==f)))] (fc (ldm 28 4 0 hM rfl rfl) (fc (ix 28 cn aj (gl hn0)) (fc (ldr 9 2 0 stT hM rfl aj hn0 rfl) (fc (sne 9 f f) f0)))) ?_
  cases az:(f==f)
  ·exact absurd rfl (ef az)
  obtain ⟨bb,ak,-⟩:=hM.el stT (j:=2) rfl hlast
  refine seg 8 28 [(83,vB (!(g==g)))] (fc (ldm 28 4 0 hM rfl rfl) (fc (aBq (nd.length:Int) 1 u3_) (fc (ix 28 cn ak (gl hlast) (z:=((nd.length:Int)-1)) (hz:=(by omega))) (fc (ldr 9 2 0 stT hM rfl ak hlast rfl) (fc (sne 9 g g) f0))))) ?_
  cases a0:(g==g)
  ·exact absurd rfl (ef a0)
  obtain ⟨bc,al,-⟩:=hM.el inT (j:=3) rfl hm0
  refine seg 8 35 [(90,vB (!(m0==m0)))] (fc (ldm 29 4 1 hM rfl rfl) (fc (ix 29 cm al (gl hm0)) (fc (ldr 3 3 0 inT hM rfl al hm0 rfl) f0))) ?_
  cases a1:(m0==m0)
  ·exact absurd rfl (ef a1)
  refine aAO 10 2 93 [(91,.agg #[vL p0 os.length c0]),(92,vS prof)] (K:=fun u Mn=>∃ u1 L,u=u1∧LinksQ os prof L∧Mn=[rw_ lkL 9 50 u1 L,aAB spL 2 141 (hbL L),aAB inL 1 3 (nbL L)]) [0,1,2,3,4] [] (fc (lam 24 0 0 1 hM rfl) f0) hM rfl rfl (by decide) (fun hm=>((aJC (hmv.fr hM.fr) ai hv hok prof).mono fun e w8 ⟨v1,L,h1,h2,h3⟩=>⟨_,_,h1,⟨v1,L,rfl,h2,rfl⟩,aDo h3 fun _ h=>h.elim⟩)) fun u Mn w1 hK hM=>?_
  obtain ⟨u1,L,rfl,hLQ,rfl⟩:=hK
  obtain ⟨qL,cL,eL,sL⟩:=(hM.src (j:=5) rfl lkT.len).op
  subst eL
  have bL:=sL.bnd
  replace hM:Mm (fun _=>False) w w1 [bk ab #[vL p0 os.length c0] 24,bk aa #[vS prof,vS f,vS g] 9,_,_,bk ac #[vL qn nd.length cn,vL qm mi.length cm] 31,_,_,_]:=hM
  have hM:=hM.row (f:=inL) (c:=1) (E:=3)
  refine seg 13 0 [(15,vL qL L.length cL),(16,vL none 0 0),(17,vI 1)] f0 ?_
  have a2:∀ (am:Nat) (i:Nat) (qo:Option Addr) (co:Nat) (la:List Int) (w2:World),1≤i→i≤nd.length→((i=1∨∃ q,Q[i-2]?=some q∧(q:Int)∈la))→(∀ z∈la,0≤z∧z<(L.length:Int))→Mm (fun _=>False) w w2 [bk ab #[vL p0 os.length c0] 24,bk aa #[vS prof,vS f,vS g] 9,rw_ stL 1 9 (vL qn nd.length cn) nd,rw_ inL 1 3 (vL qm mi.length cm) mi,bk ac #[vL qn nd.length cn,vL qm mi.length cm] 31,rw_ lkL 9 50 (vL qL L.length cL) L,aAB spL 2 141 (hbL L),aAB inL 1 3 (nbL L),rw_ inL 1 3 (vL qo la.length co) la]→am=nd.length-i→A4 Φ (some (13,0)) [(17,vI (i:Int)),(16,vL qo la.length co),(15,vL qL L.length cL),(14,vI (nd.length:Int)),(12,vP ac 0),(11,vB true),(2,vS f),(3,vS g)] w2:=by
   refine aAG fun am a3 i qo co la w2 hi1 hi2 hla hlb hM bd=>seg 13 3 [(96,vB (decide ((i:Int)<(nd.length:Int))))] f0 ?_
   cases an:(decide ((i:Int)<(nd.length:Int)))
   ·have a4:=df an
    refine seg 18 5 [(144,vB true),(147,vB (decide (1<(nd.length:Int))))] f0 ?_
    cases ag:(decide (1<(nd.length:Int)))
    ·have a5:=df ag
     exact rt1 10 (vB (f==g)) rfl (fc (seq 9 f g) f0) (hΦ _ _ ⟨congrArg (fun b=>Ending.returned (vB b)) (beq_iff_eq.2 (hone (by have:=df ag;omega))),hM.fr⟩)
    have a5:=dt ag
    exact rt1 10 (vB true) rfl f0 (hΦ _ _ ⟨rfl,hM.fr⟩)
   have a4:=dt an
   obtain ⟨x1,hx1⟩:=geb (l:=nd) (i:=i-1) (by omega)
   obtain ⟨x2,hx2⟩:=geb (l:=nd) (i:=i) (by omega)
   obtain ⟨y1,hy1⟩:=geb (l:=mi) (i:=i-1) (by omega)
   obtain ⟨y2,hy2⟩:=geb (l:=mi) (i:=i) (by omega)
   obtain ⟨q,hq,hin,hlt⟩:=aOd hok hv hLQ.p k0 hS hi1 (by omega) hx1 hx2 hy1 hy2 hla (b:=((i:Int)==1)) (by rw [Bool.eq_iff_iff,beq_iff_eq,decide_eq_true_eq];omega)
   refine seg 15 0 [] f0 ?_
   obtain ⟨be,ao,-⟩:=hM.el stT (j:=2) rfl hx1
   obtain ⟨bf,ap,-⟩:=hM.el stT (j:=2) rfl hx2
   obtain ⟨bg,aq,-⟩:=hM.el inT (j:=3) rfl hy1
   obtain ⟨bh,ar,-⟩:=hM.el inT (j:=3) rfl hy2
   refine drx [26] (fun γ=>[some ((γ 0))]) _ (fun γ l=>[bk ab #[vL p0 os.length c0] 24,bk aa #[vS prof,vS f,vS g] 9,rw_ stL 1 9 (vL qn nd.length cn) nd,rw_ inL 1 3 (vL qm mi.length cm) mi,bk ac #[vL qn nd.length cn,vL qm mi.length cm] 31,rw_ lkL 9 50 (vL qL L.length cL) L,aAB spL 2 141 (hbL L),aAB inL 1 3 (nbL L),(bif l.getD 0 false then rw_ inL 1 3 (γ 0) (aCz L la ((i:Int)==1) x1 x2 y1 y2 L.length) else rw_ inL 1 3 (vL qo la.length co) la)]) (fun γ=>[(16,(γ 0))]) hM (fun γ=>rfl) (fun γ l w5 hM=>(fc (ldm 28 4 0 hM rfl rfl) (fc (aBq (i:Int) 1 u3_) (fc (ix 28 cn ao (gl hx1) (z:=((i:Int)-1)) (hz:=(by omega))) (fc (ldr 9 2 0 stT hM rfl ao hx1 rfl) (fc (ldm 28 4 0 hM rfl rfl) (fc (ix 28 cn ap (gl hx2)) (fc (ldr 9 2 0 stT hM rfl ap hx2 rfl) (fc (ldm 29 4 1 hM rfl rfl) (fc (aBq (i:Int) 1 u3_) (fc (ix 29 cm aq (gl hy1) (z:=((i:Int)-1)) (hz:=(by omega))) (fc (ldr 3 3 0 inT hM rfl aq hy1 rfl) (fc (ldm 29 4 1 hM rfl rfl) (fc (ix 29 cm ar (gl hy2)) (fc (ldr 3 3 0 inT hM rfl ar hy2 rfl) f0))))))))))))))) ⟨aLr 0 26 8 125 (f:=19) (fun γ=>#[vL qL L.length cL,vL qo la.length co,vB ((i:Int)==1),vS x1,vS x2,vI y1,vI y2]) (rw_ inL 1 3 (vL qo la.length co) la) (fun u=>rw_ inL 1 3 u (aCz L la ((i:Int)==1) x1 x2 y1 y2 L.length)) (fun γ fr wm hM hm=>(aIN (L:=L) (Src.p (n:=L.length) (hM.src (f:=lkL) (c:=9) (E:=50) (j:=5) (A:=L) (by kernel_rfl) lkT.len)).2 (Src.p (hm.src (j:=0) rfl inT.len)).2 (aVy (L:=L) hM (i:=6) (j:=7) (by kernel_rfl) (by kernel_rfl)) hLQ.tk hlb (by have:=hLQ.len;omega) ((i:Int)==1) x1 x2 y1 y2).mono fun e w8 ⟨u,h1,h2⟩=>⟨u,h1,aDo h2 fun _ h=>h.elim⟩),trivial⟩ fun a6 w1 hM=>?_
   replace hM:Mm (fun _=>False) w w1 [bk ab #[vL p0 os.length c0] 24,bk aa #[vS prof,vS f,vS g] 9,_,_,bk ac #[vL qn nd.length cn,vL qm mi.length cm] 31,_,_,_,_]:=hM
   generalize (a6 0)=ux at hM ⊢
   obtain ⟨qx,cx,ex,sx⟩:=(hM.src (j:=8) rfl inT.len).op
   subst ex
   have bx:=sx.bnd
   replace hM:Mm (fun _=>False) w w1 [bk ab #[vL p0 os.length c0] 24,bk aa #[vS prof,vS f,vS g] 9,_,_,bk ac #[vL qn nd.length cn,vL qm mi.length cm] 31,_,_,_,_]:=hM
   refine seg 16 0 [] f0 ?_
   cases ad:(((aCz L la ((i:Int)==1) x1 x2 y1 y2 L.length).length:Int)==0)
   rotate_left
   ·have a7:=et ad
    have h9:=List.eq_nil_of_length_eq_zero (show (aCz L la ((i:Int)==1) x1 x2 y1 y2 L.length).length=0 by have:=et ad;omega);rw [h9] at hin;cases hin
   have a7:=ef ad
   have hM:=hM.q ((Fr.refl _ _).drew)
   obtain ⟨bi,au,-⟩:=hM.el inT (j:=3) rfl hy2
   obtain ⟨bj,av,-⟩:=hM.el inT (j:=3) rfl hy1
   refine drq [(142,vB (decide (y2≤y1)))] rfl (fc (tv 128 ad) (fc (ldm 29 4 1 hM rfl rfl) (fc (ix 29 cm au (gl hy2)) (fc (ldr 3 3 0 inT hM rfl au hy2 rfl) (fc (ldm 29 4 1 hM rfl rfl) (fc (aBq (i:Int) 1 u3_) (fc (ix 29 cm av (gl hy1) (z:=((i:Int)-1)) (hz:=(by omega))) (fc (ldr 3 3 0 inT hM rfl av hy1 rfl) f0)))))))) ?_
   cases ah:(decide (y2≤y1))
   ·have a8:=df ah
    refine seg 13 0 [(17,vI ((i:Int)+1))] (fc (aAe (i:Int) 1 u3_) f0) ?_
    replace hM:Mm (fun _=>False) w _ [bk ab #[vL p0 os.length c0] 24,bk aa #[vS prof,vS f,vS g] 9,_,_,bk ac #[vL qn nd.length cn,vL qm mi.length cm] 31,_,_,_,_]:=hM
    exact aAb _ (a3 _ (by omega) (i+1) qx cx (aCz L la ((i:Int)==1) x1 x2 y1 y2 L.length) _ (by omega) (by omega) (.inr ⟨q,by rw [show i+1-2=i-1 by omega];exact hq,hin⟩) (fun z hz=>aIO hz) hM rfl)
   have a8:=dt ah
   have:=dt ah;omega
  exact aAb _ (a2 _ 1 none 0 [] _ (Nat.le_refl _) (by omega) (.inl rfl) (fun z hz=>(by cases hz)) hM rfl)
open Go.ChangeShapes Go.WideShapes
section
variable {H:Type}{enc:TypeId×Value→H}{W:World}{sp:Nat→Bool}{held:Bool}{n:Nat}{cs:List Value}{x:DataW H×List MemPlace}
theorem aIr {α:Type}(dflt:α) (f:α→List Value) (c:Nat) {T E:TypeId}(hT:Tryz.prog.underlying T=some (.slice E)) (hc:Tryz.prog.cellsOf E=c) (hlen:∀ a,(f a).length=c) (hc0:0<c) (Q:α→Prop) (hel:∀ m cs x,DataW.trod enc Tryz.prog W 0 sp held m E cs=some x→∃ a,cs=f a∧Q a)
  (h:DataW.trod enc Tryz.prog W 0 sp held n T cs=some x):∃ (l:List α) (p:Option Addr) (cap:Nat),cs=[.slice p l.length cap]∧SrcP f c W p cap l∧∀ a∈l,Q a:=by
 rcases Deep.open_slice hT h with ⟨rfl,_⟩ | ⟨a,len,cap,m,n,D,Pl,rfl,_,hl,hm,hmm,_,hx⟩
 ·exact ⟨[],none,0,rfl,⟨Nat.le_refl _,Nat.zero_le _,.inl rfl,fun _=>rfl⟩,fun _ h=>(by cases h)⟩
 ·rw [hc] at hx
  have hlm:len≤m:=by rw [hmm];split<;>omega
  have hall:∀ i,i<len→∃ s:α,(∀ j,j<c→W.cell? ((a.add (i*c)).add j)=(f s)[j]?)∧Q s:=fun i hi=>by
   obtain ⟨cs',h1,h2⟩:=hx i (by omega)
   obtain ⟨_,_,h3⟩:=World.cells?_some h1
   obtain ⟨s,rfl,hq⟩:=hel _ _ _ h2
   exact ⟨s,fun j hj=>by rw [h3 j hj],hq⟩
  haveI:Inhabited α:=⟨dflt⟩
  obtain ⟨g,hg⟩:=Deep.choose_lt hall
  refine ⟨(List.range len).map g,some a,cap,by simp,⟨by simpa using hl,hm,?_,fun h=>by cases h⟩,fun s hs=>?_⟩
  ·rcases Nat.eq_zero_or_pos len with h0 | h0
   ·left;rw [h0];rfl
   ·right
    have hspot:a=⟨a.block,a.off,none⟩∧a.block<W.heap.size:=by
     have:=(hg 0 h0).1 0 hc0
     rw [Nat.zero_mul] at this
     have e0:(a.add 0).add 0=a:=by simp [Addr.add]
     rw [e0] at this
     obtain ⟨v0,hv0⟩:∃ v,(f (g 0))[0]?=some v:=⟨_,List.getElem?_eq_getElem (by rw [hlen];exact hc0)⟩
     rw [hv0] at this
     refine ⟨?_,World.block_lt_of_cell? W a this⟩
     cases a with
     | mk b o s =>
      cases s with
      | none=>rfl
      | some k =>
       unfold World.cell? at this
       split at this<;>simp at this
    refine ⟨a.block,a.off,by rw [←hspot.1],hspot.2,fun i s hs j v hv=>?_⟩
    rw [List.getElem?_map] at hs
    have hi:i<len:=by
     cases h:(List.range len)[i]? with
     | none=>rw [h] at hs;cases hs
     | some x=>have:=(List.getElem?_eq_some_iff.1 h).1;simpa using this
    rw [List.getElem?_range hi] at hs
    simp at hs
    subst hs
    have hj:j<c:=by
     have:=(List.getElem?_eq_some_iff.1 hv).1
     rw [hlen] at this;exact this
    have:=(hg i hi).1 j hj
    have e:((⟨a.block,a.off,none⟩:Addr).add (i*c)).add j=⟨a.block,a.off+i*c+j,none⟩:=by
     unfold Addr.add
     by_cases h1:i*c=0<;>by_cases h2:j=0<;>simp [h1,h2,Nat.add_assoc]
    rw [hv,hspot.1,e] at this
    exact this
  ·obtain ⟨i,hi,rfl⟩:=List.mem_map.1 hs
   exact (hg i (List.mem_range.1 hi)).2
set_option maxRecDepth 100000 in
theorem aFQ (h:DataW.trod enc Tryz.prog W 0 sp held n 9 cs=some x):∃ s:Bys,cs=stL s∧B63 s:=by
 obtain ⟨s,rfl,_,hs⟩:=DataW.trod_string u9_ h
 obtain ⟨l,rfl⟩:=aEb s
 rw [aBk] at hs
 exact ⟨l,rfl,by unfold maxLen at hs;unfold B63;omega⟩
set_option maxRecDepth 100000 in
theorem aIs (h:DataW.trod enc Tryz.prog W 0 sp held n 3 cs=some x):∃ m:Int,cs=[vI m]:=by
 obtain ⟨m,rfl,_⟩:=DataW.trod_int u3_ h
 exact ⟨m,rfl⟩
set_option maxRecDepth 100000 in
theorem aRp (h:DataW.trod enc Tryz.prog W 0 sp held n 106 cs=some x):∃ t:Tag,cs=tgL t∧(B63 t.1∧B63 t.2):=by
 obtain ⟨xs,m,_,_,hl,hlen,hf⟩:=DataW.trod_struct Tryz.underlying106 h
 rw [show Tryz.prog.cellsOf 106=2 by kernel_rfl] at hl
 match cs,hl with
 | [c0,c1],_ =>
 obtain ⟨y0,e0⟩:∃ y,xs[0]?=some y:=⟨_,List.getElem?_eq_getElem (by rw [hlen];simp)⟩
 obtain ⟨y1,e1⟩:∃ y,xs[1]?=some y:=⟨_,List.getElem?_eq_getElem (by rw [hlen];simp)⟩
 have h0:DataW.trod enc Tryz.prog W 0 sp held m 9 (List.take (Tryz.prog.cellsOf 9) (List.drop 0 [c0,c1]))=some y0:=(hf 0 _ rfl).trans e0
 have h1:DataW.trod enc Tryz.prog W 0 sp held m 9 (List.take (Tryz.prog.cellsOf 9) (List.drop 1 [c0,c1]))=some y1:=(hf 1 _ rfl).trans e1
 rw [show Tryz.prog.cellsOf 9=1 by kernel_rfl] at h0 h1
 obtain ⟨s0,g0,b0⟩:=aFQ h0
 obtain ⟨s1,g1,b1⟩:=aFQ h1
 have g0:[c0]=[vS s0]:=g0
 have g1:[c1]=[vS s1]:=g1
 cases g0;cases g1
 exact ⟨(s0,s1),rfl,b0,b1⟩
set_option maxRecDepth 100000 in
theorem aTI (h:DataW.trod enc Tryz.prog W 0 sp held n 61 cs=some x):∃ a b:Int,cs=[vI a,vI b]:=by
 obtain ⟨xs,m,_,_,hl,hlen,hf⟩:=DataW.trod_struct Tryz.underlying61 h
 rw [show Tryz.prog.cellsOf 61=2 by kernel_rfl] at hl
 match cs,hl with
 | [c0,c1],_ =>
 obtain ⟨y0,e0⟩:∃ y,xs[0]?=some y:=⟨_,List.getElem?_eq_getElem (by rw [hlen];simp)⟩
 obtain ⟨y1,e1⟩:∃ y,xs[1]?=some y:=⟨_,List.getElem?_eq_getElem (by rw [hlen];simp)⟩
 have h0:DataW.trod enc Tryz.prog W 0 sp held m 3 (List.take (Tryz.prog.cellsOf 3) (List.drop 0 [c0,c1]))=some y0:=(hf 0 _ rfl).trans e0
 have h1:DataW.trod enc Tryz.prog W 0 sp held m 3 (List.take (Tryz.prog.cellsOf 3) (List.drop 1 [c0,c1]))=some y1:=(hf 1 _ rfl).trans e1
 rw [show Tryz.prog.cellsOf 3=1 by kernel_rfl] at h0 h1
 obtain ⟨s0,g0⟩:=aIs h0
 obtain ⟨s1,g1⟩:=aIs h1
 have g0:[c0]=[vI s0]:=g0
 have g1:[c1]=[vI s1]:=g1
 cases g0;cases g1
 exact ⟨s0,s1,rfl⟩
set_option maxRecDepth 100000 in
theorem aTJ (h:DataW.trod enc Tryz.prog W 0 sp held n 64 cs=some x):∃ b:ObR,cs=obL b∧ObIn W b:=by
 obtain ⟨xs,m,_,_,hl,hlen,hf⟩:=DataW.trod_struct Tryz.underlying64 h
 rw [show Tryz.prog.cellsOf 64=6 by kernel_rfl] at hl
 match cs,hl with
 | [c0,c1,c2,c3,c4,c5],_ =>
 obtain ⟨y0,e0⟩:∃ y,xs[0]?=some y:=⟨_,List.getElem?_eq_getElem (by rw [hlen];simp)⟩
 obtain ⟨y1,e1⟩:∃ y,xs[1]?=some y:=⟨_,List.getElem?_eq_getElem (by rw [hlen];simp)⟩
 obtain ⟨y2,e2⟩:∃ y,xs[2]?=some y:=⟨_,List.getElem?_eq_getElem (by rw [hlen];simp)⟩
 obtain ⟨y3,e3⟩:∃ y,xs[3]?=some y:=⟨_,List.getElem?_eq_getElem (by rw [hlen];simp)⟩
 obtain ⟨y4,e4⟩:∃ y,xs[4]?=some y:=⟨_,List.getElem?_eq_getElem (by rw [hlen];simp)⟩
 have h0:DataW.trod enc Tryz.prog W 0 sp held m 9 (List.take (Tryz.prog.cellsOf 9) (List.drop 0 [c0,c1,c2,c3,c4,c5]))=some y0:=(hf 0 _ rfl).trans e0
 have h1:DataW.trod enc Tryz.prog W 0 sp held m 3 (List.take (Tryz.prog.cellsOf 3) (List.drop 1 [c0,c1,c2,c3,c4,c5]))=some y1:=(hf 1 _ rfl).trans e1
 have h2:DataW.trod enc Tryz.prog W 0 sp held m 61 (List.take (Tryz.prog.cellsOf 61) (List.drop 2 [c0,c1,c2,c3,c4,c5]))=some y2:=(hf 2 _ rfl).trans e2
 have h3:DataW.trod enc Tryz.prog W 0 sp held m 28 (List.take (Tryz.prog.cellsOf 28) (List.drop 4 [c0,c1,c2,c3,c4,c5]))=some y3:=(hf 3 _ rfl).trans e3
 have h4:DataW.trod enc Tryz.prog W 0 sp held m 62 (List.take (Tryz.prog.cellsOf 62) (List.drop 5 [c0,c1,c2,c3,c4,c5]))=some y4:=(hf 4 _ rfl).trans e4
 rw [show Tryz.prog.cellsOf 9=1 by kernel_rfl] at h0
 rw [show Tryz.prog.cellsOf 3=1 by kernel_rfl] at h1
 rw [show Tryz.prog.cellsOf 61=2 by kernel_rfl] at h2
 rw [show Tryz.prog.cellsOf 28=1 by kernel_rfl] at h3
 rw [show Tryz.prog.cellsOf 62=1 by kernel_rfl] at h4
 obtain ⟨s0,g0,b0⟩:=aFQ h0
 obtain ⟨s1,g1⟩:=aIs h1
 obtain ⟨s2,s3,g2⟩:=aTI h2
 obtain ⟨rs,pr,cr,g3,k3,b3⟩:=aIr [] stL 1 Tryz.underlying28 (by kernel_rfl) (fun _=>rfl) (by decide) B63 (fun _ _ _ h=>aFQ h) h3
 obtain ⟨ts,pt,ct,g4,k4,b4⟩:=aIr ([],[]) tgL 2 Tryz.underlying62 (by kernel_rfl) (fun _=>rfl) (by decide) (fun t=>B63 t.1∧B63 t.2) (fun _ _ _ h=>aRp h) h4
 have g0:[c0]=[vS s0]:=g0
 have g1:[c1]=[vI s1]:=g1
 have g2:[c2,c3]=[vI s2,vI s3]:=g2
 have g3:[c4]=[vL pr rs.length cr]:=g3
 have g4:[c5]=[vL pt ts.length ct]:=g4
 cases g0;cases g1;cases g2;cases g3;cases g4
 exact ⟨⟨⟨s0,s1,s2,s3,rs,ts⟩,pr,cr,pt,ct⟩,rfl,k3,k4,b0,b3,b4⟩
set_option maxRecDepth 100000 in
theorem aRq (h:DataW.trod enc Tryz.prog W 0 sp held n 24 cs=some x):∃ (os:List ObR) (v:Value),cs=[v]∧aCp W v os:=by
 obtain ⟨xs,m,_,_,hl,hlen,hf⟩:=DataW.trod_struct Tryz.underlying24 h
 rw [show Tryz.prog.cellsOf 24=1 by kernel_rfl] at hl
 match cs,hl with
 | [c0],_ =>
 obtain ⟨y0,e0⟩:∃ y,xs[0]?=some y:=⟨_,List.getElem?_eq_getElem (by rw [hlen];simp)⟩
 have h0:DataW.trod enc Tryz.prog W 0 sp held m 22 (List.take (Tryz.prog.cellsOf 22) (List.drop 0 [c0]))=some y0:=(hf 0 _ rfl).trans e0
 rw [show Tryz.prog.cellsOf 22=1 by kernel_rfl] at h0
 obtain ⟨os,p,cap,g0,k0,b0⟩:=aIr ⟨⟨[],0,0,0,[],[]⟩,none,0,none,0⟩ obL 6 Tryz.underlying22 (by kernel_rfl) (fun _=>rfl) (by decide) (ObIn W) (fun _ _ _ h=>aTJ h) h0
 have g0:[c0]=[vL p os.length cap]:=g0
 cases g0
 exact ⟨os,_,rfl,k0.src,b0⟩
end
end Go.Proofs.YtbflfefahheidaaGreatDoor
namespace Go.Pl
open Go.RowKit Go.ChangeShapes Go.WideShapes
theorem aEB {H:Type}{enc:TypeId×Value→H}{P:Program}(hl:laidOutB P=true) {W W':World}(hb:Below W.heap.size W W') :
  ∀ (ts:List TypeId) (vs:List Value) (ds:List (DataW H)) (ps:List MemPlace),(∀ t∈ts,P.readableRec t=true∧t<P.types.size)→DataW.TrodAll enc P W 0 (fun _=>true) true ts vs ds ps→(∀ x∈ps,x.block<W.heap.size) →
   DataW.TrodAll enc P W' 0 (fun b=>decide (b<W.heap.size)) true ts vs ds ps
 | [],[],[],ps,_,h,_=>h
 | t::ts,v::vs,d::ds,ps,hr,h,hlt=>by
  obtain ⟨p,q,h1,h2,rfl⟩:=h
  exact ⟨p,q,Below.trod hl (hr t (by simp)).1 (hr t (by simp)).2 h1 hb (fun x hx=>hlt x (by simp [hx])),
   aEB hl hb ts vs ds q (fun t ht=>hr t (by simp [ht])) h2 (fun x hx=>hlt x (by simp [hx])),rfl⟩
 | [],[],_::_,_,_,h,_=>h.elim
 | [],_::_,_,_,_,h,_=>by cases h
 | _::_,[],_,_,_,h,_=>by cases h
 | _::_,_::_,[],_,_,h,_=>h.elim
theorem aR7 {H:Type}{enc:TypeId×Value→H}{P:Program}(hl:laidOutB P=true) {fn:Func}{s:ChangeSpec}{apart fresh handsOn:Bool}{W W':World}{args:Array Value}{ds gs:List (DataW H)}{before:List MemPlace}
  (hread:∀ t∈fn.params.toList,P.readableRec t=true∧t<P.types.size) {tb:TypeId}(hres:fn.resultTypes=#[tb]) (htb:P.underlying tb=some .bool) (hvars:s.vars=[])
  (hs:s.fn H (ds++gs)={ results:=[.lit (.bool true)],args:=ds }) (hW:DataW.Whole enc P fn.params.toList s.vars apart W args.toList ds gs before) (hb:Below W.heap.size W W') :
  s.post enc P fn apart fresh handsOn false W args (.bool true) W':=by
 have hlt:=hW.lt
 have hW0:=hW
 obtain ⟨p,q,hA,hV,hpq,_,_⟩:=hW
 refine ⟨ds,gs,before,[],p,[],hW0,?_,?_,?_,hb.frame _,fun h=>by cases h⟩
 ·rw [hs,hres]
  exact trodAll_mk1 (shut_bool htb _)
 ·rw [hs]
  exact aEB hl hb _ _ _ _ hread hA (fun x hx=>hlt x (by rw [hpq];simp [hx]))
 ·rw [hs,hvars]
  rfl
end Go.Pl
namespace Go.Proofs.YtbflfefahheidaaGreatDoor
open Go.RowKit Go.Pl Go.ChangeShapes Go.WideShapes
theorem aXH:laidOutB Tryz.prog=true:=by kernel_rfl
theorem aXG:ownKnob Tryz.prog.godebug=none:=by kernel_rfl
set_option maxRecDepth 100000 in
theorem aPF {W:World}{name:String}{g t:Nat}{s:String}{d:DataW Unit}{ms:Array _}(hg:Tryz.prog.globalNamed name=some g) (hty:(Tryz.prog.globals[g]?).map (·.type)=some t) (ht:Tryz.prog.underlying t=some (.interface ms)) (h:Lib.VarReads Tryz.prog W name (.iface s d)):aWP W g:=by
 obtain ⟨g',t',cs,fuel,p,hg',ht',hvar,hd⟩:=h
 obtain rfl:=Option.some.inj (hg.symm.trans hg')
 obtain rfl:=Option.some.inj (hty.symm.trans ht')
 cases fuel with
 | zero=>cases hd
 | succ fuel =>
  unfold DataW.trod at hd
  rw [ht] at hd
  unfold World.var? at hvar
  rw [hg] at hvar
  simp only [Option.bind_some] at hvar
  split at hvar
  ·rename_i cs' T' fz hb
   obtain rfl:=Option.some.inj hvar
   have key:∃ ev,cs'.toList=[ev]∧(ev = .nilIface∨∃ te pe,ev = .iface te pe):=by
    split at hd<;>first | (cases hd;done) | skip
    all_goals (rename_i h1 h2;first | (cases h1;done) | (cases h2;done) | (exact ⟨_,h2,.inl rfl⟩) | (exact ⟨_,h2,.inr ⟨_,_,rfl⟩⟩))
   obtain ⟨ev,h1,h2⟩:=key
   refine ⟨ev,?_,h2⟩
   have hz:cs'[0]?=some ev:=by rw [←Array.getElem?_toList,h1];rfl
   unfold World.cell?
   simp [hb,hz]
  ·cases hvar
def aNk:List (String×DataW Unit):=[("math/bits.deBruijn32tab",Rows.laid_math_bits_deBruijn32tab),("math/bits.deBruijn64tab",Rows.laid_math_bits_deBruijn64tab),("internal/strconv.uint64pow10",Rows.laid_internal_strconv_uint64pow10),("strconv.ErrRange",Rows.laid_strconv_ErrRange),("strconv.ErrSyntax",Rows.laid_strconv_ErrSyntax),("unicode.White_Space",Rows.laid_unicode_White_Space),("strings.asciiSpace",Rows.laid_strings_asciiSpace)]
set_option maxRecDepth 100000 in
theorem aRK (os:Os) (args:Array Value):laidMetH Tryz.prog aNk ((World.doorLaid Tryz.prog 86 os).forCall (fun _ _=>0) ⟨#[],args,[]⟩).memory :=
 laidMetH_of_parts3 (fuel:=8) (laidMet_of_run' 8 (by kernel_rfl) (by kernel_rfl)) (by kernel_rfl) (by kernel_rfl)
theorem aSn {W:World}{name:String}{k:IntKind}{zs:List Int}{g:Nat}{t e:TypeId}{n:Nat}(hg:Tryz.prog.globalNamed name=some g) (hty:(Tryz.prog.globals[g]?).map (·.type)=some t) (ht:Tryz.prog.underlying t=some (.array n e)) (he:Tryz.prog.underlying e=some (.int k)) (hce:Tryz.prog.cellsOf e=1) (hct:Tryz.prog.cellsOf t=n) (h:Lib.VarReads Tryz.prog W name (Lib.tabData k zs)):Lib.TabIs Tryz.prog W name k zs:=by
 obtain ⟨g',t',cs,fuel,p,hg',ht',hvar,hd⟩:=h
 obtain rfl:=Option.some.inj (hg.symm.trans hg')
 obtain rfl:=Option.some.inj (hty.symm.trans ht')
 unfold Lib.TabIs
 rw [hvar,←Lib.cells_of_tab ht he hce hct hd]
set_option maxRecDepth 100000 in
theorem aWp {W:World}(h:laidMetH Tryz.prog aNk W):Tb W:=by
 rw [MakeChecks.laidMetH_plain _ _ _ (by kernel_rfl)] at h
 exact ⟨aSn (g:=4) (t:=280) (e:=222) (n:=20) (by kernel_rfl) (by kernel_rfl) (by kernel_rfl) (by kernel_rfl) (by kernel_rfl) (by kernel_rfl) (Lib.laidMet.reads h (d:=Rows.laid_internal_strconv_uint64pow10) (.tail _ (.tail _ (.head _)))),
  aSn (g:=3) (t:=153) (e:=5) (n:=256) (by kernel_rfl) (by kernel_rfl) (by kernel_rfl) (by kernel_rfl) (by kernel_rfl) (by kernel_rfl) (Lib.laidMet.reads h (d:=Rows.laid_strings_asciiSpace) (.tail _ (.tail _ (.tail _ (.tail _ (.tail _ (.tail _ (.head _))))))))⟩
set_option maxRecDepth 100000 in
theorem aWo {W:World}(h:laidMetH Tryz.prog aNk W):Te W:=by
 have hT:=aWp h
 rw [MakeChecks.laidMetH_plain _ _ _ (by kernel_rfl)] at h
 exact ⟨hT,aPF (g:=0) (t:=173) (by kernel_rfl) (by kernel_rfl) Tryz.underlying173 (Lib.laidMet.reads h (n := "strconv.ErrSyntax") (d:=Rows.laid_strconv_ErrSyntax) (.tail _ (.tail _ (.tail _ (.tail _ (.head _)))))),
  aPF (g:=1) (t:=173) (by kernel_rfl) (by kernel_rfl) Tryz.underlying173 (Lib.laidMet.reads h (n := "strconv.ErrRange") (d:=Rows.laid_strconv_ErrRange) (.tail _ (.tail _ (.tail _ (.head _)))))⟩
end Go.Proofs.YtbflfefahheidaaGreatDoor
