/- Part 5 of the proof. -/
import Derived.Test.YtnhljdeohelgjaaGreatDoorB4
import Derived.LaidMore
import Derived.Deep.Slices
import Derived.OpenShut
import Derived.Test.YtnhljdeohelgjaaGreatDoorTie
import Derived.Lib.LaidU8
import Derived.MakeChecks
import Derived.ProofKit
import Derived.Test.YtnhljdeohelgjaaGreatDoorRows
import Derived.Stop.Joined
set_option linter.unusedVariables false
set_option linter.unusedSimpArgs false
namespace Go.Proofs.YtnhljdeohelgjaaGreatDoor
open Go.RowKit Go.Pl
def sgL (s:Pt×Pt):List Value:=[vI s.1.1,vI s.1.2,vI s.2.1,vI s.2.2]
theorem sgT:ElT Tryz.prog sgL 4 142 169:=⟨fun _=>rfl,by decide,fun x u hu=>by
  unfold sgL at hu;simp only [List.mem_cons,List.not_mem_nil,or_false] at hu;rcases hu with rfl | rfl | rfl | rfl<;>rfl,Tryz.underlying142,aBj (by kernel_rfl)⟩
abbrev ixG (ix mb:Nat) (rv:Value) (pk:Bool) (nb:Nat) (m:Bys→Option (Pt×Pt)):Ent:=aJG [bk ix #[.map (some mb),rv,vB pk] 232,mp Tryz.prog 9 mb nb (bxF m)]
def aTg (b:Nat) (e:Ent):Prop:=∃ mb,e=ixG b mb (.pointer none) false 0 (fun _=>none)
def aTa (ix mb:Nat) (u:Value) (e:Ent):Prop:=∃ (c:Int) (n':Nat) (m':Bys→Option (Pt×Pt)) (pk':Bool),u=vI c∧e=ixG ix mb (.pointer none) pk' n' m'
theorem aSd {w:World}:Calls Tryz.prog 75 #[] w fun e w'=>∃ u e',e = .returned (vP u 0)∧aTg u e'∧Mm (fun _=>False) w w' [e'] :=
  aQB.mono fun e w' ⟨ix,mb,h1,h2⟩=>⟨_,_,h1,⟨mb,rfl⟩,by rw [aQW] at h2;exact aJW (A:=[]) h2⟩
theorem aSc {w:World}{G:Nat→Prop}{ix mb n:Nat}{pk:Bool}{m:Bys→Option (Pt×Pt)}(hM0:Mm G w w [ixG ix mb (.pointer none) pk n m]) {s:Bys}(hs:B63 s) (b:Pt×Pt):Calls Tryz.prog 77 #[vP ix 0,vS s,bxV b] w fun e w'=>∃ u e',e = .returned u∧aTa ix mb u e'∧Mm G w w' [e'] :=
  (aIK (Mm.ung (A:=[]) (C:=[]) hM0) hs b).mono fun e w' ⟨u,Mn,h1,⟨c,n',m',pk',h2,_,h3⟩,h4⟩=>⟨u,_,h1,⟨c,n',m',pk',h2,rfl⟩,by subst h3;exact aJW (A:=[]) h4⟩
theorem aOF {o:Ob}(h:aAG o=true):aGk o.kind≤(o.refs.length:Int):=by
  unfold aAG at h;simp only [Bool.and_eq_true,Bool.not_eq_true',decide_eq_false_iff_not] at h;have:=h.1.1.1.2;omega
theorem aQs {l:List Ob}{s:Bys}(hv:aAe l=true) (h:(aAd l s).1=0):0<(aAd l s).2.length:=by
  unfold aAd at h ⊢;rw [hv] at h ⊢
  cases hd:decide (aAi l s<0) with
  | true=>rw [hd] at h;cases h
  | false =>
    rw [hd] at h;simp only [Bool.not_true,cond_false] at h ⊢
    cases ho:l[(aAi l s).toNat]? with
    | none=>rw [ho] at h;cases h
    | some o =>
      rw [ho] at h;simp only at h ⊢;unfold aAI at h ⊢;have hvo:=aEb hv o (List.mem_of_getElem? ho)
      cases h1:o.kind==1 with
      | true=>simp
      | false =>
        rw [h1] at h;simp only [cond_false] at h ⊢
        cases h2:(o.kind==2)||(o.kind==3) with
        | false=>rw [h2] at h;cases h
        | true =>
          rw [h2] at h;simp only [cond_true] at h ⊢
          cases ha:o.refs.all fun r=>(aD0 l r).isSome with
          | false=>rw [ha] at h;cases h
          | true =>
            simp only [cond_true,List.length_map];have:=aOF hvo;rw [Bool.or_eq_true] at h2;rcases h2 with h2 | h2
            · rw [et h2] at this;have:(2:Int)≤o.refs.length:=this;omega
            · rw [et h2] at this;have:(3:Int)≤o.refs.length:=this;omega
theorem aRL {l:List Ob}{s:Bys}(hv:aAe l=true):(aAd l s).2.length≤2000:=by
  unfold aAd;rw [hv]
  cases hd:decide (aAi l s<0) with
  | true=>simp
  | false =>
    simp only [Bool.not_true,cond_false]
    cases ho:l[(aAi l s).toNat]? with
    | none=>simp
    | some o =>
      have h2:=aJz (aEb hv o (List.mem_of_getElem? ho));simp only;unfold aAI
      cases h1:o.kind==1 with
      | true=>simp
      | false =>
        cases h3:(o.kind==2)||(o.kind==3) with
        | false=>simp
        | true =>
          cases ha:o.refs.all fun r=>(aD0 l r).isSome with
          | false=>simp
          | true=>simp only [cond_false,cond_true,List.length_map];exact h2
abbrev aTN (Φ:Ending→World→Prop):=AtO Tryz.prog (aAr Tryz.f30) (aA2 (bodyPost Tryz.prog Tryz.f30 Φ)) [] 93
theorem aGV {w:World}{v:Value}{os:List ObR}(hm:aDy w v os) (hlen:os.length≤400000000) (hvm:aAe (aAa os)=true) {f pr:Bys}(n m0:Int):Calls Tryz.prog 30 #[.agg #[v],.agg #[vI 5,vI 0,vI 1,vS [],vS [],vI 0,vL none 0 0,vS f,vI n,vI 0,vI 0,vS [],vS pr,vI m0]] w fun e w'=>∃ fb v1 v2,e = .returned (vP fb 0)∧Mm (fun _=>False) w w' [bk fb #[v,vI 5,vI 0,vI 1,vS [],vS [],vI 0,vL none 0 0,vS f,vI n,vI 0,vI 0,vS [],vS pr,vI m0,v1,v2] 136]:=by
  have hmv:=hm;have hm0:=hm;obtain ⟨hs0,hob⟩:=hm0;obtain ⟨p0,cp0,hp0,sp0⟩:=hs0.op;subst hp0;have bp0:=sp0.bnd;refine beg Tryz.func30 rfl rfl [(0,.agg #[vL p0 os.length cp0]),(1,.agg #[vI 5,vI 0,vI 1,vS [],vS [],vI 0,vL none 0 0,vS f,vI n,vI 0,vI 0,vS [],vS pr,vI m0])] rfl rfl fun Φ hΦ=>?_;have hM:=Mm.nil (fun _=>False) w;refine aAn 0 0 2 [] (cs:=#[vL p0 os.length cp0]) (T:=24) (v:=fun b=>vP b 0) f0 hM fun ae w1 hM=>aAn 0 1 3 [] (cs:=#[vI 5,vI 0,vI 1,vS [],vS [],vI 0,vL none 0 0,vS f,vI n,vI 0,vI 0,vS [],vS pr,vI m0]) (T:=43) (v:=fun b=>vP b 0) f0 hM fun af w1 hM=>seg 1 0 [] f0 ?_;have hM:=hM.nl;have hM:=hM.nl;have hM:=hM.nl;refine drx [2,3,5] (fun γ=>[some (.map (some (bn (γ 0)))),some (vP (bn (γ 1)) 0),some (vP (bn (γ 2)) 0)]) _ (fun γ l=>[bk ae #[vL p0 os.length cp0] 24,bk af #[vI 5,vI 0,vI 1,vS [],vS [],vI 0,vL none 0 0,vS f,vI n,vI 0,vI 0,vS [],vS pr,vI m0] 43,(bif l.getD 0 false then mp Tryz.prog 9 (bn (γ 0)) 0 (fun _=>none) else aEc),(bif l.getD 1 false then pfE (aTg (bn (γ 1))) (γ.e 1) else aEc),(bif l.getD 2 false then bk (bn (γ 2)) #[vL p0 os.length cp0,vI 5,vI 0,vI 1,vS [],vS [],vI 0,vL none 0 0,vS f,vI n,vI 0,vI 0,vS [],vS pr,vI m0,.map (some (bn (γ 0))),vP (bn (γ 1)) 0] 136 else aEc)]) (fun γ=>[(5,vP (bn (γ 2)) 0)]) hM (fun γ=>rfl) (fun γ l w5 hM=>(fc (lam 24 0 0 1 hM rfl) (fc (lam 43 1 0 14 hM rfl) f0))) ⟨aS0 0 2 2 16 9,aNl 1 3 3 17 (f:=75) (fun γ=>#[]) aTg (fun γ fr wm hM=>aSd),aBY 2 5 4 19 (fun γ=>#[vL p0 os.length cp0,vI 5,vI 0,vI 1,vS [],vS [],vI 0,vL none 0 0,vS f,vI n,vI 0,vI 0,vS [],vS pr,vI m0,.map (some (bn (γ 0))),vP (bn (γ 1)) 0]) 136 (fun b=>vP b 0),trivial⟩ fun ah w1 hM=>?_;replace hM:Mm (fun _=>False) w w1 [bk ae #[vL p0 os.length cp0] 24,bk af #[vI 5,vI 0,vI 1,vS [],vS [],vI 0,vL none 0 0,vS f,vI n,vI 0,vI 0,vS [],vS pr,vI m0] 43,_,_,bk (bn (ah 2)) #[vL p0 os.length cp0,vI 5,vI 0,vI 1,vS [],vS [],vI 0,vL none 0 0,vS f,vI n,vI 0,vI 0,vS [],vS pr,vI m0,.map (some (bn (ah 0))),vP (bn (ah 1)) 0] 136]:=hM;obtain ⟨⟨mb,hge⟩,hM⟩:=hM.unpf (j:=3) rfl;rw [hge] at hM;obtain ⟨fb,hfb⟩:∃ z,z=(bn (ah 2)):=⟨_,rfl⟩;obtain ⟨bs,hbs⟩:∃ z,z=(bn (ah 0)):=⟨_,rfl⟩;obtain ⟨xi,hxi⟩:∃ z,z=(bn (ah 1)):=⟨_,rfl⟩;rw [←hxi,←hfb,←hbs] at hM;rw [←hfb];replace hM:Mm (fun _=>False) w _ [bk ae #[vL p0 os.length cp0] 24,bk af #[vI 5,vI 0,vI 1,vS [],vS [],vI 0,vL none 0 0,vS f,vI n,vI 0,vI 0,vS [],vS pr,vI m0] 43,_,_,bk fb #[vL p0 os.length cp0,vI 5,vI 0,vI 1,vS [],vS [],vI 0,vL none 0 0,vS f,vI n,vI 0,vI 0,vS [],vS pr,vI m0,.map (some bs),vP xi 0] 136]:=hM;refine seg 3 0 [(21,vL p0 os.length cp0),(22,vI (os.length:Int)),(23,vI 0)] (fc (ldm 22 0 0 hM rfl rfl) f0) ?_
  have a2:∀ (aq:Nat) (i:Nat) (ns:Nat) (ms:Value→Option Value) (pk:Bool) (nb:Nat) (mB:Bys→Option (Pt×Pt)) (w2:World),i≤os.length→Mm (fun _=>False) w w2 [bk ae #[vL p0 os.length cp0] 24,bk af #[vI 5,vI 0,vI 1,vS [],vS [],vI 0,vL none 0 0,vS f,vI n,vI 0,vI 0,vS [],vS pr,vI m0] 43,mp Tryz.prog 9 bs ns ms,ixG xi mb (.pointer none) pk nb mB,bk fb #[vL p0 os.length cp0,vI 5,vI 0,vI 1,vS [],vS [],vI 0,vL none 0 0,vS f,vI n,vI 0,vI 0,vS [],vS pr,vI m0,.map (some bs),vP xi 0] 136]→aq=os.length-i→aTN Φ (some (3,0)) [(23,vI (i:Int)),(22,vI (os.length:Int)),(21,vL p0 os.length cp0),(5,vP fb 0),(2,vP ae 0)] w2:=by
   refine aBh fun aq ar i ns ms pk nb mB w2 hi hM bb=>seg 3 1 [(24,vB (decide ((i:Int)<(os.length:Int))))] f0 ?_;cases au:(decide ((i:Int)<(os.length:Int)))
   ·have a3:=df au;exact rt1 4 (vP fb 0) rfl f0 (hΦ _ _ ⟨fb,_,_,rfl,hM.pick [4]⟩)
   have a3:=dt au;obtain ⟨y,hy,bc,bd,a4,a5⟩:=sp0.el (i:=i) (by omega);refine aBD 4 2 7 [(26,.agg #[vS y.o.id,vI y.o.kind,vI y.o.x,vI y.o.y,vL y.pr y.o.refs.length y.cr,vL y.pt y.o.tags.length y.ct])] [] 52 (.agg #[vS y.o.id,vI y.o.kind,vI y.o.x,vI y.o.y,vL y.pr y.o.refs.length y.cr,vL y.pt y.o.tags.length y.ct]) (fc (ix 22 cp0 a4 (gl hy)) (fc (la0 52 hM a5) f0)) hM fun ag w1 hM=>aB3 5 3 31 [(28,.agg #[vL p0 os.length cp0]),(30,vS y.o.id)] (K:=fun u Mn=>∃ v,u = .tuple #[v,vI (aAd (aAa os) y.o.id).1]∧Mn=[rw_ ptL 2 41 v (aAd (aAa os) y.o.id).2]) [0,1,2,3,4,5] [] (fc (lam 24 0 0 1 hM rfl) (fc (ldm 9 5 0 hM rfl rfl) f0)) hM rfl rfl (by decide) (fun hm=>((aH9 (hmv.fr hM.fr) hlen y.o.id).mono fun e w9 ⟨u,h1,h2⟩=>⟨_,_,h1,⟨u,rfl,rfl⟩,aEL h2 fun _ h=>h.elim⟩)) fun u Mn w1 hK hM=>?_;obtain ⟨v8,rfl,rfl⟩:=hK;obtain ⟨qp,cp9,e9,-⟩:=(hM.src (j:=6) rfl ptT.len).op;subst e9;have hpl:(vL qp (aAd (aAa os) y.o.id).2.length cp9)=_:=rfl;refine seg 6 2 [(8,vL qp (aAd (aAa os) y.o.id).2.length cp9),(35,vB (!((aAd (aAa os) y.o.id).1==0)))] f0 ?_;cases al:((aAd (aAa os) y.o.id).1==0)
   ·have a6:=ef al;refine seg 3 0 [(23,vI ((i:Int)+1))] (fc (aAh (i:Int) 1 u3_) f0) ?_;have hM:=hM.pick [0,1,2,3,4];exact aAb _ (ar _ (by have:=gl hy;omega) (i+1) ns ms pk nb mB _ (gl hy) hM rfl)
   have a6:=et al;have hlp:0<(aAd (aAa os) y.o.id).2.length:=aQs hvm (et al);have hpb:=aRL (s:=y.o.id) hvm;refine aAn 7 3 39 [(38,.agg #[vS y.o.id,vI y.o.kind,vI y.o.x,vI y.o.y,vL y.pr y.o.refs.length y.cr,vL y.pt y.o.tags.length y.ct,vL none 0 0,vL qp (aAd (aAa os) y.o.id).2.length cp9])] (cs:=#[vS y.o.id,vI y.o.kind,vI y.o.x,vI y.o.y,vL y.pr y.o.refs.length y.cr,vL y.pt y.o.tags.length y.ct,vL none 0 0,vL qp (aAd (aAa os) y.o.id).2.length cp9]) (T:=145) (v:=fun b=>vP b 0) (fc (lam 52 5 0 6 hM rfl) f0) hM fun ad w1 hM=>?_;have hM:=hM.row (f:=sgL) (c:=4) (E:=169);refine seg 9 0 [(10,vP ad 0),(40,vL qp (aAd (aAa os) y.o.id).2.length cp9),(41,vI ((aAd (aAa os) y.o.id).2.length:Int)),(42,vI 0)] f0 ?_
   have a7:∀ (av:Nat) (k:Nat) (vl:Value) (S:List (Pt×Pt)) (w2:World),k≤(aAd (aAa os) y.o.id).2.length→S.length≤k→Mm (fun _=>False) w w2 [bk ae #[vL p0 os.length cp0] 24,bk af #[vI 5,vI 0,vI 1,vS [],vS [],vI 0,vL none 0 0,vS f,vI n,vI 0,vI 0,vS [],vS pr,vI m0] 43,mp Tryz.prog 9 bs ns ms,ixG xi mb (.pointer none) pk nb mB,bk fb #[vL p0 os.length cp0,vI 5,vI 0,vI 1,vS [],vS [],vI 0,vL none 0 0,vS f,vI n,vI 0,vI 0,vS [],vS pr,vI m0,.map (some bs),vP xi 0] 136,bk ag #[vS y.o.id,vI y.o.kind,vI y.o.x,vI y.o.y,vL y.pr y.o.refs.length y.cr,vL y.pt y.o.tags.length y.ct] 52,rw_ ptL 2 41 (vL qp (aAd (aAa os) y.o.id).2.length cp9) ((aAd (aAa os) y.o.id).2),bk ad #[vS y.o.id,vI y.o.kind,vI y.o.x,vI y.o.y,vL y.pr y.o.refs.length y.cr,vL y.pt y.o.tags.length y.ct,vl,vL qp (aAd (aAa os) y.o.id).2.length cp9] 145,rw_ sgL 4 169 vl S]→av=(aAd (aAa os) y.o.id).2.length-k→aTN Φ (some (9,0)) [(42,vI (k:Int)),(41,vI ((aAd (aAa os) y.o.id).2.length:Int)),(40,vL qp (aAd (aAa os) y.o.id).2.length cp9),(10,vP ad 0),(8,vL qp (aAd (aAa os) y.o.id).2.length cp9),(7,vP ag 0),(23,vI (i:Int)),(22,vI (os.length:Int)),(21,vL p0 os.length cp0),(5,vP fb 0),(2,vP ae 0)] w2:=by
    refine aBh fun av am k vl S w2 hk hS hM be=>seg 9 1 [(43,vB (decide ((k:Int)<((aAd (aAa os) y.o.id).2.length:Int))))] f0 ?_;cases aw:(decide ((k:Int)<((aAd (aAa os) y.o.id).2.length:Int)))
    ·have a8:=df aw;refine seg 15 0 [] f0 (drx [7] (fun γ=>[none]) _ (fun γ l=>[bk ae #[vL p0 os.length cp0] 24,bk af #[vI 5,vI 0,vI 1,vS [],vS [],vI 0,vL none 0 0,vS f,vI n,vI 0,vI 0,vS [],vS pr,vI m0] 43,(bif l.getD 0 false then mp Tryz.prog 9 bs (ns+1) (upd ms (vS y.o.id) (vP ad 0)) else mp Tryz.prog 9 bs ns ms),ixG xi mb (.pointer none) pk nb mB,bk fb #[vL p0 os.length cp0,vI 5,vI 0,vI 1,vS [],vS [],vI 0,vL none 0 0,vS f,vI n,vI 0,vI 0,vS [],vS pr,vI m0,.map (some bs),vP xi 0] 136,bk ag #[vS y.o.id,vI y.o.kind,vI y.o.x,vI y.o.y,vL y.pr y.o.refs.length y.cr,vL y.pt y.o.tags.length y.ct] 52,rw_ ptL 2 41 (vL qp (aAd (aAa os) y.o.id).2.length cp9) ((aAd (aAa os) y.o.id).2),bk ad #[vS y.o.id,vI y.o.kind,vI y.o.x,vI y.o.y,vL y.pr y.o.refs.length y.cr,vL y.pt y.o.tags.length y.ct,vl,vL qp (aAd (aAa os) y.o.id).2.length cp9] 145,rw_ sgL 4 169 vl S]) (fun γ=>[]) hM (fun γ=>rfl) (fun γ l w5 hM=>(fc (ldm 133 4 15 hM rfl rfl) (fc (ldm 9 5 0 hM rfl rfl) f0))) ⟨aEm 0 7 133 2 (fun γ=>bs) ns ms (fun γ=>vS y.o.id) (fun γ=>vP ad 0) aDw Tryz.underlying133 (fun γ=>(aDx (hob _ (gm hy)).bnd.id)),trivial⟩ fun bf w1 hM=>?_);replace hM:Mm (fun _=>False) w w1 [bk ae #[vL p0 os.length cp0] 24,bk af #[vI 5,vI 0,vI 1,vS [],vS [],vI 0,vL none 0 0,vS f,vI n,vI 0,vI 0,vS [],vS pr,vI m0] 43,_,_,bk fb #[vL p0 os.length cp0,vI 5,vI 0,vI 1,vS [],vS [],vI 0,vL none 0 0,vS f,vI n,vI 0,vI 0,vS [],vS pr,vI m0,.map (some bs),vP xi 0] 136,bk ag #[vS y.o.id,vI y.o.kind,vI y.o.x,vI y.o.y,vL y.pr y.o.refs.length y.cr,vL y.pt y.o.tags.length y.ct] 52,_,bk ad #[vS y.o.id,vI y.o.kind,vI y.o.x,vI y.o.y,vL y.pr y.o.refs.length y.cr,vL y.pt y.o.tags.length y.ct,vl,vL qp (aAd (aAa os) y.o.id).2.length cp9] 145,_]:=hM;refine seg 16 0 [] f0 (drx [8] (fun γ=>[some ((γ 0))]) _ (fun γ l=>[bk ae #[vL p0 os.length cp0] 24,bk af #[vI 5,vI 0,vI 1,vS [],vS [],vI 0,vL none 0 0,vS f,vI n,vI 0,vI 0,vS [],vS pr,vI m0] 43,mp Tryz.prog 9 bs (ns+1) (upd ms (vS y.o.id) (vP ad 0)),(bif l.getD 0 false then pfE (aTa xi mb (γ 0)) (γ.e 0) else ixG xi mb (.pointer none) pk nb mB),bk fb #[vL p0 os.length cp0,vI 5,vI 0,vI 1,vS [],vS [],vI 0,vL none 0 0,vS f,vI n,vI 0,vI 0,vS [],vS pr,vI m0,.map (some bs),vP xi 0] 136,bk ag #[vS y.o.id,vI y.o.kind,vI y.o.x,vI y.o.y,vL y.pr y.o.refs.length y.cr,vL y.pt y.o.tags.length y.ct] 52,rw_ ptL 2 41 (vL qp (aAd (aAa os) y.o.id).2.length cp9) ((aAd (aAa os) y.o.id).2),bk ad #[vS y.o.id,vI y.o.kind,vI y.o.x,vI y.o.y,vL y.pr y.o.refs.length y.cr,vL y.pt y.o.tags.length y.ct,vl,vL qp (aAd (aAa os) y.o.id).2.length cp9] 145,rw_ sgL 4 169 vl S]) (fun γ=>[]) hM (fun γ=>rfl) (fun γ l w5 hM=>(fc (ldm 134 4 16 hM rfl rfl) (fc (ldm 9 5 0 hM rfl rfl) (fc (tcl (aIc ((hM.src (j:=6) rfl ptT.len).p).2 hlp)) f0)))) ⟨aRe 0 8 3 90 (f:=77) (fun γ=>#[vP xi 0,vS y.o.id,.agg #[vI (aDE (aAd (aAa os) y.o.id).2).1.1,vI (aDE (aAd (aAa os) y.o.id).2).1.2,vI (aDE (aAd (aAa os) y.o.id).2).2.1,vI (aDE (aAd (aAa os) y.o.id).2).2.2]]) (fun γ=>ixG xi mb (.pointer none) pk nb mB) (aTa xi mb) (fun γ fr wm hM hm=>aSc hm (hob _ (gm hy)).bnd.id (aDE (aAd (aAa os) y.o.id).2)),trivial⟩ fun bg w1 hM=>?_);replace hM:Mm (fun _=>False) w w1 [bk ae #[vL p0 os.length cp0] 24,bk af #[vI 5,vI 0,vI 1,vS [],vS [],vI 0,vL none 0 0,vS f,vI n,vI 0,vI 0,vS [],vS pr,vI m0] 43,_,_,bk fb #[vL p0 os.length cp0,vI 5,vI 0,vI 1,vS [],vS [],vI 0,vL none 0 0,vS f,vI n,vI 0,vI 0,vS [],vS pr,vI m0,.map (some bs),vP xi 0] 136,bk ag #[vS y.o.id,vI y.o.kind,vI y.o.x,vI y.o.y,vL y.pr y.o.refs.length y.cr,vL y.pt y.o.tags.length y.ct] 52,_,bk ad #[vS y.o.id,vI y.o.kind,vI y.o.x,vI y.o.y,vL y.pr y.o.refs.length y.cr,vL y.pt y.o.tags.length y.ct,vl,vL qp (aAd (aAa os) y.o.id).2.length cp9] 145,_]:=hM;refine seg 3 0 [(23,vI ((i:Int)+1))] (fc (aAh (i:Int) 1 u3_) f0) ?_;have hM:=hM.pick [0,1,2,3,4];obtain ⟨⟨c9,n9,m9,pk9,hc9,hge9⟩,hM⟩:=hM.unpf (j:=3) rfl;rw [hge9] at hM;exact aAb _ (ar _ (by have:=gl hy;omega) (i+1) (ns+1) (upd ms (vS y.o.id) (vP ad 0)) pk9 n9 m9 _ (gl hy) hM rfl)
    have a8:=dt aw;obtain ⟨aa,an⟩:=geb (l:=((aAd (aAa os) y.o.id).2)) (i:=k) (by omega);obtain ⟨bh,ax,-⟩:=hM.el ptT (j:=6) rfl an;refine aAn 10 3 12 [(44,vI (k:Int)),(46,.agg #[vI aa.1,vI aa.2])] (cs:=#[vI 0,vI 0]) (T:=41) (v:=fun b=>vP b 0) (fc (ix 143 cp9 ax (gl an)) (fc (lar 41 6 0 2 ptT hM rfl ax an) f0)) hM fun ak w1 hM=>stm 10 5 [(11,vI (k:Int))] 41 9 0 (.agg #[vI aa.1,vI aa.2]) f0 hM rfl fun w1 hM=>seg 12 3 [(13,vI (((k:Int)+1)%((aAd (aAa os) y.o.id).2.length:Int))),(54,vB (decide (0<(((k:Int)+1)%((aAd (aAa os) y.o.id).2.length:Int)))))] (fc (aAh (k:Int) 1 u3_) (fc (aNr ((k:Int)+1) ((aAd (aAa os) y.o.id).2.length:Int) u3_) f0)) ?_;cases ay:(decide (0<(((k:Int)+1)%((aAd (aAa os) y.o.id).2.length:Int))))
    rotate_left
    ·have a9:=dt ay;have hnx:(k+1)%(aAd (aAa os) y.o.id).2.length<(aAd (aAa os) y.o.id).2.length:=Nat.mod_lt _ hlp;refine seg 13 0 [] f0 ?_;obtain ⟨ab,ao⟩:=geb (l:=((aAd (aAa os) y.o.id).2)) (i:=((k+1)%(aAd (aAa os) y.o.id).2.length)) (by omega);obtain ⟨bi,az,-⟩:=hM.el ptT (j:=6) rfl ao;have hM:=hM.nl;refine drx [4,11,12,15] (fun γ=>[some (vl),some (vL (some ⟨(bn (γ 1)),0,none⟩) 1 1),some (vL (slp (γ 2)) (S++[(((aa.1,aa.2),(ab.1,ab.2)):Pt×Pt)]).length (slc (γ 2))),none]) _ (fun γ l=>[bk ae #[vL p0 os.length cp0] 24,bk af #[vI 5,vI 0,vI 1,vS [],vS [],vI 0,vL none 0 0,vS f,vI n,vI 0,vI 0,vS [],vS pr,vI m0] 43,mp Tryz.prog 9 bs ns ms,ixG xi mb (.pointer none) pk nb mB,bk fb #[vL p0 os.length cp0,vI 5,vI 0,vI 1,vS [],vS [],vI 0,vL none 0 0,vS f,vI n,vI 0,vI 0,vS [],vS pr,vI m0,.map (some bs),vP xi 0] 136,bk ag #[vS y.o.id,vI y.o.kind,vI y.o.x,vI y.o.y,vL y.pr y.o.refs.length y.cr,vL y.pt y.o.tags.length y.ct] 52,rw_ ptL 2 41 (vL qp (aAd (aAa os) y.o.id).2.length cp9) ((aAd (aAa os) y.o.id).2),bk ad #[vS y.o.id,vI y.o.kind,vI y.o.x,vI y.o.y,vL y.pr y.o.refs.length y.cr,vL y.pt y.o.tags.length y.ct,(bif l.getD 3 false then vL (slp (γ 2)) (S++[(((aa.1,aa.2),(ab.1,ab.2)):Pt×Pt)]).length (slc (γ 2)) else vl),vL qp (aAd (aAa os) y.o.id).2.length cp9] 145,(bif l.getD 2 false then rw_ sgL 4 169 (vL (slp (γ 2)) (S++[(((aa.1,aa.2),(ab.1,ab.2)):Pt×Pt)]).length (slc (γ 2))) (S++[(((aa.1,aa.2),(ab.1,ab.2)):Pt×Pt)]) else rw_ sgL 4 169 vl S),bk ak #[vI aa.1,vI aa.2] 41,(bif l.getD 1 false then bk (bn (γ 1)) #[vI aa.1,vI aa.2,vI ab.1,vI ab.2] 169 else aEc)]) (fun γ=>[]) hM (fun γ=>rfl) (fun γ l w5 hM=>(fc (lam 41 9 0 2 hM rfl) (fc (ix 143 cp9 az (gl ao) (z:=(((k:Int)+1)%((aAd (aAa os) y.o.id).2.length:Int))) (hz:=(by rw [Int.natCast_emod];rfl))) (fc (lar 41 6 0 2 ptT hM rfl az ao) f0)))) ⟨aHb 0 4 142 7 6 63 (fun γ=>ad) (fun γ l=>#[vS y.o.id,vI y.o.kind,vI y.o.x,vI y.o.y,vL y.pr y.o.refs.length y.cr,vL y.pt y.o.tags.length y.ct,(bif l.getD 3 false then vL (slp (γ 2)) (S++[(((aa.1,aa.2),(ab.1,ab.2)):Pt×Pt)]).length (slc (γ 2)) else vl),vL qp (aAd (aAa os) y.o.id).2.length cp9]) 145 (fun γ=>vl),aBY 1 11 10 70 (fun γ=>#[vI aa.1,vI aa.2,vI ab.1,vI ab.2]) 169 (fun b=>vL (some ⟨b,0,none⟩) 1 1),aE7 2 12 8 71 142 169 0 (fun γ=>vl) S [(((aa.1,aa.2),(ab.1,ab.2)):Pt×Pt)] (fun γ=>(bn (γ 1))) 1 sgT (by simp only [List.length_cons,List.length_nil];omega) (fun γ fr wm hM=>aAE (f:=sgL) (x:=(((aa.1,aa.2),(ab.1,ab.2)):Pt×Pt)) (hM.get 10 (e:=bk ((bn (γ 1))) (sgL (((aa.1,aa.2),(ab.1,ab.2)):Pt×Pt)).toArray 169) (by kernel_rfl)) (Nat.lt_succ_self _)),aA6 3 15 142 7 6 (fun γ=>ad) (fun γ l=>#[vS y.o.id,vI y.o.kind,vI y.o.x,vI y.o.y,vL y.pr y.o.refs.length y.cr,vL y.pt y.o.tags.length y.ct,(bif l.getD 3 false then vL (slp (γ 2)) (S++[(((aa.1,aa.2),(ab.1,ab.2)):Pt×Pt)]).length (slc (γ 2)) else vl),vL qp (aAd (aAa os) y.o.id).2.length cp9]) 145 (fun γ=>vL (slp (γ 2)) (S++[(((aa.1,aa.2),(ab.1,ab.2)):Pt×Pt)]).length (slc (γ 2))),trivial⟩ fun ai w1 hM=>?_;replace hM:Mm (fun _=>False) w w1 [bk ae #[vL p0 os.length cp0] 24,bk af #[vI 5,vI 0,vI 1,vS [],vS [],vI 0,vL none 0 0,vS f,vI n,vI 0,vI 0,vS [],vS pr,vI m0] 43,_,_,bk fb #[vL p0 os.length cp0,vI 5,vI 0,vI 1,vS [],vS [],vI 0,vL none 0 0,vS f,vI n,vI 0,vI 0,vS [],vS pr,vI m0,.map (some bs),vP xi 0] 136,bk ag #[vS y.o.id,vI y.o.kind,vI y.o.x,vI y.o.y,vL y.pr y.o.refs.length y.cr,vL y.pt y.o.tags.length y.ct] 52,_,bk ad #[vS y.o.id,vI y.o.kind,vI y.o.x,vI y.o.y,vL y.pr y.o.refs.length y.cr,vL y.pt y.o.tags.length y.ct,vL (slp (ai 2)) (S++[(((aa.1,aa.2),(ab.1,ab.2)):Pt×Pt)]).length (slc (ai 2)),vL qp (aAd (aAa os) y.o.id).2.length cp9] 145,_,bk ak #[vI aa.1,vI aa.2] 41,bk (bn (ai 1)) #[vI aa.1,vI aa.2,vI ab.1,vI ab.2] 169]:=hM;refine seg 9 0 [(42,vI ((k:Int)+1))] (fc (aAh (k:Int) 1 u3_) f0) ?_;have hM:=hM.pick [0,1,2,3,4,5,6,7,8];exact aAb _ (am _ (by omega) (k+1) (vL (slp (ai 2)) (S++[(((aa.1,aa.2),(ab.1,ab.2)):Pt×Pt)]).length (slc (ai 2))) (S++[(((aa.1,aa.2),(ab.1,ab.2)):Pt×Pt)]) _ (by omega) (by simp only [List.length_append,List.length_cons,List.length_nil];omega) hM rfl)
    have a9:=df ay;refine seg 12 7 [(58,vB (!(y.o.kind==2)))] (fc (ldm 3 5 1 hM rfl rfl) f0) ?_;cases a0:(y.o.kind==2)
    rotate_left
    ·have ba:=et a0;refine seg 9 0 [(42,vI ((k:Int)+1))] (fc (aAh (k:Int) 1 u3_) f0) ?_;have hM:=hM.pick [0,1,2,3,4,5,6,7,8];exact aAb _ (am _ (by omega) (k+1) vl S _ (by omega) (by omega) hM rfl)
    have ba:=ef a0;have hnx:(k+1)%(aAd (aAa os) y.o.id).2.length<(aAd (aAa os) y.o.id).2.length:=Nat.mod_lt _ hlp;refine seg 13 0 [] f0 ?_;obtain ⟨ac,ap⟩:=geb (l:=((aAd (aAa os) y.o.id).2)) (i:=((k+1)%(aAd (aAa os) y.o.id).2.length)) (by omega);obtain ⟨bj,a1,-⟩:=hM.el ptT (j:=6) rfl ap;have hM:=hM.nl;refine drx [4,11,12,15] (fun γ=>[some (vl),some (vL (some ⟨(bn (γ 1)),0,none⟩) 1 1),some (vL (slp (γ 2)) (S++[(((aa.1,aa.2),(ac.1,ac.2)):Pt×Pt)]).length (slc (γ 2))),none]) _ (fun γ l=>[bk ae #[vL p0 os.length cp0] 24,bk af #[vI 5,vI 0,vI 1,vS [],vS [],vI 0,vL none 0 0,vS f,vI n,vI 0,vI 0,vS [],vS pr,vI m0] 43,mp Tryz.prog 9 bs ns ms,ixG xi mb (.pointer none) pk nb mB,bk fb #[vL p0 os.length cp0,vI 5,vI 0,vI 1,vS [],vS [],vI 0,vL none 0 0,vS f,vI n,vI 0,vI 0,vS [],vS pr,vI m0,.map (some bs),vP xi 0] 136,bk ag #[vS y.o.id,vI y.o.kind,vI y.o.x,vI y.o.y,vL y.pr y.o.refs.length y.cr,vL y.pt y.o.tags.length y.ct] 52,rw_ ptL 2 41 (vL qp (aAd (aAa os) y.o.id).2.length cp9) ((aAd (aAa os) y.o.id).2),bk ad #[vS y.o.id,vI y.o.kind,vI y.o.x,vI y.o.y,vL y.pr y.o.refs.length y.cr,vL y.pt y.o.tags.length y.ct,(bif l.getD 3 false then vL (slp (γ 2)) (S++[(((aa.1,aa.2),(ac.1,ac.2)):Pt×Pt)]).length (slc (γ 2)) else vl),vL qp (aAd (aAa os) y.o.id).2.length cp9] 145,(bif l.getD 2 false then rw_ sgL 4 169 (vL (slp (γ 2)) (S++[(((aa.1,aa.2),(ac.1,ac.2)):Pt×Pt)]).length (slc (γ 2))) (S++[(((aa.1,aa.2),(ac.1,ac.2)):Pt×Pt)]) else rw_ sgL 4 169 vl S),bk ak #[vI aa.1,vI aa.2] 41,(bif l.getD 1 false then bk (bn (γ 1)) #[vI aa.1,vI aa.2,vI ac.1,vI ac.2] 169 else aEc)]) (fun γ=>[]) hM (fun γ=>rfl) (fun γ l w5 hM=>(fc (lam 41 9 0 2 hM rfl) (fc (ix 143 cp9 a1 (gl ap) (z:=(((k:Int)+1)%((aAd (aAa os) y.o.id).2.length:Int))) (hz:=(by rw [Int.natCast_emod];rfl))) (fc (lar 41 6 0 2 ptT hM rfl a1 ap) f0)))) ⟨aHb 0 4 142 7 6 63 (fun γ=>ad) (fun γ l=>#[vS y.o.id,vI y.o.kind,vI y.o.x,vI y.o.y,vL y.pr y.o.refs.length y.cr,vL y.pt y.o.tags.length y.ct,(bif l.getD 3 false then vL (slp (γ 2)) (S++[(((aa.1,aa.2),(ac.1,ac.2)):Pt×Pt)]).length (slc (γ 2)) else vl),vL qp (aAd (aAa os) y.o.id).2.length cp9]) 145 (fun γ=>vl),aBY 1 11 10 70 (fun γ=>#[vI aa.1,vI aa.2,vI ac.1,vI ac.2]) 169 (fun b=>vL (some ⟨b,0,none⟩) 1 1),aE7 2 12 8 71 142 169 0 (fun γ=>vl) S [(((aa.1,aa.2),(ac.1,ac.2)):Pt×Pt)] (fun γ=>(bn (γ 1))) 1 sgT (by simp only [List.length_cons,List.length_nil];omega) (fun γ fr wm hM=>aAE (f:=sgL) (x:=(((aa.1,aa.2),(ac.1,ac.2)):Pt×Pt)) (hM.get 10 (e:=bk ((bn (γ 1))) (sgL (((aa.1,aa.2),(ac.1,ac.2)):Pt×Pt)).toArray 169) (by kernel_rfl)) (Nat.lt_succ_self _)),aA6 3 15 142 7 6 (fun γ=>ad) (fun γ l=>#[vS y.o.id,vI y.o.kind,vI y.o.x,vI y.o.y,vL y.pr y.o.refs.length y.cr,vL y.pt y.o.tags.length y.ct,(bif l.getD 3 false then vL (slp (γ 2)) (S++[(((aa.1,aa.2),(ac.1,ac.2)):Pt×Pt)]).length (slc (γ 2)) else vl),vL qp (aAd (aAa os) y.o.id).2.length cp9]) 145 (fun γ=>vL (slp (γ 2)) (S++[(((aa.1,aa.2),(ac.1,ac.2)):Pt×Pt)]).length (slc (γ 2))),trivial⟩ fun aj w1 hM=>?_;replace hM:Mm (fun _=>False) w w1 [bk ae #[vL p0 os.length cp0] 24,bk af #[vI 5,vI 0,vI 1,vS [],vS [],vI 0,vL none 0 0,vS f,vI n,vI 0,vI 0,vS [],vS pr,vI m0] 43,_,_,bk fb #[vL p0 os.length cp0,vI 5,vI 0,vI 1,vS [],vS [],vI 0,vL none 0 0,vS f,vI n,vI 0,vI 0,vS [],vS pr,vI m0,.map (some bs),vP xi 0] 136,bk ag #[vS y.o.id,vI y.o.kind,vI y.o.x,vI y.o.y,vL y.pr y.o.refs.length y.cr,vL y.pt y.o.tags.length y.ct] 52,_,bk ad #[vS y.o.id,vI y.o.kind,vI y.o.x,vI y.o.y,vL y.pr y.o.refs.length y.cr,vL y.pt y.o.tags.length y.ct,vL (slp (aj 2)) (S++[(((aa.1,aa.2),(ac.1,ac.2)):Pt×Pt)]).length (slc (aj 2)),vL qp (aAd (aAa os) y.o.id).2.length cp9] 145,_,bk ak #[vI aa.1,vI aa.2] 41,bk (bn (aj 1)) #[vI aa.1,vI aa.2,vI ac.1,vI ac.2] 169]:=hM;refine seg 9 0 [(42,vI ((k:Int)+1))] (fc (aAh (k:Int) 1 u3_) f0) ?_;have hM:=hM.pick [0,1,2,3,4,5,6,7,8];exact aAb _ (am _ (by omega) (k+1) (vL (slp (aj 2)) (S++[(((aa.1,aa.2),(ac.1,ac.2)):Pt×Pt)]).length (slc (aj 2))) (S++[(((aa.1,aa.2),(ac.1,ac.2)):Pt×Pt)]) _ (by omega) (by simp only [List.length_append,List.length_cons,List.length_nil];omega) hM rfl)
   exact aAb _ (a7 _ 0 (vL none 0 0) [] _ (Nat.zero_le _) (Nat.le_refl _) hM rfl)
  exact aAb _ (a2 _ 0 0 (fun _=>none) false 0 (fun _=>none) _ (Nat.zero_le _) hM rfl)
abbrev aT0 (Φ:Ending→World→Prop):=AtO Tryz.prog (aAr Tryz.f120) (aA2 (bodyPost Tryz.prog Tryz.f120 Φ)) [] 19
theorem aK8 {w:World}{B:Nat}{p:Option Addr}{cap:Nat}{L:List (Bys×Int)}{f:FuncId}{caps:Array Value}{G:Nat→Prop}(hs:SrcB rwL 2 w B p cap L) (hG:∀ k,G k→B≤k) (eg:aEM Tryz.prog f) (I:Nat→World→Prop) (q:Nat→Bool) (h0:I 0 w) (step:∀ i x w1,L[i]?=some x→(∀ j,j<i→q j=false)→I i w1→Fr G w w1→Calls Tryz.prog f (#[vA (rwL x)]++caps) w1 fun e w2=>e = .returned (vB (q i))∧I (i+1) w2∧Fr G w1 w2):Calls Tryz.prog 120 #[vL p L.length cap,.func (.func f) #[] caps] w fun e w'=>(∃ z,e = .returned (vI z)∧Fst L q I w' z)∧Fr G w w':=by
  have bb:=hs.bnd;refine beg Tryz.func120 rfl rfl [(0,vL p L.length cap),(1,.func (.func f) #[] caps)] rfl rfl fun Φ hΦ=>?_;have hM:=Mm.nil G w;refine seg 2 0 [(7,vI (L.length:Int)),(8,vI 0)] f0 ?_
  have af:∀ (ac:Nat) (i:Nat) (w2:World),i≤L.length→(∀ j,j<i→q j=false)→I i w2→Mm G w w2 []→ac=L.length-i→aT0 Φ (some (2,0)) [(8,vI (i:Int)),(7,vI (L.length:Int)),(0,vL p L.length cap),(1,.func (.func f) #[] caps)] w2:=by
   refine aBh fun ac ag i w2 hi hq hI hM ak=>seg 2 1 [(9,vB (decide ((i:Int)<(L.length:Int))))] f0 ?_;cases ad:(decide ((i:Int)<(L.length:Int)))
   ·have ah:=df ad;exact rt1 4 (vI (-1)) rfl f0 (hΦ _ _ ⟨⟨_,rfl,.end_ (by omega) hq hI⟩,hM.fr⟩)
   have ah:=dt ad;obtain ⟨ab,aa,al,am,ai,aj,n124⟩:=(hs).eb hG (i:=i) (by omega);refine aSu 4 5 16 [(5,vI (i:Int)),(11,.func (.func f) #[] caps),(15,.agg #[vS ab.1,vI ab.2])] #[90] (K:=fun u w9=>u=vB (q i)∧I (i+1) w9∧Fr G w2 w9) (by decide) (fc (ix 44 cap ai (gl aa)) (fc (la0 90 hM aj n124) f0)) eg ((step i ab _ aa hq hI hM.fr).mono fun e w9 h=>⟨_,h.1,rfl,h.2⟩) fun u w1 ⟨hu,hI,f1⟩=>?_;subst hu;have hM:=hM.g f1;cases ae:(q i)
   ·refine seg 2 0 [(8,vI ((i:Int)+1))] (fc (aAh (i:Int) 1 u3_) f0) (aAb _ (ag _ (by omega) (i+1) _ (gl aa) (fun j hj=>by rcases Nat.lt_succ_iff_lt_or_eq.1 hj with h | h;exact hq j h;rw [h];exact ae) hI hM rfl))
   exact rt1 4 (vI (i:Int)) rfl f0 (hΦ _ _ ⟨⟨_,rfl,.some i (gl aa) ae hq hI⟩,hM.fr⟩)
  exact aAb _ (af _ 0 _ (Nat.zero_le _) (fun _ h=>absurd h (Nat.not_lt_zero _)) h0 hM rfl)
theorem aSh {α:Type}{L:List α}{I:Nat→World→Prop}{w:World}{z:Int}(h:Fst L (fun _=>false) I w z):z = -1:=by
  cases h with
  | none _ _=>rfl
  | some i _ h _ _=>cases h
theorem aMP {w:World}{B:Nat}{p:Option Addr}{cap:Nat}{L:List (Bys×Int)}{f:FuncId}{caps:Array Value}{G:Nat→Prop}(hs:SrcB rwL 2 w B p cap L) (hG:∀ k,G k→B≤k) (eg:aEM Tryz.prog f) (step:∀ (i:Nat) x w1,L[i]?=some x→Fr G w w1→Calls Tryz.prog f (#[vA (rwL x)]++caps) w1 fun e w2=>e = .returned (vB false)∧Fr G w1 w2):Calls Tryz.prog 71 #[vL p L.length cap,.func (.func f) #[] caps] w fun e w'=>e = .returned (vL p L.length cap)∧Fr G w w':=by
  refine beg Tryz.func71 rfl rfl [(0,vL p L.length cap),(1,.func (.func f) #[] caps)] rfl rfl fun Φ hΦ=>?_;have hM:=Mm.nil G w;refine cal 1 2 10 [(8,vL p L.length cap),(9,.func (.func f) #[] caps)] (K:=fun u w8=>u=vI (-1)∧Fr G w w8) f0 ((aK8 hs hG eg (fun _ _=>True) (fun _=>false) trivial fun i x w1 hx _ _ f=>(step i x w1 hx f).mono fun e w2 h=>⟨h.1,trivial,h.2⟩).mono fun e w9 h=>⟨_,h.1.choose_spec.1,by rw [aSh h.1.choose_spec.2],h.2⟩) fun u w1 ⟨hu,f1⟩=>?_;subst hu;have hM:=hM.g f1;exact rt1 4 (vL p L.length cap) rfl f0 (hΦ _ _ ⟨rfl,hM.fr⟩)
theorem aSU (p:Option Addr) (n c:Nat) {w:World}:Ft.ok Tryz.prog w (.g2 (fun x y => .binOp .eql 44 x y 44) (vL p n c) (vL none 0 0) (vB p.isNone)):=fun o ρ x y ho hx hy=>by
  have:=Lib.run_eql_slice_nil (P:=Tryz.prog) w 44 90 p n c 0 0 Tryz.underlying44;simp only [execOp,ho,hx,hy,go_sem] at this ⊢;simp [this,Result.andThen]
theorem aHU {w:World}{p:Option Addr}{cap:Nat}{L:List (Bys×Int)}(hs:SrcP rwL 2 w p cap L) (hl:L.length≤1500000000):Calls Tryz.prog 72 #[vL p L.length cap] w fun e w'=>∃ u,e = .returned u∧Mm (fun _=>False) w w' [rw_ rwL 2 90 u L]:=by
  have bb:=hs.bnd;refine beg Tryz.func72 rfl rfl [(0,vL p L.length cap)] rfl rfl fun Φ hΦ=>?_;have hM:=Mm.nil (fun _=>False) w;refine seg 1 2 [(4,vB p.isNone)] (fc (aSU p L.length cap) f0) ?_
  cases aa:p.isNone with
  | false =>
   refine aAn 3 0 5 [] (cs:=#[]) (T:=90) (v:=fun b=>vL (some ⟨b,0,none⟩) 0 0) f0 hM fun ae w1 hM=>?_;have hM:=aGP hM (f:=rwL) (c:=2) (j:=0) rfl [] 0 rfl rfl rfl;refine aKP 3 2 7 [(6,vL p L.length cap)] (cap:=cap) (by decide) rwT f0 hM (j:=0) rfl (hs.fr hM.fr).at_ hs.nil (by simp only [List.length_nil];omega) fun af w1 hM=>?_;obtain ⟨ab,ac,ad,-⟩:=(hM.src (j:=0) rfl rwT.len).op;subst ad;exact rt1 2 (vL ab ([]++L).length ac) rfl f0 (hΦ _ _ ⟨_,rfl,hM.pick [0]⟩)
  | true =>
   have hp:p=none:=by simpa using aa
   have hL:L=[]:=List.eq_nil_of_length_eq_zero (by have:=hs.le;have:=hs.nil hp;omega);exact rt1 2 (vL none 0 0) rfl f0 (hΦ _ _ ⟨_,rfl,by rw [hL];exact (hM.pick (M':=[]) []).row⟩)
def aJ0 (prof:Bys) (l:List Ob) (f:Bys) (wi m0:Int) (v:Value) (c:Int) (e:Ent):Prop:=∃ rows,aEp prof l f wi m0 c rows∧e=rw_ rwL 2 90 v rows
theorem aLO (l:List Ob) (u:Bys→Option Int):(aDW l u).length≤l.length:=by
  induction l with
  | nil=>exact Nat.le_refl _
  | cons o l ih =>
    have e:aDW (o::l) u=(bif (u o.id).isSome&&(o.kind==1) then [(o.id,(u o.id).getD 0)] else [])++aDW l u:=rfl;rw [e,List.length_append,List.length_cons];cases (u o.id).isSome&&(o.kind==1)<;>simp<;>omega
theorem aGb {prof:Bys}{l:List Ob}{f:Bys}{wi m0 c:Int}{rows:List (Bys×Int)}(h:aEp prof l f wi m0 c rows):rows.length≤l.length:=by
  rcases h with ⟨_,_,rfl⟩ | ⟨_,_,_,rfl⟩ | ⟨_,_,_,t,u,_,_,rfl⟩
  · exact Nat.zero_le _
  · exact Nat.zero_le _
  · exact aLO l u
theorem aLT {prof:Bys}{l:List Ob}{f:Bys}{wi m0 c:Int}{rows:List (Bys×Int)}(h:aEp prof l f wi m0 c rows):∀ r∈rows,¬ aAi l r.1<0:=by
  intro r hr hn;rcases h with ⟨_,_,rfl⟩ | ⟨_,_,_,rfl⟩ | ⟨_,hc,_,t,u,_,_,rfl⟩
  · cases hr
  · cases hr
  · obtain ⟨o,ho,_,_,h3⟩:=aCT.1 hr
    rw [h3] at hn;exact (aDr (aB4 (aDi hc).1) ho).1 hn
theorem aGc {prof:Bys}{l:List Ob}{f:Bys}{wi m0 c:Int}{rows:List (Bys×Int)}(h:aEp prof l f wi m0 c rows) (hc:¬ c=0):rows=[]:=by
  rcases h with ⟨_,_,h⟩ | ⟨_,_,_,h⟩ | ⟨_,_,h,_⟩
  · exact h
  · exact h
  · exact absurd h hc
theorem aH7 {w:World}{fb:Nat}{p0:Option Addr}{cp0:Nat}{os:List ObR}(hm:aDy w (vL p0 os.length cp0) os) {f pr:Bys}(hp:pr.length≤9223372036854775807) (hf:B63 f) (hlen:aAe (aAa os)=true→(aAm os).length≤500) (hol:os.length≤1000000) (hTe:Te w) {n m0:Int}{v1 v2:Value}(hfb:w.heap[fb]?=some (.cells #[vL p0 os.length cp0,vI 5,vI 0,vI 1,vS [],vS [],vI 0,vL none 0 0,vS f,vI n,vI 0,vI 0,vS [],vS pr,vI m0,v1,v2] 136 (0,0))):Calls Tryz.prog 28 #[vP fb 0] w fun e w'=>∃ u c rows,e = .returned (.tuple #[u,vI c])∧aEp pr (aAa os) f n m0 c rows∧Mm (fun _=>False) w w' [rw_ rwL 2 90 u rows]:=by
  have hm0:=hm;obtain ⟨hs0,hob⟩:=hm0;refine beg Tryz.func28 rfl rfl [(0,vP fb 0)] rfl rfl fun Φ hΦ=>?_;have hM:=Mm.nil (fun _=>False) w;refine aAn 0 0 1 [] (cs:=#[vP fb 0]) (T:=86) (v:=fun b=>vP b 0) f0 hM fun aa w1 hM=>seg 1 0 [] f0 ?_;have hM:=hM.nl;refine drx [24] (fun γ=>[some (.tuple #[(tp0 (γ 0)),vI (tp1 (γ 0))])]) _ (fun γ l=>[bk aa #[vP fb 0] 86,(bif l.getD 0 false then pfE (aJ0 pr (aAa os) f n m0 (tp0 (γ 0)) (tp1 (γ 0))) (γ.e 0) else aEc)]) (fun γ=>[(4,(tp0 (γ 0))),(5,vI (tp1 (γ 0)))]) hM (fun γ=>rfl) (fun γ l w5 hM=>(fc (ldm 86 0 0 hM rfl rfl) (fc (la0 24 hM (rs (aGC hfb) 0 1)) (fc (ldm 86 0 0 hM rfl rfl) (fc (ld0 9 hM (bx hfb 13 rfl)) (fc (ldm 86 0 0 hM rfl rfl) (fc (ld0 9 hM (bx hfb 8 rfl)) (fc (ldm 86 0 0 hM rfl rfl) (fc (ld0 3 hM (bx hfb 9 rfl)) (fc (ldm 86 0 0 hM rfl rfl) (fc (ld0 3 hM (bx hfb 14 rfl)) f0))))))))))) ⟨aNk 0 24 1 31 (f:=70) (fun γ=>#[.agg #[vL p0 os.length cp0],vS pr,vS f,vI n,vI m0]) (aJ0 pr (aAa os) f n m0) (fun γ fr wm hM=>(aI6 (hm.fr hM.fr) hp hf hlen hol (hTe.fr hM.fr) n m0).mono fun e w9 ⟨v1,c,rows,h1,h2,h3⟩=>⟨v1,c,_,h1,⟨rows,aOp h2,rfl⟩,h3⟩),trivial⟩ fun ac w1 hM=>?_;replace hM:Mm (fun _=>False) w w1 [bk aa #[vP fb 0] 86,_]:=hM;obtain ⟨⟨rows,hR,hge⟩,hM⟩:=hM.unpf (j:=1) rfl;rw [hge] at hM;obtain ⟨v1,hv1⟩:∃ z,z=tp0 (ac 0):=⟨_,rfl⟩;obtain ⟨c,hc⟩:∃ z,z=tp1 (ac 0):=⟨_,rfl⟩;rw [←hv1] at hM;rw [←hc] at hR;rw [←hv1,←hc];replace hM:Mm (fun _=>False) w _ [bk aa #[vP fb 0] 86,_]:=hM;obtain ⟨qa,ca,e9,-⟩:=(hM.src (j:=1) rfl rwT.len).op;subst e9;refine seg 2 2 [(35,vB (!(c==0)))] f0 ?_;cases ab:(c==0)
  ·have ad:=ef ab;exact rt2 2 3 (vL none 0 0) (vI c) rfl rfl f0 (hΦ _ _ ⟨_,c,rows,rfl,hR,by rw [aGc hR (ef ab)];exact (hM.pick (M':=[]) []).row⟩)
  have ad:=et ab;refine aB3 4 1 38 [(37,vL qa rows.length ca)] (K:=fun u Mn=>Mn=[rw_ rwL 2 90 u rows]) [0,1] [] f0 hM rfl rfl (by decide) (fun hm=>((aHU ((hM.src (j:=1) rfl rwT.len).p).2 (by have:=aGb hR;rw [aA3] at this;omega)).mono fun e w9 ⟨u,h1,h2⟩=>⟨_,_,h1,rfl,aEL h2 fun _ h=>h.elim⟩)) fun u Mn w1 hK hM=>?_;obtain rfl:=hK;obtain ⟨qb,cb,e9,-⟩:=(hM.src (j:=2) rfl rwT.len).op;subst e9;refine aAq 4 3 40 [(39,.func (.func 73) #[] #[vP aa 0])] f0 hM ((aMP (caps:=#[vP aa 0]) (((hM.src (j:=2) rfl rwT.len).p).2.b (Fr.refl _ _)) (G:=fun _=>False) (fun _ h=>h.elim) (enters_of Tryz.func73 (by kernel_rfl) rfl) fun i x w9 hx f9=>(aH8 (hm.fr (hM.fr.trans' f9 fun _ _ h=>h)) ((hM.fr.trans' f9 fun _ _ h=>h).obj hfb (fun h=>h)) ((hM.q f9).get 0 rfl) x.1 x.2).mono fun e w10 h=>⟨by rw [h.1,decide_eq_false (aLT hR x (gm hx))],h.2⟩).mono fun e w9 h=>⟨h.1,h.2⟩) fun w1 hM=>rt2 2 3 (vL qb rows.length cb) (vI 0) rfl rfl f0 (hΦ _ _ ⟨_,0,rows,rfl,et ab▸hR,hM.pick [2]⟩)
def aMF (v:Value) (f:Bys) (n:Int) (pr:Bys) (m0:Int) (b:Nat) (e:Ent):Prop:=∃ v1 v2,e=bk b #[v,vI 5,vI 0,vI 1,vS [],vS [],vI 0,vL none 0 0,vS f,vI n,vI 0,vI 0,vS [],vS pr,vI m0,v1,v2] 136
def aSD (os:List ObR) (f:Bys) (n:Int) (pr:Bys) (m0 c:Int) (rows:List (Bys×Int)):Prop :=
  (¬ aBa os f n pr m0=0∧c=aBa os f n pr m0∧rows=[])∨(aBa os f n pr m0=0∧aEp pr (aAa os) f n m0 c rows)
theorem aIY {os:List ObR}{f:Bys}{n:Int}{pr:Bys}{m0:Int}(h:aBa os f n pr m0=0):aAe (aAa os)=true:=by
  unfold aBa at h
  cases hv:aAe (aAa os) with
  | true=>rfl
  | false=>rw [hv] at h;simp at h
theorem aRs (w:World):(zeroValue 84).run Tryz.prog w = .ok .nilFunc w:=by kernel_rfl
theorem aGa {w:World}{v:Value}{os:List ObR}(hm:aDy w v os) {f pr:Bys}(hp:pr.length≤9223372036854775807) (hf:B63 f) (hlen:aAe (aAa os)=true→(aAm os).length≤500) (hol:os.length≤10000) (hTe:Te w) (n m0:Int):Calls Tryz.prog 9 #[.agg #[v],.agg #[vI 5,vI 0,vI 1,vS [],vS [],vI 0,vL none 0 0,vS f,vI n,vI 0,vI 0,vS [],vS pr,vI m0]] w fun e w'=>∃ u c rows,e = .returned (.tuple #[u,vI c])∧aSD os f n pr m0 c rows∧Mm (fun _=>False) w w' [rw_ rwL 2 90 u rows]:=by
  obtain ⟨p0,cp0,hp0,-⟩:=hm.1.op;subst hp0;refine beg Tryz.func9 rfl rfl [(0,.agg #[vL p0 os.length cp0]),(1,.agg #[vI 5,vI 0,vI 1,vS [],vS [],vI 0,vL none 0 0,vS f,vI n,vI 0,vI 0,vS [],vS pr,vI m0])] rfl rfl fun Φ hΦ=>?_;have hM:=Mm.nil (fun _=>False) w;refine aAn 0 0 2 [] (cs:=#[vL p0 os.length cp0]) (T:=24) (v:=fun b=>vP b 0) f0 hM fun ad w1 hM=>aAn 0 1 3 [] (cs:=#[vI 5,vI 0,vI 1,vS [],vS [],vI 0,vL none 0 0,vS f,vI n,vI 0,vI 0,vS [],vS pr,vI m0]) (T:=43) (v:=fun b=>vP b 0) f0 hM fun ae w1 hM=>aAq 1 2 12 [(10,.agg #[vI 5,vI 0,vI 1,vS [],vS [],vI 0,vL none 0 0,vS f,vI n,vI 0,vI 0,vS [],vS pr,vI m0]),(11,.agg #[vL p0 os.length cp0])] (fc (lam 43 1 0 14 hM rfl) (fc (lam 24 0 0 1 hM rfl) f0)) hM (aHW (hm.fr hM.fr) hf hp n m0) fun w1 hM=>seg 2 2 [(6,vI (aBa os f n pr m0)),(14,vB (!((aBa os f n pr m0)==0)))] f0 ?_;cases aa:((aBa os f n pr m0)==0)
  ·have ah:=ef aa;exact rt2 4 5 (vL none 0 0) (vI (aBa os f n pr m0)) rfl rfl f0 (hΦ _ _ ⟨_,_,[],rfl,.inl ⟨ef aa,rfl,rfl⟩,(hM.pick (M':=[]) []).row⟩)
  have ah:=et aa;have hvm:=aIY (et aa);refine aFk 4 0 16 [] 3 f0 hM fun af w1 hM=>ins 4 1 [] 87 2 (vI 1) (.func (.func 24) #[] #[]) f0 hM rfl aM0 u87_ (aM4 (by omega)) fun w1 hM=>ins 4 2 [] 87 2 (vI 2) (.func (.func 25) #[] #[]) f0 hM rfl aM0 u87_ (aM4 (by omega)) fun w1 hM=>ins 4 3 [] 87 2 (vI 3) (.func (.func 26) #[] #[]) f0 hM rfl aM0 u87_ (aM4 (by omega)) fun w1 hM=>ins 4 4 [] 87 2 (vI 4) (.func (.func 27) #[] #[]) f0 hM rfl aM0 u87_ (aM4 (by omega)) fun w1 hM=>ins 4 5 [] 87 2 (vI 5) (.func (.func 28) #[] #[]) f0 hM rfl aM0 u87_ (aM4 (by omega)) fun w1 hM=>ins 4 6 [] 87 2 (vI 6) (.func (.func 29) #[] #[]) f0 hM rfl aM0 u87_ (aM4 (by omega)) fun w1 hM=>?_;obtain ⟨mA,hmA⟩:∃ z,z=(upd (upd (upd (upd (upd (upd (fun _=>none) (vI 1) (.func (.func 24) #[] #[])) (vI 2) (.func (.func 25) #[] #[])) (vI 3) (.func (.func 26) #[] #[])) (vI 4) (.func (.func 27) #[] #[])) (vI 5) (.func (.func 28) #[] #[])) (vI 6) (.func (.func 29) #[] #[])):=⟨_,rfl⟩;rw [←hmA] at hM;have hlk:(mA (vI 5)).getD .nilFunc = .func (.func 28) #[] #[]:=by rw [hmA];simp [upd]
  clear hmA;refine seg 5 0 [(7,.map (some af))] f0 ?_;have hM:=hM.nl;have hM:=hM.nl;refine drx [6,7] (fun γ=>[some (vP (bn (γ 0)) 0),some (.tuple #[(tp0 (γ 1)),vI (tp1 (γ 1))])]) _ (fun γ l=>[bk ad #[vL p0 os.length cp0] 24,bk ae #[vI 5,vI 0,vI 1,vS [],vS [],vI 0,vL none 0 0,vS f,vI n,vI 0,vI 0,vS [],vS pr,vI m0] 43,mp Tryz.prog 3 af ((((((0+1)+1)+1)+1)+1)+1) mA,(bif l.getD 0 false then pfE ((aMF (vL p0 os.length cp0) f n pr m0) (bn (γ 0))) (γ.e 0) else aEc),(bif l.getD 1 false then pfE (aJ0 pr (aAa os) f n m0 (tp0 (γ 1)) (tp1 (γ 1))) (γ.e 1) else aEc)]) (fun γ=>[(8,(tp0 (γ 1))),(9,vI (tp1 (γ 1)))]) hM (fun γ=>rfl) (fun γ l w5 hM=>(fc (ldm 3 1 0 hM rfl rfl) (fc (rz2 (lk 87 2 (vI 5) .nilFunc hM rfl aM0 u87_ (aM4 (by omega)) (aRs _)) hlk) (fc (lam 24 0 0 1 hM rfl) (fc (lam 43 1 0 14 hM rfl) f0))))) ⟨aNl 0 6 3 25 (f:=30) (fun γ=>#[.agg #[vL p0 os.length cp0],.agg #[vI 5,vI 0,vI 1,vS [],vS [],vI 0,vL none 0 0,vS f,vI n,vI 0,vI 0,vS [],vS pr,vI m0]]) (aMF (vL p0 os.length cp0) f n pr m0) (fun γ fr wm hM=>((aGV (hm.fr hM.fr) (by omega) hvm n m0).mono fun e w9 ⟨fb,v1,v2,h1,h2⟩=>⟨fb,_,h1,⟨v1,v2,rfl⟩,h2⟩)),aNk 1 7 4 26 (f:=28) (fun γ=>#[vP (bn (γ 0)) 0]) (aJ0 pr (aAa os) f n m0) (fun γ fr wm hM=>by obtain ⟨⟨v1,v2,he⟩,hH⟩:=hM.get 3 (e:=pfE ((aMF (vL p0 os.length cp0) f n pr m0) (bn (γ 0))) (γ.e 0)) (by kernel_rfl);rw [he] at hH;exact (aH7 (hm.fr hM.fr) hp hf hlen (by omega) (hTe.fr hM.fr) hH).mono fun e w9 ⟨u,c,rows,h1,h2,h3⟩=>⟨u,c,_,h1,⟨rows,h2,rfl⟩,h3⟩),trivial⟩ fun ag w1 hM=>?_;replace hM:Mm (fun _=>False) w w1 [bk ad #[vL p0 os.length cp0] 24,bk ae #[vI 5,vI 0,vI 1,vS [],vS [],vI 0,vL none 0 0,vS f,vI n,vI 0,vI 0,vS [],vS pr,vI m0] 43,_,_,_]:=hM;obtain ⟨⟨rows,hR,hge⟩,hM⟩:=hM.unpf (j:=4) rfl;rw [hge] at hM;obtain ⟨v1,hv1⟩:∃ z,z=tp0 (ag 1):=⟨_,rfl⟩;obtain ⟨c,hc⟩:∃ z,z=tp1 (ag 1):=⟨_,rfl⟩;rw [←hv1] at hM;rw [←hc] at hR;rw [←hv1,←hc];have hM:=hM.pick [4];replace hM:Mm (fun _=>False) w _ [_]:=hM;obtain ⟨qa,ca,e9,-⟩:=(hM.src (j:=0) rfl rwT.len).op;subst e9;refine seg 6 3 [(29,vB (!(c==0)))] f0 ?_;cases ab:(c==0)
  ·have ai:=ef ab;exact rt2 4 5 (vL none 0 0) (vI c) rfl rfl f0 (hΦ _ _ ⟨_,c,rows,rfl,.inr ⟨et aa,hR⟩,by rw [aGc hR (ef ab)];exact (hM.pick (M':=[]) []).row⟩)
  have ai:=et ab;refine seg 8 4 [(33,vB (decide (10000<(rows.length:Int))))] f0 ?_;cases ac:(decide (10000<(rows.length:Int)))
  ·have aj:=df ac;exact rt2 4 5 (vL qa rows.length ca) (vI 0) rfl rfl f0 (hΦ _ _ ⟨_,0,rows,rfl,.inr ⟨et aa,et ab▸hR⟩,hM⟩)
  have aj:=dt ac;have hl9:=aGb hR;rw [aA3] at hl9;exact absurd (dt ac) (by omega)
def aGL (l:List Sp) (m:Int):Bool:=(aAu l m).2&&((aAu l m).1==m)
theorem aKy {w:World}{v:Value}{l:List Sp}(hl:SpV w v l) (hlen:l.length≤400000000) (m:Int):Calls Tryz.prog 55 #[v,vI m] w fun e w'=>e = .returned (vB (aGL l m))∧Fr (fun _=>False) w w':=by
  have hl0:=hl;obtain ⟨p0,cp0,hp0,sp0⟩:=hl.op;subst hp0;have bp0:=sp0.bnd;refine beg Tryz.func55 rfl rfl [(0,vL p0 l.length cp0),(1,vI m)] rfl rfl fun Φ hΦ=>?_;have hM:=Mm.nil (fun _=>False) w;refine aAq 1 2 10 [(8,vL p0 l.length cp0),(9,vI m)] f0 hM (aEy (hl0.fr hM.fr) hlen m) fun w1 hM=>seg 2 2 [(5,vI (aAu l m).1),(14,vB (aAu l m).2)] f0 ?_
  cases aa:(aAu l m).2 with
  | false =>
   exact rt1 4 (vB false) rfl f0 (hΦ _ _ ⟨by unfold aGL;simp only [aa]<;>rfl,hM.fr⟩)
  | true =>
   exact rt1 4 (vB ((aAu l m).1==m)) rfl f0 (hΦ _ _ ⟨by unfold aGL;simp only [aa]<;>rfl,hM.fr⟩)
theorem aQL {A B:List Bys}{i:Nat}{x y:Bys}(hx:A[i]?=some x) (hy:B[i]?=some y) (h:A.take i=B.take i) (e:x=y):A.take (i+1)=B.take (i+1):=by rw [gt_ hx,gt_ hy,h,e]
theorem aTj {A B:List Bys}{i:Nat}{x y:Bys}(hx:A[i]?=some x) (hy:B[i]?=some y) (e:x≠y):(A==B)=false:=by
  rw [beq_eq_false_iff_ne];intro h;subst h;rw [hx] at hy;cases hy;exact e rfl
abbrev aUL (Φ:Ending→World→Prop):=AtO Tryz.prog (aAr Tryz.f54) (aA2 (bodyPost Tryz.prog Tryz.f54 Φ)) [] 26
theorem aHO {w:World}{p q:Option Addr}{cp cq:Nat}{A B:List Bys}(h1:SrcP stL 1 w p cp A) (h2:SrcP stL 1 w q cq B):Calls Tryz.prog 54 #[vL p A.length cp,vL q B.length cq] w fun e w'=>e = .returned (vB (A==B))∧Fr (fun _=>False) w w':=by
  have b1:=h1.bnd;have b2:=h2.bnd;refine beg Tryz.func54 rfl rfl [(0,vL p A.length cp),(1,vL q B.length cq)] rfl rfl fun Φ hΦ=>?_;have hM:=Mm.nil (fun _=>False) w;refine seg 1 5 [(10,vB (!((A.length:Int)==(B.length:Int))))] f0 ?_;cases ab:((A.length:Int)==(B.length:Int))
  ·have ai:=ef ab;have hAB:A.length≠B.length:=fun z=>ef ab (by rw [z]);exact rt1 4 (vB false) rfl f0 (hΦ _ _ ⟨by rw [show (A==B)=false from by rw [beq_eq_false_iff_ne];rintro rfl;exact hAB rfl],hM.fr⟩)
  have ai:=et ab;have hAB:A.length=B.length:=by have:=et ab;omega
  refine seg 4 0 [(12,vI (A.length:Int)),(13,vI 0)] f0 ?_
  have aj:∀ (ag:Nat) (i:Nat) (w2:World),i≤A.length→A.take i=B.take i→Mm (fun _=>False) w w2 []→ag=A.length-i→aUL Φ (some (4,0)) [(13,vI (i:Int)),(12,vI (A.length:Int)),(0,vL p A.length cp),(1,vL q B.length cq)] w2:=by
   refine aBh fun ag ak i w2 hi ht hM ar=>seg 4 1 [(14,vB (decide ((i:Int)<(A.length:Int))))] f0 ?_;cases ah:(decide ((i:Int)<(A.length:Int)))
   ·have al:=df ah;exact rt1 4 (vB true) rfl f0 (hΦ _ _ ⟨by rw [List.take_of_length_le (by omega),List.take_of_length_le (by omega)] at ht;rw [ht];simp,hM.fr⟩)
   have al:=dt ah;refine seg 6 0 [(5,vI (i:Int))] f0 ?_;have hM:=hM.q ((Fr.refl _ _).drew);obtain ⟨ad,aa,au,av,am,an⟩:=h1.el (i:=i) (by omega);obtain ⟨ae,af,aw,ax,ao,ap⟩:=h2.el (i:=i) (by omega);refine drq [(24,vB (!(ad==ae)))] rfl (fc (ix 27 cp am (gl aa)) (fc (ld0 9 hM (an 0 _ rfl)) (fc (ix 27 cq ao (gl af)) (fc (ld0 9 hM (ap 0 _ rfl)) (fc (sne 9 ad ae) f0))))) ?_;cases ac:(ad==ae)
   ·have aq:=ef ac;exact rt1 4 (vB false) rfl f0 (hΦ _ _ ⟨by rw [aTj aa af (ef ac)],hM.fr⟩)
   have aq:=et ac;refine seg 4 0 [(13,vI ((i:Int)+1))] (fc (aAh (i:Int) 1 u3_) f0) (aAb _ (ak _ (by have:=gl aa;omega) (i+1) _ (gl aa) (aQL aa af ht (et ac)) hM rfl))
  exact aAb _ (aj _ 0 _ (Nat.zero_le _) rfl hM rfl)
def aJc (f n t:Bys) (o:Ob):Bool:=(o.kind==5)&&(o.refs==[f,n,t])
theorem aIn {w:World}{k1 k2 k3:Nat}{f nd t:Bys}(hk1:w.heap[k1]?=some (.cells #[vS f] 9 (0,0))) (hk2:w.heap[k2]?=some (.cells #[vS nd] 9 (0,0))) (hk3:w.heap[k3]?=some (.cells #[vS t] 9 (0,0))) {b:ObR}(hb:ObIn w b):Calls Tryz.prog 53 #[vA (obL b),vP k1 0,vP k2 0,vP k3 0] w fun e w'=>e = .returned (vB (aJc f nd t b.o))∧Fr (fun _=>False) w w':=by
  refine beg Tryz.func53 rfl rfl [(0,.agg #[vS b.o.id,vI b.o.kind,vI b.o.x,vI b.o.y,vL b.pr b.o.refs.length b.cr,vL b.pt b.o.tags.length b.ct]),(1,vP k1 0),(2,vP k2 0),(3,vP k3 0)] rfl rfl fun Φ hΦ=>?_;have hM:=Mm.nil (fun _=>False) w;refine aAn 0 0 4 [] (cs:=#[vS b.o.id,vI b.o.kind,vI b.o.x,vI b.o.y,vL b.pr b.o.refs.length b.cr,vL b.pt b.o.tags.length b.ct]) (T:=52) (v:=fun b=>vP b 0) f0 hM fun ac w1 hM=>seg 1 4 [(9,vB (b.o.kind==5))] (fc (ldm 3 0 1 hM rfl rfl) f0) ?_;cases aa:(b.o.kind==5)
  ·have ab:=ef aa;exact rt1 5 (vB false) rfl f0 (hΦ _ _ ⟨by unfold aJc;simp only [aa]<;>rfl,hM.fr⟩)
  have ab:=et aa;refine aAn 1 9 15 [(11,vL b.pr b.o.refs.length b.cr),(12,vS f),(13,vS nd),(14,vS t)] (cs:=#[vS f,vS nd,vS t]) (T:=9) (v:=fun b=>vL (some ⟨b,0,none⟩) 3 3) (fc (ldm 27 0 4 hM rfl rfl) (fc (ld0 9 hM (bx hk1 0 rfl)) (fc (ld0 9 hM (bx hk2 0 rfl)) (fc (ld0 9 hM (bx hk3 0 rfl)) f0)))) hM fun ad w1 hM=>aAq 1 10 16 [] f0 hM (aHO (B:=[f,nd,t]) (hb.refs.fr hM.fr) (aCR (f:=stL) (c:=1) (hM.get 1 rfl) [f,nd,t] 3 (fun _=>rfl) rfl rfl)) fun w1 hM=>rt1 5 (vB (b.o.refs==[f,nd,t])) rfl f0 (hΦ _ _ ⟨by unfold aJc;simp only [aa]<;>rfl,hM.fr⟩)
theorem aMV {w:World}{B:Nat}{p:Option Addr}{cap:Nat}{L:List ObR}{f:FuncId}{caps:Array Value}{G:Nat→Prop}(hs:SrcB obL 6 w B p cap L) (hG:∀ k,G k→B≤k) (eg:aEM Tryz.prog f) (I:Nat→World→Prop) (q:Nat→Bool) (h0:I 0 w) (step:∀ i x w1,L[i]?=some x→(∀ j,j<i→q j=false)→I i w1→Fr G w w1→Calls Tryz.prog f (#[vA (obL x)]++caps) w1 fun e w2=>e = .returned (vB (q i))∧I (i+1) w2∧Fr G w1 w2):Calls Tryz.prog 52 #[vL p L.length cap,.func (.func f) #[] caps] w fun e w'=>(∃ z,e = .returned (vB (decide (0≤z)))∧Fst L q I w' z)∧Fr G w w':=by
  refine beg Tryz.func52 rfl rfl [(0,vL p L.length cap),(1,.func (.func f) #[] caps)] rfl rfl fun Φ hΦ=>?_;have hM:=Mm.nil G w;refine cal 1 2 7 [(5,vL p L.length cap),(6,.func (.func f) #[] caps)] (K:=fun u w8=>∃ z,u=vI z∧Fst L q I w8 z∧Fr G w w8) f0 ((aGl hs hG eg I q h0 step).mono fun e w9 h=>⟨_,h.1.choose_spec.1,_,rfl,h.1.choose_spec.2,h.2⟩) fun u w1 ⟨z,hu,hz,f1⟩=>?_;subst hu;have hM:=hM.g f1;exact rt1 4 (vB (decide (0≤z))) rfl f0 (hΦ _ _ ⟨⟨_,rfl,hz⟩,hM.fr⟩)
def aKU (os:List ObR) (id:Bys):List Bys:=match aFC (aAw (aAa os)) os id with | some b=>b.o.refs | none=>[]
theorem aLf {w:World}{v:Value}{os:List ObR}(hm:aDy w v os) (id:Bys):∃ p c,(aEr (aAw (aAa os)) os (vS id)).getD (vL none 0 0)=vL p (aKU os id).length c∧SrcP stL 1 w p c (aKU os id):=by
  rw [aIu];unfold aKU
  cases h:aFC (aAw (aAa os)) os id with
  | none=>exact ⟨none,0,rfl,⟨Nat.le_refl _,by omega,.inl rfl,fun _=>rfl⟩⟩
  | some b=>exact ⟨b.pr,b.cr,rfl,(hm.2 b (aDN h).1).refs⟩
def aD5 (os:List ObR) (f nd t:Bys):Bool:=(aKU os f).contains nd&&(aKU os t).contains nd && !(os.any fun b=>aJc f nd t b.o)
theorem aFA {w:World}{v:Value}{os:List ObR}(hm:aDy w v os) (hvm:aAe (aAa os)=true) {f nd t:Bys}(hf:B63 f) (ht:B63 t):Calls Tryz.prog 21 #[.agg #[v],vS f,vS nd,vS t] w fun e w'=>e = .returned (vB (aD5 os f nd t))∧Fr (fun _=>False) w w':=by
  have hmv:=hm;have hm0:=hm;obtain ⟨hs0,hob⟩:=hm0;obtain ⟨p0,cp0,hp0,sp0⟩:=hs0.op;subst hp0;have bp0:=sp0.bnd;refine beg Tryz.func21 rfl rfl [(0,.agg #[vL p0 os.length cp0]),(1,vS f),(2,vS nd),(3,vS t)] rfl rfl fun Φ hΦ=>?_;have hM:=Mm.nil (fun _=>False) w;refine aAn 0 0 4 [] (cs:=#[vL p0 os.length cp0]) (T:=24) (v:=fun b=>vP b 0) f0 hM fun af w1 hM=>aAn 0 1 5 [] (cs:=#[vS f]) (T:=9) (v:=fun b=>vP b 0) f0 hM fun ab w1 hM=>aAn 0 2 6 [] (cs:=#[vS nd]) (T:=9) (v:=fun b=>vP b 0) f0 hM fun ac w1 hM=>aAn 0 3 7 [] (cs:=#[vS t]) (T:=9) (v:=fun b=>vP b 0) f0 hM fun ad w1 hM=>aB3 1 1 13 [(12,.agg #[vL p0 os.length cp0])] (K:=fun u Mn=>∃ bn b1 b2 n1 n2,u = .tuple #[vP bn 0,vB true]∧Mn=aTh bn b1 b2 n1 n2 (vL p0 os.length cp0) os) [0,1,2,3] [] (fc (lam 24 0 0 1 hM rfl) f0) hM rfl rfl (by decide) (fun hm=>(((aJ6 (hmv.fr hM.fr)).mono fun e w9 h=>h.2 hvm).mono fun e w9 ⟨bn,b1,b2,n1,n2,h1,h2⟩=>⟨_,_,h1,⟨bn,b1,b2,n1,n2,rfl,rfl⟩,aEL h2 fun _ h=>h.elim⟩)) fun u Mn w1 hK hM=>?_;obtain ⟨bn,b1,b2,n1,n2,rfl,rfl⟩:=hK;obtain ⟨pf,cf,hwf,sf⟩:=aLf hmv f;obtain ⟨pt,ct,hwt,st⟩:=aLf hmv t;refine seg 2 0 [(9,vP bn 0),(10,vB true)] f0 ?_;cases aa:((aKU os f).contains nd)
  ·refine drc [(39,vB true)] hM (fun w5 hM=>(fc (ldm 120 4 2 hM rfl rfl) (fc (ldm 9 1 0 hM rfl rfl) (fc (rz2 (lk 120 6 (vS f) (vL none 0 0) hM rfl aDw u120_ (aDx hf) (aJh _)) hwf) (fc (ldm 9 2 0 hM rfl rfl) (fc (rzc (tcl (aB7 (y:=nd) (sf.src.fr hM.fr))) aa) f0)))))) fun w5 hM=>rt1 8 (vB false) rfl f0 (hΦ _ _ ⟨by unfold aD5;simp only [aa]<;>simp,hM.fr⟩)
  refine drc [(39,vB (!((aKU os t).contains nd)))] hM (fun w5 hM=>(fc (ldm 120 4 2 hM rfl rfl) (fc (ldm 9 1 0 hM rfl rfl) (fc (rz2 (lk 120 6 (vS f) (vL none 0 0) hM rfl aDw u120_ (aDx hf) (aJh _)) hwf) (fc (ldm 9 2 0 hM rfl rfl) (fc (rzc (tcl (aB7 (y:=nd) (sf.src.fr hM.fr))) aa) (fc (ldm 120 4 2 hM rfl rfl) (fc (ldm 9 3 0 hM rfl rfl) (fc (rz2 (lk 120 6 (vS t) (vL none 0 0) hM rfl aDw u120_ (aDx ht) (aJh _)) hwt) (fc (ldm 9 2 0 hM rfl rfl) (fc (tcl (aB7 (y:=nd) (st.src.fr hM.fr))) f0))))))))))) fun w5 hM=>?_;cases ae:((aKU os t).contains nd)
  ·exact rt1 8 (vB false) rfl f0 (hΦ _ _ ⟨by unfold aD5;simp only [aa,ae]<;>simp,hM.fr⟩)
  refine aAq 4 5 45 [(43,vL p0 os.length cp0),(44,.func (.func 53) #[] #[vP ab 0,vP ac 0,vP ad 0])] (fc (ldm 22 4 0 hM rfl rfl) f0) hM ((aMV (caps:=#[vP ab 0,vP ac 0,vP ad 0]) (sp0.b hM.fr) (G:=fun _=>False) (fun _ h=>h.elim) (enters_of Tryz.func53 (by kernel_rfl) rfl) (fun _ _=>True) (atQ os fun b=>aJc f nd t b.o) trivial (fun i x w9 hx _ _ f9=>(aIn ((hM.q f9).get 1 rfl) ((hM.q f9).get 2 rfl) ((hM.q f9).get 3 rfl) ((hob _ (gm hx)).fr (hM.fr.trans' f9 fun _ _ h=>h))).mono fun e w2 h=>⟨by rw [h.1];unfold atQ;simp only [hx],trivial,h.2⟩)).mono fun e w9 h=>⟨by obtain ⟨z,h1,h2⟩:=h.1;rw [h1,aME h2],h.2⟩) fun w1 hM=>rt1 8 (vB (!(os.any fun b=>aJc f nd t b.o))) rfl f0 (hΦ _ _ ⟨by unfold aD5;simp only [aa,ae]<;>simp,hM.fr⟩)
def aG8:List (Bys×Int)→Bys→Int
  | [],_ => -1
  | r::l,s=>bif r.1==s then r.2 else aG8 l s
abbrev aUM (Φ:Ending→World→Prop):=AtO Tryz.prog (aAr Tryz.f10) (aA2 (bodyPost Tryz.prog Tryz.f10 Φ)) [] 24
theorem aDX {w:World}{p:Option Addr}{cap:Nat}{L:List (Bys×Int)}(hs:SrcP rwL 2 w p cap L) (s:Bys):Calls Tryz.prog 10 #[vL p L.length cap,vS s] w fun e w'=>e = .returned (vI (aG8 L s))∧Fr (fun _=>False) w w':=by
  have bb:=hs.bnd;refine beg Tryz.func10 rfl rfl [(0,vL p L.length cap),(1,vS s)] rfl rfl fun Φ hΦ=>?_;have hM:=Mm.nil (fun _=>False) w;refine seg 2 0 [(5,vI 0)] f0 ?_
  have af:∀ (ab:Nat) (i:Nat) (w2:World),i≤L.length→aG8 L s=aG8 (L.drop i) s→Mm (fun _=>False) w w2 []→ab=L.length-i→aUM Φ (some (2,0)) [(5,vI (i:Int)),(0,vL p L.length cap),(1,vS s)] w2:=by
   refine aBh fun ab ag i w2 hi hr hM aj=>seg 2 4 [(9,vB (decide ((i:Int)<(L.length:Int))))] f0 ?_;cases ac:(decide ((i:Int)<(L.length:Int)))
   ·have ah:=df ac;exact rt1 4 (vI (-1)) rfl f0 (hΦ _ _ ⟨by rw [hr,List.drop_of_length_le (by omega)];rfl,hM.fr⟩)
   have ah:=dt ac;obtain ⟨y,hy,ak,al,ad,ae⟩:=hs.el (i:=i) (by omega);refine seg 4 7 [(18,vB (y.1==s))] (fc (ix 44 cap ad (gl hy)) (fc (ld0 9 hM (ae 0 _ rfl)) (fc (seq 9 y.1 s) f0))) ?_;cases aa:(y.1==s)
   ·have ai:=ef aa;refine seg 2 0 [(5,vI ((i:Int)+1))] (fc (aAh (i:Int) 1 u3_) f0) (aAb _ (ag _ (by have:=gl hy;omega) (i+1) _ (gl hy) (by rw [hr,gd hy,aG8,aa];rfl) hM rfl))
   have ai:=et aa;exact rt1 4 (vI y.2) rfl (fc (ix 44 cap ad (gl hy)) (fc (ld0 3 hM (ae 1 _ rfl)) f0)) (hΦ _ _ ⟨by rw [hr,gd hy,aG8,aa];rfl,hM.fr⟩)
  exact aAb _ (af _ 0 _ (Nat.zero_le _) rfl hM rfl)
def aFL (l:List Ob) (way:Bys) (m:Int):Bool:=bif decide (aAi l way<0) then false else match l[(aAi l way).toNat]? with
  | some o => !((aA8 o.tags [104,111,117,114,115]).2) || !(aDe o)||aGL (aAc o) m
  | none=>false
theorem aIE {w:World}{v:Value}{os:List ObR}(hm:aDy w v os) (hvm:aAe (aAa os)=true) (hTe:Te w) (wy:Bys) (m:Int):Calls Tryz.prog 22 #[.agg #[v],vS wy,vI m] w fun e w'=>e = .returned (vB (aFL (aAa os) wy m))∧Fr (fun _=>False) w w':=by
  have hm0:=hm;obtain ⟨hs0,hob⟩:=hm0;obtain ⟨p0,cp0,hp0,sp0⟩:=hs0.op;subst hp0;have bp0:=sp0.bnd;refine beg Tryz.func22 rfl rfl [(0,.agg #[vL p0 os.length cp0]),(1,vS wy),(2,vI m)] rfl rfl fun Φ hΦ=>?_;have hM:=Mm.nil (fun _=>False) w;refine aAn 0 0 3 [] (cs:=#[vL p0 os.length cp0]) (T:=24) (v:=fun b=>vP b 0) f0 hM fun aj w1 hM=>aAq 1 2 15 [(13,.agg #[vL p0 os.length cp0]),(14,vS wy)] (fc (lam 24 0 0 1 hM rfl) f0) hM (aC2 (hm.fr hM.fr) wy) fun w1 hM=>seg 2 3 [(7,vI (aAi (aAa os) wy)),(18,vB (decide ((aAi (aAa os) wy)<0)))] f0 ?_;cases aa:(decide ((aAi (aAa os) wy)<0))
  rotate_left
  ·have ae:=dt aa;exact rt1 6 (vB false) rfl f0 (hΦ _ _ ⟨by unfold aFL;rw [aa];rfl,hM.fr⟩)
  have ae:=df aa;obtain ⟨k,o9,hk,hk2,hk3⟩:=aBl (df aa);have hkl:k<os.length:=by rw [←aA3];exact gl hk2
  obtain ⟨y0,hy0⟩:=geb hkl;have hop:aFL (aAa os) wy m=(!((aA8 y0.o.tags [104,111,117,114,115]).2) || !(aDe y0.o)||aGL (aAc y0.o) m):=by unfold aFL;rw [aa,hk,Int.toNat_natCast,aA4 hy0];rfl
  refine seg 2 9 [(24,vB (decide ((os.length:Int)≤(aAi (aAa os) wy))))] (fc (ldm 22 0 0 hM rfl rfl) f0) ?_;cases ac:(decide ((os.length:Int)≤(aAi (aAa os) wy)))
  rotate_left
  ·have af:=dt ac;exact absurd (dt ac) (by omega)
  have af:=df ac;obtain ⟨y,hy,ak,al,ag,ah⟩:=sp0.el (i:=k) (by omega);refine aAq 4 6 32 [(31,vL y.pt y.o.tags.length y.ct)] (fc (ldm 22 0 0 hM rfl rfl) (fc (ix 22 cp0 ag (gl hy) (z:=(aAi (aAa os) wy)) (hz:=hk)) (fc (ld0 50 hM (ah 5 _ rfl)) f0))) hM (aC0 ((hob _ (gm hy)).tags.src.fr hM.fr) [104,111,117,114,115]) fun w1 hM=>?_;have hvo:=aEb hvm _ (List.mem_map.2 ⟨_,gm hy,rfl⟩);refine cal 5 1 37 [(9,vB (aA8 y.o.tags [104,111,117,114,115]).2),(36,vS ((aA8 y.o.tags [104,111,117,114,115]).1))] (K:=fun u w8=>∃ v c x,u = .tuple #[v,vI c,vI x]∧(c==0)=aDe y.o∧aHj spL 2 260 w1 w8 v (aAc y.o)∧Fr (fun _=>False) w1 w8) f0 ((aHB (hTe.fr hM.fr).tb (Nat.le_trans (aBM hvo _) (by decide))).mono fun e w8 ⟨v,c,x,h1,h2⟩=>⟨_,h1,v,c,x,rfl,h2⟩) fun u w1 ⟨v,c,x,hu,hco,hO,f1⟩=>?_;subst hu;have hM:=hM.add f1 (rw_ spL 2 260 v (aAc y.o)) hO.1 hO.2;obtain ⟨qh,ch,rfl,-⟩:=hO.op spT.len;refine seg 6 3 [(10,vL qh (aAc y.o).length ch),(11,vI c),(43,vB (!(aA8 y.o.tags [104,111,117,114,115]).2))] f0 ?_
  cases ad:(aA8 y.o.tags [104,111,117,114,115]).2 with
  | false =>
   have e9:y0=y:=Option.some.inj (hy0.symm.trans hy);rw [e9] at hop;exact rt1 6 (vB true) rfl f0 (hΦ _ _ ⟨by rw [hop];simp only [ad]<;>simp,hM.fr⟩)
  | true =>
   refine seg 6 7 [(47,vB (!(c==0)))] f0 ?_;cases ab:(c==0)
   ·have ai:=ef ab;have e9:y0=y:=Option.some.inj (hy0.symm.trans hy);rw [e9] at hop;have hB9:=hco.symm.trans ab;exact rt1 6 (vB true) rfl f0 (hΦ _ _ ⟨by rw [hop];simp only [ad,hB9]<;>simp,hM.fr⟩)
   have ai:=et ab;refine aAq 6 9 50 [(48,vL qh (aAc y.o).length ch),(49,vI m)] f0 hM (aKy (hM.src (j:=1) rfl spT.len) (aE2 _) m) fun w1 hM=>?_;have e9:y0=y:=Option.some.inj (hy0.symm.trans hy);rw [e9] at hop;have hB9:=hco.symm.trans ab;exact rt1 6 (vB (aGL (aAc y.o) m)) rfl f0 (hΦ _ _ ⟨by rw [hop];simp only [ad,hB9]<;>simp,hM.fr⟩)
theorem aJk {tb t0:Bool}{L:List Bys}{q:Bys→Bool}{k:Nat}(h:tb=(t0||(L.take k).any q)) (hk:tb=false→L.length≤k):tb=(t0||L.any q):=by
  cases tb with
  | false=>rw [List.take_of_length_le (hk rfl)] at h;exact h
  | true =>
    cases t0 with
    | true=>rfl
    | false =>
      simp only [Bool.false_or] at h ⊢;obtain ⟨x,hx,hq⟩:=List.any_eq_true.1 h.symm;exact (List.any_eq_true.2 ⟨x,List.mem_of_mem_take hx,hq⟩).symm
theorem aPi {t0:Bool}{L:List Bys}{q:Bys→Bool}{k:Nat}{x:Bys}(h:false=(t0||(L.take k).any q)) (hx:L[k]?=some x):q x=(t0||(L.take (k+1)).any q):=by
  have h2:=Bool.or_eq_false_iff.1 h.symm;rw [gt_ hx,List.any_append,h2.1,h2.2];simp
theorem aOn {q:Nat→Bool}{j:Nat}(h:false=(List.range j).any q):q j=(List.range (j+1)).any q:=by
  rw [List.range_succ,List.any_append,←h];simp
theorem aLR {op:Bool}{q:Nat→Bool}{j n:Nat}(h:op=(List.range j).any q) (hj:j≤n) (hx:op=false→n≤j):op=(List.range n).any q:=by
  cases op with
  | false => have : n = j := by have := hx rfl; omega
             rw [this];exact h
  | true =>
    obtain ⟨x,hx,hq⟩:=List.any_eq_true.1 h.symm;exact (List.any_eq_true.2 ⟨x,List.mem_range.2 (by have:=List.mem_range.1 hx;omega),hq⟩).symm
def aNE (os:List ObR) (bf:List Bys) (ft:Bool) (f way:Bys):Bool:=(((bf.length:Int)==0)||ft)||bf.any fun b=>aD5 os b f way
def aO2 (os:List ObR) (way:Bys) (a:Int) (n:Nat):Bool:=(List.range n).any fun j=>aFL (aAa os) way (a+(j:Int))
def aDT (os:List ObR) (f t:Bys) (a z:Int) (bf:List Bys) (ft:Bool) (x:Arc):Bool:=(x.1==f)&&(x.2.1==t)&&aNE os bf ft f x.2.2.1&&aO2 os x.2.2.1 a (z-a).toNat
def aAH (os:List ObR) (A:List Arc) (f t:Bys) (a z:Int) (bf:List Bys) (ft:Bool):List Bys:=(A.filter (aDT os f t a z bf ft)).map fun x=>x.2.2.1
theorem aCs {os:List ObR}{A:List Arc}{i:Nat}{y:Arc}(hy:A[i]?=some y) (f t:Bys) (a z:Int) (bf:List Bys) (ft:Bool):aAH os (A.take (i+1)) f t a z bf ft=aAH os (A.take i) f t a z bf ft++(bif aDT os f t a z bf ft y then [y.2.2.1] else []):=by
  unfold aAH;rw [gt_ hy,List.filter_append,List.map_append];congr 1;cases h:aDT os f t a z bf ft y<;>simp [h]
theorem aL9 (os:List ObR) (A:List Arc) (f t:Bys) (a z:Int) (bf:List Bys) (ft:Bool):(aAH os A f t a z bf ft).length≤A.length:=by
  unfold aAH;rw [List.length_map];exact List.length_filter_le _ _
abbrev AT8 (Φ:Ending→World→Prop):=AtO Tryz.prog (aAr Tryz.f8) (aA2 (bodyPost Tryz.prog Tryz.f8 Φ)) [] 94
theorem aKf {w:World}{v:Value}{os:List ObR}(hm:aDy w v os) (hvm:aAe (aAa os)=true) (hTe:Te w) {pa pb:Option Addr}{ca cb:Nat}{A:List Arc}{bf:List Bys}(ha9:SrcP arL 4 w pa ca A) (hb9:SrcP stL 1 w pb cb bf) (hAl:A.length≤1000000) (hbB:∀ s∈bf,B63 s) (hAB:∀ x∈A,B63 x.2.2.1) (f t:Bys) {a z:Int}(h0:0≤a) (h1:a≤1000000000000) (h2:z≤1000000000000) (ft:Bool):Calls Tryz.prog 8 #[.agg #[v],vL pa A.length ca,vS f,vS t,vI a,vI z,vL pb bf.length cb,vB ft] w fun e w'=>∃ u,e = .returned u∧Mm (fun _=>False) w w' [rw_ stL 1 9 u (aAH os A f t a z bf ft)]:=by
  have hmv:=hm;obtain ⟨p0,cp0,hp0,-⟩:=hm.1.op;subst hp0;have ba:=ha9.bnd;have bb:=hb9.bnd;refine beg Tryz.func8 rfl rfl [(0,.agg #[vL p0 os.length cp0]),(1,vL pa A.length ca),(2,vS f),(3,vS t),(4,vI a),(5,vI z),(6,vL pb bf.length cb),(7,vB ft)] rfl rfl fun Φ hΦ=>?_;have hM:=Mm.nil (fun _=>False) w;refine aAn 0 0 8 [] (cs:=#[vL p0 os.length cp0]) (T:=24) (v:=fun b=>vP b 0) f0 hM fun aa w1 hM=>?_;have hM:=hM.row (f:=stL) (c:=1) (E:=9);refine seg 3 0 [(17,vL none 0 0),(18,vI 0)] f0 ?_
  have au:∀ (ak:Nat) (i:Nat) (vo:Value) (w2:World),i≤A.length→Mm (fun _=>False) w w2 [bk aa #[vL p0 os.length cp0] 24,rw_ stL 1 9 vo (aAH os (A.take i) f t a z bf ft)]→ak=A.length-i→AT8 Φ (some (3,0)) [(18,vI (i:Int)),(17,vo),(8,vP aa 0),(1,vL pa A.length ca),(2,vS f),(3,vS t),(4,vI a),(5,vI z),(6,vL pb bf.length cb),(7,vB ft)] w2:=by
   refine aBh fun ak ae i vo w2 hi hM bc=>seg 3 4 [(27,vB (decide ((i:Int)<(A.length:Int))))] f0 ?_;cases al:(decide ((i:Int)<(A.length:Int)))
   ·have av:=df al;exact rt1 16 vo rfl f0 (hΦ _ _ ⟨_,rfl,(show aAH os (A.take i) f t a z bf ft=aAH os A f t a z bf ft by rw [List.take_of_length_le (by omega)])▸hM.pick (M':=[rw_ stL 1 9 vo (aAH os (A.take i) f t a z bf ft)]) [1]⟩)
   have av:=dt al;obtain ⟨y,hy,bd,be,aw,ax⟩:=ha9.el (i:=i) (by omega);refine aBD 5 4 19 [(33,.agg #[vS y.1,vS y.2.1,vS y.2.2.1,vI y.2.2.2])] [] 68 (.agg #[vS y.1,vS y.2.1,vS y.2.2.1,vI y.2.2.2]) (fc (ix 34 ca aw (gl hy)) (fc (la0 68 hM ax) f0)) hM fun ab w1 hM=>seg 6 5 [(38,vB (!(y.1==f)))] (fc (ldm 9 2 0 hM rfl rfl) (fc (sne 9 y.1 f) f0)) ?_;cases ac:(y.1==f)
   ·have ay:=ef ac;refine seg 3 0 [(18,vI ((i:Int)+1))] (fc (aAh (i:Int) 1 u3_) f0) ?_;have hM:=hM.pick [0,1];replace hM:Mm (fun _=>False) w _ [bk aa #[vL p0 os.length cp0] 24,_]:=hM;obtain ⟨u1,hu1⟩:∃ vz9,vz9=vo:=⟨_,rfl⟩;rw [←hu1] at hM;have sb9:aDT os f t a z bf ft y=false:=by unfold aDT;simp only [ac]<;>simp
    have e1:(aAH os (A.take i) f t a z bf ft)=aAH os (A.take (i+1)) f t a z bf ft:=by rw [aCs hy,sb9];simp
    rw [e1,hu1] at hM;exact aAb _ (ae _ (by have:=gl hy;omega) (i+1) vo _ (gl hy) hM rfl)
   have ay:=et ac;refine seg 6 10 [(43,vB (!(y.2.1==t)))] (fc (ldm 9 2 1 hM rfl rfl) (fc (sne 9 y.2.1 t) f0)) ?_;cases ad:(y.2.1==t)
   ·have az:=ef ad;refine seg 3 0 [(18,vI ((i:Int)+1))] (fc (aAh (i:Int) 1 u3_) f0) ?_;have hM:=hM.pick [0,1];replace hM:Mm (fun _=>False) w _ [bk aa #[vL p0 os.length cp0] 24,_]:=hM;obtain ⟨u1,hu1⟩:∃ vz9,vz9=vo:=⟨_,rfl⟩;rw [←hu1] at hM;have sb9:aDT os f t a z bf ft y=false:=by unfold aDT;simp only [ac,ad]<;>simp
    have e1:(aAH os (A.take i) f t a z bf ft)=aAH os (A.take (i+1)) f t a z bf ft:=by rw [aCs hy,sb9];simp
    rw [e1,hu1] at hM;exact aAb _ (ae _ (by have:=gl hy;omega) (i+1) vo _ (gl hy) hM rfl)
   have az:=et ad
   have cu164:∀ (t0:Bool) (w2:World),t0=(((bf.length:Int)==0)||ft)→Mm (fun _=>False) w w2 [bk aa #[vL p0 os.length cp0] 24,rw_ stL 1 9 vo (aAH os (A.take i) f t a z bf ft),bk ab #[vS y.1,vS y.2.1,vS y.2.2.1,vI y.2.2.2] 68]→AT8 Φ (some (8,0)) [(19,vP ab 0),(18,vI (i:Int)),(17,vo),(8,vP aa 0),(1,vL pa A.length ca),(2,vS f),(3,vS t),(4,vI a),(5,vI z),(6,vL pb bf.length cb),(7,vB ft),(20,vB t0)] w2:=by
    intro t0 w2 hT0 hM
    have cu165:∀ (tb2:Bool) (w2:World),tb2=aNE os bf ft f y.2.2.1→Mm (fun _=>False) w w2 [bk aa #[vL p0 os.length cp0] 24,rw_ stL 1 9 vo (aAH os (A.take i) f t a z bf ft),bk ab #[vS y.1,vS y.2.1,vS y.2.2.1,vI y.2.2.2] 68]→AT8 Φ (some (12,0)) [(19,vP ab 0),(18,vI (i:Int)),(17,vo),(8,vP aa 0),(1,vL pa A.length ca),(2,vS f),(3,vS t),(4,vI a),(5,vI z),(6,vL pb bf.length cb),(7,vB ft),(20,vB tb2)] w2:=by
     intro tb2 w2 hT2 hM;have hT9:=hT2;refine seg 13 0 [(22,vB false)] f0 ?_
     have cu166:∀ (op2:Bool) (w2:World),op2=aO2 os y.2.2.1 a (z-a).toNat→Mm (fun _=>False) w w2 [bk aa #[vL p0 os.length cp0] 24,rw_ stL 1 9 vo (aAH os (A.take i) f t a z bf ft),bk ab #[vS y.1,vS y.2.1,vS y.2.2.1,vI y.2.2.2] 68]→AT8 Φ (some (17,0)) [(22,vB op2),(19,vP ab 0),(18,vI (i:Int)),(17,vo),(8,vP aa 0),(1,vL pa A.length ca),(2,vS f),(3,vS t),(4,vI a),(5,vI z),(6,vL pb bf.length cb),(7,vB ft),(20,vB tb2)] w2:=by
      intro op2 w2 hO2 hM;have hO9:=hO2;refine seg 17 2 [(85,vB tb2)] f0 ?_
      cases af:tb2 with
      | false =>
       rw [af] at hT9;refine seg 3 0 [(18,vI ((i:Int)+1))] (fc (aAh (i:Int) 1 u3_) f0) ?_;have hM:=hM.pick [0,1];replace hM:Mm (fun _=>False) w _ [bk aa #[vL p0 os.length cp0] 24,_]:=hM;obtain ⟨u1,hu1⟩:∃ vz9,vz9=vo:=⟨_,rfl⟩;rw [←hu1] at hM;have sb9:aDT os f t a z bf ft y=false:=by unfold aDT;rw [←hT9];rw [←hO9];simp only [ac,ad,af]<;>simp
       have e1:(aAH os (A.take i) f t a z bf ft)=aAH os (A.take (i+1)) f t a z bf ft:=by rw [aCs hy,sb9];simp
       rw [e1,hu1] at hM;exact aAb _ (ae _ (by have:=gl hy;omega) (i+1) vo _ (gl hy) hM rfl)
      | true =>
       rw [af] at hT9;refine seg 17 4 [(87,vB op2)] f0 ?_
       cases ag:op2 with
       | false =>
        rw [ag] at hO9;refine seg 3 0 [(18,vI ((i:Int)+1))] (fc (aAh (i:Int) 1 u3_) f0) ?_;have hM:=hM.pick [0,1];replace hM:Mm (fun _=>False) w _ [bk aa #[vL p0 os.length cp0] 24,_]:=hM;obtain ⟨u1,hu1⟩:∃ vz9,vz9=vo:=⟨_,rfl⟩;rw [←hu1] at hM;have sb9:aDT os f t a z bf ft y=false:=by unfold aDT;rw [←hT9];rw [←hO9];simp only [ac,ad,af,ag]<;>simp
        have e1:(aAH os (A.take i) f t a z bf ft)=aAH os (A.take (i+1)) f t a z bf ft:=by rw [aCs hy,sb9];simp
        rw [e1,hu1] at hM;exact aAb _ (ae _ (by have:=gl hy;omega) (i+1) vo _ (gl hy) hM rfl)
       | true =>
        rw [ag] at hO9;refine aAn 18 3 91 [(88,vo),(90,vS y.2.2.1)] (cs:=#[vS y.2.2.1]) (T:=9) (v:=fun b=>vL (some ⟨b,0,none⟩) 1 1) (fc (ldm 9 2 2 hM rfl rfl) f0) hM fun bg w1 hM=>aKP 18 4 92 [] (cap:=1) (by decide) stT f0 hM (j:=1) rfl (aAE (f:=stL) (x:=y.2.2.1) (hM.get 3 rfl) (Nat.lt_succ_self _)) (fun h=>by cases h) (by have:=aL9 os (A.take i) f t a z bf ft;simp only [List.length_take,List.length_cons,List.length_nil] at this ⊢;omega) fun bh w1 hM=>?_;obtain ⟨ai,aj,a0,-⟩:=(hM.src (j:=1) rfl stT.len).op;subst a0;refine seg 3 0 [(17,vL ai ((aAH os (A.take i) f t a z bf ft)++[y.2.2.1]).length aj),(18,vI ((i:Int)+1))] (fc (aAh (i:Int) 1 u3_) f0) ?_;have hM:=hM.pick [0,1];replace hM:Mm (fun _=>False) w _ [bk aa #[vL p0 os.length cp0] 24,_]:=hM;obtain ⟨u1,hu1⟩:∃ vz9,vz9=vL ai ((aAH os (A.take i) f t a z bf ft)++[y.2.2.1]).length aj:=⟨_,rfl⟩;rw [←hu1] at hM;have sb9:aDT os f t a z bf ft y=true:=by unfold aDT;rw [←hT9];rw [←hO9];simp only [ac,ad,af,ag]<;>simp
        have e1:((aAH os (A.take i) f t a z bf ft)++[y.2.2.1])=aAH os (A.take (i+1)) f t a z bf ft:=by rw [aCs hy,sb9];simp
        rw [e1,hu1] at hM;exact aAb _ (ae _ (by have:=gl hy;omega) (i+1) (vL ai ((aAH os (A.take i) f t a z bf ft)++[y.2.2.1]).length aj) _ (gl hy) hM rfl)
     refine seg 14 0 [(23,vI a)] f0 ?_
     have a1:∀ (am:Nat) (m1:Int) (j:Nat) (op:Bool) (w2:World),m1=a+(j:Int)→j≤(z-a).toNat→op=((List.range j).any fun j=>aFL (aAa os) y.2.2.1 (a+(j:Int)))→Mm (fun _=>False) w w2 [bk aa #[vL p0 os.length cp0] 24,rw_ stL 1 9 vo (aAH os (A.take i) f t a z bf ft),bk ab #[vS y.1,vS y.2.1,vS y.2.2.1,vI y.2.2.2] 68]→am=(z-a).toNat-j→AT8 Φ (some (14,0)) [(23,vI m1),(22,vB op),(19,vP ab 0),(18,vI (i:Int)),(17,vo),(8,vP aa 0),(1,vL pa A.length ca),(2,vS f),(3,vS t),(4,vI a),(5,vI z),(6,vL pb bf.length cb),(7,vB ft),(20,vB tb2)] w2:=by
      refine aBh fun am a2 m1 j op w2 hm1 hj hO hM bi=>seg 14 4 [(73,vB (decide (m1<z)))] f0 ?_;cases an:(decide (m1<z))
      ·have a3:=df an;refine seg 17 0 [] f0 (aAb _ (cu166 op _ (aLR hO hj (fun _=>by omega)) hM))
      have a3:=dt an;refine seg 14 7 [(76,vB (!op))] f0 ?_
      cases ao:op with
      | false =>
       subst ao;refine aAq 16 4 83 [(79,.agg #[vL p0 os.length cp0]),(81,vS y.2.2.1),(82,vI m1)] (fc (lam 24 0 0 1 hM rfl) (fc (ldm 9 2 2 hM rfl rfl) f0)) hM (aIE (hmv.fr hM.fr) hvm (hTe.fr hM.fr) y.2.2.1 m1) fun w1 hM=>seg 14 0 [(22,vB (aFL (aAa os) y.2.2.1 m1)),(23,vI (m1+1))] (fc (aAh m1 1 u3_) f0) (aAb _ (a2 _ (by omega) (m1+1) (j+1) (aFL (aAa os) y.2.2.1 m1) _ (by omega) (by omega) (by rw [hm1];exact aOn hO) hM rfl))
      | true =>
       subst ao;refine seg 17 0 [] f0 (aAb _ (cu166 true _ (aLR hO hj (fun h=>by cases h)) hM))
     exact aAb _ (a1 _ a 0 false _ (by omega) (Nat.zero_le _) rfl hM rfl)
    refine seg 9 0 [(21,vI 0)] f0 ?_
    have a4:∀ (ap:Nat) (k:Nat) (tb:Bool) (w2:World),k≤bf.length→tb=(t0||(bf.take k).any fun b=>aD5 os b f y.2.2.1)→Mm (fun _=>False) w w2 [bk aa #[vL p0 os.length cp0] 24,rw_ stL 1 9 vo (aAH os (A.take i) f t a z bf ft),bk ab #[vS y.1,vS y.2.1,vS y.2.2.1,vI y.2.2.2] 68]→ap=bf.length-k→AT8 Φ (some (9,0)) [(21,vI (k:Int)),(19,vP ab 0),(18,vI (i:Int)),(17,vo),(8,vP aa 0),(1,vL pa A.length ca),(2,vS f),(3,vS t),(4,vI a),(5,vI z),(6,vL pb bf.length cb),(7,vB ft),(20,vB tb)] w2:=by
     refine aBh fun ap a5 k tb w2 hk hT hM bj=>seg 9 5 [(54,vB (decide ((k:Int)<(bf.length:Int))))] f0 ?_;cases aq:(decide ((k:Int)<(bf.length:Int)))
     ·have a6:=df aq;refine seg 12 0 [] f0 (aAb _ (cu165 tb _ (aJk hT (fun _=>by omega) |>.trans (by rw [hT0];rfl)) hM))
     have a6:=dt aq;refine seg 9 8 [(57,vB (!tb))] f0 ?_
     cases ar:tb with
     | false =>
      subst ar;refine seg 11 0 [] f0 ?_;obtain ⟨b,hb,bl,bm,a7,a8⟩:=hb9.el (i:=k) (by omega);refine drc [(20,vB (aD5 os b f y.2.2.1))] hM (fun w5 hM=>(fc (lam 24 0 0 1 hM rfl) (fc (ix 27 cb a7 (gl hb)) (fc (ld0 9 hM (a8 0 _ rfl)) (fc (ldm 9 2 2 hM rfl rfl) (fc (tcl (aFA (hmv.fr hM.fr) hvm (nd:=f) (hbB _ (gm hb)) (hAB _ (gm hy)))) f0)))))) fun w5 hM=>seg 9 0 [(21,vI ((k:Int)+1))] (fc (aAh (k:Int) 1 u3_) f0) (aAb _ (a5 _ (by have:=gl hb;omega) (k+1) (aD5 os b f y.2.2.1) _ (gl hb) (aPi hT hb) hM rfl))
     | true =>
      subst ar;refine seg 12 0 [] f0 (aAb _ (cu165 true _ (aJk hT (fun h=>by cases h) |>.trans (by rw [hT0];rfl)) hM))
    exact aAb _ (a4 _ 0 t0 _ (Nat.zero_le _) (by simp) hM rfl)
   refine seg 7 4 [(47,vB ((bf.length:Int)==0))] f0 ?_;cases ah:((bf.length:Int)==0)
   ·have a9:=ef ah;refine seg 8 0 [(20,vB ft)] f0 (aAb _ (cu164 ft _ (by rw [ah];rfl) hM))
   have a9:=et ah;refine seg 8 0 [(20,vB true)] f0 (aAb _ (cu164 true _ (by rw [ah];rfl) hM))
  exact aAb _ (au _ 0 (vL none 0 0) _ (Nat.zero_le _) hM rfl)
section
variable {N:NetW}{B m0:Int}{t:Nat→Option Int}
theorem aPb {i k:Nat}(h:aCd N m0 t i=some k):k<N.n∧N.al k i=true∧∃ m,t k=some m∧N.ps i m=some ((t i).getD 0):=by
 unfold aCd at h
 cases hA:aKO N m0 t i with
 | true=>rw [hA] at h;cases h
 | false =>
  rw [hA] at h;have h:(List.range N.n).find? (aEK N t i)=some k:=h;have h1:=List.find?_some h;have h2:=List.mem_range.1 (List.mem_of_find?_eq_some h);unfold aEK at h1;simp only [Bool.and_eq_true] at h1;obtain ⟨⟨h3,h4⟩,h5,h6⟩:=h1;obtain ⟨m,hm⟩:=Option.isSome_iff_exists.1 h3;rw [hm] at h5 h6;obtain ⟨x,hx⟩:=Option.isSome_iff_exists.1 h5;have hx:N.ps i m=some x:=hx;have h6:=et h6;have h6:(N.ps i m).getD 0=(t i).getD 0:=h6;rw [hx] at h6;have h6:x=(t i).getD 0:=h6;exact ⟨h2,h4,m,hm,by rw [hx,h6]⟩
theorem aPc (hN:N.Ok B) (h0:0≤m0) (hT:Tab N m0 t) {i:Nat}{m:Int}(hm:t i=some m) (h:aCd N m0 t i=none):N.st i=true∧N.ps i m0=some m:=by
 unfold aCd at h
 cases hA:aKO N m0 t i with
 | true =>
  unfold aKO at hA;simp only [Bool.and_eq_true] at hA;obtain ⟨⟨h1,h2⟩,h3⟩:=hA;obtain ⟨x,hx⟩:=Option.isSome_iff_exists.1 h1;have h3:=et h3;rw [hx,hm] at h3;have h3:x=m:=h3;exact ⟨h2,by rw [hx,h3]⟩
 | false =>
  rw [hA] at h;have h:(List.range N.n).find? (aEK N t i)=none:=h;exfalso;have hr:=hT.snd _ _ hm
  cases hr with
  | base h1 h2 h3 =>
   unfold aKO at hA;rw [h2,h3,hm] at hA;simp at hA
  | step h1 h2 h3 h4 =>
   rename_i k m';obtain ⟨y,hy,hy2⟩:=hT.le hN h0 h1;have hg:=(hT.snd _ _ hy2).ge hN h0;obtain ⟨z,hz,hz2⟩:=hN.mono (by omega) hy h4;obtain ⟨u,hu,hu2⟩:=hT.stp _ _ hy2 _ h2 h3 _ hz2;rw [hm] at hu2;cases hu2;have e:z=m:=by omega
   subst e;have:=List.find?_eq_none.1 h k (List.mem_range.2 h1.lt);apply this;unfold aEK;rw [hy2,h3];show (true&&true&&((N.ps i y).isSome&&((N.ps i y).getD 0==(t i).getD 0)))=true;rw [hz2,hm];simp
theorem aQX (hB:aKT N m0 t):∀ (F i:Nat),i<N.n→(t i).isSome=true→((t i).getD 0).toNat≤F →
  (∀ j a b,(bkP N m0 t i)[j]?=some a→(bkP N m0 t i)[j+1]?=some b→aCd N m0 t a=some b)∧(∀ a,(bkP N m0 t i).getLast?=some a→aCd N m0 t a=none)∧∀ a∈bkP N m0 t i,a<N.n∧(t a).isSome=true:=by
 intro F
 induction F using Nat.strongRecOn with
 | _ F ih =>
  intro i hi hs hF;rw [aIe hB hi]
  cases hb:aCd N m0 t i with
  | none =>
   refine ⟨fun j a b h1 h2=>by simp at h2,fun a h=>?_,fun a h=>?_⟩
   ·simp at h;subst h;exact hb
   ·simp at h;subst h;exact ⟨hi,hs⟩
  | some k =>
   dsimp only
   obtain ⟨h1,h2,h3,h4⟩:=hB i k hi hb;have hc:((t k).getD 0).toNat<F:=by omega
   obtain ⟨g1,g2,g3⟩:=ih _ hc k h1 h2 (Nat.le_refl _);have hne:bkP N m0 t k=k::match aCd N m0 t k with | some k=>bkP N m0 t k | none=>[]:=aIe hB h1
   refine ⟨fun j a b ha hbb=>?_,fun a h=>?_,fun a h=>?_⟩
   ·cases j with
    | zero =>
     simp only [List.getElem?_cons_zero,Option.some.injEq] at ha;subst ha;rw [List.getElem?_cons_succ,hne] at hbb;simp only [List.getElem?_cons_zero,Option.some.injEq] at hbb;rw [hb,hbb]
    | succ j =>
     rw [List.getElem?_cons_succ] at ha hbb;exact g1 j a b ha hbb
   ·refine g2 a ?_;rw [hne] at h ⊢;rw [List.getLast?_cons_cons] at h;exact h
   ·rcases List.mem_cons.1 h with rfl | h
    ·exact ⟨hi,hs⟩
    ·exact g3 a h
end
structure TripS (N:NetW) (A:List Arc) (f:Bys) (m0:Int) (nd:List Bys) (mi:List Int) (Q:List Nat) (tm:Nat→Int):Prop where
 nd:nd=f::Q.map (toN A)
 mi:mi=m0::Q.map tm
 fst:∀ q,Q[0]?=some q→q<N.n∧N.st q=true∧N.ps q m0=some (tm q)
 stp:∀ j k q,Q[j]?=some k→Q[j+1]?=some q→k<N.n∧q<N.n∧N.al k q=true∧N.ps q (tm k)=some (tm q)∧m0<tm k
section
variable {os:List ObR}{prof f g:Bys}{m0 c:Int}{nd:List Bys}{mi:List Int}
theorem aKd (hok:∀ a∈asQ (aAa os),ArcB a) (h:aHe prof (aAa os) f g m0 c nd mi):(¬ c=0∧nd=[]∧mi=[])∨(c=0∧aAe (aAa os)=true∧0≤m0∧m0≤9999999∧mi.length=nd.length∧nd[nd.length-1]?=some g∧(nd.length=1→f=g)∧∃ Q tm,TripS (aFl prof (aAa os) f) (asQ (aAa os)) f m0 nd mi Q tm):=by
 rcases h with ⟨h1,rfl,rfl,rfl⟩ | ⟨h1,h2,rfl,rfl,rfl⟩ | ⟨h1,h2,t,hT,h3⟩
 ·exact .inl ⟨h1,rfl,rfl⟩
 ·obtain ⟨hv,_,k0,k1,_,_⟩:=aDi h1;exact .inr ⟨rfl,hv,k0,k1,rfl,by rw [h2];rfl,fun _=>h2,[],fun _=>0,⟨rfl,rfl,fun q h=>by simp at h,fun j k q h=>by simp at h⟩⟩
 ·obtain ⟨hv,_,k0,k1,_,_⟩:=aDi h1;have hN:=aD9 (prof:=prof) hok f;have hs:=aE1 (A:=asQ (aAa os)) (t:=t) (g:=g) (Nat.le_refl _);rcases h3 with ⟨h4,rfl,rfl,rfl⟩ | ⟨i,h4,rfl,rfl,rfl⟩
  ·exact .inl ⟨by decide,rfl,rfl⟩
  ·rw [h4] at hs;obtain ⟨a,m,ha,hg,hm,hmin⟩:=hs;have hB:=aEW hN k0 hT;obtain ⟨p1,p2,p3⟩:=aQX hB _ i (gl ha) (by rw [hm];rfl) (Nat.le_refl _);have hP:=aIe hB (gl ha:i<(aFl prof (aAa os) f).n);generalize hPP:bkP (aFl prof (aAa os) f) m0 t i=P at p1 p2 p3 hP ⊢;have hPl:0<P.length:=by rw [hP];simp
   have key:∀ {q:Nat},q∈P→t q=some ((t q).getD 0):=fun {q} hq=>by
    obtain ⟨y,hy⟩:=Option.isSome_iff_exists.1 (p3 q hq).2;rw [hy];rfl
   have hnl:((P.map (toN (asQ (aAa os)))++[f]).reverse).length=P.length+1:=by simp
   refine .inr ⟨rfl,hv,k0,k1,by simp,?_,fun h=>by rw [hnl] at h;omega,P.reverse,fun j=>(t j).getD 0,⟨by simp,by simp,fun q hq=>?_,fun j k q hk hq=>?_⟩⟩
   ·rw [hnl,show P.length+1-1=P.length by omega,List.getElem?_reverse (by simp)];simp only [List.length_append,List.length_map,List.length_singleton];rw [show P.length+1-1-P.length=0 by omega,hP];show some (toN (asQ (aAa os)) i)=some g;rw [aJn ha,hg]
   ·have hq2:P.getLast?=some q:=by rw [List.getLast?_eq_head?_reverse,List.head?_eq_getElem?];exact hq
    have hm2:=List.mem_of_getLast? hq2;obtain ⟨g1,g2⟩:=aPc hN k0 hT (key hm2) (p2 q hq2);exact ⟨(p3 q hm2).1,g1,g2⟩
   ·have hj:=gl hq;rw [List.length_reverse] at hj;rw [List.getElem?_reverse (by omega)] at hk;rw [List.getElem?_reverse hj] at hq;have hb:=p1 (P.length-1-(j+1)) q k hq (by rw [show P.length-1-(j+1)+1=P.length-1-j by omega];exact hk);obtain ⟨b1,b2,tm,b3,b4⟩:=aPb hb;refine ⟨b1,(p3 q (gm hq)).1,b2,?_,?_⟩
    ·show (aFl prof (aAa os) f).ps q ((t k).getD 0)=some ((t q).getD 0);rw [b3];exact b4
    ·show m0<(t k).getD 0;rw [b3];exact (hT.snd _ _ b3).ge hN k0
theorem aMo {l:List Ob}{i:Nat}{a:Arc}(h:(asQ l)[i]?=some a) (m:Int):(aFl prof l f).ps i m=aIB (aFK prof l a.2.2.1) a m:=by
 show (match (asQ l)[i]? with | some a=>_ | none=>_)=_;rw [h]
theorem aQ2 {l:List Ob}{i:Nat}{a:Arc}(h:(asQ l)[i]?=some a):(aFl prof l f).st i=(a.1==f):=by
 show (match (asQ l)[i]? with | some a=>_ | none=>_)=_;rw [h]
theorem aQ3 {l:List Ob}{i k:Nat}{a b:Arc}(h:(asQ l)[i]?=some a) (h2:(asQ l)[k]?=some b):(aFl prof l f).al i k=aEo prof l a b:=by
 show (match (asQ l)[i]?,(asQ l)[k]? with | some a,some b=>aEo prof l a b | _,_=>false)=_;rw [h,h2]
end
theorem aLH {l:List Ob}{w:Bys}:∀ {rs:List Bys}{a:Arc},a∈aFH l w rs→a.1∈rs∧a.2.1∈rs∧a.2.2.1=w
 | [],a,h=>by cases h
 | [x],a,h=>by cases h
 | x::y::t,a,h=>by
  rcases List.mem_cons.1 h with rfl | h
  ·exact ⟨by simp,by simp,rfl⟩
  ·rcases List.mem_cons.1 h with rfl | h
   ·exact ⟨by simp,by simp,rfl⟩
   ·obtain ⟨h1,h2,h3⟩:=aLH (rs:=y::t) h;exact ⟨.tail _ h1,.tail _ h2,h3⟩
theorem aJf {os:List ObR}{a:Arc}(h:a∈AS os):a.1∈aKU os a.2.2.1∧a.2.1∈aKU os a.2.2.1∧∃ o∈aAa os,o.kind=2∧o.id=a.2.2.1:=by
 have h:=aDa h;unfold aAm at h;obtain ⟨b,hb,ha⟩:=List.mem_flatMap.1 h;unfold aC7 at ha
 cases hk:b.o.kind==2 with
 | false=>rw [hk] at ha;cases ha
 | true =>
  rw [hk] at ha;simp only [cond_true] at ha
  cases hw:aFC (aAw (aAa os)) os b.o.id with
  | none=>rw [hw] at ha;cases ha
  | some c =>
   rw [hw] at ha;obtain ⟨h1,h2,h3⟩:=aLH ha;have e:aKU os a.2.2.1=c.o.refs:=by unfold aKU;rw [h3,hw]
   rw [e];exact ⟨h1,h2,b.o,List.mem_map.2 ⟨b,hb,rfl⟩,et hk,h3.symm⟩
theorem aK0 {l:List Sp}{m:Int}(h:(aAu l m).2=true) (hle:(aAu l m).1≤1000000000):aGL l (aAu l m).1=true:=by
 have hge:=aEd h;unfold aAu at h hle hge
 split at h
 ·rename_i hc;have hc0:=hc;rw [if_pos hc] at hle hge;simp only [Bool.and_eq_true,Bool.not_eq_true'] at hc;obtain ⟨⟨hv,hm⟩,hne⟩:=hc;have h0:0≤m:=by unfold aBU at hm;simp at hm;exact hm.1
  have hne2:l≠[]:=fun e=>by rw [e] at hne;cases hne
  obtain ⟨_,_,h3,_⟩:=aEQ hv h0 hne2;have e1:aAu l m=(aB1 l m,true):=by unfold aAu;rw [if_pos hc0]
  rw [e1];have hge2:m≤aB1 l m:=hge;have hle2:aB1 l m≤1000000000:=hle;obtain ⟨g1,_,_,g4⟩:=aEQ hv (m:=aB1 l m) (by omega) hne2
  have e2:aB1 l (aB1 l m)=aB1 l m:=by
   rcases Int.lt_or_eq_of_le g1 with g | g
   ·exact absurd h3 (g4 _ (Int.le_refl _) g)
   ·exact g.symm
  unfold aGL;rw [aGM hv (by unfold aBU;simp;omega) hne];show (true&&(aB1 l (aB1 l m)==aB1 l m))=true;rw [e2];simp
 ·cases h
theorem aO1 {l:List Ob}(hv:aAe l=true) {o:Ob}(ho:o∈l) (m:Int):aFL l o.id m=(!((aA8 o.tags [104,111,117,114,115]).2) || !(aDe o)||aGL (aAc o) m):=by
 have hn:=(aDr (aB4 hv) ho).1;obtain ⟨k,o2,h1,h2,h3⟩:=aBl hn;have e:=aI8 (aB4 hv) (gm h2) ho h3;subst e;unfold aFL;rw [decide_eq_false hn,h1,Int.toNat_natCast,h2];rfl
theorem aQf {prof:Bys}{l:List Ob}(hv:aAe l=true) {o:Ob}(ho:o∈l) (hk:o.kind=2):aFK prof l o.id=aAp prof o:=by
 unfold aFK
 cases h:((l.filter fun o=>o.kind==2).reverse).find? fun x=>x.id==o.id with
 | none =>
  have:=List.find?_eq_none.1 h o (by simp [ho,hk]);simp at this
 | some x =>
  have h1:=List.mem_of_find?_eq_some h;have h2:=List.find?_some h;simp only [List.mem_reverse,List.mem_filter] at h1;rw [aI8 (aB4 hv) h1.1 ho (by simpa using h2)]
theorem aLZ {os:List ObR}(hv:aAe (aAa os)=true) {prof:Bys}{a:Arc}(ha:a∈AS os) (hb:ArcB a) {y1 y2:Int}(h0:0≤y1) (h:aIB (aFK prof (aAa os) a.2.2.1) a y1=some y2):aO2 os a.2.2.1 y1 (y2-y1).toNat=true:=by
 obtain ⟨_,_,o,ho,hk,hid⟩:=aJf ha;have hlt:y1<y2:=(aEO (prof:=prof) ha hb h0 (by unfold aBq;rw [aGB];exact h)).1;have hsp:=aJy (prof:=prof) ha;rw [aGB] at hsp;have hq:=aHv hb.pos hb.lt hsp.1 hsp.2;rw [←hid,aQf hv ho hk] at h hq;have hop:=aO1 hv ho;unfold aO2;rw [List.any_eq_true];unfold aIB at h
 cases h1:((aAp prof o).closed||((aAp prof o).oneway && !fwd a.1 a.2.1 (aAp prof o).refs)||decide (1000000000<y1)) with
 | true=>rw [h1] at h;cases h
 | false =>
  rw [h1] at h;simp only [cond_false] at h
  cases h2:(aAp prof o).limited with
  | false =>
   refine ⟨0,List.mem_range.2 (by omega),?_⟩;rw [←hid,hop];have h2:((aA8 o.tags [104,111,117,114,115]).2&&aDe o)=false:=h2
   cases e1:(aA8 o.tags [104,111,117,114,115]).2 with
   | false=>rfl
   | true =>
    rw [e1] at h2;have h2:aDe o=false:=h2;rw [h2];rfl
  | true =>
   rw [h2] at h;simp only [cond_true] at h;have eh:(aAp prof o).hours=aAc o:=rfl;rw [eh] at h
   cases h3:(!((aAu (aAc o) y1).2)||decide (1000000000<(aAu (aAc o) y1).1)) with
   | true=>rw [h3] at h;cases h
   | false =>
    rw [h3] at h;simp only [cond_false,Option.some.injEq] at h;rw [Bool.or_eq_false_iff] at h3;have h4:(aAu (aAc o) y1).2=true:=by have:=h3.1;simpa using this
    have h5:=of_decide_eq_false h3.2;have h6:=aEd h4;refine ⟨((aAu (aAc o) y1).1-y1).toNat,List.mem_range.2 (by omega),?_⟩;rw [←hid,hop,show y1+((((aAu (aAc o) y1).1-y1).toNat:Nat):Int)=(aAu (aAc o) y1).1 by omega,aK0 h4 (by omega)];simp
theorem aPQ {os:List ObR}{prof:Bys}{a b:Arc}(ha:a∈AS os) (hb:b∈AS os) (h:aEo prof (aAa os) a b=true) (hp:(prof==aIp)=false):aD5 os a.2.2.1 b.1 b.2.2.1=true:=by
 unfold aEo at h;rw [Bool.and_eq_true] at h;have e:=et h.1;have h2:=h.2;unfold aD5;have g1:=(aJf ha).2.1;have g2:=(aJf hb).1;rw [e] at g1;rw [List.contains_iff_mem.2 g1,List.contains_iff_mem.2 g2];simp only [Bool.true_and,Bool.not_eq_true'];rw [List.any_eq_false];intro x hx hbar;unfold aJc at hbar;rw [Bool.and_eq_true] at hbar;have hr:=et hbar.2
 have:(aNf prof (aAa os)).contains (a.2.2.1,a.2.1,b.2.2.1)=true:=by
  unfold aNf;rw [hp];simp only [cond_false];rw [List.contains_iff_mem];refine List.mem_map.2 ⟨x.o,List.mem_filter.2 ⟨List.mem_map.2 ⟨x,hx,rfl⟩,hbar.1⟩,?_⟩;unfold aRk;rw [hr,e];rfl
 rw [this] at h2;cases h2
theorem aJm {os:List ObR}{prof f:Bys}{m0:Int}{nd:List Bys}{mi:List Int}(hok:∀ a∈asQ (aAa os),ArcB a) (hv:aAe (aAa os)=true) (h0:0≤m0) {Q:List Nat}{tm:Nat→Int}(hS:TripS (aFl prof (aAa os) f) (asQ (aAa os)) f m0 nd mi Q tm) {i:Nat}(h1:1≤i) (h2:i<nd.length) {x1 x2:Bys}{y1 y2:Int}(e1:nd[i-1]?=some x1) (e2:nd[i]?=some x2) (e3:mi[i-1]?=some y1) (e4:mi[i]?=some y2) {bf:List Bys}(hb1:i=1→bf=[]) (hb2:1<i→∃ q a,Q[i-2]?=some q∧(asQ (aAa os))[q]?=some a∧a.2.2.1∈bf) :
  y1<y2∧0≤y1∧∃ q a,Q[i-1]?=some q∧(asQ (aAa os))[q]?=some a∧a.2.2.1∈aAH os (asQ (aAa os)) x1 x2 y1 y2 bf (prof==aIp):=by
 obtain ⟨p1,p2,p3,p4⟩:=hS;have hN:=aD9 (prof:=prof) hok f;rw [p1,List.length_cons,List.length_map] at h2;obtain ⟨j,rfl⟩:∃ j,i=j+1:=⟨i-1,by omega⟩;rw [Nat.add_sub_cancel] at e1 e3 ⊢;obtain ⟨q,hq⟩:=geb (l:=Q) (i:=j) (by omega)
 have ex2:x2=toN (asQ (aAa os)) q:=by
  rw [p1,List.getElem?_cons_succ,List.getElem?_map,hq] at e2;exact (Option.some.inj e2).symm
 have ey2:y2=tm q:=by
  rw [p2,List.getElem?_cons_succ,List.getElem?_map,hq] at e4;exact (Option.some.inj e4).symm
 have key:∃ a,(asQ (aAa os))[q]?=some a∧a.1=x1∧0≤y1∧aIB (aFK prof (aAa os) a.2.2.1) a y1=some y2∧aNE os bf (prof==aIp) x1 a.2.2.1=true:=by
  cases j with
  | zero =>
   obtain ⟨g1,g2,g3⟩:=p3 q hq;obtain ⟨a,ha⟩:=geb (l:=asQ (aAa os)) (i:=q) g1;rw [aQ2 ha] at g2;rw [aMo ha] at g3;have ex:x1=f:=by rw [p1] at e1;exact (Option.some.inj e1).symm
   have ey:y1=m0:=by rw [p2] at e3;exact (Option.some.inj e3).symm
   refine ⟨a,ha,by rw [ex];exact et g2,by omega,by rw [ey,ey2];exact g3,?_⟩;rw [hb1 rfl];rfl
  | succ j =>
   obtain ⟨k,hk⟩:=geb (l:=Q) (i:=j) (by have:=gl hq;omega);obtain ⟨g1,g2,g3,g4,g5⟩:=p4 j k q hk hq;obtain ⟨a,ha⟩:=geb (l:=asQ (aAa os)) (i:=q) g2;obtain ⟨b,hb⟩:=geb (l:=asQ (aAa os)) (i:=k) g1;rw [aQ3 hb ha] at g3;rw [aMo ha] at g4
   have ex:x1=b.2.1:=by
    rw [p1,List.getElem?_cons_succ,List.getElem?_map,hk] at e1;rw [←Option.some.inj e1];exact aJn hb
   have ey:y1=tm k:=by
    rw [p2,List.getElem?_cons_succ,List.getElem?_map,hk] at e3;exact (Option.some.inj e3).symm
   have hab:b.2.1=a.1:=by unfold aEo at g3;rw [Bool.and_eq_true] at g3;exact et g3.1
   refine ⟨a,ha,by rw [ex,hab],by omega,by rw [ey,ey2];exact g4,?_⟩;obtain ⟨q2,b2,hq2,hb2,hm⟩:=hb2 (by omega);have hq2:Q[j]?=some q2:=hq2;rw [hk] at hq2;cases hq2;rw [hb] at hb2;cases hb2;unfold aNE
   cases hp:prof==aIp with
   | true=>simp
   | false =>
    rw [Bool.or_eq_true];refine .inr (List.any_eq_true.2 ⟨_,hm,?_⟩);rw [ex,hab];exact aPQ (by rw [aNz];exact gm hb) (by rw [aNz];exact gm ha) g3 hp
 obtain ⟨a,ha,k1,k2,k3,k4⟩:=key;have haS:a∈AS os:=by rw [aNz];exact gm ha
 have haB:=hok a (gm ha);refine ⟨(aEO (prof:=prof) haS haB k2 (by unfold aBq;rw [aGB];exact k3)).1,k2,q,a,hq,ha,?_⟩;unfold aAH;refine List.mem_map.2 ⟨a,List.mem_filter.2 ⟨gm ha,?_⟩,rfl⟩;unfold aDT;rw [k1,k4,aLZ hv haS haB k2 k3,ex2,aJn ha];simp
theorem aJx {g:Bys}:∀ {rows:List (Bys×Int)},rows.any (fun r=>r.1==g)=true→∃ r∈rows,r.1=g∧aG8 rows g=r.2
 | [],h=>by cases h
 | r::l,h=>by
  rw [List.any_cons] at h;unfold aG8
  cases e:r.1==g with
  | true=>exact ⟨r,.head _,et e,rfl⟩
  | false =>
   rw [e,Bool.false_or] at h;obtain ⟨r2,h1,h2,h3⟩:=aJx h;exact ⟨r2,.tail _ h1,h2,h3⟩
theorem aLQ {g:Bys}:∀ {rows:List (Bys×Int)},rows.any (fun r=>r.1==g)=false→(∀ r∈rows,¬ r.1=g)∧aG8 rows g = -1
 | [],h=>⟨fun r h=>(by cases h),rfl⟩
 | r::l,h=>by
  rw [List.any_cons,Bool.or_eq_false_iff] at h;obtain ⟨h1,h2⟩:=aLQ h.2;refine ⟨fun x hx=>?_,by unfold aG8;rw [h.1];exact h2⟩;rcases List.mem_cons.1 hx with rfl | hx
  ·exact ef h.1
  ·exact h1 x hx
theorem aOV {os:List ObR}{f g prof:Bys}{m0 n:Int}(h:aDG (aAa os) prof m0 [f,g]=0) (hn:0≤n∧n≤10080):aBa os f n prof m0=0:=by
 obtain ⟨h1,h2,h3,h4,h5,h6⟩:=aDi h;have hf:=h5 f (.head _);have hk:=h6 f (.head _);obtain ⟨k,o,e1,e2,e3⟩:=aBl hf
 have hnf:aBu f=true:=by
  have:=aEb h1 o (List.mem_of_getElem? e2);unfold aAG at this;simp only [Bool.and_eq_true] at this;rw [←e3];exact this.1.1.1.1.1.2
 have hv:aBO f n prof m0=true:=by unfold aBO;rw [hnf,h2];simp;omega
 have hno:aBH os f=false:=by unfold aBH;rw [aM3,hk];rfl
 unfold aBa;rw [hv,h1,decide_eq_false hf,hno];rfl
theorem aQT {l:List Ob}{f g prof:Bys}{m0:Int}(h:aDG l prof m0 [f,g]=0):aDG l prof m0 [f]=0:=Classical.byContradiction fun hn=>((aMS (g:=g)).1 hn).2 h
theorem aEv {os:List ObR}{f g prof:Bys}{m0 n x c:Int}{nd:List Bys}{mi:List Int}{rows:List (Bys×Int)}(hok:∀ a∈asQ (aAa os),ArcB a) (ht:aHe prof (aAa os) f g m0 0 nd mi) (hx:mi[mi.length-1]?=some x) (hn:0≤n∧n≤10080) (h:aSD os f n prof m0 c rows):c=0∧(x-m0≤n→aG8 rows g=x-m0)∧(¬ x-m0≤n→aG8 rows g = -1):=by
 have hc:aDG (aAa os) prof m0 [f,g]=0:=by
  rcases ht with ⟨h1,h2,_⟩ | ⟨h1,_⟩ | ⟨h1,_⟩
  ·exact absurd h2.symm h1
  ·exact h1
  ·exact h1
 have hck:=aOV hc hn;rcases h with ⟨h1,_⟩ | ⟨_,hR⟩
 ·exact absurd hck h1
 ·have hc0:c=0:=by
   rcases hR with ⟨h1,_⟩ | ⟨_,h1,_⟩ | ⟨_,_,h1,_⟩
   ·omega
   ·exact absurd (aQT hc) h1
   ·exact h1
  have hl:¬ mi.length=0:=fun e=>by rw [List.eq_nil_of_length_eq_zero e] at hx;cases hx
  have he:aNy 0 mi=some x:=by
   unfold aNy;rw [show ((mi.length:Int)==0)=false from by rw [beq_eq_false_iff_ne];omega];exact hx
  refine ⟨hc0,?_⟩
  cases hfo:rows.any (fun r=>r.1==g) with
  | true =>
   obtain ⟨r,q1,q2,q3⟩:=aJx hfo;obtain ⟨_,_,q⟩:=aJU (g:=g) hn hok hR hc0 ht (fo:=true) (mn:=aG8 rows g) (fun _=>⟨r,q1,q2,q3⟩) (fun h=>by cases h);obtain ⟨k1,k2⟩:=q x he;exact ⟨fun _=>k2 rfl,fun hn=>absurd (of_decide_eq_true k1.symm) hn⟩
  | false =>
   obtain ⟨q1,q2⟩:=aLQ hfo;obtain ⟨_,_,q⟩:=aJU (g:=g) hn hok hR hc0 ht (fo:=false) (mn:=0) (fun h=>by cases h) (fun _=>q1);obtain ⟨k1,_⟩:=q x he;exact ⟨fun hn=>absurd hn (of_decide_eq_false k1.symm),fun _=>q2⟩
def aAF (tags:List Tag):List Ob:=[⟨[110,49],1,0,0,[],[]⟩,⟨[110,50],1,300,0,[],[]⟩,⟨[110,51],1,400,0,[],[]⟩,⟨[119,49],2,0,0,[[110,49],[110,50],[110,51]],tags⟩]
theorem aQj:ObB ⟨[119,49],2,0,0,[[110,49],[110,50],[110,51]],[]⟩:=⟨by unfold B63;decide,by unfold B63;decide,by unfold B63;decide⟩
theorem aQh:ObB ⟨[119,49],2,0,0,[[110,49],[110,50],[110,51]],[([104,111,117,114,115],[109,111,32,49,58,48,48,45,50,58,48,48])]⟩:=⟨by unfold B63;decide,by unfold B63;decide,by unfold B63;decide⟩
theorem aBz {w:World}(s:Bys) (x:Int):Calls Tryz.prog 31 #[vS s,vI x] w fun e w'=>e = .returned (.agg #[vS s,vI 1,vI x,vI 0,vL none 0 0,vL none 0 0])∧Fr (fun _=>False) w w':=by
 refine beg Tryz.func31 rfl rfl [(0,vS s),(1,vI x)] rfl rfl fun Φ hΦ=>?_;have hM:=Mm.nil (fun _=>False) w;refine aAn 0 0 4 [] (cs:=#[vS [],vI 0,vI 0,vI 0,vL none 0 0,vL none 0 0]) (T:=52) (v:=fun b=>vP b 0) f0 hM fun aa w1 hM=>stm 1 4 [(8,.agg #[vS s,vI 1,vI x,vI 0,vL none 0 0,vL none 0 0])] 52 0 0 (.agg #[vS s,vI 1,vI x,vI 0,vL none 0 0,vL none 0 0]) f0 hM rfl fun w1 hM=>rtc 4 52 rfl (aAY 52 0 hM rfl rfl) f0 (hΦ _ _ ⟨rfl,hM.fr⟩)
theorem aQi {w:World}:Calls Tryz.prog 11 #[vS []] w fun e w'=>∃ v os,e = .returned (.agg #[v])∧aDy w' v os∧aAa os=aAF []∧Fr (fun _=>False) w w':=by
 refine beg Tryz.func11 rfl rfl [(0,vS [])] rfl rfl fun Φ hΦ=>?_;have hM:=Mm.nil (fun _=>False) w;refine aAn 0 0 2 [] (cs:=#[vL none 0 0]) (T:=24) (v:=fun b=>vP b 0) f0 hM fun ab w1 hM=>aAn 2 0 5 [(3,.func (.func 31) #[] #[])] (cs:=#[vS [110,49],vS [110,50],vS [110,51]]) (T:=9) (v:=fun b=>vL (some ⟨b,0,none⟩) 3 3) f0 hM fun aa w1 hM=>aBD 2 2 4 [(6,.agg #[vS [119,49],vI 2,vI 0,vI 0,vL (some ⟨aa,0,none⟩) 3 3,vL none 0 0])] [] 52 (.agg #[vS [119,49],vI 2,vI 0,vI 0,vL (some ⟨aa,0,none⟩) 3 3,vL none 0 0]) f0 hM fun ac w1 hM=>seg 5 0 [] (fc (rz (sne 9 ([]:Bys) []) rfl) f0) ?_;have hM:=hM.nl;refine drx [7,9] (fun γ=>[some (vL (some ⟨(bn (γ 0)),0,none⟩) 4 4),none]) _ (fun γ l=>[bk ab #[(bif l.getD 1 false then vL (some ⟨(bn (γ 0)),0,none⟩) 4 4 else vL none 0 0)] 24,bk aa #[vS [110,49],vS [110,50],vS [110,51]] 9,bk ac #[vS [119,49],vI 2,vI 0,vI 0,vL (some ⟨aa,0,none⟩) 3 3,vL none 0 0] 52,(bif l.getD 0 false then bk (bn (γ 0)) #[vS [110,49],vI 1,vI 0,vI 0,vL none 0 0,vL none 0 0,vS [110,50],vI 1,vI 300,vI 0,vL none 0 0,vL none 0 0,vS [110,51],vI 1,vI 400,vI 0,vL none 0 0,vL none 0 0,vS [119,49],vI 2,vI 0,vI 0,vL (some ⟨aa,0,none⟩) 3 3,vL none 0 0] 52 else aEc)]) (fun γ=>[]) hM (fun γ=>rfl) (fun γ l w5 hM=>(fc (tcl (aBz [110,49] 0)) (fc (tcl (aBz [110,50] 300)) (fc (tcl (aBz [110,51] 400)) (fc (lam 52 2 0 6 hM rfl) f0))))) ⟨aBY 0 7 3 20 (fun γ=>#[vS [110,49],vI 1,vI 0,vI 0,vL none 0 0,vL none 0 0,vS [110,50],vI 1,vI 300,vI 0,vL none 0 0,vL none 0 0,vS [110,51],vI 1,vI 400,vI 0,vL none 0 0,vL none 0 0,vS [119,49],vI 2,vI 0,vI 0,vL (some ⟨aa,0,none⟩) 3 3,vL none 0 0]) 52 (fun b=>vL (some ⟨b,0,none⟩) 4 4),aA6 1 9 24 0 0 (fun γ=>ab) (fun γ l=>#[(bif l.getD 1 false then vL (some ⟨(bn (γ 0)),0,none⟩) 4 4 else vL none 0 0)]) 24 (fun γ => .agg #[vL (some ⟨(bn (γ 0)),0,none⟩) 4 4]),trivial⟩ fun ad w1 hM=>?_;replace hM:Mm (fun _=>False) w w1 [bk ab #[vL (some ⟨(bn (ad 0)),0,none⟩) 4 4] 24,bk aa #[vS [110,49],vS [110,50],vS [110,51]] 9,bk ac #[vS [119,49],vI 2,vI 0,vI 0,vL (some ⟨aa,0,none⟩) 3 3,vL none 0 0] 52,bk (bn (ad 0)) #[vS [110,49],vI 1,vI 0,vI 0,vL none 0 0,vL none 0 0,vS [110,50],vI 1,vI 300,vI 0,vL none 0 0,vL none 0 0,vS [110,51],vI 1,vI 400,vI 0,vL none 0 0,vL none 0 0,vS [119,49],vI 2,vI 0,vI 0,vL (some ⟨aa,0,none⟩) 3 3,vL none 0 0] 52]:=hM
 have hOb:∀ b∈([⟨⟨[110,49],1,0,0,[],[]⟩,none,0,none,0⟩,⟨⟨[110,50],1,300,0,[],[]⟩,none,0,none,0⟩,⟨⟨[110,51],1,400,0,[],[]⟩,none,0,none,0⟩,⟨⟨[119,49],2,0,0,[[110,49],[110,50],[110,51]],[]⟩,(some ⟨aa,0,none⟩),3,none,0⟩]:List ObR),ObIn w1 b:=by
  intro b hb;simp only [List.mem_cons,List.not_mem_nil,or_false] at hb;rcases hb with rfl | rfl | rfl | rfl
  ·exact aDo _ _ _ _ _ (by unfold B63;decide)
  ·exact aDo _ _ _ _ _ (by unfold B63;decide)
  ·exact aDo _ _ _ _ _ (by unfold B63;decide)
  ·exact ⟨aCR (hM.get 1 rfl) _ 3 (fun _=>rfl) rfl rfl,⟨Nat.le_refl _,Nat.zero_le _,.inl rfl,fun _=>rfl⟩,aQj⟩
 exact rtc 2 24 rfl (aAY 24 0 hM rfl rfl) f0 (hΦ _ _ ⟨_,[⟨⟨[110,49],1,0,0,[],[]⟩,none,0,none,0⟩,⟨⟨[110,50],1,300,0,[],[]⟩,none,0,none,0⟩,⟨⟨[110,51],1,400,0,[],[]⟩,none,0,none,0⟩,⟨⟨[119,49],2,0,0,[[110,49],[110,50],[110,51]],[]⟩,(some ⟨aa,0,none⟩),3,none,0⟩],rfl,⟨(aCR (f:=obL) (c:=6) (hM.get 3 rfl) [⟨⟨[110,49],1,0,0,[],[]⟩,none,0,none,0⟩,⟨⟨[110,50],1,300,0,[],[]⟩,none,0,none,0⟩,⟨⟨[110,51],1,400,0,[],[]⟩,none,0,none,0⟩,⟨⟨[119,49],2,0,0,[[110,49],[110,50],[110,51]],[]⟩,(some ⟨aa,0,none⟩),3,none,0⟩] 4 (fun _=>rfl) rfl rfl).src,hOb⟩,rfl,hM.fr⟩)
theorem aQg {w:World}:Calls Tryz.prog 11 #[vS [109,111,32,49,58,48,48,45,50,58,48,48]] w fun e w'=>∃ v os,e = .returned (.agg #[v])∧aDy w' v os∧aAa os=aAF [([104,111,117,114,115],[109,111,32,49,58,48,48,45,50,58,48,48])]∧Fr (fun _=>False) w w':=by
 refine beg Tryz.func11 rfl rfl [(0,vS [109,111,32,49,58,48,48,45,50,58,48,48])] rfl rfl fun Φ hΦ=>?_;have hM:=Mm.nil (fun _=>False) w;refine aAn 0 0 2 [] (cs:=#[vL none 0 0]) (T:=24) (v:=fun b=>vP b 0) f0 hM fun ac w1 hM=>aAn 2 0 5 [(3,.func (.func 31) #[] #[])] (cs:=#[vS [110,49],vS [110,50],vS [110,51]]) (T:=9) (v:=fun b=>vL (some ⟨b,0,none⟩) 3 3) f0 hM fun aa w1 hM=>aBD 2 2 4 [(6,.agg #[vS [119,49],vI 2,vI 0,vI 0,vL (some ⟨aa,0,none⟩) 3 3,vL none 0 0])] [] 52 (.agg #[vS [119,49],vI 2,vI 0,vI 0,vL (some ⟨aa,0,none⟩) 3 3,vL none 0 0]) f0 hM fun ad w1 hM=>aAn 4 2 11 [(10,.agg #[vS [104,111,117,114,115],vS [109,111,32,49,58,48,48,45,50,58,48,48]])] (cs:=#[vS [104,111,117,114,115],vS [109,111,32,49,58,48,48,45,50,58,48,48]]) (T:=54) (v:=fun b=>vL (some ⟨b,0,none⟩) 1 1) (fc (rz (sne 9 ([109,111,32,49,58,48,48,45,50,58,48,48]:Bys) []) rfl) f0) hM fun ab w1 hM=>stm 4 4 [(12,vP ad 5)] 50 2 5 (vL (some ⟨ab,0,none⟩) 1 1) f0 hM rfl fun w1 hM=>seg 5 0 [] f0 ?_;have hM:=hM.nl;refine drx [7,9] (fun γ=>[some (vL (some ⟨(bn (γ 0)),0,none⟩) 4 4),none]) _ (fun γ l=>[bk ac #[(bif l.getD 1 false then vL (some ⟨(bn (γ 0)),0,none⟩) 4 4 else vL none 0 0)] 24,bk aa #[vS [110,49],vS [110,50],vS [110,51]] 9,bk ad #[vS [119,49],vI 2,vI 0,vI 0,vL (some ⟨aa,0,none⟩) 3 3,vL (some ⟨ab,0,none⟩) 1 1] 52,bk ab #[vS [104,111,117,114,115],vS [109,111,32,49,58,48,48,45,50,58,48,48]] 54,(bif l.getD 0 false then bk (bn (γ 0)) #[vS [110,49],vI 1,vI 0,vI 0,vL none 0 0,vL none 0 0,vS [110,50],vI 1,vI 300,vI 0,vL none 0 0,vL none 0 0,vS [110,51],vI 1,vI 400,vI 0,vL none 0 0,vL none 0 0,vS [119,49],vI 2,vI 0,vI 0,vL (some ⟨aa,0,none⟩) 3 3,vL (some ⟨ab,0,none⟩) 1 1] 52 else aEc)]) (fun γ=>[]) hM (fun γ=>rfl) (fun γ l w5 hM=>(fc (tcl (aBz [110,49] 0)) (fc (tcl (aBz [110,50] 300)) (fc (tcl (aBz [110,51] 400)) (fc (lam 52 2 0 6 hM rfl) f0))))) ⟨aBY 0 7 4 20 (fun γ=>#[vS [110,49],vI 1,vI 0,vI 0,vL none 0 0,vL none 0 0,vS [110,50],vI 1,vI 300,vI 0,vL none 0 0,vL none 0 0,vS [110,51],vI 1,vI 400,vI 0,vL none 0 0,vL none 0 0,vS [119,49],vI 2,vI 0,vI 0,vL (some ⟨aa,0,none⟩) 3 3,vL (some ⟨ab,0,none⟩) 1 1]) 52 (fun b=>vL (some ⟨b,0,none⟩) 4 4),aA6 1 9 24 0 0 (fun γ=>ac) (fun γ l=>#[(bif l.getD 1 false then vL (some ⟨(bn (γ 0)),0,none⟩) 4 4 else vL none 0 0)]) 24 (fun γ => .agg #[vL (some ⟨(bn (γ 0)),0,none⟩) 4 4]),trivial⟩ fun ae w1 hM=>?_;replace hM:Mm (fun _=>False) w w1 [bk ac #[vL (some ⟨(bn (ae 0)),0,none⟩) 4 4] 24,bk aa #[vS [110,49],vS [110,50],vS [110,51]] 9,bk ad #[vS [119,49],vI 2,vI 0,vI 0,vL (some ⟨aa,0,none⟩) 3 3,vL (some ⟨ab,0,none⟩) 1 1] 52,bk ab #[vS [104,111,117,114,115],vS [109,111,32,49,58,48,48,45,50,58,48,48]] 54,bk (bn (ae 0)) #[vS [110,49],vI 1,vI 0,vI 0,vL none 0 0,vL none 0 0,vS [110,50],vI 1,vI 300,vI 0,vL none 0 0,vL none 0 0,vS [110,51],vI 1,vI 400,vI 0,vL none 0 0,vL none 0 0,vS [119,49],vI 2,vI 0,vI 0,vL (some ⟨aa,0,none⟩) 3 3,vL (some ⟨ab,0,none⟩) 1 1] 52]:=hM
 have hOb:∀ b∈([⟨⟨[110,49],1,0,0,[],[]⟩,none,0,none,0⟩,⟨⟨[110,50],1,300,0,[],[]⟩,none,0,none,0⟩,⟨⟨[110,51],1,400,0,[],[]⟩,none,0,none,0⟩,⟨⟨[119,49],2,0,0,[[110,49],[110,50],[110,51]],[([104,111,117,114,115],[109,111,32,49,58,48,48,45,50,58,48,48])]⟩,(some ⟨aa,0,none⟩),3,(some ⟨ab,0,none⟩),1⟩]:List ObR),ObIn w1 b:=by
  intro b hb;simp only [List.mem_cons,List.not_mem_nil,or_false] at hb;rcases hb with rfl | rfl | rfl | rfl
  ·exact aDo _ _ _ _ _ (by unfold B63;decide)
  ·exact aDo _ _ _ _ _ (by unfold B63;decide)
  ·exact aDo _ _ _ _ _ (by unfold B63;decide)
  ·exact ⟨aCR (hM.get 1 rfl) _ 3 (fun _=>rfl) rfl rfl,aCR (hM.get 3 rfl) _ 1 (fun _=>rfl) rfl rfl,aQh⟩
 exact rtc 2 24 rfl (aAY 24 0 hM rfl rfl) f0 (hΦ _ _ ⟨_,[⟨⟨[110,49],1,0,0,[],[]⟩,none,0,none,0⟩,⟨⟨[110,50],1,300,0,[],[]⟩,none,0,none,0⟩,⟨⟨[110,51],1,400,0,[],[]⟩,none,0,none,0⟩,⟨⟨[119,49],2,0,0,[[110,49],[110,50],[110,51]],[([104,111,117,114,115],[109,111,32,49,58,48,48,45,50,58,48,48])]⟩,(some ⟨aa,0,none⟩),3,(some ⟨ab,0,none⟩),1⟩],rfl,⟨(aCR (f:=obL) (c:=6) (hM.get 4 rfl) [⟨⟨[110,49],1,0,0,[],[]⟩,none,0,none,0⟩,⟨⟨[110,50],1,300,0,[],[]⟩,none,0,none,0⟩,⟨⟨[110,51],1,400,0,[],[]⟩,none,0,none,0⟩,⟨⟨[119,49],2,0,0,[[110,49],[110,50],[110,51]],[([104,111,117,114,115],[109,111,32,49,58,48,48,45,50,58,48,48])]⟩,(some ⟨aa,0,none⟩),3,(some ⟨ab,0,none⟩),1⟩] 4 (fun _=>rfl) rfl rfl).src,hOb⟩,rfl,hM.fr⟩)
def rdA:List Arc:=[([110,49],[110,50],[119,49],300),([110,50],[110,49],[119,49],300),([110,50],[110,51],[119,49],100),([110,51],[110,50],[119,49],100)]
theorem aQe:aCU 10000=100:=by
 unfold aCU;rw [show decide ((10000:Int)<0)=false from rfl];show ((aBE 10000:Nat):Int)=100;rw [aFf (r:=100) (by decide) (by decide)];rfl
section
variable {t:List Tag}
theorem aRH (ht:t=[]∨t=[([104,111,117,114,115],[109,111,32,49,58,48,48,45,50,58,48,48])]):aAW (aAF t) [110,49] [110,50]=300∧aAW (aAF t) [110,50] [110,49]=300∧aAW (aAF t) [110,50] [110,51]=100∧aAW (aAF t) [110,51] [110,50]=100:=by
 have h3:max 1 (aCU 90000)=300:=by rw [aQd];decide
 have h1:max 1 (aCU 10000)=100:=by rw [aQe];decide
 unfold aAW;rcases ht with rfl | rfl
 ·rw [show aCJ ((aA1 (aAF []) [110,49]).getD (0,0)) ((aA1 (aAF []) [110,50]).getD (0,0))=90000 by decide +kernel,show aCJ ((aA1 (aAF []) [110,50]).getD (0,0)) ((aA1 (aAF []) [110,49]).getD (0,0))=90000 by decide +kernel,show aCJ ((aA1 (aAF []) [110,50]).getD (0,0)) ((aA1 (aAF []) [110,51]).getD (0,0))=10000 by decide +kernel,show aCJ ((aA1 (aAF []) [110,51]).getD (0,0)) ((aA1 (aAF []) [110,50]).getD (0,0))=10000 by decide +kernel];exact ⟨h3,h3,h1,h1⟩
 ·rw [show aCJ ((aA1 (aAF [([104,111,117,114,115],[109,111,32,49,58,48,48,45,50,58,48,48])]) [110,49]).getD (0,0)) ((aA1 (aAF [([104,111,117,114,115],[109,111,32,49,58,48,48,45,50,58,48,48])]) [110,50]).getD (0,0))=90000 by decide +kernel,show aCJ ((aA1 (aAF [([104,111,117,114,115],[109,111,32,49,58,48,48,45,50,58,48,48])]) [110,50]).getD (0,0)) ((aA1 (aAF [([104,111,117,114,115],[109,111,32,49,58,48,48,45,50,58,48,48])]) [110,49]).getD (0,0))=90000 by decide +kernel,show aCJ ((aA1 (aAF [([104,111,117,114,115],[109,111,32,49,58,48,48,45,50,58,48,48])]) [110,50]).getD (0,0)) ((aA1 (aAF [([104,111,117,114,115],[109,111,32,49,58,48,48,45,50,58,48,48])]) [110,51]).getD (0,0))=10000 by decide +kernel,show aCJ ((aA1 (aAF [([104,111,117,114,115],[109,111,32,49,58,48,48,45,50,58,48,48])]) [110,51]).getD (0,0)) ((aA1 (aAF [([104,111,117,114,115],[109,111,32,49,58,48,48,45,50,58,48,48])]) [110,50]).getD (0,0))=10000 by decide +kernel];exact ⟨h3,h3,h1,h1⟩
theorem aRI (ht:t=[]∨t=[([104,111,117,114,115],[109,111,32,49,58,48,48,45,50,58,48,48])]):asP (aAF t)=rdA:=by
 obtain ⟨h1,h2,h3,h4⟩:=aRH ht
 have e:asP (aAF t)=[([110,49],[110,50],[119,49],aAW (aAF t) [110,49] [110,50]),([110,50],[110,49],[119,49],aAW (aAF t) [110,49] [110,50]),([110,50],[110,51],[119,49],aAW (aAF t) [110,50] [110,51]),([110,51],[110,50],[119,49],aAW (aAF t) [110,50] [110,51])]:=by
  rcases ht with rfl | rfl<;>kernel_rfl
 rw [e,h1,h3];rfl
theorem aJ1 (ht:t=[]∨t=[([104,111,117,114,115],[109,111,32,49,58,48,48,45,50,58,48,48])]):asQ (aAF t)=rdA:=by
 unfold asQ;rw [aRI ht];decide +kernel
end
theorem aQn:Tab (aFl car (aAF []) [110,49]) 10 (tbL [some 13,some 16,some 14,some 15]):=by
 rw [aMp,aJ1 (.inl rfl)];exact aL2 (pr:=fun i=>[none,some 0,some 0,some 2].getD i none) (by decide +kernel) fun i hi=>aLz hi
theorem aQm:Tab (aFl car (aAF [([104,111,117,114,115],[109,111,32,49,58,48,48,45,50,58,48,48])]) [110,49]) 10 (tbL [some 63,some 66,some 64,some 65]):=by
 rw [aMp,aJ1 (.inr rfl)];exact aL2 (pr:=fun i=>[none,some 0,some 0,some 2].getD i none) (by decide +kernel) fun i hi=>aLz hi
theorem aRJ:∀ a∈rdA,ArcB a:=by
 intro a ha;unfold rdA at ha;simp only [List.mem_cons,List.not_mem_nil,or_false] at ha;rcases ha with rfl | rfl | rfl | rfl<;>exact ⟨by unfold B63;decide,by unfold B63;decide,by unfold B63;decide,by decide,by decide⟩
theorem aLU {prof f g:Bys}{t:List Tag}{T:List (Option Int)}(ht:t=[]∨t=[([104,111,117,114,115],[109,111,32,49,58,48,48,45,50,58,48,48])]) (hc:aDG (aAF t) prof 10 [f,g]=0) (hfg:f≠g) (hT0:Tab (aFl prof (aAF t) f) 10 (tbL T)) {c:Int}{nd:List Bys}{mi:List Int}(h:aHe prof (aAF t) f g 10 c nd mi) :
  (aAJ rdA (tbL T) g 4=none∧c=12∧nd=[]∧mi=[])∨∃ i,aAJ rdA (tbL T) g 4=some i∧c=0∧nd=((bkP (aTi prof (aAF t) rdA f) 10 (tbL T) i).map (toN rdA)++[f]).reverse∧mi=((bkP (aTi prof (aAF t) rdA f) 10 (tbL T) i).map (fun j=>(tbL T j).getD 0)++[10]).reverse:=by
 rcases h with ⟨h1,_⟩ | ⟨_,h2,_⟩ | ⟨_,_,u,hT,h3⟩
 ·exact absurd hc h1
 ·exact absurd h2 hfg
 ·have hok:=aD9 (prof:=prof) (l:=aAF t) (by rw [aJ1 ht];exact aRJ) f;have e:=hT.uniq hok (by decide) hT0;subst e;rw [aMp,aJ1 ht] at h3;exact h3
theorem aUe {c:Int}{nd:List Bys}{mi:List Int}(h:aHe car (aAF []) [110,49] [110,51] 10 c nd mi):c=0∧mi=[10,13,14]:=by
 rcases aLU (.inl rfl) (by decide +kernel) (by decide) aQn h with ⟨h1,_⟩ | ⟨i,hi,rfl,rfl,rfl⟩
 ·exact absurd h1 (by decide +kernel)
 ·rw [show aAJ rdA (tbL [some 13,some 16,some 14,some 15]) [110,51] 4=some 2 by decide +kernel] at hi;cases hi;exact ⟨rfl,by decide +kernel⟩
theorem aUd {c:Int}{nd:List Bys}{mi:List Int}(h:aHe car (aAF [([104,111,117,114,115],[109,111,32,49,58,48,48,45,50,58,48,48])]) [110,49] [110,51] 10 c nd mi):c=0∧mi=[10,63,64]:=by
 rcases aLU (.inr rfl) (by decide +kernel) (by decide) aQm h with ⟨h1,_⟩ | ⟨i,hi,rfl,rfl,rfl⟩
 ·exact absurd h1 (by decide +kernel)
 ·rw [show aAJ rdA (tbL [some 63,some 66,some 64,some 65]) [110,51] 4=some 2 by decide +kernel] at hi;cases hi;exact ⟨rfl,by decide +kernel⟩
theorem aLs {prof:Bys}{os:List ObR}{l:List Ob}{f g:Bys}{m0 c:Int}{nd:List Bys}{mi:List Int}(hp:aAa os=l) (h:aNo prof os f g m0 c nd mi):aHe prof l f g m0 c nd mi:=by subst hp;exact aLt h
theorem aLV {os:List ObR}{t:List Tag}(ht:t=[]∨t=[([104,111,117,114,115],[109,111,32,49,58,48,48,45,50,58,48,48])]) (h:aAa os=aAF t):(aAm os).length≤500:=by
 rw [aNi,h,aRI ht];decide
theorem aHM {os:List ObR}{n:Nat}(h:aDC (aAa os) (n:Int)=true):os.length≤n:=by
 unfold aDC at h;simp only [Bool.and_eq_true,decide_eq_true_eq,aA3] at h;omega
theorem aNS {l:List ObR}{f:ObR→Nat}(h:∀ b∈l,f b≤24):(l.map f).sum≤24*l.length:=by
 induction l with
 | nil=>simp
 | cons b l ih =>
  have h1:=h b (.head _);have h2:=ih fun c hc=>h c (.tail _ hc);rw [List.map_cons,List.sum_cons,List.length_cons];omega
theorem aC3 {os:List ObR}(h:aDC (aAa os) 20=true) (hv:aAe (aAa os)=true):(aAm os).length≤500:=by
 have hp:=aB4 hv;have hl:=aHM (n:=20) h;unfold aAm;rw [List.length_flatMap]
 have:=aNS (l:=os) (f:=fun b=>(aC7 os b).length) fun b hb=>by
  unfold aC7
  cases hk:b.o.kind==2 with
  | false=>simp
  | true =>
   simp only [cond_true]
   cases hw:aFC (aAw (aAa os)) os b.o.id with
   | none=>simp
   | some c =>
    obtain ⟨hc,hid,_,_⟩:=aDN hw;have:=aJt (aAa os) b.o.id c.o.refs;have:=aKE h c hc;simp only;omega
 omega
theorem aHQ {w:World}(hTe:Te w):Calls Tryz.prog 4 #[] w fun e w'=>e = .returned (vB true)∧Fr (fun _=>False) w w':=by
 refine beg Tryz.func4 rfl rfl [] rfl rfl fun Φ hΦ=>?_;have hM:=Mm.nil (fun _=>False) w;refine aOX 1 0 6 [] (K:=fun u w8=>∃ v os,u = .agg #[v]∧aDy w8 v os∧aAa os=aAF []) f0 hM (aQi.mono fun e w8 ⟨v,os,h1,h2,h3,h4⟩=>⟨⟨_,h1,v,os,rfl,h2,h3⟩,h4⟩) fun u w1 ⟨af,os155,hu,hO155,hp155⟩ hM f1=>?_;subst hu;replace hM:Mm (fun _=>False) w w1 []:=hM;refine aB3 1 1 7 [] (K:=fun u Mn=>∃ v1 v2 nd,u = .tuple #[.agg #[v1,v2],vI 0]∧Mn=[rw_ stL 1 9 v1 nd,rw_ inL 1 3 v2 [10,13,14]]) [] [] f0 hM rfl rfl (by decide) (fun hm=>((aEu (prof:=car) (f:=[110,49]) (g:=[110,51]) hO155 (by decide) (by unfold B63;decide) (fun _=>aLV (.inl rfl) hp155) (hTe.fr hM.fr) 10).mono fun e w8 ⟨v1,v2,c,nd,mi,h1,h2,h3⟩=>by obtain ⟨rfl,rfl⟩:=aUe (aLs hp155 h2);exact ⟨_,_,h1,⟨v1,v2,nd,rfl,rfl⟩,aEL h3 fun _ h=>h.elim⟩)) fun u Mn w1 hK hM=>?_;obtain ⟨ag,ah,nd156,rfl,rfl⟩:=hK;obtain ⟨qm156,cm156,em156,sm156⟩:=(hM.src (j:=1) rfl inT.len).op;subst em156;have bm156:=sm156.bnd;obtain ⟨qn156,cn156,en156,sn156⟩:=(hM.src (j:=0) rfl stT.len).op;subst en156;replace hM:Mm (fun _=>False) w w1 [_,_]:=hM;refine aBD 1 5 1 [(8,.agg #[vL qn156 nd156.length cn156,vL qm156 3 cm156]),(9,vI 0)] [] 30 (.agg #[vL qn156 nd156.length cn156,vL qm156 3 cm156]) f0 hM fun aa w1 hM=>aOX 2 0 11 [(2,vI 0)] (K:=fun u w8=>∃ v os,u = .agg #[v]∧aDy w8 v os∧aAa os=aAF [([104,111,117,114,115],[109,111,32,49,58,48,48,45,50,58,48,48])]) f0 hM (aQg.mono fun e w8 ⟨v,os,h1,h2,h3,h4⟩=>⟨⟨_,h1,v,os,rfl,h2,h3⟩,h4⟩) fun u w1 ⟨ai,os158,hu,hO158,hp158⟩ hM f1=>?_;subst hu;replace hM:Mm (fun _=>False) w w1 [_,_,bk aa #[vL qn156 nd156.length cn156,vL qm156 3 cm156] 30]:=hM;refine aB3 2 1 12 [] (K:=fun u Mn=>∃ v1 v2 nd,u = .tuple #[.agg #[v1,v2],vI 0]∧Mn=[rw_ stL 1 9 v1 nd,rw_ inL 1 3 v2 [10,63,64]]) [0,1,2] [] f0 hM rfl rfl (by decide) (fun hm=>((aEu (prof:=car) (f:=[110,49]) (g:=[110,51]) hO158 (by decide) (by unfold B63;decide) (fun _=>aLV (.inr rfl) hp158) (hTe.fr hM.fr) 10).mono fun e w8 ⟨v1,v2,c,nd,mi,h1,h2,h3⟩=>by obtain ⟨rfl,rfl⟩:=aUd (aLs hp158 h2);exact ⟨_,_,h1,⟨v1,v2,nd,rfl,rfl⟩,aEL h3 fun _ h=>h.elim⟩)) fun u Mn w1 hK hM=>?_;obtain ⟨aj,ak,nd159,rfl,rfl⟩:=hK;obtain ⟨qm159,cm159,em159,sm159⟩:=(hM.src (j:=4) rfl inT.len).op;subst em159;have bm159:=sm159.bnd;obtain ⟨qn159,cn159,en159,sn159⟩:=(hM.src (j:=3) rfl stT.len).op;subst en159;replace hM:Mm (fun _=>False) w w1 [_,_,bk aa #[vL qn156 nd156.length cn156,vL qm156 3 cm156] 30,_,_]:=hM;refine aBD 2 5 3 [(13,.agg #[vL qn159 nd159.length cn159,vL qm159 3 cm159]),(14,vI 0)] [] 30 (.agg #[vL qn159 nd159.length cn159,vL qm159 3 cm159]) f0 hM fun al w1 hM=>?_;obtain ⟨am,ab,-⟩:=hM.el inT (j:=1) rfl (show ([10,13,14]:List Int)[0]?=some 10 from rfl);obtain ⟨an,ac,-⟩:=hM.el inT (j:=1) rfl (show ([10,13,14]:List Int)[2]?=some 14 from rfl);obtain ⟨ao,ad,-⟩:=hM.el inT (j:=4) rfl (show ([10,63,64]:List Int)[1]?=some 63 from rfl);obtain ⟨ap,ae,-⟩:=hM.el inT (j:=4) rfl (show ([10,63,64]:List Int)[2]?=some 64 from rfl);exact rt1 0 (vB true) rfl (fc (ldm 28 2 1 hM rfl rfl) (fc (ldm 28 5 1 hM rfl rfl) (fc (ldm 28 2 1 hM rfl rfl) (fc (ix 28 cm156 ab (gl (show ([10,13,14]:List Int)[0]?=some 10 from rfl))) (fc (ldr 3 1 0 inT hM rfl ab (show ([10,13,14]:List Int)[0]?=some 10 from rfl) rfl) (fc (ldm 28 2 1 hM rfl rfl) (fc (ix 28 cm156 ac (gl (show ([10,13,14]:List Int)[2]?=some 14 from rfl))) (fc (ldr 3 1 0 inT hM rfl ac (show ([10,13,14]:List Int)[2]?=some 14 from rfl) rfl) (fc (ldm 28 5 1 hM rfl rfl) (fc (ix 28 cm159 ad (gl (show ([10,63,64]:List Int)[1]?=some 63 from rfl))) (fc (ldr 3 4 0 inT hM rfl ad (show ([10,63,64]:List Int)[1]?=some 63 from rfl) rfl) (fc (ldm 28 5 1 hM rfl rfl) (fc (ix 28 cm159 ae (gl (show ([10,63,64]:List Int)[2]?=some 64 from rfl))) (fc (ldr 3 4 0 inT hM rfl ae (show ([10,63,64]:List Int)[2]?=some 64 from rfl) rfl) f0)))))))))))))) (hΦ _ _ ⟨rfl,hM.fr⟩)
end Go.Proofs.YtnhljdeohelgjaaGreatDoor
namespace Go.Pl
open Go.RowKit Go.Proofs.YtnhljdeohelgjaaGreatDoor
section
variable {P:Program}{w w0:World}{rd:Option Nat}{B:Code}{r n:Nat}{L:Frm}{ef:List Nat}{V:Lts→List (Option Value)}{F:Lts→List Ft}{ds:List Deferred}{F0:Nat→Prop}{Mf:Lts→List Bool→List Ent}
theorem aRc (p i j d:Nat) {f:FuncId}(args:Lts→Array Value) (K:Value→Ent→Prop)
  (hc:∀ γ fr wm,Mm F0 w0 wm (Mf γ (flg B r ef i fr))→Calls P f (args γ) wm fun x w'=>∃ u e,x = .returned u∧K u e∧Mm (fun _=>False) wm w' [e])
  (hj:∀ γ fr,(Mf γ (flg B r ef i fr))[j]?=some aEc:=by intro γ fr;kernel_rfl)
  (hm:∀ γ fr u e,(Mf γ (flg B r ef i fr)).set j (pfE (K u) e)=Mf (aFX (aB6 γ p u) p e) ((flg B r ef i fr).set p true):=by intro γ fr u e;kernel_rfl)
  (hV:∀ γ u e,((V (aFX (aB6 γ p u) p e))[p]?).getD none=some u:=by intro γ u e;rfl)
  (hs:∀ γ wm,enL P wm (aAz B r) i (frX P w n B r L ef V F i γ)=some (f,args γ,some d,wm):=by intro γ wm;kernel_rfl):Arm rd P w n B r L ef V F ds F0 w0 Mf p i:=by
 intro γ fr a wm Q o ho En hw hM;obtain ⟨h1,h2⟩:=aIT ho En (hs γ wm);refine aCA (R:=fun v w'=>∃ e,K v e∧Mm (fun _=>False) wm w' [e]) h1 ((hc γ fr wm hM).mono fun x w' ⟨u,e,g1,g2,g3⟩=>⟨u,g1,e,g2,g3⟩) fun u w' ⟨e,g2,g3⟩=>?_
 have hM':=hM.put (w':=w') j (hj γ fr) g3.fr (fun k _ e=>e.elim) (e':=pfE (K u) e) ⟨g2,g3.get 0 rfl⟩ (fun k hk => .inr (by
  rcases Nat.lt_or_ge k wm.heap.size with h | h
  ·exact (g3.own e (.head _) k hk h).elim
  ·exact h))
 rw [hm] at hM';exact ⟨u,e,by rw [hV,h2];rfl,hM'⟩
end
end Go.Pl
namespace Go.Proofs.YtnhljdeohelgjaaGreatDoor
open Go.RowKit Go.Pl
theorem taddw {P:Program}{w:World}{t:TypeId}(m n:Int) (ht:P.underlying t=some (.int .i64)):Ft.ok P w (.g2 (fun x y => .binOp .add t x y t) (.int .i64 m) (.int .i64 n) (.int .i64 (IntKind.i64.wrap (m+n)))):=fun _ _ _ _ ho hx hy=>by simp [execOp,ho,hx,hy,go_sem,ht]
theorem aNG {os:List ObR}{prof f:Bys}{m0:Int}{nd:List Bys}{mi:List Int}(hok:∀ a∈asQ (aAa os),ArcB a) (h0:0≤m0) (h1:m0≤9999999) {Q:List Nat}{tm:Nat→Int}(hS:TripS (aFl prof (aAa os) f) (asQ (aAa os)) f m0 nd mi Q tm):∀ y∈mi,m0≤y∧y≤6000000000:=by
  obtain ⟨p1,p2,p3,p4⟩:=hS;have hN:=aD9 (prof:=prof) hok f;intro y hy;rw [p2] at hy;rcases List.mem_cons.1 hy with rfl | hy
  · exact ⟨Int.le_refl _,by omega⟩
  · obtain ⟨q,hq,rfl⟩:=List.mem_map.1 hy
    obtain ⟨j,hj⟩:=List.getElem?_of_mem hq
    cases j with
    | zero =>
      obtain ⟨g1,g2,g3⟩:=p3 q hj;have:=hN.gt g1 h0 g3;have:=hN.le g1 h0 g3;omega
    | succ j =>
      obtain ⟨k,hk⟩:=geb (l:=Q) (i:=j) (by have:=gl hj;omega);obtain ⟨g1,g2,g3,g4,g5⟩:=p4 j k q hk hj;have:=hN.gt g2 (by omega) g4;have:=hN.le g2 (by omega) g4;omega
theorem aPW {os:List ObR}{A:List Arc}{f t:Bys}{a z:Int}{bf:List Bys}{ft:Bool}(h:∀ x∈A,B63 x.2.2.1):∀ s∈aAH os A f t a z bf ft,B63 s:=by
  intro s hs;obtain ⟨x,hx,rfl⟩:=List.mem_map.1 hs;exact h x (List.mem_filter.1 hx).1
abbrev AT3 (Φ:Ending→World→Prop):=AtO Tryz.prog (aAr Tryz.f3) (aA2 (bodyPost Tryz.prog Tryz.f3 Φ)) [] 210
theorem aFF {w:World}{v:Value}{os:List ObR}(hm:aDy w v os) {prof f:Bys}(hp63:prof.length≤9223372036854775807) (hf63:B63 f) (hTe:Te w) (g:Bys) (m0:Int):Calls Tryz.prog 3 #[.agg #[v],vS prof,vS f,vS g,vI m0] w fun e w'=>e = .returned (vB true)∧Fr (fun _=>False) w w':=by
  have hmv:=hm;obtain ⟨p0,cp0,hp0,-⟩:=hm.1.op;subst hp0;have hok:∀ a∈asQ (aAa os),ArcB a:=aNz os▸fun a ha=>aF7 (fun b hb=>(hmv.2 b hb).bnd) a (aDa ha);refine beg Tryz.func3 rfl rfl [(0,.agg #[vL p0 os.length cp0]),(1,vS prof),(2,vS f),(3,vS g),(4,vI m0)] rfl rfl fun Φ hΦ=>?_;have hM:=Mm.nil (fun _=>False) w;refine aAn 0 0 5 [] (cs:=#[vL p0 os.length cp0]) (T:=24) (v:=fun b=>vP b 0) f0 hM fun aa w1 hM=>aAq 1 0 24 [] f0 hM (aHQ (hTe.fr hM.fr)) fun w1 hM=>aAq 2 1 26 [(11,vB true),(25,.agg #[vL p0 os.length cp0])] (fc (lam 24 0 0 1 hM rfl) f0) hM (aIQ (hmv.fr hM.fr) 20) fun w1 hM=>seg 2 4 [(28,vB (!(aDC (aAa os) 20)))] f0 ?_;cases ac:(aDC (aAa os) 20)
  ·exact rt1 10 (vB true) rfl f0 (hΦ _ _ ⟨rfl,hM.fr⟩)
  have hol:os.length≤10000:=Nat.le_trans (aHM (n:=20) ac) (by decide);refine seg 2 14 [(38,vB (decide (180<(IntKind.i64.wrap ((IntKind.i64.wrap ((prof.length:Int)+(f.length:Int)))+(g.length:Int))))))] (fc (aGz 9 prof) (fc (aGz 9 f) (fc (taddw (prof.length:Int) (f.length:Int) u3_) (fc (aGz 9 g) (fc (taddw (IntKind.i64.wrap ((prof.length:Int)+(f.length:Int))) (g.length:Int) u3_) f0))))) ?_;cases ay:(decide (180<(IntKind.i64.wrap ((IntKind.i64.wrap ((prof.length:Int)+(f.length:Int)))+(g.length:Int)))))
  rotate_left
  ·have bb:=dt ay;exact rt1 10 (vB true) rfl f0 (hΦ _ _ ⟨rfl,hM.fr⟩)
  have bb:=df ay;refine aB3 4 5 46 [(41,.agg #[vL p0 os.length cp0]),(42,vS prof),(43,vS f),(44,vS g),(45,vI m0)] (K:=fun u Mn=>∃ v1 v2 c nd mi,u = .tuple #[.agg #[v1,v2],vI c]∧aNo prof os f g m0 c nd mi∧Mn=[rw_ stL 1 9 v1 nd,rw_ inL 1 3 v2 mi]) [0] [] (fc (lam 24 0 0 1 hM rfl) f0) hM rfl rfl (by decide) (fun hm=>((aEu (prof:=prof) (f:=f) (g:=g) (hmv.fr hM.fr) hp63 hf63 (fun hv=>aC3 ac hv) (hTe.fr hM.fr) m0).mono fun e w8 ⟨v1,v2,c,nd,mi,h1,h2,h3⟩=>⟨_,_,h1,⟨v1,v2,c,nd,mi,rfl,h2,rfl⟩,aEL h3 fun _ h=>h.elim⟩)) fun u Mn w1 hK hM=>?_;obtain ⟨v1,v2,c,nd,mi,rfl,hT,rfl⟩:=hK;obtain ⟨qm,cm,em,sm⟩:=(hM.src (j:=2) rfl inT.len).op;subst em;have bm:=sm.bnd;obtain ⟨qn,cn,en,sn⟩:=(hM.src (j:=1) rfl stT.len).op;subst en;have bn9:=sn.bnd;replace hM:Mm (fun _=>False) w w1 [bk aa #[vL p0 os.length cp0] 24,_,_]:=hM;have hTq:=aLt hT;have hsh:=aKd hok hTq;refine aBD 4 9 12 [(47,.agg #[vL qn nd.length cn,vL qm mi.length cm]),(48,vI c)] [] 30 (.agg #[vL qn nd.length cn,vL qm mi.length cm]) f0 hM fun ab w1 hM=>seg 6 2 [(14,vI (nd.length:Int)),(53,vB (!(c==0)))] (fc (ldm 27 3 0 hM rfl rfl) f0) ?_;cases ag:(c==0)
  ·have bc:=ef ag;obtain ⟨-,hn0,hm0⟩:¬ c=0∧nd=[]∧mi=[]:=hsh.resolve_right fun z=>ef ag z.1;have hn1:nd.length=0:=by rw [hn0];rfl
   have hm1:mi.length=0:=by rw [hm0];rfl
   refine seg 7 6 [(59,vB ((nd.length:Int)==0))] f0 ?_;cases aj:((nd.length:Int)==0)
   ·have bd:=ef aj;exact absurd (ef aj) (by omega)
   have bd:=et aj;exact rt1 10 (vB ((mi.length:Int)==0)) rfl (fc (ldm 28 3 1 hM rfl rfl) f0) (hΦ _ _ ⟨by rw [hm0];rfl,hM.fr⟩)
  have bc:=et ag;obtain ⟨hc0,hv,h0,h09,hml,hlast,-,Q,tm,hS⟩:=hsh.resolve_left fun z=>z.1 (et ag);subst hc0;have hbd:=aNG hok h0 h09 hS;have hnd0:nd[0]?=some f:=by rw [hS.nd];rfl
  have hmi0:mi[0]?=some m0:=by rw [hS.mi];rfl
  have hpos:=gl hnd0;have hlen:(aAm os).length≤300000000:=Nat.le_trans (aC3 ac hv) (by decide);have hA6:(AS os).length≤1000000:=Nat.le_trans (aFi _) (Nat.le_trans (aC3 ac hv) (by decide));have hAB:∀ x∈AS os,B63 x.2.2.1:=fun x hx=>(hok x (aNz os▸hx)).f3;refine seg 8 3 [(67,vB ((nd.length:Int)==0))] f0 ?_;cases ak:((nd.length:Int)==0)
  rotate_left
  ·have be:=et ak;exact absurd (et ak) (by omega)
  have be:=ef ak;refine seg 8 10 [(74,vB (!((mi.length:Int)==(nd.length:Int))))] (fc (ldm 28 3 1 hM rfl rfl) f0) ?_;cases al:((mi.length:Int)==(nd.length:Int))
  ·have bg:=ef al;exact absurd (ef al) (by omega)
  have bg:=et al;obtain ⟨na,hna⟩:=geb (l:=nd) (i:=0) (by omega);obtain ⟨b2,az,-⟩:=hM.el stT (j:=1) rfl hna;refine seg 8 18 [(82,vB (!(na==f)))] (fc (ldm 27 3 0 hM rfl rfl) (fc (ix 27 cn az (gl hna)) (fc (ldr 9 1 0 stT hM rfl az hna rfl) (fc (sne 9 na f) f0)))) ?_;cases am:(na==f)
  ·have bh:=ef am;exact absurd (Option.some.inj (hna.symm.trans hnd0)) (ef am)
  have bh:=et am;obtain ⟨nz,hnz⟩:=geb (l:=nd) (i:=(nd.length-1)) (by omega);obtain ⟨b3,a0,-⟩:=hM.el stT (j:=1) rfl hnz;refine seg 8 28 [(92,vB (!(nz==g)))] (fc (ldm 27 3 0 hM rfl rfl) (fc (aC8 (nd.length:Int) 1 u3_) (fc (ix 27 cn a0 (gl hnz) (z:=((nd.length:Int)-1)) (hz:=(by omega))) (fc (ldr 9 1 0 stT hM rfl a0 hnz rfl) (fc (sne 9 nz g) f0))))) ?_;cases an:(nz==g)
  ·have bi:=ef an;exact absurd (Option.some.inj (hnz.symm.trans hlast)) (ef an)
  have bi:=et an;obtain ⟨ma,hma⟩:=geb (l:=mi) (i:=0) (by omega);have bma:=hbd _ (gm hma);obtain ⟨b4,a1,-⟩:=hM.el inT (j:=2) rfl hma;refine seg 8 35 [(99,vB (!(ma==m0)))] (fc (ldm 28 3 1 hM rfl rfl) (fc (ix 28 cm a1 (gl hma)) (fc (ldr 3 2 0 inT hM rfl a1 hma rfl) f0))) ?_;cases ao:(ma==m0)
  ·have bj:=ef ao;exact absurd (Option.some.inj (hma.symm.trans hmi0)) (ef ao)
  have bj:=et ao;obtain ⟨yl,hyl⟩:=geb (l:=mi) (i:=(nd.length-1)) (by omega);have byl:=hbd _ (gm hyl);obtain ⟨b5,a2,-⟩:=hM.el inT (j:=2) rfl hyl;refine seg 11 2 [(15,vI (yl-m0)),(109,vB (decide (300<(yl-m0))))] (fc (ldm 28 3 1 hM rfl rfl) (fc (aC8 (nd.length:Int) 1 u3_) (fc (ix 28 cm a2 (gl hyl) (z:=((nd.length:Int)-1)) (hz:=(by omega))) (fc (ldr 3 2 0 inT hM rfl a2 hyl rfl) (fc (aC8 yl m0 u3_) f0))))) ?_;cases a3:(decide (300<(yl-m0)))
  rotate_left
  ·have bl:=dt a3;exact rt1 10 (vB true) rfl f0 (hΦ _ _ ⟨rfl,hM.fr⟩)
  have bl:=df a3;have hT3:yl-m0≤300:=by omega
  have hyl2:mi[mi.length-1]?=some yl:=hml▸hyl;refine aHY 13 1 112 [(111,.agg #[vL p0 os.length cp0])] (f:=arL) (c:=4) (E:=68) (A:=(AS os)) (fc (lam 24 0 0 1 hM rfl) f0) hM (aGo (hmv.fr hM.fr) hv hlen) fun u w1 hM=>?_;obtain ⟨ad,ae,eqa171,sqa171⟩:=(hM.src (j:=4) rfl arT.len).op;subst eqa171;have hM:=hM.row (f:=stL) (c:=1) (E:=9);refine seg 16 0 [(16,vL ad (AS os).length ae),(17,vL none 0 0),(18,vI 1)] f0 ?_
  have bo:∀ (a4:Nat) (i:Nat) (vo:Value) (bf:List Bys) (w2:World),1≤i→i≤nd.length→(i=1→bf=[])→(1<i→∃ q a,Q[i-2]?=some q∧(asQ (aAa os))[q]?=some a∧a.2.2.1∈bf)→(∀ s∈bf,B63 s)→Mm (fun _=>False) w w2 [bk aa #[vL p0 os.length cp0] 24,rw_ stL 1 9 (vL qn nd.length cn) nd,rw_ inL 1 3 (vL qm mi.length cm) mi,bk ab #[vL qn nd.length cn,vL qm mi.length cm] 30,rw_ arL 4 68 (vL ad (AS os).length ae) (AS os),rw_ stL 1 9 vo bf]→a4=nd.length-i→AT3 Φ (some (16,0)) [(18,vI (i:Int)),(17,vo),(16,vL ad (AS os).length ae),(15,vI (yl-m0)),(14,vI (nd.length:Int)),(12,vP ab 0),(11,vB true),(5,vP aa 0),(1,vS prof),(2,vS f),(3,vS g),(4,vI m0)] w2:=by
   refine aBh fun a4 bp i vo bf w2 hi1 hi2 hb1 hb2 hbB hM b6=>?_;obtain ⟨qv,cv,ev,-⟩:=(hM.src (j:=5) rfl stT.len).op;subst ev;refine seg 16 3 [(115,vB (decide ((i:Int)<(nd.length:Int))))] f0 ?_;cases a5:(decide ((i:Int)<(nd.length:Int)))
   rotate_left
   ·have bq:=dt a5;refine seg 18 0 [] f0 ?_;have hM:=hM.q ((Fr.refl _ _).drew);obtain ⟨y2,hy2⟩:=geb (l:=mi) (i:=i) (by omega);have by2:=hbd _ (gm hy2);obtain ⟨b7,ah,-⟩:=hM.el inT (j:=2) rfl hy2;obtain ⟨y1,hy1⟩:=geb (l:=mi) (i:=(i-1)) (by omega);have by1:=hbd _ (gm hy1);obtain ⟨b8,ai,-⟩:=hM.el inT (j:=2) rfl hy1;refine drq [(129,vB (decide (y2≤y1)))] rfl (fc (ldm 28 3 1 hM rfl rfl) (fc (ix 28 cm ah (gl hy2)) (fc (ldr 3 2 0 inT hM rfl ah hy2 rfl) (fc (ldm 28 3 1 hM rfl rfl) (fc (aC8 (i:Int) 1 u3_) (fc (ix 28 cm ai (gl hy1) (z:=((i:Int)-1)) (hz:=(by omega))) (fc (ldr 3 2 0 inT hM rfl ai hy1 rfl) f0))))))) ?_;cases ap:(decide (y2≤y1))
    rotate_left
    ·have br:=dt ap;obtain ⟨x1,hx1⟩:=geb (l:=nd) (i:=(i-1)) (by omega);obtain ⟨x2,hx2⟩:=geb (l:=nd) (i:=i) (by omega);obtain ⟨hst,-⟩:=aJm hok hv h0 hS hi1 (by omega) hx1 hx2 hy1 hy2 hb1 hb2;exact absurd (dt ap) (by omega)
    have br:=df ap;refine seg 20 0 [] f0 ?_;obtain ⟨x1,hx1⟩:=geb (l:=nd) (i:=(i-1)) (by omega);obtain ⟨b9,a6,-⟩:=hM.el stT (j:=1) rfl hx1;obtain ⟨x2,hx2⟩:=geb (l:=nd) (i:=i) (by omega);obtain ⟨ca,a7,-⟩:=hM.el stT (j:=1) rfl hx2;have hM:=hM.nl;refine drx [27] (fun γ=>[some ((γ 0))]) _ (fun γ l=>[bk aa #[vL p0 os.length cp0] 24,rw_ stL 1 9 (vL qn nd.length cn) nd,rw_ inL 1 3 (vL qm mi.length cm) mi,bk ab #[vL qn nd.length cn,vL qm mi.length cm] 30,rw_ arL 4 68 (vL ad (AS os).length ae) (AS os),rw_ stL 1 9 (vL qv bf.length cv) bf,(bif l.getD 0 false then pfE ((fun u e=>e=rw_ stL 1 9 u (aAH os (AS os) x1 x2 y1 y2 bf (prof==[102,111,111,116]))) (γ 0)) (γ.e 0) else aEc)]) (fun γ=>[(17,(γ 0))]) hM (fun γ=>rfl) (fun γ l w5 hM=>(fc (lam 24 0 0 1 hM rfl) (fc (ldm 27 3 0 hM rfl rfl) (fc (aC8 (i:Int) 1 u3_) (fc (ix 27 cn a6 (gl hx1) (z:=((i:Int)-1)) (hz:=(by omega))) (fc (ldr 9 1 0 stT hM rfl a6 hx1 rfl) (fc (ldm 27 3 0 hM rfl rfl) (fc (ix 27 cn a7 (gl hx2)) (fc (ldr 9 1 0 stT hM rfl a7 hx2 rfl) (fc (ldm 28 3 1 hM rfl rfl) (fc (aC8 (i:Int) 1 u3_) (fc (ix 28 cm ai (gl hy1) (z:=((i:Int)-1)) (hz:=(by omega))) (fc (ldr 3 2 0 inT hM rfl ai hy1 rfl) (fc (ldm 28 3 1 hM rfl rfl) (fc (ix 28 cm ah (gl hy2)) (fc (ldr 3 2 0 inT hM rfl ah hy2 rfl) (fc (seq 9 prof [102,111,111,116]) f0))))))))))))))))) ⟨aRc 0 27 6 157 (f:=8) (fun γ=>#[.agg #[vL p0 os.length cp0],vL ad (AS os).length ae,vS x1,vS x2,vI y1,vI y2,vL qv bf.length cv,vB (prof==[102,111,111,116])]) (fun u e=>e=rw_ stL 1 9 u (aAH os (AS os) x1 x2 y1 y2 bf (prof==[102,111,111,116]))) (fun γ fr wm hM=>(aKf (hmv.fr hM.fr) hv (hTe.fr hM.fr) (hM.src (j:=4) (show _=some (rw_ arL 4 68 (vL ad (AS os).length ae) (AS os)) by kernel_rfl) arT.len).p.2 (hM.src (j:=5) (show _=some (rw_ stL 1 9 (vL qv bf.length cv) bf) by kernel_rfl) stT.len).p.2 hA6 hbB hAB x1 x2 (by omega) (by omega) (by omega) (prof==[102,111,111,116])).mono fun e w9 ⟨u,h1,h2⟩=>⟨u,_,h1,rfl,h2⟩),trivial⟩ fun af w1 hM=>?_;replace hM:Mm (fun _=>False) w w1 [bk aa #[vL p0 os.length cp0] 24,_,_,bk ab #[vL qn nd.length cn,vL qm mi.length cm] 30,_,_,_]:=hM;have hU:=hM.unpf (Q:=(fun u e=>e=rw_ stL 1 9 u (aAH os (AS os) x1 x2 y1 y2 bf (prof==[102,111,111,116]))) (af 0)) (e:=af.e 0) (j:=6) rfl;have hge:af.e 0=rw_ stL 1 9 (af 0) (aAH os (AS os) x1 x2 y1 y2 bf (prof==[102,111,111,116])):=hU.1;have hM:=hU.2;clear hU;rw [hge] at hM;obtain ⟨v9,hv9⟩:∃ z,z=(af 0):=⟨_,rfl⟩;rw [←hv9] at hM;rw [←hv9];clear hge hv9;have hM:=hM.pick [0,1,2,3,4,6];replace hM:Mm (fun _=>False) w _ [bk aa #[vL p0 os.length cp0] 24,_,_,bk ab #[vL qn nd.length cn,vL qm mi.length cm] 30,_,_]:=hM;obtain ⟨qw,cw,ew,-⟩:=(hM.src (j:=5) rfl stT.len).op;subst ew;have hstep:∃ q a,Q[i-1]?=some q∧(asQ (aAa os))[q]?=some a∧a.2.2.1∈(aAH os (AS os) x1 x2 y1 y2 bf (prof==[102,111,111,116])):=by rw [aNz];exact (aJm hok hv h0 hS hi1 (by omega) hx1 hx2 hy1 hy2 hb1 hb2).2.2
    have hbB2:∀ s∈(aAH os (AS os) x1 x2 y1 y2 bf (prof==[102,111,111,116])),B63 s:=aPW hAB;refine seg 21 3 [(160,vB (((aAH os (AS os) x1 x2 y1 y2 bf (prof==[102,111,111,116])).length:Int)==0))] f0 ?_;cases aq:(((aAH os (AS os) x1 x2 y1 y2 bf (prof==[102,111,111,116])).length:Int)==0)
    ·have bs:=ef aq;refine seg 16 0 [(18,vI ((i:Int)+1))] (fc (aAh (i:Int) 1 u3_) f0) (aAb _ (bp _ (by omega) (i+1) (vL qw (aAH os (AS os) x1 x2 y1 y2 bf (prof==[102,111,111,116])).length cw) (aAH os (AS os) x1 x2 y1 y2 bf (prof==[102,111,111,116])) _ (by omega) (by omega) (fun h=>by omega) (fun _=>by obtain ⟨q,a,e1,e2,e3⟩:=hstep;exact ⟨q,a,by rw [show i+1-2=i-1 by omega];exact e1,e2,e3⟩) hbB2 hM rfl))
    have bs:=et aq;obtain ⟨q,a,-,-,hin⟩:=hstep;exact absurd (et aq) (by have:=List.length_pos_of_mem hin;omega)
   have bq:=df a5;refine aBD 23 6 19 [(166,.agg #[vI 5,vI 0,vI 1,vS [],vS [],vI 0,vL none 0 0,vS f,vI (yl-m0),vI 0,vI 0,vS [],vS prof,vI m0])] [] 43 (.agg #[vI 5,vI 0,vI 1,vS [],vS [],vI 0,vL none 0 0,vS f,vI (yl-m0),vI 0,vI 0,vS [],vS prof,vI m0]) f0 hM fun ar w1 hM=>aB3 24 2 170 [(168,.agg #[vL p0 os.length cp0]),(169,.agg #[vI 5,vI 0,vI 1,vS [],vS [],vI 0,vL none 0 0,vS f,vI (yl-m0),vI 0,vI 0,vS [],vS prof,vI m0])] (K:=fun u Mn=>∃ u0 c rows,u = .tuple #[u0,vI c]∧aSD os f (yl-m0) prof m0 c rows∧Mn=[rw_ rwL 2 90 u0 rows]) [0,1,2,3,4,5,6] [] (fc (lam 24 0 0 1 hM rfl) (fc (lam 43 6 0 14 hM rfl) f0)) hM rfl rfl (by decide) (fun hm=>((aGa (hmv.fr hM.fr) hp63 hf63 (fun hv=>aC3 ac hv) hol (hTe.fr hM.fr) (yl-m0) m0).mono fun e w8 ⟨u,c,rows,h1,h2,h3⟩=>⟨_,_,h1,⟨u,c,rows,rfl,h2,rfl⟩,aEL h3 fun _ h=>h.elim⟩)) fun u Mn w1 hK hM=>?_;obtain ⟨u1,c1,rows1,rfl,hR1,rfl⟩:=hK;obtain ⟨qr1,cr1,er1,sr1⟩:=(hM.src (j:=7) rfl rwT.len).op;subst er1;have br1:=sr1.bnd;replace hM:Mm (fun _=>False) w w1 [bk aa #[vL p0 os.length cp0] 24,_,_,bk ab #[vL qn nd.length cn,vL qm mi.length cm] 30,_,_,bk ar #[vI 5,vI 0,vI 1,vS [],vS [],vI 0,vL none 0 0,vS f,vI (yl-m0),vI 0,vI 0,vS [],vS prof,vI m0] 43,_]:=hM;refine stm 25 3 [(20,vL qr1 rows1.length cr1),(21,vI c1),(174,vI ((yl-m0)-1)),(175,vP ar 8)] 3 6 8 (vI ((yl-m0)-1)) (fc (aC8 (yl-m0) 1 u3_) f0) hM rfl fun w1 hM=>aB3 26 2 179 [(177,.agg #[vL p0 os.length cp0]),(178,.agg #[vI 5,vI 0,vI 1,vS [],vS [],vI 0,vL none 0 0,vS f,vI ((yl-m0)-1),vI 0,vI 0,vS [],vS prof,vI m0])] (K:=fun u Mn=>∃ u0 c rows,u = .tuple #[u0,vI c]∧aSD os f ((yl-m0)-1) prof m0 c rows∧Mn=[rw_ rwL 2 90 u0 rows]) [0,1,2,3,4,5,6,7] [] (fc (lam 24 0 0 1 hM rfl) (fc (lam 43 6 0 14 hM rfl) f0)) hM rfl rfl (by decide) (fun hm=>((aGa (hmv.fr hM.fr) hp63 hf63 (fun hv=>aC3 ac hv) hol (hTe.fr hM.fr) ((yl-m0)-1) m0).mono fun e w8 ⟨u,c,rows,h1,h2,h3⟩=>⟨_,_,h1,⟨u,c,rows,rfl,h2,rfl⟩,aEL h3 fun _ h=>h.elim⟩)) fun u Mn w1 hK hM=>?_;obtain ⟨u2,c2,rows2,rfl,hR2,rfl⟩:=hK;obtain ⟨qr2,cr2,er2,sr2⟩:=(hM.src (j:=8) rfl rwT.len).op;subst er2;have br2:=sr2.bnd;replace hM:Mm (fun _=>False) w w1 [bk aa #[vL p0 os.length cp0] 24,_,_,bk ab #[vL qn nd.length cn,vL qm mi.length cm] 30,_,_,bk ar #[vI 5,vI 0,vI 1,vS [],vS [],vI 0,vL none 0 0,vS f,vI ((yl-m0)-1),vI 0,vI 0,vS [],vS prof,vI m0] 43,_,_]:=hM;refine seg 27 3 [(22,vL qr2 rows2.length cr2),(23,vI c2),(184,vB (!(c1==0)))] f0 ?_;cases au:(c1==0)
   ·have bt:=ef au;exact absurd (aEv hok hTq hyl2 (by omega) hR1).1 (ef au)
   have bt:=et au;refine seg 27 6 [(187,vB (decide (0<(yl-m0))))] f0 ?_;cases a8:(decide (0<(yl-m0)))
   ·have bu:=df a8;refine aAq 27 13 195 [(192,vB false),(193,vL qr1 rows1.length cr1),(194,vS g)] f0 hM (aDX (hM.src (j:=7) rfl rwT.len).p.2 g) fun w1 hM=>seg 27 17 [(198,vB (!((aG8 rows1 g)==(yl-m0))))] f0 ?_;cases av:((aG8 rows1 g)==(yl-m0))
    ·have bv:=ef av;exact absurd ((aEv hok hTq hyl2 (by omega) hR1).2.1 (by omega)) (ef av)
    have bv:=et av;refine seg 29 5 [(200,vB true),(203,vB ((yl-m0)==0))] f0 ?_;cases a9:((yl-m0)==0)
    ·have bw:=ef a9;have hfar2:=aEv hok hTq hyl2 (by omega) hR2;refine aAq 29 7 206 [(204,vL qr2 rows2.length cr2),(205,vS g)] f0 hM (aDX (hM.src (j:=8) rfl rwT.len).p.2 g) fun w1 hM=>rt1 10 (vB ((aG8 rows2 g)==(-1))) rfl f0 (hΦ _ _ ⟨by rw [hfar2.2.2 (by omega)];rfl,hM.fr⟩)
    have bw:=et a9;exact rt1 10 (vB true) rfl f0 (hΦ _ _ ⟨rfl,hM.fr⟩)
   have bu:=dt a8;have hfar2:=aEv hok hTq hyl2 (by omega) hR2;refine seg 27 11 [(192,vB (!(c2==0)))] f0 ?_;cases aw:(c2==0)
   ·have bz:=ef aw;exact absurd hfar2.1 (ef aw)
   have bz:=et aw;refine aAq 27 13 195 [(193,vL qr1 rows1.length cr1),(194,vS g)] f0 hM (aDX (hM.src (j:=7) rfl rwT.len).p.2 g) fun w1 hM=>seg 27 17 [(198,vB (!((aG8 rows1 g)==(yl-m0))))] f0 ?_;cases ax:((aG8 rows1 g)==(yl-m0))
   ·have b0:=ef ax;exact absurd ((aEv hok hTq hyl2 (by omega) hR1).2.1 (by omega)) (ef ax)
   have b0:=et ax;refine seg 29 5 [(200,vB true),(203,vB ((yl-m0)==0))] f0 ?_;cases ba:((yl-m0)==0)
   ·have b1:=ef ba;have hfar2:=aEv hok hTq hyl2 (by omega) hR2;refine aAq 29 7 206 [(204,vL qr2 rows2.length cr2),(205,vS g)] f0 hM (aDX (hM.src (j:=8) rfl rwT.len).p.2 g) fun w1 hM=>rt1 10 (vB ((aG8 rows2 g)==(-1))) rfl f0 (hΦ _ _ ⟨by rw [hfar2.2.2 (by omega)];rfl,hM.fr⟩)
   have b1:=et ba;exact rt1 10 (vB true) rfl f0 (hΦ _ _ ⟨rfl,hM.fr⟩)
  exact aAb _ (bo _ 1 (vL none 0 0) [] _ (Nat.le_refl _) (by omega) (fun _=>rfl) (fun h=>absurd h (by decide)) (fun _ h=>by cases h) hM rfl)
open Go.ChangeShapes Go.WideShapes
section
variable {H:Type}{enc:TypeId×Value→H}{W:World}{sp:Nat→Bool}{held:Bool}{n:Nat}{cs:List Value}{x:DataW H×List MemPlace}
theorem aGJ {α:Type}(dflt:α) (f:α→List Value) (c:Nat) {T E:TypeId}(hT:Tryz.prog.underlying T=some (.slice E)) (hc:Tryz.prog.cellsOf E=c) (hlen:∀ a,(f a).length=c) (hc0:0<c) (Q:α→Prop) (hel:∀ m cs x,DataW.trod enc Tryz.prog W 0 sp held m E cs=some x→∃ a,cs=f a∧Q a)
  (h:DataW.trod enc Tryz.prog W 0 sp held n T cs=some x):∃ (l:List α) (p:Option Addr) (cap:Nat),cs=[.slice p l.length cap]∧SrcP f c W p cap l∧∀ a∈l,Q a:=by
 rcases Deep.open_slice hT h with ⟨rfl,_⟩ | ⟨a,len,cap,m,n,D,Pl,rfl,_,hl,hm,hmm,_,hx⟩
 ·exact ⟨[],none,0,rfl,⟨Nat.le_refl _,Nat.zero_le _,.inl rfl,fun _=>rfl⟩,fun _ h=>(by cases h)⟩
 ·rw [hc] at hx;have hlm:len≤m:=by rw [hmm];split<;>omega
  have hall:∀ i,i<len→∃ s:α,(∀ j,j<c→W.cell? ((a.add (i*c)).add j)=(f s)[j]?)∧Q s:=fun i hi=>by
   obtain ⟨cs',h1,h2⟩:=hx i (by omega);obtain ⟨_,_,h3⟩:=World.cells?_some h1;obtain ⟨s,rfl,hq⟩:=hel _ _ _ h2;exact ⟨s,fun j hj=>by rw [h3 j hj],hq⟩
  haveI:Inhabited α:=⟨dflt⟩
  obtain ⟨g,hg⟩:=Deep.choose_lt hall;refine ⟨(List.range len).map g,some a,cap,by simp,⟨by simpa using hl,hm,?_,fun h=>by cases h⟩,fun s hs=>?_⟩
  ·rcases Nat.eq_zero_or_pos len with h0 | h0
   ·left;rw [h0];rfl
   ·right
    have hspot:a=⟨a.block,a.off,none⟩∧a.block<W.heap.size:=by
     have:=(hg 0 h0).1 0 hc0;rw [Nat.zero_mul] at this;have e0:(a.add 0).add 0=a:=by simp [Addr.add]
     rw [e0] at this;obtain ⟨v0,hv0⟩:∃ v,(f (g 0))[0]?=some v:=⟨_,List.getElem?_eq_getElem (by rw [hlen];exact hc0)⟩;rw [hv0] at this;refine ⟨?_,World.block_lt_of_cell? W a this⟩
     cases a with
     | mk b o s =>
      cases s with
      | none=>rfl
      | some k =>
       unfold World.cell? at this
       split at this<;>simp at this
    refine ⟨a.block,a.off,by rw [←hspot.1],hspot.2,fun i s hs j v hv=>?_⟩;rw [List.getElem?_map] at hs
    have hi:i<len:=by
     cases h:(List.range len)[i]? with
     | none=>rw [h] at hs;cases hs
     | some x=>have:=(List.getElem?_eq_some_iff.1 h).1;simpa using this
    rw [List.getElem?_range hi] at hs;simp at hs;subst hs
    have hj:j<c:=by
     have:=(List.getElem?_eq_some_iff.1 hv).1;rw [hlen] at this;exact this
    have:=(hg i hi).1 j hj
    have e:((⟨a.block,a.off,none⟩:Addr).add (i*c)).add j=⟨a.block,a.off+i*c+j,none⟩:=by
     unfold Addr.add
     by_cases h1:i*c=0<;>by_cases h2:j=0<;>simp [h1,h2,Nat.add_assoc]
    rw [hv,hspot.1,e] at this;exact this
  ·obtain ⟨i,hi,rfl⟩:=List.mem_map.1 hs;exact (hg i (List.mem_range.1 hi)).2
set_option maxRecDepth 100000 in
theorem aEP (h:DataW.trod enc Tryz.prog W 0 sp held n 9 cs=some x):∃ s:Bys,cs=stL s∧B63 s:=by
 obtain ⟨s,rfl,_,hs⟩:=DataW.trod_string u9_ h;obtain ⟨l,rfl⟩:=aDs s;rw [aBk] at hs;exact ⟨l,rfl,by unfold maxLen at hs;unfold B63;omega⟩
set_option maxRecDepth 100000 in
theorem aGK (h:DataW.trod enc Tryz.prog W 0 sp held n 3 cs=some x):∃ m:Int,cs=[vI m]:=by
 obtain ⟨m,rfl,_⟩:=DataW.trod_int u3_ h;exact ⟨m,rfl⟩
set_option maxRecDepth 100000 in
theorem aOz (h:DataW.trod enc Tryz.prog W 0 sp held n 54 cs=some x):∃ t:Tag,cs=tgL t∧(B63 t.1∧B63 t.2):=by
 obtain ⟨xs,m,_,_,hl,hlen,hf⟩:=DataW.trod_struct Tryz.underlying54 h;rw [show Tryz.prog.cellsOf 54=2 by kernel_rfl] at hl
 match cs,hl with
 | [c0,c1],_ =>
 obtain ⟨y0,e0⟩:∃ y,xs[0]?=some y:=⟨_,List.getElem?_eq_getElem (by rw [hlen];simp)⟩;obtain ⟨y1,e1⟩:∃ y,xs[1]?=some y:=⟨_,List.getElem?_eq_getElem (by rw [hlen];simp)⟩;have h0:DataW.trod enc Tryz.prog W 0 sp held m 9 (List.take (Tryz.prog.cellsOf 9) (List.drop 0 [c0,c1]))=some y0:=(hf 0 _ rfl).trans e0;have h1:DataW.trod enc Tryz.prog W 0 sp held m 9 (List.take (Tryz.prog.cellsOf 9) (List.drop 1 [c0,c1]))=some y1:=(hf 1 _ rfl).trans e1;rw [show Tryz.prog.cellsOf 9=1 by kernel_rfl] at h0 h1;obtain ⟨s0,g0,b0⟩:=aEP h0;obtain ⟨s1,g1,b1⟩:=aEP h1;have g0:[c0]=[vS s0]:=g0;have g1:[c1]=[vS s1]:=g1;cases g0;cases g1;exact ⟨(s0,s1),rfl,b0,b1⟩
set_option maxRecDepth 100000 in
theorem aQu (h:DataW.trod enc Tryz.prog W 0 sp held n 41 cs=some x):∃ a b:Int,cs=[vI a,vI b]:=by
 obtain ⟨xs,m,_,_,hl,hlen,hf⟩:=DataW.trod_struct Tryz.underlying41 h;rw [show Tryz.prog.cellsOf 41=2 by kernel_rfl] at hl
 match cs,hl with
 | [c0,c1],_ =>
 obtain ⟨y0,e0⟩:∃ y,xs[0]?=some y:=⟨_,List.getElem?_eq_getElem (by rw [hlen];simp)⟩;obtain ⟨y1,e1⟩:∃ y,xs[1]?=some y:=⟨_,List.getElem?_eq_getElem (by rw [hlen];simp)⟩;have h0:DataW.trod enc Tryz.prog W 0 sp held m 3 (List.take (Tryz.prog.cellsOf 3) (List.drop 0 [c0,c1]))=some y0:=(hf 0 _ rfl).trans e0;have h1:DataW.trod enc Tryz.prog W 0 sp held m 3 (List.take (Tryz.prog.cellsOf 3) (List.drop 1 [c0,c1]))=some y1:=(hf 1 _ rfl).trans e1;rw [show Tryz.prog.cellsOf 3=1 by kernel_rfl] at h0 h1;obtain ⟨s0,g0⟩:=aGK h0;obtain ⟨s1,g1⟩:=aGK h1;have g0:[c0]=[vI s0]:=g0;have g1:[c1]=[vI s1]:=g1;cases g0;cases g1;exact ⟨s0,s1,rfl⟩
set_option maxRecDepth 100000 in
theorem aQv (h:DataW.trod enc Tryz.prog W 0 sp held n 52 cs=some x):∃ b:ObR,cs=obL b∧ObIn W b:=by
 obtain ⟨xs,m,_,_,hl,hlen,hf⟩:=DataW.trod_struct Tryz.underlying52 h;rw [show Tryz.prog.cellsOf 52=6 by kernel_rfl] at hl
 match cs,hl with
 | [c0,c1,c2,c3,c4,c5],_ =>
 obtain ⟨y0,e0⟩:∃ y,xs[0]?=some y:=⟨_,List.getElem?_eq_getElem (by rw [hlen];simp)⟩;obtain ⟨y1,e1⟩:∃ y,xs[1]?=some y:=⟨_,List.getElem?_eq_getElem (by rw [hlen];simp)⟩;obtain ⟨y2,e2⟩:∃ y,xs[2]?=some y:=⟨_,List.getElem?_eq_getElem (by rw [hlen];simp)⟩;obtain ⟨y3,e3⟩:∃ y,xs[3]?=some y:=⟨_,List.getElem?_eq_getElem (by rw [hlen];simp)⟩;obtain ⟨y4,e4⟩:∃ y,xs[4]?=some y:=⟨_,List.getElem?_eq_getElem (by rw [hlen];simp)⟩;have h0:DataW.trod enc Tryz.prog W 0 sp held m 9 (List.take (Tryz.prog.cellsOf 9) (List.drop 0 [c0,c1,c2,c3,c4,c5]))=some y0:=(hf 0 _ rfl).trans e0;have h1:DataW.trod enc Tryz.prog W 0 sp held m 3 (List.take (Tryz.prog.cellsOf 3) (List.drop 1 [c0,c1,c2,c3,c4,c5]))=some y1:=(hf 1 _ rfl).trans e1;have h2:DataW.trod enc Tryz.prog W 0 sp held m 41 (List.take (Tryz.prog.cellsOf 41) (List.drop 2 [c0,c1,c2,c3,c4,c5]))=some y2:=(hf 2 _ rfl).trans e2;have h3:DataW.trod enc Tryz.prog W 0 sp held m 27 (List.take (Tryz.prog.cellsOf 27) (List.drop 4 [c0,c1,c2,c3,c4,c5]))=some y3:=(hf 3 _ rfl).trans e3;have h4:DataW.trod enc Tryz.prog W 0 sp held m 50 (List.take (Tryz.prog.cellsOf 50) (List.drop 5 [c0,c1,c2,c3,c4,c5]))=some y4:=(hf 4 _ rfl).trans e4;rw [show Tryz.prog.cellsOf 9=1 by kernel_rfl] at h0;rw [show Tryz.prog.cellsOf 3=1 by kernel_rfl] at h1;rw [show Tryz.prog.cellsOf 41=2 by kernel_rfl] at h2;rw [show Tryz.prog.cellsOf 27=1 by kernel_rfl] at h3;rw [show Tryz.prog.cellsOf 50=1 by kernel_rfl] at h4;obtain ⟨s0,g0,b0⟩:=aEP h0;obtain ⟨s1,g1⟩:=aGK h1;obtain ⟨s2,s3,g2⟩:=aQu h2;obtain ⟨rs,pr,cr,g3,k3,b3⟩:=aGJ [] stL 1 Tryz.underlying27 (by kernel_rfl) (fun _=>rfl) (by decide) B63 (fun _ _ _ h=>aEP h) h3;obtain ⟨ts,pt,ct,g4,k4,b4⟩:=aGJ ([],[]) tgL 2 Tryz.underlying50 (by kernel_rfl) (fun _=>rfl) (by decide) (fun t=>B63 t.1∧B63 t.2) (fun _ _ _ h=>aOz h) h4;have g0:[c0]=[vS s0]:=g0;have g1:[c1]=[vI s1]:=g1;have g2:[c2,c3]=[vI s2,vI s3]:=g2;have g3:[c4]=[vL pr rs.length cr]:=g3;have g4:[c5]=[vL pt ts.length ct]:=g4;cases g0;cases g1;cases g2;cases g3;cases g4;exact ⟨⟨⟨s0,s1,s2,s3,rs,ts⟩,pr,cr,pt,ct⟩,rfl,k3,k4,b0,b3,b4⟩
set_option maxRecDepth 100000 in
theorem aO0 (h:DataW.trod enc Tryz.prog W 0 sp held n 24 cs=some x):∃ (os:List ObR) (v:Value),cs=[v]∧aDy W v os:=by
 obtain ⟨xs,m,_,_,hl,hlen,hf⟩:=DataW.trod_struct Tryz.underlying24 h;rw [show Tryz.prog.cellsOf 24=1 by kernel_rfl] at hl
 match cs,hl with
 | [c0],_ =>
 obtain ⟨y0,e0⟩:∃ y,xs[0]?=some y:=⟨_,List.getElem?_eq_getElem (by rw [hlen];simp)⟩;have h0:DataW.trod enc Tryz.prog W 0 sp held m 22 (List.take (Tryz.prog.cellsOf 22) (List.drop 0 [c0]))=some y0:=(hf 0 _ rfl).trans e0;rw [show Tryz.prog.cellsOf 22=1 by kernel_rfl] at h0;obtain ⟨os,p,cap,g0,k0,b0⟩:=aGJ ⟨⟨[],0,0,0,[],[]⟩,none,0,none,0⟩ obL 6 Tryz.underlying22 (by kernel_rfl) (fun _=>rfl) (by decide) (ObIn W) (fun _ _ _ h=>aQv h) h0;have g0:[c0]=[vL p os.length cap]:=g0;cases g0;exact ⟨os,_,rfl,k0.src,b0⟩
end
end Go.Proofs.YtnhljdeohelgjaaGreatDoor
namespace Go.Pl
open Go.RowKit Go.ChangeShapes Go.WideShapes
theorem aDP {H:Type}{enc:TypeId×Value→H}{P:Program}(hl:laidOutB P=true) {W W':World}(hb:Below W.heap.size W W') :
  ∀ (ts:List TypeId) (vs:List Value) (ds:List (DataW H)) (ps:List MemPlace),(∀ t∈ts,P.readableRec t=true∧t<P.types.size)→DataW.TrodAll enc P W 0 (fun _=>true) true ts vs ds ps→(∀ x∈ps,x.block<W.heap.size) →
   DataW.TrodAll enc P W' 0 (fun b=>decide (b<W.heap.size)) true ts vs ds ps
 | [],[],[],ps,_,h,_=>h
 | t::ts,v::vs,d::ds,ps,hr,h,hlt=>by
  obtain ⟨p,q,h1,h2,rfl⟩:=h
  exact ⟨p,q,Below.trod hl (hr t (by simp)).1 (hr t (by simp)).2 h1 hb (fun x hx=>hlt x (by simp [hx])),
   aDP hl hb ts vs ds q (fun t ht=>hr t (by simp [ht])) h2 (fun x hx=>hlt x (by simp [hx])),rfl⟩
 | [],[],_::_,_,_,h,_=>h.elim
 | [],_::_,_,_,_,h,_=>by cases h
 | _::_,[],_,_,_,h,_=>by cases h
 | _::_,_::_,[],_,_,h,_=>h.elim
theorem aOG {H:Type}{enc:TypeId×Value→H}{P:Program}(hl:laidOutB P=true) {fn:Func}{s:ChangeSpec}{apart fresh handsOn:Bool}{W W':World}{args:Array Value}{ds gs:List (DataW H)}{before:List MemPlace}
  (hread:∀ t∈fn.params.toList,P.readableRec t=true∧t<P.types.size) {tb:TypeId}(hres:fn.resultTypes=#[tb]) (htb:P.underlying tb=some .bool) (hvars:s.vars=[])
  (hs:s.fn H (ds++gs)={ results:=[.lit (.bool true)],args:=ds }) (hW:DataW.Whole enc P fn.params.toList s.vars apart W args.toList ds gs before) (hb:Below W.heap.size W W') :
  s.post enc P fn apart fresh handsOn false W args (.bool true) W':=by
 have hlt:=hW.lt;have hW0:=hW;obtain ⟨p,q,hA,hV,hpq,_,_⟩:=hW;refine ⟨ds,gs,before,[],p,[],hW0,?_,?_,?_,hb.frame _,fun h=>by cases h⟩
 ·rw [hs,hres];exact trodAll_mk1 (shut_bool htb _)
 ·rw [hs];exact aDP hl hb _ _ _ _ hread hA (fun x hx=>hlt x (by rw [hpq];simp [hx]))
 ·rw [hs,hvars];rfl
end Go.Pl
namespace Go.Proofs.YtnhljdeohelgjaaGreatDoor
open Go.RowKit Go.Pl Go.ChangeShapes Go.WideShapes
theorem aUp:laidOutB Tryz.prog=true:=by kernel_rfl
theorem aUo:ownKnob Tryz.prog.godebug=none:=by kernel_rfl
set_option maxRecDepth 100000 in
theorem aMM {W:World}{name:String}{g t:Nat}{s:String}{d:DataW Unit}{ms:Array _}(hg:Tryz.prog.globalNamed name=some g) (hty:(Tryz.prog.globals[g]?).map (·.type)=some t) (ht:Tryz.prog.underlying t=some (.interface ms)) (h:Lib.VarReads Tryz.prog W name (.iface s d)):aTy W g:=by
 obtain ⟨g',t',cs,fuel,p,hg',ht',hvar,hd⟩:=h;obtain rfl:=Option.some.inj (hg.symm.trans hg');obtain rfl:=Option.some.inj (hty.symm.trans ht')
 cases fuel with
 | zero=>cases hd
 | succ fuel =>
  unfold DataW.trod at hd;rw [ht] at hd;unfold World.var? at hvar;rw [hg] at hvar;simp only [Option.bind_some] at hvar
  split at hvar
  ·rename_i cs' T' fz hb;obtain rfl:=Option.some.inj hvar
   have key:∃ ev,cs'.toList=[ev]∧(ev = .nilIface∨∃ te pe,ev = .iface te pe):=by
    split at hd<;>first | (cases hd;done) | skip
    all_goals (rename_i h1 h2;first | (cases h1;done) | (cases h2;done) | (exact ⟨_,h2,.inl rfl⟩) | (exact ⟨_,h2,.inr ⟨_,_,rfl⟩⟩))
   obtain ⟨ev,h1,h2⟩:=key;refine ⟨ev,?_,h2⟩;have hz:cs'[0]?=some ev:=by rw [←Array.getElem?_toList,h1];rfl
   unfold World.cell?;simp [hb,hz]
  ·cases hvar
def aK4:List (String×DataW Unit):=[("math/bits.deBruijn32tab",Rows.laid_math_bits_deBruijn32tab),("math/bits.deBruijn64tab",Rows.laid_math_bits_deBruijn64tab),("internal/strconv.uint64pow10",Rows.laid_internal_strconv_uint64pow10),("strconv.ErrRange",Rows.laid_strconv_ErrRange),("strconv.ErrSyntax",Rows.laid_strconv_ErrSyntax),("unicode.White_Space",Rows.laid_unicode_White_Space),("strings.asciiSpace",Rows.laid_strings_asciiSpace)]
set_option maxRecDepth 100000 in
theorem aOP (os:Os) (args:Array Value):laidMetH Tryz.prog aK4 ((World.doorLaid Tryz.prog 86 os).forCall (fun _ _=>0) ⟨#[],args,[]⟩).memory :=
 laidMetH_of_parts3 (fuel:=8) (laidMet_of_run' 8 (by kernel_rfl) (by kernel_rfl)) (by kernel_rfl) (by kernel_rfl)
theorem aPs {W:World}{name:String}{k:IntKind}{zs:List Int}{g:Nat}{t e:TypeId}{n:Nat}(hg:Tryz.prog.globalNamed name=some g) (hty:(Tryz.prog.globals[g]?).map (·.type)=some t) (ht:Tryz.prog.underlying t=some (.array n e)) (he:Tryz.prog.underlying e=some (.int k)) (hce:Tryz.prog.cellsOf e=1) (hct:Tryz.prog.cellsOf t=n) (h:Lib.VarReads Tryz.prog W name (Lib.tabData k zs)):Lib.TabIs Tryz.prog W name k zs:=by
 obtain ⟨g',t',cs,fuel,p,hg',ht',hvar,hd⟩:=h;obtain rfl:=Option.some.inj (hg.symm.trans hg');obtain rfl:=Option.some.inj (hty.symm.trans ht');unfold Lib.TabIs;rw [hvar,←Lib.cells_of_tab ht he hce hct hd]
set_option maxRecDepth 100000 in
theorem aSN {W:World}(h:laidMetH Tryz.prog aK4 W):Tb W:=by
 rw [MakeChecks.laidMetH_plain _ _ _ (by kernel_rfl)] at h
 exact ⟨aPs (g:=6) (t:=387) (e:=197) (n:=20) (by kernel_rfl) (by kernel_rfl) (by kernel_rfl) (by kernel_rfl) (by kernel_rfl) (by kernel_rfl) (Lib.laidMet.reads h (d:=Rows.laid_internal_strconv_uint64pow10) (.tail _ (.tail _ (.head _)))),
  aPs (g:=5) (t:=171) (e:=5) (n:=256) (by kernel_rfl) (by kernel_rfl) (by kernel_rfl) (by kernel_rfl) (by kernel_rfl) (by kernel_rfl) (Lib.laidMet.reads h (d:=Rows.laid_strings_asciiSpace) (.tail _ (.tail _ (.tail _ (.tail _ (.tail _ (.tail _ (.head _))))))))⟩
set_option maxRecDepth 100000 in
theorem aSM {W:World}(h:laidMetH Tryz.prog aK4 W):Te W:=by
 have hT:=aSN h;rw [MakeChecks.laidMetH_plain _ _ _ (by kernel_rfl)] at h
 exact ⟨hT,aMM (g:=3) (t:=187) (by kernel_rfl) (by kernel_rfl) Tryz.underlying187 (Lib.laidMet.reads h (n := "strconv.ErrSyntax") (d:=Rows.laid_strconv_ErrSyntax) (.tail _ (.tail _ (.tail _ (.tail _ (.head _)))))),
  aMM (g:=4) (t:=187) (by kernel_rfl) (by kernel_rfl) Tryz.underlying187 (Lib.laidMet.reads h (n := "strconv.ErrRange") (d:=Rows.laid_strconv_ErrRange) (.tail _ (.tail _ (.tail _ (.head _)))))⟩
open Go
theorem aBm {a b:Bool}(h:a=true) (k:b=true):(a&&b)=true:=by rw [h,k];rfl
theorem jk0:(Rows.topTripsRow.wf (OpenSpec.ofChange Rows.topTripsSpec))=true:=by kernel_rfl
theorem jk1:(laidOutB (Tryz.pinned.checked.prog))=true:=by kernel_rfl
theorem jk2:(mapsRowed (Tryz.pinned.checked.prog))=true:=by kernel_rfl
theorem jk3:(Tryz.f3.params.all ((Tryz.pinned.checked.prog).readableRec ·))=true:=by kernel_rfl
theorem jk4:(namedTie (Tryz.pinned.checked.prog) Rows.topTripsRow.named Rows.topTripsSpec.vars)=true:=by kernel_rfl
theorem jk5:((Rows.topTripsRow.stops==[]))=true:=by kernel_rfl
theorem jk6:(((Tryz.pinned.checked.prog).stops==[]))=true:=by kernel_rfl
theorem jk7:((Rows.topTripsRow.knobs==[]))=true:=by kernel_rfl
theorem jk8:(((Tryz.pinned.checked.prog).stopKnobs==[]))=true:=by kernel_rfl
theorem jk9:((Rows.topTripsRow.inPlace==(Tryz.pinned.checked.prog).inPlace 3))=true:=by kernel_rfl
theorem aUB:((Rows.topTripsRow.unfollowed==(Tryz.pinned.checked.prog).unfollowed 3))=true:=by kernel_rfl
theorem aUA:((Rows.topTripsRow.recurses==(Tryz.pinned.checked.prog).recurses 3))=true:=by kernel_rfl
theorem aU9:((Rows.topTripsRow.named==(Tryz.pinned.checked.prog).varsNamed 3))=true:=by kernel_rfl
theorem aU8:((Rows.topTripsRow.maps==(Tryz.f3.params.toList++Rows.topTripsSpec.plain.varTypes (Tryz.pinned.checked.prog)).any ((Tryz.pinned.checked.prog).mapsRec ·)))=true:=by kernel_rfl
theorem aU7:((Rows.topTripsRow.ifaces==(Tryz.f3.params.toList++Rows.topTripsSpec.plain.varTypes (Tryz.pinned.checked.prog)).any ((Tryz.pinned.checked.prog).ifacesRec ·)))=true:=by kernel_rfl
theorem aU6:((Rows.topTripsRow.mapsOut==(Tryz.pinned.checked.prog).mapsAmong Tryz.f3.resultTypes.toList))=true:=by kernel_rfl
theorem aU5:((Rows.topTripsRow.loops==(Tryz.f3.params.toList++Rows.topTripsSpec.plain.varTypes (Tryz.pinned.checked.prog)).any ((Tryz.pinned.checked.prog).loopsFrom ·)))=true:=by kernel_rfl
theorem aU4:((Rows.topTripsRow.wideKeys==(Tryz.f3.params.toList++Rows.topTripsSpec.plain.varTypes (Tryz.pinned.checked.prog)++Tryz.f3.resultTypes.toList).any ((Tryz.pinned.checked.prog).wideKeysFrom ·)))=true:=by kernel_rfl
theorem aU3:(Rows.topTripsSpec.vars.all ((Tryz.pinned.checked.prog).varReadable ·))=true:=by kernel_rfl
theorem aU2:(Tryz.f3.resultTypes.all (fun t=>(Tryz.pinned.checked.prog).readableRec t&&decide (t<(Tryz.pinned.checked.prog).types.size)))=true:=by kernel_rfl
theorem aU1:((Rows.topTripsRow.ifacesOut==Tryz.f3.resultTypes.toList.any ((Tryz.pinned.checked.prog).ifacesRec ·)))=true:=by kernel_rfl
theorem aU0:((Rows.topTripsRow.loopsOut==Tryz.f3.resultTypes.toList.any ((Tryz.pinned.checked.prog).loopsFrom ·)))=true:=by kernel_rfl
theorem aUz:((Rows.topTripsRow.plainKeys==(Tryz.pinned.checked.prog).plainKeys))=true:=by kernel_rfl
theorem aUy:(Rows.topTripsRow.shortTexts.isNone)=true:=by kernel_rfl
theorem aUx:((Tryz.pinned.checked.prog).stopsHeard)=true:=by kernel_rfl
theorem aUw:((Tryz.pinned.checked.prog).mayEnter)=true:=by kernel_rfl
theorem aUv:((Rows.topTripsRow.lifted==(Tryz.pinned.checked.prog).liftsFinal))=true:=by kernel_rfl
theorem aUu:(((Tryz.pinned.checked.prog).make==some Rows.topTripsRow.make))=true:=by kernel_rfl
theorem aUt:((Rows.topTripsRow.kinds==(if Rows.topTripsRow.domain.isEmpty then [] else Tryz.f3.params.toList.map fun t=>match (Tryz.pinned.checked.prog).underlying t with | some (.int k)=>some k | _=>none)))=true:=by kernel_rfl
theorem aUs:((Rows.topTripsRow.pinned==Rows.topTripsRow.pinnedBy))=true:=by kernel_rfl
theorem aUr:((Rows.topTripsRow.veiled==(Tryz.f3.params.toList++Rows.topTripsSpec.plain.varTypes (Tryz.pinned.checked.prog)++Tryz.f3.resultTypes.toList).any ((Tryz.pinned.checked.prog).veiledRec ·)))=true:=by kernel_rfl
theorem aUq:(Rows.topTripsRow.veiledFits (Tryz.pinned.checked.prog) Tryz.f3.params.toList (Tryz.f3.params.toList++Rows.topTripsSpec.plain.varTypes (Tryz.pinned.checked.prog)++Tryz.f3.resultTypes.toList))=true:=by kernel_rfl
theorem aM5 (P:Program) (f:FuncId) (fn:Func) (s:ChangeSpec) (c:OpenClaim) (h0:(c.wf (OpenSpec.ofChange s))=true) (h1:(laidOutB P)=true) (h2:(mapsRowed P)=true) (h3:(fn.params.all (P.readableRec ·))=true) (h4:(namedTie P c.named s.vars)=true) (h5:((c.stops==[]))=true) (h6:((P.stops==[]))=true) (h7:((c.knobs==[]))=true) (h8:((P.stopKnobs==[]))=true) (h9:((c.inPlace==P.inPlace f))=true) (h10:((c.unfollowed==P.unfollowed f))=true) (h11:((c.recurses==P.recurses f))=true) (h12:((c.named==P.varsNamed f))=true) (h13:((c.maps==(fn.params.toList++s.plain.varTypes P).any (P.mapsRec ·)))=true) (h14:((c.ifaces==(fn.params.toList++s.plain.varTypes P).any (P.ifacesRec ·)))=true) (h15:((c.mapsOut==P.mapsAmong fn.resultTypes.toList))=true) (h16:((c.loops==(fn.params.toList++s.plain.varTypes P).any (P.loopsFrom ·)))=true) (h17:((c.wideKeys==(fn.params.toList++s.plain.varTypes P++fn.resultTypes.toList).any (P.wideKeysFrom ·)))=true) (h18:(s.vars.all (P.varReadable ·))=true) (h19:(fn.resultTypes.all (fun t=>P.readableRec t&&decide (t<P.types.size)))=true) (h20:((c.ifacesOut==fn.resultTypes.toList.any (P.ifacesRec ·)))=true) (h21:((c.loopsOut==fn.resultTypes.toList.any (P.loopsFrom ·)))=true) (h22:((c.plainKeys==P.plainKeys))=true) (h23:(c.shortTexts.isNone)=true) (h24:(P.stopsHeard)=true) (h25:(P.mayEnter)=true) (h26:((c.lifted==P.liftsFinal))=true) (h27:((P.make==some c.make))=true) (h28:((c.kinds==(if c.domain.isEmpty then [] else fn.params.toList.map fun t=>match P.underlying t with | some (.int k)=>some k | _=>none)))=true) (h29:((c.pinned==c.pinnedBy))=true) (h30:((c.veiled==(fn.params.toList++s.plain.varTypes P++fn.resultTypes.toList).any (P.veiledRec ·)))=true) (h31:(c.veiledFits P fn.params.toList (fn.params.toList++s.plain.varTypes P++fn.resultTypes.toList))=true):joinedFacts P f fn s c=true:=by
 unfold joinedFacts;exact (aBm (aBm (aBm (aBm (aBm (aBm (aBm (aBm (aBm (aBm (aBm (aBm (aBm (aBm (aBm (aBm (aBm (aBm (aBm (aBm (aBm (aBm (aBm (aBm (aBm (aBm (aBm (aBm (aBm (aBm (aBm h0 h1) h2) h3) h4) h5) h6) h7) h8) h9) h10) h11) h12) h13) h14) h15) h16) h17) h18) h19) h20) h21) h22) h23) h24) h25) h26) h27) h28) h29) h30) h31)
theorem aFa:joinedFacts Tryz.pinned.checked.prog 3 Tryz.f3 Rows.topTripsSpec Rows.topTripsRow=true :=
 aM5 (Tryz.pinned.checked.prog) 3 Tryz.f3 Rows.topTripsSpec Rows.topTripsRow jk0 jk1 jk2 jk3 jk4 jk5 jk6 jk7 jk8 jk9 aUB aUA aU9 aU8 aU7 aU6 aU5 aU4 aU3 aU2 aU1 aU0 aUz aUy aUx aUw aUv aUu aUt aUs aUr aUq
theorem aFG:Tryz.pinned.checked.prog.funcNamed Rows.topTripsRow.func=some 3:=by kernel_rfl
end Go.Proofs.YtnhljdeohelgjaaGreatDoor
