/- Part 4 of the proof. -/
import Derived.Test.YtngjlnhojicjeaaGreatDoorN3
import Derived.RangeFuncNested
import Derived.TacticsIn
import Derived.OrdersIn
import Derived.Shelf.SlSortCmp.Whole1
import Derived.Ground.SlsfProg
import Derived.Shelf.SlGeneric
import Derived.Test.YtngjlnhojicjeaaGreatDoorProg
import Derived.Deep.QuietTactic
import Derived.BigQuiet
import Derived.Lib.Hide
import Derived.Deep.RegionLaw
import Derived.Shelf.SortM.Plain
import Derived.Shelf.SortM.SortNone
import Derived.Ground.SlgmProg
set_option linter.unusedVariables false
set_option linter.unusedSimpArgs false
namespace Go.Pl
open Go.RowKit Go.Proofs.YtngjlnhojicjeaaGreatDoor
def aSN (P:Program) (gf:Nat) (lb:Array Value) (vs:List (Array Value)) (Kp:(Nat->Prop)->World->Prop):Prop :=
 ∀ (l:Nat) (J:Nat->Ent->Prop) (S:World->Prop) (W0:World) (e0:Ent),J 0 e0->e0.H W0->Kp e0.B W0->(∀ W W',S W->Fr nF_ W W'->S W')->(∀ W,S W->Fr e0.B W0 W) ->
  (∀ k e v W,J k e->e.H W->Fr e0.B W0 W->vs[k]?=some v->aHE P l v W (aW9 J k e W) S) ->
  Calls P gf (#[.func (.yield l) #[] #[]]++lb) W0 fun x W'=>(∃ v,x = .returned v) /\ ((∃ e,J vs.length e /\ e.H W' /\ Fr e0.B W0 W')∨S W')
section
variable {P:Program}{B:Code}{ds:List Deferred}{n:Nat}{L:Frm}{w w0:World}{F0:Nat->Prop}{M:List Ent}{Qf:Exit->Act->World->Prop}
structure REndX (P:Program) (I:Nat->List Ent->Prop) (T:List Ent->Prop) (k:Nat) (M1:List Ent) (W:World) (l:Nat) (R:Pst):Prop where
 lp:∃ rr,W.heap[l]?=some (.loop rr)
 nl:¬ BlM M1 l
 rd:R.rd=some l
 nrm:∀ a M' W',I (k+1) M'->Mm (BlM M1) W W' M'->R.q .normal a W'
 ret:∀ a M' W',T M'->Mm (BlM M1) W W' M'->R.q .ret a W'
def aXI (P:Program) (bd:Code) (n:Nat) (F0:Nat->Prop) (w0:World) (I:Nat->List Ent->Prop) (T:List Ent->Prop) (k:Nat) (Mk:List Ent) (W:World):Exit->Act->World->Prop
 | .normal,a,W1=>∃ Lb M1,EnvS [] n Lb a /\ Mm (BlM Mk) W W1 M1 /\ ∀ W2 l R,Fr F0 w0 W2->Mm (BlM M1) W2 W2 M1->REndX P I T k M1 W2 l R->AtO P bd R [] n none Lb W2
 | _,_,_=>False
theorem aT4 (q:Nat) {g:Operand}{ps:Array Tmp}{gf:Nat}{lb:Array Value}{vs:List (Array Value)}{Kp:(Nat->Prop)->World->Prop}(I:Nat->List Ent->Prop) (T:List Ent->Prop)
  (hM:Mm F0 w0 w M) (h0:I 0 M) (eg:aIR P gf) (hY:aSN P gf lb vs Kp)
  (hK:∀ (G:Nat->Prop) W,(∀ k,G k->BlM M k∨w.heap.size<=k)->Fr nF_ w W->Kp G W)
  (hps:∀ v∈vs,v.size=ps.size)
  (hround:∀ k v Mk W l,vs[k]?=some v->I k Mk->Fr F0 w0 W->Mm (BlM Mk) W W Mk->AtO P (aSY (1000+q) B) ⟨aXI P (aSX (1000+q) B) n F0 w0 I T k Mk W,some l⟩ [] n none ((ps.toList.zip v.toList).reverse++L) W)
  (hdone:∀ M' W',I vs.length M'->Mm F0 w0 W' (M'++[dfE w.heap.size])->AtO P B ⟨Qf,none⟩ (mkD w.heap.size::ds) n (some (2000+q,0)) L W')
  (hstop:∀ a M' W',T M'->Mm F0 w0 W' (M'++[dfE w.heap.size])->EnvS (mkD w.heap.size::ds) n L a->Qf .ret a W')
  (h:(match aBm (1000+q) B [],aBm (2000+q) B [],aL8 (1000+q) B with
   | some (O,dr,.seq (.rangeFunc g1 ps1 as1 bd1)::k1),some (O2,dr2,k2),some (g2,ps2,as2,bd2)=>some (O,dr,O2,dr2,[Kon.seq (.rangeFunc g1 ps1 as1 bd1)],k1,opv L g1,ps.toList.all fun p=>Nat.blt p n)
   | _,_,_=>none)=(match aBm (1000+q) B [],aBm (2000+q) B [],aL8 (1000+q) B with
   | some (O,dr,.seq (.rangeFunc g1 ps1 as1 bd1)::k1),some (O2,dr2,k2),some (g2,ps2,as2,bd2)=>some (#[],false,#[],false,[Kon.seq (.rangeFunc g ps as2 bd2)],k2,some (.func (.func gf) #[] lb),true)
   | _,_,_=>some (#[],false,#[],false,[],[],none,true)):=by kernel_rfl):AtO P B ⟨Qf,none⟩ ds n (some (1000+q,0)) L w:=by
 split at h
 rotate_left
 ·cases h
 rename_i O dr g1 ps1 as1 bd1 k1 O2 dr2 k2 g2 ps2 as2 bd2 h1 h2 h3;simp only [Gl_,Prod.mk.injEq,List.cons.injEq,Kon.seq.injEq,Code.rangeFunc.injEq,and_true] at h;obtain ⟨rfl,rfl,rfl,rfl,⟨rfl,rfl,rfl,rfl⟩,rfl,hg,hpn⟩:=h;refine ⟨_,_,_,h1,fun a E=>?_⟩;have hasO:aSY (1000+q) B=as1:=by unfold aSY;rw [h3]
 have hbdO:aSX (1000+q) B=bd1:=by unfold aSX;rw [h3]
 rw [hasO,hbdO] at hround;show (Code.rangeFunc g1 ps1 as1 bd1).wpIn (fen none) 0 P (post P ⟨Qf,none⟩ k1) a w;have hga:a.eval g1 = .func (.func gf) #[] lb:=E.opv hg;have hblt:∀ b,BlM M b->b<w.heap.size:=fun b ⟨x,hx,hb⟩=>x.lt (hM.at_ x hx) hb;refine wpIn_rangeFunc ?_;intro fn hfn;obtain ⟨rec,hrec⟩:∃ rec:LoopState->Option Code->Loop,rec=fun st pe=>{ state:=st,pending:=pe,fn,tmps:=a.tmps,params:=ps1,assign:=as1,body:=bd1,defers:=w.heap.size }:=⟨_,rfl⟩;obtain ⟨W1,hW1⟩:∃ W1,(w.alloc (.deferred (some []))).alloc (.loop (rec .ready none))=W1:=⟨_,rfl⟩
 have hL1:W1.heap[w.heap.size+1]?=some (.loop (rec .ready none)):=by
  rw [←hW1];exact aCb (by simp) _
 have hK1:W1.heap[w.heap.size]?=some (.deferred (some [])):=by
  rw [←hW1];exact (aCc (by simp) _).trans (aAi _ _)
 have hf1:Fr nF_ w W1:=by rw [←hW1];exact ((Fr.refl _ _).alloc _).alloc _
 have hsz1:w.heap.size+2<=W1.heap.size:=by have:=aAf hL1;omega
 obtain ⟨e0,he0⟩:∃ e0,aNH M w.heap.size (w.heap.size+1) (rec .ready none)=e0:=⟨_,rfl⟩;have hM1:=hM.q hf1
 have hF0:∀ W,Fr e0.B W1 W->Fr F0 w0 W:=fun W f=>hM1.fr.trans' f fun r hr hb=>by
  rw [←he0] at hb;have:=hM.fr.size;rcases hb with ⟨x,hx,hk⟩ | rfl | rfl
  ·exact hM.own x hx r hk hr
  ·omega
  ·omega
 refine ⟨w.heap.size+1,[{ target := .collected w.heap.size,args:=#[] }],W1,{ target := .fn (.func gf) lb,args:=#[.func (.yield (w.heap.size+1)) #[] #[]] },W1,gf,
  #[.func (.yield (w.heap.size+1)) #[] #[]]++lb,W1,?_,?_,fun _ _=>trivial,?_,fun h=>(by cases h),?_⟩
 ·rw [←hW1,hrec];exact run_enterLoop_outer _ _ _ _ _
 ·simp only [resolve,hga];simp [go_sem]
 ·have:=eg (#[.func (.yield (w.heap.size+1)) #[] #[]]++lb) W1;simp [invoke,go_sem,this]
 refine aGi ((hY (w.heap.size+1) (fun k e=>∃ Mk,I k Mk /\ Mk.Pairwise (fun x y=>∀ k,x.B k->¬ y.B k) /\ (∀ b,BlM Mk b->(BlM M b∨w.heap.size+2<=b)) /\ e=aNH Mk w.heap.size (w.heap.size+1) (rec .ready none))
   (fun W=>∃ M',T M' /\ Mm F0 w0 W (M'++[dfE w.heap.size]) /\ W.heap[w.heap.size+1]?=some (.loop (rec .done (some .ret))) /\ (∀ b,BlM M' b->b≠w.heap.size+1) /\ Fr e0.B W1 W) W1 e0
   ⟨M,h0,hM.nd,fun b hb => .inl hb,he0.symm⟩ (by rw [←he0];exact ⟨hM1.at_,hK1,hL1⟩) (hK _ _ (fun k hk=>by
    rw [←he0] at hk;rcases hk with h | rfl | rfl
    ·exact .inl h
    ·exact .inr (Gk_ _)
    ·exact .inr (by omega)) hf1) (fun W W' ⟨M',h1,h2,h3,h4,h5⟩ f=>⟨M',h1,h2.q f,f.obj h3 id,h4,h5.trans' f fun _ _ h=>h.elim⟩) (fun W ⟨_,_,_,_,_,h⟩=>h) ?_).mono ?_)
 ·rintro k e v W ⟨Mk,hI,hnd,hsub,rfl⟩ ⟨hat,hkD,hl⟩ hfW hv;have hvm:v∈vs:=Ge_ hv;have hlt:=aAf hl;have hy:=run_yield (P:=P) (args:=v) hl (by rw [hrec];exact hps v hvm);rw [hrec] at hy
  have hnl:∀ b,BlM Mk b->b≠w.heap.size /\ b≠w.heap.size+1:=fun b hb=>by
   rcases hsub b hb with h | h
   ·have:=hblt b h;omega
   ·omega
  have hmW:Mm (BlM Mk) W W Mk:=⟨Fr.refl _ _,hat,fun x hx b hb _=>⟨x,hx,hb⟩,hnd⟩;have has:=hround k v Mk W (w.heap.size+1) hv hI (hF0 W hfW) hmW;refine ⟨0,fn,_,as1,bd1,hy,roundIn_of_wpIn hfn ?_⟩;clear hy
  have E0:EnvS [] n ((ps1.toList.zip v.toList).reverse++L) { tmps:=(ps1.zip v).foldl (fun t (p,v)=>t.setIfInBounds p v) a.tmps,defers:=[] }:=by
   have hz:=aIS (ds:=ds) (n:=n) (L:=L) (ps:=ps1.toList) (vs:=v.toList) (t:=a.tmps) ⟨E.size,fun s u hs=>E.at_ s u hs,rfl⟩ (by have:=hps v hvm;simpa using this.symm) (fun p hp=>by
    have:=List.all_eq_true.1 hpn p hp;simpa [Nat.blt_eq] using this)
   have hfo:(ps1.zip v).foldl (fun t (p,v)=>t.setIfInBounds p v) a.tmps=(ps1.toList.zip v.toList).foldl (fun t (p,v)=>t.setIfInBounds p v) a.tmps:=by rw [←Array.toList_zip,Array.foldl_toList]
   rw [hfo];exact hz
  refine wpIn_mono (has _ E0) ?_;rintro e9 a1 W2 hp
  cases e9 with
  | normal =>
   obtain ⟨Lb,M1,E1,hMa,hb⟩:=hp;have hfa:=hMa.fr;have hl9:=hfa.obj hl (fun h=>(hnl _ h).2 rfl);have hkD9:=hfa.obj hkD (fun h=>(hnl _ h).1 rfl);have hlt9:=aAf hl9;refine ⟨_,run_beginRound hl9 (by rw [hrec]),?_⟩;have f2:=Fr.putObj W2 (w.heap.size+1) (.loop { rec .ready none with state := .busy });obtain ⟨W3,hW3⟩:∃ W3,W2.putObj (w.heap.size+1) (.loop { rec .ready none with state := .busy })=W3:=⟨_,rfl⟩;have hl3:W3.heap[w.heap.size+1]?=some (.loop { rec .ready none with state := .busy }):=by rw [←hW3];exact World.putObj_heap_same hlt9
   rw [hW3] at f2 ⊢;have hkD3:=f2.obj hkD9 (by omega)
   have hM1n:∀ b,BlM M1 b->BlM Mk b∨W.heap.size<=b:=fun b ⟨x,hx,hb⟩=>by
    rcases Nat.lt_or_ge b W.heap.size with h | h
    ·exact .inl (hMa.own x hx b hb h)
    ·exact .inr h
   have hM1l:∀ b,BlM M1 b->b≠w.heap.size /\ b≠w.heap.size+1:=fun b hb=>by
    rcases hM1n b hb with h | h
    ·exact hnl b h
    ·omega
   have hM3:Mm (BlM M1) W3 W3 M1:=⟨Fr.refl _ _,fun x hx=>x.fr (hMa.at_ x hx) f2 fun b hb e=>(hM1l b ⟨x,hx,hb⟩).2 e,fun x hx b hb _=>⟨x,hx,hb⟩,hMa.nd⟩
   have hF3:Fr F0 w0 W3:=by
    refine ((hF0 W hfW).trans' hfa fun r hr hb=>?_).trans' f2 fun r hr e=>?_
    ·rcases hsub r hb with ⟨x,hx,h⟩ | h
     ·exact hM.own x hx r h hr
     ·have:=hM.fr.size;omega
    ·have:=hM.fr.size;omega
   have hsW:W.heap.size<=W3.heap.size:=Gn_ hfa.size f2.size;have hsWW:w.heap.size+2<=W.heap.size:=Gn_ hsz1 hfW.size
   have fin:∀ M' W',Mm (BlM M1) W3 W' M'->(∀ b,BlM M' b->(BlM M b∨w.heap.size+2<=b)) /\ (∀ b,BlM M' b->BlM Mk b∨W.heap.size<=b) /\ W'.heap[w.heap.size+1]?=some (.loop { rec .ready none with state := .busy }) /\ W'.heap[w.heap.size]?=some (.deferred (some [])):=by
    intro M' W' hm
    have hb1:∀ b,BlM M' b->BlM Mk b∨W.heap.size<=b:=fun b ⟨x,hx,hb⟩=>by
     rcases Nat.lt_or_ge b W3.heap.size with h | h
     ·exact hM1n b (hm.own x hx b hb h)
     ·exact .inr (Gn_ hsW h)
    refine ⟨fun b hb=>?_,hb1,hm.fr.obj hl3 (fun h=>(hM1l _ h).2 rfl),hm.fr.obj hkD3 (fun h=>(hM1l _ h).1 rfl)⟩;rcases hb1 b hb with h | h
    ·exact hsub b h
    ·exact .inr (Gn_ hsWW h)
   have fal:∀ W9,Fr (aNH Mk w.heap.size (w.heap.size+1) (rec .ready none)).B W W9->Fr e0.B W1 W9:=fun W9 f=>hfW.trans' f fun r hr hb=>by
    rw [←he0];rcases hb with h | h | h
    ·rcases hsub r h with h | h
     ·exact .inl h
     ·have:W1.heap.size=w.heap.size+2:=by rw [←hW1];simp
      omega
    ·exact .inr (.inl h)
    ·exact .inr (.inr h)
   refine wpIn_mono (hb W3 (w.heap.size+1) ⟨aWl (fun W'=>∃ M',I (k+1) M' /\ Mm (BlM M1) W3 W' M') (fun W'=>∃ M',T M' /\ Mm (BlM M1) W3 W' M'),some (w.heap.size+1)⟩ hF3 hM3 ⟨⟨_,hl3⟩,fun h=>(hM1l _ h).2 rfl,rfl,fun a M' W' h1 h2=>⟨M',h1,h2⟩,fun a M' W' h1 h2=>⟨M',h1,h2⟩⟩ _ E1) ?_;rintro e a3 W4 hp
   cases e with
   | normal =>
    obtain ⟨M',hI',hm'⟩:=hp;obtain ⟨g1,g2,h4,h3⟩:=fin M' W4 hm';have hr:=run_endRound (P:=P) none h4;refine ⟨_,_,hr,.inl ⟨rfl,_,⟨M',hI',hm'.nd,g1,rfl⟩,⟨fun x hx=>x.fr (hm'.at_ x hx) (Fr.putObj W4 _ _) fun b hb e=>?_,(World.putObj_heap_other (by omega)).trans h3,?_⟩,?_,?_⟩⟩
    ·rcases g1 b ⟨x,hx,hb⟩ with h | h
     ·have:=hblt b h;omega
     ·omega
    ·refine (World.putObj_heap_same (aAf h4)).trans ?_;rw [hrec];rfl
    ·rintro b (h | h | h)
     ·rcases g2 b h with h | h
      ·exact .inl (.inl h)
      ·exact .inr h
     ·exact .inl (.inr (.inl h))
     ·exact .inl (.inr (.inr h))
    ·refine (((hfa.mono (G:=(aNH Mk w.heap.size (w.heap.size+1) (rec .ready none)).B) fun _ _ h => .inl h).trans' f2 fun r _ e => .inr (.inr e)).trans' hm'.fr fun r hr hb=>?_).trans' (Fr.putObj W4 _ _) fun r _ e => .inr (.inr e);rcases hM1n r hb with h | h
     ·exact .inl h
     ·omega
   | ret =>
    obtain ⟨M',hI',hm'⟩:=hp;obtain ⟨g1,g2,h4,h3⟩:=fin M' W4 hm';have hr:=run_endRound (P:=P) (some .ret) h4;refine ⟨_,_,hr,.inr ⟨rfl,M',hI',?_,?_,fun b hb=>?_,?_⟩⟩
    rotate_right
    ·exact fal _ ((((hfa.mono (G:=(aNH Mk w.heap.size (w.heap.size+1) (rec .ready none)).B) fun _ _ h => .inl h).trans' f2 fun r _ e => .inr (.inr e)).trans' hm'.fr fun r hr hb=>(by rcases hM1n r hb with h | h;exact .inl h;omega)).trans' (Fr.putObj W4 _ _) fun r _ e => .inr (.inr e))
    ·refine ⟨?_,fun x hx=>?_,fun x hx b hb hlt=>?_,?_⟩
     ·refine (hF3.trans' hm'.fr fun r hr hb=>?_).trans' (Fr.putObj W4 _ _) fun r hr e=>?_
      ·rcases hM1n r hb with h | h
       ·rcases hsub r h with ⟨x,hx,h⟩ | h
        ·exact hM.own x hx r h hr
        ·have:=hM.fr.size;omega
       ·have:=hM.fr.size;omega
      ·have:=hM.fr.size;omega
     ·rcases List.mem_append.1 hx with hx | hx
      ·refine x.fr (hm'.at_ x hx) (Fr.putObj W4 _ _) fun b hb e=>?_;rcases g1 b ⟨x,hx,hb⟩ with h | h
       ·have:=hblt b h;omega
       ·omega
      ·rw [Gd_] at hx;subst hx;exact (World.putObj_heap_other (by omega)).trans h3
     ·rcases List.mem_append.1 hx with hx | hx
      ·rcases g1 b ⟨x,hx,hb⟩ with ⟨y,hy,h⟩ | h
       ·exact hM.own y hy b h hlt
       ·have:=hM.fr.size;omega
      ·rw [Gd_] at hx;subst hx;have hb:b=w.heap.size:=hb;have:=hM.fr.size;omega
     ·refine List.pairwise_append.2 ⟨hm'.nd,List.pairwise_singleton _ _,fun x hx y hy b hb hb2=>?_⟩;rw [Gd_] at hy;subst hy;have hb2:b=w.heap.size:=hb2;rcases g1 b ⟨x,hx,hb⟩ with h | h
      ·have:=hblt b h;omega
      ·omega
    ·refine (World.putObj_heap_same (aAf h4)).trans ?_;rw [hrec];rfl
    ·rcases g1 b hb with h | h
     ·have:=hblt b h;omega
     ·omega
   | exit id=>exact hp.elim
   | goto t=>exact hp.elim
   | panic ch=>exact hp.elim
   | outgrown=>exact hp.elim
  | exit id=>exact hp.elim
  | goto t=>exact hp.elim
  | ret=>exact hp.elim
  | panic ch=>exact hp.elim
  | outgrown=>exact hp.elim
 ·rintro e W2 ⟨⟨v,rfl⟩,⟨_,⟨Mk,hI,hnd,hsub,rfl⟩,⟨hat,hkD,hl⟩,hfW⟩ | ⟨M',hT,hm,hl,hne,_⟩⟩
  ·have hr:=run_endLoop (P:=P) hl (by rw [hrec];simp);rw [hrec] at hr;refine ⟨none,_,hr,?_⟩
   have key:∀ W9 ob,W9=W2.putObj (w.heap.size+1) ob->Mm F0 w0 W9 (Mk++[dfE w.heap.size]):=by
    intro W9 ob hw9;subst hw9;refine ⟨(hF0 W2 hfW).trans' (Fr.putObj W2 _ _) fun r hr e=>?_,fun x hx=>?_,fun x hx b hb hlt=>?_,?_⟩
    ·have:=hM.fr.size;omega
    ·rcases List.mem_append.1 hx with hx | hx
     ·refine x.fr (hat x hx) (Fr.putObj W2 _ _) fun b hb e=>?_;rcases hsub b ⟨x,hx,hb⟩ with h | h
      ·have:=hblt b h;omega
      ·omega
     ·rw [Gd_] at hx;subst hx;exact (World.putObj_heap_other (by omega)).trans hkD
    ·rcases List.mem_append.1 hx with hx | hx
     ·rcases hsub b ⟨x,hx,hb⟩ with ⟨y,hy,h⟩ | h
      ·exact hM.own y hy b h hlt
      ·have:=hM.fr.size;omega
     ·rw [Gd_] at hx;subst hx;have hb:b=w.heap.size:=hb;have:=hM.fr.size;omega
    ·refine List.pairwise_append.2 ⟨hnd,List.pairwise_singleton _ _,fun x hx y hy b hb hb2=>?_⟩;rw [Gd_] at hy;subst hy;have hb2:b=w.heap.size:=hb2;rcases hsub b ⟨x,hx,hb⟩ with h | h
     ·have:=hblt b h;omega
     ·omega
   obtain ⟨O9,dr9,kk9,hf9,hk9⟩:=hdone Mk _ hI (key _ _ rfl);rw [h2] at hf9;cases hf9;exact hk9 _ ⟨E.size,fun s u hs=>E.at_ s u hs,by show _::a.defers=_;rw [E.df]⟩
  ·have hr:=run_endLoop (P:=P) hl (by rw [hrec];simp);rw [hrec] at hr;refine ⟨some .ret,_,hr,?_⟩;refine wpIn_ret (aDf (R:=⟨Qf,none⟩) (hstop _ M' _ hT ?_ ⟨E.size,fun s u hs=>E.at_ s u hs,by show _::a.defers=_;rw [E.df]⟩));refine ⟨hm.fr.trans' (Fr.putObj W2 _ _) fun r hr e=>?_,fun x hx=>x.fr (hm.at_ x hx) (Fr.putObj W2 _ _) fun b hb e=>?_,hm.own,hm.nd⟩
   ·have:=hM.fr.size;omega
   ·rcases List.mem_append.1 hx with hx | hx
    ·exact hne b ⟨x,hx,hb⟩ e
    ·rw [Gd_] at hx;subst hx;have hb:b=w.heap.size:=hb;omega
def aPM (M:List Ent) (l:Nat) (r:Loop):Ent where
 B:=fun k=>BlM M k∨k=l
 H:=fun w=>(∀ e∈M,e.H w) /\ w.heap[l]?=some (.loop r)
 lt:=fun h e=>by
  rcases e with ⟨x,hx,hk⟩ | rfl
  ·exact x.lt (h.1 x hx) hk
  ·exact aAf h.2
 fr:=fun h f hd=>⟨fun e he=>e.fr (h.1 e he) f fun k hk=>hd k (.inl ⟨e,he,hk⟩),f.obj h.2 (hd _ (.inr rfl))⟩
structure REndN (P:Program) (I:Nat->List Ent->Prop) (T Tb:List Ent->Prop) (X:Nat) (k:Nat) (M1:List Ent) (W:World) (l:Nat) (R:Pst):Prop where
 rd:R.rd=some l
 nrm:∀ a M' W',I (k+1) M'->Mm (BlM M1) W W' M'->R.q .normal a W'
 ret:∀ a M' W',T M'->Mm (BlM M1) W W' M'->R.q .ret a W'
 brk:∀ a M' W',Tb M'->Mm (BlM M1) W W' M'->R.q (.exit X) a W'
def aXJ (P:Program) (bd:Code) (n:Nat) (F0:Nat->Prop) (w0:World) (I:Nat->List Ent->Prop) (T Tb:List Ent->Prop) (X k:Nat) (Mk:List Ent) (W:World):Exit->Act->World->Prop
 | .normal,a,W1=>∃ Lb M1,EnvS [] n Lb a /\ Mm (BlM Mk) W W1 M1 /\ ∀ W2 l R,Fr F0 w0 W2->Mm (BlM M1) W2 W2 M1->REndN P I T Tb X k M1 W2 l R->AtO P bd R [] n none Lb W2
 | _,_,_=>False
def aWV (X:Nat) (A T Tb:World->Prop):Exit->Act->World->Prop
 | .normal,_,W=>A W
 | .ret,_,W=>T W
 | .exit id,_,W=>id=X /\ Tb W
 | _,_,_=>False
def hdB (X:Nat):List Kon->Bool
 | .block j::_=>Nat.beq j X
 | _=>false
set_option maxHeartbeats 4000000 in
theorem aVx {R:Pst}{l0:Nat}{rr:Loop}(q X:Nat) {g:Operand}{ps:Array Tmp}{gf:Nat}{lb:Array Value}{vs:List (Array Value)}{Kp:(Nat->Prop)->World->Prop}(I:Nat->List Ent->Prop) (T Tb:List Ent->Prop)
  (hrd:R.rd=some l0) (hl0:w.heap[l0]?=some (.loop rr))
  (hM:Mm F0 w0 w M) (h0:I 0 M) (eg:aIR P gf) (hY:aSN P gf lb vs Kp)
  (hK:∀ (G:Nat->Prop) W,(∀ k,G k->BlM M k∨w.heap.size<=k)->Fr nF_ w W->Kp G W)
  (hps:∀ v∈vs,v.size=ps.size)
  (hround:∀ k v Mk W l,vs[k]?=some v->I k Mk->Fr F0 w0 W->Mm (BlM Mk) W W Mk->AtO P (aSY (1000+q) B) ⟨aXJ P (aSX (1000+q) B) n F0 w0 I T Tb X k Mk W,some l⟩ [] n none ((ps.toList.zip v.toList).reverse++L) W)
  (hdone:∀ M' W',I vs.length M'∨Tb M'->Mm F0 w0 W' M'->AtO P B R [] n (some (2000+q,0)) L W')
  (hstop:∀ a M' W',T M'->Mm F0 w0 W' M'->EnvS [] n L a->R.q .ret a W')
  (hx:(match aBm (2000+q) B [] with | some (_,_,k)=>hdB X k | none=>false)=true)
  (h:(match aBm (1000+q) B [],aBm (2000+q) B [],aL8 (1000+q) B with
   | some (O,dr,.seq (.rangeFunc g1 ps1 as1 bd1)::k1),some (O2,dr2,k2),some (g2,ps2,as2,bd2)=>some (O,dr,O2,dr2,[Kon.seq (.rangeFunc g1 ps1 as1 bd1)],k1,opv L g1,ps.toList.all fun p=>Nat.blt p n)
   | _,_,_=>none)=(match aBm (1000+q) B [],aBm (2000+q) B [],aL8 (1000+q) B with
   | some (O,dr,.seq (.rangeFunc g1 ps1 as1 bd1)::k1),some (O2,dr2,k2),some (g2,ps2,as2,bd2)=>some (#[],false,#[],false,[Kon.seq (.rangeFunc g ps as2 bd2)],k2,some (.func (.func gf) #[] lb),true)
   | _,_,_=>some (#[],false,#[],false,[],[],none,true)):=by kernel_rfl):AtO P B R [] n (some (1000+q,0)) L w:=by
 split at h
 rotate_left
 ·cases h
 rename_i O dr g1 ps1 as1 bd1 k1 O2 dr2 k2 g2 ps2 as2 bd2 h1 h2 h3;simp only [Gl_,Prod.mk.injEq,List.cons.injEq,Kon.seq.injEq,Code.rangeFunc.injEq,and_true] at h;obtain ⟨rfl,rfl,rfl,rfl,⟨rfl,rfl,rfl,rfl⟩,rfl,hg,hpn⟩:=h;rw [h2] at hx;have hx:hdB X k1=true:=hx;refine ⟨_,_,_,h1,fun a E=>?_⟩;have hasO:aSY (1000+q) B=as1:=by unfold aSY;rw [h3]
 have hbdO:aSX (1000+q) B=bd1:=by unfold aSX;rw [h3]
 rw [hasO,hbdO] at hround;show (Code.rangeFunc g1 ps1 as1 bd1).wpIn (fen R.rd) 0 P (post P R k1) a w;have hga:a.eval g1 = .func (.func gf) #[] lb:=E.opv hg;have hblt:∀ b,BlM M b->b<w.heap.size:=fun b ⟨x,hx,hb⟩=>x.lt (hM.at_ x hx) hb;rw [hrd];refine wpIn_rangeFunc ?_;intro fn hfn;obtain ⟨rec,hrec⟩:∃ rec:LoopState->Option Code->Loop,rec=fun st pe=>{ state:=st,pending:=pe,fn,tmps:=a.tmps,params:=ps1,assign:=as1,body:=bd1,defers:=rr.defers }:=⟨_,rfl⟩;obtain ⟨W1,hW1⟩:∃ W1,w.alloc (.loop (rec .ready none))=W1:=⟨_,rfl⟩
 have hL1:W1.heap[w.heap.size]?=some (.loop (rec .ready none)):=by
  rw [←hW1];exact aAi _ _
 have hf1:Fr nF_ w W1:=by rw [←hW1];exact (Fr.refl _ _).alloc _
 have hsz1:w.heap.size+1<=W1.heap.size:=by have:=aAf hL1;omega
 obtain ⟨e0,he0⟩:∃ e0,aPM M w.heap.size (rec .ready none)=e0:=⟨_,rfl⟩;have hM1:=hM.q hf1
 have hF0:∀ W,Fr e0.B W1 W->Fr F0 w0 W:=fun W f=>hM1.fr.trans' f fun r hr hb=>by
  rw [←he0] at hb;have:=hM.fr.size;rcases hb with ⟨x,hx,hk⟩ | rfl
  ·exact hM.own x hx r hk hr
  ·omega
 refine ⟨w.heap.size,[],W1,{ target := .fn (.func gf) lb,args:=#[.func (.yield w.heap.size) #[] #[]] },W1,gf,
  #[.func (.yield w.heap.size) #[] #[]]++lb,W1,?_,?_,fun _ _=>trivial,?_,fun h=>(by cases h),?_⟩
 ·rw [←hW1,hrec];exact run_enterLoop_inner hl0 _ _ _ _ _
 ·simp only [resolve,hga];simp [go_sem]
 ·have:=eg (#[.func (.yield w.heap.size) #[] #[]]++lb) W1;simp [invoke,go_sem,this]
 refine aGi ((hY w.heap.size (fun k e=>∃ Mk,I k Mk /\ Mk.Pairwise (fun x y=>∀ k,x.B k->¬ y.B k) /\ (∀ b,BlM Mk b->(BlM M b∨w.heap.size+1<=b)) /\ e=aPM Mk w.heap.size (rec .ready none))
   (fun W=>∃ (c:Code) (M':List Ent),((c = .ret /\ T M')∨(c = .exit X /\ Tb M')) /\ Mm F0 w0 W M' /\ W.heap[w.heap.size]?=some (.loop (rec .done (some c))) /\ (∀ b,BlM M' b->b≠w.heap.size) /\ Fr e0.B W1 W) W1 e0
   ⟨M,h0,hM.nd,fun b hb => .inl hb,he0.symm⟩ (by rw [←he0];exact ⟨hM1.at_,hL1⟩) (hK _ _ (fun k hk=>by
    rw [←he0] at hk;rcases hk with h | rfl
    ·exact .inl h
    ·exact .inr (Gk_ _)) hf1) (fun W W' ⟨c,M',h1,h2,h3,h4,h5⟩ f=>⟨c,M',h1,h2.q f,f.obj h3 id,h4,h5.trans' f fun _ _ h=>h.elim⟩) (fun W ⟨_,_,_,_,_,_,h⟩=>h) ?_).mono ?_)
 ·rintro k e v W ⟨Mk,hI,hnd,hsub,rfl⟩ ⟨hat,hl⟩ hfW hv;have hvm:v∈vs:=Ge_ hv;have hlt:=aAf hl;have hy:=run_yield (P:=P) (args:=v) hl (by rw [hrec];exact hps v hvm);rw [hrec] at hy
  have hnl:∀ b,BlM Mk b->b≠w.heap.size:=fun b hb=>by
   rcases hsub b hb with h | h
   ·have:=hblt b h;omega
   ·omega
  have hmW:Mm (BlM Mk) W W Mk:=⟨Fr.refl _ _,hat,fun x hx b hb _=>⟨x,hx,hb⟩,hnd⟩;have has:=hround k v Mk W w.heap.size hv hI (hF0 W hfW) hmW;refine ⟨0,fn,_,as1,bd1,hy,roundIn_of_wpIn (F:=Fence.wide) trivial ?_⟩;clear hy
  have E0:EnvS [] n ((ps1.toList.zip v.toList).reverse++L) { tmps:=(ps1.zip v).foldl (fun t (p,v)=>t.setIfInBounds p v) a.tmps,defers:=[] }:=by
   have hz:=aIS (ds:=[]) (n:=n) (L:=L) (ps:=ps1.toList) (vs:=v.toList) (t:=a.tmps) ⟨E.size,fun s u hs=>E.at_ s u hs,rfl⟩ (by have:=hps v hvm;simpa using this.symm) (fun p hp=>by
    have:=List.all_eq_true.1 hpn p hp;simpa [Nat.blt_eq] using this)
   have hfo:(ps1.zip v).foldl (fun t (p,v)=>t.setIfInBounds p v) a.tmps=(ps1.toList.zip v.toList).foldl (fun t (p,v)=>t.setIfInBounds p v) a.tmps:=by rw [←Array.toList_zip,Array.foldl_toList]
   rw [hfo];exact hz
  refine wpIn_mono (has _ E0) ?_;rintro e9 a1 W2 hp
  cases e9 with
  | normal =>
   obtain ⟨Lb,M1,E1,hMa,hb⟩:=hp;have hfa:=hMa.fr;have hl9:=hfa.obj hl (fun h=>(hnl _ h) rfl);have hlt9:=aAf hl9;refine ⟨_,run_beginRound hl9 (by rw [hrec]),?_⟩;have f2:=Fr.putObj W2 w.heap.size (.loop { rec .ready none with state := .busy });obtain ⟨W3,hW3⟩:∃ W3,W2.putObj w.heap.size (.loop { rec .ready none with state := .busy })=W3:=⟨_,rfl⟩;have hl3:W3.heap[w.heap.size]?=some (.loop { rec .ready none with state := .busy }):=by rw [←hW3];exact World.putObj_heap_same hlt9
   rw [hW3] at f2 ⊢
   have hM1n:∀ b,BlM M1 b->BlM Mk b∨W.heap.size<=b:=fun b ⟨x,hx,hb⟩=>by
    rcases Nat.lt_or_ge b W.heap.size with h | h
    ·exact .inl (hMa.own x hx b hb h)
    ·exact .inr h
   have hM1l:∀ b,BlM M1 b->b≠w.heap.size:=fun b hb=>by
    rcases hM1n b hb with h | h
    ·exact hnl b h
    ·omega
   have hM3:Mm (BlM M1) W3 W3 M1:=⟨Fr.refl _ _,fun x hx=>x.fr (hMa.at_ x hx) f2 fun b hb e=>hM1l b ⟨x,hx,hb⟩ e,fun x hx b hb _=>⟨x,hx,hb⟩,hMa.nd⟩
   have hF3:Fr F0 w0 W3:=by
    refine ((hF0 W hfW).trans' hfa fun r hr hb=>?_).trans' f2 fun r hr e=>?_
    ·rcases hsub r hb with ⟨x,hx,h⟩ | h
     ·exact hM.own x hx r h hr
     ·have:=hM.fr.size;omega
    ·have:=hM.fr.size;omega
   have hsW:W.heap.size<=W3.heap.size:=Gn_ hfa.size f2.size;have hsWW:w.heap.size+1<=W.heap.size:=Gn_ hsz1 hfW.size
   have fin:∀ M' W',Mm (BlM M1) W3 W' M'->(∀ b,BlM M' b->(BlM M b∨w.heap.size+1<=b)) /\ (∀ b,BlM M' b->BlM Mk b∨W.heap.size<=b) /\ W'.heap[w.heap.size]?=some (.loop { rec .ready none with state := .busy }):=by
    intro M' W' hm
    have hb1:∀ b,BlM M' b->BlM Mk b∨W.heap.size<=b:=fun b ⟨x,hx,hb⟩=>by
     rcases Nat.lt_or_ge b W3.heap.size with h | h
     ·exact hM1n b (hm.own x hx b hb h)
     ·exact .inr (Gn_ hsW h)
    refine ⟨fun b hb=>?_,hb1,hm.fr.obj hl3 (fun h=>(hM1l _ h) rfl)⟩;rcases hb1 b hb with h | h
    ·exact hsub b h
    ·exact .inr (Gn_ hsWW h)
   have jmp:∀ (c:Code) M' W4,((c = .ret /\ T M')∨(c = .exit X /\ Tb M'))->Mm (BlM M1) W3 W4 M'->(∃ (c1:Code) (M9:List Ent),((c1 = .ret /\ T M9)∨(c1 = .exit X /\ Tb M9)) /\ Mm F0 w0 (W4.putObj w.heap.size (.loop { rec .ready none with state := .done,pending:=some c })) M9 /\ (W4.putObj w.heap.size (.loop { rec .ready none with state := .done,pending:=some c })).heap[w.heap.size]?=some (.loop (rec .done (some c1))) /\ (∀ b,BlM M9 b->b≠w.heap.size) /\ Fr e0.B W1 (W4.putObj w.heap.size (.loop { rec .ready none with state := .done,pending:=some c }))):=by
    intro c M' W4 hc hm';obtain ⟨g1,g2,h4⟩:=fin M' W4 hm';refine ⟨c,M',hc,?_,?_,fun b hb=>?_,?_⟩
    rotate_right
    ·refine hfW.trans' ((((hfa.mono (G:=(aPM Mk w.heap.size (rec .ready none)).B) fun _ _ h => .inl h).trans' f2 fun r _ e => .inr e).trans' hm'.fr fun r hr hb=>(by rcases hM1n r hb with h | h;exact .inl h;omega)).trans' (Fr.putObj W4 _ _) fun r _ e => .inr e) fun r hr hb=>?_;rw [←he0];rcases hb with h | h
     ·rcases hsub r h with h | h
      ·exact .inl h
      ·have:W1.heap.size=w.heap.size+1:=by rw [←hW1];simp
       omega
     ·exact .inr h
    ·refine ⟨?_,fun x hx=>?_,fun x hx b hb hlt=>?_,hm'.nd⟩
     ·refine (hF3.trans' hm'.fr fun r hr hb=>?_).trans' (Fr.putObj W4 _ _) fun r hr e=>?_
      ·rcases hM1n r hb with h | h
       ·rcases hsub r h with ⟨x,hx,h⟩ | h
        ·exact hM.own x hx r h hr
        ·have:=hM.fr.size;omega
       ·have:=hM.fr.size;omega
      ·have:=hM.fr.size;omega
     ·refine x.fr (hm'.at_ x hx) (Fr.putObj W4 _ _) fun b hb e=>?_;rcases g1 b ⟨x,hx,hb⟩ with h | h
      ·have:=hblt b h;omega
      ·omega
     ·rcases g1 b ⟨x,hx,hb⟩ with ⟨y,hy,h⟩ | h
      ·exact hM.own y hy b h hlt
      ·have:=hM.fr.size;omega
    ·refine (World.putObj_heap_same (aAf h4)).trans ?_;rw [hrec]
    ·rcases g1 b hb with h | h
     ·have:=hblt b h;omega
     ·omega
   refine wpIn_mono (hb W3 w.heap.size ⟨aWV X (fun W'=>∃ M',I (k+1) M' /\ Mm (BlM M1) W3 W' M') (fun W'=>∃ M',T M' /\ Mm (BlM M1) W3 W' M') (fun W'=>∃ M',Tb M' /\ Mm (BlM M1) W3 W' M'),some w.heap.size⟩ hF3 hM3 ⟨rfl,fun a M' W' h1 h2=>⟨M',h1,h2⟩,fun a M' W' h1 h2=>⟨M',h1,h2⟩,fun a M' W' h1 h2=>⟨rfl,M',h1,h2⟩⟩ _ E1) ?_;rintro e a3 W4 hp
   cases e with
   | normal =>
    obtain ⟨M',hI',hm'⟩:=hp;obtain ⟨g1,g2,h4⟩:=fin M' W4 hm';have hr:=run_endRound (P:=P) none h4;refine ⟨_,_,hr,.inl ⟨rfl,_,⟨M',hI',hm'.nd,g1,rfl⟩,⟨fun x hx=>x.fr (hm'.at_ x hx) (Fr.putObj W4 _ _) fun b hb e=>?_,?_⟩,?_,?_⟩⟩
    ·rcases g1 b ⟨x,hx,hb⟩ with h | h
     ·have:=hblt b h;omega
     ·omega
    ·refine (World.putObj_heap_same (aAf h4)).trans ?_;rw [hrec];rfl
    ·rintro b (h | h)
     ·rcases g2 b h with h | h
      ·exact .inl (.inl h)
      ·exact .inr h
     ·exact .inl (.inr h)
    ·refine (((hfa.mono (G:=(aPM Mk w.heap.size (rec .ready none)).B) fun _ _ h => .inl h).trans' f2 fun r _ e => .inr e).trans' hm'.fr fun r hr hb=>?_).trans' (Fr.putObj W4 _ _) fun r _ e => .inr e;rcases hM1n r hb with h | h
     ·exact .inl h
     ·omega
   | ret =>
    obtain ⟨M',hI',hm'⟩:=hp;obtain ⟨g1,g2,h4⟩:=fin M' W4 hm';have hr:=run_endRound (P:=P) (some .ret) h4;exact ⟨_,_,hr,.inr ⟨rfl,jmp .ret M' W4 (.inl ⟨rfl,hI'⟩) hm'⟩⟩
   | exit id =>
    obtain ⟨rfl,M',hI',hm'⟩:=hp;obtain ⟨g1,g2,h4⟩:=fin M' W4 hm';have hr:=run_endRound (P:=P) (some (.exit id)) h4;exact ⟨_,_,hr,.inr ⟨rfl,jmp (.exit id) M' W4 (.inr ⟨rfl,hI'⟩) hm'⟩⟩
   | goto t=>exact hp.elim
   | panic ch=>exact hp.elim
   | outgrown=>exact hp.elim
  | exit id=>exact hp.elim
  | goto t=>exact hp.elim
  | ret=>exact hp.elim
  | panic ch=>exact hp.elim
  | outgrown=>exact hp.elim
 ·
  have goon:∀ M' W',I vs.length M'∨Tb M'->Mm F0 w0 W' M'->post P R k1 .normal a W':=fun M' W' h hm=>by
   obtain ⟨O9,dr9,kk9,hf9,hk9⟩:=hdone M' W' h hm;rw [h2] at hf9;cases hf9;exact hk9 a E
  have pe:aEh X k1=aEh X k1:=rfl;rintro e W2 ⟨⟨v,rfl⟩,⟨_,⟨Mk,hI,hnd,hsub,rfl⟩,⟨hat,hl⟩,hfW⟩ | ⟨c,M',hT,hm,hl,hne,_⟩⟩
  ·have hr:=run_endLoop (P:=P) hl (by rw [hrec];simp);rw [hrec] at hr;refine ⟨none,_,hr,goon Mk _ (.inl hI) ?_⟩;refine ⟨(hF0 W2 hfW).trans' (Fr.putObj W2 _ _) fun r hr e=>?_,fun x hx=>?_,fun x hx b hb hlt=>?_,hnd⟩
   ·have:=hM.fr.size;omega
   ·refine x.fr (hat x hx) (Fr.putObj W2 _ _) fun b hb e=>?_;rcases hsub b ⟨x,hx,hb⟩ with h | h
    ·have:=hblt b h;omega
    ·omega
   ·rcases hsub b ⟨x,hx,hb⟩ with ⟨y,hy,h⟩ | h
    ·exact hM.own y hy b h hlt
    ·have:=hM.fr.size;omega
  ·have hr:=run_endLoop (P:=P) hl (by rw [hrec];simp);rw [hrec] at hr
   have hm9:∀ ob,Mm F0 w0 (W2.putObj w.heap.size ob) M':=fun ob =>
    ⟨hm.fr.trans' (Fr.putObj W2 _ _) fun r hr e=>by have:=hM.fr.size;omega,fun x hx=>x.fr (hm.at_ x hx) (Fr.putObj W2 _ _) fun b hb e=>hne b ⟨x,hx,hb⟩ e,hm.own,hm.nd⟩
   refine ⟨some c,_,hr,?_⟩;rcases hT with ⟨rfl,hT⟩ | ⟨rfl,hT⟩
   ·refine wpIn_ret ?_;exact aDf (R:=R) (hstop _ M' _ hT (hm9 _) E)
   ·refine wpIn_exit ?_
    cases k1 with
    | nil=>cases hx
    | cons x k =>
     cases x with
     | block j =>
      have hj:Nat.beq j X=true:=hx
      refine aCQ (k':=k) (by
       show (bif j==X then some k else aEh X k)=some k;rw [show (j==X)=true from by simpa using Nat.eq_of_beq_eq_true hj];rfl) ?_
      exact goon M' _ (.inr hT) (hm9 _)
     | _=>cases hx
end
section
variable {P:Program}{B:Code}{R:Pst}{ds:List Deferred}{n:Nat}{L:Frm}{w:World}
theorem aCP {id:Nat}{a:Act}:∀ {k:List Kon},aEh id k=none->R.q (.exit id) a w->post P R k (.exit id) a w
 | [],_,q=>q
 | .seq _::k,h,q=>aCP (k:=k) h q
 | .loop _::k,h,q=>aCP (k:=k) h q
 | .scope::k,h,q=>aCP (k:=k) h q
 | .block j::k,h,q=>by
  show Exit.inBlock j (post P R k) (.exit id) a w;unfold aEh at h
  cases hj:(j==id) with
  | true=>rw [hj] at h;cases h
  | false =>
   rw [hj] at h;simp only [Exit.inBlock];rw [if_neg (fun e=>by rw [e] at hj;simp at hj)];exact aCP (k:=k) h q
theorem aX9 (r i X:Nat) (k:∀ a,EnvS ds n L a->R.q (.exit X) a w) (h:(match aBm r B [] with
   | some (O,dr,.seq (.cond c (.exit Y) y)::k)=>some (dr,(O.toList.drop i).isEmpty,Nat.beq X Y,(aEh X k).isNone,opv L c)
   | _=>none)=some (false,true,true,true,some (.bool true)):=by kernel_rfl):AtO P B R ds n (some (r,i)) L w:=by
 split at h
 rotate_left
 ·cases h
 rename_i O dr c Y y kk hf;simp only [Gl_,Prod.mk.injEq] at h;obtain ⟨rfl,h1,h2,h3,h4⟩:=h;have h2:=Nat.eq_of_beq_eq_true h2;subst h2;refine ⟨_,_,_,hf,fun a E=>?_⟩;show wpListIn (fen R.rd) 0 P O _ (O.toList.drop i) a w;rw [List.isEmpty_iff.1 h1];show (Code.cond c (.exit X) y).wpIn (fen R.rd) 0 P (post P R kk) a w
 exact wpIn_cond_true (E.opv h4) (wpIn_exit (aCP (by
  cases hx:aEh X kk with
  | none=>rfl
  | some z=>rw [hx] at h3;cases h3) (k a E)))
end
def aTp (S:World->Prop) (F0:Nat->Prop) (w0:World) (N:Nat):Ent where
 B:=fun k=>k<N /\ (F0 k∨w0.heap.size<=k)
 H:=fun w=>∃ w1,S w1 /\ w1.heap.size=N /\ Fr F0 w0 w1 /\ Fr (fun k=>¬ F0 k /\ k<w0.heap.size) w1 w
 lt:=fun ⟨w1,_,h2,_,f⟩ h=>by have:=f.size;have:=h.1;omega
 fr:=fun ⟨w1,h1,h2,f0,f⟩ f9 hd=>⟨w1,h1,h2,f0,f.trans' f9 fun r hr hg=>by
  refine ⟨fun h=>hd r ⟨by omega,.inl h⟩ hg,?_⟩;rcases Nat.lt_or_ge r w0.heap.size with h | h
  ·exact h
  ·exact absurd hg (hd r ⟨by omega,.inr h⟩)⟩
def aKJ (S:World->Prop) (F0:Nat->Prop) (w0:World) (e:Ent):Prop:=∃ N,e=aTp S F0 w0 N
theorem Mm.stop {S:World->Prop}{F0:Nat->Prop}{w0 w:World}{e:Ent}(hS:∀ W W',S W->Fr nF_ W W'->S W') (h:Mm F0 w0 w [pfE (aKJ S F0 w0) e]):S w:=by
 obtain ⟨⟨N,rfl⟩,w1,h1,h2,f0,f⟩:=h.get 0 rfl;refine hS _ _ h1 ⟨f.os,f.tape,f.output,f.size,fun r hr _=>?_⟩
 by_cases hc:¬ F0 r /\ r<w0.heap.size
 ·rw [h.fr.blk r hc.2 hc.1,f0.blk r hc.2 hc.1]
 ·exact f.blk r hr hc
def isT:Value->Bool
 | .bool b=>b
 | _=>false
section
variable {rd:Option Nat}{P:Program}{B:Code}{ds:List Deferred}{n:Nat}{L:Frm}{w w0:World}{r:Nat}{F0:Nat->Prop}{ef:List Nat}{V:Lts->List (Option Value)}{F:Lts->List Ft}{Mf:Lts->List Bool->List Ent}
theorem aQs (p i j d k:Nat) (ts:Array TypeId) {l:Nat}{v v2:Value}{J:Nat->Ent->Prop}{S:World->Prop}(e:Lts->Ent)
  (hR:∀ γ wm,J k (e γ)->(e γ).H wm->Fr F0 w0 wm->aHE P l #[v,v2] wm (aW9 J k (e γ) wm) S)
  (hFr:∀ wm,S wm->Fr F0 w0 wm)
  (hj:∀ γ fr,(Mf γ (flg B r ef i fr))[j]?=some (pfE (J k) (e γ)):=by intro γ fr;kernel_rfl)
  (hm:∀ γ fr e',(Mf γ (flg B r ef i fr)).set j (pfE (J (k+1)) e')=Mf (aFj (aCd γ p (.bool true)) p e') ((flg B r ef i fr).set p true):=by intro γ fr e';kernel_rfl)
  (hm2:∀ γ fr e',[pfE (aKJ S F0 w0) e']=Mf (aFj (aCd γ p (.bool false)) p e') ((flg B r ef i fr).set p true):=by intro γ fr e';kernel_rfl)
  (hV:∀ γ e',((V (aFj (aCd γ p (.bool true)) p e'))[p]?).getD none=some (.bool true):=by intro γ e';rfl)
  (hV2:∀ γ e',((V (aFj (aCd γ p (.bool false)) p e'))[p]?).getD none=some (.bool false):=by intro γ e';rfl)
  (hs:∀ γ,aST (aAI B r) i (frX P w n B r L ef V F i γ)=aSS (aAI B r) i (fun x y z => .call ⟨.value x,#[y,z],ts⟩) (.func (.yield l) #[] #[]) v v2 (some d):=by intro γ;kernel_rfl):Arm rd P w n B r L ef V F ds F0 w0 Mf p i:=by
 intro γ fr a wm Q o ho E hw hM;obtain ⟨x,y,z,h1,h2,h3,h5,h4⟩:=aKl ho E (hs γ);obtain ⟨hJ,hH⟩:=hM.get j (hj γ fr);refine aOR (fun _ _ _ _ h=>aJh h1 h2 h3 h5 h) (hR γ wm hJ hH hM.fr) (fun w' hw'=>?_) fun w' h=>?_
 ·obtain ⟨e',g1,g2,g3,g4⟩:=hw';have hM':=hM.put (w':=w') j (hj γ fr) g4 (fun k _ e=>e) (e':=pfE (J (k+1)) e') ⟨g1,g2⟩ g3;rw [hm] at hM';exact ⟨.bool true,e',by rw [hV,h4];rfl,hM'⟩
 ·refine ⟨.bool false,aTp S F0 w0 w'.heap.size,by rw [hV2,h4];rfl,?_⟩;rw [←hm2]
  exact ⟨hFr w' h,fun x hx=>by rw [Gd_] at hx;subst hx;exact ⟨⟨_,rfl⟩,w',h,rfl,hFr w' h,Fr.refl _ _⟩,fun x hx b hb hlt=>by
   rw [Gd_] at hx;subst hx;rcases hb.2 with h | h
   ·exact h
   ·omega,List.pairwise_singleton _ _⟩
end
end Go.Pl
namespace Go.Proofs.YtngjlnhojicjeaaGreatDoor
open Go.RowKit Go.Pl
def aJ7 (L:List Pt) (i:Nat):Pt:=L.getD i (0,0)
def sdP (L:List Pt) (k:Nat):Pt×Pt:=(aJ7 L k,aJ7 L ((k+1)%L.length))
def sgA (s:Pt×Pt):Value := .agg #[vI s.1.1,vI s.1.2,vI s.2.1,vI s.2.2]
def sdV (L:List Pt):List (Array Value):=(List.range L.length).map fun (k:Nat)=>#[vI (k:Int),sgA (sdP L k)]
def SdK (c1:Nat) (p:Option Addr) (cap:Nat) (L:List Pt) (G:Nat->Prop) (W:World):Prop:=W.heap[c1]?=some (.cells #[vL p L.length cap] 100 (0,0)) /\ ¬ G c1 /\ ∃ B,SrcB ptL 2 W B p cap L /\ ∀ k,G k->B<=k
theorem aEI {L:List Pt}{i:Nat}{y:Pt}(h:L[i]?=some y):aJ7 L i=y:=by unfold aJ7;rw [List.getD_eq_getElem?_getD,h];rfl
theorem aT0 {L:List Pt}{k:Nat}(h:k<L.length):(sdV L)[k]?=some #[vI (k:Int),sgA (sdP L k)]:=by unfold sdV;rw [Gr_,List.getElem?_range h];rfl
theorem aM9 {L:List Pt}{k:Nat}{v:Array Value}(h:(sdV L)[k]?=some v):k<L.length /\ v=#[vI (k:Int),sgA (sdP L k)]:=by
  unfold sdV at h;rw [Gr_] at h
  by_cases hk:k<L.length
  · rw [List.getElem?_range hk] at h
    exact ⟨hk,(Gi_ h).symm⟩
  · rw [List.getElem?_eq_none (by rw [List.length_range];omega)] at h;cases h
section
variable {rd:Option Nat}{P:Program}{B:Code}{ds:List Deferred}{n:Nat}{L:Frm}{w w0:World}{r:Nat}{F0:Nat->Prop}{ef:List Nat}{V:Lts->List (Option Value)}{F:Lts->List Ft}{Mf:Lts->List Bool->List Ent}
theorem aVO (p i d:Nat) (f:Operand->Op) (x v:Value) (hft:∀ Z fr wm,Mm F0 w0 wm (Mf Z (flg B r ef i fr))->Ft.ok P wm (.g1 f x v))
    (hm:∀ Z fr,Mf Z (flg B r ef i fr)=Mf (aCd Z p undef) ((flg B r ef i fr).set p true):=by intro Z fr;kernel_rfl)
    (hV:∀ Z,((V (aCd Z p undef))[p]?).getD none=some v:=by intro Z;rfl)
    (hs:∀ Z,aTu (aAI B r) i (frX P w n B r L ef V F i Z)=aTt (aAI B r) i f x (some d):=by intro Z;kernel_rfl):Arm rd P w n B r L ef V F ds F0 w0 Mf p i:=by
  intro Z fr a wm Q o ho En hw hM;obtain ⟨y,h1,h2,h3⟩:=aM2 ho En (hs Z);have hr:=hft Z fr wm hM o a.eval y h1 h2;rw [hm] at hM;exact aG2 (v:=v) (w':=wm) hr ⟨undef,Z.e p,by rw [aA6,hV,h3];rfl,by rw [aA6];exact hM⟩
end
abbrev aWd (Z:Ending->World->Prop):=AtO Tryz.prog (aAK Tryz.f179) (aBc (bodyPost Tryz.prog Tryz.f179 Z)) [] 27
theorem aD2 {c1 cap:Nat}{p:Option Addr}{L:List Pt}:aSN Tryz.prog 179 #[vP c1 0] (sdV L) (SdK c1 p cap L):=by
  intro l J S w e0 hJ0 he hKp hSq hSf hround;obtain ⟨hc1,hn1,B,hs,hG⟩:=hKp;have bb:=hs.bnd;refine beg Tryz.func179 rfl rfl [(0,.func (.yield l) #[] #[]),(1,vP c1 0)] rfl rfl fun Z hZ=>?_;have hM:=Mm.one he;refine seg 1 0 [(5,vL p L.length cap),(6,vI (L.length:Int)),(7,vI 0)] (fc (ld0 100 hM (bx hc1 0 rfl) hn1) f0) ?_
  have ah:∀ (ae:Nat) (k:Nat) (ek:Ent) (w2:World),k<=L.length->J k ek->Mm e0.B w w2 [ek]->ae=L.length-k->aWd Z (some (1,0)) [(7,vI (k:Int)),(6,vI (L.length:Int)),(5,vL p L.length cap),(0,.func (.yield l) #[] #[]),(1,vP c1 0)] w2:=by
   refine aCC fun ae ai k ek w2 hk hJ hM ao=>seg 1 1 [(8,vB (decide ((k:Int)<(L.length:Int))))] f0 ?_;cases af:(decide ((k:Int)<(L.length:Int)))
   ·have aj:=df af;exact rt0 rfl f0 (hZ _ _ ⟨⟨_,rfl⟩,.inl ⟨_,by unfold sdV;rw [Gp_,List.length_range,show L.length=k by omega];exact hJ,hM.get 0 rfl,hM.fr⟩⟩)
   have aj:=dt af;obtain ⟨aa,ab,ap,aq,ak,al,n122⟩:=(hs).eb hG (i:=k) (by omega);refine aA1 2 3 4 [(9,vI (k:Int)),(11,.agg #[vI aa.1,vI aa.2])] (cs:=#[vI 0,vI 0]) (T:=29) (v:=fun b=>vP b 0) (fc (ix 100 cap ak (gl ab)) (fc (la0 29 hM al n122) f0)) hM fun ac w1 hM=>stm 2 5 [(3,vI (k:Int))] 29 1 0 (.agg #[vI aa.1,vI aa.2]) f0 hM rfl fun w1 hM=>?_;have hmod:=Nat.mod_lt (k+1) (show 0<L.length by have:=gl ab;omega);refine seg 3 0 [] f0 ?_;have hM:=hM.pf (j:=0) (Q:=J k) rfl hJ;obtain ⟨ad,ag,ar,au,am,an,n124⟩:=(hs).eb hG (i:=((k+1)%L.length)) (by omega);have hsd:sdP L k=(aa,ad):=by unfold sdP;rw [aEI ab,aEI ag]
   refine drx [2,12] (fun γ=>[some (.agg #[vI aa.1,vI aa.2]),some (.bool (isT (γ.v 1)))]) _ (fun γ l=>(bif l.getD 1 false && !(isT (γ.v 1)) then [pfE (aKJ S e0.B w) (γ.e 1)] else [(bif l.getD 1 false then pfE (J (k+1)) (γ.e 1) else pfE (J k) ek),bk ac #[vI aa.1,vI aa.2] 29])) (fun γ=>[(25,.bool (!(isT (γ.v 1))))]) hM (fun γ=>rfl) (fun γ l w5 hM=>(fc (ld0 100 hM (bx hc1 0 rfl) hn1) (fc (aA8 (k:Int) 1 u3_) (fc (ld0 100 hM (bx hc1 0 rfl) hn1) (fc (aWh ((k:Int)+1) (L.length:Int) u3_) (fc (ix 100 cap am (gl ag) (z:=(((k:Int)+1)%(L.length:Int))) (hz:=(by rw [Int.natCast_emod];rfl))) (fc (la0 29 hM an n124) f0))))))) ⟨aVO 0 2 14 (.load 29) (vP ac 0) (.agg #[vI aa.1,vI aa.2]) (fun γ fr wm hM=>lam 29 1 0 2 hM rfl),aQs 1 12 0 24 k #[3,126] (v:=vI (k:Int)) (v2 := .agg #[vI aa.1,vI aa.2,vI ad.1,vI ad.2]) (J:=J) (S:=S) (fun γ=>ek) (fun γ wm hJ hH hf=>hround _ _ _ _ hJ hH hf (by rw [aT0 (by have:=gl ab;omega),hsd];rfl)) hSf,trivial⟩ fun γ8 w1 hM=>?_;obtain ⟨bb,hbb⟩:∃ bb,bb=isT (γ8.v 1):=⟨_,rfl⟩;have hM:Mm e0.B w w1 (bif true && !(bb) then [pfE (aKJ S e0.B w) (γ8.e 1)] else [(bif true then pfE (J (k+1)) (γ8.e 1) else pfE (J k) ek),bk ac #[vI aa.1,vI aa.2] 29]):=by rw [hbb];exact hM
   rw [←hbb];clear hbb
   cases bb with
   | false =>
     have hS:S w1:=Mm.stop hSq hM;exact rt0 rfl f0 (hZ _ _ ⟨⟨_,rfl⟩,.inr hS⟩)
   | true =>
     obtain ⟨hJ,hM⟩:=Mm.unpf (j:=0) (M:=[pfE (J (k+1)) (γ8.e 1),bk ac #[vI aa.1,vI aa.2] 29]) (e:=γ8.e 1) (Q:=J (k+1)) hM rfl;refine seg 1 0 [(7,vI ((k:Int)+1))] (fc (aA8 (k:Int) 1 u3_) f0) (aAj _ (ai _ (by omega) (k+1) _ _ (gl ab) hJ (hM.pick [0]) rfl))
  exact aAj _ (ah _ 0 e0 _ (Gg_ _) hJ0 hM rfl)
theorem geM {N:Nat}{w0 w:World}{M M1:List Ent}(h:∀ k,BlM M k->N<=k) (hN:N<=w0.heap.size) (hM:Mm (BlM M) w0 w M1):∀ k,BlM M1 k->N<=k:=fun k ⟨e,he,hb⟩=>by
  rcases Nat.lt_or_ge k w0.heap.size with h1 | h1
  · exact h k (hM.own e he k hb h1)
  · exact Gn_ hN h1
theorem ge0 {w0 w:World}{M:List Ent}(hM:Mm nF_ w0 w M):∀ k,BlM M k->w0.heap.size<=k:=fun k ⟨e,he,hb⟩=>hM.ge he hb
section
variable {P:Program}{B:Code}{n:Nat}{p:Option (Nat×Nat)}{L:Frm}{w w0:World}{F:List Ft}{F0:Nat->Prop}{M:List Ent}{fn:Func}{Φ:Ending->World->Prop}{t2 T2 b2:Nat}{v2:Value}
theorem aP0 {a:Act}(hr:fn.results=#[.cell t2 T2]) (h2:a.eval (.tmp t2)=vP b2 0) (j2:Nat) (m2:M[j2]?=some (bk b2 #[v2] T2)) (hs:scT P T2=true) (hM:Mm F0 w0 w M):(results fn a.tmps).run P w = .ok v2 w:=by
  have l2:=aFE (P:=P) hs (bx (hM.get j2 m2) 0 rfl);have e2:a.tmps[t2]?.getD undef=vP b2 0:=by have:a.tmps.getD t2 undef=vP b2 0:=h2;simpa using this
  simp only [Instr.loadAt,Instr.sureAddr,Sem.run_bind,Sem.run_pure,Result.andThen_ok] at l2;simp [results,hr,e2,asAddr,l2]
theorem aRI {D:Nat}(j2:Nat) (hr:fn.results=#[.cell t2 T2]) (hF:aBD P w F) (hM:Mm F0 w0 w (M++[dfE D])) (m2:M[j2]?=some (bk b2 #[v2] T2)) (k:∀ w',Mm F0 w0 w' M->Φ (.returned v2) w') (hs:scT P T2=true:=by kernel_rfl)
    (h:aQY (go P w n B p L 1000000 0 F) [(t2,vP b2 0)] L=aNO (go P w n B p L 1000000 0 F) [(t2,vP b2 0)]:=by kernel_rfl):AtO P B (aMs P fn Φ) [mkD D] n p L w :=
  aSy _ hF h fun a E=>aNC (u:=true) E.df hM fun w' hM'=>⟨_,aP0 hr (E.at_ t2 _ (by simp [Go.Pl.look])) j2 m2 hs hM',k w' hM'⟩
theorem aVu (j2:Nat) (hr:fn.results=#[.cell t2 T2]) (hF:aBD P w F) (hM:Mm F0 w0 w M) (m2:M[j2]?=some (bk b2 #[v2] T2)) (k:Φ (.returned v2) w) (hs:scT P T2=true:=by kernel_rfl)
    (h:aQY (go P w n B p L 1000000 0 F) [(t2,vP b2 0)] L=aNO (go P w n B p L 1000000 0 F) [(t2,vP b2 0)]:=by kernel_rfl):AtO P B (aMs P fn Φ) [] n p L w :=
  aSy _ hF h fun a E=>aTP E.df ⟨_,aP0 hr (E.at_ t2 _ (by simp [Go.Pl.look])) j2 m2 hs hM,k⟩
end
theorem aEc (p:Option Addr) (n c:Nat) (w:World):Calls Tryz.prog 129 #[vL p n c] w fun e w'=>∃ b,e = .returned (.func (.func 179) #[] #[vP b 0]) /\ w'.heap[b]?=some (.cells #[vL p n c] 100 (0,0)) /\ w.heap.size<=b /\ Fr nF_ w w':=by
  refine beg Tryz.func129 rfl rfl [(0,vL p n c)] rfl rfl fun Z hZ=>?_;have hM:=Mm.nil nF_ w;refine aA1 0 0 1 [] (cs:=#[vL p n c]) (T:=100) (v:=fun b=>vP b 0) f0 hM fun aa w1 hM=>rt1 2 (.func (.func 179) #[] #[vP aa 0]) rfl f0 (hZ _ _ ⟨aa,rfl,hM.get 0 rfl,hM.ge (.head _) rfl,hM.fr⟩)
def nbP (L:List Pt) (i k:Nat):Bool:=((i:Int)-(k:Int)==1)||((i:Int)-(k:Int)==(L.length:Int)-1)
def okS (L:List Pt) (i k:Nat):Bool:=bif nbP L i k then aAX (sdP L i) (sdP L k)==1 else aAX (sdP L i) (sdP L k)==0
def okI (L:List Pt) (i:Nat):Bool:=(List.range i).all fun k=>okS L i k
def aHF (L:List Pt):Bool:=aL9 L&&(List.range L.length).all fun i=>okI L i
theorem aM5 {L:List Pt}{i k:Nat}(hk:k<i) (hi:i<L.length) (h:okS L i k=false):aHF L=false:=by
  unfold aHF;rw [Bool.and_eq_false_iff];right;rw [List.all_eq_false];refine ⟨i,List.mem_range.2 hi,?_⟩;unfold okI;rw [Bool.not_eq_true,List.all_eq_false];exact ⟨k,List.mem_range.2 hk,by rw [h];simp⟩
theorem aTA {L:List Pt}{i:Nat}(h:∀ k,k<i->okS L i k=true):okI L i=true:=by
  unfold okI;rw [List.all_eq_true];exact fun k hk=>h k (List.mem_range.1 hk)
theorem aR8 {L:List Pt}(hr:aL9 L=true) (h:∀ i,i<L.length->okI L i=true):aHF L=true:=by
  unfold aHF;rw [hr,Bool.true_and,List.all_eq_true];exact fun k hk=>h k (List.mem_range.1 hk)
theorem al_ {p:Nat->Prop}{k:Nat}(h:∀ j,j<k->p j)(e:p k):∀ j,j<k+1->p j:=fun j hj=>by rcases Nat.lt_succ_iff_lt_or_eq.1 hj with z | z;exact h j z;rw [z];exact e
theorem aD1 {w:World}{p:Option Addr}{cap:Nat}{L:List Pt}(hs:SrcP ptL 2 w p cap L):Calls Tryz.prog 73 #[vL p L.length cap] w fun e w'=>e = .returned (vB (aHF L)) /\ Fr nF_ w w':=by
  have bb:=hs.bnd;refine aW7 Tryz.func73 rfl rfl [(0,vL p L.length cap)] rfl rfl fun Z hZ=>?_;have hM:=Mm.nil nF_ w;refine aA1 0 0 1 [] (cs:=#[vL p L.length cap]) (T:=100) (v:=fun b=>vP b 0) f0 hM fun ac w1 hM=>aA1 0 1 2 [] (cs:=#[vB false]) (T:=4) (v:=fun b=>vP b 0) f0 hM fun aa w1 hM=>aAw 1 1 11 [(10,vL p L.length cap)] (fc (ldm 100 0 0 hM rfl rfl) f0) hM (aHl (hs.fr hM.fr)) fun w1 hM=>seg 1 3 [(12,vB (!(aL9 L)))] f0 ?_;cases ah:(aL9 L)
  ·refine stm 2 0 [] 4 1 0 (vB false) f0 hM rfl fun w1 hM=>aVu 1 rfl f0 hM rfl (hZ _ _ ⟨by unfold aHF;rw [ah];rfl,hM.fr⟩)
  refine aDq 3 2 3 [(14,vI (L.length:Int))] [] 3 (vI (L.length:Int)) (fc (ldm 100 0 0 hM rfl rfl) f0) hM fun ab w1 hM=>cal 4 1 16 [(15,vL p L.length cap)] (K:=fun u w8=>∃ b,u = .func (.func 179) #[] #[vP b 0] /\ w8.heap[b]?=some (.cells #[vL p L.length cap] 100 (0,0)) /\ (World.heap _).size<=b /\ Fr nF_ _ w8) (fc (ldm 100 0 0 hM rfl rfl) f0) ((aEc p L.length cap _).mono fun e w9 ⟨b,h1,h2⟩=>⟨_,h1,b,rfl,h2⟩) fun u w1 ⟨it130,hu,hi130,hs130,f1⟩=>?_;subst hu;have hn130:¬ BlM [bk ac #[vL p L.length cap] 100,bk aa #[vB false] 4,bk ab #[vI (L.length:Int)] 3] it130:=fun ⟨e,he,hb⟩=>Nat.lt_irrefl _ (Nat.lt_of_lt_of_le (e.lt (hM.at_ e he) hb) hs130);have hM:=hM.q f1;refine seg 1005 0 [] f0 ?_;have hg9:∀ k9,BlM [bk ac #[vL p L.length cap] 100,bk aa #[vB false] 4,bk ab #[vI (L.length:Int)] 3] k9->w.heap.size<=k9:=ge0 hM;refine aT4 5 (g := .tmp 16) (ps:=#[17,18]) (vs:=sdV L) (fun i Mk=>Mk=[bk ac #[vL p L.length cap] 100,bk aa #[vB false] 4,bk ab #[vI (L.length:Int)] 3] /\ ∀ j,j<i->okI L j=true) (fun Mk=>aHF L=false /\ Mk=[bk ac #[vL p L.length cap] 100,bk aa #[vB false] 4,bk ab #[vI (L.length:Int)] 3]) hM ⟨rfl,fun j h=>absurd h (Nat.not_lt_zero j)⟩ (enters_of Tryz.func179 (by kernel_rfl) rfl) aD2 (fun G W hG f=>⟨f.obj hi130 id,fun h=>(hG _ h).elim hn130 (fun h2=>absurd (aAf hi130) (by omega)),w.heap.size,hs.b (hM.fr.trans' f fun _ _ h=>h.elim),fun k hk=>(hG k hk).elim (hg9 k) fun h2=>Gn_ (hM.fr).size h2⟩) (vsz (ps:=#[17,18]) rfl) ?_ ?_ ?_
  · skip
    intro i v Mk W l hv hI hfW hM;obtain ⟨rfl,hall⟩:=hI;obtain ⟨hi,rfl⟩:=aM9 hv;have hgk:∀ k9,BlM [bk ac #[vL p L.length cap] 100,bk aa #[vB false] 4,bk ab #[vI (L.length:Int)] 3] k9->w.heap.size<=k9:=hg9;have hfw:Fr nF_ w W:=hfW;refine aDq 5 0 4 [] [] 3 (vI (i:Int)) f0 hM fun ad w1 hM=>aDq 6 0 5 [] [] 126 (.agg #[vI (sdP L i).1.1,vI (sdP L i).1.2,vI (sdP L i).2.1,vI (sdP L i).2.2]) f0 hM fun ae w1 hM=>?_;have hg2:∀ k9,BlM [bk ac #[vL p L.length cap] 100,bk aa #[vB false] 4,bk ab #[vI (L.length:Int)] 3,bk ad #[vI (i:Int)] 3,bk ae #[vI (sdP L i).1.1,vI (sdP L i).1.2,vI (sdP L i).2.1,vI (sdP L i).2.2] 126] k9->w.heap.size<=k9:=geM hgk hfw.size hM;refine aC9 [(5,vP ae 0),(4,vP ad 0),(3,vP ab 0),(2,vP aa 0),(1,vP ac 0)] f0 fun a E=>⟨_,_,E,hM,fun W2 l2 R2 hf2 hM hE2=>?_⟩;refine cal 7 1 20 [(19,vL p L.length cap)] (K:=fun u w8=>∃ b,u = .func (.func 179) #[] #[vP b 0] /\ w8.heap[b]?=some (.cells #[vL p L.length cap] 100 (0,0)) /\ (World.heap _).size<=b /\ Fr nF_ _ w8) (fc (ldm 100 0 0 hM rfl rfl) f0) ((aEc p L.length cap _).mono fun e w9 ⟨b,h1,h2⟩=>⟨_,h1,b,rfl,h2⟩) fun u w1 ⟨it133,hu,hi133,hs133,f1⟩=>?_;subst hu;have hn133:¬ BlM [bk ac #[vL p L.length cap] 100,bk aa #[vB false] 4,bk ab #[vI (L.length:Int)] 3,bk ad #[vI (i:Int)] 3,bk ae #[vI (sdP L i).1.1,vI (sdP L i).1.2,vI (sdP L i).2.1,vI (sdP L i).2.2] 126] it133:=fun ⟨e,he,hb⟩=>Nat.lt_irrefl _ (Nat.lt_of_lt_of_le (e.lt (hM.at_ e he) hb) hs133);have hM:=hM.q f1;refine seg 1008 0 [] f0 ?_;have hg9:∀ k9,BlM [bk ac #[vL p L.length cap] 100,bk aa #[vB false] 4,bk ab #[vI (L.length:Int)] 3,bk ad #[vI (i:Int)] 3,bk ae #[vI (sdP L i).1.1,vI (sdP L i).1.2,vI (sdP L i).2.1,vI (sdP L i).2.2] 126] k9->w.heap.size<=k9:=geM hg2 (Gn_ hf2.size (Gk_ _)) hM;obtain ⟨rr4,hlp4⟩:=hE2.lp;refine aVx 8 2 (g := .tmp 20) (ps:=#[21,22]) (vs:=sdV L) (fun k Mk=>Mk=[bk ac #[vL p L.length cap] 100,bk aa #[vB false] 4,bk ab #[vI (L.length:Int)] 3,bk ad #[vI (i:Int)] 3,bk ae #[vI (sdP L i).1.1,vI (sdP L i).1.2,vI (sdP L i).2.1,vI (sdP L i).2.2] 126] /\ ∀ j,j<k->okS L i j=true) (fun Mk=>aHF L=false /\ Mk=[bk ac #[vL p L.length cap] 100,bk aa #[vB false] 4,bk ab #[vI (L.length:Int)] 3,bk ad #[vI (i:Int)] 3,bk ae #[vI (sdP L i).1.1,vI (sdP L i).1.2,vI (sdP L i).2.1,vI (sdP L i).2.2] 126]) (fun Mk=>Mk=[bk ac #[vL p L.length cap] 100,bk aa #[vB false] 4,bk ab #[vI (L.length:Int)] 3,bk ad #[vI (i:Int)] 3,bk ae #[vI (sdP L i).1.1,vI (sdP L i).1.2,vI (sdP L i).2.1,vI (sdP L i).2.2] 126] /\ ∀ j,j<i->okS L i j=true) hE2.rd (hM.fr.obj hlp4 hE2.nl) hM ⟨rfl,fun j h=>absurd h (Nat.not_lt_zero j)⟩ (enters_of Tryz.func179 (by kernel_rfl) rfl) aD2 (fun G W hG f=>⟨f.obj hi133 id,fun h=>(hG _ h).elim hn133 (fun h2=>absurd (aAf hi133) (by omega)),w.heap.size,hs.b ((hf2.trans' hM.fr fun r hr hb=>absurd hr (by have:=hg2 r hb;omega)).trans' f fun _ _ h=>h.elim),fun k hk=>(hG k hk).elim (hg9 k) fun h2=>Gn_ ((hf2.trans' hM.fr fun r hr hb=>absurd hr (by have:=hg2 r hb;omega))).size h2⟩) (vsz (ps:=#[21,22]) rfl) ?_ ?_ ?_ (by kernel_rfl)
    · skip
      intro k v Mk W l hv hI hfW hM;obtain ⟨rfl,hin⟩:=hI;obtain ⟨hk,rfl⟩:=aM9 hv;have hgk:∀ k9,BlM [bk ac #[vL p L.length cap] 100,bk aa #[vB false] 4,bk ab #[vI (L.length:Int)] 3,bk ad #[vI (i:Int)] 3,bk ae #[vI (sdP L i).1.1,vI (sdP L i).1.2,vI (sdP L i).2.1,vI (sdP L i).2.2] 126] k9->w.heap.size<=k9:=hg9;have hfw:Fr nF_ w W:=hf2.trans' hfW fun r hr hb=>absurd hr (by have:=hg2 r hb;omega);refine aDq 9 0 7 [(6,vI (k:Int))] [] 126 (.agg #[vI (sdP L k).1.1,vI (sdP L k).1.2,vI (sdP L k).2.1,vI (sdP L k).2.2]) f0 hM fun am w1 hM=>aC9 [(7,vP am 0),(6,vI (k:Int)),(5,vP ae 0),(4,vP ad 0),(3,vP ab 0),(2,vP aa 0)] f0 fun a E=>⟨_,_,E,hM,fun W4 l4 R4 hf4 hM hE4=>?_⟩;replace hf4:Fr nF_ w W4:=hf2.trans' hf4 fun r hr hb=>absurd hr (by have:=hg2 r hb;omega);refine seg 10 3 [(25,vB (decide ((i:Int)<=(k:Int))))] (fc (ldm 3 3 0 hM rfl rfl) f0) ?_;cases ai:(decide ((i:Int)<=(k:Int)))
      rotate_left
      ·have an:=dt ai;exact aX9 10 3 2 fun a E=>hE4.brk a _ _ ⟨rfl,fun j hj=>hin j (by omega)⟩ (hM.pick [0,1,2,3,4])
      have an:=df ai;refine aAw 11 2 28 [(26,.agg #[vI (sdP L i).1.1,vI (sdP L i).1.2,vI (sdP L i).2.1,vI (sdP L i).2.2]),(27,.agg #[vI (sdP L k).1.1,vI (sdP L k).1.2,vI (sdP L k).2.1,vI (sdP L k).2.2])] (fc (lam 126 4 0 4 hM rfl) (fc (lam 126 5 0 4 hM rfl) f0)) hM (aFU (sdP L i) (sdP L k) _) fun w1 hM=>seg 12 5 [(8,vI (aAX (sdP L i) (sdP L k))),(33,vB (((i:Int)-(k:Int))==1))] (fc (ldm 3 3 0 hM rfl rfl) (fc (aDU (i:Int) (k:Int) u3_) f0)) ?_;cases af:(((i:Int)-(k:Int))==1)
      rotate_left
      ·have ao:=et af;refine seg 13 6 [(9,vB true),(46,vB (!((aAX (sdP L i) (sdP L k))==1)))] f0 ?_;cases aj:((aAX (sdP L i) (sdP L k))==1)
       ·refine stm 14 0 [] 4 1 0 (vB false) f0 hM rfl fun w1 hM=>?_;have hok:okS L i k=false:=by unfold okS nbP;simp only [af,aj]<;>rfl
        exact aUH [] f0 fun a E=>hE4.ret a _ _ ⟨aM5 (by omega) hi hok,rfl⟩ (hM.pick [0,1,2,3,4])
       have hok:okS L i k=true:=by unfold okS nbP;simp only [af,aj]<;>rfl
       exact aC9 [] f0 fun a E=>hE4.nrm a _ _ ⟨rfl,al_ hin hok⟩ (hM.pick [0,1,2,3,4])
      have ao:=ef af;refine seg 13 2 [(9,vB (((i:Int)-(k:Int))==((L.length:Int)-1))),(42,vB (((i:Int)-(k:Int))==((L.length:Int)-1)))] (fc (ldm 3 3 0 hM rfl rfl) (fc (aDU (i:Int) (k:Int) u3_) (fc (ldm 3 2 0 hM rfl rfl) (fc (aDU (L.length:Int) 1 u3_) f0)))) ?_;cases ag:(((i:Int)-(k:Int))==((L.length:Int)-1))
      ·have ap:=ef ag;refine seg 13 13 [(53,vB (!((aAX (sdP L i) (sdP L k))==0)))] f0 ?_;cases ak:((aAX (sdP L i) (sdP L k))==0)
       ·refine stm 14 0 [] 4 1 0 (vB false) f0 hM rfl fun w1 hM=>?_;have hok:okS L i k=false:=by unfold okS nbP;simp only [af,ag,ak]<;>rfl
        exact aUH [] f0 fun a E=>hE4.ret a _ _ ⟨aM5 (by omega) hi hok,rfl⟩ (hM.pick [0,1,2,3,4])
       have hok:okS L i k=true:=by unfold okS nbP;simp only [af,ag,ak]<;>rfl
       exact aC9 [] f0 fun a E=>hE4.nrm a _ _ ⟨rfl,al_ hin hok⟩ (hM.pick [0,1,2,3,4])
      have ap:=et ag;refine seg 13 6 [(46,vB (!((aAX (sdP L i) (sdP L k))==1)))] f0 ?_;cases al:((aAX (sdP L i) (sdP L k))==1)
      ·refine stm 14 0 [] 4 1 0 (vB false) f0 hM rfl fun w1 hM=>?_;have hok:okS L i k=false:=by unfold okS nbP;simp only [af,ag,al]<;>rfl
       exact aUH [] f0 fun a E=>hE4.ret a _ _ ⟨aM5 (by omega) hi hok,rfl⟩ (hM.pick [0,1,2,3,4])
      have hok:okS L i k=true:=by unfold okS nbP;simp only [af,ag,al]<;>rfl
      exact aC9 [] f0 fun a E=>hE4.nrm a _ _ ⟨rfl,al_ hin hok⟩ (hM.pick [0,1,2,3,4])
    · skip
      intro Mk w1 hI hM;have hk:(sdV L).length=L.length:=by unfold sdV;rw [Gp_,List.length_range]
      rw [hk] at hI
      obtain ⟨rfl,hin⟩:Mk=[bk ac #[vL p L.length cap] 100,bk aa #[vB false] 4,bk ab #[vI (L.length:Int)] 3,bk ad #[vI (i:Int)] 3,bk ae #[vI (sdP L i).1.1,vI (sdP L i).1.2,vI (sdP L i).2.1,vI (sdP L i).2.2] 126] /\ ∀ j,j<i->okS L i j=true:=by
        rcases hI with ⟨rfl,h⟩ | h
        · exact ⟨rfl,fun j hj=>h j (by omega)⟩
        · exact h
      exact aC9 [] f0 fun a E=>hE2.nrm a _ _ ⟨rfl,fun j hj=>by rcases Nat.lt_succ_iff_lt_or_eq.1 hj with h | h;exact hall j h;rw [h];exact aTA hin⟩ (hM.pick [0,1,2])
    · skip
      intro a Mk w1 hT hM E;obtain ⟨hsm,rfl⟩:=hT;exact hE2.ret a _ _ ⟨hsm,rfl⟩ (hM.pick [0,1,2])
  · skip
    intro Mk w1 hI hM;obtain ⟨i,hk⟩:∃ k,k=(sdV L).length:=⟨_,rfl⟩;rw [←hk] at hI;replace hk:i=L.length:=by rw [hk];unfold sdV;rw [Gp_,List.length_range]
    obtain ⟨rfl,hall⟩:=hI;refine stm 15 0 [] 4 1 0 (vB true) f0 hM rfl fun w1 hM=>?_;have hM:Mm nF_ w _ ([bk ac #[vL p L.length cap] 100,bk aa #[vB true] 4,bk ab #[vI (L.length:Int)] 3]++[dfE _]):=hM;exact aRI 1 rfl f0 hM rfl (fun w9 hM=>hZ _ _ ⟨by rw [aR8 (ah) (fun i hi=>hall i (by omega))],hM.fr⟩)
  · skip
    intro a Mk w1 hT hM E;obtain ⟨hsm,rfl⟩:=hT;exact (aNC (u:=true) E.df hM fun w9 hM=>⟨_,aP0 rfl (E.at_ 2 (vP aa 0) rfl) 1 rfl (by kernel_rfl) hM,hZ _ _ ⟨by rw [hsm],hM.fr⟩⟩).1
def aAW (s:Pt×Pt) (z:Pt):Bool:=(aC0 s.1 s.2 z==0)&&(btw s.1.1 z.1 s.2.1&&btw s.1.2 z.2 s.2.2)
def dlt (s:Pt×Pt) (z:Pt):Int:=bif decide (s.1.2<=z.2)&&(decide (z.2<s.2.2)&&decide (0<aC0 s.1 s.2 z)) then 1 else bif decide (z.2<s.1.2)&&(decide (s.2.2<=z.2)&&decide (aC0 s.1 s.2 z<0)) then -1 else 0
def wnd (L:List Pt) (z:Pt):Nat->Int
  | 0=>0
  | k+1=>wnd L z k+dlt (sdP L k) z
def aOL (L:List Pt) (z:Pt):Int:=bif (List.range L.length).any (fun k=>aAW (sdP L k) z) then 0 else bif wnd L z L.length==0 then -1 else 1
def aGY (L:List Pt) (z:Pt):Int:=bif aHF L&&rnP z then aOL L z else -1
theorem aQ8 {L:List Pt}(h:aL9 L=true) (i:Nat):rnP (aJ7 L i)=true:=by
  unfold aL9 at h;simp only [Ga_,Bool.not_eq_true',List.any_eq_false] at h;unfold aJ7;rw [List.getD_eq_getElem?_getD]
  cases hq:L[i]? with
  | none=>decide
  | some y=>have:=h.2 y (Ge_ hq);simpa using this
theorem aR9 {L:List Pt}(h:aHF L=true):aL9 L=true:=by
  unfold aHF at h;rw [Ga_] at h;exact h.1
theorem aTe (L:List Pt) (z:Pt):∀ k:Nat,-(k:Int)<=wnd L z k /\ wnd L z k<=(k:Int)
  | 0=>⟨by simp [wnd],by simp [wnd]⟩
  | k+1=>by
    have h:=aTe L z k
    have h2 : -1<=dlt (sdP L k) z /\ dlt (sdP L k) z<=1:=by
      unfold dlt;cases decide ((sdP L k).1.2<=z.2)&&(decide (z.2<(sdP L k).2.2)&&decide (0<aC0 (sdP L k).1 (sdP L k).2 z))<;>cases decide (z.2<(sdP L k).1.2)&&(decide ((sdP L k).2.2<=z.2)&&decide (aC0 (sdP L k).1 (sdP L k).2 z<0))<;>decide
    unfold wnd;omega
theorem aTM {L:List Pt}{z:Pt}{k:Nat}(hk:k<L.length) (h:aAW (sdP L k) z=true):aOL L z=0:=by
  unfold aOL;rw [show ((List.range L.length).any fun k=>aAW (sdP L k) z)=true from List.any_eq_true.2 ⟨k,List.mem_range.2 hk,h⟩];rfl
theorem aN7 {L:List Pt}{z:Pt}(h:∀ k,k<L.length->aAW (sdP L k) z=false):aOL L z=bif wnd L z L.length==0 then -1 else 1:=by
  unfold aOL;rw [show ((List.range L.length).any fun k=>aAW (sdP L k) z)=false from List.any_eq_false.2 fun k hk=>by rw [h k (List.mem_range.1 hk)];simp];rfl
theorem aIs {w:World}{p:Option Addr}{cap:Nat}{L:List Pt}(hs:SrcP ptL 2 w p cap L) {z:Pt}(hr:aL9 L=true) (hz:rnP z=true):Calls Tryz.prog 192 #[vL p L.length cap,.agg #[vI z.1,vI z.2]] w fun e w'=>e = .returned (vI (aOL L z)) /\ Fr nF_ w w':=by
  have bb:=hs.bnd;have hlr:L.length<=2000:=by have h9:=hr;unfold aL9 at h9;simp only [Ga_,decide_eq_true_eq] at h9;omega
  refine aW7 Tryz.func192 rfl rfl [(0,vL p L.length cap),(1,.agg #[vI z.1,vI z.2])] rfl rfl fun Z hZ=>?_;have hM:=Mm.nil nF_ w;refine aA1 0 0 3 [] (cs:=#[vI z.1,vI z.2]) (T:=29) (v:=fun b=>vP b 0) f0 hM fun ad w1 hM=>aA1 0 1 4 [] (cs:=#[vI 0]) (T:=3) (v:=fun b=>vP b 0) f0 hM fun ac w1 hM=>aDq 1 0 5 [] [] 3 (vI 0) f0 hM fun ae w1 hM=>cal 2 1 10 [(9,vL p L.length cap)] (K:=fun u w8=>∃ b,u = .func (.func 179) #[] #[vP b 0] /\ w8.heap[b]?=some (.cells #[vL p L.length cap] 100 (0,0)) /\ (World.heap _).size<=b /\ Fr nF_ _ w8) f0 ((aEc p L.length cap _).mono fun e w9 ⟨b,h1,h2⟩=>⟨_,h1,b,rfl,h2⟩) fun u w1 ⟨it129,hu,hi129,hs129,f1⟩=>?_;subst hu;have hn129:¬ BlM [bk ad #[vI z.1,vI z.2] 29,bk ac #[vI 0] 3,bk ae #[vI 0] 3] it129:=fun ⟨e,he,hb⟩=>Nat.lt_irrefl _ (Nat.lt_of_lt_of_le (e.lt (hM.at_ e he) hb) hs129);have hM:=hM.q f1;refine seg 1003 0 [] f0 ?_;have hg9:∀ k9,BlM [bk ad #[vI z.1,vI z.2] 29,bk ac #[vI 0] 3,bk ae #[vI 0] 3] k9->w.heap.size<=k9:=ge0 hM;refine aT4 3 (g := .tmp 10) (ps:=#[11,12]) (vs:=sdV L) (fun k Mk=>Mk=[bk ad #[vI z.1,vI z.2] 29,bk ac #[vI 0] 3,bk ae #[vI (wnd L z k)] 3] /\ ∀ j,j<k->aAW (sdP L j) z=false) (fun Mk=>aOL L z=0 /\ ∃ c,Mk=[bk ad #[vI z.1,vI z.2] 29,bk ac #[vI 0] 3,bk ae #[vI c] 3]) hM ⟨rfl,fun j h=>absurd h (Nat.not_lt_zero j)⟩ (enters_of Tryz.func179 (by kernel_rfl) rfl) aD2 (fun G W hG f=>⟨f.obj hi129 id,fun h=>(hG _ h).elim hn129 (fun h2=>absurd (aAf hi129) (by omega)),w.heap.size,hs.b (hM.fr.trans' f fun _ _ h=>h.elim),fun k hk=>(hG k hk).elim (hg9 k) fun h2=>Gn_ (hM.fr).size h2⟩) (vsz (ps:=#[11,12]) rfl) ?_ ?_ ?_
  · skip
    intro k v Mk W l hv hI hfW hM;obtain ⟨rfl,hall⟩:=hI;obtain ⟨hk,rfl⟩:=aM9 hv;have hgk:∀ k9,BlM [bk ad #[vI z.1,vI z.2] 29,bk ac #[vI 0] 3,bk ae #[vI (wnd L z k)] 3] k9->w.heap.size<=k9:=fun k9 ⟨e,he,hb⟩=>by (simp only [List.mem_cons,List.not_mem_nil,or_false] at he;rcases he with rfl | rfl | rfl;exact hg9 _ ⟨_,.head _,hb⟩;exact hg9 _ ⟨_,.tail _ (.head _),hb⟩;exact hg9 _ ⟨_,.tail _ (.tail _ (.head _)),hb⟩)
    have hfw:Fr nF_ w W:=hfW;refine aDq 3 0 7 [] [] 126 (.agg #[vI (sdP L k).1.1,vI (sdP L k).1.2,vI (sdP L k).2.1,vI (sdP L k).2.2]) f0 hM fun bl w1 hM=>aC9 [(7,vP bl 0),(5,vP ae 0),(4,vP ac 0),(3,vP ad 0)] f0 fun a E=>⟨_,_,E,hM,fun W2 l2 R2 hf2 hM hE2=>?_⟩;have hwb:=aTe L z k;refine aAw 4 5 18 [(14,.agg #[vI (sdP L k).1.1,vI (sdP L k).1.2]),(16,.agg #[vI (sdP L k).2.1,vI (sdP L k).2.2]),(17,.agg #[vI z.1,vI z.2])] (fc (lam 29 3 0 2 hM rfl) (fc (lam 29 3 2 2 hM rfl) (fc (lam 29 0 0 2 hM rfl) f0))) hM (aLp (a:=(sdP L k).1) (b:=(sdP L k).2) (c:=z) (aQ8 hr _) (aQ8 hr _) hz _) fun w1 hM=>seg 5 3 [(8,vI (aC0 (sdP L k).1 (sdP L k).2 z)),(22,vB ((aC0 (sdP L k).1 (sdP L k).2 z)==0))] f0 ?_;cases aa:((aC0 (sdP L k).1 (sdP L k).2 z)==0)
    ·have bm:=ef aa;refine seg 7 7 [(51,vB (decide ((sdP L k).1.2<=z.2)))] (fc (ldm 3 3 1 hM rfl rfl) (fc (ldm 3 0 1 hM rfl rfl) f0)) ?_;cases af:(decide ((sdP L k).1.2<=z.2))
     ·have bo:=df af;refine seg 9 7 [(72,vB (decide (z.2<(sdP L k).1.2)))] (fc (ldm 3 3 1 hM rfl rfl) (fc (ldm 3 0 1 hM rfl rfl) f0)) ?_;cases ax:(decide (z.2<(sdP L k).1.2))
      ·have hon:aAW (sdP L k) z=false:=by unfold aAW;simp only [aa,af,ax]<;>rfl
       have hw:(wnd L z k)=wnd L z (k+1):=by show _=wnd L z k+dlt (sdP L k) z;unfold dlt;simp only [aa,af,ax];first | rfl | simp | omega
       exact aC9 [] f0 fun a E=>hE2.nrm a [bk ad #[vI z.1,vI z.2] 29,bk ac #[vI 0] 3,bk ae #[vI (wnd L z k)] 3] _ ⟨by rw [←hw],al_ hall hon⟩ (hM.pick [0,1,2])
      refine seg 9 15 [(80,vB (decide ((sdP L k).2.2<=z.2)))] (fc (ldm 3 3 3 hM rfl rfl) (fc (ldm 3 0 1 hM rfl rfl) f0)) ?_;cases a0:(decide ((sdP L k).2.2<=z.2))
      ·have hon:aAW (sdP L k) z=false:=by unfold aAW;simp only [aa,af,ax,a0]<;>rfl
       have hw:(wnd L z k)=wnd L z (k+1):=by show _=wnd L z k+dlt (sdP L k) z;unfold dlt;simp only [aa,af,ax,a0];first | rfl | simp | omega
       exact aC9 [] f0 fun a E=>hE2.nrm a [bk ad #[vI z.1,vI z.2] 29,bk ac #[vI 0] 3,bk ae #[vI (wnd L z k)] 3] _ ⟨by rw [←hw],al_ hall hon⟩ (hM.pick [0,1,2])
      refine seg 9 19 [(65,vB (decide ((aC0 (sdP L k).1 (sdP L k).2 z)<0)))] f0 ?_;cases bc:(decide ((aC0 (sdP L k).1 (sdP L k).2 z)<0))
      ·have hon:aAW (sdP L k) z=false:=by unfold aAW;simp only [aa,af,ax,a0,bc]<;>rfl
       have hw:(wnd L z k)=wnd L z (k+1):=by show _=wnd L z k+dlt (sdP L k) z;unfold dlt;simp only [aa,af,ax,a0,bc];first | rfl | simp | omega
       exact aC9 [] f0 fun a E=>hE2.nrm a [bk ad #[vI z.1,vI z.2] 29,bk ac #[vI 0] 3,bk ae #[vI (wnd L z k)] 3] _ ⟨by rw [←hw],al_ hall hon⟩ (hM.pick [0,1,2])
      refine stm 10 2 [(85,vI ((wnd L z k)-1))] 3 2 0 (vI ((wnd L z k)-1)) (fc (ldm 3 2 0 hM rfl rfl) (fc (aDU (wnd L z k) 1 u3_) f0)) hM rfl fun w1 hM=>?_;have hon:aAW (sdP L k) z=false:=by unfold aAW;simp only [aa,af,ax,a0,bc]<;>rfl
      have hw:((wnd L z k)-1)=wnd L z (k+1):=by show _=wnd L z k+dlt (sdP L k) z;unfold dlt;simp only [aa,af,ax,a0,bc];first | rfl | simp | omega
      exact aC9 [] f0 fun a E=>hE2.nrm a [bk ad #[vI z.1,vI z.2] 29,bk ac #[vI 0] 3,bk ae #[vI ((wnd L z k)-1)] 3] _ ⟨by rw [←hw],al_ hall hon⟩ (hM.pick [0,1,2])
     have bo:=dt af;refine seg 7 15 [(59,vB (decide (z.2<(sdP L k).2.2)))] (fc (ldm 3 3 3 hM rfl rfl) (fc (ldm 3 0 1 hM rfl rfl) f0)) ?_;cases aj:(decide (z.2<(sdP L k).2.2))
     ·refine seg 9 7 [(72,vB (decide (z.2<(sdP L k).1.2)))] (fc (ldm 3 3 1 hM rfl rfl) (fc (ldm 3 0 1 hM rfl rfl) f0)) ?_;cases ao:(decide (z.2<(sdP L k).1.2))
      ·have bp:=df ao;have hon:aAW (sdP L k) z=false:=by unfold aAW;simp only [aa,af,aj,ao]<;>rfl
       have hw:(wnd L z k)=wnd L z (k+1):=by show _=wnd L z k+dlt (sdP L k) z;unfold dlt;simp only [aa,af,aj,ao];first | rfl | simp | omega
       exact aC9 [] f0 fun a E=>hE2.nrm a [bk ad #[vI z.1,vI z.2] 29,bk ac #[vI 0] 3,bk ae #[vI (wnd L z k)] 3] _ ⟨by rw [←hw],al_ hall hon⟩ (hM.pick [0,1,2])
      have bp:=dt ao;refine seg 9 15 [(80,vB (decide ((sdP L k).2.2<=z.2)))] (fc (ldm 3 3 3 hM rfl rfl) (fc (ldm 3 0 1 hM rfl rfl) f0)) ?_;cases a1:(decide ((sdP L k).2.2<=z.2))
      ·have hon:aAW (sdP L k) z=false:=by unfold aAW;simp only [aa,af,aj,ao,a1]<;>rfl
       have hw:(wnd L z k)=wnd L z (k+1):=by show _=wnd L z k+dlt (sdP L k) z;unfold dlt;simp only [aa,af,aj,ao,a1];first | rfl | simp | omega
       exact aC9 [] f0 fun a E=>hE2.nrm a [bk ad #[vI z.1,vI z.2] 29,bk ac #[vI 0] 3,bk ae #[vI (wnd L z k)] 3] _ ⟨by rw [←hw],al_ hall hon⟩ (hM.pick [0,1,2])
      refine seg 9 19 [(65,vB (decide ((aC0 (sdP L k).1 (sdP L k).2 z)<0)))] f0 ?_;cases bd:(decide ((aC0 (sdP L k).1 (sdP L k).2 z)<0))
      ·have hon:aAW (sdP L k) z=false:=by unfold aAW;simp only [aa,af,aj,ao,a1,bd]<;>rfl
       have hw:(wnd L z k)=wnd L z (k+1):=by show _=wnd L z k+dlt (sdP L k) z;unfold dlt;simp only [aa,af,aj,ao,a1,bd];first | rfl | simp | omega
       exact aC9 [] f0 fun a E=>hE2.nrm a [bk ad #[vI z.1,vI z.2] 29,bk ac #[vI 0] 3,bk ae #[vI (wnd L z k)] 3] _ ⟨by rw [←hw],al_ hall hon⟩ (hM.pick [0,1,2])
      refine stm 10 2 [(85,vI ((wnd L z k)-1))] 3 2 0 (vI ((wnd L z k)-1)) (fc (ldm 3 2 0 hM rfl rfl) (fc (aDU (wnd L z k) 1 u3_) f0)) hM rfl fun w1 hM=>?_;have hon:aAW (sdP L k) z=false:=by unfold aAW;simp only [aa,af,aj,ao,a1,bd]<;>rfl
      have hw:((wnd L z k)-1)=wnd L z (k+1):=by show _=wnd L z k+dlt (sdP L k) z;unfold dlt;simp only [aa,af,aj,ao,a1,bd];first | rfl | simp | omega
      exact aC9 [] f0 fun a E=>hE2.nrm a [bk ad #[vI z.1,vI z.2] 29,bk ac #[vI 0] 3,bk ae #[vI ((wnd L z k)-1)] 3] _ ⟨by rw [←hw],al_ hall hon⟩ (hM.pick [0,1,2])
     refine seg 7 19 [(44,vB (decide (0<(aC0 (sdP L k).1 (sdP L k).2 z))))] f0 ?_;cases ap:(decide (0<(aC0 (sdP L k).1 (sdP L k).2 z)))
     rotate_left
     ·refine stm 8 2 [(64,vI ((wnd L z k)+1))] 3 2 0 (vI ((wnd L z k)+1)) (fc (ldm 3 2 0 hM rfl rfl) (fc (aA8 (wnd L z k) 1 u3_) f0)) hM rfl fun w1 hM=>?_;have hon:aAW (sdP L k) z=false:=by unfold aAW;simp only [aa,af,aj,ap]<;>rfl
      have hw:((wnd L z k)+1)=wnd L z (k+1):=by show _=wnd L z k+dlt (sdP L k) z;unfold dlt;simp only [aa,af,aj,ap];first | rfl | simp | omega
      exact aC9 [] f0 fun a E=>hE2.nrm a [bk ad #[vI z.1,vI z.2] 29,bk ac #[vI 0] 3,bk ae #[vI ((wnd L z k)+1)] 3] _ ⟨by rw [←hw],al_ hall hon⟩ (hM.pick [0,1,2])
     refine seg 9 7 [(72,vB (decide (z.2<(sdP L k).1.2)))] (fc (ldm 3 3 1 hM rfl rfl) (fc (ldm 3 0 1 hM rfl rfl) f0)) ?_;cases aq:(decide (z.2<(sdP L k).1.2))
     ·have bq:=df aq;have hon:aAW (sdP L k) z=false:=by unfold aAW;simp only [aa,af,aj,ap,aq]<;>rfl
      have hw:(wnd L z k)=wnd L z (k+1):=by show _=wnd L z k+dlt (sdP L k) z;unfold dlt;simp only [aa,af,aj,ap,aq];first | rfl | simp | omega
      exact aC9 [] f0 fun a E=>hE2.nrm a [bk ad #[vI z.1,vI z.2] 29,bk ac #[vI 0] 3,bk ae #[vI (wnd L z k)] 3] _ ⟨by rw [←hw],al_ hall hon⟩ (hM.pick [0,1,2])
     have bq:=dt aq;refine seg 9 15 [(80,vB (decide ((sdP L k).2.2<=z.2)))] (fc (ldm 3 3 3 hM rfl rfl) (fc (ldm 3 0 1 hM rfl rfl) f0)) ?_;cases a2:(decide ((sdP L k).2.2<=z.2))
     ·have hon:aAW (sdP L k) z=false:=by unfold aAW;simp only [aa,af,aj,ap,aq,a2]<;>rfl
      have hw:(wnd L z k)=wnd L z (k+1):=by show _=wnd L z k+dlt (sdP L k) z;unfold dlt;simp only [aa,af,aj,ap,aq,a2];first | rfl | simp | omega
      exact aC9 [] f0 fun a E=>hE2.nrm a [bk ad #[vI z.1,vI z.2] 29,bk ac #[vI 0] 3,bk ae #[vI (wnd L z k)] 3] _ ⟨by rw [←hw],al_ hall hon⟩ (hM.pick [0,1,2])
     refine seg 9 19 [(65,vB (decide ((aC0 (sdP L k).1 (sdP L k).2 z)<0)))] f0 ?_;cases be:(decide ((aC0 (sdP L k).1 (sdP L k).2 z)<0))
     ·have hon:aAW (sdP L k) z=false:=by unfold aAW;simp only [aa,af,aj,ap,aq,a2,be]<;>rfl
      have hw:(wnd L z k)=wnd L z (k+1):=by show _=wnd L z k+dlt (sdP L k) z;unfold dlt;simp only [aa,af,aj,ap,aq,a2,be];first | rfl | simp | omega
      exact aC9 [] f0 fun a E=>hE2.nrm a [bk ad #[vI z.1,vI z.2] 29,bk ac #[vI 0] 3,bk ae #[vI (wnd L z k)] 3] _ ⟨by rw [←hw],al_ hall hon⟩ (hM.pick [0,1,2])
     refine stm 10 2 [(85,vI ((wnd L z k)-1))] 3 2 0 (vI ((wnd L z k)-1)) (fc (ldm 3 2 0 hM rfl rfl) (fc (aDU (wnd L z k) 1 u3_) f0)) hM rfl fun w1 hM=>?_;have hon:aAW (sdP L k) z=false:=by unfold aAW;simp only [aa,af,aj,ap,aq,a2,be]<;>rfl
     have hw:((wnd L z k)-1)=wnd L z (k+1):=by show _=wnd L z k+dlt (sdP L k) z;unfold dlt;simp only [aa,af,aj,ap,aq,a2,be];first | rfl | simp | omega
     exact aC9 [] f0 fun a E=>hE2.nrm a [bk ad #[vI z.1,vI z.2] 29,bk ac #[vI 0] 3,bk ae #[vI ((wnd L z k)-1)] 3] _ ⟨by rw [←hw],al_ hall hon⟩ (hM.pick [0,1,2])
    have bm:=et aa;refine aAw 5 11 31 [(25,vI (sdP L k).1.1),(27,vI z.1),(30,vI (sdP L k).2.1)] (fc (ldm 3 3 0 hM rfl rfl) (fc (ldm 3 0 0 hM rfl rfl) (fc (ldm 3 3 2 hM rfl rfl) f0))) hM (aE6 (sdP L k).1.1 z.1 (sdP L k).2.1 _) fun w1 hM=>seg 5 14 [(33,vB (btw (sdP L k).1.1 z.1 (sdP L k).2.1))] f0 ?_;cases ab:(btw (sdP L k).1.1 z.1 (sdP L k).2.1)
    ·refine seg 7 7 [(51,vB (decide ((sdP L k).1.2<=z.2)))] (fc (ldm 3 3 1 hM rfl rfl) (fc (ldm 3 0 1 hM rfl rfl) f0)) ?_;cases ag:(decide ((sdP L k).1.2<=z.2))
     ·have br:=df ag;refine seg 9 7 [(72,vB (decide (z.2<(sdP L k).1.2)))] (fc (ldm 3 3 1 hM rfl rfl) (fc (ldm 3 0 1 hM rfl rfl) f0)) ?_;cases ay:(decide (z.2<(sdP L k).1.2))
      ·have hon:aAW (sdP L k) z=false:=by unfold aAW;simp only [aa,ab,ag,ay]<;>rfl
       have hw:(wnd L z k)=wnd L z (k+1):=by show _=wnd L z k+dlt (sdP L k) z;unfold dlt;simp only [aa,ab,ag,ay];first | rfl | simp | omega
       exact aC9 [] f0 fun a E=>hE2.nrm a [bk ad #[vI z.1,vI z.2] 29,bk ac #[vI 0] 3,bk ae #[vI (wnd L z k)] 3] _ ⟨by rw [←hw],al_ hall hon⟩ (hM.pick [0,1,2])
      refine seg 9 15 [(80,vB (decide ((sdP L k).2.2<=z.2)))] (fc (ldm 3 3 3 hM rfl rfl) (fc (ldm 3 0 1 hM rfl rfl) f0)) ?_;cases a3:(decide ((sdP L k).2.2<=z.2))
      ·have hon:aAW (sdP L k) z=false:=by unfold aAW;simp only [aa,ab,ag,ay,a3]<;>rfl
       have hw:(wnd L z k)=wnd L z (k+1):=by show _=wnd L z k+dlt (sdP L k) z;unfold dlt;simp only [aa,ab,ag,ay,a3];first | rfl | simp | omega
       exact aC9 [] f0 fun a E=>hE2.nrm a [bk ad #[vI z.1,vI z.2] 29,bk ac #[vI 0] 3,bk ae #[vI (wnd L z k)] 3] _ ⟨by rw [←hw],al_ hall hon⟩ (hM.pick [0,1,2])
      refine seg 9 19 [(65,vB (decide ((aC0 (sdP L k).1 (sdP L k).2 z)<0)))] f0 ?_;cases a4:(decide ((aC0 (sdP L k).1 (sdP L k).2 z)<0))
      ·have bs:=df a4;have hon:aAW (sdP L k) z=false:=by unfold aAW;simp only [aa,ab,ag,ay,a3,a4]<;>rfl
       have hw:(wnd L z k)=wnd L z (k+1):=by show _=wnd L z k+dlt (sdP L k) z;unfold dlt;simp only [aa,ab,ag,ay,a3,a4];first | rfl | simp | omega
       exact aC9 [] f0 fun a E=>hE2.nrm a [bk ad #[vI z.1,vI z.2] 29,bk ac #[vI 0] 3,bk ae #[vI (wnd L z k)] 3] _ ⟨by rw [←hw],al_ hall hon⟩ (hM.pick [0,1,2])
      have bs:=dt a4;refine stm 10 2 [(85,vI ((wnd L z k)-1))] 3 2 0 (vI ((wnd L z k)-1)) (fc (ldm 3 2 0 hM rfl rfl) (fc (aDU (wnd L z k) 1 u3_) f0)) hM rfl fun w1 hM=>?_;have hon:aAW (sdP L k) z=false:=by unfold aAW;simp only [aa,ab,ag,ay,a3,a4]<;>rfl
      have hw:((wnd L z k)-1)=wnd L z (k+1):=by show _=wnd L z k+dlt (sdP L k) z;unfold dlt;simp only [aa,ab,ag,ay,a3,a4];first | rfl | simp | omega
      exact aC9 [] f0 fun a E=>hE2.nrm a [bk ad #[vI z.1,vI z.2] 29,bk ac #[vI 0] 3,bk ae #[vI ((wnd L z k)-1)] 3] _ ⟨by rw [←hw],al_ hall hon⟩ (hM.pick [0,1,2])
     have br:=dt ag;refine seg 7 15 [(59,vB (decide (z.2<(sdP L k).2.2)))] (fc (ldm 3 3 3 hM rfl rfl) (fc (ldm 3 0 1 hM rfl rfl) f0)) ?_;cases ak:(decide (z.2<(sdP L k).2.2))
     ·refine seg 9 7 [(72,vB (decide (z.2<(sdP L k).1.2)))] (fc (ldm 3 3 1 hM rfl rfl) (fc (ldm 3 0 1 hM rfl rfl) f0)) ?_;cases ar:(decide (z.2<(sdP L k).1.2))
      ·have bt:=df ar;have hon:aAW (sdP L k) z=false:=by unfold aAW;simp only [aa,ab,ag,ak,ar]<;>rfl
       have hw:(wnd L z k)=wnd L z (k+1):=by show _=wnd L z k+dlt (sdP L k) z;unfold dlt;simp only [aa,ab,ag,ak,ar];first | rfl | simp | omega
       exact aC9 [] f0 fun a E=>hE2.nrm a [bk ad #[vI z.1,vI z.2] 29,bk ac #[vI 0] 3,bk ae #[vI (wnd L z k)] 3] _ ⟨by rw [←hw],al_ hall hon⟩ (hM.pick [0,1,2])
      have bt:=dt ar;refine seg 9 15 [(80,vB (decide ((sdP L k).2.2<=z.2)))] (fc (ldm 3 3 3 hM rfl rfl) (fc (ldm 3 0 1 hM rfl rfl) f0)) ?_;cases a5:(decide ((sdP L k).2.2<=z.2))
      ·have hon:aAW (sdP L k) z=false:=by unfold aAW;simp only [aa,ab,ag,ak,ar,a5]<;>rfl
       have hw:(wnd L z k)=wnd L z (k+1):=by show _=wnd L z k+dlt (sdP L k) z;unfold dlt;simp only [aa,ab,ag,ak,ar,a5];first | rfl | simp | omega
       exact aC9 [] f0 fun a E=>hE2.nrm a [bk ad #[vI z.1,vI z.2] 29,bk ac #[vI 0] 3,bk ae #[vI (wnd L z k)] 3] _ ⟨by rw [←hw],al_ hall hon⟩ (hM.pick [0,1,2])
      refine seg 9 19 [(65,vB (decide ((aC0 (sdP L k).1 (sdP L k).2 z)<0)))] f0 ?_;cases bf:(decide ((aC0 (sdP L k).1 (sdP L k).2 z)<0))
      ·have hon:aAW (sdP L k) z=false:=by unfold aAW;simp only [aa,ab,ag,ak,ar,a5,bf]<;>rfl
       have hw:(wnd L z k)=wnd L z (k+1):=by show _=wnd L z k+dlt (sdP L k) z;unfold dlt;simp only [aa,ab,ag,ak,ar,a5,bf];first | rfl | simp | omega
       exact aC9 [] f0 fun a E=>hE2.nrm a [bk ad #[vI z.1,vI z.2] 29,bk ac #[vI 0] 3,bk ae #[vI (wnd L z k)] 3] _ ⟨by rw [←hw],al_ hall hon⟩ (hM.pick [0,1,2])
      refine stm 10 2 [(85,vI ((wnd L z k)-1))] 3 2 0 (vI ((wnd L z k)-1)) (fc (ldm 3 2 0 hM rfl rfl) (fc (aDU (wnd L z k) 1 u3_) f0)) hM rfl fun w1 hM=>?_;have hon:aAW (sdP L k) z=false:=by unfold aAW;simp only [aa,ab,ag,ak,ar,a5,bf]<;>rfl
      have hw:((wnd L z k)-1)=wnd L z (k+1):=by show _=wnd L z k+dlt (sdP L k) z;unfold dlt;simp only [aa,ab,ag,ak,ar,a5,bf];first | rfl | simp | omega
      exact aC9 [] f0 fun a E=>hE2.nrm a [bk ad #[vI z.1,vI z.2] 29,bk ac #[vI 0] 3,bk ae #[vI ((wnd L z k)-1)] 3] _ ⟨by rw [←hw],al_ hall hon⟩ (hM.pick [0,1,2])
     refine seg 7 19 [(44,vB (decide (0<(aC0 (sdP L k).1 (sdP L k).2 z))))] f0 ?_;cases am:(decide (0<(aC0 (sdP L k).1 (sdP L k).2 z)))
     rotate_left
     ·have bu:=dt am;refine stm 8 2 [(64,vI ((wnd L z k)+1))] 3 2 0 (vI ((wnd L z k)+1)) (fc (ldm 3 2 0 hM rfl rfl) (fc (aA8 (wnd L z k) 1 u3_) f0)) hM rfl fun w1 hM=>?_;have hon:aAW (sdP L k) z=false:=by unfold aAW;simp only [aa,ab,ag,ak,am]<;>rfl
      have hw:((wnd L z k)+1)=wnd L z (k+1):=by show _=wnd L z k+dlt (sdP L k) z;unfold dlt;simp only [aa,ab,ag,ak,am];first | rfl | simp | omega
      exact aC9 [] f0 fun a E=>hE2.nrm a [bk ad #[vI z.1,vI z.2] 29,bk ac #[vI 0] 3,bk ae #[vI ((wnd L z k)+1)] 3] _ ⟨by rw [←hw],al_ hall hon⟩ (hM.pick [0,1,2])
     have bu:=df am;refine seg 9 7 [(72,vB (decide (z.2<(sdP L k).1.2)))] (fc (ldm 3 3 1 hM rfl rfl) (fc (ldm 3 0 1 hM rfl rfl) f0)) ?_;cases au:(decide (z.2<(sdP L k).1.2))
     ·have bv:=df au;have hon:aAW (sdP L k) z=false:=by unfold aAW;simp only [aa,ab,ag,ak,am,au]<;>rfl
      have hw:(wnd L z k)=wnd L z (k+1):=by show _=wnd L z k+dlt (sdP L k) z;unfold dlt;simp only [aa,ab,ag,ak,am,au];first | rfl | simp | omega
      exact aC9 [] f0 fun a E=>hE2.nrm a [bk ad #[vI z.1,vI z.2] 29,bk ac #[vI 0] 3,bk ae #[vI (wnd L z k)] 3] _ ⟨by rw [←hw],al_ hall hon⟩ (hM.pick [0,1,2])
     have bv:=dt au;refine seg 9 15 [(80,vB (decide ((sdP L k).2.2<=z.2)))] (fc (ldm 3 3 3 hM rfl rfl) (fc (ldm 3 0 1 hM rfl rfl) f0)) ?_;cases a6:(decide ((sdP L k).2.2<=z.2))
     ·have hon:aAW (sdP L k) z=false:=by unfold aAW;simp only [aa,ab,ag,ak,am,au,a6]<;>rfl
      have hw:(wnd L z k)=wnd L z (k+1):=by show _=wnd L z k+dlt (sdP L k) z;unfold dlt;simp only [aa,ab,ag,ak,am,au,a6];first | rfl | simp | omega
      exact aC9 [] f0 fun a E=>hE2.nrm a [bk ad #[vI z.1,vI z.2] 29,bk ac #[vI 0] 3,bk ae #[vI (wnd L z k)] 3] _ ⟨by rw [←hw],al_ hall hon⟩ (hM.pick [0,1,2])
     refine seg 9 19 [(65,vB (decide ((aC0 (sdP L k).1 (sdP L k).2 z)<0)))] f0 ?_;cases bg:(decide ((aC0 (sdP L k).1 (sdP L k).2 z)<0))
     ·have hon:aAW (sdP L k) z=false:=by unfold aAW;simp only [aa,ab,ag,ak,am,au,a6,bg]<;>rfl
      have hw:(wnd L z k)=wnd L z (k+1):=by show _=wnd L z k+dlt (sdP L k) z;unfold dlt;simp only [aa,ab,ag,ak,am,au,a6,bg];first | rfl | simp | omega
      exact aC9 [] f0 fun a E=>hE2.nrm a [bk ad #[vI z.1,vI z.2] 29,bk ac #[vI 0] 3,bk ae #[vI (wnd L z k)] 3] _ ⟨by rw [←hw],al_ hall hon⟩ (hM.pick [0,1,2])
     refine stm 10 2 [(85,vI ((wnd L z k)-1))] 3 2 0 (vI ((wnd L z k)-1)) (fc (ldm 3 2 0 hM rfl rfl) (fc (aDU (wnd L z k) 1 u3_) f0)) hM rfl fun w1 hM=>?_;have hon:aAW (sdP L k) z=false:=by unfold aAW;simp only [aa,ab,ag,ak,am,au,a6,bg]<;>rfl
     have hw:((wnd L z k)-1)=wnd L z (k+1):=by show _=wnd L z k+dlt (sdP L k) z;unfold dlt;simp only [aa,ab,ag,ak,am,au,a6,bg];first | rfl | simp | omega
     exact aC9 [] f0 fun a E=>hE2.nrm a [bk ad #[vI z.1,vI z.2] 29,bk ac #[vI 0] 3,bk ae #[vI ((wnd L z k)-1)] 3] _ ⟨by rw [←hw],al_ hall hon⟩ (hM.pick [0,1,2])
    refine aAw 5 22 42 [(36,vI (sdP L k).1.2),(38,vI z.2),(41,vI (sdP L k).2.2)] (fc (ldm 3 3 1 hM rfl rfl) (fc (ldm 3 0 1 hM rfl rfl) (fc (ldm 3 3 3 hM rfl rfl) f0))) hM (aE6 (sdP L k).1.2 z.2 (sdP L k).2.2 _) fun w1 hM=>seg 5 25 [(19,vB (btw (sdP L k).1.2 z.2 (sdP L k).2.2))] f0 ?_;cases ai:(btw (sdP L k).1.2 z.2 (sdP L k).2.2)
    rotate_left
    ·refine stm 6 0 [] 3 1 0 (vI 0) f0 hM rfl fun w1 hM=>?_;have hon:aAW (sdP L k) z=true:=by unfold aAW;simp only [aa,ab,ai]<;>rfl
     exact aUH [] f0 fun a E=>hE2.ret a _ _ ⟨aTM hk hon,_,rfl⟩ (hM.pick [0,1,2])
    refine seg 7 7 [(51,vB (decide ((sdP L k).1.2<=z.2)))] (fc (ldm 3 3 1 hM rfl rfl) (fc (ldm 3 0 1 hM rfl rfl) f0)) ?_;cases ah:(decide ((sdP L k).1.2<=z.2))
    ·have bw:=df ah;refine seg 9 7 [(72,vB (decide (z.2<(sdP L k).1.2)))] (fc (ldm 3 3 1 hM rfl rfl) (fc (ldm 3 0 1 hM rfl rfl) f0)) ?_;cases az:(decide (z.2<(sdP L k).1.2))
     ·have hon:aAW (sdP L k) z=false:=by unfold aAW;simp only [aa,ab,ai,ah,az]<;>rfl
      have hw:(wnd L z k)=wnd L z (k+1):=by show _=wnd L z k+dlt (sdP L k) z;unfold dlt;simp only [aa,ab,ai,ah,az];first | rfl | simp | omega
      exact aC9 [] f0 fun a E=>hE2.nrm a [bk ad #[vI z.1,vI z.2] 29,bk ac #[vI 0] 3,bk ae #[vI (wnd L z k)] 3] _ ⟨by rw [←hw],al_ hall hon⟩ (hM.pick [0,1,2])
     refine seg 9 15 [(80,vB (decide ((sdP L k).2.2<=z.2)))] (fc (ldm 3 3 3 hM rfl rfl) (fc (ldm 3 0 1 hM rfl rfl) f0)) ?_;cases a7:(decide ((sdP L k).2.2<=z.2))
     ·have hon:aAW (sdP L k) z=false:=by unfold aAW;simp only [aa,ab,ai,ah,az,a7]<;>rfl
      have hw:(wnd L z k)=wnd L z (k+1):=by show _=wnd L z k+dlt (sdP L k) z;unfold dlt;simp only [aa,ab,ai,ah,az,a7];first | rfl | simp | omega
      exact aC9 [] f0 fun a E=>hE2.nrm a [bk ad #[vI z.1,vI z.2] 29,bk ac #[vI 0] 3,bk ae #[vI (wnd L z k)] 3] _ ⟨by rw [←hw],al_ hall hon⟩ (hM.pick [0,1,2])
     refine seg 9 19 [(65,vB (decide ((aC0 (sdP L k).1 (sdP L k).2 z)<0)))] f0 ?_;cases a8:(decide ((aC0 (sdP L k).1 (sdP L k).2 z)<0))
     ·have bz:=df a8;have hon:aAW (sdP L k) z=false:=by unfold aAW;simp only [aa,ab,ai,ah,az,a7,a8]<;>rfl
      have hw:(wnd L z k)=wnd L z (k+1):=by show _=wnd L z k+dlt (sdP L k) z;unfold dlt;simp only [aa,ab,ai,ah,az,a7,a8];first | rfl | simp | omega
      exact aC9 [] f0 fun a E=>hE2.nrm a [bk ad #[vI z.1,vI z.2] 29,bk ac #[vI 0] 3,bk ae #[vI (wnd L z k)] 3] _ ⟨by rw [←hw],al_ hall hon⟩ (hM.pick [0,1,2])
     have bz:=dt a8;refine stm 10 2 [(85,vI ((wnd L z k)-1))] 3 2 0 (vI ((wnd L z k)-1)) (fc (ldm 3 2 0 hM rfl rfl) (fc (aDU (wnd L z k) 1 u3_) f0)) hM rfl fun w1 hM=>?_;have hon:aAW (sdP L k) z=false:=by unfold aAW;simp only [aa,ab,ai,ah,az,a7,a8]<;>rfl
     have hw:((wnd L z k)-1)=wnd L z (k+1):=by show _=wnd L z k+dlt (sdP L k) z;unfold dlt;simp only [aa,ab,ai,ah,az,a7,a8];first | rfl | simp | omega
     exact aC9 [] f0 fun a E=>hE2.nrm a [bk ad #[vI z.1,vI z.2] 29,bk ac #[vI 0] 3,bk ae #[vI ((wnd L z k)-1)] 3] _ ⟨by rw [←hw],al_ hall hon⟩ (hM.pick [0,1,2])
    have bw:=dt ah;refine seg 7 15 [(59,vB (decide (z.2<(sdP L k).2.2)))] (fc (ldm 3 3 3 hM rfl rfl) (fc (ldm 3 0 1 hM rfl rfl) f0)) ?_;cases al:(decide (z.2<(sdP L k).2.2))
    ·refine seg 9 7 [(72,vB (decide (z.2<(sdP L k).1.2)))] (fc (ldm 3 3 1 hM rfl rfl) (fc (ldm 3 0 1 hM rfl rfl) f0)) ?_;cases av:(decide (z.2<(sdP L k).1.2))
     ·have b0:=df av;have hon:aAW (sdP L k) z=false:=by unfold aAW;simp only [aa,ab,ai,ah,al,av]<;>rfl
      have hw:(wnd L z k)=wnd L z (k+1):=by show _=wnd L z k+dlt (sdP L k) z;unfold dlt;simp only [aa,ab,ai,ah,al,av];first | rfl | simp | omega
      exact aC9 [] f0 fun a E=>hE2.nrm a [bk ad #[vI z.1,vI z.2] 29,bk ac #[vI 0] 3,bk ae #[vI (wnd L z k)] 3] _ ⟨by rw [←hw],al_ hall hon⟩ (hM.pick [0,1,2])
     have b0:=dt av;refine seg 9 15 [(80,vB (decide ((sdP L k).2.2<=z.2)))] (fc (ldm 3 3 3 hM rfl rfl) (fc (ldm 3 0 1 hM rfl rfl) f0)) ?_;cases a9:(decide ((sdP L k).2.2<=z.2))
     ·have hon:aAW (sdP L k) z=false:=by unfold aAW;simp only [aa,ab,ai,ah,al,av,a9]<;>rfl
      have hw:(wnd L z k)=wnd L z (k+1):=by show _=wnd L z k+dlt (sdP L k) z;unfold dlt;simp only [aa,ab,ai,ah,al,av,a9];first | rfl | simp | omega
      exact aC9 [] f0 fun a E=>hE2.nrm a [bk ad #[vI z.1,vI z.2] 29,bk ac #[vI 0] 3,bk ae #[vI (wnd L z k)] 3] _ ⟨by rw [←hw],al_ hall hon⟩ (hM.pick [0,1,2])
     refine seg 9 19 [(65,vB (decide ((aC0 (sdP L k).1 (sdP L k).2 z)<0)))] f0 ?_;cases bh:(decide ((aC0 (sdP L k).1 (sdP L k).2 z)<0))
     ·have hon:aAW (sdP L k) z=false:=by unfold aAW;simp only [aa,ab,ai,ah,al,av,a9,bh]<;>rfl
      have hw:(wnd L z k)=wnd L z (k+1):=by show _=wnd L z k+dlt (sdP L k) z;unfold dlt;simp only [aa,ab,ai,ah,al,av,a9,bh];first | rfl | simp | omega
      exact aC9 [] f0 fun a E=>hE2.nrm a [bk ad #[vI z.1,vI z.2] 29,bk ac #[vI 0] 3,bk ae #[vI (wnd L z k)] 3] _ ⟨by rw [←hw],al_ hall hon⟩ (hM.pick [0,1,2])
     refine stm 10 2 [(85,vI ((wnd L z k)-1))] 3 2 0 (vI ((wnd L z k)-1)) (fc (ldm 3 2 0 hM rfl rfl) (fc (aDU (wnd L z k) 1 u3_) f0)) hM rfl fun w1 hM=>?_;have hon:aAW (sdP L k) z=false:=by unfold aAW;simp only [aa,ab,ai,ah,al,av,a9,bh]<;>rfl
     have hw:((wnd L z k)-1)=wnd L z (k+1):=by show _=wnd L z k+dlt (sdP L k) z;unfold dlt;simp only [aa,ab,ai,ah,al,av,a9,bh];first | rfl | simp | omega
     exact aC9 [] f0 fun a E=>hE2.nrm a [bk ad #[vI z.1,vI z.2] 29,bk ac #[vI 0] 3,bk ae #[vI ((wnd L z k)-1)] 3] _ ⟨by rw [←hw],al_ hall hon⟩ (hM.pick [0,1,2])
    refine seg 7 19 [(44,vB (decide (0<(aC0 (sdP L k).1 (sdP L k).2 z))))] f0 ?_;cases an:(decide (0<(aC0 (sdP L k).1 (sdP L k).2 z)))
    rotate_left
    ·have b1:=dt an;refine stm 8 2 [(64,vI ((wnd L z k)+1))] 3 2 0 (vI ((wnd L z k)+1)) (fc (ldm 3 2 0 hM rfl rfl) (fc (aA8 (wnd L z k) 1 u3_) f0)) hM rfl fun w1 hM=>?_;have hon:aAW (sdP L k) z=false:=by unfold aAW;simp only [aa,ab,ai,ah,al,an]<;>rfl
     have hw:((wnd L z k)+1)=wnd L z (k+1):=by show _=wnd L z k+dlt (sdP L k) z;unfold dlt;simp only [aa,ab,ai,ah,al,an];first | rfl | simp | omega
     exact aC9 [] f0 fun a E=>hE2.nrm a [bk ad #[vI z.1,vI z.2] 29,bk ac #[vI 0] 3,bk ae #[vI ((wnd L z k)+1)] 3] _ ⟨by rw [←hw],al_ hall hon⟩ (hM.pick [0,1,2])
    have b1:=df an;refine seg 9 7 [(72,vB (decide (z.2<(sdP L k).1.2)))] (fc (ldm 3 3 1 hM rfl rfl) (fc (ldm 3 0 1 hM rfl rfl) f0)) ?_;cases aw:(decide (z.2<(sdP L k).1.2))
    ·have b2:=df aw;have hon:aAW (sdP L k) z=false:=by unfold aAW;simp only [aa,ab,ai,ah,al,an,aw]<;>rfl
     have hw:(wnd L z k)=wnd L z (k+1):=by show _=wnd L z k+dlt (sdP L k) z;unfold dlt;simp only [aa,ab,ai,ah,al,an,aw];first | rfl | simp | omega
     exact aC9 [] f0 fun a E=>hE2.nrm a [bk ad #[vI z.1,vI z.2] 29,bk ac #[vI 0] 3,bk ae #[vI (wnd L z k)] 3] _ ⟨by rw [←hw],al_ hall hon⟩ (hM.pick [0,1,2])
    have b2:=dt aw;refine seg 9 15 [(80,vB (decide ((sdP L k).2.2<=z.2)))] (fc (ldm 3 3 3 hM rfl rfl) (fc (ldm 3 0 1 hM rfl rfl) f0)) ?_;cases ba:(decide ((sdP L k).2.2<=z.2))
    ·have hon:aAW (sdP L k) z=false:=by unfold aAW;simp only [aa,ab,ai,ah,al,an,aw,ba]<;>rfl
     have hw:(wnd L z k)=wnd L z (k+1):=by show _=wnd L z k+dlt (sdP L k) z;unfold dlt;simp only [aa,ab,ai,ah,al,an,aw,ba];first | rfl | simp | omega
     exact aC9 [] f0 fun a E=>hE2.nrm a [bk ad #[vI z.1,vI z.2] 29,bk ac #[vI 0] 3,bk ae #[vI (wnd L z k)] 3] _ ⟨by rw [←hw],al_ hall hon⟩ (hM.pick [0,1,2])
    refine seg 9 19 [(65,vB (decide ((aC0 (sdP L k).1 (sdP L k).2 z)<0)))] f0 ?_;cases bi:(decide ((aC0 (sdP L k).1 (sdP L k).2 z)<0))
    ·have hon:aAW (sdP L k) z=false:=by unfold aAW;simp only [aa,ab,ai,ah,al,an,aw,ba,bi]<;>rfl
     have hw:(wnd L z k)=wnd L z (k+1):=by show _=wnd L z k+dlt (sdP L k) z;unfold dlt;simp only [aa,ab,ai,ah,al,an,aw,ba,bi];first | rfl | simp | omega
     exact aC9 [] f0 fun a E=>hE2.nrm a [bk ad #[vI z.1,vI z.2] 29,bk ac #[vI 0] 3,bk ae #[vI (wnd L z k)] 3] _ ⟨by rw [←hw],al_ hall hon⟩ (hM.pick [0,1,2])
    refine stm 10 2 [(85,vI ((wnd L z k)-1))] 3 2 0 (vI ((wnd L z k)-1)) (fc (ldm 3 2 0 hM rfl rfl) (fc (aDU (wnd L z k) 1 u3_) f0)) hM rfl fun w1 hM=>?_;have hon:aAW (sdP L k) z=false:=by unfold aAW;simp only [aa,ab,ai,ah,al,an,aw,ba,bi]<;>rfl
    have hw:((wnd L z k)-1)=wnd L z (k+1):=by show _=wnd L z k+dlt (sdP L k) z;unfold dlt;simp only [aa,ab,ai,ah,al,an,aw,ba,bi];first | rfl | simp | omega
    exact aC9 [] f0 fun a E=>hE2.nrm a [bk ad #[vI z.1,vI z.2] 29,bk ac #[vI 0] 3,bk ae #[vI ((wnd L z k)-1)] 3] _ ⟨by rw [←hw],al_ hall hon⟩ (hM.pick [0,1,2])
  · skip
    intro Mk w1 hI hM;obtain ⟨k,hk⟩:∃ k,k=(sdV L).length:=⟨_,rfl⟩;rw [←hk] at hI;replace hk:k=L.length:=by rw [hk];unfold sdV;rw [Gp_,List.length_range]
    obtain ⟨rfl,hall⟩:=hI;refine seg 11 2 [(87,vB ((wnd L z k)==0))] (fc (ldm 3 2 0 hM rfl rfl) f0) ?_;cases bj:((wnd L z k)==0)
    ·refine stm 13 0 [] 3 1 0 (vI 1) f0 hM rfl fun w1 hM=>?_;have hM:Mm nF_ w _ ([bk ad #[vI z.1,vI z.2] 29,bk ac #[vI 1] 3,bk ae #[vI (wnd L z k)] 3]++[dfE _]):=hM;exact aRI 1 rfl f0 hM rfl (fun w9 hM=>hZ _ _ ⟨by rw [aN7 (fun j hj=>hall j (by omega)),←hk,bj];rfl,hM.fr⟩)
    refine stm 12 0 [] 3 1 0 (vI (-1)) f0 hM rfl fun w1 hM=>?_;have hM:Mm nF_ w _ ([bk ad #[vI z.1,vI z.2] 29,bk ac #[vI (-1)] 3,bk ae #[vI (wnd L z k)] 3]++[dfE _]):=hM;exact aRI 1 rfl f0 hM rfl (fun w9 hM=>hZ _ _ ⟨by rw [aN7 (fun j hj=>hall j (by omega)),←hk,bj];rfl,hM.fr⟩)
  · skip
    intro a Mk w1 hT hM E;obtain ⟨hsm,c9,rfl⟩:=hT;exact (aNC (u:=true) E.df hM fun w9 hM=>⟨_,aP0 rfl (E.at_ 4 (vP ac 0) rfl) 1 rfl (by kernel_rfl) hM,hZ _ _ ⟨by rw [hsm],hM.fr⟩⟩).1
theorem aLs {w:World}{p:Option Addr}{cap:Nat}{L:List Pt}(hs:SrcP ptL 2 w p cap L) (z:Pt):Calls Tryz.prog 147 #[vL p L.length cap,.agg #[vI z.1,vI z.2]] w fun e w'=>e = .returned (vI (aGY L z)) /\ Fr nF_ w w':=by
  refine beg Tryz.func147 rfl rfl [(0,vL p L.length cap),(1,.agg #[vI z.1,vI z.2])] rfl rfl fun Z hZ=>?_;have hM:=Mm.nil nF_ w;refine aA1 0 0 3 [] (cs:=#[vI z.1,vI z.2]) (T:=29) (v:=fun b=>vP b 0) f0 hM fun ac w1 hM=>aAw 1 1 6 [(5,vL p L.length cap)] f0 hM (aD1 (hs.fr hM.fr)) fun w1 hM=>seg 1 4 [(8,vB (!(aHF L)))] f0 ?_;cases aa:(aHF L)
  ·exact rt1 4 (vI (-1)) rfl f0 (hZ _ _ ⟨by unfold aGY;simp only [aa]<;>rfl,hM.fr⟩)
  refine aAw 1 5 10 [(9,.agg #[vI z.1,vI z.2])] (fc (lam 29 0 0 2 hM rfl) f0) hM (aFJ z _) fun w1 hM=>seg 1 8 [(12,vB (!(rnP z)))] f0 ?_;cases ab:(rnP z)
  ·exact rt1 4 (vI (-1)) rfl f0 (hZ _ _ ⟨by unfold aGY;simp only [aa,ab]<;>rfl,hM.fr⟩)
  refine aAw 3 2 15 [(13,vL p L.length cap),(14,.agg #[vI z.1,vI z.2])] (fc (lam 29 0 0 2 hM rfl) f0) hM (aIs (hs.fr hM.fr) (aR9 aa) ab) fun w1 hM=>rt1 4 (vI (aOL L z)) rfl f0 (hZ _ _ ⟨by unfold aGY;simp only [aa,ab]<;>rfl,hM.fr⟩)
end Go.Proofs.YtngjlnhojicjeaaGreatDoor
namespace Go.Pl
open Go.RowKit Go.Proofs.YtngjlnhojicjeaaGreatDoor
def aVj (O:Array Oper) (i:Nat) (LL:Frm):Option (Op×Option Value×Option Value×Option Value×Option Value×Option Value×Option Nat) :=
 match O[i]? with
 | some o=>(match o.op.operands[0]?,o.op.operands[1]?,o.op.operands[2]?,o.op.operands[3]?,o.op.operands[4]? with
  | some x,some y,some z,some u,some v=>some (o.op,opv LL x,opv LL y,opv LL z,opv LL u,opv LL v,o.dst)
  | _,_,_,_,_=>none)
 | none=>none
def aVi (O:Array Oper) (i:Nat) (f:Operand->Operand->Operand->Operand->Operand->Op) (v u t r q:Value) (d:Option Nat):Option (Op×Option Value×Option Value×Option Value×Option Value×Option Value×Option Nat) :=
 match O[i]? with
 | some o=>(match o.op.operands[0]?,o.op.operands[1]?,o.op.operands[2]?,o.op.operands[3]?,o.op.operands[4]? with
  | some x,some y,some z,some a,some b=>some (f x y z a b,some v,some u,some t,some r,some q,d)
  | _,_,_,_,_=>some (f (.tmp 0) (.tmp 0) (.tmp 0) (.tmp 0) (.tmp 0),none,none,none,none,none,none))
 | none=>some (f (.tmp 0) (.tmp 0) (.tmp 0) (.tmp 0) (.tmp 0),none,none,none,none,none,none)
theorem aTq {O:Array Oper}{i:Nat}{LL:Frm}{f:Operand->Operand->Operand->Operand->Operand->Op}{v u t r q:Value}{d:Option Nat}{o:Oper}{ds:List Deferred}{n:Nat}{a:Act}(ho:O[i]?=some o) (E:EnvS ds n LL a) (h:aVj O i LL=aVi O i f v u t r q d):∃ x y z x4 x5,o.op=f x y z x4 x5 /\ a.eval x=v /\ a.eval y=u /\ a.eval z=t /\ a.eval x4=r /\ a.eval x5=q /\ o.dst=d:=by
 unfold aVj aVi at h;rw [ho] at h;simp only at h
 split at h
 ·rename_i x y z x4 x5 h1 h2 h3 h4 h5;simp only [Gl_,Prod.mk.injEq] at h;obtain ⟨g1,g2,g3,g4,g5,g6,g7⟩:=h;exact ⟨x,y,z,x4,x5,g1,E.opv g2,E.opv g3,E.opv g4,E.opv g5,E.opv g6,g7⟩
 ·cases h
theorem aPF {P:Program}{w:World}{ρ:Operand->Value}{o:Oper}{x y z u v:Operand}{ts:Array TypeId}{a b c d e:Int}(ho:o.op = .call ⟨.builtin .min,#[x,y,z,u,v],ts⟩) (h1:ρ x=vI a) (h2:ρ y=vI b) (h3:ρ z=vI c) (h4:ρ u=vI d) (h5:ρ v=vI e):(execOp ρ o).run P w = .ok (.value (vI (min (min (min (min a b) c) d) e))) w:=by
 simp [execOp,ho,h1,h2,h3,h4,h5,resolve,invoke,go_sem,Builtin.min_,Builtin.min2,List.foldlM,←aQL]
section
variable {rd:Option Nat}{P:Program}{B:Code}{ds:List Deferred}{n:Nat}{L:Frm}{w w0:World}{r:Nat}{F0:Nat->Prop}{ef:List Nat}{V:Lts->List (Option Value)}{F:Lts->List Ft}{Mf:Lts->List Bool->List Ent}
theorem aSF (p i d:Nat) (ts:Array TypeId) (a b c e f:Int)
  (hm:∀ γ fr,Mf γ (flg B r ef i fr)=Mf (aCd γ p undef) ((flg B r ef i fr).set p true):=by intro γ fr;kernel_rfl)
  (hV:∀ γ,((V (aCd γ p undef))[p]?).getD none=some (vI (min (min (min (min a b) c) e) f)):=by intro γ;rfl)
  (hs:∀ γ,aVj (aAI B r) i (frX P w n B r L ef V F i γ)=aVi (aAI B r) i (fun x y z u v => .call ⟨.builtin .min,#[x,y,z,u,v],ts⟩) (vI a) (vI b) (vI c) (vI e) (vI f) (some d):=by intro γ;kernel_rfl):Arm rd P w n B r L ef V F ds F0 w0 Mf p i:=by
 intro γ fr a1 wm Q o ho En hw hM;obtain ⟨x,y,z,x4,x5,h1,h2,h3,h4,h5,h6,h7⟩:=aTq ho En (hs γ);rw [hm] at hM;exact aG2 (w':=wm) (aPF h1 h2 h3 h4 h5 h6) ⟨undef,γ.e p,by rw [aA6,hV,h7];rfl,by rw [aA6];exact hM⟩
end
end Go.Pl
namespace Go.Proofs.YtngjlnhojicjeaaGreatDoor
open Go.RowKit Go.Pl
structure ShA (l:List Ob) (s:ShR) (w:World):Prop where
  blk:w.heap[s.b]?=some (.cells #[vS s.o.o.id,vI s.o.o.kind,vI s.o.o.x,vI s.o.o.y,vL s.o.pr s.o.o.refs.length s.o.cr,vL s.o.pt s.o.o.tags.length s.o.ct,vL s.lp (s.L l).length s.lc,vL s.pp (s.P l).length s.pc] 102 (0,0))
  ln:SrcP sgL 4 w s.lp s.lc (s.L l)
  pt:SrcP ptL 2 w s.pp s.pc (s.P l)
theorem ShA.of {l:List Ob}{s:ShR}{w:World}(h:(shE l s).H w):ShA l s w:=by
  have h1:=h.1 _ (.head _);have h2:ow sgL 4 126 w 0 (vL s.lp (s.L l).length s.lc) (s.L l):=h.1 _ (.tail _ (.head _));have h3:ow ptL 2 29 w 0 (vL s.pp (s.P l).length s.pc) (s.P l):=h.1 _ (.tail _ (.tail _ (.head _)));exact ⟨h1,(show Src sgL 4 w (vL s.lp (s.L l).length s.lc) (s.L l) from h2.src sgT.len).p.2,(show Src ptL 2 w (vL s.pp (s.P l).length s.pc) (s.P l) from h3.src ptT.len).p.2⟩
theorem ShA.fr {l:List Ob}{s:ShR}{w w':World}(h:ShA l s w) (f:Fr nF_ w w'):ShA l s w':=⟨f.obj h.blk id,h.ln.fr f,h.pt.fr f⟩
def ShN (l:List Ob) (s:ShR):Prop:=0<(s.L l).length /\ 0<(s.P l).length
def arP (l:List Ob) (s:ShR) (z:Pt):Bool:=(s.o.o.kind==3)&&(aHF (s.P l)&&decide (0<=aGY (s.P l) z))
def mnL (z:Pt) (L:List (Pt×Pt)) (m:Int):Int:=L.foldl (fun m x=>min m (aAC x z)) m
def aUk (L:List (Pt×Pt)) (i:Nat):Pt×Pt:=L.getD i ((0,0),(0,0))
def sqP (l:List Ob) (s:ShR) (z:Pt):Int:=bif arP l s z then 0 else mnL z (s.L l) (aAC (aUk (s.L l) 0) z)
def nr4 (a b:Pt×Pt) (m:Int):Int:=min (min (min (min m (aAC a b.1)) (aAC a b.2)) (aAC b a.1)) (aAC b a.2)
def inn (a:Pt×Pt) (L:List (Pt×Pt)) (m:Int):Int:=L.foldl (fun m b=>nr4 a b m) m
def aQM (A L:List (Pt×Pt)):Bool:=A.any fun a=>L.any fun b => !(aAX a b==0)
def apP (l:List Ob) (s u:ShR):Int:=bif arP l s (aJ7 (u.P l) 0) then 0 else bif aQM (u.L l) (s.L l) then 0 else (u.L l).foldl (fun m a=>inn a (s.L l) m) (sqP l u (aJ7 (s.P l) 0))
theorem aSv {L:List (Pt×Pt)}{i:Nat}{y:Pt×Pt}(h:L[i]?=some y):aUk L i=y:=by unfold aUk;rw [List.getD_eq_getElem?_getD,h];rfl
theorem aSb {z:Pt}{L:List (Pt×Pt)}{m0 m:Int}{k:Nat}{y:Pt×Pt}(h:m=mnL z (L.take k) m0) (hy:L[k]?=some y):min m (aAC y z)=mnL z (L.take (k+1)) m0:=by
  unfold mnL at h ⊢;rw [gt_ hy,List.foldl_append,←h];rfl
theorem aPT {a:Pt×Pt}{L:List (Pt×Pt)}{m0 m:Int}{k:Nat}{y:Pt×Pt}(h:m=inn a (L.take k) m0) (hy:L[k]?=some y):nr4 a y m=inn a (L.take (k+1)) m0:=by
  unfold inn at h ⊢;rw [gt_ hy,List.foldl_append,←h];rfl
theorem aSp {a:Pt×Pt}{L:List (Pt×Pt)}{m0 m:Int}{k:Nat}(h:m=inn a (L.take k) m0) (hk:L.length<=k):m=inn a L m0:=by rw [Gc_ hk] at h;exact h
theorem aP4 {A L:List (Pt×Pt)}{m0 m m2:Int}{i:Nat}{y:Pt×Pt}(h:m=(A.take i).foldl (fun m a=>inn a L m) m0) (hy:A[i]?=some y) (h2:m2=inn y L m):m2=(A.take (i+1)).foldl (fun m a=>inn a L m) m0:=by
  rw [gt_ hy,List.foldl_append,←h];exact h2
theorem aSd {A L:List (Pt×Pt)}{i k:Nat}{a b:Pt×Pt}(ha:A[i]?=some a) (hb:L[k]?=some b) (h:(aAX a b==0)=false):aQM A L=true:=by
  unfold aQM;rw [List.any_eq_true];exact ⟨a,Ge_ ha,List.any_eq_true.2 ⟨b,Ge_ hb,by rw [h];rfl⟩⟩
theorem aTL {A L:List (Pt×Pt)}(h:∀ (i:Nat) (a:Pt×Pt),A[i]?=some a->∀ (k:Nat) (b:Pt×Pt),L[k]?=some b->(aAX a b==0)=true):aQM A L=false:=by
  unfold aQM;rw [List.any_eq_false];intro a ha;obtain ⟨i,hi⟩:=List.getElem?_of_mem ha;rw [Bool.not_eq_true,List.any_eq_false];intro b hb;obtain ⟨k,hk⟩:=List.getElem?_of_mem hb;rw [h i a hi k b hk];simp
theorem aRN {l:List Ob}{s:Bys}(hv:aAl l=true) (h:(aAg l s).1=0) {o:Ob}(ho:l[(aAp l s).toNat]?=some o) (hk:o.kind=2):2<=(aAg l s).2.length:=by
  unfold aAg at h ⊢;rw [hv] at h ⊢
  cases hd:decide (aAp l s<0) with
  | true=>rw [hd] at h;cases h
  | false =>
    rw [hd] at h;simp only [Bool.not_true,cond_false] at h ⊢;rw [ho] at h ⊢;simp only at h ⊢;unfold aAP at h ⊢;have hvo:=aCt hv o (Ge_ ho);rw [hk] at h ⊢;rw [show ((2:Int)==1)=false from rfl,show ((2:Int)==2)=true from rfl] at h ⊢;simp only [cond_false,Bool.true_or,cond_true] at h ⊢
    cases ha:o.refs.all fun r=>(aDa l r).isSome with
    | false=>rw [ha] at h;cases h
    | true =>
      simp only [cond_true,Gp_];have:=aKI hvo;rw [hk] at this;have:(2:Int)<=o.refs.length:=this;omega
theorem aN9 {k:Int}{P:List Pt}(h0:0<P.length) (h2:k=2->2<=P.length):0<(aGC k P).length:=by
  have h1:aHu k P 0=[(P.getD 0 (0,0),P.getD ((0+1)%P.length) (0,0))]:=by
    unfold aHu
    cases hk:k==2 with
    | false=>simp
    | true =>
      have h3:=h2 (et hk)
      rw [decide_eq_true (by
        have:(((0:Nat):Int)+1)%(P.length:Int)=1:=Int.emod_eq_of_lt (by omega) (by omega);omega)];rfl
  unfold aGC;obtain ⟨n,hn⟩:∃ n,P.length=n+1:=⟨P.length-1,by omega⟩;rw [hn,List.range_succ_eq_map,List.flatMap_cons,h1];simp
theorem aDW {l:List Ob}{s:ShR}{w:World}(hA:ShA l s w) (z:Pt):Calls Tryz.prog 111 #[vP s.b 0,.agg #[vI z.1,vI z.2]] w fun e w'=>e = .returned (vB (arP l s z)) /\ Fr nF_ w w':=by
  refine beg Tryz.func111 rfl rfl [(0,vP s.b 0),(1,.agg #[vI z.1,vI z.2])] rfl rfl fun Z hZ=>?_;have hM:=Mm.nil nF_ w;refine aA1 0 0 3 [] (cs:=#[vI z.1,vI z.2]) (T:=29) (v:=fun b=>vP b 0) f0 hM fun ac w1 hM=>seg 1 0 [] f0 ?_;cases aa:(s.o.o.kind==3)
  ·refine drc [(4,vB false)] hM (fun w5 hM=>(fc (ld0 3 hM (bx hA.blk 1 rfl)) (fc (tv 10 aa) f0))) fun w5 hM=>rt1 4 (vB false) rfl f0 (hZ _ _ ⟨by unfold arP;simp only [aa]<;>rfl,hM.fr⟩)
  cases ab:(aHF (s.P l))
  ·refine drc [(4,vB false)] hM (fun w5 hM=>(fc (ld0 3 hM (bx hA.blk 1 rfl)) (fc (tv 10 aa) (fc (ld0 100 hM (bx hA.blk 7 rfl)) (fc (rzc (tcl (aD1 (hA.pt.fr hM.fr))) ab) f0))))) fun w5 hM=>rt1 4 (vB false) rfl f0 (hZ _ _ ⟨by unfold arP;simp only [aa,ab]<;>rfl,hM.fr⟩)
  refine drc [(4,vB (decide (0<=(aGY (s.P l) z))))] hM (fun w5 hM=>(fc (ld0 3 hM (bx hA.blk 1 rfl)) (fc (tv 10 aa) (fc (ld0 100 hM (bx hA.blk 7 rfl)) (fc (rzc (tcl (aD1 (hA.pt.fr hM.fr))) ab) (fc (ld0 100 hM (bx hA.blk 7 rfl)) (fc (lam 29 0 0 2 hM rfl) (fc (tcl (aLs (hA.pt.fr hM.fr) z)) f0)))))))) fun w5 hM=>rt1 4 (vB (decide (0<=(aGY (s.P l) z)))) rfl f0 (hZ _ _ ⟨by unfold arP;simp only [aa,ab]<;>rfl,hM.fr⟩)
abbrev aXP (Z:Ending->World->Prop):=AtO Tryz.prog (aAK Tryz.f66) (aBc (bodyPost Tryz.prog Tryz.f66 Z)) [] 35
theorem aD0 {l:List Ob}{s:ShR}{w:World}(hA:ShA l s w) (hN:ShN l s) (z:Pt):Calls Tryz.prog 66 #[vP s.b 0,.agg #[vI z.1,vI z.2]] w fun e w'=>e = .returned (vI (sqP l s z)) /\ Fr nF_ w w':=by
  obtain ⟨hl0,hp0⟩:=hN;have bls:=hA.ln.bnd;refine beg Tryz.func66 rfl rfl [(0,vP s.b 0),(1,.agg #[vI z.1,vI z.2])] rfl rfl fun Z hZ=>?_;have hM:=Mm.nil nF_ w;refine aA1 0 0 3 [] (cs:=#[vI z.1,vI z.2]) (T:=29) (v:=fun b=>vP b 0) f0 hM fun ad w1 hM=>aAw 1 2 10 [(8,vP s.b 0),(9,.agg #[vI z.1,vI z.2])] (fc (lam 29 0 0 2 hM rfl) f0) hM (aDW (hA.fr hM.fr) z) fun w1 hM=>?_;cases ae:(arP l s z)
  rotate_left
  ·exact rt1 4 (vI 0) rfl f0 (hZ _ _ ⟨by unfold sqP;rw [ae];rfl,hM.fr⟩)
  refine seg 3 0 [] f0 ?_;obtain ⟨ab,af,ap,aq,ai,aj⟩:=(hA.ln).el (i:=0) (by omega);refine drc [(5,vI (aAC ab z))] hM (fun w5 hM=>(fc (ld0 99 hM (bx hA.blk 6 rfl)) (fc (ix 99 s.lc ai (gl af)) (fc (la0 126 hM aj) (fc (lam 29 0 0 2 hM rfl) (fc (tcl (aBQ ab z _)) f0)))))) fun w5 hM=>seg 5 0 [(22,vL s.lp (s.L l).length s.lc),(23,vI ((s.L l).length:Int)),(24,vI 0)] (fc (ld0 99 hM (bx hA.blk 6 rfl)) f0) ?_
  have ak:∀ (ag:Nat) (k:Nat) (m:Int) (w2:World),k<=(s.L l).length->m=mnL z ((s.L l).take k) (aAC ab z)->Mm nF_ w w2 [bk ad #[vI z.1,vI z.2] 29]->ag=(s.L l).length-k->aXP Z (some (5,0)) [(24,vI (k:Int)),(23,vI ((s.L l).length:Int)),(22,vL s.lp (s.L l).length s.lc),(5,vI m),(3,vP ad 0)] w2:=by
   refine aCC fun ag al k m w2 hk hm hM ar=>seg 5 1 [(25,vB (decide ((k:Int)<((s.L l).length:Int))))] f0 ?_;cases ah:(decide ((k:Int)<((s.L l).length:Int)))
   ·have am:=df ah;exact rt1 4 (vI m) rfl f0 (hZ _ _ ⟨by unfold sqP;rw [ae,aSv af,hm,Gc_ (by omega)];rfl,hM.fr⟩)
   have am:=dt ah;obtain ⟨aa,ac,au,av,an,ao⟩:=(hA.ln).el (i:=k) (by omega);refine aDq 6 2 7 [(27,.agg #[vI aa.1.1,vI aa.1.2,vI aa.2.1,vI aa.2.2])] [] 126 (.agg #[vI aa.1.1,vI aa.1.2,vI aa.2.1,vI aa.2.2]) (fc (ix 99 s.lc an (gl ac)) (fc (la0 126 hM ao) f0)) hM fun aw w1 hM=>aAw 7 3 31 [(28,vI m),(29,.agg #[vI aa.1.1,vI aa.1.2,vI aa.2.1,vI aa.2.2]),(30,.agg #[vI z.1,vI z.2])] (fc (lam 126 1 0 4 hM rfl) (fc (lam 29 0 0 2 hM rfl) f0)) hM (aBQ aa z _) fun w1 hM=>seg 5 0 [(5,vI (min m (aAC aa z))),(24,vI ((k:Int)+1))] (fc (aOJ 3 m (aAC aa z)) (fc (aA8 (k:Int) 1 u3_) f0)) (aAj _ (al _ (by omega) (k+1) _ _ (gl ac) (aSb hm ac) (hM.pick [0]) rfl))
  exact aAj _ (ak _ 0 (aAC ab z) _ (Gg_ _) rfl hM rfl)
abbrev aWD (Z:Ending->World->Prop):=AtO Tryz.prog (aAK Tryz.f61) (aBc (bodyPost Tryz.prog Tryz.f61 Z)) [] 69
theorem aGk {l:List Ob}{s u:ShR}{w:World}(hA:ShA l s w) (hU:ShA l u w) (hN:ShN l s) (hU2:ShN l u):Calls Tryz.prog 61 #[vP s.b 0,vP u.b 0] w fun e w'=>e = .returned (vI (apP l s u)) /\ Fr nF_ w w':=by
  obtain ⟨hl0,hp0⟩:=hN;have hN2:=hU2;obtain ⟨hl1,hp1⟩:=hU2;have bls:=hA.ln.bnd;have blu:=hU.ln.bnd;refine beg Tryz.func61 rfl rfl [(0,vP s.b 0),(1,vP u.b 0)] rfl rfl fun Y hY=>?_;have hM:=Mm.nil nF_ w;obtain ⟨af,ag,a7,a8,aq,ar⟩:=(hU.pt).el (i:=0) (by omega);refine aAw 1 7 17 [(10,vP s.b 0),(16,.agg #[vI af.1,vI af.2])] (fc (ld0 100 hM (bx hU.blk 7 rfl)) (fc (ix 100 u.pc aq (gl ag)) (fc (la0 29 hM ar) f0))) hM (aDW (hA.fr hM.fr) af) fun w1 hM=>?_;cases aj:(arP l s af)
  rotate_left
  ·exact rt1 4 (vI 0) rfl f0 (hY _ _ ⟨by unfold apP;rw [aEI ag,aj];rfl,hM.fr⟩)
  obtain ⟨ac,ak,a9,ba,au,av⟩:=(hA.pt).el (i:=0) (by omega);refine aAw 3 7 25 [(18,vP u.b 0),(24,.agg #[vI ac.1,vI ac.2])] (fc (ld0 100 hM (bx hA.blk 7 rfl)) (fc (ix 100 s.pc au (gl ak)) (fc (la0 29 hM av) f0))) hM (aD0 (hU.fr hM.fr) hN2 ac) fun w1 hM=>seg 5 0 [(5,vI (sqP l u ac)),(29,vL u.lp (u.L l).length u.lc),(30,vI ((u.L l).length:Int)),(31,vI 0)] (fc (ld0 99 hM (bx hU.blk 6 rfl)) f0) ?_
  have aw:∀ (al:Nat) (i:Nat) (m:Int) (w2:World),i<=(u.L l).length->m=((u.L l).take i).foldl (fun m a=>inn a (s.L l) m) (sqP l u ac)->(∀ (i9:Nat),i9<i->∀ (a:Pt×Pt),(u.L l)[i9]?=some a->∀ (k:Nat) (b:Pt×Pt),(s.L l)[k]?=some b->(aAX a b==0)=true)->Mm nF_ w w2 []->al=(u.L l).length-i->aWD Y (some (5,0)) [(31,vI (i:Int)),(30,vI ((u.L l).length:Int)),(29,vL u.lp (u.L l).length u.lc),(5,vI m),(0,vP s.b 0)] w2:=by
   refine aCC fun al ax i m w2 hi hm hno hM bb=>seg 5 1 [(32,vB (decide ((i:Int)<((u.L l).length:Int))))] f0 ?_;cases am:(decide ((i:Int)<((u.L l).length:Int)))
   ·have ay:=df am;exact rt1 4 (vI m) rfl f0 (hY _ _ ⟨by unfold apP;rw [aEI ag,aj,aTL (fun i9 a ha=>hno i9 (by have:=gl ha;omega) a ha),aEI ak,hm,Gc_ (by omega)];rfl,hM.fr⟩)
   have ay:=dt am;obtain ⟨aa,ad,bc,bd,az,a0⟩:=(hU.ln).el (i:=i) (by omega);refine aDq 6 2 7 [(34,.agg #[vI aa.1.1,vI aa.1.2,vI aa.2.1,vI aa.2.2])] [] 126 (.agg #[vI aa.1.1,vI aa.1.2,vI aa.2.1,vI aa.2.2]) (fc (ix 99 u.lc az (gl ad)) (fc (la0 126 hM a0) f0)) hM fun ah w1 hM=>seg 8 0 [(38,vL s.lp (s.L l).length s.lc),(39,vI ((s.L l).length:Int)),(40,vI 0)] (fc (ld0 99 hM (bx hA.blk 6 rfl)) f0) ?_
   have a1:∀ (an:Nat) (k:Nat) (m2:Int) (w2:World),k<=(s.L l).length->m2=inn aa ((s.L l).take k) m->(∀ (k9:Nat),k9<k->∀ (b:Pt×Pt),(s.L l)[k9]?=some b->(aAX aa b==0)=true)->Mm nF_ w w2 [bk ah #[vI aa.1.1,vI aa.1.2,vI aa.2.1,vI aa.2.2] 126]->an=(s.L l).length-k->aWD Y (some (8,0)) [(40,vI (k:Int)),(39,vI ((s.L l).length:Int)),(38,vL s.lp (s.L l).length s.lc),(7,vP ah 0),(31,vI (i:Int)),(30,vI ((u.L l).length:Int)),(29,vL u.lp (u.L l).length u.lc),(5,vI m2),(0,vP s.b 0)] w2:=by
    refine aCC fun an a2 k m2 w2 hk hm2 hin hM be=>seg 8 1 [(41,vB (decide ((k:Int)<((s.L l).length:Int))))] f0 ?_;cases ao:(decide ((k:Int)<((s.L l).length:Int)))
    ·have a3:=df ao;refine seg 5 0 [(31,vI ((i:Int)+1))] (fc (aA8 (i:Int) 1 u3_) f0) (aAj _ (ax _ (by omega) (i+1) _ _ (gl ad) (aP4 hm ad (aSp hm2 (by omega))) (fun i9 h9 a ha=>by rcases Nat.lt_succ_iff_lt_or_eq.1 h9 with h | h;exact hno i9 h a ha;subst h;obtain rfl:=Gi_ (ha.symm.trans ad);exact fun k9 b hb=>hin k9 (by have:=gl hb;omega) b hb) (hM.pick []) rfl))
    have a3:=dt ao;obtain ⟨ab,ae,bf,bg,a4,a5⟩:=(hA.ln).el (i:=k) (by omega);refine aDq 9 2 9 [(43,.agg #[vI ab.1.1,vI ab.1.2,vI ab.2.1,vI ab.2.2])] [] 126 (.agg #[vI ab.1.1,vI ab.1.2,vI ab.2.1,vI ab.2.2]) (fc (ix 99 s.lc a4 (gl ae)) (fc (la0 126 hM a5) f0)) hM fun ap w1 hM=>aAw 10 2 46 [(44,.agg #[vI aa.1.1,vI aa.1.2,vI aa.2.1,vI aa.2.2]),(45,.agg #[vI ab.1.1,vI ab.1.2,vI ab.2.1,vI ab.2.2])] (fc (lam 126 0 0 4 hM rfl) (fc (lam 126 1 0 4 hM rfl) f0)) hM (aFU aa ab _) fun w1 hM=>seg 10 4 [(47,vB (!((aAX aa ab)==0)))] f0 ?_;cases ai:((aAX aa ab)==0)
    ·have a6:=ef ai;exact rt1 4 (vI 0) rfl f0 (hY _ _ ⟨by unfold apP;rw [aEI ag,aj,aSd ad ae ai];rfl,hM.fr⟩)
    have a6:=et ai;refine seg 12 0 [] f0 (drx [17] (fun Z=>[some (vI (min (min (min (min m2 (aAC aa ab.1)) (aAC aa ab.2)) (aAC ab aa.1)) (aAC ab aa.2)))]) _ (fun Z l=>[bk ah #[vI aa.1.1,vI aa.1.2,vI aa.2.1,vI aa.2.2] 126,bk ap #[vI ab.1.1,vI ab.1.2,vI ab.2.1,vI ab.2.2] 126]) (fun Z=>[(5,vI (min (min (min (min m2 (aAC aa ab.1)) (aAC aa ab.2)) (aAC ab aa.1)) (aAC ab aa.2)))]) hM (fun Z=>rfl) (fun Z l w5 hM=>(fc (lam 126 0 0 4 hM rfl) (fc (lam 29 1 0 2 hM rfl) (fc (tcl (aBQ aa ab.1 _)) (fc (lam 126 0 0 4 hM rfl) (fc (lam 29 1 2 2 hM rfl) (fc (tcl (aBQ aa ab.2 _)) (fc (lam 126 1 0 4 hM rfl) (fc (lam 29 0 0 2 hM rfl) (fc (tcl (aBQ ab aa.1 _)) (fc (lam 126 1 0 4 hM rfl) (fc (lam 29 0 2 2 hM rfl) (fc (tcl (aBQ ab aa.2 _)) f0))))))))))))) ⟨aSF 0 17 65 #[3,3,3,3,3] m2 (aAC aa ab.1) (aAC aa ab.2) (aAC ab aa.1) (aAC ab aa.2),trivial⟩ fun bh w1 hM=>?_);replace hM:Mm nF_ w w1 [bk ah #[vI aa.1.1,vI aa.1.2,vI aa.2.1,vI aa.2.2] 126,bk ap #[vI ab.1.1,vI ab.1.2,vI ab.2.1,vI ab.2.2] 126]:=hM;refine seg 8 0 [(40,vI ((k:Int)+1))] (fc (aA8 (k:Int) 1 u3_) f0) (aAj _ (a2 _ (by omega) (k+1) _ _ (gl ae) (aPT hm2 ae) (fun k9 h9 b hb=>by rcases Nat.lt_succ_iff_lt_or_eq.1 h9 with h | h;exact hin k9 h b hb;subst h;obtain rfl:=Gi_ (hb.symm.trans ae);exact ai) (hM.pick [0]) rfl))
   exact aAj _ (a1 _ 0 m _ (Gg_ _) rfl (fun k9 h=>absurd h (Nat.not_lt_zero _)) hM rfl)
  exact aAj _ (aw _ 0 (sqP l u ac) _ (Gg_ _) rfl (fun i9 h=>absurd h (Nat.not_lt_zero _)) hM rfl)
def aFf (lo hi x:Int):Int:=max (lo-x) (max 0 (x-hi))
def aLZ (b:Pt×Pt) (p:Pt):Int:=aFf b.1.1 b.2.1 p.1*aFf b.1.1 b.2.1 p.1+aFf b.1.2 b.2.2 p.2*aFf b.1.2 b.2.2 p.2
theorem aKn {d a:Int}(h0:0<=d) (h:d<=a∨d <= -a):d*d<=a*a:=by
 rcases h with h | h
 ·exact Int.mul_le_mul h h h0 (by omega)
 ·rw [←Int.neg_mul_neg a a];exact Int.mul_le_mul h h h0 (by omega)
theorem aKt {D al a b lo hi x:Int}(h0:0<=al) (h1:al<=D) (ha:lo<=a /\ a<=hi) (hb:lo<=b /\ b<=hi):D*aFf lo hi x<=D*(x-a)-al*(b-a)∨D*aFf lo hi x <= -(D*(x-a)-al*(b-a)):=by
 have p1:0<=(D-al)*(a-lo):=Int.mul_nonneg (by omega) (by omega);have p2:0<=al*(b-lo):=Int.mul_nonneg h0 (by omega);have p3:0<=(D-al)*(hi-a):=Int.mul_nonneg (by omega) (by omega);have p4:0<=al*(hi-b):=Int.mul_nonneg h0 (by omega);simp only [Int.sub_mul,Int.mul_sub] at p1 p2 p3 p4 ⊢;have hg:aFf lo hi x=lo-x∨aFf lo hi x=0∨aFf lo hi x=x-hi:=by unfold aFf;omega
 rcases hg with hg | hg | hg
 ·rw [hg];simp only [Int.mul_sub];omega
 ·rw [hg,Int.mul_zero];omega
 ·rw [hg];simp only [Int.mul_sub];omega
theorem aCl (lo hi x:Int):0<=aFf lo hi x:=by unfold aFf;omega
theorem aNM {lo hi a x:Int}(ha:lo<=a /\ a<=hi):aFf lo hi x<=x-a∨aFf lo hi x <= -(x-a):=by unfold aFf;omega
def aEg (b:Pt×Pt) (p:Pt):Prop:=(b.1.1<=p.1 /\ p.1<=b.2.1) /\ (b.1.2<=p.2 /\ p.2<=b.2.2)
theorem aRl {b:Pt×Pt}{a p:Pt}(h:aEg b a):aLZ b p<=(p.1-a.1)*(p.1-a.1)+(p.2-a.2)*(p.2-a.2):=by
 have h1:=aKn (aCl _ _ p.1) (aNM (x:=p.1) h.1);have h2:=aKn (aCl _ _ p.2) (aNM (x:=p.2) h.2);unfold aLZ;omega
theorem aFq {s:Pt×Pt}{p:Pt}{b:Pt×Pt}(h1:aEg b s.1) (h2:aEg b s.2) (hn:[s.1,s.2,p].all aA7=true):aLZ b p<=aAC s p:=by
 have n1:aA7 s.1=true:=List.all_eq_true.1 hn _ (.head _);have n2:aA7 s.2=true:=List.all_eq_true.1 hn _ (.tail _ (.head _));have n3:aA7 p=true:=List.all_eq_true.1 hn _ (.tail _ (.tail _ (.head _)));unfold aAC;rw [hn];simp only [Bool.not_true,cond_false]
 cases c1:decide (aC6 s.1 s.2 p<=0) with
 | true =>
  simp only [cond_true];unfold aFg;rw [n1,n3];exact aRl h1
 | false =>
  simp only [cond_false]
  cases c2:decide (aC6 s.1 s.2 s.2<=aC6 s.1 s.2 p) with
  | true =>
   simp only [cond_true];unfold aFg;rw [n2,n3];exact aRl h2
  | false =>
   simp only [cond_false];have r1:=of_decide_eq_false c1;have r2:=of_decide_eq_false c2;have k1:=aKt (D:=aC6 s.1 s.2 s.2) (al:=aC6 s.1 s.2 p) (x:=p.1) (by omega) (by omega) h1.1 h2.1;have k2:=aKt (D:=aC6 s.1 s.2 s.2) (al:=aC6 s.1 s.2 p) (x:=p.2) (by omega) (by omega) h1.2 h2.2
   have e1:aC6 s.1 s.2 s.2*(p.1-s.1.1)-aC6 s.1 s.2 p*(s.2.1-s.1.1) = -((s.2.2-s.1.2)*aB7 s.1 s.2 p):=by
    unfold aC6 aB7;generalize s.2.1-s.1.1=vx;generalize s.2.2-s.1.2=vy;generalize p.1-s.1.1=wx;generalize p.2-s.1.2=wy;have q1:vx*vx*wx=vx*wx*vx:=by rw [Int.mul_assoc,Int.mul_comm vx (vx*wx)]
    have q2:vy*(vx*wy)=vy*wy*vx:=by rw [Int.mul_comm vx wy,Int.mul_assoc]
    have q3:vy*(vy*wx)=vy*vy*wx:=by rw [Int.mul_assoc]
    simp only [Int.add_mul,Int.mul_sub];omega
   have e2:aC6 s.1 s.2 s.2*(p.2-s.1.2)-aC6 s.1 s.2 p*(s.2.2-s.1.2)=(s.2.1-s.1.1)*aB7 s.1 s.2 p:=by
    unfold aC6 aB7;generalize s.2.1-s.1.1=vx;generalize s.2.2-s.1.2=vy;generalize p.1-s.1.1=wx;generalize p.2-s.1.2=wy;have q1:vy*vy*wy=vy*wy*vy:=by rw [Int.mul_assoc,Int.mul_comm vy (vy*wy)]
    have q2:vx*(vy*wx)=vx*wx*vy:=by rw [Int.mul_comm vy wx,Int.mul_assoc]
    have q3:vx*(vx*wy)=vx*vx*wy:=by rw [Int.mul_assoc]
    simp only [Int.add_mul,Int.mul_sub];omega
   rw [e1,Int.neg_neg] at k1;rw [e2] at k2;have hD:aC6 s.1 s.2 s.2=(s.2.1-s.1.1)*(s.2.1-s.1.1)+(s.2.2-s.1.2)*(s.2.2-s.1.2):=rfl;generalize hvx:s.2.1-s.1.1=vx at *;generalize hvy:s.2.2-s.1.2=vy at *;generalize hDD:aC6 s.1 s.2 s.2=D at *;generalize hc:aB7 s.1 s.2 p=c at *;have g1:=aCl b.1.1 b.2.1 p.1;have g2:=aCl b.1.2 b.2.2 p.2;unfold aLZ;generalize aFf b.1.1 b.2.1 p.1=dx at *;generalize aFf b.1.2 b.2.2 p.2=dy at *;have f1:=aKn (Int.mul_nonneg (show 0<=D by omega) g1) (a:=vy*c) (by omega);have f2:=aKn (Int.mul_nonneg (show 0<=D by omega) g2) (a:=vx*c) (by omega);rw [m4 D dx D dx,m4 vy c vy c] at f1;rw [m4 D dy D dy,m4 vx c vx c] at f2
   have f3:D*(D*(dx*dx+dy*dy))<=D*(c*c):=by
    rw [←Int.mul_assoc,Int.mul_add];have:D*(c*c)=vx*vx*(c*c)+vy*vy*(c*c):=by rw [hD,Int.add_mul]
    omega
   have f4:D*(dx*dx+dy*dy)<=c*c:=Int.le_of_mul_le_mul_left f3 (by omega)
   have g3:0<=dx*dx+dy*dy:=by
    have:=Int.mul_nonneg g1 g1;have:=Int.mul_nonneg g2 g2;omega
   obtain ⟨N,hN⟩:=Int.eq_ofNat_of_zero_le g3;obtain ⟨d,hd⟩:=Int.eq_ofNat_of_zero_le (show 0<=D by omega);rw [hN,hd] at f4;rw [hN,hd,Gt_];refine Int.ofNat_le.2 ?_;rw [Nat.le_div_iff_mul_le (by omega)];have f5:((N*d:Nat):Int)<=((c.natAbs*c.natAbs:Nat):Int):=by rw [aOE,Int.natCast_mul,Int.mul_comm];exact f4
   exact Int.ofNat_le.1 f5
def lin (α β:Int) (p:Pt):Int:=α*p.1+β*p.2
def bef (α β:Int) (s t:Pt×Pt):Prop:=(lin α β s.1<lin α β t.1 /\ lin α β s.1<lin α β t.2) /\ (lin α β s.2<lin α β t.1 /\ lin α β s.2<lin α β t.2)
theorem aBL {a b:Pt}:aB6 a b<=0↔(a.1<b.1∨(a.1=b.1 /\ a.2<=b.2)):=by
 unfold aB6 aCm aCm aCm aCe
 by_cases h:a.1<b.1
 ·simp [h]
 ·by_cases h2:b.1<a.1
  ·simp [h,h2];omega
  ·have e:a.1=b.1:=by omega
   by_cases h3:a.2<b.2
   ·simp [h,h2,h3,e];omega
   ·by_cases h4:b.2<a.2
    ·simp [h,h2,h3,h4,e]
    ·simp [h,h2,h3,h4,e];omega
theorem aQk (a b:Pt):aB6 a b = -1∨aB6 a b=0∨aB6 a b=1:=by
 unfold aB6 aCm aCm aCm aCe
 by_cases h:a.1<b.1
 ·simp [h]
 ·by_cases h2:b.1<a.1
  ·simp [h,h2]
  ·have e:a.1=b.1:=by omega
   by_cases h3:a.2<b.2
   ·simp [h,h2,h3]
   ·by_cases h4:b.2<a.2<;>simp [h,h2,h3,h4]
theorem aIi {a b c:Pt}(h:[a,b,c].all aA7=true):orP a b c=aCe (aB7 a b c) 0:=by unfold orP;rw [h];rfl
theorem aCE {a b:Pt}:aBn a b=true↔a=b:=by
 unfold aBn;rw [Ga_,beq_iff_eq,beq_iff_eq];exact ⟨fun h=>Prod.ext h.1 h.2,fun h=>by rw [h];exact ⟨rfl,rfl⟩⟩
theorem aNq {α β:Int}{a b p:Pt}(h:aB7 a b p=0) (h1:a.1<p.1∨(a.1=p.1 /\ a.2<=p.2)) (h2:p.1<b.1∨(p.1=b.1 /\ p.2<=b.2)) (hn:a=b->p=a) :
  ∃ l m:Int,0<=l /\ 0<=m /\ 0<l+m /\ (l+m)*lin α β p=l*lin α β a+m*lin α β b:=by
 unfold aB7 at h;unfold lin
 by_cases hx:a.1<b.1
 ·exact ⟨b.1-p.1,p.1-a.1,by omega,by omega,by omega,by grind⟩
 ·have e1:a.1=b.1:=by omega
  have e2:p.1=a.1:=by omega
  by_cases hy:a.2<b.2
  ·exact ⟨b.2-p.2,p.2-a.2,by omega,by omega,by omega,by rw [e2,←e1];grind⟩
  ·have e3:a.2=b.2:=by omega
   have:=hn (Prod.ext e1 e3);subst this;exact ⟨1,0,by omega,by omega,by omega,by grind⟩
theorem aJ1 {l m x y z u:Int}(h0:0<=l) (h1:0<=m) (h2:0<l+m) (h:(l+m)*z=l*x+m*y) (hx:z<x) (hy:z<y):False:=by
 have a1:=Int.mul_le_mul_of_nonneg_left (show z+1<=x by omega) h0;have a2:=Int.mul_le_mul_of_nonneg_left (show z+1<=y by omega) h1;rw [Int.mul_add] at a1 a2;rw [Int.add_mul] at h;omega
theorem mid_not' {l m x y z:Int}(h0:0<=l) (h1:0<=m) (h2:0<l+m) (h:(l+m)*z=l*x+m*y) (hx:x<z) (hy:y<z):False:=by
 have a1:=Int.mul_le_mul_of_nonneg_left (show x<=z-1 by omega) h0;have a2:=Int.mul_le_mul_of_nonneg_left (show y<=z-1 by omega) h1;rw [Int.mul_sub] at a1 a2;rw [Int.add_mul] at h;omega
theorem aOk {x:Int}:(aCe x 0==0)=true↔x=0:=by
 unfold aCe
 by_cases h:x<0
 ·simp [h];omega
 ·by_cases h2:0<x
  ·simp [h,h2];omega
  ·simp [h,h2];omega
theorem aF3 (s:Pt×Pt):(aAd s=s∨aAd s=(s.2,s.1)) /\ aB6 (aAd s).1 (aAd s).2<=0:=by
 unfold aAd
 cases h:decide (0<aB6 s.1 s.2) with
 | false=>simp at h;exact ⟨.inl rfl,h⟩
 | true =>
  simp at h;refine ⟨.inr rfl,?_⟩;show aB6 s.2 s.1<=0;have h':¬ aB6 s.1 s.2<=0:=by omega
  rw [aBL] at h' ⊢;omega
theorem aT9 {α β:Int}{t:Pt×Pt}{p:Pt}(h:(lin α β p<lin α β t.1 /\ lin α β p<lin α β t.2)∨(lin α β t.1<lin α β p /\ lin α β t.2<lin α β p)):onP t p=false:=by
 cases hb:onP t p with
 | false=>rfl
 | true =>
  exfalso;unfold onP at hb;rw [Ga_] at hb;obtain ⟨hn,ho⟩:=hb;have hs:=aF3 t;generalize hu:aAd t=u at hs ho
  have h':(lin α β p<lin α β u.1 /\ lin α β p<lin α β u.2)∨(lin α β u.1<lin α β p /\ lin α β u.2<lin α β p):=by
   rcases hs.1 with e | e<;>rw [e]
   ·exact h
   ·rcases h with h | h
    ·exact .inl ⟨h.2,h.1⟩
    ·exact .inr ⟨h.2,h.1⟩
  have hn':[u.1,u.2,p].all aA7=true:=by
   simp only [List.all_cons,List.all_nil,Bool.and_true,Ga_] at hn ⊢;rcases hs.1 with e | e<;>rw [e]
   ·exact hn
   ·exact ⟨hn.2.1,hn.1,hn.2.2⟩
  unfold onS at ho;rw [aIi hn'] at ho;simp only [Ga_,decide_eq_true_eq,Bool.or_eq_true,Bool.not_eq_true'] at ho;obtain ⟨⟨⟨h1,h2⟩,h3⟩,h4⟩:=ho
  obtain ⟨l,m,a0,a1,a2,a3⟩:=aNq (α:=α) (β:=β) (aOk.1 h1) (aBL.1 h2) (aBL.1 h3) (fun e=>by
   rcases h4 with h4 | h4
   ·rw [aCE.2 e] at h4;cases h4
   ·exact aCE.1 h4)
  rcases h' with h' | h'
  ·exact aJ1 (u:=0) a0 a1 a2 a3 h'.1 h'.2
  ·exact mid_not' a0 a1 a2 a3 h'.1 h'.2
theorem aFv {x y:Int}(h:¬ 0<aCe x 0*aCe y 0):(x<=0 /\ 0<=y)∨(0<=x /\ y<=0):=by
 unfold aCe at h
 by_cases hx:x<0<;>by_cases hy:y<0<;>by_cases hx2:0<x<;>by_cases hy2:0<y<;>simp [hx,hy,hx2,hy2] at h<;>omega
theorem aQj {s1 s2 t1 t2:Pt}(hn:s1≠s2) (h1:aB7 s1 s2 t1=0) (h2:aB7 s1 s2 t2=0):aB7 t1 t2 s1=0:=by
 unfold aB7 at *
 by_cases hx:s2.1-s1.1=0
 ·have hy:s2.2-s1.2≠0:=fun hy=>hn (Prod.ext (by omega) (by omega));have e:(s2.2-s1.2)*((t2.1-t1.1)*(s1.2-t1.2)-(t2.2-t1.2)*(s1.1-t1.1))=0:=by grind
  exact (Int.mul_eq_zero.1 e).resolve_left hy
 ·have e:(s2.1-s1.1)*((t2.1-t1.1)*(s1.2-t1.2)-(t2.2-t1.2)*(s1.1-t1.1))=0:=by grind
  exact (Int.mul_eq_zero.1 e).resolve_left hx
theorem aI8 (α β:Int) (s1 s2 t1 t2:Pt):aB7 t1 t2 s2*lin α β s1-aB7 t1 t2 s1*lin α β s2=aB7 s1 s2 t1*lin α β t2-aB7 s1 s2 t2*lin α β t1:=by
 unfold aB7 lin;grind
theorem aI9 (s1 s2 t1 t2:Pt):aB7 t1 t2 s2-aB7 t1 t2 s1=aB7 s1 s2 t1-aB7 s1 s2 t2:=by unfold aB7;grind
theorem aI7 {a b c d x1 x2 y1 y2:Int}(e:d*x1-c*x2=a*y2-b*y1) (k:d-c=a-b) (h:(a<=0 /\ 0<=b)∨(0<=a /\ b<=0)) (h':(c<=0 /\ 0<=d)∨(0<=c /\ d<=0)) (hz:¬ (a=0 /\ b=0)) (p1:x1<y1) (p2:x1<y2) (p3:x2<y1) (p4:x2<y2):False:=by
 have key:∀ {a b c d x1 x2 y1 y2:Int},d*x1-c*x2=a*y2-b*y1->d-c=a-b->0<a-b->0<=a->b<=0->c<=0->0<=d->x1<y1->x1<y2->x2<y1->x2<y2->False:=by
  intro a b c d x1 x2 y1 y2 e k hp ha hb hc hd p1 p2 p3 p4;have m1:x1<=max x1 x2:=by omega
  have m2:x2<=max x1 x2:=by omega
  have m3:max x1 x2+1<=y1:=by omega
  have m4:max x1 x2+1<=y2:=by omega
  generalize max x1 x2=M at m1 m2 m3 m4;have a1:=Int.mul_le_mul_of_nonneg_left m1 hd;have a2:=Int.mul_le_mul_of_nonneg_left m2 (show 0 <= -c by omega);have a3:=Int.mul_le_mul_of_nonneg_left m4 ha;have a4:=Int.mul_le_mul_of_nonneg_left m3 (show 0 <= -b by omega);have e1:d*M + -c*M=(a-b)*M:=by rw [←Int.add_mul,←k];congr 1
  have e2:a*(M+1) + -b*(M+1)=(a-b)*M+(a-b):=by rw [←Int.add_mul,Int.mul_add,Int.mul_one];congr 1
  rw [Int.neg_mul] at a2 a4;rw [Int.neg_mul] at e1 a2;rw [Int.neg_mul] at a4 e2;omega
 rcases h with h | h
 ·rcases h' with h' | h'
  ·have:d=0 /\ c=0∨¬ (a-b<0):=by omega
   rcases this with h9 | h9
   ·omega
   ·omega
  ·have hp:0<(-a)-(-b):=by omega
   exact key (a := -a) (b := -b) (c := -c) (d := -d) (by rw [Int.neg_mul,Int.neg_mul,Int.neg_mul,Int.neg_mul];omega) (by omega) hp (by omega) (by omega) (by omega) (by omega) p1 p2 p3 p4
 ·rcases h' with h' | h'
  ·exact key e k (by omega) h.1 h.2 h'.1 h'.2 p1 p2 p3 p4
  ·omega
theorem aSf {α β:Int}{s t:Pt×Pt}(hb:bef α β s t∨bef α β t s) (hs:aB6 s.1 s.2<=0) (ht:aB6 t.1 t.2<=0) (hs1:s.1≠s.2) (ht1:t.1≠t.2) (h1:aB7 s.1 s.2 t.1=0) (h2:aB7 s.1 s.2 t.2=0):¬ aB6 (aEW s t) (aBY s t)<=0:=by
 intro hle;unfold aEW aBY at hle;rw [aBL] at hs ht
 cases hl:decide (0<aB6 t.1 s.1) with
 | true =>
  rw [hl,cond_true] at hle;have hl':¬ aB6 t.1 s.1<=0:=by simp at hl;omega
  rw [aBL] at hl'
  have h3:t.1.1<s.2.1∨(t.1.1=s.2.1 /\ t.1.2<=s.2.2):=by
   cases hh:decide (aB6 t.2 s.2<0) with
   | true =>
    rw [hh,cond_true,aBL] at hle;have:aB6 t.2 s.2<=0:=by simp at hh;omega
    rw [aBL] at this;omega
   | false=>rw [hh,cond_false,aBL] at hle;exact hle
  obtain ⟨l,m,a0,a1,a2,a3⟩:=aNq (α:=α) (β:=β) h1 (show s.1.1<t.1.1∨(s.1.1=t.1.1 /\ s.1.2<=t.1.2) by omega) h3 (fun e=>absurd e hs1);rcases hb with hb | hb
  ·exact mid_not' a0 a1 a2 a3 hb.1.1 hb.2.1
  ·exact aJ1 (u:=0) a0 a1 a2 a3 hb.1.1 hb.1.2
 | false =>
  rw [hl,cond_false] at hle;have hl':aB6 t.1 s.1<=0:=by simp at hl;omega
  rw [aBL] at hl'
  have h3:s.1.1<t.2.1∨(s.1.1=t.2.1 /\ s.1.2<=t.2.2):=by
   cases hh:decide (aB6 t.2 s.2<0) with
   | true=>rw [hh,cond_true,aBL] at hle;exact hle
   | false =>
    have:¬ aB6 t.2 s.2<0:=by simpa using hh
    have h5:=aQk t.2 s.2
    have h4:aB6 s.2 t.2<=0:=by
     rw [aBL];rcases h5 with h5 | h5 | h5
     ·omega
     ·have h6:aB6 t.2 s.2<=0:=by omega
      rw [aBL] at h6;unfold aB6 aCm aCm aCm aCe at h5
      by_cases q:t.2.1<s.2.1
      ·simp [q] at h5
      ·by_cases q2:s.2.1<t.2.1
       ·simp [q,q2] at h5
       ·have q3:t.2.1=s.2.1:=by omega
        by_cases q4:t.2.2<s.2.2
        ·simp [q,q2,q4] at h5
        ·omega
     ·have h6:¬ aB6 t.2 s.2<=0:=by omega
      rw [aBL] at h6;omega
    rw [aBL] at h4;omega
  obtain ⟨l,m,a0,a1,a2,a3⟩:=aNq (α:=α) (β:=β) (aQj hs1 h1 h2) hl' h3 (fun e=>absurd e ht1);rcases hb with hb | hb
  ·exact aJ1 (u:=0) a0 a1 a2 a3 hb.1.1 hb.1.2
  ·exact mid_not' a0 a1 a2 a3 hb.1.1 hb.2.1
theorem aGA {α β:Int}{s t:Pt×Pt}(hb:bef α β s t∨bef α β t s) (hs:aB6 s.1 s.2<=0) (ht:aB6 t.1 t.2<=0) (hc:s.1≠s.2->t.1≠t.2 /\ aB7 s.1 s.2 t.1=0 /\ aB7 s.1 s.2 t.2=0):aFp s t=0:=by
 unfold aFp
 cases he:aBn s.1 s.2 with
 | true =>
  rw [cond_true,aT9 (α:=α) (β:=β) (t:=t) (p:=s.1) (by
   rcases hb with hb | hb
   ·exact .inl hb.1
   ·exact .inr ⟨hb.1.1,hb.2.1⟩)]
  rfl
 | false =>
  have hs1:s.1≠s.2:=fun e=>by rw [aCE.2 e] at he;cases he
  obtain ⟨ht1,h1,h2⟩:=hc hs1;have hn:=aSf hb hs ht hs1 ht1 h1 h2;rw [cond_false];have e1:(aB6 (aEW s t) (aBY s t) == -1)=false:=by rw [beq_eq_false_iff_ne];omega
  have e2:(aB6 (aEW s t) (aBY s t)==0)=false:=by rw [beq_eq_false_iff_ne];omega
  rw [e1,e2];rfl
theorem aRm {α β:Int}{s t u v:Pt×Pt}(h:bef α β s t) (hs:u=s∨u=(s.2,s.1)) (ht:v=t∨v=(t.2,t.1)):bef α β u v:=by
 unfold bef at *;rcases hs with rfl | rfl<;>rcases ht with rfl | rfl<;>((try dsimp only)<;>omega)
theorem aDJ {α β:Int}{s t:Pt×Pt}(hb:bef α β s t∨bef α β t s):aAX s t=0:=by
 unfold aAX
 cases hn:[s.1,s.2,t.1,t.2].all aA7 with
 | false=>rfl
 | true =>
  rw [Bool.not_true,cond_false];have hu:=aF3 s;have hv:=aF3 t;generalize aAd s=u at hu;generalize aAd t=v at hv;have hb':bef α β u v∨bef α β v u:=hb.imp (fun h=>aRm h hu.1 hv.1) (fun h=>aRm h hv.1 hu.1);simp only [List.all_cons,List.all_nil,Bool.and_true,Ga_] at hn;have hnu:aA7 u.1=true /\ aA7 u.2=true:=by rcases hu.1 with e | e<;>rw [e];exact ⟨hn.1,hn.2.1⟩;exact ⟨hn.2.1,hn.1⟩
  have hnv:aA7 v.1=true /\ aA7 v.2=true:=by rcases hv.1 with e | e<;>rw [e];exact ⟨hn.2.2.1,hn.2.2.2⟩;exact ⟨hn.2.2.2,hn.2.2.1⟩
  have o1:orP u.1 u.2 v.1=aCe (aB7 u.1 u.2 v.1) 0:=aIi (by simp [hnu,hnv]);have o2:orP u.1 u.2 v.2=aCe (aB7 u.1 u.2 v.2) 0:=aIi (by simp [hnu,hnv]);have o3:orP v.1 v.2 u.1=aCe (aB7 v.1 v.2 u.1) 0:=aIi (by simp [hnu,hnv]);have o4:orP v.1 v.2 u.2=aCe (aB7 v.1 v.2 u.2) 0:=aIi (by simp [hnu,hnv]);unfold aCj;rw [o1,o2,o3,o4]
  have e0:aGx u v=false:=by
   cases h:aGx u v with
   | false=>rfl
   | true =>
    unfold aGx at h;rw [Ga_,aCE,aCE] at h;unfold bef at hb';rw [h.1,h.2] at hb';omega
  rw [e0,cond_false]
  cases h1:aBn u.1 u.2||aBn v.1 v.2||((aCe (aB7 u.1 u.2 v.1) 0==0)&&(aCe (aB7 u.1 u.2 v.2) 0==0)) with
  | true =>
   rw [cond_true];unfold aEV;simp only [Bool.or_eq_true,Ga_] at h1
   cases hv2:aBn v.1 v.2 with
   | true =>
    rw [cond_true];exact aGA (hb'.symm) hv.2 hu.2 (fun h=>absurd (aCE.1 hv2) h)
   | false =>
    rw [cond_false];refine aGA hb' hu.2 hv.2 fun h=>⟨fun e=>(by rw [aCE.2 e] at hv2;cases hv2),?_⟩;rw [hv2] at h1;rcases h1 with (h1 | h1) | h1
    ·exact absurd (aCE.1 h1) h
    ·cases h1
    ·exact ⟨aOk.1 h1.1,aOk.1 h1.2⟩
  | false =>
   rw [cond_false]
   cases h2:decide (0<aCe (aB7 u.1 u.2 v.1) 0*aCe (aB7 u.1 u.2 v.2) 0)||decide (0<aCe (aB7 v.1 v.2 u.1) 0*aCe (aB7 v.1 v.2 u.2) 0) with
   | true=>rfl
   | false =>
    exfalso;simp only [Bool.or_eq_false_iff,decide_eq_false_iff_not] at h2;simp only [Bool.or_eq_false_iff,Bool.and_eq_false_iff] at h1
    have hz:¬ (aB7 u.1 u.2 v.1=0 /\ aB7 u.1 u.2 v.2=0):=fun ⟨z1,z2⟩=>by
     rcases h1.2 with h | h
     ·rw [aOk.2 z1] at h;cases h
     ·rw [aOk.2 z2] at h;cases h
    rcases hb' with hb' | hb'
    ·exact aI7 (aI8 α β u.1 u.2 v.1 v.2) (aI9 u.1 u.2 v.1 v.2) (aFv h2.1) (aFv h2.2) hz hb'.1.1 hb'.1.2 hb'.2.1 hb'.2.2
    ·have hn1:=aI8 (-α) (-β) u.1 u.2 v.1 v.2;have hl:∀ p:Pt,lin (-α) (-β) p = - lin α β p:=fun p=>by unfold lin;rw [Int.neg_mul,Int.neg_mul];omega
     rw [hl,hl,hl,hl] at hn1;exact aI7 hn1 (aI9 u.1 u.2 v.1 v.2) (aFv h2.1) (aFv h2.2) hz (by have:=hb'.1.1;omega) (by have:=hb'.2.1;omega) (by have:=hb'.1.2;omega) (by have:=hb'.2.2;omega)
def aWm (s:Pt×Pt) (z:Pt):Nat->Prop
 | 0=>z.1<s.1.1 /\ z.1<s.2.1
 | 1=>s.1.1<z.1 /\ s.2.1<z.1
 | 2=>z.2<s.1.2 /\ z.2<s.2.2
 | _=>s.1.2<z.2 /\ s.2.2<z.2
theorem aRR {s:Pt×Pt}{z:Pt}{c:Nat}(h:aWm s z c):aAW s z=false:=by
 unfold aAW btw
 cases hb:(aC0 s.1 s.2 z==0) with
 | false=>rfl
 | true =>
  have e:decide (min s.1.1 s.2.1<=z.1)=false∨decide (z.1<=max s.1.1 s.2.1)=false∨decide (min s.1.2 s.2.2<=z.2)=false∨decide (z.2<=max s.1.2 s.2.2)=false:=by
   simp only [decide_eq_false_iff_not]
   match c,h with
   | 0,h=>have h:z.1<s.1.1 /\ z.1<s.2.1:=h;left;omega
   | 1,h=>have h:s.1.1<z.1 /\ s.2.1<z.1:=h;right;left;omega
   | 2,h=>have h:z.2<s.1.2 /\ z.2<s.2.2:=h;right;right;left;omega
   | _+3,h=>have h:s.1.2<z.2 /\ s.2.2<z.2:=h;right;right;right;omega
  rcases e with e | e | e | e<;>rw [e]<;>simp
def abv (z p:Pt):Int:=if z.2<p.2 then 1 else 0
theorem aQh {s:Pt×Pt}{z:Pt}(h:z.1<s.1.1 /\ z.1<s.2.1):dlt s z=abv z s.2-abv z s.1:=by
 have hu:s.1.2<=z.2->z.2<s.2.2->0<aC0 s.1 s.2 z:=fun h1 h2=>by
  have a1:=Int.mul_nonneg (show 0<=s.2.1-z.1 by omega) (show 0<=z.2-s.1.2 by omega);have a2:=Int.mul_pos (show 0<s.1.1-z.1 by omega) (show 0<s.2.2-z.2 by omega);have e:aC0 s.1 s.2 z=(s.2.1-z.1)*(z.2-s.1.2)+(s.1.1-z.1)*(s.2.2-z.2):=by unfold aC0;grind
  omega
 have hd:z.2<s.1.2->s.2.2<=z.2->aC0 s.1 s.2 z<0:=fun h1 h2=>by
  have a1:=Int.mul_pos (show 0<s.2.1-z.1 by omega) (show 0<s.1.2-z.2 by omega);have a2:=Int.mul_nonneg (show 0<=s.1.1-z.1 by omega) (show 0<=z.2-s.2.2 by omega);have e:aC0 s.1 s.2 z = - ((s.2.1-z.1)*(s.1.2-z.2)+(s.1.1-z.1)*(z.2-s.2.2)):=by unfold aC0;grind
  omega
 unfold dlt abv
 by_cases h1:z.2<s.1.2
 ·have e1:decide (s.1.2<=z.2)=false:=decide_eq_false (by omega)
  by_cases h2:z.2<s.2.2
  ·have e2:decide (s.2.2<=z.2)=false:=decide_eq_false (by omega);simp [e1,e2,h1,h2]
  ·have h3:=hd h1 (by omega);have e2:decide (s.2.2<=z.2)=true:=decide_eq_true (by omega);simp [e1,e2,h1,h2,h3]
 ·by_cases h2:z.2<s.2.2
  ·have h3:=hu (by omega) h2;have e2:decide (s.1.2<=z.2)=true:=decide_eq_true (by omega);simp [e2,h1,h2,h3]
  ·simp [h1,h2]
theorem aOe {s:Pt×Pt}{z:Pt}(h:s.1.1<z.1 /\ s.2.1<z.1):dlt s z=0:=by
 have hu:s.1.2<=z.2->z.2<s.2.2->¬ 0<aC0 s.1 s.2 z:=fun h1 h2=>by
  have a1:=Int.mul_nonneg (show 0<=z.1-s.2.1 by omega) (show 0<=z.2-s.1.2 by omega);have a2:=Int.mul_nonneg (show 0<=z.1-s.1.1 by omega) (show 0<=s.2.2-z.2 by omega);have e:aC0 s.1 s.2 z = - ((z.1-s.2.1)*(z.2-s.1.2)+(z.1-s.1.1)*(s.2.2-z.2)):=by unfold aC0;grind
  omega
 have hd:z.2<s.1.2->s.2.2<=z.2->¬ aC0 s.1 s.2 z<0:=fun h1 h2=>by
  have a1:=Int.mul_nonneg (show 0<=z.1-s.2.1 by omega) (show 0<=s.1.2-z.2 by omega);have a2:=Int.mul_nonneg (show 0<=z.1-s.1.1 by omega) (show 0<=z.2-s.2.2 by omega);have e:aC0 s.1 s.2 z=(z.1-s.2.1)*(s.1.2-z.2)+(z.1-s.1.1)*(z.2-s.2.2):=by unfold aC0;grind
  omega
 unfold dlt
 by_cases h1:s.1.2<=z.2
 ·by_cases h2:z.2<s.2.2
  ·have e1:decide (z.2<s.1.2)=false:=decide_eq_false (by omega);have e2:decide (0<aC0 s.1 s.2 z)=false:=decide_eq_false (hu h1 h2);rw [e1,e2];simp
  ·have e1:decide (z.2<s.1.2)=false:=decide_eq_false (by omega);have e2:decide (z.2<s.2.2)=false:=decide_eq_false h2;rw [e1,e2];simp
 ·have e1:decide (s.1.2<=z.2)=false:=decide_eq_false h1
  by_cases h2:s.2.2<=z.2
  ·simp [e1,h2,hd (by omega) h2]
  ·simp [e1,h2]
theorem aKV {s:Pt×Pt}{z:Pt}(h:(z.2<s.1.2 /\ z.2<s.2.2)∨(s.1.2<z.2 /\ s.2.2<z.2)):dlt s z=0:=by
 unfold dlt;rcases h with h | h
 ·have e1:decide (s.1.2<=z.2)=false:=decide_eq_false (by omega);have e2:decide (s.2.2<=z.2)=false:=decide_eq_false (by omega);simp [e1,e2]
 ·have e1:decide (z.2<s.2.2)=false:=decide_eq_false (by omega);have e2:decide (z.2<s.1.2)=false:=decide_eq_false (by omega);simp [e1,e2]
theorem aFh {L:List Pt}{z:Pt}:∀ k:Nat,(∀ j,j<k->dlt (sdP L j) z=0)->wnd L z k=0
 | 0,_=>rfl
 | k+1,h=>by unfold wnd;rw [aFh k fun j hj=>h j (by omega),h k (by omega)];rfl
theorem aMq {L:List Pt}{z:Pt}:∀ k:Nat,k<L.length->(∀ j,j<L.length->dlt (sdP L j) z=abv z (sdP L j).2-abv z (sdP L j).1)->wnd L z k=abv z (aJ7 L k)-abv z (aJ7 L 0)
 | 0,_,_=>by unfold wnd;omega
 | k+1,hk,h=>by
  unfold wnd;rw [aMq k (by omega) h,h k (by omega)];have e:(k+1)%L.length=k+1:=Nat.mod_eq_of_lt hk;unfold sdP;rw [e]
  dsimp only
  omega
theorem aRv {L:List Pt}{z:Pt}(h:∀ j,j<L.length->dlt (sdP L j) z=abv z (sdP L j).2-abv z (sdP L j).1):wnd L z L.length=0:=by
 cases hn:L.length with
 | zero=>rfl
 | succ n =>
  unfold wnd;rw [aMq n (by omega) h,h n (by omega)];have e:(n+1)%L.length=0:=by rw [hn];exact Nat.mod_self _
  unfold sdP;rw [e]
  dsimp only
  omega
theorem aSg {L:List Pt}{z:Pt}{c:Nat}(h:∀ j,j<L.length->aWm (sdP L j) z c):aOL L z = -1:=by
 have h1:((List.range L.length).any fun k=>aAW (sdP L k) z)=false:=by
  rw [List.any_eq_false];intro k hk;rw [aRR (h k (List.mem_range.1 hk))];simp
 have h2:wnd L z L.length=0:=by
  match c,h with
  | 0,h=>exact aRv fun j hj=>aQh (h j hj)
  | 1,h=>exact aFh _ fun j hj=>aOe (h j hj)
  | 2,h=>exact aFh _ fun j hj=>aKV (.inl (h j hj))
  | _+3,h=>exact aFh _ fun j hj=>aKV (.inr (h j hj))
 unfold aOL;rw [h1,h2];rfl
def onG (p:Pt):Prop:=(0<=p.1 /\ p.1<=1048575) /\ (0<=p.2 /\ p.2<=1048575)
theorem aCs {p:Pt}(h:onG p):aA7 p=true:=by
 unfold onG at h;unfold aA7;simp only [Ga_,Bool.not_eq_true',decide_eq_false_iff_not];omega
theorem aOt:∀ (L:List Pt) (b:Pt×Pt) (p:Pt),p∈L∨aEg b p->aEg (bxI b L) p
 | [],b,p,h=>h.resolve_left (by simp)
 | a::L,b,p,h=>by
  refine aOt L _ p ?_;rcases h with h | h
  ·rcases List.mem_cons.1 h with rfl | h
   ·right;unfold aEg;dsimp only;omega
   ·exact .inl h
  ·right;unfold aEg at *;dsimp only;omega
theorem aEO {L:List Pt}{p:Pt}(h:p∈L):aEg (aAc L) p:=aOt L _ p (.inl h)
theorem aDi {L:List Pt}{i:Nat}(h:i<L.length):aJ7 L i∈L:=by
 unfold aJ7;rw [List.getD_eq_getElem?_getD,Gb_ h];exact List.getElem_mem h
theorem aAL {k:Int}{P:List Pt}{s:Pt×Pt}(h:s∈aGC k P):s.1∈P /\ s.2∈P:=by
 unfold aGC at h;obtain ⟨i,hi,hs⟩:=List.mem_flatMap.1 h;have hi:=List.mem_range.1 hi;unfold aHu at hs
 cases hc:decide (0<(((i:Int)+1)%(P.length:Int))) || !(k==2) with
 | false=>rw [hc] at hs;cases hs
 | true =>
  rw [hc,cond_true,Gd_] at hs;subst hs;exact ⟨aDi hi,aDi (Nat.mod_lt _ (by omega))⟩
def wdB (b:Pt×Pt) (n:Int):Pt×Pt:=((b.1.1-n,b.1.2-n),(b.2.1+n,b.2.2+n))
def aSW (c b:Pt×Pt) (n:Int):Nat->Prop
 | 0=>b.2.1+n<c.1.1
 | 1=>c.2.1<b.1.1-n
 | 2=>b.2.2+n<c.1.2
 | _=>c.2.2<b.1.2-n
theorem aRc {c b:Pt×Pt}{n:Int}(h:¬ mtB c (wdB b n)):∃ d,d<4 /\ aSW c b n d:=by
 unfold mtB wdB at h
 dsimp only at h
 by_cases h0:b.2.1+n<c.1.1
 ·exact ⟨0,by omega,h0⟩
 by_cases h1:c.2.1<b.1.1-n
 ·exact ⟨1,by omega,h1⟩
 by_cases h2:b.2.2+n<c.1.2
 ·exact ⟨2,by omega,h2⟩
 exact ⟨3,by omega,show c.2.2<b.1.2-n by omega⟩
theorem aPb {a g:Int}(h0:0<=a) (h:a<=g):a*a<=g*g:=Int.mul_le_mul h h h0 (Int.le_trans h0 h)
theorem aS9 {c b:Pt×Pt}{z:Pt}{n:Int}(h0:0<=n) (hz:aEg b z) {d:Nat}(h:aSW c b n d):(n+1)*(n+1)<=aLZ c z:=by
 unfold aLZ;have g1:=Int.mul_nonneg (aCl c.1.1 c.2.1 z.1) (aCl c.1.1 c.2.1 z.1);have g2:=Int.mul_nonneg (aCl c.1.2 c.2.2 z.2) (aCl c.1.2 c.2.2 z.2);unfold aEg at hz
 have h9:n+1<=aFf c.1.1 c.2.1 z.1∨n+1<=aFf c.1.2 c.2.2 z.2:=by
  unfold aFf
  match d,h with
  | 0,h=>have h:b.2.1+n<c.1.1:=h;left;omega
  | 1,h=>have h:c.2.1<b.1.1-n:=h;left;omega
  | 2,h=>have h:b.2.2+n<c.1.2:=h;right;omega
  | _+3,h=>have h:c.2.2<b.1.2-n:=h;right;omega
 rcases h9 with h9 | h9
 ·have:=aPb (by omega) h9;omega
 ·have:=aPb (by omega) h9;omega
theorem box_far' {c b:Pt×Pt}{p:Pt}{n:Int}(h0:0<=n) (hp:aEg c p) {d:Nat}(h:aSW c b n d):(n+1)*(n+1)<=aLZ b p:=by
 unfold aLZ;have g1:=Int.mul_nonneg (aCl b.1.1 b.2.1 p.1) (aCl b.1.1 b.2.1 p.1);have g2:=Int.mul_nonneg (aCl b.1.2 b.2.2 p.2) (aCl b.1.2 b.2.2 p.2);unfold aEg at hp
 have h9:n+1<=aFf b.1.1 b.2.1 p.1∨n+1<=aFf b.1.2 b.2.2 p.2:=by
  unfold aFf
  match d,h with
  | 0,h=>have h:b.2.1+n<c.1.1:=h;left;omega
  | 1,h=>have h:c.2.1<b.1.1-n:=h;left;omega
  | 2,h=>have h:b.2.2+n<c.1.2:=h;right;omega
  | _+3,h=>have h:c.2.2<b.1.2-n:=h;right;omega
 rcases h9 with h9 | h9
 ·have:=aPb (by omega) h9;omega
 ·have:=aPb (by omega) h9;omega
theorem aPG {c b:Pt×Pt}{n:Int}(h0:0<=n) {s u:Pt×Pt}(s1:aEg c s.1) (s2:aEg c s.2) (u1:aEg b u.1) (u2:aEg b u.2) {d:Nat}(h:aSW c b n d):aAX u s=0:=by
 unfold aEg at *
 match d,h with
 | 0,h=>have h:b.2.1+n<c.1.1:=h;exact aDJ (α:=1) (β:=0) (.inl (by unfold bef lin;omega))
 | 1,h=>have h:c.2.1<b.1.1-n:=h;exact aDJ (α:=1) (β:=0) (.inr (by unfold bef lin;omega))
 | 2,h=>have h:b.2.2+n<c.1.2:=h;exact aDJ (α:=0) (β:=1) (.inl (by unfold bef lin;omega))
 | _+3,h=>have h:c.2.2<b.1.2-n:=h;exact aDJ (α:=0) (β:=1) (.inr (by unfold bef lin;omega))
theorem aKr {c b:Pt×Pt}{n:Int}(h0:0<=n) {P:List Pt}{z:Pt}(hP:∀ p∈P,aEg c p) (hz:aEg b z) {d:Nat}(hd:d<4) (h:aSW c b n d):aGY P z = -1:=by
 unfold aGY
 cases aHF P&&rnP z with
 | false=>rfl
 | true =>
  rw [cond_true];have hs:∀ j,j<P.length->aEg c (sdP P j).1 /\ aEg c (sdP P j).2:=fun j hj=>⟨hP _ (aDi hj),hP _ (aDi (Nat.mod_lt _ (by omega)))⟩;refine aSg (c:=d) fun j hj=>?_;have hj:=hs j hj;generalize sdP P j=t at hj;unfold aEg at hj hz
  match d,hd,h with
  | 0,_,h=>have h:b.2.1+n<c.1.1:=h;show z.1<t.1.1 /\ z.1<t.2.1;omega
  | 1,_,h=>have h:c.2.1<b.1.1-n:=h;show t.1.1<z.1 /\ t.2.1<z.1;omega
  | 2,_,h=>have h:b.2.2+n<c.1.2:=h;show z.2<t.1.2 /\ z.2<t.2.2;omega
  | 3,_,h=>have h:c.2.2<b.1.2-n:=h;show t.1.2<z.2 /\ t.2.2<z.2;omega
theorem aKH {z:Pt}{K:Int}:∀ (L:List (Pt×Pt)) (m:Int),K<=m->(∀ s∈L,K<=aAC s z)->K<=mnL z L m
 | [],_,h,_=>h
 | s::L,m,h,hs=>aKH L _ (show K<=min m (aAC s z) by have:=hs s (.head _);omega) fun t ht=>hs t (.tail _ ht)
theorem aQK {z:Pt}:∀ (L:List (Pt×Pt)) (m:Int),mnL z L m<=m /\ ∀ s∈L,mnL z L m<=aAC s z
 | [],m=>⟨Int.le_refl _,fun _ h=>(by cases h)⟩
 | s::L,m=>by
  have h:=aQK (z:=z) L (min m (aAC s z));refine ⟨Int.le_trans h.1 (by omega),fun t ht=>?_⟩;rcases List.mem_cons.1 ht with rfl | ht
  ·exact Int.le_trans h.1 (by omega)
  ·exact h.2 t ht
theorem aTD {a b:Pt×Pt}{K m:Int}(h:K<=m) (h1:K<=aAC a b.1) (h2:K<=aAC a b.2) (h3:K<=aAC b a.1) (h4:K<=aAC b a.2):K<=nr4 a b m:=by unfold nr4;omega
theorem aTC (a b:Pt×Pt) (m:Int):nr4 a b m<=m:=by unfold nr4;omega
theorem aQT {a:Pt×Pt}{K:Int}:∀ (L:List (Pt×Pt)) (m:Int),K<=m->(∀ b∈L,K<=aAC a b.1 /\ K<=aAC a b.2 /\ K<=aAC b a.1 /\ K<=aAC b a.2)->K<=inn a L m
 | [],_,h,_=>h
 | b::L,m,h,hs=>aQT L _ (have q:=hs b (.head _);aTD h q.1 q.2.1 q.2.2.1 q.2.2.2) fun t ht=>hs t (.tail _ ht)
theorem aQS {a:Pt×Pt}:∀ (L:List (Pt×Pt)) (m:Int),inn a L m<=m
 | [],_=>Int.le_refl _
 | b::L,m=>Int.le_trans (aQS L _) (aTC a b m)
theorem aQC {L:List (Pt×Pt)}{K:Int}:∀ (A:List (Pt×Pt)) (m:Int),K<=m->(∀ a∈A,∀ b∈L,K<=aAC a b.1 /\ K<=aAC a b.2 /\ K<=aAC b a.1 /\ K<=aAC b a.2)->K<=A.foldl (fun m a=>inn a L m) m
 | [],_,h,_=>h
 | a::A,m,h,hs=>aQC A _ (aQT L m h (hs a (.head _))) fun t ht=>hs t (.tail _ ht)
theorem aQB {L:List (Pt×Pt)}:∀ (A:List (Pt×Pt)) (m:Int),A.foldl (fun m a=>inn a L m) m<=m
 | [],_=>Int.le_refl _
 | a::A,m=>Int.le_trans (aQB A _) (aQS L m)
theorem aNy {s:Pt×Pt}{p:Pt}(h1:onG s.1) (h2:onG s.2) (h3:onG p):0<=aAC s p:=by
 have hb:=aFq (b:=((min s.1.1 s.2.1,min s.1.2 s.2.2),(max s.1.1 s.2.1,max s.1.2 s.2.2))) (s:=s) (p:=p) (by unfold aEg;dsimp only;omega) (by unfold aEg;dsimp only;omega) (by simp [aCs h1,aCs h2,aCs h3]);refine Int.le_trans ?_ hb;unfold aLZ;have g1:=Int.mul_nonneg (aCl (min s.1.1 s.2.1) (max s.1.1 s.2.1) p.1) (aCl (min s.1.1 s.2.1) (max s.1.1 s.2.1) p.1);have g2:=Int.mul_nonneg (aCl (min s.1.2 s.2.2) (max s.1.2 s.2.2) p.2) (aCl (min s.1.2 s.2.2) (max s.1.2 s.2.2) p.2)
 dsimp only
 omega
theorem aOf (a b:Pt):aFg a b<=35184372088832:=by
 unfold aFg
 cases h:aA7 a&&aA7 b with
 | false=>exact (by decide:(0:Int)<=35184372088832)
 | true =>
  rw [Ga_] at h;have ha:=aBg h.1;have hb:=aBg h.2;have h1:=aES (x:=b.1-a.1) (by omega) (by omega);have h2:=aES (x:=b.2-a.2) (by omega) (by omega);rw [cond_true];omega
theorem aRY (s:Pt×Pt) (p:Pt):aAC s p<=35184372088832:=by
 unfold aAC
 cases hn:[s.1,s.2,p].all aA7 with
 | false=>exact (by decide:(0:Int)<=35184372088832)
 | true =>
  simp only [List.all_cons,List.all_nil,Bool.and_true,Ga_] at hn;rw [Bool.not_true,cond_false]
  cases h1:decide (aC6 s.1 s.2 p<=0) with
  | true=>exact aOf _ _
  | false =>
   rw [cond_false]
   cases h2:decide (aC6 s.1 s.2 s.2<=aC6 s.1 s.2 p) with
   | true=>exact aOf _ _
   | false =>
    rw [cond_false];have h1:¬ aC6 s.1 s.2 p<=0:=by simpa using h1
    have h2:¬ aC6 s.1 s.2 s.2<=aC6 s.1 s.2 p:=by simpa using h2
    have hd:aC6 s.1 s.2 s.2=((aC6 s.1 s.2 s.2).toNat:Int):=by omega
    have h3:=aQ0 hn.1 hn.2.1 hn.2.2 hd
    have h4:(aB7 s.1 s.2 p).natAbs*(aB7 s.1 s.2 p).natAbs / (aC6 s.1 s.2 s.2).toNat<=35184372088832:=by
     exact Nat.div_le_of_le_mul h3
    omega
section
variable {l:List Ob}{s u:ShR}
def ShG (l:List Ob) (s:ShR):Prop:=∀ p∈s.P l,onG p
theorem aPI (h:ShG l s):∀ x∈s.L l,onG x.1 /\ onG x.2:=fun x hx=>⟨h _ (aAL hx).1,h _ (aAL hx).2⟩
theorem aFu (hN:ShN l s):aUk (s.L l) 0∈s.L l:=by
 unfold aUk;rw [List.getD_eq_getElem?_getD,Gb_ hN.1];exact List.getElem_mem _
theorem aKo (hN:ShN l s) (h:ShG l s) {z:Pt}(hz:onG z):0<=sqP l s z:=by
 unfold sqP
 cases arP l s z with
 | true=>exact Int.le_refl _
 | false =>
  have q:=aPI h;exact aKH _ _ (aNy (q _ (aFu hN)).1 (q _ (aFu hN)).2 hz) fun x hx=>aNy (q x hx).1 (q x hx).2 hz
theorem aKp (l:List Ob) (s:ShR) (z:Pt):sqP l s z<=35184372088832:=by
 unfold sqP
 cases arP l s z with
 | true=>exact (by decide:(0:Int)<=35184372088832)
 | false=>exact Int.le_trans (aQK _ _).1 (aRY _ _)
theorem aRq (l:List Ob) (s u:ShR):apP l s u<=35184372088832:=by
 unfold apP
 cases arP l s (aJ7 (u.P l) 0) with
 | true=>exact (by decide:(0:Int)<=35184372088832)
 | false =>
  cases aQM (u.L l) (s.L l) with
  | true=>exact (by decide:(0:Int)<=35184372088832)
  | false=>exact Int.le_trans (aQB _ _) (aKp _ _ _)
theorem aU4 (hN:ShN l s) (hU:ShN l u) (h:ShG l s) (hu:ShG l u) (hk:u.o.o.kind=2) {n:Int}(h0:0<=n) (hf:¬ mtB (aAc (s.P l)) (wdB (aAc (u.P l)) n)):(n+1)*(n+1)<=apP l s u:=by
 obtain ⟨d,hd,hf⟩:=aRc hf;have hs:∀ p∈s.P l,aEg (aAc (s.P l)) p:=fun p hp=>aEO hp;have hv:∀ p∈u.P l,aEg (aAc (u.P l)) p:=fun p hp=>aEO hp;have q:=aPI h;have r:=aPI hu;have nr:∀ {x:Pt×Pt}{p:Pt},onG x.1->onG x.2->onG p->[x.1,x.2,p].all aA7=true:=fun h1 h2 h3=>by simp [aCs h1,aCs h2,aCs h3]
 have n1:∀ a∈u.L l,∀ p∈s.P l,(n+1)*(n+1)<=aAC a p:=fun a ha p hp=>Int.le_trans (box_far' h0 (hs p hp) hf) (aFq (hv _ (aAL ha).1) (hv _ (aAL ha).2) (nr (r a ha).1 (r a ha).2 (h p hp)));have n2:∀ b∈s.L l,∀ p∈u.P l,(n+1)*(n+1)<=aAC b p:=fun b hb p hp=>Int.le_trans (aS9 h0 (hv p hp) hf) (aFq (hs _ (aAL hb).1) (hs _ (aAL hb).2) (nr (q b hb).1 (q b hb).2 (hu p hp)))
 have e1:arP l s (aJ7 (u.P l) 0)=false:=by
  unfold arP;rw [aKr h0 hs (hv _ (aDi hU.2)) hd hf];cases (s.o.o.kind==3)<;>cases aHF (s.P l)<;>rfl
 have e2:aQM (u.L l) (s.L l)=false:=by
  unfold aQM;rw [List.any_eq_false];intro a ha;rw [Bool.not_eq_true,List.any_eq_false];intro b hb;rw [aPG h0 (hs _ (aAL hb).1) (hs _ (aAL hb).2) (hv _ (aAL ha).1) (hv _ (aAL ha).2) hf];decide
 have e3:arP l u (aJ7 (s.P l) 0)=false:=by unfold arP;rw [hk];rfl
 unfold apP;rw [e1,e2,cond_false,cond_false];refine aQC _ _ ?_ fun a ha b hb=>⟨n1 a ha _ (aAL hb).1,n1 a ha _ (aAL hb).2,n2 b hb _ (aAL ha).1,n2 b hb _ (aAL ha).2⟩;unfold sqP;rw [e3,cond_false];exact aKH _ _ (n1 _ (aFu hU) _ (aDi hN.2)) fun x hx=>n1 x hx _ (aDi hN.2)
end
theorem aRJ {n N:Int}(h0:0<=N) (h:(N+1)*(N+1)<=n):N<aAr n:=by
 have h1:=Int.mul_nonneg (show 0<=N+1 by omega) (show 0<=N+1 by omega);unfold aAr;rw [decide_eq_false (by omega),cond_false];have h2:=(aEt n.toNat).2;obtain ⟨k,rfl⟩:=Int.eq_ofNat_of_zero_le h0;rcases Nat.lt_or_ge k (aBM n.toNat) with h3 | h3
 ·exact_mod_cast h3
 ·exfalso;have h4:=Nat.mul_le_mul (show aBM n.toNat+1<=k+1 by omega) (show aBM n.toNat+1<=k+1 by omega)
  have h5:((k+1)*(k+1):Nat)<=n.toNat:=by
   have:(((k+1)*(k+1):Nat):Int)<=n:=by push_cast;exact h
   omega
  omega
theorem aMY {m n:Int}(h0:0<=m) (h:m<=n):aAr m<=aAr n:=by
 unfold aAr;rw [decide_eq_false (by omega),decide_eq_false (by omega),cond_false,cond_false];have h1:=(aEt m.toNat).1;have h2:=(aEt n.toNat).2;rcases Nat.lt_or_ge (aBM n.toNat) (aBM m.toNat) with h3 | h3
 ·exfalso;have h4:=Nat.mul_le_mul (show aBM n.toNat+1<=aBM m.toNat by omega) (show aBM n.toNat+1<=aBM m.toNat by omega);omega
 ·exact_mod_cast h3
def aMj (x:Nat):Bool:=decide ((x:Int)<48)||decide (57<(x:Int))
def aC7 (v:Bys):Bool := !(decide (0<=Lib.idxFunc aMj true (ofL v)))
def aCv (v:Bys) (has:Bool) (n:Int):Bool:=has&&aC7 v&&decide ((v.length:Int)<=7)&&(aH9 v).isSome&&decide (n<(aH9 v).getD 0)
def aAZ (t:List Tag):Nat->CdR->Bool
  | 0,_=>true
  | h+1,c =>
    bif c.op==2 then (aB1 t c.key).2
    else bif c.op==3 then (aB1 t c.key).2&&((aB1 t c.key).1==c.val)
    else bif c.op==7 then aCv (aB1 t c.key).1 (aB1 t c.key).2 c.n
    else bif (c.op==4)||(c.op==5) then (c.kids.any fun k => !(aAZ t h k))==(c.op==4)
    else bif c.op==6 then c.kids.any (aAZ t h) else true
theorem aAq (t:List Tag) (h:Nat) (c:CdR):aAZ t (h+1) c =
    bif c.op==2 then (aB1 t c.key).2
    else bif c.op==3 then (aB1 t c.key).2&&((aB1 t c.key).1==c.val)
    else bif c.op==7 then aCv (aB1 t c.key).1 (aB1 t c.key).2 c.n
    else bif (c.op==4)||(c.op==5) then (c.kids.any fun k => !(aAZ t h k))==(c.op==4)
    else bif c.op==6 then c.kids.any (aAZ t h) else true:=rfl
def aDp (h:Nat) (c:CdR) (t:List Tag):Bool:=aDy h c&&aAZ t h c
def aEP (b:ObR) (B h:Nat):Prop:=∀ {c:CdR}{w:World},CdB w B h c->B<=w.heap.size->ObIn w b->Te w->Calls Tryz.prog 37 #[vA (cdL c),vA (obL b)] w fun e w'=>e = .returned (vB (aAZ b.o.tags h c)) /\ Fr nF_ w w'
theorem aMb {w:World}(x:Nat):Calls Tryz.prog 84 #[.int .i32 (x:Int)] w fun e w'=>e = .returned (vB (aMj x)) /\ Fr nF_ w w':=by
  refine beg Tryz.func84 rfl rfl [(0,.int .i32 (x:Int))] rfl rfl fun Z hZ=>?_;have hM:=Mm.nil nF_ w;refine seg 1 3 [(5,vB (decide ((x:Int)<48)))] f0 ?_;cases h46:(decide ((x:Int)<48))
  ·exact rt1 2 (vB (decide (57<(x:Int)))) rfl f0 (hZ _ _ ⟨by unfold aMj;simp only [h46]<;>rfl,hM.fr⟩)
  exact rt1 2 (vB true) rfl f0 (hZ _ _ ⟨by unfold aMj;simp only [h46]<;>rfl,hM.fr⟩)
theorem aGG {w:World}(v:Bys):Calls Tryz.prog 83 #[vS v,.func (.func 84) #[] #[]] w fun e w'=>e = .returned (vB (decide (0<=Lib.idxFunc aMj true (ofL v)))) /\ Fr nF_ w w' :=
  (Tryz.strings_ContainsFunc_grows 84 #[] (enters_of Tryz.func84 (by kernel_rfl) rfl) aMj (ofL v) w (fun W x _ _=>(aMb x).mono fun e w2 ⟨h1,h2⟩=>⟨h1,h2.os,h2.tape,h2.output,h2.size,fun r hr=>h2.blk r hr id⟩)).mono fun e w2 ⟨h1,h2⟩=>⟨h1,Fr.of_below h2⟩
theorem aIu {w:World}{B h:Nat}{b:ObR}(ih:aEP b B h) {bo:Nat}(hbo:w.heap[bo]?=some (.cells (oY_ b) 48 (0,0))) (hb:ObIn w b) (hTe:Te w) {c:CdR}(hc:CdB w B h c) (hBw:B<=w.heap.size):Calls Tryz.prog 81 #[vA (cdL c),vP bo 0] w fun e w'=>e = .returned (vB (aAZ b.o.tags h c)) /\ Fr nF_ w w':=by
  refine beg Tryz.func81 rfl rfl [(0,.agg (cY_ c)),(1,vP bo 0)] rfl rfl fun Z hZ=>?_;have hM:=Mm.nil nF_ w;refine aA1 0 0 2 [] (cs:=(cY_ c)) (T:=27) (v:=fun b=>vP b 0) f0 hM fun aa w1 hM=>aAw 1 2 6 [(4,.agg (cY_ c)),(5,.agg (oY_ b))] (fc (lam 27 0 0 5 hM rfl) (fc (la0 48 hM (rs (aED hbo) 0 6)) f0)) hM (ih (hc.g (fun _ h=>h.elim) hM.fr hBw) (Gn_ hBw hM.fr.size) (hb.fr hM.fr) (hTe.fr hM.fr)) fun w1 hM=>rt1 3 (vB (aAZ b.o.tags h c)) rfl f0 (hZ _ _ ⟨rfl,hM.fr⟩)
theorem aLU {w:World}{B h:Nat}{b:ObR}(ih:aEP b B h) {bo:Nat}(hbo:w.heap[bo]?=some (.cells (oY_ b) 48 (0,0))) (hb:ObIn w b) (hTe:Te w) {b7:Nat}(hb7:w.heap[b7]?=some (.cells #[.func (.func 81) #[] #[vP bo 0]] 34 (0,0))) {c:CdR}(hc:CdB w B h c) (hBw:B<=w.heap.size):Calls Tryz.prog 82 #[vA (cdL c),vP b7 0] w fun e w'=>e = .returned (vB (!(aAZ b.o.tags h c))) /\ Fr nF_ w w':=by
  refine beg Tryz.func82 rfl rfl [(0,.agg (cY_ c)),(1,vP b7 0)] rfl rfl fun Z hZ=>?_;have hM:=Mm.nil nF_ w;refine aA1 0 0 2 [] (cs:=(cY_ c)) (T:=27) (v:=fun b=>vP b 0) f0 hM fun aa w1 hM=>aAw 1 2 6 [(4,.func (.func 81) #[] #[vP bo 0]),(5,.agg (cY_ c))] (fc (ld0 34 hM (bx hb7 0 rfl)) (fc (lam 27 0 0 5 hM rfl) f0)) hM (aIu ih (hM.fr.obj hbo id) (hb.fr hM.fr) (hTe.fr hM.fr) (hc.g (fun _ h=>h.elim) hM.fr hBw) (Gn_ hBw hM.fr.size)) fun w1 hM=>rt1 3 (vB (!(aAZ b.o.tags h c))) rfl f0 (hZ _ _ ⟨rfl,hM.fr⟩)
theorem aFb {w:World}{B h:Nat}{b:ObR}(ih:aEP b B h) {bo:Nat}(hbo:w.heap[bo]?=some (.cells (oY_ b) 48 (0,0))) (hb:ObIn w b) (hTe:Te w) {p:Option Addr}{cap:Nat}{L:List CdR}(hs:SrcB cdL 5 w B p cap L) (hk:∀ k∈L,CdB w B h k) (hBw:B<=w.heap.size):Calls Tryz.prog 86 #[vL p L.length cap,.func (.func 81) #[] #[vP bo 0]] w fun e w'=>e = .returned (vB (L.any (aAZ b.o.tags h))) /\ Fr nF_ w w' :=
  (aGg (caps:=#[vP bo 0]) hs (G:=fun _=>False) (fun _ h=>h.elim) (enters_of Tryz.func81 (by kernel_rfl) rfl) (fun _ _=>True) (atQ L (aAZ b.o.tags h)) trivial (fun i x w1 hx _ _ f=>(aIu ih (f.obj hbo id) (hb.fr f) (hTe.fr f) ((hk x (gm hx)).g (fun _ h=>h.elim) f hBw) (Gn_ hBw f.size)).mono fun e w2 h=>⟨by rw [h.1];unfold atQ;rw [hx],trivial,h.2⟩)).mono fun e w9 h=>⟨by obtain ⟨z,h1,h2⟩:=h.1;rw [h1,aH0 h2],h.2⟩
theorem aCy {w:World}{B h:Nat}{b:ObR}(ih:aEP b B h) {bo:Nat}(hbo:w.heap[bo]?=some (.cells (oY_ b) 48 (0,0))) (hb:ObIn w b) (hTe:Te w) {b7:Nat}(hb7:w.heap[b7]?=some (.cells #[.func (.func 81) #[] #[vP bo 0]] 34 (0,0))) {p:Option Addr}{cap:Nat}{L:List CdR}(hs:SrcB cdL 5 w B p cap L) (hk:∀ k∈L,CdB w B h k) (hBw:B<=w.heap.size):Calls Tryz.prog 86 #[vL p L.length cap,.func (.func 82) #[] #[vP b7 0]] w fun e w'=>e = .returned (vB (L.any (fun k => !(aAZ b.o.tags h k)))) /\ Fr nF_ w w' :=
  (aGg (caps:=#[vP b7 0]) hs (G:=fun _=>False) (fun _ h=>h.elim) (enters_of Tryz.func82 (by kernel_rfl) rfl) (fun _ _=>True) (atQ L (fun k => !(aAZ b.o.tags h k))) trivial (fun i x w1 hx _ _ f=>(aLU ih (f.obj hbo id) (hb.fr f) (hTe.fr f) (f.obj hb7 id) ((hk x (gm hx)).g (fun _ h=>h.elim) f hBw) (Gn_ hBw f.size)).mono fun e w2 h=>⟨by rw [h.1];unfold atQ;rw [hx],trivial,h.2⟩)).mono fun e w9 h=>⟨by obtain ⟨z,h1,h2⟩:=h.1;rw [h1,aH0 h2],h.2⟩
theorem aLR {w:World}{B h:Nat}{b:ObR}(ht:∀ k,(aB1 b.o.tags k).1.length<=281474976710656) (ih:aEP b B h) (hb:ObIn w b) (hTe:Te w) {c:CdR}(hc:CdB w B (h+1) c) (hBw:B<=w.heap.size):Calls Tryz.prog 37 #[vA (cdL c),vA (obL b)] w fun e w'=>e = .returned (vB (aAZ b.o.tags (h+1) c)) /\ Fr nF_ w w':=by
  have hl:=ht c.key
  cases hat:aH9 (aB1 b.o.tags c.key).1 with
  | none =>
    refine beg Tryz.func37 rfl rfl [(0,.agg (cY_ c)),(1,.agg (oY_ b))] rfl rfl fun Z hZ=>?_;have hM:=Mm.nil nF_ w;refine aA1 0 0 2 [] (cs:=(cY_ c)) (T:=27) (v:=fun b=>vP b 0) f0 hM fun ae w1 hM=>aA1 0 1 3 [] (cs:=(oY_ b)) (T:=48) (v:=fun b=>vP b 0) f0 hM fun aa w1 hM=>aAw 1 4 17 [(14,vL b.pt b.o.tags.length b.ct),(16,vS c.key)] (fc (ldm 46 1 5 hM rfl rfl) (fc (ldm 9 0 1 hM rfl rfl) f0)) hM (aIz (hb.tags.src.fr hM.fr) c.key) fun w1 hM=>aDq 2 1 7 [(5,vS ((aB1 b.o.tags c.key).1)),(6,vB (aB1 b.o.tags c.key).2),(20,.func (.func 81) #[] #[vP aa 0])] [] 34 (.func (.func 81) #[] #[vP aa 0]) f0 hM fun ac w1 hM=>seg 5 2 [(8,.func (.func 82) #[] #[vP ac 0]),(23,vI c.op),(24,vB (c.op==2))] (fc (ldm 3 0 0 hM rfl rfl) f0) ?_;cases h53:(c.op==2)
    rotate_left
    ·exact rt1 4 (vB (aB1 b.o.tags c.key).2) rfl f0 (hZ _ _ ⟨by rw [aAq];unfold aCv aC7;simp only [hat,h53,bs_,Option.isSome,Option.getD]<;>rfl,hM.fr⟩)
    refine seg 7 2 [(27,vB (c.op==3))] f0 ?_;cases h54:(c.op==3)
    rotate_left
    ·refine seg 8 2 [(30,vB (aB1 b.o.tags c.key).2)] f0 ?_
     cases h62:(aB1 b.o.tags c.key).2 with
     | false =>
      exact rt1 4 (vB false) rfl f0 (hZ _ _ ⟨by rw [aAq];unfold aCv aC7;simp only [hat,h53,h54,h62,bs_,Option.isSome,Option.getD]<;>rfl,hM.fr⟩)
     | true =>
      exact rt1 4 (vB ((aB1 b.o.tags c.key).1==c.val)) rfl (fc (ldm 9 0 2 hM rfl rfl) (fc (seq 9 ((aB1 b.o.tags c.key).1) c.val) f0)) (hZ _ _ ⟨by rw [aAq];unfold aCv aC7;simp only [hat,h53,h54,h62,bs_,Option.isSome,Option.getD]<;>rfl,hM.fr⟩)
    refine seg 9 2 [(36,vB (c.op==7))] f0 ?_;cases h55:(c.op==7)
    ·refine seg 13 2 [(65,vB (c.op==4))] f0 ?_;cases h56:(c.op==4)
     rotate_left
     ·refine seg 15 0 [] f0 (drc [(4,vB ((c.kids.any fun k => !(aAZ b.o.tags h k))==true))] hM (fun w5 hM=>(fc (ldm 25 0 4 hM rfl rfl) (fc (tcl (aCy ih (bo:=aa) (hM.get 1 rfl) (hb.fr hM.fr) (hTe.fr hM.fr) (b7:=ac) (hM.get 2 rfl) (hc.2.2.1.g (fun _ h=>h.elim) hM.fr hBw) (fun k hk=>(hc.2.2.2 k hk).g (fun _ h=>h.elim) hM.fr hBw) (Gn_ hBw hM.fr.size))) (fc (ldm 3 0 0 hM rfl rfl) (fc (tv 74 h56) f0))))) fun w5 hM=>rt1 4 (vB ((c.kids.any fun k => !(aAZ b.o.tags h k))==true)) rfl f0 (hZ _ _ ⟨by rw [aAq];unfold aCv aC7;simp only [hat,h53,h54,h55,h56,bs_,Option.isSome,Option.getD]<;>rfl,hM.fr⟩))
     refine seg 14 2 [(65,vB (c.op==5))] f0 ?_;cases h57:(c.op==5)
     rotate_left
     ·refine seg 15 0 [] f0 (drc [(4,vB ((c.kids.any fun k => !(aAZ b.o.tags h k))==false))] hM (fun w5 hM=>(fc (ldm 25 0 4 hM rfl rfl) (fc (tcl (aCy ih (bo:=aa) (hM.get 1 rfl) (hb.fr hM.fr) (hTe.fr hM.fr) (b7:=ac) (hM.get 2 rfl) (hc.2.2.1.g (fun _ h=>h.elim) hM.fr hBw) (fun k hk=>(hc.2.2.2 k hk).g (fun _ h=>h.elim) hM.fr hBw) (Gn_ hBw hM.fr.size))) (fc (ldm 3 0 0 hM rfl rfl) (fc (tv 74 h56) f0))))) fun w5 hM=>rt1 4 (vB ((c.kids.any fun k => !(aAZ b.o.tags h k))==false)) rfl f0 (hZ _ _ ⟨by rw [aAq];unfold aCv aC7;simp only [hat,h53,h54,h55,h56,h57,bs_,Option.isSome,Option.getD]<;>rfl,hM.fr⟩))
     refine seg 16 2 [(76,vB (c.op==6))] f0 ?_;cases h58:(c.op==6)
     ·exact rt1 4 (vB true) rfl f0 (hZ _ _ ⟨by rw [aAq];unfold aCv aC7;simp only [hat,h53,h54,h55,h56,h57,h58,bs_,Option.isSome,Option.getD]<;>rfl,hM.fr⟩)
     refine aAw 17 3 81 [(79,vL c.p c.kids.length c.cap),(80,.func (.func 81) #[] #[vP aa 0])] (fc (ldm 25 0 4 hM rfl rfl) (fc (ldm 34 2 0 hM rfl rfl) f0)) hM (aFb ih (hM.get 1 rfl) (hb.fr hM.fr) (hTe.fr hM.fr) (hc.2.2.1.g (fun _ h=>h.elim) hM.fr hBw) (fun k hk=>(hc.2.2.2 k hk).g (fun _ h=>h.elim) hM.fr hBw) (Gn_ hBw hM.fr.size)) fun w1 hM=>rt1 4 (vB (c.kids.any (aAZ b.o.tags h))) rfl f0 (hZ _ _ ⟨by rw [aAq];unfold aCv aC7;simp only [hat,h53,h54,h55,h56,h57,h58,bs_,Option.isSome,Option.getD]<;>rfl,hM.fr⟩)
    refine aAw 10 1 39 [(38,vS ((aB1 b.o.tags c.key).1))] f0 hM (aGG (aB1 b.o.tags c.key).1) fun w1 hM=>cal 11 1 43 [(9,vB (!(decide (0<=Lib.idxFunc aMj true (ofL (aB1 b.o.tags c.key).1))))),(42,vS ((aB1 b.o.tags c.key).1))] (K:=fun u w8=>∃ n T v,u = .tuple #[vI n,.iface T v] /\ Fr nF_ w1 w8) f0 ((aGK hl (hTe.fr hM.fr)).mono fun e w8 ⟨⟨n1,ev,h1,h2⟩,h3⟩=>(by rcases h2 with ⟨h4,_⟩ | ⟨h4,T,v,rfl⟩<;>rw [hat] at h4<;>cases h4;exact ⟨_,h1,n1,T,v,rfl,h3⟩)) fun u w1 ⟨n,T,v,hu,f1⟩=>?_;subst hu;have hM:=hM.q f1;refine seg 12 2 [(10,vI n),(11,.iface T v),(47,vB (aB1 b.o.tags c.key).2)] f0 ?_
    cases h59:(aB1 b.o.tags c.key).2 with
    | false =>
     exact rt1 4 (vB false) rfl f0 (hZ _ _ ⟨by rw [aAq];unfold aCv aC7;simp only [hat,h53,h54,h55,h59,bs_,Option.isSome,Option.getD]<;>rfl,hM.fr⟩)
    | true =>
     refine seg 12 5 [(50,vB (!(decide (0<=Lib.idxFunc aMj true (ofL (aB1 b.o.tags c.key).1)))))] f0 ?_;cases h60:(decide (0<=Lib.idxFunc aMj true (ofL (aB1 b.o.tags c.key).1)))
     rotate_left
     ·exact rt1 4 (vB false) rfl f0 (hZ _ _ ⟨by rw [aAq];unfold aCv aC7;simp only [hat,h53,h54,h55,h59,h60,bs_,Option.isSome,Option.getD]<;>rfl,hM.fr⟩)
     refine seg 12 10 [(55,vB (decide ((((aB1 b.o.tags c.key).1).length:Int)<=7)))] (fc (aIO 9 ((aB1 b.o.tags c.key).1)) f0) ?_;cases h61:(decide ((((aB1 b.o.tags c.key).1).length:Int)<=7))
     ·exact rt1 4 (vB false) rfl f0 (hZ _ _ ⟨by rw [aAq];unfold aCv aC7;simp only [hat,h53,h54,h55,h59,h60,h61,bs_,Option.isSome,Option.getD]<;>rfl,hM.fr⟩)
     refine opp 12 11 57 [(56,.iface T v)] (v:=vB false) f0 (rt1 4 (vB false) rfl f0 (hZ _ _ ⟨by rw [aAq];unfold aCv aC7;simp only [hat,h53,h54,h55,h59,h60,h61,bs_,Option.isSome,Option.getD]<;>rfl,hM.fr⟩))
  | some n =>
    refine beg Tryz.func37 rfl rfl [(0,.agg (cY_ c)),(1,.agg (oY_ b))] rfl rfl fun Z hZ=>?_;have hM:=Mm.nil nF_ w;refine aA1 0 0 2 [] (cs:=(cY_ c)) (T:=27) (v:=fun b=>vP b 0) f0 hM fun af w1 hM=>aA1 0 1 3 [] (cs:=(oY_ b)) (T:=48) (v:=fun b=>vP b 0) f0 hM fun ab w1 hM=>aAw 1 4 17 [(14,vL b.pt b.o.tags.length b.ct),(16,vS c.key)] (fc (ldm 46 1 5 hM rfl rfl) (fc (ldm 9 0 1 hM rfl rfl) f0)) hM (aIz (hb.tags.src.fr hM.fr) c.key) fun w1 hM=>aDq 2 1 7 [(5,vS ((aB1 b.o.tags c.key).1)),(6,vB (aB1 b.o.tags c.key).2),(20,.func (.func 81) #[] #[vP ab 0])] [] 34 (.func (.func 81) #[] #[vP ab 0]) f0 hM fun ad w1 hM=>seg 5 2 [(8,.func (.func 82) #[] #[vP ad 0]),(23,vI c.op),(24,vB (c.op==2))] (fc (ldm 3 0 0 hM rfl rfl) f0) ?_;cases h66:(c.op==2)
    rotate_left
    ·exact rt1 4 (vB (aB1 b.o.tags c.key).2) rfl f0 (hZ _ _ ⟨by rw [aAq];unfold aCv aC7;simp only [hat,h66,bs_,Option.isSome,Option.getD]<;>rfl,hM.fr⟩)
    refine seg 7 2 [(27,vB (c.op==3))] f0 ?_;cases h67:(c.op==3)
    rotate_left
    ·refine seg 8 2 [(30,vB (aB1 b.o.tags c.key).2)] f0 ?_
     cases h75:(aB1 b.o.tags c.key).2 with
     | false =>
      exact rt1 4 (vB false) rfl f0 (hZ _ _ ⟨by rw [aAq];unfold aCv aC7;simp only [hat,h66,h67,h75,bs_,Option.isSome,Option.getD]<;>rfl,hM.fr⟩)
     | true =>
      exact rt1 4 (vB ((aB1 b.o.tags c.key).1==c.val)) rfl (fc (ldm 9 0 2 hM rfl rfl) (fc (seq 9 ((aB1 b.o.tags c.key).1) c.val) f0)) (hZ _ _ ⟨by rw [aAq];unfold aCv aC7;simp only [hat,h66,h67,h75,bs_,Option.isSome,Option.getD]<;>rfl,hM.fr⟩)
    refine seg 9 2 [(36,vB (c.op==7))] f0 ?_;cases h68:(c.op==7)
    ·refine seg 13 2 [(65,vB (c.op==4))] f0 ?_;cases h69:(c.op==4)
     rotate_left
     ·refine seg 15 0 [] f0 (drc [(4,vB ((c.kids.any fun k => !(aAZ b.o.tags h k))==true))] hM (fun w5 hM=>(fc (ldm 25 0 4 hM rfl rfl) (fc (tcl (aCy ih (bo:=ab) (hM.get 1 rfl) (hb.fr hM.fr) (hTe.fr hM.fr) (b7:=ad) (hM.get 2 rfl) (hc.2.2.1.g (fun _ h=>h.elim) hM.fr hBw) (fun k hk=>(hc.2.2.2 k hk).g (fun _ h=>h.elim) hM.fr hBw) (Gn_ hBw hM.fr.size))) (fc (ldm 3 0 0 hM rfl rfl) (fc (tv 74 h69) f0))))) fun w5 hM=>rt1 4 (vB ((c.kids.any fun k => !(aAZ b.o.tags h k))==true)) rfl f0 (hZ _ _ ⟨by rw [aAq];unfold aCv aC7;simp only [hat,h66,h67,h68,h69,bs_,Option.isSome,Option.getD]<;>rfl,hM.fr⟩))
     refine seg 14 2 [(65,vB (c.op==5))] f0 ?_;cases h70:(c.op==5)
     rotate_left
     ·refine seg 15 0 [] f0 (drc [(4,vB ((c.kids.any fun k => !(aAZ b.o.tags h k))==false))] hM (fun w5 hM=>(fc (ldm 25 0 4 hM rfl rfl) (fc (tcl (aCy ih (bo:=ab) (hM.get 1 rfl) (hb.fr hM.fr) (hTe.fr hM.fr) (b7:=ad) (hM.get 2 rfl) (hc.2.2.1.g (fun _ h=>h.elim) hM.fr hBw) (fun k hk=>(hc.2.2.2 k hk).g (fun _ h=>h.elim) hM.fr hBw) (Gn_ hBw hM.fr.size))) (fc (ldm 3 0 0 hM rfl rfl) (fc (tv 74 h69) f0))))) fun w5 hM=>rt1 4 (vB ((c.kids.any fun k => !(aAZ b.o.tags h k))==false)) rfl f0 (hZ _ _ ⟨by rw [aAq];unfold aCv aC7;simp only [hat,h66,h67,h68,h69,h70,bs_,Option.isSome,Option.getD]<;>rfl,hM.fr⟩))
     refine seg 16 2 [(76,vB (c.op==6))] f0 ?_;cases h71:(c.op==6)
     ·exact rt1 4 (vB true) rfl f0 (hZ _ _ ⟨by rw [aAq];unfold aCv aC7;simp only [hat,h66,h67,h68,h69,h70,h71,bs_,Option.isSome,Option.getD]<;>rfl,hM.fr⟩)
     refine aAw 17 3 81 [(79,vL c.p c.kids.length c.cap),(80,.func (.func 81) #[] #[vP ab 0])] (fc (ldm 25 0 4 hM rfl rfl) (fc (ldm 34 2 0 hM rfl rfl) f0)) hM (aFb ih (hM.get 1 rfl) (hb.fr hM.fr) (hTe.fr hM.fr) (hc.2.2.1.g (fun _ h=>h.elim) hM.fr hBw) (fun k hk=>(hc.2.2.2 k hk).g (fun _ h=>h.elim) hM.fr hBw) (Gn_ hBw hM.fr.size)) fun w1 hM=>rt1 4 (vB (c.kids.any (aAZ b.o.tags h))) rfl f0 (hZ _ _ ⟨by rw [aAq];unfold aCv aC7;simp only [hat,h66,h67,h68,h69,h70,h71,bs_,Option.isSome,Option.getD]<;>rfl,hM.fr⟩)
    refine aAw 10 1 39 [(38,vS ((aB1 b.o.tags c.key).1))] f0 hM (aGG (aB1 b.o.tags c.key).1) fun w1 hM=>aW6 11 1 43 [(9,vB (!(decide (0<=Lib.idxFunc aMj true (ofL (aB1 b.o.tags c.key).1))))),(42,vS ((aB1 b.o.tags c.key).1))] (v := .tuple #[vI n,.nilIface]) (K:=fun w8=>Fr nF_ _ w8) f0 ((aGK hl (hTe.fr hM.fr)).mono fun e w8 ⟨⟨n1,ev,h1,h2⟩,h3⟩=>(by rcases h2 with ⟨h4,rfl,_⟩ | ⟨h4,_⟩<;>rw [hat] at h4<;>cases h4;exact ⟨h1,h3⟩)) fun w1 f1=>?_;have hM:=hM.q f1;refine seg 12 2 [(10,vI n),(11,.nilIface),(47,vB (aB1 b.o.tags c.key).2)] f0 ?_
    cases h72:(aB1 b.o.tags c.key).2 with
    | false =>
     exact rt1 4 (vB false) rfl f0 (hZ _ _ ⟨by rw [aAq];unfold aCv aC7;simp only [hat,h66,h67,h68,h72,bs_,Option.isSome,Option.getD]<;>rfl,hM.fr⟩)
    | true =>
     refine seg 12 5 [(50,vB (!(decide (0<=Lib.idxFunc aMj true (ofL (aB1 b.o.tags c.key).1)))))] f0 ?_;cases h73:(decide (0<=Lib.idxFunc aMj true (ofL (aB1 b.o.tags c.key).1)))
     rotate_left
     ·exact rt1 4 (vB false) rfl f0 (hZ _ _ ⟨by rw [aAq];unfold aCv aC7;simp only [hat,h66,h67,h68,h72,h73,bs_,Option.isSome,Option.getD]<;>rfl,hM.fr⟩)
     refine seg 12 10 [(55,vB (decide ((((aB1 b.o.tags c.key).1).length:Int)<=7)))] (fc (aIO 9 ((aB1 b.o.tags c.key).1)) f0) ?_;cases h74:(decide ((((aB1 b.o.tags c.key).1).length:Int)<=7))
     ·exact rt1 4 (vB false) rfl f0 (hZ _ _ ⟨by rw [aAq];unfold aCv aC7;simp only [hat,h66,h67,h68,h72,h73,h74,bs_,Option.isSome,Option.getD]<;>rfl,hM.fr⟩)
     refine opp 12 11 57 [(56,.nilIface)] (v:=vB true) f0 (rt1 4 (vB (decide (c.n<n))) rfl (fc (ldm 3 0 3 hM rfl rfl) f0) (hZ _ _ ⟨by rw [aAq];unfold aCv aC7;simp only [hat,h66,h67,h68,h72,h73,h74,bs_,Option.isSome,Option.getD]<;>rfl,hM.fr⟩))
theorem aFW {B:Nat}{b:ObR}(ht:∀ k,(aB1 b.o.tags k).1.length<=281474976710656):∀ h,aEP b B h
  | 0=>fun hc=>hc.elim
  | h+1=>fun hc hBw hb hTe=>aLR ht (aFW ht h) hb hTe hc hBw
theorem aDm {w:World}{B h:Nat}{b:ObR}(ht:∀ k,(aB1 b.o.tags k).1.length<=281474976710656) (hb:ObIn w b) (hTe:Te w) {c:CdR}(hc:CdB w B h c) (hBw:B<=w.heap.size):Calls Tryz.prog 16 #[vA (cdL c),vA (obL b)] w fun e w'=>e = .returned (vB (aDp h c b.o.tags)) /\ Fr nF_ w w':=by
  refine beg Tryz.func16 rfl rfl [(0,.agg (cY_ c)),(1,.agg (oY_ b))] rfl rfl fun Z hZ=>?_;have hM:=Mm.nil nF_ w;refine aA1 0 0 2 [] (cs:=(cY_ c)) (T:=27) (v:=fun b=>vP b 0) f0 hM fun aa w1 hM=>aA1 0 1 3 [] (cs:=(oY_ b)) (T:=48) (v:=fun b=>vP b 0) f0 hM fun ab w1 hM=>aAw 1 1 6 [(5,.agg (cY_ c))] (fc (lam 27 0 0 5 hM rfl) f0) hM (aEQ (hc.g (fun _ h=>h.elim) hM.fr hBw) (Gn_ hBw hM.fr.size)) fun w1 hM=>seg 1 3 [(7,vB (aDy h c))] f0 ?_;cases h78:(aDy h c)
  ·exact rt1 4 (vB false) rfl f0 (hZ _ _ ⟨by unfold aDp;simp only [h78]<;>rfl,hM.fr⟩)
  refine aAw 1 5 10 [(8,.agg (cY_ c)),(9,.agg (oY_ b))] (fc (lam 27 0 0 5 hM rfl) (fc (lam 48 1 0 6 hM rfl) f0)) hM (aFW ht h (hc.g (fun _ h=>h.elim) hM.fr hBw) (Gn_ hBw hM.fr.size) (hb.fr hM.fr) (hTe.fr hM.fr)) fun w1 hM=>rt1 4 (vB (aAZ b.o.tags h c)) rfl f0 (hZ _ _ ⟨by unfold aDp;simp only [h78]<;>rfl,hM.fr⟩)
def aAT (h:Nat) (q:QdR) (b:ObR):Bool:=((q.kind==0)||(q.kind==b.o.kind))&&aDp h q.wh b.o.tags
def aGl (h:Nat) (q:QdR) (os:List ObR):List (Bys×Int):=(os.filter (aAT h q)).map fun b=>(b.o.id,0)
theorem aQu {h:Nat}{q:QdR}{os:List ObR}{i:Nat}{y:ObR}(hy:os[i]?=some y) (ha:aAT h q y=true):aGl h q (os.take i)++[(y.o.id,0)]=aGl h q (os.take (i+1)):=by
  unfold aGl;rw [gt_ hy,List.filter_append,List.map_append];simp [ha]
theorem aSK {h:Nat}{q:QdR}{os:List ObR}{i:Nat}{y:ObR}(hy:os[i]?=some y) (ha:aAT h q y=false):aGl h q (os.take i)=aGl h q (os.take (i+1)):=by
  unfold aGl;rw [gt_ hy,List.filter_append,List.map_append];simp [ha]
theorem aLc (h:Nat) (q:QdR) (os:List ObR):(aGl h q os).length<=os.length:=by
  unfold aGl;rw [Gp_];exact List.length_filter_le _ _
theorem aGV {os:List ObR}{b:ObR}(hv:aAl (aAa os)=true) (hb:b∈os) (k:Bys):(aB1 b.o.tags k).1.length<=281474976710656:=Gn_ (aLn (aCt hv _ (List.mem_map.2 ⟨_,hb,rfl⟩)) k) (by decide)
theorem aCG {w:World}{fb bs xi:Nat}{p0:Option Addr}{cp0:Nat}{os:List ObR}(hm:aDr w (vL p0 os.length cp0) os) (hvm:aAl (aAa os)=true) {B h:Nat}{q:QdR}(hq:QdIn w B h q) (hBw:B<=w.heap.size) (hTe:Te w) (hfb:w.heap[fb]?=some (.cells (fY_ (vL p0 os.length cp0) q (.map (some bs)) (vP xi 0)) 93 (0,0))) {b:ObR}(hbo:b∈os) (hb:ObIn w b):Calls Tryz.prog 56 #[vP fb 0,vA (obL b)] w fun e w'=>e = .returned (vB (aAT h q b)) /\ Fr nF_ w w':=by
  refine beg Tryz.func56 rfl rfl [(0,vP fb 0),(1,.agg (oY_ b))] rfl rfl fun Z hZ=>?_;have hM:=Mm.nil nF_ w;refine aA1 0 0 3 [] (cs:=(oY_ b)) (T:=48) (v:=fun b=>vP b 0) f0 hM fun ac w1 hM=>seg 1 0 [] f0 ?_;cases aa:(q.kind==0)
  ·cases ab:(q.kind==b.o.kind)
   ·refine drc [(4,vB false)] hM (fun w5 hM=>(fc (ld0 3 hM (bx hfb 2 rfl)) (fc (tv 10 aa) (fc (ld0 3 hM (bx hfb 2 rfl)) (fc (ldm 3 0 1 hM rfl rfl) (fc (tv 19 ab) f0)))))) fun w5 hM=>rt1 4 (vB false) rfl f0 (hZ _ _ ⟨by unfold aAT;simp only [aa,ab]<;>rfl,hM.fr⟩)
   refine drc [(4,vB (aDp h q.wh b.o.tags))] hM (fun w5 hM=>(fc (ld0 3 hM (bx hfb 2 rfl)) (fc (tv 10 aa) (fc (ld0 3 hM (bx hfb 2 rfl)) (fc (ldm 3 0 1 hM rfl rfl) (fc (tv 19 ab) (fc (la0 27 hM (rs (aED hfb) 3 5)) (fc (lam 48 0 0 6 hM rfl) (fc (tcl (aDm (aGV hvm hbo) (hb.fr hM.fr) (hTe.fr hM.fr) (hq.wh.g (fun _ h=>h.elim) hM.fr hBw) (Gn_ hBw hM.fr.size))) f0))))))))) fun w5 hM=>rt1 4 (vB (aDp h q.wh b.o.tags)) rfl f0 (hZ _ _ ⟨by unfold aAT;simp only [aa,ab]<;>rfl,hM.fr⟩)
  refine drc [(4,vB (aDp h q.wh b.o.tags))] hM (fun w5 hM=>(fc (ld0 3 hM (bx hfb 2 rfl)) (fc (tv 10 aa) (fc (la0 27 hM (rs (aED hfb) 3 5)) (fc (lam 48 0 0 6 hM rfl) (fc (tcl (aDm (aGV hvm hbo) (hb.fr hM.fr) (hTe.fr hM.fr) (hq.wh.g (fun _ h=>h.elim) hM.fr hBw) (Gn_ hBw hM.fr.size))) f0)))))) fun w5 hM=>rt1 4 (vB (aDp h q.wh b.o.tags)) rfl f0 (hZ _ _ ⟨by unfold aAT;simp only [aa]<;>rfl,hM.fr⟩)
abbrev aXR (Z:Ending->World->Prop):=AtO Tryz.prog (aAK Tryz.f28) (aBc (bodyPost Tryz.prog Tryz.f28 Z)) [] 28
theorem aO6 {w:World}{fb bs xi:Nat}{p0:Option Addr}{cp0:Nat}{os:List ObR}(hm:aDr w (vL p0 os.length cp0) os) (hvm:aAl (aAa os)=true) {B h:Nat}{q:QdR}(hq:QdIn w B h q) (hBw:B<=w.heap.size) (hTe:Te w) (hfb:w.heap[fb]?=some (.cells (fY_ (vL p0 os.length cp0) q (.map (some bs)) (vP xi 0)) 93 (0,0))) (hol:os.length<=1000000):Calls Tryz.prog 28 #[vP fb 0] w fun e w'=>∃ u,e = .returned (.tuple #[u,vI 0]) /\ Mm nF_ w w' [rw_ rwL 2 42 u (aGl h q os)]:=by
  have hm0:=hm;obtain ⟨hs0,hob⟩:=hm0;have sp0:=hs0.p.2;refine beg Tryz.func28 rfl rfl [(0,vP fb 0)] rfl rfl fun Z hZ=>?_;have hM:=Mm.nil nF_ w;have hM:=hM.row (f:=rwL) (c:=2) (E:=42);refine seg 3 0 [(4,vL none 0 0),(11,vL p0 os.length cp0),(12,vI (os.length:Int)),(13,vI 0)] (fc (ld0 22 hM (bx hfb 0 rfl)) f0) ?_
  have ag:∀ (ac:Nat) (i:Nat) (vo:Value) (w2:World),i<=os.length->Mm nF_ w w2 [rw_ rwL 2 42 vo (aGl h q (os.take i))]->ac=os.length-i->aXR Z (some (3,0)) [(13,vI (i:Int)),(12,vI (os.length:Int)),(11,vL p0 os.length cp0),(4,vo),(0,vP fb 0)] w2:=by
   refine aCC fun ac ad i vo w2 hi hM al=>seg 3 1 [(14,vB (decide ((i:Int)<(os.length:Int))))] f0 ?_;cases ae:(decide ((i:Int)<(os.length:Int)))
   ·have ah:=df ae;exact rt2 2 3 vo (vI 0) rfl rfl f0 (hZ _ _ ⟨_,rfl,by rw [Gc_ (by omega)] at hM;exact hM.pick [0]⟩)
   have ah:=dt ae;obtain ⟨y,hy,am,an,ai,aj⟩:=sp0.el (i:=i) (by omega);refine aDq 4 2 6 [(16,.agg (oY_ y))] [] 48 (.agg (oY_ y)) (fc (ix 22 cp0 ai (gl hy)) (fc (la0 48 hM aj) f0)) hM fun ao w1 hM=>aAw 5 2 19 [(17,vP fb 0),(18,.agg (oY_ y))] (fc (lam 48 1 0 6 hM rfl) f0) hM (aCG (hm.fr hM.fr) hvm (hq.fr hM.fr hBw) (Gn_ hBw hM.fr.size) (hTe.fr hM.fr) (hM.fr.obj hfb id) (gm hy) ((hob _ (gm hy)).fr hM.fr)) fun w1 hM=>?_;cases af:(aAT h q y)
   ·refine seg 3 0 [(13,vI ((i:Int)+1))] (fc (aA8 (i:Int) 1 u3_) f0) ?_;have hM:=hM.pick [0];replace hM:Mm nF_ w _ [_]:=hM;obtain ⟨u1,hu1⟩:∃ z,z=vo:=⟨_,rfl⟩;rw [←hu1] at hM;rw [aSK hy af,hu1] at hM;exact aAj _ (ad _ (by have:=gl hy;omega) (i+1) vo _ (gl hy) hM rfl)
   refine aA1 6 4 24 [(20,vo),(23,.agg #[vS y.o.id,vI 0])] (cs:=#[vS y.o.id,vI 0]) (T:=42) (v:=fun b=>vL (some ⟨b,0,none⟩) 1 1) (fc (ldm 9 1 0 hM rfl rfl) f0) hM fun ap w1 hM=>aU2 6 5 25 [] (cap:=1) (by decide) rwT f0 hM (j:=0) rfl (aC1 (f:=rwL) (x:=(y.o.id,0)) (hM.get 2 rfl) (Nat.lt_succ_self _)) (fun h=>by cases h) (by have:=aLc h q (os.take i);have h2:=List.length_take_le i os;simp only [Gf_,Gm_];omega) fun aq w1 hM=>?_;obtain ⟨aa,ab,ak,-⟩:=(hM.src (j:=0) rfl rwT.len).op;subst ak;refine seg 3 0 [(4,vL aa ((aGl h q (os.take i))++[(y.o.id,0)]).length ab),(13,vI ((i:Int)+1))] (fc (aA8 (i:Int) 1 u3_) f0) ?_;have hM:=hM.pick [0];replace hM:Mm nF_ w _ [_]:=hM;obtain ⟨u1,hu1⟩:∃ z,z=(vL aa ((aGl h q (os.take i))++[(y.o.id,0)]).length ab):=⟨_,rfl⟩;rw [←hu1] at hM;rw [aQu hy af,hu1] at hM;exact aAj _ (ad _ (by have:=gl hy;omega) (i+1) (vL aa ((aGl h q (os.take i))++[(y.o.id,0)]).length ab) _ (gl hy) hM rfl)
  exact aAj _ (ag _ 0 (vL none 0 0) _ (Gg_ _) hM rfl)
end Go.Proofs.YtngjlnhojicjeaaGreatDoor
namespace Go.Pl
open Go.RowKit
variable {ds:List Deferred}{P:Program}{ops:Array Oper}{Q:Exit->Act->World->Prop}{a:Act}{w:World}{r n:Nat}
def aLg (P:Program) (l:Nat) (args:Array Value) (W:World) (R:World->Prop):Prop :=
 ∃ m,YieldAt Fence.wide m P l args W fun e W'=>e = .returned (.bool true) /\ R W'
def aKa (P:Program) (gf:Nat) (lb:Array Value) (vs:List (Array Value)) (Kp:World->Prop):Prop :=
 ∀ (l:Nat) (J:Nat->World->Prop) (W:World),(∀ k W W',J k W->Fr nF_ W W'->J k W')->(∀ k W,J k W->Kp W) ->
  (∀ k v W,J k W->vs[k]?=some v->aLg P l v W (J (k+1)))->J 0 W ->
  Calls P gf (#[.func (.yield l) #[] #[]]++lb) W fun e W'=>(∃ v,e = .returned v) /\ J vs.length W'
end Go.Pl
namespace Go.Pl
open Go.RowKit
variable {P:Program}{Q:Exit->Act->World->Prop}{a:Act}{w:World}
def aRK (R:World->Prop):Exit->Act->World->Prop
 | .normal,_,W=>R W
 | _,_,_=>False
theorem aLj {g:Operand}{ps:Array Tmp}{assign body:Code}{gf:Nat}{lb:Array Value}{vs:List (Array Value)}{Kp:World->Prop}
  (I:Nat->World->Prop) (A:Array Value->Act->Prop)
  (hg:a.eval g = .func (.func gf) #[] lb) (eg:∀ args w,(callFunc gf args).run P w = .ok (.enter gf args) w)
  (hY:aKa P gf lb vs Kp) (hps:∀ v∈vs,v.size=ps.size)
  (hI:∀ k W W',I k W->Fr (fun b=>b=w.heap.size∨b=w.heap.size+1) W W'->I k W') (hK:∀ k W,I k W->Kp W) (h0:I 0 w)
  (hassign:∀ (l:Nat) (v:Array Value) (W:World) (K:Act->World->Prop),v∈vs->(∀ a1,A v a1->K a1 W)->assign.wpIn (FR l) 0 P (Exit.then K (fun _ _ _=>False)) { tmps:=(ps.zip v).foldl (fun t (p,v)=>t.setIfInBounds p v) a.tmps,defers:=[] } W)
  (hbody:∀ (k:Nat) (v:Array Value) (a1:Act) (W:World),vs[k]?=some v->I k W->A v a1->w.heap.size+2<=W.heap.size->(∃ r,W.heap[w.heap.size+1]?=some (.loop r)) ->
   body.wpIn (FR (w.heap.size+1)) 0 P (aRK fun W'=>I (k+1) W' /\ W'.heap[w.heap.size]?=W.heap[w.heap.size]? /\ W'.heap[w.heap.size+1]?=W.heap[w.heap.size+1]?) a1 W)
  (hdone:∀ W,I vs.length W->W.heap[w.heap.size]?=some (.deferred (some []))->Q .normal { a with defers:={ target := .collected w.heap.size,args:=#[] }::a.defers } W) :
  (Code.rangeFunc g ps assign body).wp P Q a w:=by
 refine (wpIn_wide (n:=0)).1 (wpIn_rangeFunc ?_);intro fn hfn;obtain ⟨rec,hrec⟩:∃ rec:LoopState->Option Code->Loop,rec=fun st pe=>{ state:=st,pending:=pe,fn,tmps:=a.tmps,params:=ps,assign,body,defers:=w.heap.size }:=⟨_,rfl⟩;obtain ⟨W1,hW1⟩:∃ W1,(w.alloc (.deferred (some []))).alloc (.loop (rec .ready none))=W1:=⟨_,rfl⟩
 have hL1:W1.heap[w.heap.size+1]?=some (.loop (rec .ready none)):=by
  rw [←hW1];exact aCb (by simp) _
 have hK1:W1.heap[w.heap.size]?=some (.deferred (some [])):=by
  rw [←hW1];exact (aCc (by simp) _).trans (aAi _ _)
 have hf1:Fr nF_ w W1:=by rw [←hW1];exact ((Fr.refl _ _).alloc _).alloc _
 refine ⟨w.heap.size+1,[{ target := .collected w.heap.size,args:=#[] }],W1,{ target := .fn (.func gf) lb,args:=#[.func (.yield (w.heap.size+1)) #[] #[]] },W1,gf,
  #[.func (.yield (w.heap.size+1)) #[] #[]]++lb,W1,?_,?_,fun _ _=>trivial,?_,fun h=>(by cases h),?_⟩
 ·rw [←hW1,hrec];exact run_enterLoop_outer _ _ _ _ _
 ·simp only [resolve,hg];simp [go_sem]
 ·simp [invoke,go_sem,eg]
 ·refine callsIn_wide.2 ((hY (w.heap.size+1) (fun k W=>I k W /\ W.heap[w.heap.size+1]?=some (.loop (rec .ready none)) /\ W.heap[w.heap.size]?=some (.deferred (some []))) W1
   (fun k W W' h f=>⟨hI k W W' h.1 (f.mono fun _ _ h=>h.elim),f.obj h.2.1 id,f.obj h.2.2 id⟩) (fun k W h=>hK k W h.1) ?_ ⟨hI _ _ _ h0 (hf1.mono fun _ _ h=>h.elim),hL1,hK1⟩).mono ?_)
  ·rintro k v W ⟨hi,hl,hk⟩ hv;have hvm:v∈vs:=Ge_ hv;have hlt:=aAf hl;have hy:=run_yield (P:=P) (args:=v) hl (by rw [hrec];exact hps v hvm);rw [hrec] at hy;refine ⟨0,fn,_,assign,body,hy,roundIn_of_wpIn hfn (hassign _ v W _ hvm ?_)⟩;clear hy;intro a1 hA;refine ⟨_,run_beginRound hl (by rw [hrec]),?_⟩;have f2:=Fr.putObj W (w.heap.size+1) (.loop { rec .ready none with state := .busy });have hl2:(W.putObj (w.heap.size+1) (.loop { rec .ready none with state := .busy })).heap[w.heap.size+1]?=some (.loop { rec .ready none with state := .busy }):=World.putObj_heap_same hlt;have hk2:=f2.obj hk (by omega);have hs2:w.heap.size+2<=(W.putObj (w.heap.size+1) (.loop { rec .ready none with state := .busy })).heap.size:=by simp;omega
   refine wpIn_mono (hbody k v a1 _ hv (hI _ _ _ hi (f2.mono fun _ _ h => .inr h)) hA hs2 ⟨_,hl2⟩) ?_;rintro e a3 W3 hp
   cases e with
   | normal =>
    obtain ⟨hi3,h3,h4⟩:=hp;rw [hl2] at h4;rw [hk2] at h3;have hr:=run_endRound (P:=P) none h4;refine ⟨_,_,hr,rfl,hI _ _ _ hi3 ((Fr.putObj _ _ _).mono fun _ _ h => .inr h),?_,(World.putObj_heap_other (by omega)).trans h3⟩;refine (World.putObj_heap_same (aAf h4)).trans ?_;rw [hrec];rfl
   | ret=>exact hp.elim
   | exit id=>exact hp.elim
   | goto t=>exact hp.elim
   | panic ch=>exact hp.elim
   | outgrown=>exact hp.elim
  ·rintro e W2 ⟨⟨v,rfl⟩,hi,hl,hk⟩;refine ⟨none,_,by have:=run_endLoop (P:=P) hl (by rw [hrec];simp);rw [hrec] at this;exact this,hdone _ (hI _ _ _ hi ((Fr.putObj _ _ _).mono fun _ _ h => .inr h)) ((World.putObj_heap_other (by omega)).trans hk)⟩
theorem aLk {r:Nat}{rr:Loop}{g:Operand}{ps:Array Tmp}{assign body:Code}{gf:Nat}{lb:Array Value}{vs:List (Array Value)}{Kp:World->Prop}
  (hr0:w.heap[r]?=some (.loop rr)) (I:Nat->World->Prop) (A:Array Value->Act->Prop)
  (hg:a.eval g = .func (.func gf) #[] lb) (eg:∀ args w,(callFunc gf args).run P w = .ok (.enter gf args) w)
  (hY:aKa P gf lb vs Kp) (hps:∀ v∈vs,v.size=ps.size)
  (hI:∀ k W W',I k W->Fr (fun b=>b=w.heap.size) W W'->I k W') (hK:∀ k W,I k W->Kp W) (h0:I 0 w)
  (hassign:∀ (l:Nat) (v:Array Value) (W:World) (K:Act->World->Prop),v∈vs->(∀ a1,A v a1->K a1 W)->assign.wpIn (FR l) 0 P (Exit.then K (fun _ _ _=>False)) { tmps:=(ps.zip v).foldl (fun t (p,v)=>t.setIfInBounds p v) a.tmps,defers:=[] } W)
  (hbody:∀ (k:Nat) (v:Array Value) (a1:Act) (W:World),vs[k]?=some v->I k W->A v a1->w.heap.size+1<=W.heap.size ->
   body.wpIn (FR w.heap.size) 0 P (aRK fun W'=>I (k+1) W' /\ W'.heap[w.heap.size]?=W.heap[w.heap.size]?) a1 W)
  (hdone:∀ W,I vs.length W->Q .normal a W) :
  (Code.rangeFunc g ps assign body).wpIn (FR r) 0 P Q a w:=by
 refine wpIn_rangeFunc ?_;intro fn hfn;obtain ⟨rec,hrec⟩:∃ rec:LoopState->Option Code->Loop,rec=fun st pe=>{ state:=st,pending:=pe,fn,tmps:=a.tmps,params:=ps,assign,body,defers:=rr.defers }:=⟨_,rfl⟩;obtain ⟨W1,hW1⟩:∃ W1,w.alloc (.loop (rec .ready none))=W1:=⟨_,rfl⟩
 have hL1:W1.heap[w.heap.size]?=some (.loop (rec .ready none)):=by
  rw [←hW1];exact aAi _ _
 have hf1:Fr nF_ w W1:=by rw [←hW1];exact (Fr.refl _ _).alloc _
 refine ⟨w.heap.size,[],W1,{ target := .fn (.func gf) lb,args:=#[.func (.yield w.heap.size) #[] #[]] },W1,gf,
  #[.func (.yield w.heap.size) #[] #[]]++lb,W1,?_,?_,fun _ _=>trivial,?_,fun h=>(by cases h),?_⟩
 ·rw [←hW1,hrec];exact run_enterLoop_inner hr0 _ _ _ _ _
 ·simp only [resolve,hg];simp [go_sem]
 ·simp [invoke,go_sem,eg]
 ·refine aE5 ((hY w.heap.size (fun k W=>I k W /\ W.heap[w.heap.size]?=some (.loop (rec .ready none))) W1
   (fun k W W' h f=>⟨hI k W W' h.1 (f.mono fun _ _ h=>h.elim),f.obj h.2 id⟩) (fun k W h=>hK k W h.1) ?_ ⟨hI _ _ _ h0 (hf1.mono fun _ _ h=>h.elim),hL1⟩).mono ?_)
  ·rintro k v W ⟨hi,hl⟩ hv;have hvm:v∈vs:=Ge_ hv;have hlt:=aAf hl;have hy:=run_yield (P:=P) (args:=v) hl (by rw [hrec];exact hps v hvm);rw [hrec] at hy;refine ⟨0,fn,_,assign,body,hy,roundIn_of_wpIn (F:=Fence.wide) trivial (hassign _ v W _ hvm ?_)⟩;clear hy;intro a1 hA;refine ⟨_,run_beginRound hl (by rw [hrec]),?_⟩;have f2:=Fr.putObj W w.heap.size (.loop { rec .ready none with state := .busy });have hl2:(W.putObj w.heap.size (.loop { rec .ready none with state := .busy })).heap[w.heap.size]?=some (.loop { rec .ready none with state := .busy }):=World.putObj_heap_same hlt;have hs2:w.heap.size+1<=(W.putObj w.heap.size (.loop { rec .ready none with state := .busy })).heap.size:=by simp;omega
   refine wpIn_mono (hbody k v a1 _ hv (hI _ _ _ hi f2) hA hs2) ?_;rintro e a3 W3 hp
   cases e with
   | normal =>
    obtain ⟨hi3,h4⟩:=hp;rw [hl2] at h4;have hr:=run_endRound (P:=P) none h4;refine ⟨_,_,hr,rfl,hI _ _ _ hi3 (Fr.putObj _ _ _),?_⟩;refine (World.putObj_heap_same (aAf h4)).trans ?_;rw [hrec];rfl
   | ret=>exact hp.elim
   | exit id=>exact hp.elim
   | goto t=>exact hp.elim
   | panic ch=>exact hp.elim
   | outgrown=>exact hp.elim
  ·rintro e W2 ⟨⟨v,rfl⟩,hi,hl⟩;refine ⟨none,_,by have:=run_endLoop (P:=P) hl (by rw [hrec];simp);rw [hrec] at this;exact this,?_⟩;exact hdone _ (hI _ _ _ hi (Fr.putObj _ _ _))
section
variable {O:Array Oper}{rest:List Oper}{o:Oper}{n d m:Nat}{L:List (Nat×Value)}{v:Value}{w':World}{ds:List Deferred}
theorem aJI {l:Nat}{x y:Operand}{ts:Array TypeId}{v:Value}{R:World->Prop}(E:EnvD ds n L a) (hd:o.dst=some d) (hn:d<n) (hf:(L.map (·.1)).contains d=false) (hw:Region.wanted o (yielded O a.tmps)=true) (ho:o.op = .call ⟨.value y,#[x],ts⟩) (hy:a.eval y = .func (.yield l) #[] #[]) (hx:a.eval x=v) (hR:aLg P l #[v] w R)
  (k:∀ a' w',R w'->EnvD ds n ((d,.bool true)::L) a'->wpListIn Fence.wide m P O Q rest a' w'):wpListIn Fence.wide m P O Q (o::rest) a w:=by
 obtain ⟨m',fn,tmps,as9,bd,hrun,hF,hround⟩:=hR;simp only [wpListIn,hw,if_true];refine ⟨fun _ _=>trivial,?_⟩;show Oper.uponIn _ _ _ _ _ _ _ ((execOp a.eval o).run P w);rw [aLv ho hy hx hrun];refine ⟨fun h=>(by cases h),trivial,fun c cs _=>?_⟩;obtain ⟨e2,w2,⟨h1,h2⟩,h3⟩:=hround c cs (room_wide _);subst h1;refine ⟨.returned (.bool true),w2,?_,h3⟩;show wpListIn Fence.wide m P O Q rest (a.put o.dst _) w2;rw [hd];exact k _ _ h2 (E.put hn hf)
end
end Go.Pl
namespace Go.Proofs.YtngjlnhojicjeaaGreatDoor
open Go.RowKit Go.Pl
section
variable {o:Oper}{w:World}{ρ:Operand->Value}{x y z u:Operand}{g off N cap i j:Nat}{p:Option Addr}
theorem aME (ho:o.op = .slice 159 x (some y) none none) (hx:ρ x = .slice (some ⟨g,off,none⟩) N cap) (hy:ρ y = .int .i64 (i:Int)) (hi:i<N) (hc:N<=cap):(execOp ρ o).run Tryz.prog w = .ok (.value (.slice (some ⟨g,off+i,none⟩) (N-i) (cap-i))) w:=by
 have h1:(i:Int)<=N:=by omega
 have h2:(N:Int)<=cap:=by omega
 have h3:cap≠i:=by omega
 simp [execOp,ho,hx,hy,go_sem,h1,h2,h3,Addr.add]
theorem aMD {a b c:Int}(ho:o.op = .slice 159 x (some y) (some z) (some u)) (hx:ρ x = .slice (some ⟨g,off,none⟩) N cap) (hy:ρ y = .int .i64 a) (hz:ρ z = .int .i64 b) (hu:ρ u = .int .i64 c) (ea:a=(i:Int)) (eb:b=(j:Int)) (ec:c=(j:Int)) (hi:i<j) (hc:j<=cap):(execOp ρ o).run Tryz.prog w = .ok (.value (.slice (some ⟨g,off+i,none⟩) (j-i) (j-i))) w:=by
 subst ea eb ec;have h1:(i:Int)<=j:=by omega
 have h2:(j:Int)<=cap:=by omega
 have h3:j≠i:=by omega
 simp [execOp,ho,hx,hy,hz,hu,go_sem,h1,h2,h3,Addr.add]
end
def chV (g off N n k:Nat):Value := .slice (some ⟨g,off+k*n,none⟩) (min n (N-k*n)) (min n (N-k*n))
def chs (g off N n:Nat):List (Array Value):=(List.range ((N+n-1) / n)).map fun k=>#[chV g off N n k]
theorem aIC {N n k:Nat}(hn:1<=n):k<(N+n-1) / n↔k*n<N:=by
 rw [Nat.lt_div_iff_mul_lt (by omega)];omega
theorem aRf {g off N n k:Nat}(hn:1<=n) (h:k*n<N):(chs g off N n)[k]?=some #[chV g off N n k]:=by
 unfold chs;rw [Gr_,List.getElem?_range ((aIC hn).2 h)];rfl
theorem aS3 {g off N n k:Nat}(hn:1<=n) (hk:k<=(N+n-1) / n) (h:¬ k*n<N):k=(chs g off N n).length:=by
 unfold chs;rw [Gp_,List.length_range];rw [←aIC hn] at h;omega
theorem aH4 {g off N n:Nat}(hn:1<=n) {v:Array Value}(h:v∈chs g off N n):∃ k,k*n<N /\ v=#[chV g off N n k]:=by
 unfold chs at h;obtain ⟨k,hk,rfl⟩:=List.mem_map.1 h;exact ⟨k,(aIC hn).1 (List.mem_range.1 hk),rfl⟩
theorem aRe {g off N n k:Nat}(hn:1<=n) {v:Array Value}(h:(chs g off N n)[k]?=some v):k*n<N /\ v=#[chV g off N n k]:=by
 have hk:=(List.getElem?_eq_some_iff.1 h).1;unfold chs at hk;rw [Gp_,List.length_range] at hk;have h2:=(aIC hn).1 hk;rw [aRf hn h2] at h;exact ⟨h2,(Gi_ h).symm⟩
set_option maxRecDepth 100000 in
set_option maxHeartbeats 4000000 in
theorem aE4 {g off N cap n c1 c2:Nat}(hn:1<=n) (hcap:N<=cap) (hN:N<=10000000) (hn2:n<=10000000):aKa Tryz.prog 235 #[.pointer (some ⟨c1,0,none⟩),.pointer (some ⟨c2,0,none⟩)] (chs g off N n) (fun W=>W.heap[c1]?=some (.cells #[.slice (some ⟨g,off,none⟩) N cap] 159 (0,0)) /\ W.heap[c2]?=some (.cells #[.int .i64 (n:Int)] 3 (0,0))):=by
 intro l J w hJF hKp hround hJ;obtain ⟨hc1,hc2⟩:=hKp _ _ hJ;refine aDt Tryz.func235 rfl rfl (n:=31) (by decide) fun a E=>s_ (r_ (ep (v := .int .i64 0) E rfl (a_ rfl rfl) fun a E=>n_ (t_ (bk_ (wp_loop (fun a w2=>∃ (k:Nat),Env 31 [(0,.func (.yield l) #[] #[]),(1,.pointer (some ⟨c1,0,none⟩)),(2,.pointer (some ⟨c2,0,none⟩)),(4,.int .i64 ((k*n:Nat):Int))] a /\ k<=(N+n-1) / n /\ J k w2 /\ w2.heap[c1]?=some (.cells #[.slice (some ⟨g,off,none⟩) N cap] 159 (0,0)) /\ w2.heap[c2]?=some (.cells #[.int .i64 (n:Int)] 3 (0,0))) (fun a _=>N-(intOf (a.eval (.tmp 4))).toNat) ?_ ?_)))))
 ·exact ⟨0,E.of ⟨E.g1,E.g2,E.g3,by rw [Nat.zero_mul];exact E.g0,trivial⟩,Gg_ _,hJ,hc1,hc2⟩
 clear E;rintro a w2 ⟨k,E,hk,hJ,hc1,hc2⟩;have hmu:N-(intOf (a.eval (.tmp 4))).toNat=N-k*n:=by rw [E.g3];first | (simp [intOf];done) | (simp only [intOf];omega)
 rw [hmu];clear hmu;refine s_ (s_ (r_ (ep E rfl (m_ rfl E.g3) fun a E=>ep (v := .slice (some ⟨g,off,none⟩) N cap) E rfl (aBf rfl E.g2 (bx hc1 0 rfl)) fun a E=>ep (v := .int .i64 (N:Int)) E rfl (aB4 rfl E.g0) fun a E=>ep (v := .bool (decide (((k*n:Nat):Int)<(N:Int)))) E rfl (aBs E.g2 E.g0 u3_ rfl) fun a E=>n_ (t_ ?_))));cases hq32:(decide (((k*n:Nat):Int)<(N:Int)))
 ·rw [hq32] at E;have hge:¬ k*n<N:=by have:=of_decide_eq_false hq32;omega
  refine c_f E.g0 (x_ (te_ (te_ (be_ ((aCi rfl E ⟨⟨_,rfl⟩,?_⟩).1)))));rw [←aS3 (g:=g) (off:=off) hn hk hge];exact hJ
 rw [hq32] at E;have hlt:k*n<N:=by have:=of_decide_eq_true hq32;omega
 refine c_t E.g0 (k_ (t_ (s_ (bk_ (s_ (aBH (n:=31) (base:=[(9,.bool true),(8,.int .i64 (N:Int)),(7,.slice (some ⟨g,off,none⟩) N cap),(6,.int .i64 ((k*n:Nat):Int)),(0,.func (.yield l) #[] #[]),(1,.pointer (some ⟨c1,0,none⟩)),(2,.pointer (some ⟨c2,0,none⟩)),(4,.int .i64 ((k*n:Nat):Int))]) (T:=[some (13,.int .i64 (n:Int)),some (14,.slice (some ⟨g,off,none⟩) N cap),some (15,.int .i64 ((k*n:Nat):Int)),some (16,.slice (some ⟨g,off+k*n,none⟩) (N-k*n) (cap-k*n)),some (17,.int .i64 (((N-k*n):Nat):Int)),some (18,.int .i64 (min (n:Int) (((N-k*n):Nat):Int))),some (5,.int .i64 (min (n:Int) (((N-k*n):Nat):Int)))]) (M:=fun _ wm=>Fr nF_ w2 wm) (by kernel_rfl) (by kernel_rfl) (by kernel_rfl) (E.of ⟨E.g0,E.g1,E.g2,E.g3,E.g4,E.g5,E.g6,E.g7,trivial⟩) (Fr.refl _ _).drew ?_ ?_))))))
 ·intro j9 o9 t9 ls9 a w5 ho hT0 hl E D DL hM;have hJ:=hJF _ _ _ hJ hM;have hc1:=hM.obj hc1 id;have hc2:=hM.obj hc2 id
  match j9,ho,hT0,hl,D,DL with
  | 0,ho,hT0,hl,D,DL=>exact y9_ ho hT0 (aAe (aAo rfl E.g6 (bx hc2 0 rfl)) rfl hM)
  | 1,ho,hT0,hl,D,DL=>exact y9_ ho hT0 (aAe (aBf rfl E.g5 (bx hc1 0 rfl)) rfl hM)
  | 2,ho,hT0,hl,D,DL=>exact y9_ ho hT0 (aAe (m_ rfl E.g7) rfl hM)
  | 3,ho,hT0,hl,D,DL=>exact y9_ ho hT0 (aAe (aME (i:=k*n) rfl (D 1 _ rfl rfl) (D 2 _ rfl rfl) hlt hcap) rfl hM)
  | 4,ho,hT0,hl,D,DL=>exact y9_ ho hT0 (aAe (aB4 rfl (D 3 _ rfl rfl)) rfl hM)
  | 5,ho,hT0,hl,D,DL=>exact y9_ ho hT0 (aAe (aJj rfl (D 0 _ rfl rfl) (D 4 _ rfl rfl)) rfl hM)
  | 6,ho,hT0,hl,D,DL=>exact y9_ ho hT0 (aAe (a_ rfl (D 5 _ rfl rfl)) rfl hM)
  | j9+7,ho,hT0,hl,D,DL=>exact absurd hT0 (by simp)
 ·intro a w5 E V hM;have E:=E.add (V 6 _ rfl);clear V;have hJ:=hJF _ _ _ hJ hM;have hc1:=hM.obj hc1 id;have hc2:=hM.obj hc2 id;clear hM;refine t_ (s_ ?_);rw [show (min (n:Int) (((N-k*n):Nat):Int))=((min n (N-k*n):Nat):Int) by omega] at E;have hb4:k*n+min n (N-k*n)<=N:=by omega
  refine aJJ (aBK (d:=19) (v := .func (.yield l) #[] #[]) E rfl (by decide) rfl (aAb rfl _) (m_ rfl E.g5) fun a E=>aBK (d:=20) (v := .slice (some ⟨g,off,none⟩) N cap) E rfl (by decide) rfl (aAb rfl _) (aBf rfl E.g7 (bx hc1 0 rfl)) fun a E=>aBK (d:=21) (v := .int .i64 ((k*n:Nat):Int)) E rfl (by decide) rfl (aAb rfl _) (m_ rfl E.g10) fun a E=>aBK (d:=22) (v := .int .i64 ((k*n:Nat):Int)) E rfl (by decide) rfl (aAb rfl _) (m_ rfl E.g11) fun a E=>aBK (d:=23) (v := .int .i64 ((min n (N-k*n):Nat):Int)) E rfl (by decide) rfl (aAb rfl _) (m_ rfl E.g4) fun a E=>aBK (d:=24) (v := .int .i64 (((k*n:Nat):Int)+((min n (N-k*n):Nat):Int))) E rfl (by decide) rfl (aAb rfl _) (aAS u3_ E.g1 E.g0 (by omega) (by omega) rfl) fun a E=>aBK (d:=25) (v := .int .i64 ((k*n:Nat):Int)) E rfl (by decide) rfl (aAb rfl _) (m_ rfl (E.get 14 rfl)) fun a E=>aBK (d:=26) (v := .int .i64 ((min n (N-k*n):Nat):Int)) E rfl (by decide) rfl (aAb rfl _) (m_ rfl E.g7) fun a E=>aBK (d:=27) (v := .int .i64 (((k*n:Nat):Int)+((min n (N-k*n):Nat):Int))) E rfl (by decide) rfl (aAb rfl _) (aAS u3_ E.g1 E.g0 (by omega) (by omega) rfl) fun a E=>?_);have hj:k*n+(min n (N-k*n))-k*n=min n (N-k*n):=by omega
  refine aBK (d:=28) (v:=chV g off N n k) E rfl (by decide) rfl (aAb rfl _) ((aMD (i:=k*n) (j:=k*n+(min n (N-k*n))) rfl E.g7 E.g6 E.g3 E.g0 rfl (by omega) (by omega) (by omega) (by omega)).trans (by rw [hj];rfl)) fun a E=>aJI (d:=29) E rfl (by decide) rfl (aAb rfl _) rfl E.g9 E.g0 (hround k _ _ hJ (aRf hn hlt)) fun a w1 hJ E=>?_;obtain ⟨hc1,hc2⟩:=hKp _ _ hJ;refine aBK (d:=30) (v := .bool false) E rfl (by decide) rfl (aAb rfl _) (aBP rfl E.g0) fun a E=>aQf (t_ (c_f E.g0 (k_ (b_ (t_ (r_ (ep (v := .int .i64 ((k*n:Nat):Int)) E rfl (m_ rfl (E.get 20 rfl)) fun a E=>ep (v := .int .i64 (n:Int)) E rfl (aAo rfl (E.get 20 rfl) (bx hc2 0 rfl)) fun a E=>ep (v := .int .i64 (((k*n:Nat):Int)+(n:Int))) E rfl (aAS u3_ E.g1 E.g0 (by omega) (by omega) rfl) fun a E=>es_ E rfl (a_ rfl E.g0) fun a E=>n_ (t_ ?_))))))));rw [show (((k*n:Nat):Int)+(n:Int))=(((k+1)*n:Nat):Int) by rw [Nat.succ_mul];omega] at E;refine ⟨⟨k+1,E.of ⟨E.get 21 rfl,E.get 22 rfl,E.get 23 rfl,E.g0,trivial⟩,(aIC hn).2 hlt,hJ,hc1,hc2⟩,?_⟩;rw [E.g0];simp only [intOf];have:(k+1)*n=k*n+n:=(by rw [Nat.add_mul,Nat.one_mul]);omega
end Go.Proofs.YtngjlnhojicjeaaGreatDoor
namespace Go.Proofs
open Go.Shelf
def Tryz.sortN_ren:Go.Shelf.Ren:=⟨fun | 6=>194 | 15=>152 | 14=>233 | 28=>210 | 29=>211 | 20=>259 | 21=>260 | 22=>261 | 23=>262 | 24=>263 | 25=>264 | 26=>265 | 27=>266 | 46=>277 | 47=>237 | 48=>238 | 49=>278 | 50=>279 | 57=>291 | n=>n,fun | 22=>159 | 24=>157 | 25=>286 | 3=>3 | 39=>139 | 0=>0 | 53=>301 | 55=>164 | 4=>4 | 46=>294 | 45=>293 | 50=>77 | 5=>5 | 9=>9 | 66=>334 | 70=>338 | 76=>375 | 77=>376 | n=>n,fun | n=>n⟩
theorem Tryz.sortN:Go.Proofs.SlLaysF.n6 Tryz.prog Tryz.sortN_ren:={
  mixed:=by kernel_rfl
  f6:=⟨Tryz.f194.name,by decide,Tryz.func194.trans (congrArg some (by kernel_rfl))⟩
  f14:=⟨Tryz.f233.name,by decide,Tryz.func233.trans (congrArg some (by kernel_rfl))⟩
  f15:=Tryz.func152.trans (congrArg some (by kernel_rfl))
  f20:=⟨Tryz.f259.name,by decide,Tryz.func259.trans (congrArg some (by kernel_rfl))⟩
  f21:=⟨Tryz.f260.name,by decide,Tryz.func260.trans (congrArg some (by kernel_rfl))⟩
  f22:=⟨Tryz.f261.name,by decide,Tryz.func261.trans (congrArg some (by kernel_rfl))⟩
  f23:=⟨Tryz.f262.name,by decide,Tryz.func262.trans (congrArg some (by kernel_rfl))⟩
  f24:=⟨Tryz.f263.name,by decide,Tryz.func263.trans (congrArg some (by kernel_rfl))⟩
  f25:=⟨Tryz.f264.name,by decide,Tryz.func264.trans (congrArg some (by kernel_rfl))⟩
  f26:=⟨Tryz.f265.name,by decide,Tryz.func265.trans (congrArg some (by kernel_rfl))⟩
  f27:=⟨Tryz.f266.name,by decide,Tryz.func266.trans (congrArg some (by kernel_rfl))⟩
  f28:=Tryz.func210.trans (congrArg some (by kernel_rfl))
  f29:=Tryz.func211.trans (congrArg some (by kernel_rfl))
  f46:=⟨Tryz.f277.name,by decide,Tryz.func277.trans (congrArg some (by kernel_rfl))⟩
  f47:=Tryz.func237.trans (congrArg some (by kernel_rfl))
  f48:=Tryz.func238.trans (congrArg some (by kernel_rfl))
  f49:=⟨Tryz.f278.name,by decide,Tryz.func278.trans (congrArg some (by kernel_rfl))⟩
  f50:=⟨Tryz.f279.name,by decide,Tryz.func279.trans (congrArg some (by kernel_rfl))⟩
  f57:=⟨Tryz.f291.name,by decide,Tryz.func291.trans (congrArg some (by kernel_rfl))⟩
  t0:=Tryz.underlying0
  a0:=Tryz.isAgg0
  z0:=Tryz.sizeOf0
  v0:=Tryz.zeroValue0
  t3:=Tryz.underlying3
  a3:=Tryz.isAgg3
  z3:=Tryz.sizeOf3
  v3:=Tryz.zeroValue3
  t4:=Tryz.underlying4
  a4:=Tryz.isAgg4
  z4:=Tryz.sizeOf4
  v4:=Tryz.zeroValue4
  t5:=Tryz.underlying5
  a5:=Tryz.isAgg5
  z5:=Tryz.sizeOf5
  v5:=Tryz.zeroValue5
  t9:=Tryz.underlying9
  a9:=Tryz.isAgg9
  z9:=Tryz.sizeOf9
  v9:=Tryz.zeroValue9
  t22:=Tryz.underlying159
  a22:=Tryz.isAgg159
  z22:=Tryz.sizeOf159
  v22:=Tryz.zeroValue159
  a24:=Tryz.isAgg157
  z24:=Tryz.sizeOf157
  t25:=Tryz.underlying286
  a25:=Tryz.isAgg286
  z25:=Tryz.sizeOf286
  v25:=Tryz.zeroValue286
  t39:=Tryz.underlying139
  a39:=Tryz.isAgg139
  z39:=Tryz.sizeOf139
  v39:=Tryz.zeroValue139
  t45:=Tryz.underlying293
  a45:=Tryz.isAgg293
  z45:=Tryz.sizeOf293
  v45:=Tryz.zeroValue293
  t46:=Tryz.underlying294
  a46:=Tryz.isAgg294
  z46:=Tryz.sizeOf294
  v46:=Tryz.zeroValue294
  t50:=Tryz.underlying77
  a50:=Tryz.isAgg77
  z50:=Tryz.sizeOf77
  v50:=Tryz.zeroValue77
  t53:=Tryz.underlying301
  a53:=Tryz.isAgg301
  z53:=Tryz.sizeOf301
  v53:=Tryz.zeroValue301
  t55:=Tryz.underlying164
  a55:=Tryz.isAgg164
  z55:=Tryz.sizeOf164
  v55:=Tryz.zeroValue164
  t66:=Tryz.underlying334
  a66:=Tryz.isAgg334
  z66:=Tryz.sizeOf334
  v66:=Tryz.zeroValue334
  t70:=Tryz.underlying338
  a70:=Tryz.isAgg338
  z70:=Tryz.sizeOf338
  v70:=Tryz.zeroValue338
  t76:=Tryz.underlying375
  a76:=Tryz.isAgg375
  z76:=Tryz.sizeOf375
  v76:=Tryz.zeroValue375
  t77:=Tryz.underlying376
  a77:=Tryz.isAgg376
  z77:=Tryz.sizeOf376
  v77:=Tryz.zeroValue376 }
end Go.Proofs
namespace Go.Proofs.YtngjlnhojicjeaaGreatDoor
open Go.RowKit Go.Pl Go.Sort Go.Shelf
abbrev Nd:=Nat×Bx×List En
abbrev ndV (c:Nd):Value := .pointer (some ⟨c.1,0,none⟩)
abbrev aRZ (c:Nd):List Value:=[ndV c]
theorem aEG:∀ c,(aRZ c).length=1:=fun _=>rfl
abbrev oNd (w:World) (B:Nat) (v:Value) (L:List Nd):Prop:=ow aRZ 1 157 w B v L
def aDk (w:World) (S:Nat->Prop) (h:Nat) (C:List Nd):Prop:=∀ c∈C,aHH w S h c.1 c.2.1 c.2.2
theorem aDk.fr {w w':World}{S F:Nat->Prop}{h:Nat}{C:List Nd}(hN:aDk w S h C) (hf:Fr F w w') (hS:∀ k,S k->¬ F k):aDk w' S h C:=fun c hc=>(hN c hc).fr hf hS
theorem aDk.mono {w:World}{S S':Nat->Prop}{h:Nat}{C:List Nd}(hN:aDk w S h C) (hS:∀ k,S k->S' k):aDk w S' h C:=fun c hc=>(hN c hc).mono hS
theorem aDk.perm {w:World}{S:Nat->Prop}{h:Nat}{C D:List Nd}(hN:aDk w S h C) (hp:D.Perm C):aDk w S h D:=fun c hc=>hN c (hp.mem_iff.1 hc)
theorem aDk.sub {w:World}{S:Nat->Prop}{h:Nat}{C D:List Nd}(hN:aDk w S h C) (hp:∀ c∈D,c∈C):aDk w S h D:=fun c hc=>hN c (hp c hc)
theorem aHH.nb {w:World}{S:Nat->Prop}:∀ {n p b L},aHH w S n p b L->nb w p b:=by
 intro n
 cases n with
 | zero =>
  rintro p b L ⟨_,id,h,_⟩ j u hu;rw [aAk h,Nat.zero_add]
  match j,hu with
  | 0,hu=>exact hu
  | 1,hu=>exact hu
  | 2,hu=>exact hu
  | 3,hu=>exact hu
  | j+4,hu=>simp at hu
 | succ n =>
  rintro p b L ⟨_,g,off,cap,C,h,_⟩ j u hu;rw [aAk h,Nat.zero_add]
  match j,hu with
  | 0,hu=>exact hu
  | 1,hu=>exact hu
  | 2,hu=>exact hu
  | 3,hu=>exact hu
  | j+4,hu=>simp at hu
def aGh (cur:Array Value) (m:Nat) (L:List Nd):Prop:=∀ (j:Nat) c,L[j]?=some c->cur[m+j]?=some (ndV c)
section
variable {α:Type}[Inhabited α]
theorem aMy (enc:α->Value) {w:World}{g:Nat}{cur:Array Value}{T:TypeId}(hb:w.heap[g]?=some (.cells cur T (0,0))) (off m:Nat) (dk:Array α) (os:Array Obj) :
  (sortWorld enc w g off m dk os).heap[g]?=some (.cells (putCells enc off dk cur) T (0,0)) /\ Fr (fun k=>k=g) w (sortWorld enc w g off m dk os):=by
 have hlt:=aAf hb
 have hsize:(mapBlock (Sort.ahead w m) g (putCells enc off dk)).heap.size=w.heap.size:=by
  unfold mapBlock Sort.ahead;simp
 constructor
 ·unfold sortWorld putRow grow;simp only;rw [Array.getElem?_append_left (by rw [hsize];exact hlt)];unfold mapBlock;simp only [Array.getElem?_modify,if_true];show Option.map _ w.heap[g]?=_;rw [hb];rfl
 ·unfold sortWorld putRow grow;refine ⟨rfl,rfl,rfl,?_,fun r hr hne=>?_⟩
  ·simp only [Array.size_append];rw [hsize];omega
  ·simp only;rw [Array.getElem?_append_left (by rw [hsize];exact hr)];unfold mapBlock;simp only [Array.getElem?_modify];rw [if_neg (fun e=>hne e.symm)];rfl
end
theorem aRS (x y:Int):orI x y<0↔x<0∨(x=0 /\ y<0):=by unfold orI;split<;>omega
theorem aIB (x y:Int):aCe x y<0↔x<y:=by unfold aCe;split<;>(try split)<;>omega
theorem aOj (x y:Int):aCe x y=0↔x=y:=by unfold aCe;split<;>(try split)<;>omega
theorem aOr (x y:Bx):cfB x y<0↔x.1.2+x.2.2<y.1.2+y.2.2:=aIB _ _
theorem aS4 (x y:Bx):cfA x y<0↔x.1.1+x.2.1<y.1.1+y.2.1∨x.1.1+x.2.1=y.1.1+y.2.1 /\ x.1.2+x.2.2<y.1.2+y.2.2:=by
 unfold cfA;rw [aRS,aIB,aOj,aOr]
theorem aWS {α:Type}(k:α->Bx):SWO (ltOf fun x y=>cfA (k x) (k y)) :=
 aQ3 (fun x=>(k x).1.1+(k x).2.1) (fun x=>(k x).1.2+(k x).2.2) fun x y=>by unfold ltOf;rw [decide_eq_true_iff,aS4]
theorem aWR {α:Type}(k:α->Bx):SWO (ltOf fun x y=>cfB (k x) (k y)) :=
 aQ3 (fun x=>(k x).1.2+(k x).2.2) (fun _=>0) fun x y=>by unfold ltOf;rw [decide_eq_true_iff,aOr];omega
def aU7 (w:World) (g off:Nat) (cur:Array Value) (D:List Nd) (e:Ending) (w':World):Prop :=
 e = .returned (.tuple #[]) /\ ∃ D' cur',D'.Perm D /\ w'.heap[g]?=some (.cells cur' 157 (0,0)) /\ cur'.size=cur.size /\ aGh cur' off D' /\ (∀ i,i<off∨off+D.length<=i->cur'[i]?=cur[i]?) /\ Fr (fun k=>k=g) w w'
theorem aF6 {F:Nat}(cf:Bx->Bx->Int) (eg:∀ args w,(callFunc F args).run Tryz.prog w = .ok (.enter F args) w) (hO:∀ (α:Type) (k:α->Bx),SWO (ltOf fun x y=>cf (k x) (k y)))
  (hcmp:∀ {p q:Nat}{x y:Bx}{w:World},nb w p x->nb w q y->okB x->okB y->Calls Tryz.prog F #[.pointer (some ⟨p,0,none⟩),.pointer (some ⟨q,0,none⟩)] w fun e w'=>e = .returned (.int .i64 (cf x y)) /\ Gw w w')
  {w:World}{g off cap:Nat}{cur:Array Value}{D:List Nd}(hne:D≠[]) (hb:w.heap[g]?=some (.cells cur 157 (0,0))) (hd:aGh cur off D) (hD:∀ c∈D,nb w c.1 c.2.1 /\ okB c.2.1 /\ c.1≠g) (hl:D.length<=10000000) :
  Calls Tryz.prog 194 #[.slice (some ⟨g,off,none⟩) D.length cap,.func (.func F) #[] #[]] w (aU7 w g off cur D):=by
 let α:={ c:Nd // nb w c.1 c.2.1 /\ okB c.2.1 /\ c.1≠g }
 have i0:Inhabited α:=⟨⟨D.head hne,hD _ (List.head_mem hne)⟩⟩
 let d:List α:=D.attach.map fun x=>⟨x.1,hD x.1 x.2⟩
 have hdl:d.length=D.length:=by simp [d]
 have hdm:d.map (·.1)=D:=by simp [d,List.map_attach_eq_pmap,List.map_pmap]
 have hget:∀ j,j<D.length->D[j]?=some (d.toArray[j]!).1:=by
  intro j hj;rw [←hdm,Gr_];have h1:j<d.length:=by omega
  rw [Gb_ h1,getElem!_pos d.toArray j (by simpa using h1)];simp
 have hsz:d.toArray.size=D.length:=by simpa using hdl
 have:=Any.slices_SortFunc Tryz.sortN (fun c:α=>ndV c.1) (fun _=>rfl) (fun x y=>cf x.1.2.1 y.1.2.1) (hO α fun x=>x.1.2.1) F #[] g off cap d.toArray w eg
  (fun m os dk hs x y=>by
   have hf:=(aMy (fun c:α=>ndV c.1) hb off m dk os).2;exact (hcmp (x.2.1.fr hf x.2.2.2) (y.2.1.fr hf y.2.2.2) x.2.2.1 y.2.2.1).mono fun e w' h=>⟨h.1,h.2⟩)
  (fun j hj=>by
   rw [hsz] at hj;refine ⟨?_,aAm hb _⟩;rw [aAk hb,hd j _ (hget j hj)])
  (aAf hb) (by rw [hsz];omega)
 rw [hsz] at this;refine Calls.mono this ?_;rintro e w' ⟨he,d',m,os,hp,_,rfl⟩;rw [←hsz] at hp;have hp':=aP2 hp;obtain ⟨h1,h2⟩:=aMy (fun c:α=>ndV c.1) hb off m d' os;have hd's:d'.size=D.length:=hp.1.trans hsz;refine ⟨he,d'.toList.map (·.1),_,?_,h1,?_,?_,?_,h2⟩
 ·have:=hp'.map (fun x:α=>x.1);simpa [hdm] using this
 ·unfold putCells;simp
 ·intro j c hc;rw [Gr_] at hc
  have hj:j<d'.size:=by
   cases hx:d'.toList[j]? with
   | none=>rw [hx] at hc;cases hc
   | some x=>simpa using (List.getElem?_eq_some_iff.1 hx).1
  have hjD:j<D.length:=by omega
  have hin:off+j<cur.size:=by
   have:=hd j _ (hget j hjD);exact (Array.getElem?_eq_some_iff.1 this).1
  unfold putCells;rw [Array.getElem?_mapIdx,Go_ hin];simp only [Option.map_some];rw [if_pos ⟨by omega,by omega⟩,show off+j-off=j by omega,getElem!_pos d' j hj];rw [Array.getElem?_toList,Go_ hj] at hc;simp only [Option.map_some,Gl_] at hc;rw [hc]
 ·intro i hi;unfold putCells;rw [Array.getElem?_mapIdx]
  cases cur[i]? with
  | none=>rfl
  | some y =>
   simp only [Option.map_some];rw [if_neg (by omega)]
theorem aJd {w:World}{g off cap:Nat}{cur:Array Value}{D:List Nd}(hne:D≠[]) (hb:w.heap[g]?=some (.cells cur 157 (0,0))) (hd:aGh cur off D) (hD:∀ c∈D,nb w c.1 c.2.1 /\ okB c.2.1 /\ c.1≠g) (hl:D.length<=10000000) :
  Calls Tryz.prog 194 #[.slice (some ⟨g,off,none⟩) D.length cap,.func (.func 195) #[] #[]] w (aU7 w g off cur D) :=
 aF6 cfA (enters_of Tryz.func195 (by kernel_rfl) rfl) (fun _ k=>aWS k) aLX hne hb hd hD hl
theorem aJc {w:World}{g off cap:Nat}{cur:Array Value}{D:List Nd}(hne:D≠[]) (hb:w.heap[g]?=some (.cells cur 157 (0,0))) (hd:aGh cur off D) (hD:∀ c∈D,nb w c.1 c.2.1 /\ okB c.2.1 /\ c.1≠g) (hl:D.length<=10000000) :
  Calls Tryz.prog 194 #[.slice (some ⟨g,off,none⟩) D.length cap,.func (.func 198) #[] #[]] w (aU7 w g off cur D) :=
 aF6 cfB (enters_of Tryz.func198 (by kernel_rfl) rfl) (fun _ k=>aWR k) aLW hne hb hd hD hl
theorem aUd:(Tryz.prog.info? 157).map (fun i=>(i.zero,i.size,i.bytes))=some (some (.pointer none),1,8):=by kernel_rfl
section
variable {O:Array Oper}{Q:Exit->Act->World->Prop}{rest:List Oper}{o:Oper}{a:Act}{w:World}{n d:Nat}{L:List (Nat×Value)}{x y:Operand}{ds:List Deferred}{ρ:Operand->Value}
theorem aMP (ho:o.op = .buildSlice 159 0 #[]):(execOp ρ o).run Tryz.prog w = .ok (.value (.slice (some ⟨w.heap.size,0,none⟩) 0 0)) (w.alloc (.cells #[] 157)):=by
 simp [execOp,ho,go_sem]
theorem aMI {c:Nd}(ho:o.op = .buildSlice 159 1 #[(0,x)]) (hx:ρ x=ndV c):(execOp ρ o).run Tryz.prog w = .ok (.value (.slice (some ⟨w.heap.size,0,none⟩) 1 1)) (w.alloc (.cells #[ndV c] 157)):=by
 simp [execOp,ho,hx,go_sem]
theorem aGa {B G:Nat}{v:Value}{A S:List Nd}{p:Option Addr}{cap:Nat}(En:EnvD ds n L a) (hd:o.dst=some d) (hn:d<n) (hfr:(L.map (·.1)).contains d=false) (hg:o.guard=none) (ho:o.op = .call { callee := .builtin .append,args:=#[x,y],argTypes:=#[159,159] }) (hx:a.eval x=v) (hv:oNd w B v A) (hy:a.eval y = .slice p S.length cap) (hsrc:aBo aRZ 1 w G p S) (hcp:p=none->cap=0) (hl:A.length+S.length<=400000000) (hB:B<=w.heap.size)
  (k:∀ a' w' v',oNd w' B v' (A++S)->Fr (fun k=>v.ownBlock=some k) w w'->(v'.ownBlock=v.ownBlock∨v'.ownBlock=some w.heap.size)->EnvD ds n ((d,v')::L) a'->wpList Tryz.prog O Q rest a' w'):wpList Tryz.prog O Q (o::rest) a w:=by
 obtain ⟨i0,hi0,hz0,hz1,hz2⟩:=aEH aUd;exact aKU aEG (by omega) (fun s u hu=>by simp at hu;subst hu;rfl) u159_ hi0 hz0 hz1 hz2 rfl (by decide) En hd hn hfr hg ho hx hv hy hsrc hcp hl hB k
theorem aOa {B:Nat}(En:EnvD ds n L a) (hd:o.dst=some d) (hn:d<n) (hf:(L.map (·.1)).contains d=false) (hw:Region.wanted o (yielded O a.tmps)=true) (ho:o.op = .buildSlice 159 0 #[]) (hB:B<=w.heap.size)
  (k:∀ a' w' b,w.heap.size=b->oNd w' B (.slice (some ⟨b,0,none⟩) 0 0) []->Fr nF_ w w'->EnvD ds n ((d,.slice (some ⟨b,0,none⟩) 0 0)::L) a'->wpList Tryz.prog O Q rest a' w'):wpList Tryz.prog O Q (o::rest) a w :=
 aBB En hd hn hf hw (aMP ho) fun a' E'=>k a' _ _ rfl (aP3 w hB) ((Fr.refl _ _).alloc _) E'
theorem aM3 {b G:Nat}{c:Nd}(hb:w.heap[b]?=some (.cells #[ndV c] 157 (0,0))) (hG:b<G):aBo aRZ 1 w G (some ⟨b,0,none⟩) [c]:=aC1 hb hG
theorem aI3 {c:Nd}(En:EnvD ds n L a) (hd:o.dst=some d) (hn:d<n) (hf:(L.map (·.1)).contains d=false) (hw:Region.wanted o (yielded O a.tmps)=true) (ho:o.op = .buildSlice 159 1 #[(0,x)]) (hx:a.eval x=ndV c)
  (k:∀ a' w' b,aBo aRZ 1 w' w'.heap.size (some ⟨b,0,none⟩) [c]->Fr nF_ w w'->EnvD ds n ((d,.slice (some ⟨b,0,none⟩) 1 1)::L) a'->wpList Tryz.prog O Q rest a' w'):wpList Tryz.prog O Q (o::rest) a w :=
 aBB En hd hn hf hw (aMI ho hx) fun a' E'=>k a' _ _ (aM3 (aAi _ _) (by simp)) ((Fr.refl _ _).alloc _) E'
end
def aWB (w:World) (g off N cap n:Nat) (e:Ending) (w':World):Prop :=
 ∃ c1 c2,e = .returned (.func (.func 235) #[] #[.pointer (some ⟨c1,0,none⟩),.pointer (some ⟨c2,0,none⟩)]) /\ w'.heap[c1]?=some (.cells #[.slice (some ⟨g,off,none⟩) N cap] 159 (0,0)) /\ w'.heap[c2]?=some (.cells #[.int .i64 (n:Int)] 3 (0,0)) /\ Fr nF_ w w' /\ w.heap.size<=c1 /\ w.heap.size<=c2
theorem aGf (g off N cap n:Nat) (w:World) (hn:1<=n):Calls Tryz.prog 197 #[.slice (some ⟨g,off,none⟩) N cap,.int .i64 (n:Int)] w (aWB w g off N cap n):=by
 have hfin:Hid (aWB w g off N cap n (.returned (.func (.func 235) #[] #[.pointer (some ⟨w.heap.size,0,none⟩),.pointer (some ⟨w.heap.size+1,0,none⟩)])) ((w.alloc (.cells #[.slice (some ⟨g,off,none⟩) N cap] 159)).alloc (.cells #[.int .i64 (n:Int)] 3))) :=
  ⟨_,_,rfl,(aCc (by simp) _).trans (aAi _ _),aCb (by simp) _,((Fr.refl _ _).alloc _).alloc _,Gk_ _,by simp⟩
 have t1:decide ((n:Int)<1)=false:=decide_eq_false (by omega);clear hn
 go_enter Tryz.func197,Tryz.ntmps197
 go_wp2
 go_ret
 exact hfin.out
set_option maxRecDepth 100000 in
set_option maxHeartbeats 4000000 in
theorem aJP {w:World}{G cap:Nat}{ad:Addr}{S:List Nd}(hs:aBo aRZ 1 w G (some ad) S) (hl:S.length<=1000000):Calls Tryz.prog 199 #[.slice (some ad) S.length cap] w fun e w'=>∃ v',e = .returned v' /\ oNd w' w.heap.size v' S /\ Fr nF_ w w':=by
 refine aBU Tryz.func199 rfl rfl (n:=8) (by decide) fun a E=>?_;have hf:Fr nF_ w w:=Fr.refl _ _;refine s_ (r_ (ep (v := .slice none 0 0) E rfl (a_ rfl rfl) fun a E=>n_ (t_ (s_ (s_ (r_ (ep E rfl (m_ rfl E.g1) fun a E=>ep (v := .bool false) E rfl (aIb rfl E.g0 rfl) fun a E=>n_ (t_ (c_f E.g0 (k_ (t_ (s_ (r_ (aOa (B:=w.heap.size) (d:=5) E rfl (by decide) rfl (aAb rfl _) rfl hf.size fun a w1 b1 eb1 hO f1 E=>?_))))))))))))));have hs:=hs.fr f1 (fun _ _ h=>h);have hf:=hf.trans f1;clear f1;refine ep E rfl (m_ rfl E.g4) fun a E=>aGa (B:=w.heap.size) (d:=7) E rfl (by decide) rfl rfl rfl E.g1 hO E.g0 hs (fun h=>by cases h) (by simp;omega) hf.size fun a w1 v2 hO2 f1 hloc E=>?_;have hf:=hf.trans' f1 (fun r hr e=>by have:=(hO.lt e).1;omega);refine es_ E rfl (a_ rfl E.g0) fun a E=>n_ (t_ (wr_ (aAu (t:=2) rfl E E.g0 ⟨_,rfl,hO2,hf⟩)))
end Go.Proofs.YtngjlnhojicjeaaGreatDoor
namespace Go.Pl
open Go.RowKit
variable {P:Program}{w w':World}{ds:List Deferred}
end Go.Pl
namespace Go.Proofs.YtngjlnhojicjeaaGreatDoor
open Go.RowKit Go.Pl
abbrev aCJ (C:List Nd):List En:=C.flatMap (·.2.2)
theorem aIk {w:World}{B:Nat}{v:Value}{C:List Nd}(h:oNd w B v C) (hne:C≠[]):∃ g cap cur,v = .slice (some ⟨g,0,none⟩) C.length cap /\ w.heap[g]?=some (.cells cur 157 (0,0)) /\ C.length<=cap /\ aGh cur 0 C /\ B<=g:=by
 rcases h.2 with ⟨h1,h2⟩ | ⟨g,cap,cur,h1,hB,h3,h4,h5,h6,h7⟩
 ·exact absurd (List.eq_nil_of_length_eq_zero h2) hne
 ·refine ⟨g,cap,cur,h1,h3,h4,fun j c hc=>?_,hB⟩;have hi:=(List.getElem?_eq_some_iff.1 hc).1;have:=aC4 aEG C j c hc 0 (by omega);rw [←h7] at this;simp only [Nat.mul_one,Nat.add_zero] at this;rw [List.getElem?_take_of_lt hi,Array.getElem?_toList] at this;rw [Nat.zero_add];exact this
theorem aK8 {w:World}{B cap:Nat}{p:Option Addr}{C:List Nd}{N:Nat}(hl:C.length=N) (h:oNd w B (.slice p N cap) C) (hne:0<N):∃ g cur,p=some ⟨g,0,none⟩ /\ w.heap[g]?=some (.cells cur 157 (0,0)) /\ C.length<=cap /\ aGh cur 0 C /\ B<=g:=by
 obtain ⟨g,cap2,cur,h1,h2,h3,h4,h5⟩:=aIk h (by rintro rfl;simp at hl;omega);simp only [Value.slice.injEq] at h1;obtain ⟨rfl,_,rfl⟩:=h1;exact ⟨g,cur,rfl,h2,h3,h4,h5⟩
theorem aU1 {a b:Bx}(ha:okB a) (hb:okB b):okB (arB a b):=by
 obtain ⟨⟨⟨x1,x2⟩,x3,x4⟩,⟨⟨x5,x6⟩,x7,x8⟩,x9,x10⟩:=ha;obtain ⟨⟨⟨y1,y2⟩,y3,y4⟩,⟨⟨y5,y6⟩,y7,y8⟩,y9,y10⟩:=hb;unfold arB;refine ⟨⟨⟨?_,?_⟩,?_,?_⟩,⟨⟨?_,?_⟩,?_,?_⟩,?_,?_⟩<;>simp only<;>omega
theorem aSJ {x a b:Bx}(h:aGn x a):aGn x (arB a b):=by unfold aGn arB at *;simp only;omega
theorem aSI {x a b:Bx}(h:aGn x b):aGn x (arB a b):=by unfold aGn arB at *;simp only;omega
def aGz (b:Bx) (L:List Nd):Bx:=L.foldl (fun b c=>arB b c.2.1) b
theorem aOB (b:Bx) (L:List Nd) (c:Nd):aGz b (L++[c])=arB (aGz b L) c.2.1:=by simp [aGz]
theorem aOA {b:Bx}{L:List Nd}{i:Nat}{c:Nd}(h:L[i]?=some c):aGz b (L.take (i+1))=arB (aGz b (L.take i)) c.2.1:=by
 rw [List.take_add_one,h];exact aOB _ _ _
theorem aOC:∀ (L:List Nd) (b:Bx),okB b->(∀ c∈L,okB c.2.1)->okB (aGz b L)
 | [],b,hb,_=>hb
 | c::L,b,hb,h=>aOC L _ (aU1 hb (h c (by simp))) fun d hd=>h d (by simp [hd])
theorem aLe:∀ (L:List Nd) (b x:Bx),aGn x b->aGn x (aGz b L)
 | [],b,x,h=>h
 | c::L,b,x,h=>aLe L _ x (aSJ h)
theorem aOD:∀ (L:List Nd) (b x:Bx),(∃ c∈L,aGn x c.2.1)->aGn x (aGz b L)
 | [],b,x,⟨c,hc,_⟩=>by cases hc
 | c::L,b,x,⟨d,hd,hx⟩=>by
  rcases List.mem_cons.1 hd with rfl | hd
  ·exact aLe L _ x (aSI hx)
  ·exact aOD L _ x ⟨d,hd,hx⟩
theorem aPC {W:World}{S:Nat->Prop}{h u a cap:Nat}{b:Bx}{F:List Nd}(hF:F≠[]) (h8:F.length<=8) (hu:W.heap[u]?=some (.cells #[.int .i64 b.1.1,.int .i64 b.1.2,.int .i64 b.2.1,.int .i64 b.2.2,.string ByteArray.empty,.slice (some ⟨a,0,none⟩) F.length cap] 161 (0,0))) (hSu:S u) (hSa:S a)
  (hcl:∀ (i:Nat) c,F[i]?=some c->W.cell? ⟨a,0+i,none⟩=some (ndV c)) (hN:aDk W S h F) (hok:okB b) (hin:∀ c∈F,aGn c.2.1 b):aHH W S (h+1) u b (aCJ F):=by
 refine ⟨⟨hSu,hok⟩,a,0,cap,F,hu,hSa,hF,h8,fun i c hc=>⟨hcl i c hc,hN c (Ge_ hc)⟩,rfl,fun x hx=>?_⟩;obtain ⟨c,hc,hxc⟩:=List.mem_flatMap.1 hx;have h1:=(hN c hc).in_ x hxc;have h2:=hin c hc;unfold aGn at *;omega
structure OutI (wr:World) (g nx c1 c2 N cap s h:Nat) (S:Nat->Prop) (D:List Nd) (k:Nat) (W:World) (S1:Nat->Prop) (N1:List Nd) (nv:Value) (cur1:Array Value):Prop where
 hb:W.heap[g]?=some (.cells cur1 157 (0,0))
 hd:∀ (j:Nat) c,D[j]?=some c->k*s<=j->cur1[j]?=some (ndV c)
 hx:W.heap[nx]?=some (.cells #[nv] 159 (0,0))
 hO:oNd W (wr.heap.size+2) nv N1
 k1:W.heap[c1]?=some (.cells #[.slice (some ⟨g,0,none⟩) N cap] 159 (0,0))
 k2:W.heap[c2]?=some (.cells #[.int .i64 (s:Int)] 3 (0,0))
 hN:aDk W S h D
 hN1:aDk W S1 (h+1) N1
 hS1:∀ b,S1 b->S b∨wr.heap.size+2<=b
 hSl:∀ b,S1 b->b<W.heap.size /\ nv.ownBlock≠some b
 hP:(aCJ N1).Perm (aCJ (D.take (k*s)))
 hc:N1.length<=min (k*s) N /\ (1<=k->N1.length+1<=min (k*s) N)
 hf:Fr (fun b=>b=g∨b=nx) wr W
structure Low (wr:World) (g nx c1 c2:Nat) (S:Nat->Prop):Prop where
 lg:g<wr.heap.size
 lx:nx<wr.heap.size
 l1:c1<wr.heap.size
 l2:c2<wr.heap.size
 lS:∀ b,S b->b<wr.heap.size /\ b≠g /\ b≠nx
 gx:g≠nx
 gc1:c1≠g /\ c1≠nx
 gc2:c2≠g /\ c2≠nx
section
variable {wr wk W W':World}{g nx c1 c2 c3 c4 N cap s h k li e N0:Nat}{S S1:Nat->Prop}{D E N1:List Nd}{nv:Value}{cur1:Array Value}
theorem OutI.fr (H:OutI wr g nx c1 c2 N cap s h S D k W S1 N1 nv cur1) (lo:Low wr g nx c1 c2 S) (f:Fr (fun b=>b=wr.heap.size∨b=wr.heap.size+1) W W'):OutI wr g nx c1 c2 N cap s h S D k W' S1 N1 nv cur1:=by
 have:=lo.lg;have:=lo.lx;have:=lo.l1;have:=lo.l2
 exact ⟨f.obj H.hb (by omega),H.hd,f.obj H.hx (by omega),H.hO.fr f (fun b hb e=>by have:=(H.hO.lt hb).1;omega),f.obj H.k1 (by omega),f.obj H.k2 (by omega),
  H.hN.fr f (fun b hb e=>by have:=(lo.lS b hb).1;omega),H.hN1.fr f (fun b hb e=>by
   rcases H.hS1 b hb with h | h
   ·have:=(lo.lS b h).1;omega
   ·omega),H.hS1,fun b hb=>⟨Nat.lt_of_lt_of_le (H.hSl b hb).1 f.size,(H.hSl b hb).2⟩,H.hP,H.hc,H.hf.trans' f (fun r hr e=>by omega)⟩
structure InI (wr wk:World) (li g nx c1 c2 c3 c4 N cap s k e h N0:Nat) (S:Nat->Prop) (D E:List Nd) (cur2:Array Value) (j:Nat) (W:World) (S1:Nat->Prop) (N1:List Nd) (nv:Value):Prop where
 hb:W.heap[g]?=some (.cells cur2 157 (0,0))
 hx:W.heap[nx]?=some (.cells #[nv] 159 (0,0))
 hO:oNd W (wr.heap.size+2) nv N1
 hOl:nv.ownBlock≠some li
 k1:W.heap[c1]?=some (.cells #[.slice (some ⟨g,0,none⟩) N cap] 159 (0,0))
 k2:W.heap[c2]?=some (.cells #[.int .i64 (s:Int)] 3 (0,0))
 k3:W.heap[c3]?=some (.cells #[.slice (some ⟨g,0+k*s,none⟩) e e] 159 (0,0))
 k4:W.heap[c4]?=some (.cells #[.int .i64 ((8:Nat):Int)] 3 (0,0))
 hN:aDk W S h D
 hN1:aDk W S1 (h+1) N1
 hS1:∀ b,S1 b->S b∨wr.heap.size+2<=b
 hSl:∀ b,S1 b->b<W.heap.size /\ nv.ownBlock≠some b /\ b≠li
 hP:(aCJ N1).Perm (aCJ (D.take (k*s))++aCJ (E.take (j*8)))
 hc:N1.length=N0+j
 hf:Fr (fun b=>b=g∨b=nx∨wr.heap.size+2<=b) wk W
theorem InI.fr {cur2:Array Value}{j:Nat}(H:InI wr wk li g nx c1 c2 c3 c4 N cap s k e h N0 S D E cur2 j W S1 N1 nv) (lo:Low wr g nx c1 c2 S) (hw:wr.heap.size+2<=wk.heap.size) (hli:wk.heap.size<=li) (h3:c3≠li) (h4:c4≠li) (f:Fr (fun b=>b=li) W W'):InI wr wk li g nx c1 c2 c3 c4 N cap s k e h N0 S D E cur2 j W' S1 N1 nv:=by
 have:=lo.lg;have:=lo.lx;have:=lo.l1;have:=lo.l2
 exact ⟨f.obj H.hb (by omega),f.obj H.hx (by omega),H.hO.fr f (fun b hb e=>H.hOl (by rw [←e];exact hb)),H.hOl,f.obj H.k1 (by omega),f.obj H.k2 (by omega),f.obj H.k3 h3,f.obj H.k4 h4,
  H.hN.fr f (fun b hb e=>by have:=(lo.lS b hb).1;omega),H.hN1.fr f (fun b hb e=>(H.hSl b hb).2.2 e),H.hS1,fun b hb=>⟨Nat.lt_of_lt_of_le (H.hSl b hb).1 f.size,(H.hSl b hb).2⟩,H.hP,H.hc,H.hf.trans' f (fun r hr e=>by omega)⟩
end
abbrev ndC (b:Bx) (v:Value):Array Value:=#[.int .i64 b.1.1,.int .i64 b.1.2,.int .i64 b.2.1,.int .i64 b.2.2,.string ByteArray.empty,v]
abbrev ndB (w:World) (u:Nat) (b:Bx) (v:Value):Prop:=w.heap[u]?=some (.cells (ndC b v) 161 (0,0))
section
variable {o:Oper}{w:World}{ρ:Operand->Value}{x y:Operand}{u off g n c:Nat}{b t:Bx}{v:Value}{p:Option Addr}
theorem aNu {B:Nat}{L:List Nd}(h:oNd w B v L):∃ p n c,v = .slice p n c:=by
 obtain ⟨p,c,h,_⟩:=h.src aEG;exact ⟨p,_,c,h⟩
theorem aJn (hv:∃ p n c,v = .slice p n c) (ho:o.op = .build 161 #[(0,x),(2,y)]) (hx:ρ x = .agg (bxC b)) (hy:ρ y=v):(execOp ρ o).run Tryz.prog w = .ok (.value (.agg (ndC b v))) w:=by
 obtain ⟨p,n,c,rfl⟩:=hv;simp [execOp,ho,hx,hy,go_sem];rfl
theorem aMU (ho:o.op = .box 161 x) (hx:ρ x = .agg (ndC b v)):(execOp ρ o).run Tryz.prog w = .ok (.value (.pointer (some ⟨w.heap.size,0,none⟩))) (w.alloc (.cells (ndC b v) 161)):=by
 simp [execOp,ho,hx,go_sem]
theorem ndB.set (h:ndB w u b v) (t:Bx):ndB ((((w.setCell ⟨u,0,none⟩ (.int .i64 t.1.1)).setCell ⟨u,1,none⟩ (.int .i64 t.1.2)).setCell ⟨u,2,none⟩ (.int .i64 t.2.1)).setCell ⟨u,3,none⟩ (.int .i64 t.2.2)) u t v:=by
 have h1:=aAh (off:=0) h (.int .i64 t.1.1);have h2:=aAh (off:=1) h1 (.int .i64 t.1.2);have h3:=aAh (off:=2) h2 (.int .i64 t.2.1);have h4:=aAh (off:=3) h3 (.int .i64 t.2.2);exact h4
theorem aMC (ho:o.op = .store 97 x y) (hx:ρ x = .pointer (some ⟨u,0,none⟩)) (hy:ρ y = .agg (bxC t)) (h:ndB w u b v) :
  (execOp ρ o).run Tryz.prog w = .ok .skip ((((w.setCell ⟨u,0,none⟩ (.int .i64 t.1.1)).setCell ⟨u,1,none⟩ (.int .i64 t.1.2)).setCell ⟨u,2,none⟩ (.int .i64 t.2.1)).setCell ⟨u,3,none⟩ (.int .i64 t.2.2)):=by
 have c0:w.cell? ⟨u,0,none⟩=some (.int .i64 b.1.1):=bx h 0 rfl;have c1:w.cell? ⟨u,1,none⟩=some (.int .i64 b.1.2):=bx h 1 rfl;have c2:w.cell? ⟨u,2,none⟩=some (.int .i64 b.2.1):=bx h 2 rfl;have c3:w.cell? ⟨u,3,none⟩=some (.int .i64 b.2.2):=bx h 3 rfl;have z0:=aAm h 0;have z1:=aAm h 1;have z2:=aAm h 2;have z3:=aAm h 3;simp [execOp,ho,hx,hy,go_sem,c0,c1,c2,c3,z0,z1,z2,z3]
theorem aJo (ho:o.op = .alloc 159):(execOp ρ o).run Tryz.prog w = .ok (.value (.pointer (some ⟨w.heap.size,0,none⟩))) (w.alloc (.cells #[.slice none 0 0] 159)):=by
 simp [execOp,ho,go_sem]
theorem aPi {u0:Value}(hv:v = .slice p n c) (ho:o.op = .store 159 x y) (hx:ρ x = .pointer (some ⟨g,off,none⟩)) (hy:ρ y=v) (hc:w.cell? ⟨g,off,none⟩=some u0) (hz:w.frozen? ⟨g,off,none⟩=false):(execOp ρ o).run Tryz.prog w = .ok .skip (w.setCell ⟨g,off,none⟩ v):=by
 subst hv;simp [execOp,ho,hx,hy,go_sem,hc,hz]
end
section
variable {O:Array Oper}{Q:Exit->Act->World->Prop}{rest:List Oper}{o:Oper}{a:Act}{w:World}{n d:Nat}{L:List (Nat×Value)}{x y:Operand}{ds:List Deferred}
theorem aJF (E:EnvD ds n L a) (hd:o.dst=some d) (hn:d<n) (hf:(L.map (·.1)).contains d=false) (hw:Region.wanted o (yielded O a.tmps)=true) (ho:o.op = .alloc 159)
  (k:∀ a' w' b,w.heap.size=b->w'.heap[b]?=some (.cells #[.slice none 0 0] 159 (0,0))->Fr nF_ w w'->EnvD ds n ((d,.pointer (some ⟨b,0,none⟩))::L) a'->wpList Tryz.prog O Q rest a' w'):wpList Tryz.prog O Q (o::rest) a w :=
 aBB E hd hn hf hw (aJo ho) fun a' E'=>k a' _ _ rfl (aAi _ _) ((Fr.refl _ _).alloc _) E'
end
def aU8 (w:World) (S0:Nat->Prop) (v0:Value) (C0:List Nd) (e:Ending) (w':World):Prop :=
 ∃ rv,e = .returned rv /\ Fr (fun k=>v0.ownBlock=some k) w w' /\ ((rv = .pointer none /\ aCJ C0=[])∨∃ S n p b L,rv = .pointer (some ⟨p,0,none⟩) /\ aHH w' S n p b L /\ L.Perm (aCJ C0) /\ ∀ k,S k->k<w'.heap.size /\ (S0 k∨w.heap.size<=k))
theorem aQ7 {R:World->Prop}{a:Act}{W:World}(h:R W):aRK R .normal a W:=h
theorem aOl {g off N n:Nat}(hn:1<=n):(chs g off N n).length=(N+n-1) / n:=by simp [chs]
theorem aOm {N n:Nat}(hn:1<=n):N<=(N+n-1) / n*n:=by
 have h1:=Nat.div_add_mod (N+n-1) n;have h2:=Nat.mod_lt (N+n-1) (show 0<n by omega);rw [Nat.mul_comm] at h1;omega
theorem aS2 {N n:Nat}(hn:1<=n) (hN:1<=N):1<=(N+n-1) / n:=by
 rw [Nat.le_div_iff_mul_le (by omega)];omega
section
variable {wr wk W wi2 wu w2 w1 w3:World}{g nx c1 c2 c3 c4 N cap s h k li e N0 j u:Nat}{S S1 S2 S3:Nat->Prop}{C D E E0 E1 N1 N2 F0:List Nd}{nv nw va v9:Value}{cur2 cr:Array Value}{b0:Bx}
theorem aP5 (hDl:D.length=N) (H:OutI wr g nx c1 c2 N cap s h S D k wk S1 N1 nv cr) (J:InI wr wk li g nx c1 c2 c3 c4 N cap s k E0.length h N1.length S D E1 cur2 ((E0.length+8-1) / 8) W S2 N2 nw) (hks:k*s<N) (hE0:E0=(D.drop (k*s)).take s) (hE0l:E0.length=min s (N-k*s)) (hE1:E1.Perm E0)
  (hout:∀ i,i<0+k*s∨0+k*s+E0.length<=i->cur2[i]?=cr[i]?) (hs8:8<=s) (hlt1:1<N):OutI wr g nx c1 c2 N cap s h S D (k+1) W S2 N2 nw cur2:=by
 have hk1:(k+1)*s=k*s+s:=by rw [Nat.add_mul,Nat.one_mul]
 refine ⟨J.hb,fun j c hj hjk=>?_,J.hx,J.hO,J.k1,J.k2,J.hN,J.hN1,J.hS1,fun b hb=>⟨(J.hSl b hb).1,(J.hSl b hb).2.1⟩,?_,?_,H.hf.trans' J.hf (fun r hr e=>?_)⟩
 ·rw [hout j (.inr (by omega))];exact H.hd j c hj (by omega)
 ·rw [hk1,List.take_add];have h1:E1.take ((E0.length+8-1) / 8*8)=E1:=Gc_ (by rw [hE1.length_eq];exact aOm (by omega));have h2:=J.hP;rw [h1] at h2;rw [←hE0];refine h2.trans ?_;show (aCJ (D.take (k*s))++aCJ E1).Perm (List.flatMap _ (D.take (k*s)++E0));rw [List.flatMap_append];exact (List.Perm.refl _).append (hE1.flatMap_right _)
 ·have h1:=H.hc;have h2:=J.hc;rw [hk1];have h3:k=0∨1<=k:=by omega
  rcases h3 with rfl | h3
  ·simp only [Nat.zero_mul,Nat.zero_add] at *;omega
  ·have h4:=h1.2 h3;omega
 ·rcases e with e | e | e
  ·exact .inl e
  ·exact .inr e
  ·omega
theorem aRQ (lo:Low wr g nx c1 c2 S) (J:InI wr wk li g nx c1 c2 c3 c4 N cap s k e h N0 S D E cur2 j W S2 N2 nw) (hwk:wr.heap.size+2<=wk.heap.size):W.heap[wr.heap.size]?=wk.heap[wr.heap.size]? /\ W.heap[wr.heap.size+1]?=wk.heap[wr.heap.size+1]?:=by
 have:=lo.lg;have:=lo.lx;exact ⟨J.hf.blk _ (by omega) (by omega),J.hf.blk _ (by omega) (by omega)⟩
theorem aUg (lo:Low wr g nx c1 c2 S) (hwk2:wr.heap.size+2<=wk.heap.size) (hwki:wk.heap.size<=li) (hwj:li+1<=wi2.heap.size) (hul:wi2.heap.size<=u) (fu:Fr nF_ wi2 wu) (hF:Fr (fun b=>b=u) wu w2) (f3:Fr nF_ w2 w1) (f4:Fr (fun k=>nw.ownBlock=some k) w1 w3) (v9:Value) :
  Fr (fun b=>b=nx∨nw.ownBlock=some b) w2 (w3.setCell ⟨nx,0,none⟩ v9) /\ Fr (fun b=>b=u∨b=nx∨nw.ownBlock=some b) wu (w3.setCell ⟨nx,0,none⟩ v9) /\ Fr (fun b=>b=nx∨nw.ownBlock=some b) wi2 (w3.setCell ⟨nx,0,none⟩ v9):=by
 have h1:Fr (fun b=>b=nx∨nw.ownBlock=some b) w2 (w3.setCell ⟨nx,0,none⟩ v9):=((f3.mono fun _ _ h=>h.elim).trans' f4 (fun _ _ e => .inr e)).setCell (p:=⟨nx,0,none⟩) (fun _ => .inl rfl) v9;have h2:Fr (fun b=>b=u∨b=nx∨nw.ownBlock=some b) wu (w3.setCell ⟨nx,0,none⟩ v9):=(hF.mono fun _ _ e => .inl e).trans' h1 (fun _ _ e => .inr e);refine ⟨h1,h2,(fu.mono fun _ _ h=>h.elim).trans' h2 fun r hr e=>?_⟩;rcases e with e | e
 ·omega
 ·exact e
theorem aUf (lo:Low wr g nx c1 c2 S) (hwk2:wr.heap.size+2<=wk.heap.size) (hwki:wk.heap.size<=li) (hwj:li+1<=wi2.heap.size) (hul:wi2.heap.size<=u) (J:InI wr wk li g nx c1 c2 c3 c4 N cap s k e h N0 S D E cur2 j wi2 S2 N2 nw) (fu:Fr nF_ wi2 wu) (hF:Fr (fun b=>b=u) wu w2) (f3:Fr nF_ w2 w1) (f4:Fr (fun k=>nw.ownBlock=some k) w1 w3) (v9:Value) :
  (w3.setCell ⟨nx,0,none⟩ v9).heap[li]?=wi2.heap[li]?:=by
 obtain ⟨_,_,hT⟩:=aUg lo hwk2 hwki hwj hul fu hF f3 f4 v9;have:=lo.lx;exact hT.blk li (by omega) (fun e=>by rcases e with e | e;omega;exact J.hOl e)
theorem aSr (lo:Low wr g nx c1 c2 S) (hwk2:wr.heap.size+2<=wk.heap.size) (hwki:wk.heap.size<=li) (hwj:li+1<=wi2.heap.size) (hul:wi2.heap.size<=u) (hau:va.ownBlock≠some u) (J:InI wr wk li g nx c1 c2 c3 c4 N cap s k e h N0 S D E1 cur2 j wi2 S2 N2 nw)
  (hF0:F0=(E1.drop (j*8)).take 8) (hFne:F0≠[]) (hok0:okB b0) (hOa:oNd wu wi2.heap.size va F0) (hNF:aDk wu S h F0) (hu:ndB w2 u (aGz b0 F0) va) (fu:Fr nF_ wi2 wu) (hF:Fr (fun b=>b=u) wu w2) (f3:Fr nF_ w2 w1) (f4:Fr (fun k=>nw.ownBlock=some k) w1 w3)
  (hO9:oNd w3 (wr.heap.size+2) v9 (N2++[(u,aGz b0 F0,aCJ F0)])) (hloc:v9.ownBlock=nw.ownBlock∨v9.ownBlock=some w1.heap.size) (hx9:w3.heap[nx]?=some (.cells #[nw] 159 (0,0))) (hS3:S3=fun b=>S2 b∨b=u∨va.ownBlock=some b∨S b) :
  InI wr wk li g nx c1 c2 c3 c4 N cap s k e h N0 S D E1 cur2 (j+1) (w3.setCell ⟨nx,0,none⟩ v9) S3 (N2++[(u,aGz b0 F0,aCJ F0)]) v9:=by
 obtain ⟨h2,hu2,hT⟩:=aUg lo hwk2 hwki hwj hul fu hF f3 f4 v9;have z2:=hF.size;have z3:=f3.size;have z4:=h2.size;have hlg:=lo.lg;have hlx:=lo.lx;have hl1:=lo.l1;have hl2:=lo.l2;have hgx:=lo.gx;have own:∀ b,nw.ownBlock=some b->wr.heap.size+2<=b /\ b<wi2.heap.size:=fun b hb=>J.hO.lt hb;have hul2:u<w2.heap.size:=aAf hu;have h8:F0.length<=8:=by rw [hF0,Gq_];omega
 have hk1:(j+1)*8=j*8+8:=by omega
 obtain ⟨a,ca,cur,hva,hba,hca,hcl,hal⟩:=aIk hOa hFne;have hau2:a≠u:=fun e=>hau (by rw [hva,e];rfl);have hSS3:∀ b,S b->S3 b:=fun b hb=>by rw [hS3];exact .inr (.inr (.inr hb))
 have hSb:∀ b,S b->¬ (b=u∨b=nx∨nw.ownBlock=some b):=fun b hb e=>by
  have h9:=lo.lS b hb;rcases e with e | e | e
  ·omega
  ·exact h9.2.2 e
  ·have:=(own b e).1;omega
 refine ⟨hT.obj J.hb ?_,aAh (off:=0) hx9 v9,hO9.fr ((Fr.refl (fun b=>b=nx) w3).setCell (p:=⟨nx,0,none⟩) (fun _=>rfl) v9) (fun b hb e=>by have:=(hO9.lt hb).1;omega),?_,hT.obj J.k1 ?_,hT.obj J.k2 ?_,hT.obj J.k3 ?_,hT.obj J.k4 ?_,
  J.hN.fr hT (fun b hb e=>hSb b hb (.inr e)),?_,?_,?_,?_,?_,J.hf.trans' hT ?_⟩
 ·rintro (e | e)
  ·exact hgx e
  ·have:=(own _ e).1;omega
 ·rcases hloc with e | e
  ·rw [e];exact J.hOl
  ·rw [e];intro e2;have:=Gi_ e2;omega
 ·rintro (e | e)
  ·exact lo.gc1.2 e
  ·have:=(own _ e).1;omega
 ·rintro (e | e)
  ·exact lo.gc2.2 e
  ·have:=(own _ e).1;omega
 ·rintro (q | q)
  ·have h9:=J.k3;rw [q,J.hx] at h9;simp only [Gl_,Obj.cells.injEq] at h9;have h10:=h9.1;have h11:nw = .slice (some ⟨g,0+k*s,none⟩) e e:=by simpa using h10
   have:=(own g (by rw [h11];rfl)).1;omega
  ·exact aBe (by decide) J.hO J.k3 q
 ·rintro (e | e)
  ·have h9:=J.k4;rw [e,J.hx] at h9;simp at h9
  ·exact aBe (by decide) J.hO J.k4 e
 ·intro c hc;rcases List.mem_append.1 hc with hc | hc
  ·refine ((J.hN1 c hc).fr hT (fun b hb e=>?_)).mono (fun b hb=>by rw [hS3];exact .inl hb);rcases e with e | e
   ·rcases J.hS1 b hb with h9 | h9
    ·exact (lo.lS b h9).2.2 e
    ·omega
   ·exact (J.hSl b hb).2.1 e
  ·simp only [Gd_] at hc;subst hc;refine aPC (a:=a) (cap:=ca) hFne h8 ?_ (by rw [hS3];exact .inr (.inl rfl)) (by rw [hS3];exact .inr (.inr (.inl (by rw [hva];rfl)))) (fun i c hc=>?_) ((hNF.fr hu2 hSb).mono hSS3) (aOC _ _ hok0 fun c hc=>(hNF c hc).ok) (fun c hc=>aOD _ _ _ ⟨c,hc,by unfold aGn;omega⟩)
   ·have h9:=h2.obj hu (fun e=>by rcases e with e | e;omega;have:=(own _ e).2;omega);rw [hva] at h9;exact h9
   ·have h9:=hu2.obj hba (fun e=>by rcases e with e | e | e;exact hau2 e;omega;have:=(own _ e).2;omega);rw [aAk h9];exact hcl i c hc
 ·intro b hb;rw [hS3] at hb;rcases hb with hb | hb | hb | hb
  ·exact J.hS1 b hb
  ·right;omega
  ·right;have:=(hOa.lt hb).1;omega
  ·exact .inl hb
 ·intro b hb;rw [hS3] at hb;rcases hb with hb | hb | hb | hb
  ·have h9:=J.hSl b hb;refine ⟨by have:=hT.size;omega,?_,h9.2.2⟩;rcases hloc with e | e
   ·rw [e];exact h9.2.1
   ·rw [e];intro e2;have:=Gi_ e2;omega
  ·refine ⟨by omega,?_,by omega⟩;rcases hloc with e | e
   ·rw [e];intro e2;have:=(own _ e2).2;omega
   ·rw [e];intro e2;have:=Gi_ e2;omega
  ·have h9:=hOa.lt hb;refine ⟨by omega,?_,by omega⟩;rcases hloc with e | e
   ·rw [e];intro e2;have:=(own _ e2).2;omega
   ·rw [e];intro e2;have:=Gi_ e2;omega
  ·have h9:=lo.lS b hb;refine ⟨by have:=hT.size;omega,?_,by omega⟩;intro e2;have:=(hO9.lt e2).1;omega
 ·rw [hk1,List.take_add,←hF0];show (List.flatMap _ (N2++[(u,aGz b0 F0,aCJ F0)])).Perm (aCJ (D.take (k*s))++List.flatMap _ (E1.take (j*8)++F0));rw [List.flatMap_append,List.flatMap_append,←List.append_assoc];refine J.hP.append ?_;simp
 ·rw [Gj_,J.hc];simp;omega
 ·intro r hr e;rcases e with e | e
  ·exact .inr (.inl e)
  ·exact .inr (.inr (own _ e).1)
end
set_option maxRecDepth 100000 in
set_option maxHeartbeats 4000000 in
theorem aLC {w:World}{S0:Nat->Prop}{B h0:Nat}{v0:Value}{C0:List Nd}(hO:oNd w B v0 C0) (hN:aDk w S0 h0 C0) (hS:∀ k,S0 k->k<w.heap.size /\ v0.ownBlock≠some k) (hl:C0.length<=100000):Calls Tryz.prog 150 #[v0] w (aU8 w S0 v0 C0):=by
 obtain ⟨p0,cap0,hv0,_,_,_,_⟩:=hO.src aEG;refine aLi Tryz.func150 rfl rfl (n:=73) (by decide) fun a E=>?_;rw [hv0] at E;refine s_ (r_ (ep (v:=(Value.pointer none)) E rfl (a_ rfl rfl) fun a E=>n_ (t_ (s_ (bk_ (wp_loop (fun a w2=>∃ (p:Option Addr) (cap:Nat) (C:List Nd) (h:Nat) (S:Nat->Prop) (ds:List Deferred),EnvD ds 73 [(0,.slice (p) C.length cap),(2,Value.pointer none)] a /\ oNd w2 0 (.slice p C.length cap) C /\ aDk w2 S h C /\ (∀ k,S k->k<w2.heap.size /\ (Value.slice p C.length cap).ownBlock≠some k /\ ¬ aBN ds k) /\ (∀ k,S k->S0 k∨w.heap.size<=k) /\ aDl w2 ds /\ (∀ k,aBN ds k->w.heap.size<=k) /\ (aCJ C).Perm (aCJ C0) /\ C.length<=100000 /\ Fr (fun k=>v0.ownBlock=some k) w w2 /\ (∀ k,(Value.slice p C.length cap).ownBlock=some k->v0.ownBlock=some k∨w.heap.size<=k)) (fun a _=>lenOf (a.eval (.tmp 0))) ?_ ?_))))))
 ·exact ⟨p0,cap0,C0,h0,S0,[],E.of ⟨E.g1,E.g0,trivial⟩,by rw [←hv0];exact hO.base (Gg_ _),hN,fun k hk=>⟨(hS k hk).1,by rw [←hv0];exact (hS k hk).2,fun h=>(by cases h)⟩,fun _ h => .inl h,aDl.nil _,fun _ h=>(by cases h),List.Perm.refl _,hl,Fr.refl _ _,fun k hk => .inl (by rw [hv0];exact hk)⟩
 clear E;rintro a w2 ⟨p,cap,C,h,S,ds,E,hO,hN,hS,hS0,hm,hmw,hP,hl,hT,hvb⟩;have hmu:lenOf (a.eval (.tmp 0))=C.length:=by rw [E.g0];first | rfl | (simp [intOf];done) | (simp only [intOf];omega)
 rw [hmu];clear hmu;refine s_ (s_ (r_ (ep E rfl (m_ rfl E.g0) fun a E=>ep (v := .int .i64 (C.length:Int)) E rfl (aB4 rfl E.g0) fun a E=>ep (v := .bool (decide (1<(C.length:Int)))) E rfl (aCo E.g0 rfl u3_ rfl) fun a E=>n_ (t_ ?_))));cases hq32:(decide (1<(C.length:Int)))
 ·rw [hq32] at E;have hle1:¬ 1<C.length:=by have:=of_decide_eq_false hq32;omega
  refine c_f E.g0 (x_ (te_ (te_ (be_ (t_ (s_ (s_ (r_ (ep E rfl (m_ rfl E.g3) fun a E=>ep (v := .int .i64 (C.length:Int)) E rfl (aB4 rfl E.g0) fun a E=>ep (v := .bool ((C.length:Int)==0)) E rfl (aK3 E.g0 rfl u3_ rfl) fun a E=>n_ (t_ ?_))))))))));cases hq33:((C.length:Int)==0)
  rotate_left
  ·rw [hq33] at E;have hz0:C=[]:=List.eq_nil_of_length_eq_zero (by have:=beq_iff_eq.1 hq33;omega);refine c_t E.g0 (s_ (r_ (es_ (v:=(Value.pointer none)) E rfl (a_ rfl rfl) fun a E=>n_ (t_ (wr_ (tr_ (aK4 (t:=2) rfl E E.g0 hm (fun w9 f9=>⟨_,rfl,hT.trans' f9 (fun r hr e=>by have:=hmw r e;omega),.inl ⟨rfl,by rw [hz0] at hP;exact List.perm_nil.1 hP.symm⟩⟩))))))))
  rw [hq33] at E
  have hlen1:C.length=1:=by
   have h9:¬ ((C.length:Int)=0):=fun e=>by rw [e] at hq33;simp at hq33
   omega
  have h0l:0<C.length:=by omega
  obtain ⟨g,cur,rfl,hb,hcap,hd,_⟩:=aK8 rfl hO (by omega);obtain ⟨ct,hct⟩:∃ ct,C[0]?=some ct:=⟨_,Gb_ h0l⟩;refine c_f E.g0 (k_ (t_ (s_ (r_ (ep E rfl (m_ rfl E.g6) fun a E=>ep (v := .pointer (some ⟨g,(0+0),none⟩)) E rfl (aC2 (i:=0) rfl E.g0 rfl h0l) fun a E=>ep (v := .pointer (some ⟨ct.1,0,none⟩)) E rfl (aAV rfl E.g0 (bx hb (0+0) (hd 0 ct hct))) fun a E=>es_ E rfl (a_ rfl E.g0) fun a E=>n_ (t_ (wr_ ?_)))))));have hctm:=Ge_ hct
  have hCe:aCJ C=ct.2.2:=by
   obtain ⟨c9,rfl⟩:=List.length_eq_one_iff.1 hlen1;simp at hct;subst hct;simp [aCJ]
  rw [hCe] at hP;exact aK4 (t:=2) rfl E E.g0 hm (fun w9 f9=>⟨_,rfl,hT.trans' f9 (fun r hr e=>by have:=hmw r e;omega),.inr ⟨S,h,ct.1,ct.2.1,ct.2.2,rfl,(hN ct hctm).fr f9 (fun b hb9 e=>(hS b hb9).2.2 e),hP,fun b hb9=>⟨Nat.lt_of_lt_of_le (hS b hb9).1 f9.size,hS0 b hb9⟩⟩⟩)
 rw [hq32] at E;have hlt1:1<C.length:=by have:=of_decide_eq_true hq32;omega
 obtain ⟨g,cur,rfl,hb,hcap,hd,_⟩:=aK8 rfl hO (by omega);have hCne:C≠[]:=by rintro rfl;simp at hlt1
 refine c_t E.g0 (k_ (t_ (bk_ (s_ (r_ (ep E rfl (m_ rfl E.g3) fun a E=>?_))))));have hb0:=hb;refine aB5 (d:=14) (R:=fun u w8=>u = .tuple #[] /\ aU7 w2 g 0 cur C (.returned (.tuple #[])) w8) E rfl (by decide) rfl (aAb rfl _) (aAE (enters_of Tryz.func194 (by kernel_rfl) rfl) rfl rfl E.g0 rfl) ((aJd (g:=g) (off:=0) (cap:=cap) hCne hb hd (fun c hc=>⟨(hN c hc).nb,(hN c hc).ok,fun e=>(hS _ (hN c hc).mem).2.1 (by rw [e];rfl)⟩) (by omega)).mono fun e w8 h=>⟨_,h.1,rfl,by rw [←h.1];exact h⟩) fun a w1 u9 hR E=>?_;obtain ⟨rfl,_,D,cur1,hD1,hb,hsz1,hd,_,f1⟩:=hR;have hDl:D.length=C.length:=hD1.length_eq;have hN:=(hN.fr f1 (fun k hk e=>(hS k hk).2.1 (by rw [e];rfl))).perm hD1;have hPD:(aCJ D).Perm (aCJ C):=hD1.flatMap_right _;have hm:=hm.fr f1 (fun k hk e=>by subst e;have:=hm.at hk;rw [this] at hb0;cases hb0);have hT:=hT.trans' f1 (fun r hr e=>by rcases hvb g rfl with h | h;(rw [e];exact h);omega);have hS:∀ k,S k->k<w1.heap.size /\ k≠g /\ ¬ aBN ds k:=fun k hk=>⟨Nat.lt_of_lt_of_le (hS k hk).1 f1.size,fun e=>(hS k hk).2.1 (by rw [e];rfl),(hS k hk).2.2⟩;clear hb0 hO hsz1 f1 hD1;refine n_ (t_ (s_ (r_ (ep (v := .int .i64 8) E rfl (a_ rfl rfl) fun a E=>n_ (t_ (s_ (bk_ (wp_loop (fun a w2=>∃ (s:Nat),EnvD ds 73 [(0,.slice (some ⟨g,0,none⟩) C.length cap),(3,.int .i64 (s:Int)),(2,Value.pointer none)] a /\ 8<=s /\ s<=C.length*8+8 /\ w2=w1) (fun a _=>C.length*8+8-(intOf (a.eval (.tmp 3))).toNat) ?_ ?_))))))))
 ·exact ⟨8,E.of ⟨E.g6,E.g0,E.g7,trivial⟩,Gk_ _,by omega,rfl⟩
 clear E;rintro a w2 ⟨s,E,hs8,hsN,hw2⟩;have hmu:C.length*8+8-(intOf (a.eval (.tmp 3))).toNat=C.length*8+8-s:=by rw [E.g1];first | rfl | (simp [intOf];done) | (simp only [intOf];omega)
 rw [hmu];clear hmu;subst hw2
 have hss:(s:Int)*(s:Int)<=1000000000000 /\ 0<=(s:Int)*(s:Int) /\ (s:Int)<=(s:Int)*(s:Int):=by
  have h1:s*s<=1000000*1000000:=Nat.mul_le_mul (by omega) (by omega);have h2:s<=s*s:=Nat.le_mul_self s;omega
 refine s_ (s_ (r_ (ep E rfl (m_ rfl E.g1) fun a E=>ep E rfl (m_ rfl E.g2) fun a E=>ep (v := .int .i64 ((s:Int)*(s:Int))) E rfl (aDF u3_ E.g1 E.g0 (by omega) (by omega) rfl) fun a E=>ep E rfl (m_ rfl E.g3) fun a E=>ep (v := .int .i64 (C.length:Int)) E rfl (aB4 rfl E.g0) fun a E=>ep (v := .int .i64 ((C.length:Int)*8)) E rfl (aDF u3_ E.g0 rfl (by omega) (by omega) rfl) fun a E=>ep (v := .bool (decide (((s:Int)*(s:Int))<((C.length:Int)*8)))) E rfl (aBs E.g3 E.g0 u3_ rfl) fun a E=>n_ (t_ ?_))));cases hq35:(decide (((s:Int)*(s:Int))<((C.length:Int)*8)))
 rotate_left
 ·rw [hq35] at E;refine c_t E.g0 (k_ (t_ (bk_ (r_ (ep E rfl (m_ rfl E.g8) fun a E=>ep (v := .int .i64 ((s:Int)+8)) E rfl (aAS u3_ E.g0 rfl (by omega) (by omega) rfl) fun a E=>es_ E rfl (a_ rfl E.g0) fun a E=>n_ (b_ (t_ ?_)))))));rw [show ((s:Int)+8)=((s+8:Nat):Int) by omega] at E;have hlt9:(s:Int)<(C.length:Int)*8:=by have:=of_decide_eq_true hq35;omega
  refine ⟨⟨s+8,E.of ⟨E.g10,E.g0,E.g11,trivial⟩,by omega,by omega,rfl⟩,?_⟩;rw [E.g0];simp only [intOf];omega
 rw [hq35] at E;refine c_f E.g0 (x_ (te_ (te_ (be_ (t_ (s_ (r_ (aJF (d:=4) E rfl (by decide) rfl (aAb rfl _) rfl fun a w1 nx enx hx f1 E=>?_))))))));have hnx:w2.heap.size=nx:=enx;have hgl:=aAf hb;have hws0:=hT.size;have hb:=f1.obj hb id;have hN:=hN.fr f1 (fun _ _ h=>h);have hm:=hm.fr f1 (fun _ _ h=>h);have hT:=hT.trans' f1 (fun _ _ h=>h.elim);have hS:∀ k,S k->k<nx /\ k≠g /\ ¬ aBN ds k:=fun k hk=>⟨by have:=(hS k hk).1;omega,(hS k hk).2⟩;have hgx:g<nx:=by omega
 have hxl:=aAf hx;have hws:w.heap.size<=nx:=by omega
 clear f1 hgl enx;refine n_ (t_ (s_ (s_ (r_ (ep E rfl (m_ rfl E.g8) fun a E=>ep E rfl (m_ rfl E.g10) fun a E=>?_)))));have hz9:1<=s:=by omega
 refine aB5 (d:=26) (R:=fun u w8=>∃ c1 c2,u = .func (.func 235) #[] #[.pointer (some ⟨c1,0,none⟩),.pointer (some ⟨c2,0,none⟩)] /\ w8.heap[c1]?=some (.cells #[.slice (some ⟨g,0,none⟩) C.length cap] 159 (0,0)) /\ w8.heap[c2]?=some (.cells #[.int .i64 ((s:Nat):Int)] 3 (0,0)) /\ Fr nF_ w1 w8 /\ w1.heap.size<=c1 /\ w1.heap.size<=c2) E rfl (by decide) rfl (aAb rfl _) (aAE (enters_of Tryz.func197 (by kernel_rfl) rfl) rfl rfl E.g1 E.g0) ((aGf g 0 C.length cap s _ hz9).mono fun e w8 ⟨c8,c9,h1,h2⟩=>⟨_,h1,c8,c9,rfl,h2⟩) fun a wr u9 hR E=>?_;obtain ⟨c1,c2,rfl,k1,k2,f2,hc8,hc9⟩:=hR;clear hz9;refine n_ (t_ (bk_ ?_));have hc1l:=aAf k1;have hc2l:=aAf k2;have lo:Low wr g nx c1 c2 S:=⟨by omega,by omega,hc1l,hc2l,fun b hb=>by have:=hS b hb;exact ⟨by omega,this.2.1,by omega⟩,by omega,⟨by omega,by omega⟩,⟨by omega,by omega⟩⟩;have hb:=f2.obj hb id;have hx:=f2.obj hx id;have hN:=hN.fr f2 (fun _ _ h=>h);have hm:=hm.fr f2 (fun _ _ h=>h);have hT:=hT.trans' f2 (fun _ _ h=>h.elim);have hI0:OutI wr g nx c1 c2 C.length cap s h S D 0 wr S [] (.slice none 0 0) cur1:=⟨hb,fun j c hj _=>by have:=hd j c hj;rwa [Nat.zero_add] at this,hx,aDo _,k1,k2,hN,(fun c hc=>by cases hc),fun b hb => .inl hb,fun b hb=>⟨(lo.lS b hb).1,by simp [Value.ownBlock]⟩,by simp [aCJ],⟨by simp,by omega⟩,Fr.refl _ _⟩;have hs1:1<=s:=by omega
 refine aLj (fun k W=>∃ S1 N1 nv cr,OutI wr g nx c1 c2 C.length cap s h S D k W S1 N1 nv cr) (fun v a=>∃ x,v=#[x] /\ Env 73 [(5,x),(27,x),(4,.pointer (some ⟨nx,0,none⟩))] a) E.g0 (enters_of Tryz.func235 (by kernel_rfl) rfl) (aE4 (g:=g) (off:=0) (N:=C.length) (cap:=cap) (n:=s) (c1:=c1) (c2:=c2) hs1 (by omega) (by omega) (by omega)) (fun v hv=>by obtain ⟨k,_,rfl⟩:=aH4 hs1 hv;rfl) ?_ ?_ ⟨S,[],_,cur1,hI0⟩ ?_ ?_ ?_
 ·rintro k W W' ⟨S1,N1,nv,cr,H⟩ f;exact ⟨_,_,_,_,H.fr lo f⟩
 ·rintro k W ⟨S1,N1,nv,cr,H⟩;exact ⟨H.k1,H.k2⟩
 ·intro l v W K hv hK;obtain ⟨k,_,rfl⟩:=aH4 hs1 hv;have E:=aKR (d:=27) (x:=chV g 0 C.length s k) (E.of (L':=[(4,.pointer (some ⟨nx,0,none⟩))]) ⟨E.g3,trivial⟩) (by decide) rfl;refine aAB (by kernel_rfl) (fun ⟨_,_,h⟩=>h) (ep E rfl (a_ rfl E.g0) fun a E=>n_ (hK _ ⟨_,rfl,E⟩))
 ·rintro k v ak wk hv ⟨S1,N1,nv,cr,H⟩ ⟨x9,rfl,E⟩ hwk ⟨rr,hrr⟩;obtain ⟨hks,hv2⟩:=aRe hs1 hv;obtain rfl:x9=chV g 0 C.length s k:=by simpa using hv2
  obtain ⟨E0,hE0⟩:∃ E0,E0=(D.drop (k*s)).take s:=⟨_,rfl⟩;have hE0l:E0.length=min s (C.length-k*s):=by rw [hE0];simp [hDl]
  have hx9:chV g 0 C.length s k = .slice (some ⟨g,0+k*s,none⟩) E0.length E0.length:=by rw [hE0l];rfl
  rw [hx9] at E;have hEne:E0≠[]:=by rintro rfl;simp at hE0l;omega
  have hE0g:∀ (i:Nat) c,E0[i]?=some c->D[k*s+i]?=some c:=fun i c hc=>by rw [hE0,List.getElem?_take] at hc;split at hc;(rw [List.getElem?_drop] at hc;exact hc);cases hc
  have hE0c:aGh cr (0+k*s) E0:=fun i c hc=>by rw [Nat.zero_add];exact H.hd _ _ (hE0g i c hc) (Nat.le_add_right _ _)
  have hE0m:∀ c∈E0,c∈D:=fun c hc=>by obtain ⟨i,hi⟩:=List.mem_iff_getElem?.1 hc;exact Ge_ (hE0g i c hi)
  refine wpIn_block (wpIn_seq (aAB (by kernel_rfl) (fun ⟨_,_,h⟩=>h) (ep E rfl (m_ rfl E.g0) fun a E=>aB5 (d:=29) (R:=fun u w8=>u = .tuple #[] /\ aU7 wk g (0+k*s) cr E0 (.returned (.tuple #[])) w8) E rfl (by decide) rfl (aAb rfl _) (aAE (enters_of Tryz.func194 (by kernel_rfl) rfl) rfl rfl E.g0 rfl) ((aJc (g:=g) (off:=0+k*s) (cap:=E0.length) hEne H.hb hE0c (fun c hc=>⟨(H.hN c (hE0m c hc)).nb,(H.hN c (hE0m c hc)).ok,(lo.lS _ (H.hN c (hE0m c hc)).mem).2.1⟩) (by omega)).mono fun e w8 h=>⟨_,h.1,rfl,by rw [←h.1];exact h⟩) fun a wb u9 hR E=>?_)));obtain ⟨rfl,_,E1,cur2,hE1,hb2,_,hd2,hout,f1⟩:=hR;have hEl:E1.length=E0.length:=hE1.length_eq;refine n_ (t_ (wpIn_seq (aAB (by kernel_rfl) (fun ⟨_,_,h⟩=>h) (ep E rfl (m_ rfl E.g2) fun a E=>?_))));have hz9:1<=8:=by omega
  refine aB5 (d:=31) (R:=fun u w8=>∃ c3 c4,u = .func (.func 235) #[] #[.pointer (some ⟨c3,0,none⟩),.pointer (some ⟨c4,0,none⟩)] /\ w8.heap[c3]?=some (.cells #[.slice (some ⟨g,(0+k*s),none⟩) E0.length E0.length] 159 (0,0)) /\ w8.heap[c4]?=some (.cells #[.int .i64 ((8:Nat):Int)] 3 (0,0)) /\ Fr nF_ wb w8 /\ wb.heap.size<=c3 /\ wb.heap.size<=c4) E rfl (by decide) rfl (aAb rfl _) (aAE (enters_of Tryz.func197 (by kernel_rfl) rfl) rfl rfl E.g0 rfl) ((aGf g (0+k*s) E0.length E0.length 8 _ hz9).mono fun e w8 ⟨c8,c9,h1,h2⟩=>⟨_,h1,c8,c9,rfl,h2⟩) fun a wi u9 hR E=>?_;obtain ⟨c3,c4,rfl,k3,k4,f2,hc8,hc9⟩:=hR;clear hz9;refine n_ (t_ (wpIn_block ?_));have hc3l:=aAf k3;have hc4l:=aAf k4;have f12:Fr (fun b=>b=g) wk wi:=f1.trans' f2 (fun _ _ h=>h.elim);have f13:Fr (fun b=>b=g∨b=nx∨wr.heap.size+2<=b) wk wi:=f12.mono (fun _ _ e => .inl e);have hb3:=f2.obj hb2 id;have hng:nv.ownBlock≠some g:=fun e=>by have:=(H.hO.lt e).1;have:=lo.lg;omega
  have hlg:=lo.lg;have hlx:=lo.lx;have hgx9:=lo.gx;have hgc1:=lo.gc1;have hgc2:=lo.gc2;have hJ0:InI wr wk wi.heap.size g nx c1 c2 c3 c4 C.length cap s k E0.length h N1.length S D E1 cur2 0 wi S1 N1 nv:=⟨hb3,f12.obj H.hx (fun e=>hgx9 e.symm),H.hO.fr f12 (fun b hb9 e=>by rw [e] at hb9;exact hng hb9),fun e=>by have:=(H.hO.lt e).2;have:=f12.size;omega,f12.obj H.k1 (fun e=>hgc1.1 e),f12.obj H.k2 (fun e=>hgc2.1 e),k3,k4,H.hN.fr f12 (fun b hb9 e=>(lo.lS b hb9).2.1 e),H.hN1.fr f12 (fun b hb9 e=>by rcases H.hS1 b hb9 with h9 | h9;exact (lo.lS b h9).2.1 e;omega),H.hS1,fun b hb9=>⟨Nat.lt_of_lt_of_le (H.hSl b hb9).1 f12.size,(H.hSl b hb9).2,by have:=(H.hSl b hb9).1;have:=f12.size;omega⟩,by simpa [aCJ] using H.hP,rfl,f13⟩;have hr8:wi.heap[wr.heap.size+1]?=some (.loop rr):=f12.obj hrr (by omega);have hwk2:wr.heap.size+2<=wk.heap.size:=hwk;have hwki:wk.heap.size<=wi.heap.size:=f12.size;refine aLk hr8 (fun j W=>∃ S2 N2 nw,InI wr wk wi.heap.size g nx c1 c2 c3 c4 C.length cap s k E0.length h N1.length S D E1 cur2 j W S2 N2 nw) (fun v a=>∃ x,v=#[x] /\ Env 73 [(6,x),(32,x),(4,.pointer (some ⟨nx,0,none⟩))] a) E.g0 (enters_of Tryz.func235 (by kernel_rfl) rfl) (aE4 (g:=g) (off:=0+k*s) (N:=E0.length) (cap:=E0.length) (n:=8) (c1:=c3) (c2:=c4) (by omega) (Gk_ _) (by omega) (by omega)) (fun v hv=>by obtain ⟨j,_,rfl⟩:=aH4 (by omega) hv;rfl) ?_ ?_ ⟨S1,N1,nv,hJ0⟩ ?_ ?_ ?_
  ·rintro j W W' ⟨S2,N2,nw,J⟩ f;exact ⟨_,_,_,J.fr lo hwk2 hwki (by omega) (by omega) f⟩
  ·rintro j W ⟨S2,N2,nw,J⟩;exact ⟨J.k3,J.k4⟩
  ·intro l v W K hv hK;obtain ⟨j,_,rfl⟩:=aH4 (by omega) hv;have E:=aKR (d:=32) (x:=chV g (0+k*s) E0.length 8 j) (E.of (L':=[(4,.pointer (some ⟨nx,0,none⟩))]) ⟨E.g6,trivial⟩) (by decide) rfl;refine aAB (by kernel_rfl) (fun ⟨_,_,h⟩=>h) (ep E rfl (a_ rfl E.g0) fun a E=>n_ (hK _ ⟨_,rfl,E⟩))
  ·rintro j v aj wi2 hv ⟨S2,N2,nw,J⟩ ⟨x9,rfl,E⟩ hwj;obtain ⟨hj8,hv3⟩:=aRe (by omega) hv;obtain rfl:x9=chV g (0+k*s) E0.length 8 j:=by simpa using hv3
   obtain ⟨F0,hF0⟩:∃ F0,F0=(E1.drop (j*8)).take 8:=⟨_,rfl⟩;have hF0l:F0.length=min 8 (E0.length-j*8):=by rw [hF0];simp [hEl]
   have hx8:chV g (0+k*s) E0.length 8 j = .slice (some ⟨g,0+k*s+j*8,none⟩) F0.length F0.length:=by rw [hF0l];rfl
   rw [hx8] at E;have hFne:F0≠[]:=by rintro rfl;simp at hF0l;omega
   have hF0g:∀ (i:Nat) c,F0[i]?=some c->E1[j*8+i]?=some c:=fun i c hc=>by rw [hF0,List.getElem?_take] at hc;split at hc;(rw [List.getElem?_drop] at hc;exact hc);cases hc
   have hF0m:∀ c∈F0,c∈D:=fun c hc=>by obtain ⟨i,hi⟩:=List.mem_iff_getElem?.1 hc;exact hE0m c (hE1.mem_iff.1 (Ge_ (hF0g i c hi)))
   have hFc0:∀ (i:Nat) c,F0[i]?=some c->wi2.cell? ⟨g,0+k*s+j*8+i,none⟩=some (ndV c):=fun i c hc=>by rw [aAk J.hb,Nat.add_assoc (0+k*s)];exact hd2 _ _ (hF0g i c hc)
   have hNF0:aDk wi2 S h F0:=J.hN.sub hF0m
   have hsr:aBo aRZ 1 wi2 wi2.heap.size (some ⟨g,0+k*s+j*8,none⟩) F0 := .inr ⟨g,_,rfl,aAf J.hb,fun i c hc m u hu=>by
     match m,hu with
     | 0,hu=>rw [Nat.mul_one,Nat.add_zero];simp at hu;subst hu;exact hFc0 i c hc
     | m+1,hu=>simp at hu⟩
   have hFl:0<F0.length:=by omega
   obtain ⟨q0,hqe⟩:∃ q0,F0[0]?=some q0:=⟨_,Gb_ hFl⟩;have hq0:wi2.cell? ⟨g,0+k*s+j*8+0,none⟩=some (ndV q0):=hFc0 0 q0 hqe;obtain ⟨b0,hb0⟩:∃ b0,b0=q0.2.1:=⟨_,rfl⟩;have hok0:okB b0:=by rw [hb0];exact (hNF0 q0 (Ge_ hqe)).ok
   have hnb0:nb wi2 q0.1 b0:=by rw [hb0];exact (hNF0 q0 (Ge_ hqe)).nb
   refine wpIn_block (wpIn_seq (aDu (G:=Value×Nat) (undef,0) (n:=73) (base:=[(6,.slice (some ⟨g,0+k*s+j*8,none⟩) F0.length F0.length),(32,.slice (some ⟨g,0+k*s+j*8,none⟩) F0.length F0.length),(4,.pointer (some ⟨nx,0,none⟩))]) (U:=[]) (T:=fun γ=>[some (33,.slice (some ⟨g,0+k*s+j*8,none⟩) F0.length F0.length),some (34,.pointer (some ⟨g,(0+k*s+j*8+0),none⟩)),some (35,.pointer (some ⟨q0.1,0,none⟩)),some (36,.pointer (some ⟨q0.1,0,none⟩)),some (37,.pointer (some ⟨q0.1,0,none⟩)),some (38,.agg (bxC b0)),some (39,.slice (some ⟨g,0+k*s+j*8,none⟩) F0.length F0.length),some (40,γ.1),some (41,.agg (ndC b0 γ.1)),some (42,.pointer (some ⟨γ.2,0,none⟩)),some (7,.pointer (some ⟨γ.2,0,none⟩))]) (M:=fun γ ls9 wm=>Fr nF_ wi2 wm /\ (ls9 7=true->oNd wm wi2.heap.size γ.1 F0) /\ (ls9 9=true->wi2.heap.size<=γ.2 /\ γ.1.ownBlock≠some γ.2 /\ ndB wm γ.2 b0 γ.1)) (by kernel_rfl) (fun ⟨_,_,h⟩=>h) (by kernel_rfl) (by kernel_rfl) (fun _=>by kernel_rfl) (E.of ⟨E.g0,E.g1,E.g2,trivial⟩) (fun x hx=>by cases hx) ⟨(Fr.refl _ _).drew,fun h=>absurd h Bool.false_ne_true,fun h=>absurd h Bool.false_ne_true⟩ ?_ ?_))
   ·intro j9 o9 γ ls9 a w5 ho hl E D DL DL2 hB hM;have hsr:=hsr.fr hM.1 (fun _ _ h=>h);have hq0:=hM.1.cell hq0 id;have hnb0:=hnb0.fr hM.1 id
    match j9,ho,hl,D,DL,hB with
    | 0,ho,hl,D,DL,hB=>exact z0_ ho (aAs rfl (m_ rfl E.g0) rfl hM)
    | 1,ho,hl,D,DL,hB=>exact z0_ ho (aAs rfl (aC2 (i:=0) rfl (D 0 _ rfl rfl) rfl hFl) rfl hM)
    | 2,ho,hl,D,DL,hB=>exact z0_ ho (aAs rfl (aAV rfl (D 1 _ rfl rfl) hq0) rfl hM)
    | 3,ho,hl,D,DL,hB=>exact z0_ ho (aAs rfl (i_ rfl (D 2 _ rfl rfl)) rfl hM)
    | 4,ho,hl,D,DL,hB=>exact z0_ ho (aAs rfl (aBF rfl (D 3 _ rfl rfl)) rfl hM)
    | 5,ho,hl,D,DL,hB=>exact z0_ ho (aAs rfl (aBr rfl (D 4 _ rfl rfl) hnb0) rfl hM)
    | 6,ho,hl,D,DL,hB=>exact z0_ ho (aAs rfl (m_ rfl E.g0) rfl hM)
    | 7,ho,hl,D,DL,hB=>exact z0_ ho (aRg (aBj (enters_of Tryz.func199 (by kernel_rfl) rfl) rfl rfl (D 6 _ rfl rfl)) ((aJP hsr (by omega)).mono fun e9 w9 ⟨v9,h8,h9,h10⟩=>⟨v9,h8,(⟨h9.base hM.1.size,h10⟩:oNd w9 wi2.heap.size v9 F0 /\ Fr nF_ w5 w9)⟩) rfl fun v9 w9 f9=>⟨(v9,γ.2),rfl,(fun j hj=>match j,hj with | 0,_=>rfl | 1,_=>rfl | 2,_=>rfl | 3,_=>rfl | 4,_=>rfl | 5,_=>rfl | 6,_=>rfl | 7,hj=>absurd (hl.symm.trans hj) (by decide) | 8,hj=>absurd (hl.symm.trans (DL2 8 7 rfl hj)) (by decide) | 9,_=>rfl | 10,_=>rfl | e9+11,_=>rfl),⟨hM.1.trans' f9.2 (fun _ _ h=>h.elim),fun _=>f9.1,fun h=>absurd (DL2 9 8 rfl h) (fun e=>by have:=DL2 8 7 rfl e;rw [hl] at this;cases this)⟩⟩)
    | 8,ho,hl,D,DL,hB=>exact z0_ ho (aAs rfl (aJn (aNu (hM.2.1 (DL 7 rfl))) rfl (D 5 _ rfl rfl) (D 7 _ rfl rfl)) rfl hM)
    | 9,ho,hl,D,DL,hB =>
     obtain rfl:=Gi_ ho;clear ho;have hO8:=hM.2.1 (DL2 8 7 rfl (DL 8 rfl));exact ⟨fun _=>aLm (γ.1,w5.heap.size) rfl (aMU rfl (D 8 _ rfl rfl)) rfl (fun j hj=>match j,hj with | 0,_=>rfl | 1,_=>rfl | 2,_=>rfl | 3,_=>rfl | 4,_=>rfl | 5,_=>rfl | 6,_=>rfl | 7,_=>rfl | 8,_=>rfl | 9,hj=>absurd (hl.symm.trans hj) (by decide) | 10,hj=>absurd (hl.symm.trans (DL2 10 9 rfl hj)) (by decide) | e9+11,_=>rfl) ⟨hM.1.trans' ((Fr.refl nF_ w5).alloc _) (fun _ _ h=>h.elim),fun h=>ow.fr (hM.2.1 h) ((Fr.refl nF_ w5).alloc _) (fun _ _ h=>h),fun _=>⟨hM.1.size,fun e=>by have:=(hO8.lt e).2;omega,aAi _ _⟩⟩,fun h=>by rw [aAb rfl] at h;cases h⟩
    | 10,ho,hl,D,DL,hB=>exact z0_ ho (aAs rfl (a_ rfl (D 9 _ rfl rfl)) rfl hM)
    | j9+11,ho,hl,D,DL,hB=>exact absurd ho (by simp)
   ·rintro ⟨γ36a,γ36b⟩ a wu E V hM;have E:=E.add (v := .pointer (some ⟨γ36b,0,none⟩)) (V 10 _ rfl);clear V;have hOa:=hM.2.1 rfl;obtain ⟨hul,hau,hu⟩:=hM.2.2 rfl;have fu:=hM.1;generalize γ36b=u at E hul hau hu;generalize γ36a=va at E hOa hau hu;clear hM hsr hq0 hnb0;have hgu:g≠u:=by have:=aAf J.hb;omega
    have hFc:=fun i c hc=>fu.cell (hFc0 i c hc) id;have hNF:=hNF0.fr fu (fun _ _ h=>h);have hFu:∀ c∈F0,c.1≠u:=fun c hc=>by have:=(lo.lS _ (hNF0 c hc).mem).1;omega
    clear hFc0 hNF0;refine t_ (wpIn_seq (wpIn_seq (aAB (by kernel_rfl) (fun ⟨_,_,h⟩=>h) (ep E rfl (m_ rfl E.g1) fun a E=>ep (v := .int .i64 (F0.length:Int)) E rfl (aB4 rfl E.g0) fun a E=>ep (v := .int .i64 0) E rfl (m_ rfl rfl) fun a E=>n_ (t_ (wpIn_block (wpIn_loop (fun a w2=>∃ (i:Nat),Env 73 [(45,.int .i64 (i:Int)),(44,.int .i64 (F0.length:Int)),(43,.slice (some ⟨g,0+k*s+j*8,none⟩) F0.length F0.length),(7,.pointer (some ⟨u,0,none⟩)),(4,.pointer (some ⟨nx,0,none⟩))] a /\ i<=F0.length /\ ndB w2 u (aGz b0 (F0.take i)) va /\ Fr (fun b=>b=u) wu w2) (fun a _=>F0.length-(intOf (a.eval (.tmp 45))).toNat) ?_ ?_)))))))
    ·exact ⟨0,E.of ⟨E.g0,E.g1,E.g2,E.g3,E.g6,trivial⟩,Gg_ _,hu,Fr.refl _ _⟩
    clear E;rintro a w2 ⟨i,E,hi,hu,hF⟩;have hmu:F0.length-(intOf (a.eval (.tmp 45))).toNat=F0.length-i:=by rw [E.g0];first | rfl | (simp [intOf];done) | (simp only [intOf];omega)
    rw [hmu];clear hmu;refine wpIn_seq (aAB (by kernel_rfl) (fun ⟨_,_,h⟩=>h) (ep (v := .bool (decide ((i:Int)<(F0.length:Int)))) E rfl (aBs E.g0 E.g1 u3_ rfl) fun a E=>n_ (t_ (wpIn_seq ?_))));cases hq38:(decide ((i:Int)<(F0.length:Int)))
    ·rw [hq38] at E;have hie:i=F0.length:=by have:=of_decide_eq_false hq38;omega
     rw [hie,List.take_length] at hu;refine wpIn_cond_false E.g0 (wpIn_exit (te_ (te_ (be_ (t_ ?_)))));have hx9:=hF.obj (fu.obj J.hx id) (fun e=>by have:=aAf J.hx;omega);have hOw:=(J.hO.fr fu (fun _ _ h=>h)).fr hF (fun b hb9 e=>by have:=(J.hO.lt hb9).2;omega);have hx:=hx9;refine aAB (by kernel_rfl) (fun ⟨_,_,h⟩=>h) (ep (v:=nw) E rfl (aBf rfl E.g5 (bx hx 0 rfl)) fun a E=>ep E rfl (m_ rfl E.g5) fun a E=>aI3 (c:=(u,aGz b0 F0,aCJ F0)) (d:=64) E rfl (by decide) rfl (aAb rfl _) rfl E.g0 fun a w1 bo hso f3 E=>?_);have hwuz:=fu.size;have hwvz:=hF.size;have hwwz:=f3.size;have hOx:=hOw.fr f3 (fun _ _ h=>h);refine aGa (d:=65) E rfl (by decide) rfl rfl rfl E.g2 hOx E.g0 hso (fun h=>by cases h) (by have:=J.hc;have:=H.hc.1;simp;omega) (by omega) fun a w3 v9 hO9 f4 hloc E=>?_;have hx9:=f4.obj (f3.obj hx9 id) (fun e=>by have:=(J.hO.lt e).1;have:=lo.lx;omega);obtain ⟨pn,cn,hvv,_⟩:=hO9.src aEG;refine aCV E rfl (aAb rfl _) (aPi hvv rfl E.g9 E.g0 (bx hx9 0 rfl) (aAm hx9 0)) fun E=>?_;clear hvv;refine n_ (b_ ?_);obtain ⟨S3,hS3⟩:∃ S3:Nat->Prop,S3=fun b=>S2 b∨b=u∨va.ownBlock=some b∨S b:=⟨_,rfl⟩;refine aQ7 ⟨⟨S3,N2++[(u,aGz b0 F0,aCJ F0)],v9,?_⟩,?_⟩
     ·exact aSr lo hwk2 hwki hwj hul hau J hF0 hFne hok0 hOa hNF hu fu hF f3 f4 hO9 hloc hx9 hS3
     ·exact aUf lo hwk2 hwki hwj hul J fu hF f3 f4 v9
    rw [hq38] at E;have hi3:i<F0.length:=by have:=of_decide_eq_true hq38;omega
    obtain ⟨q,hq⟩:∃ q,F0[i]?=some q:=⟨_,Gb_ hi3⟩;have hqc:=hF.cell (hFc i q hq) hgu;have hqm:=Ge_ hq;have hnbq:nb w2 q.1 q.2.1:=(hNF q hqm).nb.fr hF (fun e=>hFu q hqm e);refine wpIn_cond_true E.g0 (wpIn_skip (t_ (wpIn_seq (wpIn_block (wpIn_seq (aAB (by kernel_rfl) (fun ⟨_,_,h⟩=>h) (ep (v := .pointer (some ⟨g,(0+k*s+j*8+i),none⟩)) E rfl (aC2 (i:=i) rfl E.g3 E.g1 hi3) fun a E=>ep (v := .pointer (some ⟨q.1,0,none⟩)) E rfl (aAV rfl E.g0 hqc) fun a E=>ep E rfl (a_ rfl E.g0) fun a E=>n_ (t_ (aDu (G:=Unit) () (n:=73) (base:=[(7,.pointer (some ⟨u,0,none⟩)),(9,.pointer (some ⟨q.1,0,none⟩)),(45,.int .i64 (i:Int)),(44,.int .i64 (F0.length:Int)),(43,.slice (some ⟨g,0+k*s+j*8,none⟩) F0.length F0.length),(4,.pointer (some ⟨nx,0,none⟩))]) (U:=[]) (T:=fun γ=>[some (49,.pointer (some ⟨u,0,none⟩)),some (50,.pointer (some ⟨u,0,none⟩)),some (51,.pointer (some ⟨u,0,none⟩)),some (52,.pointer (some ⟨u,0,none⟩)),some (53,.agg (bxC (aGz b0 (F0.take i)))),some (54,.pointer (some ⟨q.1,0,none⟩)),some (55,.pointer (some ⟨q.1,0,none⟩)),some (56,.pointer (some ⟨q.1,0,none⟩)),some (57,.agg (bxC q.2.1)),some (58,.agg (bxC (arB (aGz b0 (F0.take i)) q.2.1))),some (59,.pointer (some ⟨u,0,none⟩)),some (60,.pointer (some ⟨u,0,none⟩)),none]) (M:=fun γ ls9 wm=>Fr (fun b=>b=u) w2 wm /\ ndB wm u (bif ls9 12 then (arB (aGz b0 (F0.take i)) q.2.1) else (aGz b0 (F0.take i))) va) (by kernel_rfl) (fun ⟨_,_,h⟩=>h) (by kernel_rfl) (by kernel_rfl) (fun _=>by kernel_rfl) (E.of ⟨E.g7,E.g0,E.g4,E.g5,E.g6,E.g8,trivial⟩) (fun x hx=>by cases hx) ⟨(Fr.refl _ _).drew,(Fr.refl nF_ _).drew.obj hu id⟩ ?_ ?_)))))))))
    ·intro j9 o9 γ ls9 a w5 ho hl E D9 DL DL2 hB hM;have hnq:=hnbq.fr hM.1 (fun e=>hFu q hqm e)
     match j9,ho,hl,D9,DL,hB with
     | 0,ho,hl,D9,DL,hB =>
      obtain rfl:=Gi_ ho;exact ⟨fun _=>aAs rfl (m_ rfl E.g0) rfl hM,fun h=>by rw [aAb rfl] at h;cases h⟩
     | 1,ho,hl,D9,DL,hB =>
      obtain rfl:=Gi_ ho;exact ⟨fun _=>aAs rfl (m_ rfl E.g0) rfl hM,fun h=>by rw [aAb rfl] at h;cases h⟩
     | 2,ho,hl,D9,DL,hB =>
      obtain rfl:=Gi_ ho;exact ⟨fun _=>aAs rfl (i_ rfl (D9 1 _ rfl rfl)) rfl hM,fun h=>by rw [aAb rfl] at h;cases h⟩
     | 3,ho,hl,D9,DL,hB =>
      obtain rfl:=Gi_ ho;exact ⟨fun _=>aAs rfl (aBF rfl (D9 2 _ rfl rfl)) rfl hM,fun h=>by rw [aAb rfl] at h;cases h⟩
     | 4,ho,hl,D9,DL,hB =>
      have h9:ls9 12=false:=by
       cases h8:ls9 12 with
       | false=>rfl
       | true=>exact absurd (hl.symm.trans (DL2 9 4 rfl (DL2 12 9 rfl h8))) (by decide)
      have h7:=hM.2;rw [h9] at h7;obtain rfl:=Gi_ ho;exact ⟨fun _=>aAs rfl (aBr rfl (D9 3 _ rfl rfl) (aPy (p:=(aGz b0 (F0.take i))) h7 0 rfl rfl rfl rfl)) rfl hM,fun h=>by rw [aAb rfl] at h;cases h⟩
     | 5,ho,hl,D9,DL,hB =>
      obtain rfl:=Gi_ ho;exact ⟨fun _=>aAs rfl (m_ rfl E.g1) rfl hM,fun h=>by rw [aAb rfl] at h;cases h⟩
     | 6,ho,hl,D9,DL,hB =>
      obtain rfl:=Gi_ ho;exact ⟨fun _=>aAs rfl (i_ rfl (D9 5 _ rfl rfl)) rfl hM,fun h=>by rw [aAb rfl] at h;cases h⟩
     | 7,ho,hl,D9,DL,hB =>
      obtain rfl:=Gi_ ho;exact ⟨fun _=>aAs rfl (aBF rfl (D9 6 _ rfl rfl)) rfl hM,fun h=>by rw [aAb rfl] at h;cases h⟩
     | 8,ho,hl,D9,DL,hB =>
      obtain rfl:=Gi_ ho;exact ⟨fun _=>aAs rfl (aBr rfl (D9 7 _ rfl rfl) hnq) rfl hM,fun h=>by rw [aAb rfl] at h;cases h⟩
     | 9,ho,hl,D9,DL,hB =>
      obtain rfl:=Gi_ ho
      exact ⟨fun _=>aH6 rfl (aAE (enters_of Tryz.func200 (by kernel_rfl) rfl) rfl rfl (D9 4 _ rfl rfl) (D9 8 _ rfl rfl)) (aIM _ _ _) rfl fun w9 f1=>⟨hM.1.trans' f1 (fun _ _ h=>h.elim),by
       have h6:=f1.obj hM.2 id
       have h5:ls9 12=false:=by
        cases h8:ls9 12 with
        | false=>rfl
        | true=>exact absurd (hl.symm.trans (DL2 12 9 rfl h8)) (by decide)
       exact h6⟩,fun h=>by rw [aAb rfl] at h;cases h⟩
     | 10,ho,hl,D9,DL,hB =>
      obtain rfl:=Gi_ ho;exact ⟨fun _=>aAs rfl (i_ rfl (D9 0 _ rfl rfl)) rfl hM,fun h=>by rw [aAb rfl] at h;cases h⟩
     | 11,ho,hl,D9,DL,hB =>
      obtain rfl:=Gi_ ho;exact ⟨fun _=>aAs rfl (aBF rfl (D9 10 _ rfl rfl)) rfl hM,fun h=>by rw [aAb rfl] at h;cases h⟩
     | 12,ho,hl,D9,DL,hB =>
      have h7:=hM.2;rw [hl] at h7;obtain rfl:=Gi_ ho;exact ⟨fun _=>aDz rfl (aMC rfl (D9 11 _ rfl rfl) (D9 9 _ rfl rfl) h7) rfl ⟨hM.1.trans' (Fr.one4 _ _ _ _ _ _) (fun _ _ e=>e),ndB.set h7 _⟩,fun h=>by rw [aAb rfl] at h;cases h⟩
     | j9+13,ho,hl,D9,DL,hB=>exact absurd ho (by simp)
    ·rintro _ a w6 E V hM;clear V;have hu:ndB w6 u (arB (aGz b0 (F0.take i)) q.2.1) va:=hM.2;have hF:=hF.trans' hM.1 (fun _ _ e=>e);rw [←aOA hq] at hu;clear hM;refine b_ (t_ (aAB (by kernel_rfl) (fun ⟨_,_,h⟩=>h) (ep (v := .int .i64 ((i:Int)+1)) E rfl (aAS u3_ E.g2 rfl (by omega) (by omega) rfl) fun a E=>es_ E rfl (m_ rfl E.g0) fun a E=>n_ (t_ ?_))));refine ⟨⟨i+1,E.of ⟨E.g0,E.g4,E.g5,E.g2,E.g6,trivial⟩,by omega,hu,hF⟩,?_⟩;rw [E.g0];simp only [intOf];omega
  ·rintro W ⟨S2,N2,nw,J⟩;refine b_ (b_ ?_);have hjl:=aOl (g:=g) (off:=0+k*s) (N:=E0.length) (n:=8) (by omega);rw [hjl] at J;refine aQ7 ⟨⟨S2,N2,nw,cur2,?_⟩,?_⟩
   ·exact aP5 hDl H J hks hE0 hE0l hE1 hout hs8 hlt1
   ·exact aRQ lo J hwk2
 ·rintro W ⟨S1,N1,nv,cr,H⟩ hDk;have E:=aQe (D:=wr.heap.size) E;have hkl:=aOl (g:=g) (off:=0) (N:=C.length) hs1;rw [hkl] at H;obtain ⟨pn,cn,hvn,_,_,_,_⟩:=H.hO.src aEG;subst hvn;have hPe:=H.hP;have hcl:=H.hc;have hkk:=aOm (N:=C.length) hs1;rw [Gc_ (by rw [hDl];exact hkk)] at hPe;have hk1:1<=(C.length+s-1) / s:=aS2 hs1 (by omega);have hcl2:=hcl.2 hk1;rw [Nat.min_eq_right hkk] at hcl2;have hPn:(aCJ N1).Perm (aCJ C0):=(hPe.trans hPD).trans hP;have hN1:=H.hN1;have hOn:oNd W 0 (.slice pn N1.length cn) N1:=H.hO.base (Gg_ _);have hnm:¬ aBN ds wr.heap.size:=fun hk=>by have:=aAf (hm.at hk);omega
  have hmn:=((hm.fr H.hf (fun b hk e=>by have h9:=hm.at hk;rcases e with e | e;(subst e;rw [h9] at hb;cases hb);(subst e;rw [h9] at hx;cases hx))).cons hDk hnm);have hwl:w.heap.size<=wr.heap.size:=hT.size;have hmwn:∀ b,aBN (mkD wr.heap.size::ds) b->w.heap.size<=b:=fun b hk=>by rcases aBR.1 hk with rfl | hk;exact hwl;exact hmw b hk
  have hSn:∀ b,S1 b->b<W.heap.size /\ (Value.slice pn N1.length cn).ownBlock≠some b /\ ¬ aBN (mkD wr.heap.size::ds) b:=fun b hb9=>⟨(H.hSl b hb9).1,(H.hSl b hb9).2,fun hk=>by
    rcases H.hS1 b hb9 with h9 | h9
    ·rcases aBR.1 hk with rfl | hk
     ·have:=(lo.lS _ h9).1;omega
     ·exact (hS b h9).2.2 hk
    ·rcases aBR.1 hk with rfl | hk
     ·omega
     ·have:=aAf (hm.at hk);omega⟩
  have hS0n:∀ b,S1 b->S0 b∨w.heap.size<=b:=fun b hb9=>by rcases H.hS1 b hb9 with h9 | h9;exact hS0 b h9;exact .inr (by omega)
  have hTn:=hT.trans' H.hf (fun r hr e=>by rcases e with e | e;(rcases hvb g rfl with h9 | h9;(rw [e];exact h9);omega);omega);have hvn:∀ b,(Value.slice pn N1.length cn).ownBlock=some b->v0.ownBlock=some b∨w.heap.size<=b:=fun b hb9 => .inr (by have:=(H.hO.lt hb9).1;omega);have hx:=H.hx;refine b_ (t_ (r_ (ep (v := .slice pn N1.length cn) E rfl (aBf rfl E.g3 (bx hx 0 rfl)) fun a E=>es_ E rfl (a_ rfl E.g0) fun a E=>n_ (b_ (t_ ?_)))));refine ⟨⟨pn,cn,N1,h+1,S1,_,E.of ⟨E.g0,E.get 14 rfl,trivial⟩,hOn,hN1,hSn,hS0n,hmn,hmwn,hPn,by omega,hTn,hvn⟩,?_⟩;rw [E.g0];simp only [lenOf];omega
theorem aMg {P:Program}{K t e:TypeId}(ht:P.underlying t=some (.map K e)) {w:World}{b n:Nat}{m}(h:aEj P K w b n m) :
  ∃ o cnt,(Instr.range t (.map (some b))).run P w = .ok (.pointer (some ⟨w.heap.size,0,none⟩)) (w.alloc o) /\ Rng P K (w.alloc o) b w.heap.size m (fun k=>(m k).isSome=true) cnt /\ cnt<=n:=by
 have hlt:=h.lt;obtain ⟨es,clock,hb,h,hs⟩:=h;refine ⟨_,_,run_range_map w t K e b es clock ht hb,⟨es,clock,clock,#[],clock,(aCc hlt _).trans hb,h,aAi _ _,h.born,rfl,fun x hx=>?_,fun k hk=>?_,Gk_ _,Gk_ _⟩,?_⟩
 ·show (m x.key).isSome=true↔_;rw [(h.at_ x.key x.val).2 ⟨x,hx,rfl,rfl⟩];simp
 ·obtain ⟨v,hv⟩:=Option.isSome_iff_exists.1 hk;obtain ⟨x,hx,h1,_⟩:=(h.at_ k v).1 hv;exact ⟨x,hx,h1⟩
 ·unfold leftOf;exact Gn_ (Array.size_filter_le ..) hs
section
variable {o:Oper}{w w':World}{ρ:Operand->Value}{x y:Operand}{b:Bx}{s:ByteArray}{v:Value}{r:Nat}
theorem aKy (h:(Instr.next (.pointer (some ⟨r,0,none⟩)) false o.type).run Tryz.prog w = .ok v w') (ho:o.op = .next x false) (hx:ρ x = .pointer (some ⟨r,0,none⟩)):(execOp ρ o).run Tryz.prog w = .ok (.value v) w':=by
 simp [execOp,ho,hx,h,Result.andThen]
theorem aMO (h:(Instr.entry (.pointer (some ⟨r,0,none⟩))).run Tryz.prog w = .ok v w') (ho:o.op = .entry x) (hx:ρ x = .pointer (some ⟨r,0,none⟩)):(execOp ρ o).run Tryz.prog w = .ok (.value v) w':=by
 simp [execOp,ho,hx,h,Result.andThen]
theorem aJi {mb:Nat}(h:(Instr.range 180 (.map (some mb))).run Tryz.prog w = .ok v w') (ho:o.op = .range 180 x) (hx:ρ x = .map (some mb)):(execOp ρ o).run Tryz.prog w = .ok (.value v) w':=by
 simp [execOp,ho,hx,h,Result.andThen]
theorem aFm {k:Nat}{vs:Array Value}(hk:vs[k]?=some v) (ho:o.op = .extract x k) (hx:ρ x = .tuple vs):(execOp ρ o).run Tryz.prog w = .ok (.value v) w:=by
 simp [execOp,ho,hx,go_sem,hk]
abbrev lfC (b:Bx) (s:ByteArray):Array Value:=#[.int .i64 b.1.1,.int .i64 b.1.2,.int .i64 b.2.1,.int .i64 b.2.2,.string s,.slice none 0 0]
theorem aLz (ho:o.op = .build 161 #[(0,x),(1,y)]) (hx:ρ x = .agg (bxC b)) (hy:ρ y = .string s):(execOp ρ o).run Tryz.prog w = .ok (.value (.agg (lfC b s))) w:=by
 simp [execOp,ho,hx,hy,go_sem]
theorem aL2 (ho:o.op = .box 161 x) (hx:ρ x = .agg (lfC b s)):(execOp ρ o).run Tryz.prog w = .ok (.value (.pointer (some ⟨w.heap.size,0,none⟩))) (w.alloc (.cells (lfC b s) 161)):=by
 simp [execOp,ho,hx,go_sem]
theorem aPk {p0:Option Addr}{u:Value}{g off:Nat}(ho:o.op = .store 157 x y) (hx:ρ x = .pointer (some ⟨g,off,none⟩)) (hy:ρ y = .pointer p0) (hc:w.cell? ⟨g,off,none⟩=some u) (hz:w.frozen? ⟨g,off,none⟩=false):(execOp ρ o).run Tryz.prog w = .ok .skip (w.setCell ⟨g,off,none⟩ (.pointer p0)):=by
 simp [execOp,ho,hx,hy,go_sem,hc,hz]
end
def aVT (w:World) (p mb N:Nat) (S:Nat->Prop) (m:ByteArray->Option Bx) (e:Ending) (w':World):Prop :=
 ∃ S' rv',e = .returned rv' /\ IxAt w' p mb N S' m rv' true /\ Fr (fun k=>k=p) w w' /\ ∀ k,S' k->S k∨w.heap.size<=k
def aTa (m:ByteArray->Option Bx) (left:Value->Prop) (L:List En):Prop:=(L.map (·.1)).Nodup /\ ∀ s b,(s,b)∈L↔m s=some b /\ ¬ left (.string s)
theorem aTa.start {m:ByteArray->Option Bx}:aTa m (fun k=>(bxM m k).isSome=true) []:=by
 refine ⟨List.nodup_nil,fun s b=>⟨fun h=>(by cases h),fun h=>absurd ?_ h.2⟩⟩;show (bxM m (.string s)).isSome=true;rw [aH8,h.1];rfl
theorem aTa.next {m:ByteArray->Option Bx}{left:Value->Prop}{L:List En}(h:aTa m left L) {s:ByteArray}{b:Bx}(hl:left (.string s)) (hm:m s=some b):aTa m (fun x=>left x /\ x ≠ .string s) (L++[(s,b)]):=by
 refine ⟨?_,fun t c=>?_⟩
 ·rw [List.map_append,List.nodup_append];refine ⟨h.1,by simp,?_⟩;intro x hx y hy e;simp at hy;subst hy;subst e;obtain ⟨z,hz,hze⟩:=List.mem_map.1 hx;exact ((h.2 z.1 z.2).1 hz).2 (by rw [hze];exact hl)
 ·rw [List.mem_append,h.2];constructor
  ·rintro (⟨h1,h2⟩ | h1)
   ·exact ⟨h1,fun h3=>h2 h3.1⟩
   ·simp at h1;obtain ⟨rfl,rfl⟩:=h1;exact ⟨hm,fun h3=>h3.2 rfl⟩
  ·rintro ⟨h1,h2⟩
   by_cases ht:t=s
   ·subst ht;rw [hm] at h1;cases h1;exact .inr (by simp)
   ·refine .inl ⟨h1,fun h3=>h2 ⟨h3,fun e=>ht ?_⟩⟩;simpa using e
theorem aTa.ends {m:ByteArray->Option Bx}{left:Value->Prop}{L:List En}(h:aTa m left L) (hn:∀ k,¬ left k):aOO L m:=⟨h.1,fun s b=>⟨fun h2=>((h.2 s b).1 h2).1,fun h2=>(h.2 s b).2 ⟨h2,hn _⟩⟩⟩
theorem aOO.perm {m:ByteArray->Option Bx}{L K:List En}(h:aOO L m) (hp:K.Perm L):aOO K m:=⟨(hp.map _).nodup_iff.2 h.1,fun s b=>by rw [hp.mem_iff];exact h.2 s b⟩
set_option maxRecDepth 100000 in
set_option maxHeartbeats 4000000 in
theorem aG3 {w:World}{p mb N:Nat}{S0:Nat->Prop}{m:ByteArray->Option Bx}{rv:Value}{pk:Bool}(h:IxAt w p mb N S0 m rv pk) (hNb:N<=100000):Calls Tryz.prog 109 #[.pointer (some ⟨p,0,none⟩)] w (aVT w p mb N S0 m):=by
 refine aBU Tryz.func109 rfl rfl (n:=40) (by decide) fun a E=>?_;have hf:Fr nF_ w w:=Fr.refl _ _;have hpl:p<w.heap.size:=aAf h.hp;have hml:mb<w.heap.size:=h.hm.lt;have hσ:∀ k,S0 k->k<w.heap.size:=h.lt;refine s_ (r_ (ep (v:=(Value.pointer none)) E rfl (a_ rfl rfl) fun a E=>n_ (t_ (s_ (s_ (r_ (ep E rfl (m_ rfl E.g1) fun a E=>ep E rfl (i_ rfl E.g0) fun a E=>ep (v := .pointer (some ⟨p,2,none⟩)) E rfl (aNQ rfl E.g0) fun a E=>ep (v := .bool pk) E rfl (aMN rfl E.g0 (bx h.hp 2 rfl)) fun a E=>ep (v := .bool (!pk)) E rfl (aBP rfl E.g0) fun a E=>n_ (t_ ?_))))))))
 cases hq34:pk with
 | false =>
  rw [hq34] at E;rw [hq34] at h;refine c_t E.g0 (s_ (r_ (ep (v := .slice none 0 0) E rfl (a_ rfl rfl) fun a E=>n_ (t_ (s_ (s_ (r_ (ep E rfl (m_ rfl E.g7) fun a E=>ep E rfl (i_ rfl E.g0) fun a E=>ep (v := .pointer (some ⟨p,0,none⟩)) E rfl (aNR rfl E.g0) fun a E=>ep (v := .map (some mb)) E rfl (aHf rfl E.g0 (bx h.hp 0 rfl)) fun a E=>?_))))))));obtain ⟨oi,cnt,hrun,hr,hcn⟩:=aMg u180_ h.hm;have f1:Fr nF_ w (w.alloc oi):=(Fr.refl _ _).alloc _;refine ep (v := .pointer (some ⟨w.heap.size,0,none⟩)) E rfl (aJi hrun rfl E.g0) fun a E=>?_;have h:=IxAt.fr h f1 id id (fun _ _ h=>h);have hf:=hf.trans f1;obtain ⟨r,hre⟩:∃ r,r=w.heap.size:=⟨_,rfl⟩;rw [←hre] at E hr;obtain ⟨wr,hwr⟩:∃ wr,wr=w.alloc oi:=⟨_,rfl⟩;rw [←hwr] at h hf hr ⊢;have hrl:r<wr.heap.size:=hr.lt;clear hrun f1 hwr;refine n_ (t_ (bk_ (wp_loop (fun a w2=>∃ (C:List Nd) (S:Nat->Prop) (v:Value) (left:Value->Prop) (cnt:Nat),Env 40 [(15,.pointer (some ⟨r,0,none⟩)),(3,v),(2,Value.pointer none),(0,.pointer (some ⟨p,0,none⟩))] a /\ Rng Tryz.prog 9 w2 mb r (bxM m) left cnt /\ oNd w2 (r+1) v C /\ aDk w2 S 0 C /\ (∀ k,S k->r<k /\ k<w2.heap.size /\ v.ownBlock≠some k) /\ aTa m left (aCJ C) /\ C.length+cnt<=N /\ IxAt w2 p mb N S0 m rv false /\ Fr nF_ w w2) (fun _ w9=>w9.rangeLeft mb r) ?_ ?_)))
  ·exact ⟨[],fun _=>False,.slice none 0 0,_,cnt,E.of ⟨E.g0,E.g5,E.g11,E.get 12 rfl,trivial⟩,hr,aDo _,(fun c hc=>by cases hc),(fun k hk=>hk.elim),aTa.start,by simpa using hcn,h,hf⟩
  clear E hr h hf hcn;rintro a w2 ⟨C,S,v,left,cnt,E,hr,hO,hN,hS,hE,hcn,h,hf⟩;rw [hr.left_eq];rcases hr.next 0 with ⟨hno,hrun⟩ | ⟨key,v9,wN,cnt2,hl9,hm9,⟨l9,hk9⟩,hrun,hr2,hc9,f9,hent⟩
  ·skip
   refine s_ (r_ (ep (v := .tuple #[.bool false]) E rfl (aKy hrun rfl E.g0) fun a E=>ep (v := .bool false) E rfl (aFm (v := .bool false) rfl rfl E.g0) fun a E=>n_ (t_ (s_ (c_f E.g0 (x_ (te_ (te_ (be_ (t_ (r_ (ep E rfl (m_ rfl E.g5) fun a E=>ep E rfl (m_ rfl E.g6) fun a E=>ep E rfl (m_ rfl E.g5) fun a E=>aB5 (d:=31) (R:=fun u w8=>aU8 w2 S v C (.returned u) w8) E rfl (by decide) rfl (aAb rfl _) (aBj (enters_of Tryz.func150 (by kernel_rfl) rfl) rfl rfl E.g0) ((aLC hO hN (fun k hk=>⟨(hS k hk).2.1,(hS k hk).2.2⟩) (by omega)).mono fun e w8 hh=>by obtain ⟨u,h1,h2⟩:=hh;exact ⟨u,h1,u,rfl,h2⟩) fun a wp u9 hR E=>?_))))))))))));obtain ⟨rv2,hrv,fP,hcase⟩:=hR;obtain rfl:u9=rv2:=by injection hrv
   obtain ⟨rp,hrp⟩:∃ rp,u9 = .pointer rp:=by
    rcases hcase with ⟨e,_⟩ | ⟨S5,n5,p5,b5,L5,e,_⟩
    ·exact ⟨_,e⟩
    ·exact ⟨_,e⟩
   rw [hrp] at E;have hp9:=fP.obj h.hp (fun e=>by have:=(hO.lt e).1;omega);refine ep E rfl (i_ rfl E.g3) fun a E=>ep (v := .pointer (some ⟨p,1,none⟩)) E rfl (aKN rfl E.g0) fun a E=>aCV E rfl (aAb rfl _) (aPk rfl E.g0 E.g2 (bx hp9 1 rfl) (aAm hp9 1)) fun E=>?_;have hp8:=aAh (off:=1) hp9 (.pointer rp);have g1:Fr (fun k=>k=p) wp (wp.setCell ⟨p,1,none⟩ (.pointer rp)):=(Fr.refl (fun k=>k=p) wp).setCell (p:=⟨p,1,none⟩) (fun _=>rfl) _;generalize wp.setCell ⟨p,1,none⟩ (.pointer rp)=wq at hp8 g1 ⊢;refine ep E rfl (i_ rfl E.g4) fun a E=>ep (v := .pointer (some ⟨p,2,none⟩)) E rfl (aNQ rfl E.g0) fun a E=>aCV E rfl (aAb rfl _) (aRG rfl E.g0 rfl (bx hp8 2 rfl) (aAm hp8 2)) fun E=>?_;have hp7:=aAh (off:=2) hp8 (.bool true);have g2:=g1.setCell (p:=⟨p,2,none⟩) (fun _=>rfl) (.bool true);generalize wq.setCell ⟨p,2,none⟩ (.bool true)=wz at hp7 g2 ⊢;refine n_ (t_ (s_ ?_));have hrl9:=hr.lt;have hmn:=aTa.ends hE hno;have fO:Fr nF_ w wp:=hf.trans' fP (fun r1 hr1 e=>by have:=(hO.lt e).1;omega)
   have hN9:∃ S9:Nat->Prop,(∀ k,S9 k->k<wp.heap.size /\ r<k) /\ aLh wp S9 (.pointer rp) m:=by
    rcases hcase with ⟨e,e2⟩ | ⟨S5,n5,p5,b5,L5,e,hN5,hP5,hS5⟩
    ·refine ⟨fun _=>False,fun _ h=>h.elim,.inl ⟨by rw [←hrp,e],fun s=>?_⟩⟩
     cases hx:m s with
     | none=>rfl
     | some c=>have:=(hmn.2 s c).2 hx;rw [e2] at this;cases this
    ·refine ⟨S5,fun k hk=>⟨(hS5 k hk).1,?_⟩,.inr ⟨n5,p5,b5,L5,by rw [←hrp,e],hN5,hmn.perm hP5⟩⟩;rcases (hS5 k hk).2 with h9 | h9
     ·exact (hS k h9).1
     ·omega
   obtain ⟨S9,hS9,hRt⟩:=hN9;have hm9:aEj Tryz.prog 9 wz mb N (bxM m):=(h.hm.fr fP (fun e=>by have:=(hO.lt e).1;omega)).fr g2 (fun e=>h.ne e.symm);have h:=(⟨hp7,hm9,h.ne,fun hk=>by have:=(hS9 _ hk).2;omega,fun hk=>by have:=(hS9 _ hk).2;omega,fun k hk=>Nat.lt_of_lt_of_le (hS9 k hk).1 g2.size,h.ok,⟨_,rfl⟩,fun _=>hRt.fr g2 (fun k hk e=>by have:=(hS9 k hk).2;omega)⟩:IxAt wz p mb N S9 m (.pointer rp) true);have hfz:Fr (fun k=>k=p) w wz:=(fO.mono fun _ _ h=>h.elim).trans' g2 (fun _ _ e=>e);refine r_ (ep (v := .pointer (some ⟨p,0,none⟩)) E rfl (m_ rfl (E.get 13 rfl)) fun a E=>ep E rfl (i_ rfl E.g0) fun a E=>ep (v := .pointer (some ⟨p,1,none⟩)) E rfl (aKN rfl E.g0) fun a E=>ep (v := .pointer rp) E rfl (aAV rfl E.g0 (bx h.hp 1 rfl)) fun a E=>es_ E rfl (a_ rfl E.g0) fun a E=>n_ (t_ (wr_ (aAu (t:=2) rfl E E.g0 ⟨S9,_,rfl,h,hfz,fun k hk => .inr (by have:=(hS9 k hk).2;omega)⟩))))
  ·skip
   obtain ⟨s9,rfl,hs9⟩:=aSj hk9
   obtain ⟨bb,hms,rfl⟩:∃ bb,m s9=some bb /\ v9 = .agg (bxC bb):=by
    rw [aH8] at hm9
    cases hx:m s9 with
    | none=>rw [hx] at hm9;cases hm9
    | some bb=>rw [hx] at hm9;exact ⟨bb,rfl,(Gi_ hm9).symm⟩
   refine s_ (r_ (ep (v := .tuple #[.bool true,.string s9,.agg (bxC bb)]) E rfl (aKy hrun rfl E.g0) fun a E=>?_));have h:=IxAt.fr h f9 (by have:=hr2.lt;omega) (by have:=hr2.lt;omega) (fun k hk e=>by have:=hσ k hk;omega);have hf:=hf.trans' f9 (fun r hr e=>by omega);have hO:=hO.fr f9 (fun k hk e=>by have:=(hO.lt hk).1;omega);have hN:=hN.fr f9 (fun k hk e=>by have:=(hS k hk).1;omega);have hS:=fun k hk=>(⟨(hS k hk).1,Nat.lt_of_lt_of_le (hS k hk).2.1 f9.size,(hS k hk).2.2⟩:r<k /\ k<wN.heap.size /\ v.ownBlock≠some k);clear hrun;refine ep (v := .bool true) E rfl (aFm (v := .bool true) rfl rfl E.g0) fun a E=>n_ (t_ (s_ (c_t E.g0 (k_ (t_ (bk_ (s_ ?_)))))));have hrl9:=hr2.lt;have hOo:=fun k (hk:v.ownBlock=some k)=>(hO.lt hk).2;refine r_ (ep (v := .tuple #[.string s9,.agg (bxC bb)]) E rfl (aMO hent rfl E.g2) fun a E=>ep (v := .string s9) E rfl (aFm (v := .string s9) rfl rfl E.g0) fun a E=>ep (v := .agg (bxC bb)) E rfl (aFm (v := .agg (bxC bb)) rfl rfl E.g1) fun a E=>aC5 (d:=5) E rfl (by decide) rfl (aAb rfl _) rfl fun a wa b5 eb5 hb5 f8 E=>ep E rfl (a_ rfl E.g2) fun a E=>aDL E rfl (aAb rfl _) rfl E.g1 E.g2 hb5 fun wb hb5 f1 E=>?_);have f8:=f8.trans' f1 (fun r hr e=>by omega);clear f1;refine n_ (t_ (r_ (ep E rfl (m_ rfl E.g8) fun a E=>ep (v := .agg (bxC bb)) E rfl (aBr rfl E.g2 (aPy (p:=bb) hb5 0 rfl rfl rfl rfl)) fun a E=>ep E rfl (m_ rfl E.g2) fun a E=>ep (v := .agg (lfC bb s9)) E rfl (aLz rfl E.g1 E.g0) fun a E=>?_)));have hwz:=aAf hb5;refine ep (v := .pointer (some ⟨wb.heap.size,0,none⟩)) E rfl (aL2 rfl E.g0) fun a E=>?_;have f1:Fr nF_ wb (wb.alloc (.cells (lfC bb s9) 161)):=(Fr.refl _ _).alloc _;have hu:(wb.alloc (.cells (lfC bb s9) 161)).heap[wb.heap.size]?=some (.cells (lfC bb s9) 161 (0,0)):=aAi _ _;obtain ⟨u,hue⟩:∃ u,u=wb.heap.size:=⟨_,rfl⟩;obtain ⟨wu,hwu⟩:∃ wu,wu=wb.alloc (.cells (lfC bb s9) 161):=⟨_,rfl⟩;have hun:wN.heap.size<=u:=by have:=f8.size;omega
   rw [←hue] at E hu;rw [←hwu] at f1 hu ⊢;have f8:=f8.trans f1;have hul:=aAf hu;clear f1 hwu;refine aI3 (c:=(u,bb,[(s9,bb)])) (d:=26) E rfl (by decide) rfl (aAb rfl _) rfl E.g0 fun a w1 bo hso f3 E=>?_;have f8:=f8.trans f3;have hu:=f3.obj hu id;clear f3;have hO:=hO.fr f8 (fun _ _ h=>h);have hws:=f8.size;refine aGa (B:=r+1) (d:=27) E rfl (by decide) rfl rfl rfl E.g5 hO E.g0 hso (fun h=>by cases h) (by simp;omega) (by omega) fun a w3 v8 hO9 f4 hloc E=>es_ E rfl (a_ rfl E.g0) fun a E=>n_ (b_ (t_ ?_));have hu1:=aAf hu;have hr3:=(hr2.fr f8 id id).fr f4 (fun e=>by have:=(hO.lt e).1;omega) (fun e=>by have:=(hO.lt e).1;omega);have h:=(IxAt.fr h f8 id id (fun _ _ h=>h)).fr f4 (fun e=>by have:=(hO.lt e).1;omega) (fun e=>by have:=(hO.lt e).1;omega) (fun k hk e=>by have:=(hO.lt e).1;have:=hσ k hk;omega);have hf:=(hf.trans f8).trans' f4 (fun r1 hr1 e=>by have:=(hO.lt e).1;omega);have hu2:=f4.obj hu (fun e=>by have:=(hO.lt e).2;have:=hOo _ e;omega)
   have hNn:aDk w3 (fun k=>S k∨k=u) 0 (C++[(u,bb,[(s9,bb)])]):=by
    intro c hc;rcases List.mem_append.1 hc with hc | hc
    ·exact (((hN c hc).fr f8 (fun _ _ h=>h)).fr f4 (fun k hk e=>(hS k hk).2.2 e)).mono (fun k hk => .inl hk)
    ·simp only [Gd_] at hc;subst hc;exact ⟨⟨.inr rfl,h.ok s9 bb hms⟩,s9,hu2,rfl⟩
   have hSn:∀ k,(S k∨k=u)->r<k /\ k<w3.heap.size /\ v8.ownBlock≠some k:=by
    intro k hk;have hz4:=f4.size;have hz9:=hu1;rcases hk with hk | rfl
    ·have h9:=hS k hk;refine ⟨h9.1,by omega,fun e=>?_⟩;rcases hloc with e2 | e2
     ·rw [e2] at e;exact h9.2.2 e
     ·rw [e2] at e;have:=Gi_ e;omega
    ·refine ⟨by omega,by omega,fun e=>?_⟩;rcases hloc with e2 | e2
     ·rw [e2] at e;have:=hOo _ e;omega
     ·rw [e2] at e;have:=Gi_ e;omega
   have hEn:aTa m (fun x=>left x /\ x ≠ .string s9) (aCJ (C++[(u,bb,[(s9,bb)])])):=by
    have:=hE.next hl9 hms;simpa [aCJ] using this
   refine ⟨⟨_,_,v8,_,cnt2,E.of ⟨E.get 15 rfl,E.g0,E.get 16 rfl,E.get 17 rfl,trivial⟩,hr3,hO9,hNn,hSn,hEn,by simp;omega,h,hf⟩,?_⟩;rw [hr3.left_eq];exact hc9
 | true =>
  rw [hq34] at E;rw [hq34] at h;refine c_f E.g0 (k_ (t_ (s_ (r_ (ep E rfl (m_ rfl E.g6) fun a E=>ep E rfl (i_ rfl E.g0) fun a E=>ep (v := .pointer (some ⟨p,1,none⟩)) E rfl (aKN rfl E.g0) fun a E=>ep (v:=rv) E rfl (aAV rfl E.g0 (bx h.hp 1 rfl)) fun a E=>es_ E rfl (a_ rfl E.g0) fun a E=>n_ (t_ (wr_ (aAu (t:=2) rfl E E.g0 ⟨S0,rv,rfl,h,hf.mono fun _ _ h=>h.elim,fun k hk => .inl hk⟩))))))))
end Go.Proofs.YtngjlnhojicjeaaGreatDoor
namespace Go.Proofs
open Go.Shelf
def Tryz.sortS_ren:Go.Shelf.Ren:=⟨fun | 6=>110 | 8=>152 | 9=>151 | 19=>210 | 20=>211 | 21=>201 | 22=>202 | 23=>203 | 24=>204 | 25=>205 | 26=>206 | 27=>207 | 28=>208 | 29=>209 | 36=>236 | 31=>237 | 32=>238 | 37=>239 | 38=>240 | 39=>241 | 41=>267 | n=>n,fun | 27=>45 | 29=>9 | 3=>3 | 32=>139 | 26=>45 | 0=>0 | 44=>301 | 46=>164 | 4=>4 | 36=>294 | 35=>293 | 41=>77 | 5=>5 | 9=>9 | 53=>334 | 57=>338 | 63=>375 | 64=>376 | n=>n,fun | n=>n⟩
theorem Tryz.sortS:Go.Proofs.SlLaysM.n6 Tryz.prog Tryz.sortS_ren:={
  mixed:=by kernel_rfl
  f6:=⟨Tryz.f110.name,by decide,Tryz.func110.trans (congrArg some (by kernel_rfl))⟩
  f8:=Tryz.func152.trans (congrArg some (by kernel_rfl))
  f9:=⟨Tryz.f151.name,by decide,Tryz.func151.trans (congrArg some (by kernel_rfl))⟩
  f19:=Tryz.func210.trans (congrArg some (by kernel_rfl))
  f20:=Tryz.func211.trans (congrArg some (by kernel_rfl))
  f21:=⟨Tryz.f201.name,by decide,Tryz.func201.trans (congrArg some (by kernel_rfl))⟩
  f22:=⟨Tryz.f202.name,by decide,Tryz.func202.trans (congrArg some (by kernel_rfl))⟩
  f23:=⟨Tryz.f203.name,by decide,Tryz.func203.trans (congrArg some (by kernel_rfl))⟩
  f24:=⟨Tryz.f204.name,by decide,Tryz.func204.trans (congrArg some (by kernel_rfl))⟩
  f25:=⟨Tryz.f205.name,by decide,Tryz.func205.trans (congrArg some (by kernel_rfl))⟩
  f26:=⟨Tryz.f206.name,by decide,Tryz.func206.trans (congrArg some (by kernel_rfl))⟩
  f27:=⟨Tryz.f207.name,by decide,Tryz.func207.trans (congrArg some (by kernel_rfl))⟩
  f28:=⟨Tryz.f208.name,by decide,Tryz.func208.trans (congrArg some (by kernel_rfl))⟩
  f29:=⟨Tryz.f209.name,by decide,Tryz.func209.trans (congrArg some (by kernel_rfl))⟩
  f31:=Tryz.func237.trans (congrArg some (by kernel_rfl))
  f32:=Tryz.func238.trans (congrArg some (by kernel_rfl))
  f36:=⟨Tryz.f236.name,by decide,Tryz.func236.trans (congrArg some (by kernel_rfl))⟩
  f37:=⟨Tryz.f239.name,by decide,Tryz.func239.trans (congrArg some (by kernel_rfl))⟩
  f38:=⟨Tryz.f240.name,by decide,Tryz.func240.trans (congrArg some (by kernel_rfl))⟩
  f39:=⟨Tryz.f241.name,by decide,Tryz.func241.trans (congrArg some (by kernel_rfl))⟩
  f41:=⟨Tryz.f267.name,by decide,Tryz.func267.trans (congrArg some (by kernel_rfl))⟩
  t0:=Tryz.underlying0
  a0:=Tryz.isAgg0
  z0:=Tryz.sizeOf0
  v0:=Tryz.zeroValue0
  t3:=Tryz.underlying3
  a3:=Tryz.isAgg3
  z3:=Tryz.sizeOf3
  v3:=Tryz.zeroValue3
  t4:=Tryz.underlying4
  a4:=Tryz.isAgg4
  z4:=Tryz.sizeOf4
  v4:=Tryz.zeroValue4
  t5:=Tryz.underlying5
  a5:=Tryz.isAgg5
  z5:=Tryz.sizeOf5
  v5:=Tryz.zeroValue5
  t9:=Tryz.underlying9
  a9:=Tryz.isAgg9
  z9:=Tryz.sizeOf9
  v9:=Tryz.zeroValue9
  t26:=Tryz.underlying45
  a26:=Tryz.isAgg45
  z26:=Tryz.sizeOf45
  v26:=Tryz.zeroValue45
  t27:=Tryz.underlying45
  a27:=Tryz.isAgg45
  z27:=Tryz.sizeOf45
  v27:=Tryz.zeroValue45
  t29:=Tryz.underlying9
  a29:=Tryz.isAgg9
  z29:=Tryz.sizeOf9
  v29:=Tryz.zeroValue9
  t32:=Tryz.underlying139
  a32:=Tryz.isAgg139
  z32:=Tryz.sizeOf139
  v32:=Tryz.zeroValue139
  t35:=Tryz.underlying293
  a35:=Tryz.isAgg293
  z35:=Tryz.sizeOf293
  v35:=Tryz.zeroValue293
  t36:=Tryz.underlying294
  a36:=Tryz.isAgg294
  z36:=Tryz.sizeOf294
  v36:=Tryz.zeroValue294
  t41:=Tryz.underlying77
  a41:=Tryz.isAgg77
  z41:=Tryz.sizeOf77
  v41:=Tryz.zeroValue77
  t44:=Tryz.underlying301
  a44:=Tryz.isAgg301
  z44:=Tryz.sizeOf301
  v44:=Tryz.zeroValue301
  t46:=Tryz.underlying164
  a46:=Tryz.isAgg164
  z46:=Tryz.sizeOf164
  v46:=Tryz.zeroValue164
  t53:=Tryz.underlying334
  a53:=Tryz.isAgg334
  z53:=Tryz.sizeOf334
  v53:=Tryz.zeroValue334
  t57:=Tryz.underlying338
  a57:=Tryz.isAgg338
  z57:=Tryz.sizeOf338
  v57:=Tryz.zeroValue338
  t63:=Tryz.underlying375
  a63:=Tryz.isAgg375
  z63:=Tryz.sizeOf375
  v63:=Tryz.zeroValue375
  t64:=Tryz.underlying376
  a64:=Tryz.isAgg376
  z64:=Tryz.sizeOf376
  v64:=Tryz.zeroValue376 }
end Go.Proofs
namespace Go.Proofs.YtngjlnhojicjeaaGreatDoor
open Go.RowKit Go.Pl Go.Sort Go.Shelf
abbrev sl (s t:ByteArray):Prop:=Op.bytesLess s.toList t.toList=true
theorem aUw:∀ (x y:List UInt8),Op.bytesLess x y=decide (x<y)
 | [],[]=>by simp [Op.bytesLess]
 | _::_,[]=>by simp [Op.bytesLess]
 | [],_::_=>by simp [Op.bytesLess]
 | a::x,b::y=>by
  rw [Op.bytesLess,aUw x y];simp only [List.cons_lt_cons_iff]
  by_cases h1:a<b<;>by_cases h2:a=b<;>by_cases h3:x<y<;>simp [h1,h2,h3]
theorem aHW (s t:ByteArray):sl s t↔s.data.toList<t.data.toList:=by
 unfold sl;rw [aUw,decide_eq_true_iff,ByteArray.toList_eq,ByteArray.toList_eq]
theorem aHV (s:ByteArray):¬ sl s s:=by rw [aHW];exact List.lt_irrefl _
theorem aKq {s t u:ByteArray}(h:sl s t) (k:sl t u):sl s u:=by rw [aHW] at *;exact List.lt_trans h k
theorem aUy {s t:ByteArray}(h:s.data.toList=t.data.toList):s=t:=ByteArray.ext (Array.toList_inj.1 h)
theorem aHU (s t:ByteArray):sl s t∨s=t∨sl t s:=by
 rw [aHW,aHW]
 by_cases h1:s.data.toList<t.data.toList
 ·exact .inl h1
 ·by_cases h2:t.data.toList<s.data.toList
  ·exact .inr (.inr h2)
  ·exact .inr (.inl (aUy (List.le_antisymm (by simpa using h2) (by simpa using h1))))
def aEr (A:List ByteArray):List ByteArray:=((A.map fun s=>s.data.toList).mergeSort fun x y=>decide (x<=y)).map fun l=>⟨l.toArray⟩
theorem aEB (A:List ByteArray):(aEr A).Perm A:=by
 have h:=(List.mergeSort_perm (A.map fun s=>s.data.toList) (fun x y=>decide (x<=y))).map (fun l:List UInt8=>(⟨l.toArray⟩:ByteArray));rw [List.map_map] at h;have e:((fun l:List UInt8=>(⟨l.toArray⟩:ByteArray))∘fun s:ByteArray=>s.data.toList)=id:=by funext s;simp
 rw [e,List.map_id] at h;exact h
theorem aEq (A:List ByteArray):(aEr A).length=A.length:=(aEB A).length_eq
theorem aR6 (A:List ByteArray):(aEr A).Pairwise fun s t=>¬ sl t s:=by
 unfold aEr;rw [List.pairwise_map];refine (List.pairwise_mergeSort (le:=fun x y:List UInt8=>decide (x<=y)) ?_ ?_ _).imp ?_
 ·intro a b c h1 h2;simp only [decide_eq_true_eq] at *;exact List.le_trans h1 h2
 ·intro a b;simp only [Bool.or_eq_true,decide_eq_true_eq];exact List.le_total a b
 ·intro a b h;rw [aHW];simpa using h
theorem aR5 {A:List ByteArray}(h:A.Nodup):(aEr A).Pairwise sl:=by
 have h1:=aR6 A;have h2:(aEr A).Pairwise (· ≠ ·):=(aEB A).nodup_iff.2 h;refine (h1.and h2).imp ?_;rintro s t ⟨h3,h4⟩;rcases aHU s t with h | h | h
 ·exact h
 ·exact absurd h h4
 ·exact absurd h h3
theorem aJb {w:World}{B:Nat}{v:Value}{A:List ByteArray}(hO:aEv w B v A) (hl:A.length<=10000000):Calls Tryz.prog 110 #[v] w fun e w'=>e = .returned (.tuple #[]) /\ aEv w' B v (aEr A) /\ Fr (fun k=>v.ownBlock=some k) w w':=by
 by_cases hne:A=[]
 ·subst hne;obtain ⟨p,cap,rfl,_⟩:=hO.src aBI;exact (AnyM.slices_Sort_string_none Tryz.sortS p cap w).mono fun e w' ⟨h1,h2⟩=>⟨h1,by rw [h2,show aEr []=[] from List.eq_nil_of_length_eq_zero (aEq [])];exact hO,by rw [h2];exact Fr.refl _ _⟩
 ·obtain ⟨hlen,⟨_,h0⟩ | ⟨g,cap,cur,rfl,hB,hb,h4,h5,h6,h7⟩⟩:=hO
  ·exact absurd (List.eq_nil_of_length_eq_zero h0) hne
  ·have hal:(A.map fun s=>s.data.toList).length=A.length:=by simp
   have hcell:∀ (j:Nat) s,A[j]?=some s->cur[j]?=some (.string s):=fun j s hs=>by
    have hi:=(List.getElem?_eq_some_iff.1 hs).1;have:=aC4 aBI A j s hs 0 (by omega);rw [←h7] at this;simp only [Nat.mul_one,Nat.add_zero] at this;rw [List.getElem?_take_of_lt hi,Array.getElem?_toList] at this;exact this
   have:=AnyM.slices_Sort_string Tryz.sortS g 0 cap (A.map fun s=>s.data.toList) w (fun j hj=>by
    simp only [List.size_toArray,hal] at hj;refine ⟨?_,aAm hb _⟩;obtain ⟨s,hs⟩:∃ s,A[j]?=some s:=⟨_,Gb_ hj⟩;rw [aAk hb,Nat.zero_add,hcell j s hs];rw [getElem!_pos _ j (by simpa using hj)];have:A[j]=s:=(List.getElem?_eq_some_iff.1 hs).2;simp [this]) (aAf hb) (by rw [hal];omega)
   rw [hal] at this;refine Calls.mono this ?_;rintro e w' ⟨he,n,os,rfl⟩;obtain ⟨c1,c2⟩:=aMy encStr hb 0 n ((A.map fun s=>s.data.toList).mergeSort fun x y=>decide (x<=y)).toArray os;unfold sortWorld at c1 c2;refine ⟨he,?_,c2.mono fun r _ e=>by rw [e];rfl⟩;have hml:((A.map fun s=>s.data.toList).mergeSort fun x y=>decide (x<=y)).length=A.length:=by rw [List.length_mergeSort,hal]
   refine ⟨?_,.inr ⟨g,cap,_,?_,hB,c1,?_,h5,?_,?_⟩⟩
   ·rw [aBh aBI]
   ·rw [aEq]
   ·rw [aEq];exact h4
   ·rw [←h6];unfold putCells;simp
   ·apply List.ext_getElem?;intro i;rw [aEq,Nat.mul_one]
    by_cases hi:i<A.length
    ·rw [List.getElem?_take_of_lt hi,Array.getElem?_toList];obtain ⟨l,hl2⟩:∃ l,((A.map fun s=>s.data.toList).mergeSort fun x y=>decide (x<=y))[i]?=some l:=⟨_,Gb_ (by omega)⟩;have h8:(aEr A)[i]?=some ⟨l.toArray⟩:=by unfold aEr;rw [Gr_,hl2];rfl
     have h9:=aC4 aBI (aEr A) i _ h8 0 (by omega);simp only [Nat.mul_one,Nat.add_zero] at h9;rw [h9];unfold putCells;have hcs:i<cur.size:=by rw [h6];omega
     rw [Array.getElem?_mapIdx,Go_ hcs];simp only [Option.map_some,Gg_,true_and,Nat.zero_add,List.size_toArray,hml,Nat.sub_zero];rw [if_pos hi,getElem!_pos _ i (by simpa [hml] using hi)];have:((A.map fun s=>s.data.toList).mergeSort fun x y=>decide (x<=y))[i]'(by omega)=l:=(List.getElem?_eq_some_iff.1 hl2).2;simp [this]
    ·have h8:((aEr A).flatMap aSR).length<=i:=by rw [aBh aBI,aEq];omega
     rw [List.getElem?_eq_none h8,List.getElem?_eq_none];rw [Gq_];omega
end Go.Proofs.YtngjlnhojicjeaaGreatDoor
