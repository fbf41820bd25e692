/- Part 4 of the proof. -/
import Derived.Test.YtngjlnhojicjeaaGreatDoorC3
import Derived.RangeFuncNested
import Derived.TacticsIn
import Derived.OrdersIn
import Derived.Shelf.SlSortCmp.Whole1
import Derived.Ground.SlsfProg
import Derived.Shelf.SlGeneric
import Derived.Test.YtngjlnhojicjeaaGreatDoorProg
import Derived.Deep.QuietTactic
import Derived.BigQuiet
import Derived.Lib.Hide
import Derived.Deep.RegionLaw
import Derived.Shelf.SortM.Plain
import Derived.Shelf.SortM.SortNone
import Derived.Ground.SlgmProg
set_option linter.unusedVariables false
set_option linter.unusedSimpArgs false
namespace Go.Pl
open Go.RowKit Go.Proofs.YtngjlnhojicjeaaGreatDoor
def aXw (T:Ent->Prop) (e:Ent) (w w':World):Prop:=∃ e',T e' /\ e'.H w' /\ (∀ b,e'.B b->e.B b∨w.heap.size<=b) /\ Fr e.B w w'
def aPm (P:Program) (gf:Nat) (lb:Array Value) (vs:List (Array Value)) (Kp:(Nat->Prop)->World->Prop):Prop :=
 ∀ (l:Nat) (J:Nat->Ent->Prop) (T:Ent->Prop) (W0:World) (e0:Ent),J 0 e0->e0.H W0->Kp e0.B W0 ->
  (∀ k e v W,J k e->e.H W->Fr e0.B W0 W->(∀ b,e.B b->e0.B b∨W0.heap.size<=b)->vs[k]?=some v->aEC P l v W (aVX J k e W) (aXw T e W)) ->
  Calls P gf (#[.func (.yield l) #[] #[]]++lb) W0 fun x W'=>(∃ v,x = .returned v) /\ ((∃ e,J vs.length e /\ e.H W' /\ (∀ b,e.B b->e0.B b∨W0.heap.size<=b) /\ Fr e0.B W0 W')∨∃ e,T e /\ e.H W' /\ (∀ b,e.B b->e0.B b∨W0.heap.size<=b) /\ Fr e0.B W0 W')
theorem aTX.z {P:Program}{gf:Nat}{lb:Array Value}{vs:List (Array Value)}{Kp:(Nat->Prop)->World->Prop}(h:aTX P gf lb vs Kp):aPm P gf lb vs Kp:=fun l J T W0 e0 hJ he hK hr=>by
 refine (h l (fun k e=>J k e /\ ∀ b,e.B b->e0.B b∨W0.heap.size<=b) (fun W=>∃ e,T e /\ e.H W /\ (∀ b,e.B b->e0.B b∨W0.heap.size<=b) /\ Fr e0.B W0 W) W0 e0 ⟨hJ,fun b hb => .inl hb⟩ he hK (fun W W' ⟨e,h1,h2,h3,h4⟩ f=>⟨e,h1,e.fr h2 f fun _ _ h=>h,h3,h4.trans' f fun _ _ h=>h.elim⟩) (fun W ⟨e,h1,h2,h3,h4⟩=>h4) fun k e v W ⟨hj,hs⟩ hH hf hv=>?_).mono fun x W' ⟨h1,h2⟩=>⟨h1,h2.imp (fun ⟨e,⟨h3,h4⟩,h5,h6⟩=>⟨e,h3,h5,h4,h6⟩) id⟩;obtain ⟨m,fn,tm,sg,bd,hy,hR⟩:=hr k e v W hj hH hf hs hv;have sub:∀ e':Ent,(∀ b,e'.B b->e.B b∨W.heap.size<=b)->∀ b,e'.B b->e0.B b∨W0.heap.size<=b:=fun e' h b hb=>(h b hb).elim (hs b) fun h => .inr (Gn_ hf.size h);exact ⟨m,fn,tm,sg,bd,hy,hR.mono fun e W' h=>h.imp (fun ⟨a,e',t1,t2,t3,t4⟩=>⟨a,e',⟨t1,sub e' t3⟩,t2,t3,t4⟩) fun ⟨a,e',t1,t2,t3,t4⟩=>⟨a,e',t1,t2,sub e' t3,hf.trans' t4 fun r hr hb=>(hs r hb).resolve_right (by omega)⟩⟩
section
variable {P:Program}{B:Code}{ds:List Deferred}{n:Nat}{L:Frm}{w w0:World}{F0:Nat->Prop}{M:List Ent}{Qf:Exit->Act->World->Prop}
theorem aPY (q:Nat) {g:Operand}{ps:Array Tmp}{gf:Nat}{lb:Array Value}{vs:List (Array Value)}{Kp:(Nat->Prop)->World->Prop}(I:Nat->List Ent->Prop) (T:List Ent->Prop)
  (hM:Mm F0 w0 w M) (h0:I 0 M) (eg:aIL P gf) (hY:aPm P gf lb vs Kp)
  (hK:∀ (G:Nat->Prop) W,(∀ k,G k->BlM M k∨w.heap.size<=k)->Fr nF_ w W->Kp G W)
  (hps:∀ v∈vs,v.size=ps.size)
  (hround:∀ k v Mk W l,vs[k]?=some v->I k Mk->Fr F0 w0 W->Mm (BlM Mk) W W Mk->AtO P (aUm (1000+q) B) ⟨aZk P (aSf (1000+q) B) n F0 w0 I T k Mk W,some l⟩ [] n none ((ps.toList.zip v.toList).reverse++L) W)
  (hdone:∀ M' W',I vs.length M'->Mm F0 w0 W' (M'++[dfE w.heap.size])->AtO P B ⟨Qf,none⟩ (mkD w.heap.size::ds) n (some (2000+q,0)) L W')
  (hstop:∀ a M' W',T M'->Mm F0 w0 W' (M'++[dfE w.heap.size])->EnvS (mkD w.heap.size::ds) n L a->Qf .ret a W')
  (h:(match aBc (1000+q) B [],aBc (2000+q) B [],aLG (1000+q) B with
   | some (O,dr,.seq (.rangeFunc g1 ps1 as1 bd1)::k1),some (O2,dr2,k2),some (g2,ps2,as2,bd2)=>some (O,dr,O2,dr2,[Kon.seq (.rangeFunc g1 ps1 as1 bd1)],k1,opv L g1,ps.toList.all fun p=>Nat.blt p n)
   | _,_,_=>none)=(match aBc (1000+q) B [],aBc (2000+q) B [],aLG (1000+q) B with
   | some (O,dr,.seq (.rangeFunc g1 ps1 as1 bd1)::k1),some (O2,dr2,k2),some (g2,ps2,as2,bd2)=>some (#[],false,#[],false,[Kon.seq (.rangeFunc g ps as2 bd2)],k2,some (.func (.func gf) #[] lb),true)
   | _,_,_=>some (#[],false,#[],false,[],[],none,true)):=by kernel_rfl):AtO P B ⟨Qf,none⟩ ds n (some (1000+q,0)) L w:=by
 split at h
 rotate_left
 ·cases h
 rename_i O dr g1 ps1 as1 bd1 k1 O2 dr2 k2 g2 ps2 as2 bd2 h1 h2 h3;simp only [Gk_,Prod.mk.injEq,List.cons.injEq,Kon.seq.injEq,Code.rangeFunc.injEq,and_true] at h;obtain ⟨rfl,rfl,rfl,rfl,⟨rfl,rfl,rfl,rfl⟩,rfl,hg,hpn⟩:=h;refine ⟨_,_,_,h1,fun a E=>?_⟩;have hasO:aUm (1000+q) B=as1:=by unfold aUm;rw [h3]
 have hbdO:aSf (1000+q) B=bd1:=by unfold aSf;rw [h3]
 rw [hasO,hbdO] at hround;show (Code.rangeFunc g1 ps1 as1 bd1).wpIn (fen none) 0 P (post P ⟨Qf,none⟩ k1) a w;have hga:a.eval g1 = .func (.func gf) #[] lb:=E.opv hg;have hblt:∀ b,BlM M b->b<w.heap.size:=fun b ⟨x,hx,hb⟩=>x.lt (hM.at_ x hx) hb;refine wpIn_rangeFunc ?_;intro fn hfn;obtain ⟨rec,hrec⟩:∃ rec:LoopState->Option Code->Loop,rec=fun st pe=>{ state:=st,pending:=pe,fn,tmps:=a.tmps,params:=ps1,assign:=as1,body:=bd1,defers:=w.heap.size }:=⟨_,rfl⟩;obtain ⟨W1,hW1⟩:∃ W1,(w.alloc (.deferred (some []))).alloc (.loop (rec .ready none))=W1:=⟨_,rfl⟩
 have hL1:W1.heap[w.heap.size+1]?=some (.loop (rec .ready none)):=by
  rw [←hW1];exact aC3 (by simp) _
 have hK1:W1.heap[w.heap.size]?=some (.deferred (some [])):=by
  rw [←hW1];exact (aCw (by simp) _).trans (aAj _ _)
 have hf1:Fr nF_ w W1:=by rw [←hW1];exact ((Fr.refl _ _).alloc _).alloc _
 have hsz1:w.heap.size+2<=W1.heap.size:=by have:=aAe hL1;omega
 obtain ⟨e0,he0⟩:∃ e0,aOa M w.heap.size (w.heap.size+1) (rec .ready none)=e0:=⟨_,rfl⟩;have hM1:=hM.q hf1
 have hF0:∀ W,Fr e0.B W1 W->Fr F0 w0 W:=fun W f=>hM1.fr.trans' f fun r hr hb=>by
  rw [←he0] at hb;have:=hM.fr.size;rcases hb with ⟨x,hx,hk⟩ | rfl | rfl
  ·exact hM.own x hx r hk hr
  ·omega
  ·omega
 refine ⟨w.heap.size+1,[{ target := .collected w.heap.size,args:=#[] }],W1,{ target := .fn (.func gf) lb,args:=#[.func (.yield (w.heap.size+1)) #[] #[]] },W1,gf,
  #[.func (.yield (w.heap.size+1)) #[] #[]]++lb,W1,?_,?_,fun _ _=>trivial,?_,fun h=>(by cases h),?_⟩
 ·rw [←hW1,hrec];exact run_enterLoop_outer _ _ _ _ _
 ·simp only [resolve,hga];simp [go_sem]
 ·have:=eg (#[.func (.yield (w.heap.size+1)) #[] #[]]++lb) W1;simp [invoke,go_sem,this]
 refine aFY ((hY (w.heap.size+1) (fun k e=>∃ Mk,I k Mk /\ Mk.Pairwise (fun x y=>∀ k,x.B k->¬ y.B k) /\ (∀ b,BlM Mk b->(BlM M b∨w.heap.size+2<=b)) /\ e=aOa Mk w.heap.size (w.heap.size+1) (rec .ready none))
   (fun e=>∃ M',T M' /\ M'.Pairwise (fun x y=>∀ k,x.B k->¬ y.B k) /\ (∀ b,BlM M' b->(BlM M b∨w.heap.size+2<=b)) /\ e=aOa M' w.heap.size (w.heap.size+1) (rec .done (some .ret))) W1 e0
   ⟨M,h0,hM.nd,fun b hb => .inl hb,he0.symm⟩ (by rw [←he0];exact ⟨hM1.at_,hK1,hL1⟩) (hK _ _ (fun k hk=>by
    rw [←he0] at hk;rcases hk with h | rfl | rfl
    ·exact .inl h
    ·exact .inr (Gj_ _)
    ·exact .inr (by omega)) hf1) ?_).mono ?_)
 ·rintro k e v W ⟨Mk,hI,hnd,hsub,rfl⟩ ⟨hat,hkD,hl⟩ hfW _ hv;have hvm:v∈vs:=Ge_ hv;have hlt:=aAe hl;have hy:=run_yield (P:=P) (args:=v) hl (by rw [hrec];exact hps v hvm);rw [hrec] at hy
  have hnl:∀ b,BlM Mk b->b≠w.heap.size /\ b≠w.heap.size+1:=fun b hb=>by
   rcases hsub b hb with h | h
   ·have:=hblt b h;omega
   ·omega
  have hmW:Mm (BlM Mk) W W Mk:=⟨Fr.refl _ _,hat,fun x hx b hb _=>⟨x,hx,hb⟩,hnd⟩;have has:=hround k v Mk W (w.heap.size+1) hv hI (hF0 W hfW) hmW;refine ⟨0,fn,_,as1,bd1,hy,roundIn_of_wpIn hfn ?_⟩;clear hy
  have E0:EnvS [] n ((ps1.toList.zip v.toList).reverse++L) { tmps:=(ps1.zip v).foldl (fun t (p,v)=>t.setIfInBounds p v) a.tmps,defers:=[] }:=by
   have hz:=aIM (ds:=ds) (n:=n) (L:=L) (ps:=ps1.toList) (vs:=v.toList) (t:=a.tmps) ⟨E.size,fun s u hs=>E.at_ s u hs,rfl⟩ (by have:=hps v hvm;simpa using this.symm) (fun p hp=>by
    have:=List.all_eq_true.1 hpn p hp;simpa [Nat.blt_eq] using this)
   have hfo:(ps1.zip v).foldl (fun t (p,v)=>t.setIfInBounds p v) a.tmps=(ps1.toList.zip v.toList).foldl (fun t (p,v)=>t.setIfInBounds p v) a.tmps:=by rw [←Array.toList_zip,Array.foldl_toList]
   rw [hfo];exact hz
  refine wpIn_mono (has _ E0) ?_;rintro e9 a1 W2 hp
  cases e9 with
  | normal =>
   obtain ⟨Lb,M1,E1,hMa,hb⟩:=hp;have hfa:=hMa.fr;have hl9:=hfa.obj hl (fun h=>(hnl _ h).2 rfl);have hkD9:=hfa.obj hkD (fun h=>(hnl _ h).1 rfl);have hlt9:=aAe hl9;refine ⟨_,run_beginRound hl9 (by rw [hrec]),?_⟩;have f2:=Fr.putObj W2 (w.heap.size+1) (.loop { rec .ready none with state := .busy });obtain ⟨W3,hW3⟩:∃ W3,W2.putObj (w.heap.size+1) (.loop { rec .ready none with state := .busy })=W3:=⟨_,rfl⟩;have hl3:W3.heap[w.heap.size+1]?=some (.loop { rec .ready none with state := .busy }):=by rw [←hW3];exact World.putObj_heap_same hlt9
   rw [hW3] at f2 ⊢;have hkD3:=f2.obj hkD9 (by omega)
   have hM1n:∀ b,BlM M1 b->BlM Mk b∨W.heap.size<=b:=fun b ⟨x,hx,hb⟩=>by
    rcases Nat.lt_or_ge b W.heap.size with h | h
    ·exact .inl (hMa.own x hx b hb h)
    ·exact .inr h
   have hM1l:∀ b,BlM M1 b->b≠w.heap.size /\ b≠w.heap.size+1:=fun b hb=>by
    rcases hM1n b hb with h | h
    ·exact hnl b h
    ·omega
   have hM3:Mm (BlM M1) W3 W3 M1:=⟨Fr.refl _ _,fun x hx=>x.fr (hMa.at_ x hx) f2 fun b hb e=>(hM1l b ⟨x,hx,hb⟩).2 e,fun x hx b hb _=>⟨x,hx,hb⟩,hMa.nd⟩
   have hF3:Fr F0 w0 W3:=by
    refine ((hF0 W hfW).trans' hfa fun r hr hb=>?_).trans' f2 fun r hr e=>?_
    ·rcases hsub r hb with ⟨x,hx,h⟩ | h
     ·exact hM.own x hx r h hr
     ·have:=hM.fr.size;omega
    ·have:=hM.fr.size;omega
   have hsW:W.heap.size<=W3.heap.size:=Gn_ hfa.size f2.size;have hsWW:w.heap.size+2<=W.heap.size:=Gn_ hsz1 hfW.size
   have fin:∀ M' W',Mm (BlM M1) W3 W' M'->(∀ b,BlM M' b->(BlM M b∨w.heap.size+2<=b)) /\ (∀ b,BlM M' b->BlM Mk b∨W.heap.size<=b) /\ W'.heap[w.heap.size+1]?=some (.loop { rec .ready none with state := .busy }) /\ W'.heap[w.heap.size]?=some (.deferred (some [])):=by
    intro M' W' hm
    have hb1:∀ b,BlM M' b->BlM Mk b∨W.heap.size<=b:=fun b ⟨x,hx,hb⟩=>by
     rcases Nat.lt_or_ge b W3.heap.size with h | h
     ·exact hM1n b (hm.own x hx b hb h)
     ·exact .inr (Gn_ hsW h)
    refine ⟨fun b hb=>?_,hb1,hm.fr.obj hl3 (fun h=>(hM1l _ h).2 rfl),hm.fr.obj hkD3 (fun h=>(hM1l _ h).1 rfl)⟩;rcases hb1 b hb with h | h
    ·exact hsub b h
    ·exact .inr (Gn_ hsWW h)
   refine wpIn_mono (hb W3 (w.heap.size+1) ⟨aYx (fun W'=>∃ M',I (k+1) M' /\ Mm (BlM M1) W3 W' M') (fun W'=>∃ M',T M' /\ Mm (BlM M1) W3 W' M'),some (w.heap.size+1)⟩ hF3 hM3 ⟨⟨_,hl3⟩,fun h=>(hM1l _ h).2 rfl,rfl,fun a M' W' h1 h2=>⟨M',h1,h2⟩,fun a M' W' h1 h2=>⟨M',h1,h2⟩⟩ _ E1) ?_;rintro e a3 W4 hp
   cases e with
   | normal =>
    obtain ⟨M',hI',hm'⟩:=hp;obtain ⟨g1,g2,h4,h3⟩:=fin M' W4 hm';have hr:=run_endRound (P:=P) none h4;refine ⟨_,_,hr,.inl ⟨rfl,_,⟨M',hI',hm'.nd,g1,rfl⟩,⟨fun x hx=>x.fr (hm'.at_ x hx) (Fr.putObj W4 _ _) fun b hb e=>?_,(World.putObj_heap_other (by omega)).trans h3,?_⟩,?_,?_⟩⟩
    ·rcases g1 b ⟨x,hx,hb⟩ with h | h
     ·have:=hblt b h;omega
     ·omega
    ·refine (World.putObj_heap_same (aAe h4)).trans ?_;rw [hrec];rfl
    ·rintro b (h | h | h)
     ·rcases g2 b h with h | h
      ·exact .inl (.inl h)
      ·exact .inr h
     ·exact .inl (.inr (.inl h))
     ·exact .inl (.inr (.inr h))
    ·refine (((hfa.mono (G:=(aOa Mk w.heap.size (w.heap.size+1) (rec .ready none)).B) fun _ _ h => .inl h).trans' f2 fun r _ e => .inr (.inr e)).trans' hm'.fr fun r hr hb=>?_).trans' (Fr.putObj W4 _ _) fun r _ e => .inr (.inr e);rcases hM1n r hb with h | h
     ·exact .inl h
     ·omega
   | ret =>
    obtain ⟨M',hI',hm'⟩:=hp;obtain ⟨g1,g2,h4,h3⟩:=fin M' W4 hm';have hr:=run_endRound (P:=P) (some .ret) h4;refine ⟨_,_,hr,.inr ⟨rfl,_,⟨M',hI',hm'.nd,g1,rfl⟩,⟨fun x hx=>x.fr (hm'.at_ x hx) (Fr.putObj W4 _ _) fun b hb e=>?_,(World.putObj_heap_other (by omega)).trans h3,?_⟩,?_,?_⟩⟩
    ·rcases g1 b ⟨x,hx,hb⟩ with h | h
     ·have:=hblt b h;omega
     ·omega
    ·refine (World.putObj_heap_same (aAe h4)).trans ?_;rw [hrec];rfl
    ·rintro b (h | h | h)
     ·rcases g2 b h with h | h
      ·exact .inl (.inl h)
      ·exact .inr h
     ·exact .inl (.inr (.inl h))
     ·exact .inl (.inr (.inr h))
    ·refine (((hfa.mono (G:=(aOa Mk w.heap.size (w.heap.size+1) (rec .ready none)).B) fun _ _ h => .inl h).trans' f2 fun r _ e => .inr (.inr e)).trans' hm'.fr fun r hr hb=>?_).trans' (Fr.putObj W4 _ _) fun r _ e => .inr (.inr e);rcases hM1n r hb with h | h
     ·exact .inl h
     ·omega
   | exit id=>exact hp.elim
   | goto t=>exact hp.elim
   | panic ch=>exact hp.elim
   | outgrown=>exact hp.elim
  | exit id=>exact hp.elim
  | goto t=>exact hp.elim
  | ret=>exact hp.elim
  | panic ch=>exact hp.elim
  | outgrown=>exact hp.elim
 ·rintro e W2 ⟨⟨v,rfl⟩,hend⟩
  have key:∀ Mk W9 ob,(∀ e∈Mk,e.H W2)->Mk.Pairwise (fun x y=>∀ k,x.B k->¬ y.B k)->(∀ b,BlM Mk b->(BlM M b∨w.heap.size+2<=b))->W2.heap[w.heap.size]?=some (.deferred (some []))->Fr e0.B W1 W2->W9=W2.putObj (w.heap.size+1) ob->Mm F0 w0 W9 (Mk++[dfE w.heap.size]):=by
   intro Mk W9 ob hat hnd hsub hkD hfW hw9;subst hw9;refine ⟨(hF0 W2 hfW).trans' (Fr.putObj W2 _ _) fun r hr e=>?_,fun x hx=>?_,fun x hx b hb hlt=>?_,?_⟩
   ·have:=hM.fr.size;omega
   ·rcases List.mem_append.1 hx with hx | hx
    ·refine x.fr (hat x hx) (Fr.putObj W2 _ _) fun b hb e=>?_;rcases hsub b ⟨x,hx,hb⟩ with h | h
     ·have:=hblt b h;omega
     ·omega
    ·rw [Gd_] at hx;subst hx;exact (World.putObj_heap_other (by omega)).trans hkD
   ·rcases List.mem_append.1 hx with hx | hx
    ·rcases hsub b ⟨x,hx,hb⟩ with ⟨y,hy,h⟩ | h
     ·exact hM.own y hy b h hlt
     ·have:=hM.fr.size;omega
    ·rw [Gd_] at hx;subst hx;have hb:b=w.heap.size:=hb;have:=hM.fr.size;omega
   ·refine List.pairwise_append.2 ⟨hnd,List.pairwise_singleton _ _,fun x hx y hy b hb hb2=>?_⟩;rw [Gd_] at hy;subst hy;have hb2:b=w.heap.size:=hb2;rcases hsub b ⟨x,hx,hb⟩ with h | h
    ·have:=hblt b h;omega
    ·omega
  rcases hend with ⟨_,⟨Mk,hI,hnd,hsub,rfl⟩,⟨hat,hkD,hl⟩,_,hfW⟩ | ⟨_,⟨Mk,hT,hnd,hsub,rfl⟩,⟨hat,hkD,hl⟩,_,hfW⟩
  ·have hr:=run_endLoop (P:=P) hl (by rw [hrec];simp);rw [hrec] at hr;refine ⟨none,_,hr,?_⟩;obtain ⟨O9,dr9,kk9,hf9,hk9⟩:=hdone Mk _ hI (key _ _ _ hat hnd hsub hkD hfW rfl);rw [h2] at hf9;cases hf9;exact hk9 _ ⟨E.size,fun s u hs=>E.at_ s u hs,by show _::a.defers=_;rw [E.df]⟩
  ·have hr:=run_endLoop (P:=P) hl (by rw [hrec];simp);rw [hrec] at hr;refine ⟨some .ret,_,hr,?_⟩;exact wpIn_ret (aCP (R:=⟨Qf,none⟩) (hstop _ Mk _ hT (key _ _ _ hat hnd hsub hkD hfW rfl) ⟨E.size,fun s u hs=>E.at_ s u hs,by show _::a.defers=_;rw [E.df]⟩))
end
section
variable {P:Program}{B:Code}{R:Pst}{ds:List Deferred}{n:Nat}{p:Option (Nat×Nat)}{L N:Frm}{w w0:World}{r' i':Nat}{F:List Ft}{F0:Nat->Prop}{M:List Ent}
theorem aPv (r' i' d:Nat) (N:Frm) (ts:Array TypeId) {l:Nat}{v v2:Value}{J:Nat->Ent->Prop}{T:Ent->Prop}{j k:Nat}{e:Ent}(hd:d<n) (hF:aBp P w F) (hM:Mm F0 w0 w M) (hj:M[j]?=some e) (hR:aEC P l #[v,v2] w (aVX J k e w) (aXw T e w))
  (kt:∀ e' w',J (k+1) e'->Mm F0 w0 w' (M.set j e')->AtO P B R ds n (some (r',i'+1)) ((d,.bool true)::(N++L)) w')
  (kf:∀ e' w',T e'->Mm F0 w0 w' (M.set j e')->AtO P B R ds n (some (r',i'+1)) ((d,.bool false)::(N++L)) w')
  (h:(lhs (go P w n B p L r' i' F) N L,aUd (go P w n B p L r' i' F) n L (fun x y z => .call ⟨.value x,#[y,z],ts⟩))=(rhs (go P w n B p L r' i' F) N B r' i',aUc (go P w n B p L r' i' F) n L (fun x y z => .call ⟨.value x,#[y,z],ts⟩) (some d) (.func (.yield l) #[] #[]) v v2):=by kernel_rfl):AtO P B R ds n p L w :=
 aYg (S:=aXw T e w) r' i' d N ts hd hF hM hj hR kt (fun w' ⟨e',h1,h2,h3,h4⟩=>kf e' w' h1 (hM.put j hj h4 (fun _ _ h=>h) h2 h3)) h
end
section
variable {P:Program}{B:Code}{n:Nat}{p:Option (Nat×Nat)}{L:Frm}{w w0:World}{F:List Ft}{F0:Nat->Prop}{M:List Ent}{fn:Func}{Φ:Ending->World->Prop}
def aHn (Ds:List Nat):Ent:=aBL (Ds.map dfE)
theorem Mm.perm {M':List Ent}(h:Mm F0 w0 w M) (q:M.Perm M'):Mm F0 w0 w M':=⟨h.fr,fun e he=>h.at_ e (q.mem_iff.2 he),fun e he=>h.own e (q.mem_iff.2 he),(q.pairwise_iff fun {_ _} h k hy hx=>h k hx hy).1 h.nd⟩
theorem Mm.mark0 (h:Mm F0 w0 w M):Mm F0 w0 w (M++[aHn []]):=aCW (Ms:=[]) (by rw [List.append_nil];exact h)
theorem Mm.mark1 {Ds:List Nat}{d:Nat}(h:Mm F0 w0 w ((M++[aHn Ds])++[dfE d])):Mm F0 w0 w (M++[aHn (d::Ds)]):=by
 have h1:Mm F0 w0 w (M++aBL (Ds.map dfE)::[dfE d]):=by
  rw [Gl_] at h;exact h
 have h2:=h1.ung;refine aCW (Ms:=(d::Ds).map dfE) (h2.perm ?_);refine List.Perm.append_left M ?_;rw [List.map_cons];exact List.perm_append_comm
theorem aLV {Ds:List Nat}{k:Nat}(h:aBx (Ds.map mkD) k):k∈Ds:=by
 obtain ⟨d,hd,e⟩:=List.mem_map.1 h;rw [←aHo e];exact hd
theorem Mm.unmks {Ds:List Nat}{w':World}(h:Mm F0 w0 w (M++[aHn Ds])) (f:Fr (aBx (Ds.map mkD)) w w'):Mm F0 w0 w' M:=by
 have hi:∀ r,aBx (Ds.map mkD) r->(aHn Ds).B r:=fun r hr=>⟨dfE r,List.mem_map.2 ⟨r,aLV hr,rfl⟩,rfl⟩;have hm:aHn Ds∈M++[aHn Ds]:=by simp
 obtain ⟨n1,_,n3⟩:=List.pairwise_append.1 h.nd;exact ⟨h.fr.trans' f fun r hr hg=>h.own _ hm r (hi r hg) hr,fun e he=>e.fr (h.at_ e (Gr_ _ he)) f fun k hk hg=>n3 e he (aHn Ds) (by simp) k hk (hi k hg),fun e he=>h.own e (Gr_ _ he),n1⟩
theorem aRF {a:Act}{Ds:List Nat}(E:a.defers=Ds.map mkD) (hM:Mm F0 w0 w (M++[aHn Ds])) (hres:∀ w',Mm F0 w0 w' M->∃ v,(results fn a.tmps).run P w' = .ok v w' /\ Φ (.returned v) w'):bodyPostM Fence.wide 0 P fn Φ .ret a w /\ bodyPostM Fence.wide 0 P fn Φ .normal a w:=by
 have hg:(aHn Ds).H w:=hM.at_ _ (by simp)
 have:LeavesInM Fence.wide 0 P fn a.tmps Φ a.defers .returning w:=by
  rw [E];refine aJ0 _ w ⟨?_,fun d hd=>?_⟩ fun w' hf=>hres w' (hM.unmks hf)
  ·have h2:=hg.2;unfold List.Nodup;rw [List.pairwise_map] at h2 ⊢;exact h2.imp fun {x y} h e=>h x rfl (aHo e)
  ·obtain ⟨D,hD,rfl⟩:=List.mem_map.1 hd;exact ⟨D,rfl,hg.1 (dfE D) (List.mem_map.2 ⟨D,hD,rfl⟩)⟩
 exact ⟨this,this⟩
theorem aJm {Ds:List Nat}(hr:fn.results=#[]) (hF:aBp P w F) (hM:Mm F0 w0 w (M++[aHn Ds])) (k:∀ w',Mm F0 w0 w' M->Φ (.returned (.tuple #[])) w') (h:aQO (go P w n B p L 1000000 0 F) [] L=aMw (go P w n B p L 1000000 0 F) []:=by kernel_rfl):AtO P B (aHH P fn Φ) (Ds.map mkD) n p L w :=
 aRP [] hF h fun a E=>aRF E.df hM fun w' hM'=>⟨_,by simp [results,hr],k w' hM'⟩
end
end Go.Pl
namespace Go.Proofs.YtngjlnhojicjeaaGreatDoor
open Go.RowKit Go.Pl
theorem geM {N:Nat}{w0 w:World}{M M1:List Ent}(h:∀ k,BlM M k->N<=k) (hN:N<=w0.heap.size) (hM:Mm (BlM M) w0 w M1):∀ k,BlM M1 k->N<=k:=fun k ⟨e,he,hb⟩=>by
  rcases Nat.lt_or_ge k w0.heap.size with h1 | h1
  · exact h k (hM.own e he k hb h1)
  · exact Gn_ hN h1
theorem ge0 {w0 w:World}{M:List Ent}(hM:Mm nF_ w0 w M):∀ k,BlM M k->w0.heap.size<=k:=fun k ⟨e,he,hb⟩=>hM.ge he hb
section
variable {P:Program}{B:Code}{n:Nat}{p:Option (Nat×Nat)}{L:Frm}{w w0:World}{F:List Ft}{F0:Nat->Prop}{M:List Ent}{fn:Func}{Φ:Ending->World->Prop}{t2 T2 b2:Nat}{v2:Value}
theorem aNq {a:Act}(hr:fn.results=#[.cell t2 T2]) (h2:a.eval (.tmp t2)=vP b2 0) (j2:Nat) (m2:M[j2]?=some (bk b2 #[v2] T2)) (hs:scT P T2=true) (hM:Mm F0 w0 w M):(results fn a.tmps).run P w = .ok v2 w:=by
  have l2:=aF1 (P:=P) hs (bx (hM.get j2 m2) 0 rfl);have e2:a.tmps[t2]?.getD undef=vP b2 0:=by have:a.tmps.getD t2 undef=vP b2 0:=h2;simpa using this
  simp only [Instr.loadAt,Instr.sureAddr,Sem.run_bind,Sem.run_pure,Result.andThen_ok] at l2;simp [results,hr,e2,asAddr,l2]
theorem aPV {D:Nat}(j2:Nat) (hr:fn.results=#[.cell t2 T2]) (hF:aBp P w F) (hM:Mm F0 w0 w (M++[dfE D])) (m2:M[j2]?=some (bk b2 #[v2] T2)) (k:∀ w',Mm F0 w0 w' M->Φ (.returned v2) w') (hs:scT P T2=true:=by kernel_rfl)
    (h:aQO (go P w n B p L 1000000 0 F) [(t2,vP b2 0)] L=aMw (go P w n B p L 1000000 0 F) [(t2,vP b2 0)]:=by kernel_rfl):AtO P B (aHH P fn Φ) [mkD D] n p L w :=
  aRP _ hF h fun a E=>aKI (u:=true) E.df hM fun w' hM'=>⟨_,aNq hr (E.at_ t2 _ (by simp [Go.Pl.look])) j2 m2 hs hM',k w' hM'⟩
theorem aPW (j2:Nat) (hr:fn.results=#[.cell t2 T2]) (hF:aBp P w F) (hM:Mm F0 w0 w M) (m2:M[j2]?=some (bk b2 #[v2] T2)) (k:Φ (.returned v2) w) (hs:scT P T2=true:=by kernel_rfl)
    (h:aQO (go P w n B p L 1000000 0 F) [(t2,vP b2 0)] L=aMw (go P w n B p L 1000000 0 F) [(t2,vP b2 0)]:=by kernel_rfl):AtO P B (aHH P fn Φ) [] n p L w :=
  aRP _ hF h fun a E=>aVe E.df ⟨_,aNq hr (E.at_ t2 _ (by simp [Go.Pl.look])) j2 m2 hs hM,k⟩
end
theorem aDK (p:Option Addr) (n c:Nat) (w:World):Calls Tryz.prog 129 #[vL p n c] w fun e w'=>∃ b,e = .returned (.func (.func 179) #[] #[vP b 0]) /\ w'.heap[b]?=some (.cells #[vL p n c] 100 (0,0)) /\ w.heap.size<=b /\ Fr nF_ w w':=by
  refine beg Tryz.func129 rfl rfl [(0,vL p n c)] rfl rfl fun Z hZ=>?_;have hM:=Mm.nil nF_ w;refine aAu 0 0 1 [] (cs:=#[vL p n c]) (T:=100) (v:=fun b=>vP b 0) f0 hM fun aa w1 hM=>rt1 2 (.func (.func 179) #[] #[vP aa 0]) rfl f0 (hZ _ _ ⟨aa,rfl,hM.get 0 rfl,hM.ge (.head _) rfl,hM.fr⟩)
def nbP (L:List Pt) (i k:Nat):Bool:=((i:Int)-(k:Int)==1)||((i:Int)-(k:Int)==(L.length:Int)-1)
def okS (L:List Pt) (i k:Nat):Bool:=bif nbP L i k then aB3 (sdP L i) (sdP L k)==1 else aB3 (sdP L i) (sdP L k)==0
def okI (L:List Pt) (i:Nat):Bool:=(List.range i).all fun k=>okS L i k
def aDR (L:List Pt):Bool:=aLH L&&(List.range L.length).all fun i=>okI L i
theorem aMM {L:List Pt}{i k:Nat}(hk:k<i) (hi:i<L.length) (h:okS L i k=false):aDR L=false:=by
  unfold aDR;rw [Bool.and_eq_false_iff];right;rw [List.all_eq_false];refine ⟨i,List.mem_range.2 hi,?_⟩;unfold okI;rw [Bool.not_eq_true,List.all_eq_false];exact ⟨k,List.mem_range.2 hk,by rw [h];simp⟩
theorem aUQ {L:List Pt}{i:Nat}(h:∀ k,k<i->okS L i k=true):okI L i=true:=by
  unfold okI;rw [List.all_eq_true];exact fun k hk=>h k (List.mem_range.1 hk)
theorem aSz {L:List Pt}(hr:aLH L=true) (h:∀ i,i<L.length->okI L i=true):aDR L=true:=by
  unfold aDR;rw [hr,Bool.true_and,List.all_eq_true];exact fun k hk=>h k (List.mem_range.1 hk)
theorem al_ {p:Nat->Prop}{k:Nat}(h:∀ j,j<k->p j)(e:p k):∀ j,j<k+1->p j:=fun j hj=>by rcases Nat.lt_succ_iff_lt_or_eq.1 hj with z | z;exact h j z;rw [z];exact e
theorem aBS {w:World}{p:Option Addr}{cap:Nat}{L:List Pt}(hs:SrcP ptL 2 w p cap L):Calls Tryz.prog 73 #[vL p L.length cap] w fun e w'=>e = .returned (vB (aDR L)) /\ Fr nF_ w w':=by
  have bb:=hs.bnd;refine aWi Tryz.func73 rfl rfl [(0,vL p L.length cap)] rfl rfl fun Z hZ=>?_;have hM:=Mm.nil nF_ w;refine aAu 0 0 1 [] (cs:=#[vL p L.length cap]) (T:=100) (v:=fun b=>vP b 0) f0 hM fun ac w1 hM=>aAu 0 1 2 [] (cs:=#[vB false]) (T:=4) (v:=fun b=>vP b 0) f0 hM fun aa w1 hM=>aAx 1 1 11 [(10,vL p L.length cap)] (fc (ldm 100 0 0 hM rfl rfl) f0) hM (aHc (hs.fr hM.fr)) fun w1 hM=>seg 1 3 [(12,vB (!(aLH L)))] f0 ?_;cases ah:(aLH L)
  ·refine stm 2 0 [] 4 1 0 (vB false) f0 hM rfl fun w1 hM=>aPW 1 rfl f0 hM rfl (hZ _ _ ⟨by unfold aDR;rw [ah];rfl,hM.fr⟩)
  refine aBY 3 2 3 [(14,vI (L.length:Int))] [] 3 (vI (L.length:Int)) (fc (ldm 100 0 0 hM rfl rfl) f0) hM fun ab w1 hM=>cal 4 1 16 [(15,vL p L.length cap)] (K:=fun u w8=>∃ b,u = .func (.func 179) #[] #[vP b 0] /\ w8.heap[b]?=some (.cells #[vL p L.length cap] 100 (0,0)) /\ (World.heap _).size<=b /\ Fr nF_ _ w8) (fc (ldm 100 0 0 hM rfl rfl) f0) ((aDK p L.length cap _).mono fun e w9 ⟨b,h1,h2⟩=>⟨_,h1,b,rfl,h2⟩) fun u w1 ⟨it130,hu,hi130,hs130,f1⟩=>?_;subst hu;have hn130:¬ BlM [bk ac #[vL p L.length cap] 100,bk aa #[vB false] 4,bk ab #[vI (L.length:Int)] 3] it130:=fun ⟨e,he,hb⟩=>Nat.lt_irrefl _ (Nat.lt_of_lt_of_le (e.lt (hM.at_ e he) hb) hs130);have hM:=hM.q f1;refine seg 1005 0 [] f0 ?_;have hg9:∀ k9,BlM [bk ac #[vL p L.length cap] 100,bk aa #[vB false] 4,bk ab #[vI (L.length:Int)] 3] k9->w.heap.size<=k9:=ge0 hM;refine aPY 5 (g := .tmp 16) (ps:=#[17,18]) (vs:=sdV L) (fun i Mk=>Mk=[bk ac #[vL p L.length cap] 100,bk aa #[vB false] 4,bk ab #[vI (L.length:Int)] 3] /\ ∀ j,j<i->okI L j=true) (fun Mk=>aDR L=false /\ Mk=[bk ac #[vL p L.length cap] 100,bk aa #[vB false] 4,bk ab #[vI (L.length:Int)] 3]) hM ⟨rfl,fun j h=>absurd h (Nat.not_lt_zero j)⟩ (enters_of Tryz.func179 (by kernel_rfl) rfl) aHT.z (fun G W hG f=>⟨f.obj hi130 id,fun h=>(hG _ h).elim hn130 (fun h2=>absurd (aAe hi130) (by omega)),w.heap.size,hs.b (hM.fr.trans' f fun _ _ h=>h.elim),fun k hk=>(hG k hk).elim (hg9 k) fun h2=>Gn_ (hM.fr).size h2⟩) (vsz (ps:=#[17,18]) rfl) ?_ ?_ ?_
  · skip
    intro i v Mk W l hv hI hfW hM;obtain ⟨rfl,hall⟩:=hI;obtain ⟨hi,rfl⟩:=aMQ hv;have hgk:∀ k9,BlM [bk ac #[vL p L.length cap] 100,bk aa #[vB false] 4,bk ab #[vI (L.length:Int)] 3] k9->w.heap.size<=k9:=hg9;have hfw:Fr nF_ w W:=hfW;refine aBY 5 0 4 [] [] 3 (vI (i:Int)) f0 hM fun ad w1 hM=>aBY 6 0 5 [] [] 126 (.agg #[vI (sdP L i).1.1,vI (sdP L i).1.2,vI (sdP L i).2.1,vI (sdP L i).2.2]) f0 hM fun ae w1 hM=>?_;have hg2:∀ k9,BlM [bk ac #[vL p L.length cap] 100,bk aa #[vB false] 4,bk ab #[vI (L.length:Int)] 3,bk ad #[vI (i:Int)] 3,bk ae #[vI (sdP L i).1.1,vI (sdP L i).1.2,vI (sdP L i).2.1,vI (sdP L i).2.2] 126] k9->w.heap.size<=k9:=geM hgk hfw.size hM;refine aIJ [(5,vP ae 0),(4,vP ad 0),(3,vP ab 0),(2,vP aa 0),(1,vP ac 0)] f0 fun a E=>⟨_,_,E,hM,fun W2 l2 R2 hf2 hM hE2=>?_⟩;refine cal 7 1 20 [(19,vL p L.length cap)] (K:=fun u w8=>∃ b,u = .func (.func 179) #[] #[vP b 0] /\ w8.heap[b]?=some (.cells #[vL p L.length cap] 100 (0,0)) /\ (World.heap _).size<=b /\ Fr nF_ _ w8) (fc (ldm 100 0 0 hM rfl rfl) f0) ((aDK p L.length cap _).mono fun e w9 ⟨b,h1,h2⟩=>⟨_,h1,b,rfl,h2⟩) fun u w1 ⟨it133,hu,hi133,hs133,f1⟩=>?_;subst hu;have hn133:¬ BlM [bk ac #[vL p L.length cap] 100,bk aa #[vB false] 4,bk ab #[vI (L.length:Int)] 3,bk ad #[vI (i:Int)] 3,bk ae #[vI (sdP L i).1.1,vI (sdP L i).1.2,vI (sdP L i).2.1,vI (sdP L i).2.2] 126] it133:=fun ⟨e,he,hb⟩=>Nat.lt_irrefl _ (Nat.lt_of_lt_of_le (e.lt (hM.at_ e he) hb) hs133);have hM:=hM.q f1;refine seg 1008 0 [] f0 ?_;have hg9:∀ k9,BlM [bk ac #[vL p L.length cap] 100,bk aa #[vB false] 4,bk ab #[vI (L.length:Int)] 3,bk ad #[vI (i:Int)] 3,bk ae #[vI (sdP L i).1.1,vI (sdP L i).1.2,vI (sdP L i).2.1,vI (sdP L i).2.2] 126] k9->w.heap.size<=k9:=geM hg2 (Gn_ hf2.size (Gj_ _)) hM;obtain ⟨rr4,hlp4⟩:=hE2.lp;refine aWJ 8 2 (g := .tmp 20) (ps:=#[21,22]) (vs:=sdV L) (fun k Mk=>Mk=[bk ac #[vL p L.length cap] 100,bk aa #[vB false] 4,bk ab #[vI (L.length:Int)] 3,bk ad #[vI (i:Int)] 3,bk ae #[vI (sdP L i).1.1,vI (sdP L i).1.2,vI (sdP L i).2.1,vI (sdP L i).2.2] 126] /\ ∀ j,j<k->okS L i j=true) (fun Mk=>aDR L=false /\ Mk=[bk ac #[vL p L.length cap] 100,bk aa #[vB false] 4,bk ab #[vI (L.length:Int)] 3,bk ad #[vI (i:Int)] 3,bk ae #[vI (sdP L i).1.1,vI (sdP L i).1.2,vI (sdP L i).2.1,vI (sdP L i).2.2] 126]) (fun Mk=>Mk=[bk ac #[vL p L.length cap] 100,bk aa #[vB false] 4,bk ab #[vI (L.length:Int)] 3,bk ad #[vI (i:Int)] 3,bk ae #[vI (sdP L i).1.1,vI (sdP L i).1.2,vI (sdP L i).2.1,vI (sdP L i).2.2] 126] /\ ∀ j,j<i->okS L i j=true) hE2.rd (hM.fr.obj hlp4 hE2.nl) hM ⟨rfl,fun j h=>absurd h (Nat.not_lt_zero j)⟩ (enters_of Tryz.func179 (by kernel_rfl) rfl) aHT (fun G W hG f=>⟨f.obj hi133 id,fun h=>(hG _ h).elim hn133 (fun h2=>absurd (aAe hi133) (by omega)),w.heap.size,hs.b ((hf2.trans' hM.fr fun r hr hb=>absurd hr (by have:=hg2 r hb;omega)).trans' f fun _ _ h=>h.elim),fun k hk=>(hG k hk).elim (hg9 k) fun h2=>Gn_ ((hf2.trans' hM.fr fun r hr hb=>absurd hr (by have:=hg2 r hb;omega))).size h2⟩) (vsz (ps:=#[21,22]) rfl) ?_ ?_ ?_ (by kernel_rfl)
    · skip
      intro k v Mk W l hv hI hfW hM;obtain ⟨rfl,hin⟩:=hI;obtain ⟨hk,rfl⟩:=aMQ hv;have hgk:∀ k9,BlM [bk ac #[vL p L.length cap] 100,bk aa #[vB false] 4,bk ab #[vI (L.length:Int)] 3,bk ad #[vI (i:Int)] 3,bk ae #[vI (sdP L i).1.1,vI (sdP L i).1.2,vI (sdP L i).2.1,vI (sdP L i).2.2] 126] k9->w.heap.size<=k9:=hg9;have hfw:Fr nF_ w W:=hf2.trans' hfW fun r hr hb=>absurd hr (by have:=hg2 r hb;omega);refine aBY 9 0 7 [(6,vI (k:Int))] [] 126 (.agg #[vI (sdP L k).1.1,vI (sdP L k).1.2,vI (sdP L k).2.1,vI (sdP L k).2.2]) f0 hM fun am w1 hM=>aIJ [(7,vP am 0),(6,vI (k:Int)),(5,vP ae 0),(4,vP ad 0),(3,vP ab 0),(2,vP aa 0)] f0 fun a E=>⟨_,_,E,hM,fun W4 l4 R4 hf4 hM hE4=>?_⟩;replace hf4:Fr nF_ w W4:=hf2.trans' hf4 fun r hr hb=>absurd hr (by have:=hg2 r hb;omega);refine seg 10 3 [(25,vB (decide ((i:Int)<=(k:Int))))] (fc (ldm 3 3 0 hM rfl rfl) f0) ?_;cases ai:(decide ((i:Int)<=(k:Int)))
      rotate_left
      ·have an:=dt ai;exact aZc 10 3 2 fun a E=>hE4.brk a _ _ ⟨rfl,fun j hj=>hin j (by omega)⟩ (hM.pick [0,1,2,3,4])
      have an:=df ai;refine aAx 11 2 28 [(26,.agg #[vI (sdP L i).1.1,vI (sdP L i).1.2,vI (sdP L i).2.1,vI (sdP L i).2.2]),(27,.agg #[vI (sdP L k).1.1,vI (sdP L k).1.2,vI (sdP L k).2.1,vI (sdP L k).2.2])] (fc (lam 126 4 0 4 hM rfl) (fc (lam 126 5 0 4 hM rfl) f0)) hM (aFG (sdP L i) (sdP L k) _) fun w1 hM=>seg 12 5 [(8,vI (aB3 (sdP L i) (sdP L k))),(33,vB (((i:Int)-(k:Int))==1))] (fc (ldm 3 3 0 hM rfl rfl) (fc (aGb (i:Int) (k:Int) u3_) f0)) ?_;cases af:(((i:Int)-(k:Int))==1)
      rotate_left
      ·have ao:=et af;refine seg 13 6 [(9,vB true),(46,vB (!((aB3 (sdP L i) (sdP L k))==1)))] f0 ?_;cases aj:((aB3 (sdP L i) (sdP L k))==1)
       ·refine stm 14 0 [] 4 1 0 (vB false) f0 hM rfl fun w1 hM=>?_;have hok:okS L i k=false:=by unfold okS nbP;simp only [af,aj]<;>rfl
        exact aS7 [] f0 fun a E=>hE4.ret a _ _ ⟨aMM (by omega) hi hok,rfl⟩ (hM.pick [0,1,2,3,4])
       have hok:okS L i k=true:=by unfold okS nbP;simp only [af,aj]<;>rfl
       exact aIJ [] f0 fun a E=>hE4.nrm a _ _ ⟨rfl,al_ hin hok⟩ (hM.pick [0,1,2,3,4])
      have ao:=ef af;refine seg 13 2 [(9,vB (((i:Int)-(k:Int))==((L.length:Int)-1))),(42,vB (((i:Int)-(k:Int))==((L.length:Int)-1)))] (fc (ldm 3 3 0 hM rfl rfl) (fc (aGb (i:Int) (k:Int) u3_) (fc (ldm 3 2 0 hM rfl rfl) (fc (aGb (L.length:Int) 1 u3_) f0)))) ?_;cases ag:(((i:Int)-(k:Int))==((L.length:Int)-1))
      ·have ap:=ef ag;refine seg 13 13 [(53,vB (!((aB3 (sdP L i) (sdP L k))==0)))] f0 ?_;cases ak:((aB3 (sdP L i) (sdP L k))==0)
       ·refine stm 14 0 [] 4 1 0 (vB false) f0 hM rfl fun w1 hM=>?_;have hok:okS L i k=false:=by unfold okS nbP;simp only [af,ag,ak]<;>rfl
        exact aS7 [] f0 fun a E=>hE4.ret a _ _ ⟨aMM (by omega) hi hok,rfl⟩ (hM.pick [0,1,2,3,4])
       have hok:okS L i k=true:=by unfold okS nbP;simp only [af,ag,ak]<;>rfl
       exact aIJ [] f0 fun a E=>hE4.nrm a _ _ ⟨rfl,al_ hin hok⟩ (hM.pick [0,1,2,3,4])
      have ap:=et ag;refine seg 13 6 [(46,vB (!((aB3 (sdP L i) (sdP L k))==1)))] f0 ?_;cases al:((aB3 (sdP L i) (sdP L k))==1)
      ·refine stm 14 0 [] 4 1 0 (vB false) f0 hM rfl fun w1 hM=>?_;have hok:okS L i k=false:=by unfold okS nbP;simp only [af,ag,al]<;>rfl
       exact aS7 [] f0 fun a E=>hE4.ret a _ _ ⟨aMM (by omega) hi hok,rfl⟩ (hM.pick [0,1,2,3,4])
      have hok:okS L i k=true:=by unfold okS nbP;simp only [af,ag,al]<;>rfl
      exact aIJ [] f0 fun a E=>hE4.nrm a _ _ ⟨rfl,al_ hin hok⟩ (hM.pick [0,1,2,3,4])
    · skip
      intro Mk w1 hI hM;have hk:(sdV L).length=L.length:=by unfold sdV;rw [Go_,List.length_range]
      rw [hk] at hI
      obtain ⟨rfl,hin⟩:Mk=[bk ac #[vL p L.length cap] 100,bk aa #[vB false] 4,bk ab #[vI (L.length:Int)] 3,bk ad #[vI (i:Int)] 3,bk ae #[vI (sdP L i).1.1,vI (sdP L i).1.2,vI (sdP L i).2.1,vI (sdP L i).2.2] 126] /\ ∀ j,j<i->okS L i j=true:=by
        rcases hI with ⟨rfl,h⟩ | h
        · exact ⟨rfl,fun j hj=>h j (by omega)⟩
        · exact h
      exact aIJ [] f0 fun a E=>hE2.nrm a _ _ ⟨rfl,fun j hj=>by rcases Nat.lt_succ_iff_lt_or_eq.1 hj with h | h;exact hall j h;rw [h];exact aUQ hin⟩ (hM.pick [0,1,2])
    · skip
      intro a Mk w1 hT hM E;obtain ⟨hsm,rfl⟩:=hT;exact hE2.ret a _ _ ⟨hsm,rfl⟩ (hM.pick [0,1,2])
  · skip
    intro Mk w1 hI hM;obtain ⟨i,hk⟩:∃ k,k=(sdV L).length:=⟨_,rfl⟩;rw [←hk] at hI;replace hk:i=L.length:=by rw [hk];unfold sdV;rw [Go_,List.length_range]
    obtain ⟨rfl,hall⟩:=hI;refine stm 15 0 [] 4 1 0 (vB true) f0 hM rfl fun w1 hM=>?_;have hM:Mm nF_ w _ ([bk ac #[vL p L.length cap] 100,bk aa #[vB true] 4,bk ab #[vI (L.length:Int)] 3]++[dfE _]):=hM;exact aPV 1 rfl f0 hM rfl (fun w9 hM=>hZ _ _ ⟨by rw [aSz (ah) (fun i hi=>hall i (by omega))],hM.fr⟩)
  · skip
    intro a Mk w1 hT hM E;obtain ⟨hsm,rfl⟩:=hT;exact (aKI (u:=true) E.df hM fun w9 hM=>⟨_,aNq rfl (E.at_ 2 (vP aa 0) rfl) 1 rfl (by kernel_rfl) hM,hZ _ _ ⟨by rw [hsm],hM.fr⟩⟩).1
def aJz (s:Pt×Pt) (z:Pt):Bool:=(aDQ s.1 s.2 z==0)&&(btw s.1.1 z.1 s.2.1&&btw s.1.2 z.2 s.2.2)
def dlt (s:Pt×Pt) (z:Pt):Int:=bif decide (s.1.2<=z.2)&&(decide (z.2<s.2.2)&&decide (0<aDQ s.1 s.2 z)) then 1 else bif decide (z.2<s.1.2)&&(decide (s.2.2<=z.2)&&decide (aDQ s.1 s.2 z<0)) then -1 else 0
def wnd (L:List Pt) (z:Pt):Nat->Int
  | 0=>0
  | k+1=>wnd L z k+dlt (sdP L k) z
def aPr (L:List Pt) (z:Pt):Int:=bif (List.range L.length).any (fun k=>aJz (sdP L k) z) then 0 else bif wnd L z L.length==0 then -1 else 1
def aES (L:List Pt) (z:Pt):Int:=bif aDR L&&rnP z then aPr L z else -1
theorem aRy {L:List Pt}(h:aLH L=true) (i:Nat):rnP (aJ7 L i)=true:=by
  unfold aLH at h;simp only [Ga_,Bool.not_eq_true',List.any_eq_false] at h;unfold aJ7;rw [List.getD_eq_getElem?_getD]
  cases hq:L[i]? with
  | none=>decide
  | some y=>have:=h.2 y (Ge_ hq);simpa using this
theorem aS0 {L:List Pt}(h:aDR L=true):aLH L=true:=by
  unfold aDR at h;rw [Ga_] at h;exact h.1
theorem aUt (L:List Pt) (z:Pt):∀ k:Nat,-(k:Int)<=wnd L z k /\ wnd L z k<=(k:Int)
  | 0=>⟨by simp [wnd],by simp [wnd]⟩
  | k+1=>by
    have h:=aUt L z k
    have h2 : -1<=dlt (sdP L k) z /\ dlt (sdP L k) z<=1:=by
      unfold dlt;cases decide ((sdP L k).1.2<=z.2)&&(decide (z.2<(sdP L k).2.2)&&decide (0<aDQ (sdP L k).1 (sdP L k).2 z))<;>cases decide (z.2<(sdP L k).1.2)&&(decide ((sdP L k).2.2<=z.2)&&decide (aDQ (sdP L k).1 (sdP L k).2 z<0))<;>decide
    unfold wnd;omega
theorem aVb {L:List Pt}{z:Pt}{k:Nat}(hk:k<L.length) (h:aJz (sdP L k) z=true):aPr L z=0:=by
  unfold aPr;rw [show ((List.range L.length).any fun k=>aJz (sdP L k) z)=true from List.any_eq_true.2 ⟨k,List.mem_range.2 hk,h⟩];rfl
theorem aNQ {L:List Pt}{z:Pt}(h:∀ k,k<L.length->aJz (sdP L k) z=false):aPr L z=bif wnd L z L.length==0 then -1 else 1:=by
  unfold aPr;rw [show ((List.range L.length).any fun k=>aJz (sdP L k) z)=false from List.any_eq_false.2 fun k hk=>by rw [h k (List.mem_range.1 hk)];simp];rfl
theorem aIl {w:World}{p:Option Addr}{cap:Nat}{L:List Pt}(hs:SrcP ptL 2 w p cap L) {z:Pt}(hr:aLH L=true) (hz:rnP z=true):Calls Tryz.prog 192 #[vL p L.length cap,.agg #[vI z.1,vI z.2]] w fun e w'=>e = .returned (vI (aPr L z)) /\ Fr nF_ w w':=by
  have bb:=hs.bnd;have hlr:L.length<=2000:=by have h9:=hr;unfold aLH at h9;simp only [Ga_,decide_eq_true_eq] at h9;omega
  refine aWi Tryz.func192 rfl rfl [(0,vL p L.length cap),(1,.agg #[vI z.1,vI z.2])] rfl rfl fun Z hZ=>?_;have hM:=Mm.nil nF_ w;refine aAu 0 0 3 [] (cs:=#[vI z.1,vI z.2]) (T:=29) (v:=fun b=>vP b 0) f0 hM fun aa w1 hM=>aAu 0 1 4 [] (cs:=#[vI 0]) (T:=3) (v:=fun b=>vP b 0) f0 hM fun ac w1 hM=>aBY 1 0 5 [] [] 3 (vI 0) f0 hM fun ab w1 hM=>cal 2 1 10 [(9,vL p L.length cap)] (K:=fun u w8=>∃ b,u = .func (.func 179) #[] #[vP b 0] /\ w8.heap[b]?=some (.cells #[vL p L.length cap] 100 (0,0)) /\ (World.heap _).size<=b /\ Fr nF_ _ w8) f0 ((aDK p L.length cap _).mono fun e w9 ⟨b,h1,h2⟩=>⟨_,h1,b,rfl,h2⟩) fun u w1 ⟨it129,hu,hi129,hs129,f1⟩=>?_;subst hu;have hn129:¬ BlM [bk aa #[vI z.1,vI z.2] 29,bk ac #[vI 0] 3,bk ab #[vI 0] 3] it129:=fun ⟨e,he,hb⟩=>Nat.lt_irrefl _ (Nat.lt_of_lt_of_le (e.lt (hM.at_ e he) hb) hs129);have hM:=hM.q f1;refine seg 1003 0 [] f0 ?_;have hg9:∀ k9,BlM [bk aa #[vI z.1,vI z.2] 29,bk ac #[vI 0] 3,bk ab #[vI 0] 3] k9->w.heap.size<=k9:=ge0 hM;refine aPY 3 (g := .tmp 10) (ps:=#[11,12]) (vs:=sdV L) (fun k Mk=>Mk=[bk aa #[vI z.1,vI z.2] 29,bk ac #[vI 0] 3,bk ab #[vI (wnd L z k)] 3] /\ ∀ j,j<k->aJz (sdP L j) z=false) (fun Mk=>aPr L z=0 /\ ∃ c,Mk=[bk aa #[vI z.1,vI z.2] 29,bk ac #[vI 0] 3,bk ab #[vI c] 3]) hM ⟨rfl,fun j h=>absurd h (Nat.not_lt_zero j)⟩ (enters_of Tryz.func179 (by kernel_rfl) rfl) aHT.z (fun G W hG f=>⟨f.obj hi129 id,fun h=>(hG _ h).elim hn129 (fun h2=>absurd (aAe hi129) (by omega)),w.heap.size,hs.b (hM.fr.trans' f fun _ _ h=>h.elim),fun k hk=>(hG k hk).elim (hg9 k) fun h2=>Gn_ (hM.fr).size h2⟩) (vsz (ps:=#[11,12]) rfl) ?_ ?_ ?_
  · skip
    intro k v Mk W l hv hI hfW hM;obtain ⟨rfl,hall⟩:=hI;obtain ⟨hk,rfl⟩:=aMQ hv;have hgk:∀ k9,BlM [bk aa #[vI z.1,vI z.2] 29,bk ac #[vI 0] 3,bk ab #[vI (wnd L z k)] 3] k9->w.heap.size<=k9:=fun k9 ⟨e,he,hb⟩=>by (simp only [List.mem_cons,List.not_mem_nil,or_false] at he;rcases he with rfl | rfl | rfl;exact hg9 _ ⟨_,.head _,hb⟩;exact hg9 _ ⟨_,.tail _ (.head _),hb⟩;exact hg9 _ ⟨_,.tail _ (.tail _ (.head _)),hb⟩)
    have hfw:Fr nF_ w W:=hfW;refine aBY 3 0 7 [] [] 126 (.agg #[vI (sdP L k).1.1,vI (sdP L k).1.2,vI (sdP L k).2.1,vI (sdP L k).2.2]) f0 hM fun ad w1 hM=>aIJ [(7,vP ad 0),(5,vP ab 0),(4,vP ac 0),(3,vP aa 0)] f0 fun a E=>⟨_,_,E,hM,fun W2 l2 R2 hf2 hM hE2=>?_⟩;have hwb:=aUt L z k;refine aAx 4 5 18 [(14,.agg #[vI (sdP L k).1.1,vI (sdP L k).1.2]),(16,.agg #[vI (sdP L k).2.1,vI (sdP L k).2.2]),(17,.agg #[vI z.1,vI z.2])] (fc (lam 29 3 0 2 hM rfl) (fc (lam 29 3 2 2 hM rfl) (fc (lam 29 0 0 2 hM rfl) f0))) hM (aLv (a:=(sdP L k).1) (b:=(sdP L k).2) (c:=z) (aRy hr _) (aRy hr _) hz _) fun w1 hM=>seg 5 0 [(8,vI (aDQ (sdP L k).1 (sdP L k).2 z))] f0 ?_
    have cu131:∀ (w2:World),aJz (sdP L k) z=false->Mm (BlM [bk aa #[vI z.1,vI z.2] 29,bk ac #[vI 0] 3,bk ab #[vI (wnd L z k)] 3,bk ad #[vI (sdP L k).1.1,vI (sdP L k).1.2,vI (sdP L k).2.1,vI (sdP L k).2.2] 126]) W2 w2 [bk aa #[vI z.1,vI z.2] 29,bk ac #[vI 0] 3,bk ab #[vI (wnd L z k)] 3,bk ad #[vI (sdP L k).1.1,vI (sdP L k).1.2,vI (sdP L k).2.1,vI (sdP L k).2.2] 126]->AtO Tryz.prog (aSf 1003 (aAw Tryz.f192)) R2 [] 88 (some (7,0)) [(8,vI (aDQ (sdP L k).1 (sdP L k).2 z)),(7,vP ad 0),(5,vP ab 0),(3,vP aa 0)] w2:=by
     intro w2 hon hM
     have cu132:∀ (w2:World),(decide ((sdP L k).1.2<=z.2)&&(decide (z.2<(sdP L k).2.2)&&decide (0<aDQ (sdP L k).1 (sdP L k).2 z)))=false->Mm (BlM [bk aa #[vI z.1,vI z.2] 29,bk ac #[vI 0] 3,bk ab #[vI (wnd L z k)] 3,bk ad #[vI (sdP L k).1.1,vI (sdP L k).1.2,vI (sdP L k).2.1,vI (sdP L k).2.2] 126]) W2 w2 [bk aa #[vI z.1,vI z.2] 29,bk ac #[vI 0] 3,bk ab #[vI (wnd L z k)] 3,bk ad #[vI (sdP L k).1.1,vI (sdP L k).1.2,vI (sdP L k).2.1,vI (sdP L k).2.2] 126]->AtO Tryz.prog (aSf 1003 (aAw Tryz.f192)) R2 [] 88 (some (9,0)) [(8,vI (aDQ (sdP L k).1 (sdP L k).2 z)),(7,vP ad 0),(5,vP ab 0),(3,vP aa 0)] w2:=by
      intro w2 hup hM;refine seg 9 7 [(72,vB (decide (z.2<(sdP L k).1.2)))] (fc (ldm 3 3 1 hM rfl rfl) (fc (ldm 3 0 1 hM rfl rfl) f0)) ?_;cases ae:(decide (z.2<(sdP L k).1.2))
      ·have hw:(wnd L z k)=wnd L z (k+1):=by show _=wnd L z k+dlt (sdP L k) z;unfold dlt;simp only [hup,ae];first | rfl | simp | omega
       exact aIJ [] f0 fun a E=>hE2.nrm a [bk aa #[vI z.1,vI z.2] 29,bk ac #[vI 0] 3,bk ab #[vI (wnd L z k)] 3] _ ⟨by rw [←hw],al_ hall hon⟩ (hM.pick [0,1,2])
      refine seg 9 15 [(80,vB (decide ((sdP L k).2.2<=z.2)))] (fc (ldm 3 3 3 hM rfl rfl) (fc (ldm 3 0 1 hM rfl rfl) f0)) ?_;cases ah:(decide ((sdP L k).2.2<=z.2))
      ·have hw:(wnd L z k)=wnd L z (k+1):=by show _=wnd L z k+dlt (sdP L k) z;unfold dlt;simp only [hup,ae,ah];first | rfl | simp | omega
       exact aIJ [] f0 fun a E=>hE2.nrm a [bk aa #[vI z.1,vI z.2] 29,bk ac #[vI 0] 3,bk ab #[vI (wnd L z k)] 3] _ ⟨by rw [←hw],al_ hall hon⟩ (hM.pick [0,1,2])
      refine seg 9 19 [(65,vB (decide ((aDQ (sdP L k).1 (sdP L k).2 z)<0)))] f0 ?_;cases ak:(decide ((aDQ (sdP L k).1 (sdP L k).2 z)<0))
      ·have hw:(wnd L z k)=wnd L z (k+1):=by show _=wnd L z k+dlt (sdP L k) z;unfold dlt;simp only [hup,ae,ah,ak];first | rfl | simp | omega
       exact aIJ [] f0 fun a E=>hE2.nrm a [bk aa #[vI z.1,vI z.2] 29,bk ac #[vI 0] 3,bk ab #[vI (wnd L z k)] 3] _ ⟨by rw [←hw],al_ hall hon⟩ (hM.pick [0,1,2])
      refine stm 10 2 [(85,vI ((wnd L z k)-1))] 3 2 0 (vI ((wnd L z k)-1)) (fc (ldm 3 2 0 hM rfl rfl) (fc (aGb (wnd L z k) 1 u3_) f0)) hM rfl fun w1 hM=>?_;have hw:((wnd L z k)-1)=wnd L z (k+1):=by show _=wnd L z k+dlt (sdP L k) z;unfold dlt;simp only [hup,ae,ah,ak];first | rfl | simp | omega
      exact aIJ [] f0 fun a E=>hE2.nrm a [bk aa #[vI z.1,vI z.2] 29,bk ac #[vI 0] 3,bk ab #[vI ((wnd L z k)-1)] 3] _ ⟨by rw [←hw],al_ hall hon⟩ (hM.pick [0,1,2])
     refine seg 7 7 [(51,vB (decide ((sdP L k).1.2<=z.2)))] (fc (ldm 3 3 1 hM rfl rfl) (fc (ldm 3 0 1 hM rfl rfl) f0)) ?_;cases af:(decide ((sdP L k).1.2<=z.2))
     ·refine seg 9 0 [] f0 (aAh _ (cu132 _ (by simp only [af]<;>rfl) hM))
     refine seg 7 15 [(59,vB (decide (z.2<(sdP L k).2.2)))] (fc (ldm 3 3 3 hM rfl rfl) (fc (ldm 3 0 1 hM rfl rfl) f0)) ?_;cases ai:(decide (z.2<(sdP L k).2.2))
     ·refine seg 9 0 [] f0 (aAh _ (cu132 _ (by simp only [af,ai]<;>rfl) hM))
     refine seg 7 19 [(44,vB (decide (0<(aDQ (sdP L k).1 (sdP L k).2 z))))] f0 ?_;cases al:(decide (0<(aDQ (sdP L k).1 (sdP L k).2 z)))
     ·refine seg 9 0 [] f0 (aAh _ (cu132 _ (by simp only [af,ai,al]<;>rfl) hM))
     refine stm 8 2 [(64,vI ((wnd L z k)+1))] 3 2 0 (vI ((wnd L z k)+1)) (fc (ldm 3 2 0 hM rfl rfl) (fc (aAI (wnd L z k) 1 u3_) f0)) hM rfl fun w1 hM=>?_;have hw:((wnd L z k)+1)=wnd L z (k+1):=by show _=wnd L z k+dlt (sdP L k) z;unfold dlt;simp only [af,ai,al];first | rfl | simp | omega
     exact aIJ [] f0 fun a E=>hE2.nrm a [bk aa #[vI z.1,vI z.2] 29,bk ac #[vI 0] 3,bk ab #[vI ((wnd L z k)+1)] 3] _ ⟨by rw [←hw],al_ hall hon⟩ (hM.pick [0,1,2])
    refine seg 5 3 [(22,vB ((aDQ (sdP L k).1 (sdP L k).2 z)==0))] f0 ?_;cases ag:((aDQ (sdP L k).1 (sdP L k).2 z)==0)
    ·refine seg 7 0 [] f0 (aAh _ (cu131 _ (by unfold aJz;simp only [ag]<;>rfl) hM))
    refine aAx 5 11 31 [(25,vI (sdP L k).1.1),(27,vI z.1),(30,vI (sdP L k).2.1)] (fc (ldm 3 3 0 hM rfl rfl) (fc (ldm 3 0 0 hM rfl rfl) (fc (ldm 3 3 2 hM rfl rfl) f0))) hM (aEp (sdP L k).1.1 z.1 (sdP L k).2.1 _) fun w1 hM=>seg 5 14 [(33,vB (btw (sdP L k).1.1 z.1 (sdP L k).2.1))] f0 ?_;cases aj:(btw (sdP L k).1.1 z.1 (sdP L k).2.1)
    ·refine seg 7 0 [] f0 (aAh _ (cu131 _ (by unfold aJz;simp only [ag,aj]<;>rfl) hM))
    refine aAx 5 22 42 [(36,vI (sdP L k).1.2),(38,vI z.2),(41,vI (sdP L k).2.2)] (fc (ldm 3 3 1 hM rfl rfl) (fc (ldm 3 0 1 hM rfl rfl) (fc (ldm 3 3 3 hM rfl rfl) f0))) hM (aEp (sdP L k).1.2 z.2 (sdP L k).2.2 _) fun w1 hM=>seg 5 25 [(19,vB (btw (sdP L k).1.2 z.2 (sdP L k).2.2))] f0 ?_;cases am:(btw (sdP L k).1.2 z.2 (sdP L k).2.2)
    ·refine seg 7 0 [] f0 (aAh _ (cu131 _ (by unfold aJz;simp only [ag,aj,am]<;>rfl) hM))
    refine stm 6 0 [] 3 1 0 (vI 0) f0 hM rfl fun w1 hM=>?_;have hon:aJz (sdP L k) z=true:=by unfold aJz;simp only [ag,aj,am]<;>rfl
    exact aS7 [] f0 fun a E=>hE2.ret a _ _ ⟨aVb hk hon,_,rfl⟩ (hM.pick [0,1,2])
  · skip
    intro Mk w1 hI hM;obtain ⟨k,hk⟩:∃ k,k=(sdV L).length:=⟨_,rfl⟩;rw [←hk] at hI;replace hk:k=L.length:=by rw [hk];unfold sdV;rw [Go_,List.length_range]
    obtain ⟨rfl,hall⟩:=hI;refine seg 11 2 [(87,vB ((wnd L z k)==0))] (fc (ldm 3 2 0 hM rfl rfl) f0) ?_;cases an:((wnd L z k)==0)
    ·refine stm 13 0 [] 3 1 0 (vI 1) f0 hM rfl fun w1 hM=>?_;have hM:Mm nF_ w _ ([bk aa #[vI z.1,vI z.2] 29,bk ac #[vI 1] 3,bk ab #[vI (wnd L z k)] 3]++[dfE _]):=hM;exact aPV 1 rfl f0 hM rfl (fun w9 hM=>hZ _ _ ⟨by rw [aNQ (fun j hj=>hall j (by omega)),←hk,an];rfl,hM.fr⟩)
    refine stm 12 0 [] 3 1 0 (vI (-1)) f0 hM rfl fun w1 hM=>?_;have hM:Mm nF_ w _ ([bk aa #[vI z.1,vI z.2] 29,bk ac #[vI (-1)] 3,bk ab #[vI (wnd L z k)] 3]++[dfE _]):=hM;exact aPV 1 rfl f0 hM rfl (fun w9 hM=>hZ _ _ ⟨by rw [aNQ (fun j hj=>hall j (by omega)),←hk,an];rfl,hM.fr⟩)
  · skip
    intro a Mk w1 hT hM E;obtain ⟨hsm,c9,rfl⟩:=hT;exact (aKI (u:=true) E.df hM fun w9 hM=>⟨_,aNq rfl (E.at_ 4 (vP ac 0) rfl) 1 rfl (by kernel_rfl) hM,hZ _ _ ⟨by rw [hsm],hM.fr⟩⟩).1
theorem aGu {w:World}{p:Option Addr}{cap:Nat}{L:List Pt}(hs:SrcP ptL 2 w p cap L) (z:Pt):Calls Tryz.prog 147 #[vL p L.length cap,.agg #[vI z.1,vI z.2]] w fun e w'=>e = .returned (vI (aES L z)) /\ Fr nF_ w w':=by
  refine beg Tryz.func147 rfl rfl [(0,vL p L.length cap),(1,.agg #[vI z.1,vI z.2])] rfl rfl fun Z hZ=>?_;have hM:=Mm.nil nF_ w;refine aAu 0 0 3 [] (cs:=#[vI z.1,vI z.2]) (T:=29) (v:=fun b=>vP b 0) f0 hM fun ac w1 hM=>aAx 1 1 6 [(5,vL p L.length cap)] f0 hM (aBS (hs.fr hM.fr)) fun w1 hM=>seg 1 4 [(8,vB (!(aDR L)))] f0 ?_;cases aa:(aDR L)
  ·exact rt1 4 (vI (-1)) rfl f0 (hZ _ _ ⟨by unfold aES;simp only [aa]<;>rfl,hM.fr⟩)
  refine aAx 1 5 10 [(9,.agg #[vI z.1,vI z.2])] (fc (lam 29 0 0 2 hM rfl) f0) hM (aF7 z _) fun w1 hM=>seg 1 8 [(12,vB (!(rnP z)))] f0 ?_;cases ab:(rnP z)
  ·exact rt1 4 (vI (-1)) rfl f0 (hZ _ _ ⟨by unfold aES;simp only [aa,ab]<;>rfl,hM.fr⟩)
  refine aAx 3 2 15 [(13,vL p L.length cap),(14,.agg #[vI z.1,vI z.2])] (fc (lam 29 0 0 2 hM rfl) f0) hM (aIl (hs.fr hM.fr) (aS0 aa) ab) fun w1 hM=>rt1 4 (vI (aPr L z)) rfl f0 (hZ _ _ ⟨by unfold aES;simp only [aa,ab]<;>rfl,hM.fr⟩)
end Go.Proofs.YtngjlnhojicjeaaGreatDoor
namespace Go.Pl
open Go.RowKit Go.Proofs.YtngjlnhojicjeaaGreatDoor
def aW6 (O:Array Oper) (i:Nat) (LL:Frm):Option (Op×Option Value×Option Value×Option Value×Option Value×Option Value×Option Nat) :=
 match O[i]? with
 | some o=>(match o.op.operands[0]?,o.op.operands[1]?,o.op.operands[2]?,o.op.operands[3]?,o.op.operands[4]? with
  | some x,some y,some z,some u,some v=>some (o.op,opv LL x,opv LL y,opv LL z,opv LL u,opv LL v,o.dst)
  | _,_,_,_,_=>none)
 | none=>none
def aW5 (O:Array Oper) (i:Nat) (f:Operand->Operand->Operand->Operand->Operand->Op) (v u t r q:Value) (d:Option Nat):Option (Op×Option Value×Option Value×Option Value×Option Value×Option Value×Option Nat) :=
 match O[i]? with
 | some o=>(match o.op.operands[0]?,o.op.operands[1]?,o.op.operands[2]?,o.op.operands[3]?,o.op.operands[4]? with
  | some x,some y,some z,some a,some b=>some (f x y z a b,some v,some u,some t,some r,some q,d)
  | _,_,_,_,_=>some (f (.tmp 0) (.tmp 0) (.tmp 0) (.tmp 0) (.tmp 0),none,none,none,none,none,none))
 | none=>some (f (.tmp 0) (.tmp 0) (.tmp 0) (.tmp 0) (.tmp 0),none,none,none,none,none,none)
theorem aU7 {O:Array Oper}{i:Nat}{LL:Frm}{f:Operand->Operand->Operand->Operand->Operand->Op}{v u t r q:Value}{d:Option Nat}{o:Oper}{ds:List Deferred}{n:Nat}{a:Act}(ho:O[i]?=some o) (E:EnvS ds n LL a) (h:aW6 O i LL=aW5 O i f v u t r q d):∃ x y z x4 x5,o.op=f x y z x4 x5 /\ a.eval x=v /\ a.eval y=u /\ a.eval z=t /\ a.eval x4=r /\ a.eval x5=q /\ o.dst=d:=by
 unfold aW6 aW5 at h;rw [ho] at h;simp only at h
 split at h
 ·rename_i x y z x4 x5 h1 h2 h3 h4 h5;simp only [Gk_,Prod.mk.injEq] at h;obtain ⟨g1,g2,g3,g4,g5,g6,g7⟩:=h;exact ⟨x,y,z,x4,x5,g1,E.opv g2,E.opv g3,E.opv g4,E.opv g5,E.opv g6,g7⟩
 ·cases h
theorem aQ0 {P:Program}{w:World}{ρ:Operand->Value}{o:Oper}{x y z u v:Operand}{ts:Array TypeId}{a b c d e:Int}(ho:o.op = .call ⟨.builtin .min,#[x,y,z,u,v],ts⟩) (h1:ρ x=vI a) (h2:ρ y=vI b) (h3:ρ z=vI c) (h4:ρ u=vI d) (h5:ρ v=vI e):(execOp ρ o).run P w = .ok (.value (vI (min (min (min (min a b) c) d) e))) w:=by
 simp [execOp,ho,h1,h2,h3,h4,h5,resolve,invoke,go_sem,Builtin.min_,Builtin.min2,List.foldlM,←aRD]
section
variable {rd:Option Nat}{P:Program}{B:Code}{ds:List Deferred}{n:Nat}{L:Frm}{w w0:World}{r:Nat}{F0:Nat->Prop}{ef:List Nat}{V:Lts->List (Option Value)}{F:Lts->List Ft}{Mf:Lts->List Bool->List Ent}
theorem aTJ (p i d:Nat) (ts:Array TypeId) (a b c e f:Int)
  (hm:∀ γ fr,Mf γ (flg B r ef i fr)=Mf (aBN γ p undef) ((flg B r ef i fr).set p true):=by intro γ fr;kernel_rfl)
  (hV:∀ γ,((V (aBN γ p undef))[p]?).getD none=some (vI (min (min (min (min a b) c) e) f)):=by intro γ;rfl)
  (hs:∀ γ,aW6 (aA5 B r) i (frX P w n B r L ef V F i γ)=aW5 (aA5 B r) i (fun x y z u v => .call ⟨.builtin .min,#[x,y,z,u,v],ts⟩) (vI a) (vI b) (vI c) (vI e) (vI f) (some d):=by intro γ;kernel_rfl):Arm rd P w n B r L ef V F ds F0 w0 Mf p i:=by
 intro γ fr a1 wm Q o ho En hw hM;obtain ⟨x,y,z,x4,x5,h1,h2,h3,h4,h5,h6,h7⟩:=aU7 ho En (hs γ);rw [hm] at hM;exact aGq (w':=wm) (aQ0 h1 h2 h3 h4 h5 h6) ⟨undef,γ.e p,by rw [aAy,hV,h7];rfl,by rw [aAy];exact hM⟩
end
end Go.Pl
namespace Go.Proofs.YtngjlnhojicjeaaGreatDoor
open Go.RowKit Go.Pl
structure ShA (l:List Ob) (s:ShR) (w:World):Prop where
  blk:w.heap[s.b]?=some (.cells #[vS s.o.o.id,vI s.o.o.kind,vI s.o.o.x,vI s.o.o.y,vL s.o.pr s.o.o.refs.length s.o.cr,vL s.o.pt s.o.o.tags.length s.o.ct,vL s.lp (s.L l).length s.lc,vL s.pp (s.P l).length s.pc] 102 (0,0))
  ln:SrcP sgL 4 w s.lp s.lc (s.L l)
  pt:SrcP ptL 2 w s.pp s.pc (s.P l)
theorem ShA.of {l:List Ob}{s:ShR}{w:World}(h:(shE l s).H w):ShA l s w:=by
  have h1:=h.1 _ (.head _);have h2:ow sgL 4 126 w 0 (vL s.lp (s.L l).length s.lc) (s.L l):=h.1 _ (.tail _ (.head _));have h3:ow ptL 2 29 w 0 (vL s.pp (s.P l).length s.pc) (s.P l):=h.1 _ (.tail _ (.tail _ (.head _)));exact ⟨h1,(show Src sgL 4 w (vL s.lp (s.L l).length s.lc) (s.L l) from h2.src sgT.len).p.2,(show Src ptL 2 w (vL s.pp (s.P l).length s.pc) (s.P l) from h3.src ptT.len).p.2⟩
theorem ShA.fr {l:List Ob}{s:ShR}{w w':World}(h:ShA l s w) (f:Fr nF_ w w'):ShA l s w':=⟨f.obj h.blk id,h.ln.fr f,h.pt.fr f⟩
def ShN (l:List Ob) (s:ShR):Prop:=0<(s.L l).length /\ 0<(s.P l).length
def arP (l:List Ob) (s:ShR) (z:Pt):Bool:=(s.o.o.kind==3)&&(aDR (s.P l)&&decide (0<=aES (s.P l) z))
def mnL (z:Pt) (L:List (Pt×Pt)) (m:Int):Int:=L.foldl (fun m x=>min m (aA3 x z)) m
def aV0 (L:List (Pt×Pt)) (i:Nat):Pt×Pt:=L.getD i ((0,0),(0,0))
def sqP (l:List Ob) (s:ShR) (z:Pt):Int:=bif arP l s z then 0 else mnL z (s.L l) (aA3 (aV0 (s.L l) 0) z)
def nr4 (a b:Pt×Pt) (m:Int):Int:=min (min (min (min m (aA3 a b.1)) (aA3 a b.2)) (aA3 b a.1)) (aA3 b a.2)
def inn (a:Pt×Pt) (L:List (Pt×Pt)) (m:Int):Int:=L.foldl (fun m b=>nr4 a b m) m
def aRE (A L:List (Pt×Pt)):Bool:=A.any fun a=>L.any fun b => !(aB3 a b==0)
def apP (l:List Ob) (s u:ShR):Int:=bif arP l s (aJ7 (u.P l) 0) then 0 else bif aRE (u.L l) (s.L l) then 0 else (u.L l).foldl (fun m a=>inn a (s.L l) m) (sqP l u (aJ7 (s.P l) 0))
theorem aTu {L:List (Pt×Pt)}{i:Nat}{y:Pt×Pt}(h:L[i]?=some y):aV0 L i=y:=by unfold aV0;rw [List.getD_eq_getElem?_getD,h];rfl
theorem aSX {z:Pt}{L:List (Pt×Pt)}{m0 m:Int}{k:Nat}{y:Pt×Pt}(h:m=mnL z (L.take k) m0) (hy:L[k]?=some y):min m (aA3 y z)=mnL z (L.take (k+1)) m0:=by
  unfold mnL at h ⊢;rw [gt_ hy,List.foldl_append,←h];rfl
theorem aQH {a:Pt×Pt}{L:List (Pt×Pt)}{m0 m:Int}{k:Nat}{y:Pt×Pt}(h:m=inn a (L.take k) m0) (hy:L[k]?=some y):nr4 a y m=inn a (L.take (k+1)) m0:=by
  unfold inn at h ⊢;rw [gt_ hy,List.foldl_append,←h];rfl
theorem aTm {a:Pt×Pt}{L:List (Pt×Pt)}{m0 m:Int}{k:Nat}(h:m=inn a (L.take k) m0) (hk:L.length<=k):m=inn a L m0:=by rw [Gc_ hk] at h;exact h
theorem aQk {A L:List (Pt×Pt)}{m0 m m2:Int}{i:Nat}{y:Pt×Pt}(h:m=(A.take i).foldl (fun m a=>inn a L m) m0) (hy:A[i]?=some y) (h2:m2=inn y L m):m2=(A.take (i+1)).foldl (fun m a=>inn a L m) m0:=by
  rw [gt_ hy,List.foldl_append,←h];exact h2
theorem aSZ {A L:List (Pt×Pt)}{i k:Nat}{a b:Pt×Pt}(ha:A[i]?=some a) (hb:L[k]?=some b) (h:(aB3 a b==0)=false):aRE A L=true:=by
  unfold aRE;rw [List.any_eq_true];exact ⟨a,Ge_ ha,List.any_eq_true.2 ⟨b,Ge_ hb,by rw [h];rfl⟩⟩
theorem aVa {A L:List (Pt×Pt)}(h:∀ (i:Nat) (a:Pt×Pt),A[i]?=some a->∀ (k:Nat) (b:Pt×Pt),L[k]?=some b->(aB3 a b==0)=true):aRE A L=false:=by
  unfold aRE;rw [List.any_eq_false];intro a ha;obtain ⟨i,hi⟩:=List.getElem?_of_mem ha;rw [Bool.not_eq_true,List.any_eq_false];intro b hb;obtain ⟨k,hk⟩:=List.getElem?_of_mem hb;rw [h i a hi k b hk];simp
theorem aSA {l:List Ob}{s:Bys}(hv:aAl l=true) (h:(aAf l s).1=0) {o:Ob}(ho:l[(aAv l s).toNat]?=some o) (hk:o.kind=2):2<=(aAf l s).2.length:=by
  unfold aAf at h ⊢;rw [hv] at h ⊢
  cases hd:decide (aAv l s<0) with
  | true=>rw [hd] at h;cases h
  | false =>
    rw [hd] at h;simp only [Bool.not_true,cond_false] at h ⊢;rw [ho] at h ⊢;simp only at h ⊢;unfold aAG at h ⊢;have hvo:=aCk hv o (Ge_ ho);rw [hk] at h ⊢;rw [show ((2:Int)==1)=false from rfl,show ((2:Int)==2)=true from rfl] at h ⊢;simp only [cond_false,Bool.true_or,cond_true] at h ⊢
    cases ha:o.refs.all fun r=>(aCB l r).isSome with
    | false=>rw [ha] at h;cases h
    | true =>
      simp only [cond_true,Go_];have:=aKJ hvo;rw [hk] at this;have:(2:Int)<=o.refs.length:=this;omega
theorem aNS {k:Int}{P:List Pt}(h0:0<P.length) (h2:k=2->2<=P.length):0<(aG3 k P).length:=by
  have h1:aHq k P 0=[(P.getD 0 (0,0),P.getD ((0+1)%P.length) (0,0))]:=by
    unfold aHq
    cases hk:k==2 with
    | false=>simp
    | true =>
      have h3:=h2 (et hk)
      rw [decide_eq_true (by
        have:(((0:Nat):Int)+1)%(P.length:Int)=1:=Int.emod_eq_of_lt (by omega) (by omega);omega)];rfl
  unfold aG3;obtain ⟨n,hn⟩:∃ n,P.length=n+1:=⟨P.length-1,by omega⟩;rw [hn,List.range_succ_eq_map,List.flatMap_cons,h1];simp
theorem aDE {l:List Ob}{s:ShR}{w:World}(hA:ShA l s w) (z:Pt):Calls Tryz.prog 111 #[vP s.b 0,.agg #[vI z.1,vI z.2]] w fun e w'=>e = .returned (vB (arP l s z)) /\ Fr nF_ w w':=by
  refine beg Tryz.func111 rfl rfl [(0,vP s.b 0),(1,.agg #[vI z.1,vI z.2])] rfl rfl fun Z hZ=>?_;have hM:=Mm.nil nF_ w;refine aAu 0 0 3 [] (cs:=#[vI z.1,vI z.2]) (T:=29) (v:=fun b=>vP b 0) f0 hM fun ac w1 hM=>seg 1 0 [] f0 ?_;cases aa:(s.o.o.kind==3)
  ·refine drc [(4,vB false)] hM (fun w5 hM=>(fc (ld0 3 hM (bx hA.blk 1 rfl)) (fc (tv 10 aa) f0))) fun w5 hM=>rt1 4 (vB false) rfl f0 (hZ _ _ ⟨by unfold arP;simp only [aa]<;>rfl,hM.fr⟩)
  cases ab:(aDR (s.P l))
  ·refine drc [(4,vB false)] hM (fun w5 hM=>(fc (ld0 3 hM (bx hA.blk 1 rfl)) (fc (tv 10 aa) (fc (ld0 100 hM (bx hA.blk 7 rfl)) (fc (rzc (tcl (aBS (hA.pt.fr hM.fr))) ab) f0))))) fun w5 hM=>rt1 4 (vB false) rfl f0 (hZ _ _ ⟨by unfold arP;simp only [aa,ab]<;>rfl,hM.fr⟩)
  refine drc [(4,vB (decide (0<=(aES (s.P l) z))))] hM (fun w5 hM=>(fc (ld0 3 hM (bx hA.blk 1 rfl)) (fc (tv 10 aa) (fc (ld0 100 hM (bx hA.blk 7 rfl)) (fc (rzc (tcl (aBS (hA.pt.fr hM.fr))) ab) (fc (ld0 100 hM (bx hA.blk 7 rfl)) (fc (lam 29 0 0 2 hM rfl) (fc (tcl (aGu (hA.pt.fr hM.fr) z)) f0)))))))) fun w5 hM=>rt1 4 (vB (decide (0<=(aES (s.P l) z)))) rfl f0 (hZ _ _ ⟨by unfold arP;simp only [aa,ab]<;>rfl,hM.fr⟩)
abbrev aZt (Z:Ending->World->Prop):=AtO Tryz.prog (aAw Tryz.f66) (aAL (bodyPost Tryz.prog Tryz.f66 Z)) [] 35
theorem aEF {l:List Ob}{s:ShR}{w:World}(hA:ShA l s w) (hN:ShN l s) (z:Pt):Calls Tryz.prog 66 #[vP s.b 0,.agg #[vI z.1,vI z.2]] w fun e w'=>e = .returned (vI (sqP l s z)) /\ Fr nF_ w w':=by
  obtain ⟨hl0,hp0⟩:=hN;have bls:=hA.ln.bnd;refine beg Tryz.func66 rfl rfl [(0,vP s.b 0),(1,.agg #[vI z.1,vI z.2])] rfl rfl fun Z hZ=>?_;have hM:=Mm.nil nF_ w;refine aAu 0 0 3 [] (cs:=#[vI z.1,vI z.2]) (T:=29) (v:=fun b=>vP b 0) f0 hM fun ad w1 hM=>aAx 1 2 10 [(8,vP s.b 0),(9,.agg #[vI z.1,vI z.2])] (fc (lam 29 0 0 2 hM rfl) f0) hM (aDE (hA.fr hM.fr) z) fun w1 hM=>?_;cases ae:(arP l s z)
  rotate_left
  ·exact rt1 4 (vI 0) rfl f0 (hZ _ _ ⟨by unfold sqP;rw [ae];rfl,hM.fr⟩)
  refine seg 3 0 [] f0 ?_;obtain ⟨ab,af,ap,aq,ai,aj⟩:=(hA.ln).el (i:=0) (by omega);refine drc [(5,vI (aA3 ab z))] hM (fun w5 hM=>(fc (ld0 99 hM (bx hA.blk 6 rfl)) (fc (ix 99 s.lc ai (gl af)) (fc (la0 126 hM aj) (fc (lam 29 0 0 2 hM rfl) (fc (tcl (aBJ ab z _)) f0)))))) fun w5 hM=>seg 5 0 [(22,vL s.lp (s.L l).length s.lc),(23,vI ((s.L l).length:Int)),(24,vI 0)] (fc (ld0 99 hM (bx hA.blk 6 rfl)) f0) ?_
  have ak:∀ (ag:Nat) (k:Nat) (m:Int) (w2:World),k<=(s.L l).length->m=mnL z ((s.L l).take k) (aA3 ab z)->Mm nF_ w w2 [bk ad #[vI z.1,vI z.2] 29]->ag=(s.L l).length-k->aZt Z (some (5,0)) [(24,vI (k:Int)),(23,vI ((s.L l).length:Int)),(22,vL s.lp (s.L l).length s.lc),(5,vI m),(3,vP ad 0)] w2:=by
   refine aCx fun ag al k m w2 hk hm hM ar=>seg 5 1 [(25,vB (decide ((k:Int)<((s.L l).length:Int))))] f0 ?_;cases ah:(decide ((k:Int)<((s.L l).length:Int)))
   ·have am:=df ah;exact rt1 4 (vI m) rfl f0 (hZ _ _ ⟨by unfold sqP;rw [ae,aTu af,hm,Gc_ (by omega)];rfl,hM.fr⟩)
   have am:=dt ah;obtain ⟨aa,ac,au,av,an,ao⟩:=(hA.ln).el (i:=k) (by omega);refine aBY 6 2 7 [(27,.agg #[vI aa.1.1,vI aa.1.2,vI aa.2.1,vI aa.2.2])] [] 126 (.agg #[vI aa.1.1,vI aa.1.2,vI aa.2.1,vI aa.2.2]) (fc (ix 99 s.lc an (gl ac)) (fc (la0 126 hM ao) f0)) hM fun aw w1 hM=>aAx 7 3 31 [(28,vI m),(29,.agg #[vI aa.1.1,vI aa.1.2,vI aa.2.1,vI aa.2.2]),(30,.agg #[vI z.1,vI z.2])] (fc (lam 126 1 0 4 hM rfl) (fc (lam 29 0 0 2 hM rfl) f0)) hM (aBJ aa z _) fun w1 hM=>seg 5 0 [(5,vI (min m (aA3 aa z))),(24,vI ((k:Int)+1))] (fc (aSt 3 m (aA3 aa z)) (fc (aAI (k:Int) 1 u3_) f0)) (aAh _ (al _ (by omega) (k+1) _ _ (gl ac) (aSX hm ac) (hM.pick [0]) rfl))
  exact aAh _ (ak _ 0 (aA3 ab z) _ (Gg_ _) rfl hM rfl)
abbrev aYf (Z:Ending->World->Prop):=AtO Tryz.prog (aAw Tryz.f61) (aAL (bodyPost Tryz.prog Tryz.f61 Z)) [] 69
theorem aJU {l:List Ob}{s u:ShR}{w:World}(hA:ShA l s w) (hU:ShA l u w) (hN:ShN l s) (hU2:ShN l u):Calls Tryz.prog 61 #[vP s.b 0,vP u.b 0] w fun e w'=>e = .returned (vI (apP l s u)) /\ Fr nF_ w w':=by
  obtain ⟨hl0,hp0⟩:=hN;have hN2:=hU2;obtain ⟨hl1,hp1⟩:=hU2;have bls:=hA.ln.bnd;have blu:=hU.ln.bnd;refine beg Tryz.func61 rfl rfl [(0,vP s.b 0),(1,vP u.b 0)] rfl rfl fun Y hY=>?_;have hM:=Mm.nil nF_ w;obtain ⟨af,ag,a7,a8,aq,ar⟩:=(hU.pt).el (i:=0) (by omega);refine aAx 1 7 17 [(10,vP s.b 0),(16,.agg #[vI af.1,vI af.2])] (fc (ld0 100 hM (bx hU.blk 7 rfl)) (fc (ix 100 u.pc aq (gl ag)) (fc (la0 29 hM ar) f0))) hM (aDE (hA.fr hM.fr) af) fun w1 hM=>?_;cases aj:(arP l s af)
  rotate_left
  ·exact rt1 4 (vI 0) rfl f0 (hY _ _ ⟨by unfold apP;rw [aE4 ag,aj];rfl,hM.fr⟩)
  obtain ⟨ac,ak,a9,ba,au,av⟩:=(hA.pt).el (i:=0) (by omega);refine aAx 3 7 25 [(18,vP u.b 0),(24,.agg #[vI ac.1,vI ac.2])] (fc (ld0 100 hM (bx hA.blk 7 rfl)) (fc (ix 100 s.pc au (gl ak)) (fc (la0 29 hM av) f0))) hM (aEF (hU.fr hM.fr) hN2 ac) fun w1 hM=>seg 5 0 [(5,vI (sqP l u ac)),(29,vL u.lp (u.L l).length u.lc),(30,vI ((u.L l).length:Int)),(31,vI 0)] (fc (ld0 99 hM (bx hU.blk 6 rfl)) f0) ?_
  have aw:∀ (al:Nat) (i:Nat) (m:Int) (w2:World),i<=(u.L l).length->m=((u.L l).take i).foldl (fun m a=>inn a (s.L l) m) (sqP l u ac)->(∀ (i9:Nat),i9<i->∀ (a:Pt×Pt),(u.L l)[i9]?=some a->∀ (k:Nat) (b:Pt×Pt),(s.L l)[k]?=some b->(aB3 a b==0)=true)->Mm nF_ w w2 []->al=(u.L l).length-i->aYf Y (some (5,0)) [(31,vI (i:Int)),(30,vI ((u.L l).length:Int)),(29,vL u.lp (u.L l).length u.lc),(5,vI m),(0,vP s.b 0)] w2:=by
   refine aCx fun al ax i m w2 hi hm hno hM bb=>seg 5 1 [(32,vB (decide ((i:Int)<((u.L l).length:Int))))] f0 ?_;cases am:(decide ((i:Int)<((u.L l).length:Int)))
   ·have ay:=df am;exact rt1 4 (vI m) rfl f0 (hY _ _ ⟨by unfold apP;rw [aE4 ag,aj,aVa (fun i9 a ha=>hno i9 (by have:=gl ha;omega) a ha),aE4 ak,hm,Gc_ (by omega)];rfl,hM.fr⟩)
   have ay:=dt am;obtain ⟨aa,ad,bc,bd,az,a0⟩:=(hU.ln).el (i:=i) (by omega);refine aBY 6 2 7 [(34,.agg #[vI aa.1.1,vI aa.1.2,vI aa.2.1,vI aa.2.2])] [] 126 (.agg #[vI aa.1.1,vI aa.1.2,vI aa.2.1,vI aa.2.2]) (fc (ix 99 u.lc az (gl ad)) (fc (la0 126 hM a0) f0)) hM fun ah w1 hM=>seg 8 0 [(38,vL s.lp (s.L l).length s.lc),(39,vI ((s.L l).length:Int)),(40,vI 0)] (fc (ld0 99 hM (bx hA.blk 6 rfl)) f0) ?_
   have a1:∀ (an:Nat) (k:Nat) (m2:Int) (w2:World),k<=(s.L l).length->m2=inn aa ((s.L l).take k) m->(∀ (k9:Nat),k9<k->∀ (b:Pt×Pt),(s.L l)[k9]?=some b->(aB3 aa b==0)=true)->Mm nF_ w w2 [bk ah #[vI aa.1.1,vI aa.1.2,vI aa.2.1,vI aa.2.2] 126]->an=(s.L l).length-k->aYf Y (some (8,0)) [(40,vI (k:Int)),(39,vI ((s.L l).length:Int)),(38,vL s.lp (s.L l).length s.lc),(7,vP ah 0),(31,vI (i:Int)),(30,vI ((u.L l).length:Int)),(29,vL u.lp (u.L l).length u.lc),(5,vI m2),(0,vP s.b 0)] w2:=by
    refine aCx fun an a2 k m2 w2 hk hm2 hin hM be=>seg 8 1 [(41,vB (decide ((k:Int)<((s.L l).length:Int))))] f0 ?_;cases ao:(decide ((k:Int)<((s.L l).length:Int)))
    ·have a3:=df ao;refine seg 5 0 [(31,vI ((i:Int)+1))] (fc (aAI (i:Int) 1 u3_) f0) (aAh _ (ax _ (by omega) (i+1) _ _ (gl ad) (aQk hm ad (aTm hm2 (by omega))) (fun i9 h9 a ha=>by rcases Nat.lt_succ_iff_lt_or_eq.1 h9 with h | h;exact hno i9 h a ha;subst h;obtain rfl:=Gh_ (ha.symm.trans ad);exact fun k9 b hb=>hin k9 (by have:=gl hb;omega) b hb) (hM.pick []) rfl))
    have a3:=dt ao;obtain ⟨ab,ae,bf,bg,a4,a5⟩:=(hA.ln).el (i:=k) (by omega);refine aBY 9 2 9 [(43,.agg #[vI ab.1.1,vI ab.1.2,vI ab.2.1,vI ab.2.2])] [] 126 (.agg #[vI ab.1.1,vI ab.1.2,vI ab.2.1,vI ab.2.2]) (fc (ix 99 s.lc a4 (gl ae)) (fc (la0 126 hM a5) f0)) hM fun ap w1 hM=>aAx 10 2 46 [(44,.agg #[vI aa.1.1,vI aa.1.2,vI aa.2.1,vI aa.2.2]),(45,.agg #[vI ab.1.1,vI ab.1.2,vI ab.2.1,vI ab.2.2])] (fc (lam 126 0 0 4 hM rfl) (fc (lam 126 1 0 4 hM rfl) f0)) hM (aFG aa ab _) fun w1 hM=>seg 10 4 [(47,vB (!((aB3 aa ab)==0)))] f0 ?_;cases ai:((aB3 aa ab)==0)
    ·have a6:=ef ai;exact rt1 4 (vI 0) rfl f0 (hY _ _ ⟨by unfold apP;rw [aE4 ag,aj,aSZ ad ae ai];rfl,hM.fr⟩)
    have a6:=et ai;refine seg 12 0 [] f0 (drx [17] (fun Z=>[some (vI (min (min (min (min m2 (aA3 aa ab.1)) (aA3 aa ab.2)) (aA3 ab aa.1)) (aA3 ab aa.2)))]) _ (fun Z l=>[bk ah #[vI aa.1.1,vI aa.1.2,vI aa.2.1,vI aa.2.2] 126,bk ap #[vI ab.1.1,vI ab.1.2,vI ab.2.1,vI ab.2.2] 126]) (fun Z=>[(5,vI (min (min (min (min m2 (aA3 aa ab.1)) (aA3 aa ab.2)) (aA3 ab aa.1)) (aA3 ab aa.2)))]) hM (fun Z=>rfl) (fun Z l w5 hM=>(fc (lam 126 0 0 4 hM rfl) (fc (lam 29 1 0 2 hM rfl) (fc (tcl (aBJ aa ab.1 _)) (fc (lam 126 0 0 4 hM rfl) (fc (lam 29 1 2 2 hM rfl) (fc (tcl (aBJ aa ab.2 _)) (fc (lam 126 1 0 4 hM rfl) (fc (lam 29 0 0 2 hM rfl) (fc (tcl (aBJ ab aa.1 _)) (fc (lam 126 1 0 4 hM rfl) (fc (lam 29 0 2 2 hM rfl) (fc (tcl (aBJ ab aa.2 _)) f0))))))))))))) ⟨aTJ 0 17 65 #[3,3,3,3,3] m2 (aA3 aa ab.1) (aA3 aa ab.2) (aA3 ab aa.1) (aA3 ab aa.2),trivial⟩ fun bh w1 hM=>?_);replace hM:Mm nF_ w w1 [bk ah #[vI aa.1.1,vI aa.1.2,vI aa.2.1,vI aa.2.2] 126,bk ap #[vI ab.1.1,vI ab.1.2,vI ab.2.1,vI ab.2.2] 126]:=hM;refine seg 8 0 [(40,vI ((k:Int)+1))] (fc (aAI (k:Int) 1 u3_) f0) (aAh _ (a2 _ (by omega) (k+1) _ _ (gl ae) (aQH hm2 ae) (fun k9 h9 b hb=>by rcases Nat.lt_succ_iff_lt_or_eq.1 h9 with h | h;exact hin k9 h b hb;subst h;obtain rfl:=Gh_ (hb.symm.trans ae);exact ai) (hM.pick [0]) rfl))
   exact aAh _ (a1 _ 0 m _ (Gg_ _) rfl (fun k9 h=>absurd h (Nat.not_lt_zero _)) hM rfl)
  exact aAh _ (aw _ 0 (sqP l u ac) _ (Gg_ _) rfl (fun i9 h=>absurd h (Nat.not_lt_zero _)) hM rfl)
def aEU (lo hi x:Int):Int:=max (lo-x) (max 0 (x-hi))
def aMo (b:Pt×Pt) (p:Pt):Int:=aEU b.1.1 b.2.1 p.1*aEU b.1.1 b.2.1 p.1+aEU b.1.2 b.2.2 p.2*aEU b.1.2 b.2.2 p.2
theorem aKo {d a:Int}(h0:0<=d) (h:d<=a∨d <= -a):d*d<=a*a:=by
 rcases h with h | h
 ·exact Int.mul_le_mul h h h0 (by omega)
 ·rw [←Int.neg_mul_neg a a];exact Int.mul_le_mul h h h0 (by omega)
theorem aKv {D al a b lo hi x:Int}(h0:0<=al) (h1:al<=D) (ha:lo<=a /\ a<=hi) (hb:lo<=b /\ b<=hi):D*aEU lo hi x<=D*(x-a)-al*(b-a)∨D*aEU lo hi x <= -(D*(x-a)-al*(b-a)):=by
 have p1:0<=(D-al)*(a-lo):=Int.mul_nonneg (by omega) (by omega);have p2:0<=al*(b-lo):=Int.mul_nonneg h0 (by omega);have p3:0<=(D-al)*(hi-a):=Int.mul_nonneg (by omega) (by omega);have p4:0<=al*(hi-b):=Int.mul_nonneg h0 (by omega);simp only [Int.sub_mul,Int.mul_sub] at p1 p2 p3 p4 ⊢;have hg:aEU lo hi x=lo-x∨aEU lo hi x=0∨aEU lo hi x=x-hi:=by unfold aEU;omega
 rcases hg with hg | hg | hg
 ·rw [hg];simp only [Int.mul_sub];omega
 ·rw [hg,Int.mul_zero];omega
 ·rw [hg];simp only [Int.mul_sub];omega
theorem aCd (lo hi x:Int):0<=aEU lo hi x:=by unfold aEU;omega
theorem aOj {lo hi a x:Int}(ha:lo<=a /\ a<=hi):aEU lo hi x<=x-a∨aEU lo hi x <= -(x-a):=by unfold aEU;omega
def aDM (b:Pt×Pt) (p:Pt):Prop:=(b.1.1<=p.1 /\ p.1<=b.2.1) /\ (b.1.2<=p.2 /\ p.2<=b.2.2)
theorem aSd {b:Pt×Pt}{a p:Pt}(h:aDM b a):aMo b p<=(p.1-a.1)*(p.1-a.1)+(p.2-a.2)*(p.2-a.2):=by
 have h1:=aKo (aCd _ _ p.1) (aOj (x:=p.1) h.1);have h2:=aKo (aCd _ _ p.2) (aOj (x:=p.2) h.2);unfold aMo;omega
theorem aFg {s:Pt×Pt}{p:Pt}{b:Pt×Pt}(h1:aDM b s.1) (h2:aDM b s.2) (hn:[s.1,s.2,p].all aA0=true):aMo b p<=aA3 s p:=by
 have n1:aA0 s.1=true:=List.all_eq_true.1 hn _ (.head _);have n2:aA0 s.2=true:=List.all_eq_true.1 hn _ (.tail _ (.head _));have n3:aA0 p=true:=List.all_eq_true.1 hn _ (.tail _ (.tail _ (.head _)));unfold aA3;rw [hn];simp only [Bool.not_true,cond_false]
 cases c1:decide (aCu s.1 s.2 p<=0) with
 | true =>
  simp only [cond_true];unfold aEX;rw [n1,n3];exact aSd h1
 | false =>
  simp only [cond_false]
  cases c2:decide (aCu s.1 s.2 s.2<=aCu s.1 s.2 p) with
  | true =>
   simp only [cond_true];unfold aEX;rw [n2,n3];exact aSd h2
  | false =>
   simp only [cond_false];have r1:=of_decide_eq_false c1;have r2:=of_decide_eq_false c2;have k1:=aKv (D:=aCu s.1 s.2 s.2) (al:=aCu s.1 s.2 p) (x:=p.1) (by omega) (by omega) h1.1 h2.1;have k2:=aKv (D:=aCu s.1 s.2 s.2) (al:=aCu s.1 s.2 p) (x:=p.2) (by omega) (by omega) h1.2 h2.2
   have e1:aCu s.1 s.2 s.2*(p.1-s.1.1)-aCu s.1 s.2 p*(s.2.1-s.1.1) = -((s.2.2-s.1.2)*aBz s.1 s.2 p):=by
    unfold aCu aBz;generalize s.2.1-s.1.1=vx;generalize s.2.2-s.1.2=vy;generalize p.1-s.1.1=wx;generalize p.2-s.1.2=wy;have q1:vx*vx*wx=vx*wx*vx:=by rw [Int.mul_assoc,Int.mul_comm vx (vx*wx)]
    have q2:vy*(vx*wy)=vy*wy*vx:=by rw [Int.mul_comm vx wy,Int.mul_assoc]
    have q3:vy*(vy*wx)=vy*vy*wx:=by rw [Int.mul_assoc]
    simp only [Int.add_mul,Int.mul_sub];omega
   have e2:aCu s.1 s.2 s.2*(p.2-s.1.2)-aCu s.1 s.2 p*(s.2.2-s.1.2)=(s.2.1-s.1.1)*aBz s.1 s.2 p:=by
    unfold aCu aBz;generalize s.2.1-s.1.1=vx;generalize s.2.2-s.1.2=vy;generalize p.1-s.1.1=wx;generalize p.2-s.1.2=wy;have q1:vy*vy*wy=vy*wy*vy:=by rw [Int.mul_assoc,Int.mul_comm vy (vy*wy)]
    have q2:vx*(vy*wx)=vx*wx*vy:=by rw [Int.mul_comm vy wx,Int.mul_assoc]
    have q3:vx*(vx*wy)=vx*vx*wy:=by rw [Int.mul_assoc]
    simp only [Int.add_mul,Int.mul_sub];omega
   rw [e1,Int.neg_neg] at k1;rw [e2] at k2;have hD:aCu s.1 s.2 s.2=(s.2.1-s.1.1)*(s.2.1-s.1.1)+(s.2.2-s.1.2)*(s.2.2-s.1.2):=rfl;generalize hvx:s.2.1-s.1.1=vx at *;generalize hvy:s.2.2-s.1.2=vy at *;generalize hDD:aCu s.1 s.2 s.2=D at *;generalize hc:aBz s.1 s.2 p=c at *;have g1:=aCd b.1.1 b.2.1 p.1;have g2:=aCd b.1.2 b.2.2 p.2;unfold aMo;generalize aEU b.1.1 b.2.1 p.1=dx at *;generalize aEU b.1.2 b.2.2 p.2=dy at *;have f1:=aKo (Int.mul_nonneg (show 0<=D by omega) g1) (a:=vy*c) (by omega);have f2:=aKo (Int.mul_nonneg (show 0<=D by omega) g2) (a:=vx*c) (by omega);rw [m4 D dx D dx,m4 vy c vy c] at f1;rw [m4 D dy D dy,m4 vx c vx c] at f2
   have f3:D*(D*(dx*dx+dy*dy))<=D*(c*c):=by
    rw [←Int.mul_assoc,Int.mul_add];have:D*(c*c)=vx*vx*(c*c)+vy*vy*(c*c):=by rw [hD,Int.add_mul]
    omega
   have f4:D*(dx*dx+dy*dy)<=c*c:=Int.le_of_mul_le_mul_left f3 (by omega)
   have g3:0<=dx*dx+dy*dy:=by
    have:=Int.mul_nonneg g1 g1;have:=Int.mul_nonneg g2 g2;omega
   obtain ⟨N,hN⟩:=Int.eq_ofNat_of_zero_le g3;obtain ⟨d,hd⟩:=Int.eq_ofNat_of_zero_le (show 0<=D by omega);rw [hN,hd] at f4;rw [hN,hd,Int.toNat_natCast];refine Int.ofNat_le.2 ?_;rw [Nat.le_div_iff_mul_le (by omega)];have f5:((N*d:Nat):Int)<=((c.natAbs*c.natAbs:Nat):Int):=by rw [aPh,Int.natCast_mul,Int.mul_comm];exact f4
   exact Int.ofNat_le.1 f5
def lin (α β:Int) (p:Pt):Int:=α*p.1+β*p.2
def bef (α β:Int) (s t:Pt×Pt):Prop:=(lin α β s.1<lin α β t.1 /\ lin α β s.1<lin α β t.2) /\ (lin α β s.2<lin α β t.1 /\ lin α β s.2<lin α β t.2)
theorem aBE {a b:Pt}:aCc a b<=0↔(a.1<b.1∨(a.1=b.1 /\ a.2<=b.2)):=by
 unfold aCc aCe aCe aCe aBW
 by_cases h:a.1<b.1
 ·simp [h]
 ·by_cases h2:b.1<a.1
  ·simp [h,h2];omega
  ·have e:a.1=b.1:=by omega
   by_cases h3:a.2<b.2
   ·simp [h,h2,h3,e];omega
   ·by_cases h4:b.2<a.2
    ·simp [h,h2,h3,h4,e]
    ·simp [h,h2,h3,h4,e];omega
theorem aRa (a b:Pt):aCc a b = -1∨aCc a b=0∨aCc a b=1:=by
 unfold aCc aCe aCe aCe aBW
 by_cases h:a.1<b.1
 ·simp [h]
 ·by_cases h2:b.1<a.1
  ·simp [h,h2]
  ·have e:a.1=b.1:=by omega
   by_cases h3:a.2<b.2
   ·simp [h,h2,h3]
   ·by_cases h4:b.2<a.2<;>simp [h,h2,h3,h4]
theorem aIf {a b c:Pt}(h:[a,b,c].all aA0=true):orP a b c=aBW (aBz a b c) 0:=by unfold orP;rw [h];rfl
theorem aC2 {a b:Pt}:aBm a b=true↔a=b:=by
 unfold aBm;rw [Ga_,beq_iff_eq,beq_iff_eq];exact ⟨fun h=>Prod.ext h.1 h.2,fun h=>by rw [h];exact ⟨rfl,rfl⟩⟩
theorem aN8 {α β:Int}{a b p:Pt}(h:aBz a b p=0) (h1:a.1<p.1∨(a.1=p.1 /\ a.2<=p.2)) (h2:p.1<b.1∨(p.1=b.1 /\ p.2<=b.2)) (hn:a=b->p=a) :
  ∃ l m:Int,0<=l /\ 0<=m /\ 0<l+m /\ (l+m)*lin α β p=l*lin α β a+m*lin α β b:=by
 unfold aBz at h;unfold lin
 by_cases hx:a.1<b.1
 ·exact ⟨b.1-p.1,p.1-a.1,by omega,by omega,by omega,by grind⟩
 ·have e1:a.1=b.1:=by omega
  have e2:p.1=a.1:=by omega
  by_cases hy:a.2<b.2
  ·exact ⟨b.2-p.2,p.2-a.2,by omega,by omega,by omega,by rw [e2,←e1];grind⟩
  ·have e3:a.2=b.2:=by omega
   have:=hn (Prod.ext e1 e3);subst this;exact ⟨1,0,by omega,by omega,by omega,by grind⟩
theorem aJy {l m x y z u:Int}(h0:0<=l) (h1:0<=m) (h2:0<l+m) (h:(l+m)*z=l*x+m*y) (hx:z<x) (hy:z<y):False:=by
 have a1:=Int.mul_le_mul_of_nonneg_left (show z+1<=x by omega) h0;have a2:=Int.mul_le_mul_of_nonneg_left (show z+1<=y by omega) h1;rw [Int.mul_add] at a1 a2;rw [Int.add_mul] at h;omega
theorem mid_not' {l m x y z:Int}(h0:0<=l) (h1:0<=m) (h2:0<l+m) (h:(l+m)*z=l*x+m*y) (hx:x<z) (hy:y<z):False:=by
 have a1:=Int.mul_le_mul_of_nonneg_left (show x<=z-1 by omega) h0;have a2:=Int.mul_le_mul_of_nonneg_left (show y<=z-1 by omega) h1;rw [Int.mul_sub] at a1 a2;rw [Int.add_mul] at h;omega
theorem aO9 {x:Int}:(aBW x 0==0)=true↔x=0:=by
 unfold aBW
 by_cases h:x<0
 ·simp [h];omega
 ·by_cases h2:0<x
  ·simp [h,h2];omega
  ·simp [h,h2];omega
theorem aFs (s:Pt×Pt):(aAg s=s∨aAg s=(s.2,s.1)) /\ aCc (aAg s).1 (aAg s).2<=0:=by
 unfold aAg
 cases h:decide (0<aCc s.1 s.2) with
 | false=>simp at h;exact ⟨.inl rfl,h⟩
 | true =>
  simp at h;refine ⟨.inr rfl,?_⟩;show aCc s.2 s.1<=0;have h':¬ aCc s.1 s.2<=0:=by omega
  rw [aBE] at h' ⊢;omega
theorem aUP {α β:Int}{t:Pt×Pt}{p:Pt}(h:(lin α β p<lin α β t.1 /\ lin α β p<lin α β t.2)∨(lin α β t.1<lin α β p /\ lin α β t.2<lin α β p)):onP t p=false:=by
 cases hb:onP t p with
 | false=>rfl
 | true =>
  exfalso;unfold onP at hb;rw [Ga_] at hb;obtain ⟨hn,ho⟩:=hb;have hs:=aFs t;generalize hu:aAg t=u at hs ho
  have h':(lin α β p<lin α β u.1 /\ lin α β p<lin α β u.2)∨(lin α β u.1<lin α β p /\ lin α β u.2<lin α β p):=by
   rcases hs.1 with e | e<;>rw [e]
   ·exact h
   ·rcases h with h | h
    ·exact .inl ⟨h.2,h.1⟩
    ·exact .inr ⟨h.2,h.1⟩
  have hn':[u.1,u.2,p].all aA0=true:=by
   simp only [List.all_cons,List.all_nil,Bool.and_true,Ga_] at hn ⊢;rcases hs.1 with e | e<;>rw [e]
   ·exact hn
   ·exact ⟨hn.2.1,hn.1,hn.2.2⟩
  unfold onS at ho;rw [aIf hn'] at ho;simp only [Ga_,decide_eq_true_eq,Bool.or_eq_true,Bool.not_eq_true'] at ho;obtain ⟨⟨⟨h1,h2⟩,h3⟩,h4⟩:=ho
  obtain ⟨l,m,a0,a1,a2,a3⟩:=aN8 (α:=α) (β:=β) (aO9.1 h1) (aBE.1 h2) (aBE.1 h3) (fun e=>by
   rcases h4 with h4 | h4
   ·rw [aC2.2 e] at h4;cases h4
   ·exact aC2.1 h4)
  rcases h' with h' | h'
  ·exact aJy (u:=0) a0 a1 a2 a3 h'.1 h'.2
  ·exact mid_not' a0 a1 a2 a3 h'.1 h'.2
theorem aFl {x y:Int}(h:¬ 0<aBW x 0*aBW y 0):(x<=0 /\ 0<=y)∨(0<=x /\ y<=0):=by
 unfold aBW at h
 by_cases hx:x<0<;>by_cases hy:y<0<;>by_cases hx2:0<x<;>by_cases hy2:0<y<;>simp [hx,hy,hx2,hy2] at h<;>omega
theorem aQZ {s1 s2 t1 t2:Pt}(hn:s1≠s2) (h1:aBz s1 s2 t1=0) (h2:aBz s1 s2 t2=0):aBz t1 t2 s1=0:=by
 unfold aBz at *
 by_cases hx:s2.1-s1.1=0
 ·have hy:s2.2-s1.2≠0:=fun hy=>hn (Prod.ext (by omega) (by omega));have e:(s2.2-s1.2)*((t2.1-t1.1)*(s1.2-t1.2)-(t2.2-t1.2)*(s1.1-t1.1))=0:=by grind
  exact (Int.mul_eq_zero.1 e).resolve_left hy
 ·have e:(s2.1-s1.1)*((t2.1-t1.1)*(s1.2-t1.2)-(t2.2-t1.2)*(s1.1-t1.1))=0:=by grind
  exact (Int.mul_eq_zero.1 e).resolve_left hx
theorem aI3 (α β:Int) (s1 s2 t1 t2:Pt):aBz t1 t2 s2*lin α β s1-aBz t1 t2 s1*lin α β s2=aBz s1 s2 t1*lin α β t2-aBz s1 s2 t2*lin α β t1:=by
 unfold aBz lin;grind
theorem aI4 (s1 s2 t1 t2:Pt):aBz t1 t2 s2-aBz t1 t2 s1=aBz s1 s2 t1-aBz s1 s2 t2:=by unfold aBz;grind
theorem aI2 {a b c d x1 x2 y1 y2:Int}(e:d*x1-c*x2=a*y2-b*y1) (k:d-c=a-b) (h:(a<=0 /\ 0<=b)∨(0<=a /\ b<=0)) (h':(c<=0 /\ 0<=d)∨(0<=c /\ d<=0)) (hz:¬ (a=0 /\ b=0)) (p1:x1<y1) (p2:x1<y2) (p3:x2<y1) (p4:x2<y2):False:=by
 have key:∀ {a b c d x1 x2 y1 y2:Int},d*x1-c*x2=a*y2-b*y1->d-c=a-b->0<a-b->0<=a->b<=0->c<=0->0<=d->x1<y1->x1<y2->x2<y1->x2<y2->False:=by
  intro a b c d x1 x2 y1 y2 e k hp ha hb hc hd p1 p2 p3 p4;have m1:x1<=max x1 x2:=by omega
  have m2:x2<=max x1 x2:=by omega
  have m3:max x1 x2+1<=y1:=by omega
  have m4:max x1 x2+1<=y2:=by omega
  generalize max x1 x2=M at m1 m2 m3 m4;have a1:=Int.mul_le_mul_of_nonneg_left m1 hd;have a2:=Int.mul_le_mul_of_nonneg_left m2 (show 0 <= -c by omega);have a3:=Int.mul_le_mul_of_nonneg_left m4 ha;have a4:=Int.mul_le_mul_of_nonneg_left m3 (show 0 <= -b by omega);have e1:d*M + -c*M=(a-b)*M:=by rw [←Int.add_mul,←k];congr 1
  have e2:a*(M+1) + -b*(M+1)=(a-b)*M+(a-b):=by rw [←Int.add_mul,Int.mul_add,Int.mul_one];congr 1
  rw [Int.neg_mul] at a2 a4;rw [Int.neg_mul] at e1 a2;rw [Int.neg_mul] at a4 e2;omega
 rcases h with h | h
 ·rcases h' with h' | h'
  ·have:d=0 /\ c=0∨¬ (a-b<0):=by omega
   rcases this with h9 | h9
   ·omega
   ·omega
  ·have hp:0<(-a)-(-b):=by omega
   exact key (a := -a) (b := -b) (c := -c) (d := -d) (by rw [Int.neg_mul,Int.neg_mul,Int.neg_mul,Int.neg_mul];omega) (by omega) hp (by omega) (by omega) (by omega) (by omega) p1 p2 p3 p4
 ·rcases h' with h' | h'
  ·exact key e k (by omega) h.1 h.2 h'.1 h'.2 p1 p2 p3 p4
  ·omega
theorem aTb {α β:Int}{s t:Pt×Pt}(hb:bef α β s t∨bef α β t s) (hs:aCc s.1 s.2<=0) (ht:aCc t.1 t.2<=0) (hs1:s.1≠s.2) (ht1:t.1≠t.2) (h1:aBz s.1 s.2 t.1=0) (h2:aBz s.1 s.2 t.2=0):¬ aCc (aQ3 s t) (aHw s t)<=0:=by
 intro hle;unfold aQ3 aHw at hle;rw [aBE] at hs ht
 cases hl:decide (0<aCc t.1 s.1) with
 | true =>
  rw [hl,cond_true] at hle;have hl':¬ aCc t.1 s.1<=0:=by simp at hl;omega
  rw [aBE] at hl'
  have h3:t.1.1<s.2.1∨(t.1.1=s.2.1 /\ t.1.2<=s.2.2):=by
   cases hh:decide (aCc t.2 s.2<0) with
   | true =>
    rw [hh,cond_true,aBE] at hle;have:aCc t.2 s.2<=0:=by simp at hh;omega
    rw [aBE] at this;omega
   | false=>rw [hh,cond_false,aBE] at hle;exact hle
  obtain ⟨l,m,a0,a1,a2,a3⟩:=aN8 (α:=α) (β:=β) h1 (show s.1.1<t.1.1∨(s.1.1=t.1.1 /\ s.1.2<=t.1.2) by omega) h3 (fun e=>absurd e hs1);rcases hb with hb | hb
  ·exact mid_not' a0 a1 a2 a3 hb.1.1 hb.2.1
  ·exact aJy (u:=0) a0 a1 a2 a3 hb.1.1 hb.1.2
 | false =>
  rw [hl,cond_false] at hle;have hl':aCc t.1 s.1<=0:=by simp at hl;omega
  rw [aBE] at hl'
  have h3:s.1.1<t.2.1∨(s.1.1=t.2.1 /\ s.1.2<=t.2.2):=by
   cases hh:decide (aCc t.2 s.2<0) with
   | true=>rw [hh,cond_true,aBE] at hle;exact hle
   | false =>
    have:¬ aCc t.2 s.2<0:=by simpa using hh
    have h5:=aRa t.2 s.2
    have h4:aCc s.2 t.2<=0:=by
     rw [aBE];rcases h5 with h5 | h5 | h5
     ·omega
     ·have h6:aCc t.2 s.2<=0:=by omega
      rw [aBE] at h6;unfold aCc aCe aCe aCe aBW at h5
      by_cases q:t.2.1<s.2.1
      ·simp [q] at h5
      ·by_cases q2:s.2.1<t.2.1
       ·simp [q,q2] at h5
       ·have q3:t.2.1=s.2.1:=by omega
        by_cases q4:t.2.2<s.2.2
        ·simp [q,q2,q4] at h5
        ·omega
     ·have h6:¬ aCc t.2 s.2<=0:=by omega
      rw [aBE] at h6;omega
    rw [aBE] at h4;omega
  obtain ⟨l,m,a0,a1,a2,a3⟩:=aN8 (α:=α) (β:=β) (aQZ hs1 h1 h2) hl' h3 (fun e=>absurd e ht1);rcases hb with hb | hb
  ·exact aJy (u:=0) a0 a1 a2 a3 hb.1.1 hb.1.2
  ·exact mid_not' a0 a1 a2 a3 hb.1.1 hb.2.1
theorem aG1 {α β:Int}{s t:Pt×Pt}(hb:bef α β s t∨bef α β t s) (hs:aCc s.1 s.2<=0) (ht:aCc t.1 t.2<=0) (hc:s.1≠s.2->t.1≠t.2 /\ aBz s.1 s.2 t.1=0 /\ aBz s.1 s.2 t.2=0):aMv s t=0:=by
 unfold aMv
 cases he:aBm s.1 s.2 with
 | true =>
  rw [cond_true,aUP (α:=α) (β:=β) (t:=t) (p:=s.1) (by
   rcases hb with hb | hb
   ·exact .inl hb.1
   ·exact .inr ⟨hb.1.1,hb.2.1⟩)]
  rfl
 | false =>
  have hs1:s.1≠s.2:=fun e=>by rw [aC2.2 e] at he;cases he
  obtain ⟨ht1,h1,h2⟩:=hc hs1;have hn:=aTb hb hs ht hs1 ht1 h1 h2;rw [cond_false];have e1:(aCc (aQ3 s t) (aHw s t) == -1)=false:=by rw [beq_eq_false_iff_ne];omega
  have e2:(aCc (aQ3 s t) (aHw s t)==0)=false:=by rw [beq_eq_false_iff_ne];omega
  rw [e1,e2];rfl
theorem aSe {α β:Int}{s t u v:Pt×Pt}(h:bef α β s t) (hs:u=s∨u=(s.2,s.1)) (ht:v=t∨v=(t.2,t.1)):bef α β u v:=by
 unfold bef at *;rcases hs with rfl | rfl<;>rcases ht with rfl | rfl<;>((try dsimp only)<;>omega)
theorem aD2 {α β:Int}{s t:Pt×Pt}(hb:bef α β s t∨bef α β t s):aB3 s t=0:=by
 unfold aB3
 cases hn:[s.1,s.2,t.1,t.2].all aA0 with
 | false=>rfl
 | true =>
  rw [Bool.not_true,cond_false];have hu:=aFs s;have hv:=aFs t;generalize aAg s=u at hu;generalize aAg t=v at hv;have hb':bef α β u v∨bef α β v u:=hb.imp (fun h=>aSe h hu.1 hv.1) (fun h=>aSe h hv.1 hu.1);simp only [List.all_cons,List.all_nil,Bool.and_true,Ga_] at hn;have hnu:aA0 u.1=true /\ aA0 u.2=true:=by rcases hu.1 with e | e<;>rw [e];exact ⟨hn.1,hn.2.1⟩;exact ⟨hn.2.1,hn.1⟩
  have hnv:aA0 v.1=true /\ aA0 v.2=true:=by rcases hv.1 with e | e<;>rw [e];exact ⟨hn.2.2.1,hn.2.2.2⟩;exact ⟨hn.2.2.2,hn.2.2.1⟩
  have o1:orP u.1 u.2 v.1=aBW (aBz u.1 u.2 v.1) 0:=aIf (by simp [hnu,hnv]);have o2:orP u.1 u.2 v.2=aBW (aBz u.1 u.2 v.2) 0:=aIf (by simp [hnu,hnv]);have o3:orP v.1 v.2 u.1=aBW (aBz v.1 v.2 u.1) 0:=aIf (by simp [hnu,hnv]);have o4:orP v.1 v.2 u.2=aBW (aBz v.1 v.2 u.2) 0:=aIf (by simp [hnu,hnv]);unfold aE2;rw [o1,o2,o3,o4]
  have e0:aFN u v=false:=by
   cases h:aFN u v with
   | false=>rfl
   | true =>
    unfold aFN at h;rw [Ga_,aC2,aC2] at h;unfold bef at hb';rw [h.1,h.2] at hb';omega
  rw [e0,cond_false]
  cases h1:aBm u.1 u.2||aBm v.1 v.2||((aBW (aBz u.1 u.2 v.1) 0==0)&&(aBW (aBz u.1 u.2 v.2) 0==0)) with
  | true =>
   rw [cond_true];unfold aQq;simp only [Bool.or_eq_true,Ga_] at h1
   cases hv2:aBm v.1 v.2 with
   | true =>
    rw [cond_true];exact aG1 (hb'.symm) hv.2 hu.2 (fun h=>absurd (aC2.1 hv2) h)
   | false =>
    rw [cond_false];refine aG1 hb' hu.2 hv.2 fun h=>⟨fun e=>(by rw [aC2.2 e] at hv2;cases hv2),?_⟩;rw [hv2] at h1;rcases h1 with (h1 | h1) | h1
    ·exact absurd (aC2.1 h1) h
    ·cases h1
    ·exact ⟨aO9.1 h1.1,aO9.1 h1.2⟩
  | false =>
   rw [cond_false]
   cases h2:decide (0<aBW (aBz u.1 u.2 v.1) 0*aBW (aBz u.1 u.2 v.2) 0)||decide (0<aBW (aBz v.1 v.2 u.1) 0*aBW (aBz v.1 v.2 u.2) 0) with
   | true=>rfl
   | false =>
    exfalso;simp only [Bool.or_eq_false_iff,decide_eq_false_iff_not] at h2;simp only [Bool.or_eq_false_iff,Bool.and_eq_false_iff] at h1
    have hz:¬ (aBz u.1 u.2 v.1=0 /\ aBz u.1 u.2 v.2=0):=fun ⟨z1,z2⟩=>by
     rcases h1.2 with h | h
     ·rw [aO9.2 z1] at h;cases h
     ·rw [aO9.2 z2] at h;cases h
    rcases hb' with hb' | hb'
    ·exact aI2 (aI3 α β u.1 u.2 v.1 v.2) (aI4 u.1 u.2 v.1 v.2) (aFl h2.1) (aFl h2.2) hz hb'.1.1 hb'.1.2 hb'.2.1 hb'.2.2
    ·have hn1:=aI3 (-α) (-β) u.1 u.2 v.1 v.2;have hl:∀ p:Pt,lin (-α) (-β) p = - lin α β p:=fun p=>by unfold lin;rw [Int.neg_mul,Int.neg_mul];omega
     rw [hl,hl,hl,hl] at hn1;exact aI2 hn1 (aI4 u.1 u.2 v.1 v.2) (aFl h2.1) (aFl h2.2) hz (by have:=hb'.1.1;omega) (by have:=hb'.2.1;omega) (by have:=hb'.1.2;omega) (by have:=hb'.2.2;omega)
def aXG (s:Pt×Pt) (z:Pt):Nat->Prop
 | 0=>z.1<s.1.1 /\ z.1<s.2.1
 | 1=>s.1.1<z.1 /\ s.2.1<z.1
 | 2=>z.2<s.1.2 /\ z.2<s.2.2
 | _=>s.1.2<z.2 /\ s.2.2<z.2
theorem aSF {s:Pt×Pt}{z:Pt}{c:Nat}(h:aXG s z c):aJz s z=false:=by
 unfold aJz btw
 cases hb:(aDQ s.1 s.2 z==0) with
 | false=>rfl
 | true =>
  have e:decide (min s.1.1 s.2.1<=z.1)=false∨decide (z.1<=max s.1.1 s.2.1)=false∨decide (min s.1.2 s.2.2<=z.2)=false∨decide (z.2<=max s.1.2 s.2.2)=false:=by
   simp only [decide_eq_false_iff_not]
   match c,h with
   | 0,h=>have h:z.1<s.1.1 /\ z.1<s.2.1:=h;left;omega
   | 1,h=>have h:s.1.1<z.1 /\ s.2.1<z.1:=h;right;left;omega
   | 2,h=>have h:z.2<s.1.2 /\ z.2<s.2.2:=h;right;right;left;omega
   | _+3,h=>have h:s.1.2<z.2 /\ s.2.2<z.2:=h;right;right;right;omega
  rcases e with e | e | e | e<;>rw [e]<;>simp
def abv (z p:Pt):Int:=if z.2<p.2 then 1 else 0
theorem aQX {s:Pt×Pt}{z:Pt}(h:z.1<s.1.1 /\ z.1<s.2.1):dlt s z=abv z s.2-abv z s.1:=by
 have hu:s.1.2<=z.2->z.2<s.2.2->0<aDQ s.1 s.2 z:=fun h1 h2=>by
  have a1:=Int.mul_nonneg (show 0<=s.2.1-z.1 by omega) (show 0<=z.2-s.1.2 by omega);have a2:=Int.mul_pos (show 0<s.1.1-z.1 by omega) (show 0<s.2.2-z.2 by omega);have e:aDQ s.1 s.2 z=(s.2.1-z.1)*(z.2-s.1.2)+(s.1.1-z.1)*(s.2.2-z.2):=by unfold aDQ;grind
  omega
 have hd:z.2<s.1.2->s.2.2<=z.2->aDQ s.1 s.2 z<0:=fun h1 h2=>by
  have a1:=Int.mul_pos (show 0<s.2.1-z.1 by omega) (show 0<s.1.2-z.2 by omega);have a2:=Int.mul_nonneg (show 0<=s.1.1-z.1 by omega) (show 0<=z.2-s.2.2 by omega);have e:aDQ s.1 s.2 z = - ((s.2.1-z.1)*(s.1.2-z.2)+(s.1.1-z.1)*(z.2-s.2.2)):=by unfold aDQ;grind
  omega
 unfold dlt abv
 by_cases h1:z.2<s.1.2
 ·have e1:decide (s.1.2<=z.2)=false:=decide_eq_false (by omega)
  by_cases h2:z.2<s.2.2
  ·have e2:decide (s.2.2<=z.2)=false:=decide_eq_false (by omega);simp [e1,e2,h1,h2]
  ·have h3:=hd h1 (by omega);have e2:decide (s.2.2<=z.2)=true:=decide_eq_true (by omega);simp [e1,e2,h1,h2,h3]
 ·by_cases h2:z.2<s.2.2
  ·have h3:=hu (by omega) h2;have e2:decide (s.1.2<=z.2)=true:=decide_eq_true (by omega);simp [e2,h1,h2,h3]
  ·simp [h1,h2]
theorem aO1 {s:Pt×Pt}{z:Pt}(h:s.1.1<z.1 /\ s.2.1<z.1):dlt s z=0:=by
 have hu:s.1.2<=z.2->z.2<s.2.2->¬ 0<aDQ s.1 s.2 z:=fun h1 h2=>by
  have a1:=Int.mul_nonneg (show 0<=z.1-s.2.1 by omega) (show 0<=z.2-s.1.2 by omega);have a2:=Int.mul_nonneg (show 0<=z.1-s.1.1 by omega) (show 0<=s.2.2-z.2 by omega);have e:aDQ s.1 s.2 z = - ((z.1-s.2.1)*(z.2-s.1.2)+(z.1-s.1.1)*(s.2.2-z.2)):=by unfold aDQ;grind
  omega
 have hd:z.2<s.1.2->s.2.2<=z.2->¬ aDQ s.1 s.2 z<0:=fun h1 h2=>by
  have a1:=Int.mul_nonneg (show 0<=z.1-s.2.1 by omega) (show 0<=s.1.2-z.2 by omega);have a2:=Int.mul_nonneg (show 0<=z.1-s.1.1 by omega) (show 0<=z.2-s.2.2 by omega);have e:aDQ s.1 s.2 z=(z.1-s.2.1)*(s.1.2-z.2)+(z.1-s.1.1)*(z.2-s.2.2):=by unfold aDQ;grind
  omega
 unfold dlt
 by_cases h1:s.1.2<=z.2
 ·by_cases h2:z.2<s.2.2
  ·have e1:decide (z.2<s.1.2)=false:=decide_eq_false (by omega);have e2:decide (0<aDQ s.1 s.2 z)=false:=decide_eq_false (hu h1 h2);rw [e1,e2];simp
  ·have e1:decide (z.2<s.1.2)=false:=decide_eq_false (by omega);have e2:decide (z.2<s.2.2)=false:=decide_eq_false h2;rw [e1,e2];simp
 ·have e1:decide (s.1.2<=z.2)=false:=decide_eq_false h1
  by_cases h2:s.2.2<=z.2
  ·simp [e1,h2,hd (by omega) h2]
  ·simp [e1,h2]
theorem aKY {s:Pt×Pt}{z:Pt}(h:(z.2<s.1.2 /\ z.2<s.2.2)∨(s.1.2<z.2 /\ s.2.2<z.2)):dlt s z=0:=by
 unfold dlt;rcases h with h | h
 ·have e1:decide (s.1.2<=z.2)=false:=decide_eq_false (by omega);have e2:decide (s.2.2<=z.2)=false:=decide_eq_false (by omega);simp [e1,e2]
 ·have e1:decide (z.2<s.2.2)=false:=decide_eq_false (by omega);have e2:decide (z.2<s.1.2)=false:=decide_eq_false (by omega);simp [e1,e2]
theorem aEY {L:List Pt}{z:Pt}:∀ k:Nat,(∀ j,j<k->dlt (sdP L j) z=0)->wnd L z k=0
 | 0,_=>rfl
 | k+1,h=>by unfold wnd;rw [aEY k fun j hj=>h j (by omega),h k (by omega)];rfl
theorem aM3 {L:List Pt}{z:Pt}:∀ k:Nat,k<L.length->(∀ j,j<L.length->dlt (sdP L j) z=abv z (sdP L j).2-abv z (sdP L j).1)->wnd L z k=abv z (aJ7 L k)-abv z (aJ7 L 0)
 | 0,_,_=>by unfold wnd;omega
 | k+1,hk,h=>by
  unfold wnd;rw [aM3 k (by omega) h,h k (by omega)];have e:(k+1)%L.length=k+1:=Nat.mod_eq_of_lt hk;unfold sdP;rw [e]
  dsimp only
  omega
theorem aSl {L:List Pt}{z:Pt}(h:∀ j,j<L.length->dlt (sdP L j) z=abv z (sdP L j).2-abv z (sdP L j).1):wnd L z L.length=0:=by
 cases hn:L.length with
 | zero=>rfl
 | succ n =>
  unfold wnd;rw [aM3 n (by omega) h,h n (by omega)];have e:(n+1)%L.length=0:=by rw [hn];exact Nat.mod_self _
  unfold sdP;rw [e]
  dsimp only
  omega
theorem aTc {L:List Pt}{z:Pt}{c:Nat}(h:∀ j,j<L.length->aXG (sdP L j) z c):aPr L z = -1:=by
 have h1:((List.range L.length).any fun k=>aJz (sdP L k) z)=false:=by
  rw [List.any_eq_false];intro k hk;rw [aSF (h k (List.mem_range.1 hk))];simp
 have h2:wnd L z L.length=0:=by
  match c,h with
  | 0,h=>exact aSl fun j hj=>aQX (h j hj)
  | 1,h=>exact aEY _ fun j hj=>aO1 (h j hj)
  | 2,h=>exact aEY _ fun j hj=>aKY (.inl (h j hj))
  | _+3,h=>exact aEY _ fun j hj=>aKY (.inr (h j hj))
 unfold aPr;rw [h1,h2];rfl
def onG (p:Pt):Prop:=(0<=p.1 /\ p.1<=1048575) /\ (0<=p.2 /\ p.2<=1048575)
theorem aCj {p:Pt}(h:onG p):aA0 p=true:=by
 unfold onG at h;unfold aA0;simp only [Ga_,Bool.not_eq_true',decide_eq_false_iff_not];omega
theorem aOK:∀ (L:List Pt) (b:Pt×Pt) (p:Pt),p∈L∨aDM b p->aDM (bxI b L) p
 | [],b,p,h=>h.resolve_left (by simp)
 | a::L,b,p,h=>by
  refine aOK L _ p ?_;rcases h with h | h
  ·rcases List.mem_cons.1 h with rfl | h
   ·right;unfold aDM;dsimp only;omega
   ·exact .inl h
  ·right;unfold aDM at *;dsimp only;omega
theorem aEB {L:List Pt}{p:Pt}(h:p∈L):aDM (aAc L) p:=aOK L _ p (.inl h)
theorem aCR {L:List Pt}{i:Nat}(h:i<L.length):aJ7 L i∈L:=by
 unfold aJ7;rw [List.getD_eq_getElem?_getD,Gb_ h];exact List.getElem_mem h
theorem aA8 {k:Int}{P:List Pt}{s:Pt×Pt}(h:s∈aG3 k P):s.1∈P /\ s.2∈P:=by
 unfold aG3 at h;obtain ⟨i,hi,hs⟩:=List.mem_flatMap.1 h;have hi:=List.mem_range.1 hi;unfold aHq at hs
 cases hc:decide (0<(((i:Int)+1)%(P.length:Int))) || !(k==2) with
 | false=>rw [hc] at hs;cases hs
 | true =>
  rw [hc,cond_true,Gd_] at hs;subst hs;exact ⟨aCR hi,aCR (Nat.mod_lt _ (by omega))⟩
def wdB (b:Pt×Pt) (n:Int):Pt×Pt:=((b.1.1-n,b.1.2-n),(b.2.1+n,b.2.2+n))
def aUl (c b:Pt×Pt) (n:Int):Nat->Prop
 | 0=>b.2.1+n<c.1.1
 | 1=>c.2.1<b.1.1-n
 | 2=>b.2.2+n<c.1.2
 | _=>c.2.2<b.1.2-n
theorem aRU {c b:Pt×Pt}{n:Int}(h:¬ mtB c (wdB b n)):∃ d,d<4 /\ aUl c b n d:=by
 unfold mtB wdB at h
 dsimp only at h
 by_cases h0:b.2.1+n<c.1.1
 ·exact ⟨0,by omega,h0⟩
 by_cases h1:c.2.1<b.1.1-n
 ·exact ⟨1,by omega,h1⟩
 by_cases h2:b.2.2+n<c.1.2
 ·exact ⟨2,by omega,h2⟩
 exact ⟨3,by omega,show c.2.2<b.1.2-n by omega⟩
theorem aP7 {a g:Int}(h0:0<=a) (h:a<=g):a*a<=g*g:=Int.mul_le_mul h h h0 (Int.le_trans h0 h)
theorem aTB {c b:Pt×Pt}{z:Pt}{n:Int}(h0:0<=n) (hz:aDM b z) {d:Nat}(h:aUl c b n d):(n+1)*(n+1)<=aMo c z:=by
 unfold aMo;have g1:=Int.mul_nonneg (aCd c.1.1 c.2.1 z.1) (aCd c.1.1 c.2.1 z.1);have g2:=Int.mul_nonneg (aCd c.1.2 c.2.2 z.2) (aCd c.1.2 c.2.2 z.2);unfold aDM at hz
 have h9:n+1<=aEU c.1.1 c.2.1 z.1∨n+1<=aEU c.1.2 c.2.2 z.2:=by
  unfold aEU
  match d,h with
  | 0,h=>have h:b.2.1+n<c.1.1:=h;left;omega
  | 1,h=>have h:c.2.1<b.1.1-n:=h;left;omega
  | 2,h=>have h:b.2.2+n<c.1.2:=h;right;omega
  | _+3,h=>have h:c.2.2<b.1.2-n:=h;right;omega
 rcases h9 with h9 | h9
 ·have:=aP7 (by omega) h9;omega
 ·have:=aP7 (by omega) h9;omega
theorem box_far' {c b:Pt×Pt}{p:Pt}{n:Int}(h0:0<=n) (hp:aDM c p) {d:Nat}(h:aUl c b n d):(n+1)*(n+1)<=aMo b p:=by
 unfold aMo;have g1:=Int.mul_nonneg (aCd b.1.1 b.2.1 p.1) (aCd b.1.1 b.2.1 p.1);have g2:=Int.mul_nonneg (aCd b.1.2 b.2.2 p.2) (aCd b.1.2 b.2.2 p.2);unfold aDM at hp
 have h9:n+1<=aEU b.1.1 b.2.1 p.1∨n+1<=aEU b.1.2 b.2.2 p.2:=by
  unfold aEU
  match d,h with
  | 0,h=>have h:b.2.1+n<c.1.1:=h;left;omega
  | 1,h=>have h:c.2.1<b.1.1-n:=h;left;omega
  | 2,h=>have h:b.2.2+n<c.1.2:=h;right;omega
  | _+3,h=>have h:c.2.2<b.1.2-n:=h;right;omega
 rcases h9 with h9 | h9
 ·have:=aP7 (by omega) h9;omega
 ·have:=aP7 (by omega) h9;omega
theorem aQ1 {c b:Pt×Pt}{n:Int}(h0:0<=n) {s u:Pt×Pt}(s1:aDM c s.1) (s2:aDM c s.2) (u1:aDM b u.1) (u2:aDM b u.2) {d:Nat}(h:aUl c b n d):aB3 u s=0:=by
 unfold aDM at *
 match d,h with
 | 0,h=>have h:b.2.1+n<c.1.1:=h;exact aD2 (α:=1) (β:=0) (.inl (by unfold bef lin;omega))
 | 1,h=>have h:c.2.1<b.1.1-n:=h;exact aD2 (α:=1) (β:=0) (.inr (by unfold bef lin;omega))
 | 2,h=>have h:b.2.2+n<c.1.2:=h;exact aD2 (α:=0) (β:=1) (.inl (by unfold bef lin;omega))
 | _+3,h=>have h:c.2.2<b.1.2-n:=h;exact aD2 (α:=0) (β:=1) (.inr (by unfold bef lin;omega))
theorem aKq {c b:Pt×Pt}{n:Int}(h0:0<=n) {P:List Pt}{z:Pt}(hP:∀ p∈P,aDM c p) (hz:aDM b z) {d:Nat}(hd:d<4) (h:aUl c b n d):aES P z = -1:=by
 unfold aES
 cases aDR P&&rnP z with
 | false=>rfl
 | true =>
  rw [cond_true];have hs:∀ j,j<P.length->aDM c (sdP P j).1 /\ aDM c (sdP P j).2:=fun j hj=>⟨hP _ (aCR hj),hP _ (aCR (Nat.mod_lt _ (by omega)))⟩;refine aTc (c:=d) fun j hj=>?_;have hj:=hs j hj;generalize sdP P j=t at hj;unfold aDM at hj hz
  match d,hd,h with
  | 0,_,h=>have h:b.2.1+n<c.1.1:=h;show z.1<t.1.1 /\ z.1<t.2.1;omega
  | 1,_,h=>have h:c.2.1<b.1.1-n:=h;show t.1.1<z.1 /\ t.2.1<z.1;omega
  | 2,_,h=>have h:b.2.2+n<c.1.2:=h;show z.2<t.1.2 /\ z.2<t.2.2;omega
  | 3,_,h=>have h:c.2.2<b.1.2-n:=h;show t.1.2<z.2 /\ t.2.2<z.2;omega
theorem aKH {z:Pt}{K:Int}:∀ (L:List (Pt×Pt)) (m:Int),K<=m->(∀ s∈L,K<=aA3 s z)->K<=mnL z L m
 | [],_,h,_=>h
 | s::L,m,h,hs=>aKH L _ (show K<=min m (aA3 s z) by have:=hs s (.head _);omega) fun t ht=>hs t (.tail _ ht)
theorem aRC {z:Pt}:∀ (L:List (Pt×Pt)) (m:Int),mnL z L m<=m /\ ∀ s∈L,mnL z L m<=aA3 s z
 | [],m=>⟨Int.le_refl _,fun _ h=>(by cases h)⟩
 | s::L,m=>by
  have h:=aRC (z:=z) L (min m (aA3 s z));refine ⟨Int.le_trans h.1 (by omega),fun t ht=>?_⟩;rcases List.mem_cons.1 ht with rfl | ht
  ·exact Int.le_trans h.1 (by omega)
  ·exact h.2 t ht
theorem aUT {a b:Pt×Pt}{K m:Int}(h:K<=m) (h1:K<=aA3 a b.1) (h2:K<=aA3 a b.2) (h3:K<=aA3 b a.1) (h4:K<=aA3 b a.2):K<=nr4 a b m:=by unfold nr4;omega
theorem aUS (a b:Pt×Pt) (m:Int):nr4 a b m<=m:=by unfold nr4;omega
theorem aRL {a:Pt×Pt}{K:Int}:∀ (L:List (Pt×Pt)) (m:Int),K<=m->(∀ b∈L,K<=aA3 a b.1 /\ K<=aA3 a b.2 /\ K<=aA3 b a.1 /\ K<=aA3 b a.2)->K<=inn a L m
 | [],_,h,_=>h
 | b::L,m,h,hs=>aRL L _ (have q:=hs b (.head _);aUT h q.1 q.2.1 q.2.2.1 q.2.2.2) fun t ht=>hs t (.tail _ ht)
theorem aRK {a:Pt×Pt}:∀ (L:List (Pt×Pt)) (m:Int),inn a L m<=m
 | [],_=>Int.le_refl _
 | b::L,m=>Int.le_trans (aRK L _) (aUS a b m)
theorem aR3 {L:List (Pt×Pt)}{K:Int}:∀ (A:List (Pt×Pt)) (m:Int),K<=m->(∀ a∈A,∀ b∈L,K<=aA3 a b.1 /\ K<=aA3 a b.2 /\ K<=aA3 b a.1 /\ K<=aA3 b a.2)->K<=A.foldl (fun m a=>inn a L m) m
 | [],_,h,_=>h
 | a::A,m,h,hs=>aR3 A _ (aRL L m h (hs a (.head _))) fun t ht=>hs t (.tail _ ht)
theorem aR2 {L:List (Pt×Pt)}:∀ (A:List (Pt×Pt)) (m:Int),A.foldl (fun m a=>inn a L m) m<=m
 | [],_=>Int.le_refl _
 | a::A,m=>Int.le_trans (aR2 A _) (aRK L m)
theorem aNK {s:Pt×Pt}{p:Pt}(h1:onG s.1) (h2:onG s.2) (h3:onG p):0<=aA3 s p:=by
 have hb:=aFg (b:=((min s.1.1 s.2.1,min s.1.2 s.2.2),(max s.1.1 s.2.1,max s.1.2 s.2.2))) (s:=s) (p:=p) (by unfold aDM;dsimp only;omega) (by unfold aDM;dsimp only;omega) (by simp [aCj h1,aCj h2,aCj h3]);refine Int.le_trans ?_ hb;unfold aMo;have g1:=Int.mul_nonneg (aCd (min s.1.1 s.2.1) (max s.1.1 s.2.1) p.1) (aCd (min s.1.1 s.2.1) (max s.1.1 s.2.1) p.1);have g2:=Int.mul_nonneg (aCd (min s.1.2 s.2.2) (max s.1.2 s.2.2) p.2) (aCd (min s.1.2 s.2.2) (max s.1.2 s.2.2) p.2)
 dsimp only
 omega
theorem aO3 (a b:Pt):aEX a b<=35184372088832:=by
 unfold aEX
 cases h:aA0 a&&aA0 b with
 | false=>exact (by decide:(0:Int)<=35184372088832)
 | true =>
  rw [Ga_] at h;have ha:=aBa h.1;have hb:=aBa h.2;have h1:=aEG (x:=b.1-a.1) (by omega) (by omega);have h2:=aEG (x:=b.2-a.2) (by omega) (by omega);rw [cond_true];omega
theorem aSN (s:Pt×Pt) (p:Pt):aA3 s p<=35184372088832:=by
 unfold aA3
 cases hn:[s.1,s.2,p].all aA0 with
 | false=>exact (by decide:(0:Int)<=35184372088832)
 | true =>
  simp only [List.all_cons,List.all_nil,Bool.and_true,Ga_] at hn;rw [Bool.not_true,cond_false]
  cases h1:decide (aCu s.1 s.2 p<=0) with
  | true=>exact aO3 _ _
  | false =>
   rw [cond_false]
   cases h2:decide (aCu s.1 s.2 s.2<=aCu s.1 s.2 p) with
   | true=>exact aO3 _ _
   | false =>
    rw [cond_false];have h1:¬ aCu s.1 s.2 p<=0:=by simpa using h1
    have h2:¬ aCu s.1 s.2 s.2<=aCu s.1 s.2 p:=by simpa using h2
    have hd:aCu s.1 s.2 s.2=((aCu s.1 s.2 s.2).toNat:Int):=by omega
    have h3:=aRr hn.1 hn.2.1 hn.2.2 hd
    have h4:(aBz s.1 s.2 p).natAbs*(aBz s.1 s.2 p).natAbs / (aCu s.1 s.2 s.2).toNat<=35184372088832:=by
     exact Nat.div_le_of_le_mul h3
    omega
section
variable {l:List Ob}{s u:ShR}
def ShG (l:List Ob) (s:ShR):Prop:=∀ p∈s.P l,onG p
theorem aQ4 (h:ShG l s):∀ x∈s.L l,onG x.1 /\ onG x.2:=fun x hx=>⟨h _ (aA8 hx).1,h _ (aA8 hx).2⟩
theorem aFk (hN:ShN l s):aV0 (s.L l) 0∈s.L l:=by
 unfold aV0;rw [List.getD_eq_getElem?_getD,Gb_ hN.1];exact List.getElem_mem _
theorem aRv (hN:ShN l s) (h:ShG l s) {z:Pt}(hz:onG z):0<=sqP l s z:=by
 unfold sqP
 cases arP l s z with
 | true=>exact Int.le_refl _
 | false =>
  have q:=aQ4 h;exact aKH _ _ (aNK (q _ (aFk hN)).1 (q _ (aFk hN)).2 hz) fun x hx=>aNK (q x hx).1 (q x hx).2 hz
theorem aML (l:List Ob) (s:ShR) (z:Pt):sqP l s z<=35184372088832:=by
 unfold sqP
 cases arP l s z with
 | true=>exact (by decide:(0:Int)<=35184372088832)
 | false=>exact Int.le_trans (aRC _ _).1 (aSN _ _)
theorem aVR (l:List Ob) (s u:ShR):apP l s u<=35184372088832:=by
 unfold apP
 cases arP l s (aJ7 (u.P l) 0) with
 | true=>exact (by decide:(0:Int)<=35184372088832)
 | false =>
  cases aRE (u.L l) (s.L l) with
  | true=>exact (by decide:(0:Int)<=35184372088832)
  | false=>exact Int.le_trans (aR2 _ _) (aML _ _ _)
theorem aVQ (hN:ShN l s) (hU:ShN l u) (h:ShG l s) (hu:ShG l u) (hk:u.o.o.kind=2) {n:Int}(h0:0<=n) (hf:¬ mtB (aAc (s.P l)) (wdB (aAc (u.P l)) n)):(n+1)*(n+1)<=apP l s u:=by
 obtain ⟨d,hd,hf⟩:=aRU hf;have hs:∀ p∈s.P l,aDM (aAc (s.P l)) p:=fun p hp=>aEB hp;have hv:∀ p∈u.P l,aDM (aAc (u.P l)) p:=fun p hp=>aEB hp;have q:=aQ4 h;have r:=aQ4 hu;have nr:∀ {x:Pt×Pt}{p:Pt},onG x.1->onG x.2->onG p->[x.1,x.2,p].all aA0=true:=fun h1 h2 h3=>by simp [aCj h1,aCj h2,aCj h3]
 have n1:∀ a∈u.L l,∀ p∈s.P l,(n+1)*(n+1)<=aA3 a p:=fun a ha p hp=>Int.le_trans (box_far' h0 (hs p hp) hf) (aFg (hv _ (aA8 ha).1) (hv _ (aA8 ha).2) (nr (r a ha).1 (r a ha).2 (h p hp)));have n2:∀ b∈s.L l,∀ p∈u.P l,(n+1)*(n+1)<=aA3 b p:=fun b hb p hp=>Int.le_trans (aTB h0 (hv p hp) hf) (aFg (hs _ (aA8 hb).1) (hs _ (aA8 hb).2) (nr (q b hb).1 (q b hb).2 (hu p hp)))
 have e1:arP l s (aJ7 (u.P l) 0)=false:=by
  unfold arP;rw [aKq h0 hs (hv _ (aCR hU.2)) hd hf];cases (s.o.o.kind==3)<;>cases aDR (s.P l)<;>rfl
 have e2:aRE (u.L l) (s.L l)=false:=by
  unfold aRE;rw [List.any_eq_false];intro a ha;rw [Bool.not_eq_true,List.any_eq_false];intro b hb;rw [aQ1 h0 (hs _ (aA8 hb).1) (hs _ (aA8 hb).2) (hv _ (aA8 ha).1) (hv _ (aA8 ha).2) hf];decide
 have e3:arP l u (aJ7 (s.P l) 0)=false:=by unfold arP;rw [hk];rfl
 unfold apP;rw [e1,e2,cond_false,cond_false];refine aR3 _ _ ?_ fun a ha b hb=>⟨n1 a ha _ (aA8 hb).1,n1 a ha _ (aA8 hb).2,n2 b hb _ (aA8 ha).1,n2 b hb _ (aA8 ha).2⟩;unfold sqP;rw [e3,cond_false];exact aKH _ _ (n1 _ (aFk hU) _ (aCR hN.2)) fun x hx=>n1 x hx _ (aCR hN.2)
end
theorem aS4 {n N:Int}(h0:0<=N) (h:(N+1)*(N+1)<=n):N<aAE n:=by
 have h1:=Int.mul_nonneg (show 0<=N+1 by omega) (show 0<=N+1 by omega);unfold aAE;rw [decide_eq_false (by omega),cond_false];have h2:=(aGZ n.toNat).2;obtain ⟨k,rfl⟩:=Int.eq_ofNat_of_zero_le h0;rcases Nat.lt_or_ge k (aCy n.toNat) with h3 | h3
 ·exact_mod_cast h3
 ·exfalso;have h4:=Nat.mul_le_mul (show aCy n.toNat+1<=k+1 by omega) (show aCy n.toNat+1<=k+1 by omega)
  have h5:((k+1)*(k+1):Nat)<=n.toNat:=by
   have:(((k+1)*(k+1):Nat):Int)<=n:=by push_cast;exact h
   omega
  omega
def aMy (x:Nat):Bool:=decide ((x:Int)<48)||decide (57<(x:Int))
def aCv (v:Bys):Bool := !(decide (0<=Lib.idxFunc aMy true (ofL v)))
def aCm (v:Bys) (has:Bool) (n:Int):Bool:=has&&aCv v&&decide ((v.length:Int)<=7)&&(aH7 v).isSome&&decide (n<(aH7 v).getD 0)
def aAT (t:List Tag):Nat->CdR->Bool
  | 0,_=>true
  | h+1,c =>
    bif c.op==2 then (aAP t c.key).2
    else bif c.op==3 then (aAP t c.key).2&&((aAP t c.key).1==c.val)
    else bif c.op==7 then aCm (aAP t c.key).1 (aAP t c.key).2 c.n
    else bif (c.op==4)||(c.op==5) then (c.kids.any fun k => !(aAT t h k))==(c.op==4)
    else bif c.op==6 then c.kids.any (aAT t h) else true
theorem aAo (t:List Tag) (h:Nat) (c:CdR):aAT t (h+1) c =
    bif c.op==2 then (aAP t c.key).2
    else bif c.op==3 then (aAP t c.key).2&&((aAP t c.key).1==c.val)
    else bif c.op==7 then aCm (aAP t c.key).1 (aAP t c.key).2 c.n
    else bif (c.op==4)||(c.op==5) then (c.kids.any fun k => !(aAT t h k))==(c.op==4)
    else bif c.op==6 then c.kids.any (aAT t h) else true:=rfl
def aEM (h:Nat) (c:CdR) (t:List Tag):Bool:=aDh h c&&aAT t h c
def aED (b:ObR) (B h:Nat):Prop:=∀ {c:CdR}{w:World},CdB w B h c->B<=w.heap.size->ObIn w b->Te w->Calls Tryz.prog 37 #[vA (cdL c),vA (obL b)] w fun e w'=>e = .returned (vB (aAT b.o.tags h c)) /\ Fr nF_ w w'
theorem aMq {w:World}(x:Nat):Calls Tryz.prog 84 #[.int .i32 (x:Int)] w fun e w'=>e = .returned (vB (aMy x)) /\ Fr nF_ w w':=by
  refine beg Tryz.func84 rfl rfl [(0,.int .i32 (x:Int))] rfl rfl fun Z hZ=>?_;have hM:=Mm.nil nF_ w;refine seg 1 3 [(5,vB (decide ((x:Int)<48)))] f0 ?_;cases h46:(decide ((x:Int)<48))
  ·exact rt1 2 (vB (decide (57<(x:Int)))) rfl f0 (hZ _ _ ⟨by unfold aMy;simp only [h46]<;>rfl,hM.fr⟩)
  exact rt1 2 (vB true) rfl f0 (hZ _ _ ⟨by unfold aMy;simp only [h46]<;>rfl,hM.fr⟩)
theorem aG8 {w:World}(v:Bys):Calls Tryz.prog 83 #[vS v,.func (.func 84) #[] #[]] w fun e w'=>e = .returned (vB (decide (0<=Lib.idxFunc aMy true (ofL v)))) /\ Fr nF_ w w' :=
  (Tryz.strings_ContainsFunc_grows 84 #[] (enters_of Tryz.func84 (by kernel_rfl) rfl) aMy (ofL v) w (fun W x _ _=>(aMq x).mono fun e w2 ⟨h1,h2⟩=>⟨h1,h2.os,h2.tape,h2.output,h2.size,fun r hr=>h2.blk r hr id⟩)).mono fun e w2 ⟨h1,h2⟩=>⟨h1,Fr.of_below h2⟩
theorem aIm {w:World}{B h:Nat}{b:ObR}(ih:aED b B h) {bo:Nat}(hbo:w.heap[bo]?=some (.cells (oY_ b) 48 (0,0))) (hb:ObIn w b) (hTe:Te w) {c:CdR}(hc:CdB w B h c) (hBw:B<=w.heap.size):Calls Tryz.prog 81 #[vA (cdL c),vP bo 0] w fun e w'=>e = .returned (vB (aAT b.o.tags h c)) /\ Fr nF_ w w':=by
  refine beg Tryz.func81 rfl rfl [(0,.agg (cY_ c)),(1,vP bo 0)] rfl rfl fun Z hZ=>?_;have hM:=Mm.nil nF_ w;refine aAu 0 0 2 [] (cs:=(cY_ c)) (T:=27) (v:=fun b=>vP b 0) f0 hM fun aa w1 hM=>aAx 1 2 6 [(4,.agg (cY_ c)),(5,.agg (oY_ b))] (fc (lam 27 0 0 5 hM rfl) (fc (la0 48 hM (rs (aF6 hbo) 0 6)) f0)) hM (ih (hc.g (fun _ h=>h.elim) hM.fr hBw) (Gn_ hBw hM.fr.size) (hb.fr hM.fr) (hTe.fr hM.fr)) fun w1 hM=>rt1 3 (vB (aAT b.o.tags h c)) rfl f0 (hZ _ _ ⟨rfl,hM.fr⟩)
theorem aMg {w:World}{B h:Nat}{b:ObR}(ih:aED b B h) {bo:Nat}(hbo:w.heap[bo]?=some (.cells (oY_ b) 48 (0,0))) (hb:ObIn w b) (hTe:Te w) {b7:Nat}(hb7:w.heap[b7]?=some (.cells #[.func (.func 81) #[] #[vP bo 0]] 34 (0,0))) {c:CdR}(hc:CdB w B h c) (hBw:B<=w.heap.size):Calls Tryz.prog 82 #[vA (cdL c),vP b7 0] w fun e w'=>e = .returned (vB (!(aAT b.o.tags h c))) /\ Fr nF_ w w':=by
  refine beg Tryz.func82 rfl rfl [(0,.agg (cY_ c)),(1,vP b7 0)] rfl rfl fun Z hZ=>?_;have hM:=Mm.nil nF_ w;refine aAu 0 0 2 [] (cs:=(cY_ c)) (T:=27) (v:=fun b=>vP b 0) f0 hM fun aa w1 hM=>aAx 1 2 6 [(4,.func (.func 81) #[] #[vP bo 0]),(5,.agg (cY_ c))] (fc (ld0 34 hM (bx hb7 0 rfl)) (fc (lam 27 0 0 5 hM rfl) f0)) hM (aIm ih (hM.fr.obj hbo id) (hb.fr hM.fr) (hTe.fr hM.fr) (hc.g (fun _ h=>h.elim) hM.fr hBw) (Gn_ hBw hM.fr.size)) fun w1 hM=>rt1 3 (vB (!(aAT b.o.tags h c))) rfl f0 (hZ _ _ ⟨rfl,hM.fr⟩)
theorem aEQ {w:World}{B h:Nat}{b:ObR}(ih:aED b B h) {bo:Nat}(hbo:w.heap[bo]?=some (.cells (oY_ b) 48 (0,0))) (hb:ObIn w b) (hTe:Te w) {p:Option Addr}{cap:Nat}{L:List CdR}(hs:SrcB cdL 5 w B p cap L) (hk:∀ k∈L,CdB w B h k) (hBw:B<=w.heap.size):Calls Tryz.prog 86 #[vL p L.length cap,.func (.func 81) #[] #[vP bo 0]] w fun e w'=>e = .returned (vB (L.any (aAT b.o.tags h))) /\ Fr nF_ w w' :=
  (aFW (caps:=#[vP bo 0]) hs (G:=fun _=>False) (fun _ h=>h.elim) (enters_of Tryz.func81 (by kernel_rfl) rfl) (fun _ _=>True) (atQ L (aAT b.o.tags h)) trivial (fun i x w1 hx _ _ f=>(aIm ih (f.obj hbo id) (hb.fr f) (hTe.fr f) ((hk x (gm hx)).g (fun _ h=>h.elim) f hBw) (Gn_ hBw f.size)).mono fun e w2 h=>⟨by rw [h.1];unfold atQ;rw [hx],trivial,h.2⟩)).mono fun e w9 h=>⟨by obtain ⟨z,h1,h2⟩:=h.1;rw [h1,aHx h2],h.2⟩
theorem aCo {w:World}{B h:Nat}{b:ObR}(ih:aED b B h) {bo:Nat}(hbo:w.heap[bo]?=some (.cells (oY_ b) 48 (0,0))) (hb:ObIn w b) (hTe:Te w) {b7:Nat}(hb7:w.heap[b7]?=some (.cells #[.func (.func 81) #[] #[vP bo 0]] 34 (0,0))) {p:Option Addr}{cap:Nat}{L:List CdR}(hs:SrcB cdL 5 w B p cap L) (hk:∀ k∈L,CdB w B h k) (hBw:B<=w.heap.size):Calls Tryz.prog 86 #[vL p L.length cap,.func (.func 82) #[] #[vP b7 0]] w fun e w'=>e = .returned (vB (L.any (fun k => !(aAT b.o.tags h k)))) /\ Fr nF_ w w' :=
  (aFW (caps:=#[vP b7 0]) hs (G:=fun _=>False) (fun _ h=>h.elim) (enters_of Tryz.func82 (by kernel_rfl) rfl) (fun _ _=>True) (atQ L (fun k => !(aAT b.o.tags h k))) trivial (fun i x w1 hx _ _ f=>(aMg ih (f.obj hbo id) (hb.fr f) (hTe.fr f) (f.obj hb7 id) ((hk x (gm hx)).g (fun _ h=>h.elim) f hBw) (Gn_ hBw f.size)).mono fun e w2 h=>⟨by rw [h.1];unfold atQ;rw [hx],trivial,h.2⟩)).mono fun e w9 h=>⟨by obtain ⟨z,h1,h2⟩:=h.1;rw [h1,aHx h2],h.2⟩
theorem aMe {w:World}{B h:Nat}{b:ObR}(ht:∀ k,(aAP b.o.tags k).1.length<=281474976710656) (ih:aED b B h) (hb:ObIn w b) (hTe:Te w) {c:CdR}(hc:CdB w B (h+1) c) (hBw:B<=w.heap.size):Calls Tryz.prog 37 #[vA (cdL c),vA (obL b)] w fun e w'=>e = .returned (vB (aAT b.o.tags (h+1) c)) /\ Fr nF_ w w':=by
  have hl:=ht c.key
  cases hat:aH7 (aAP b.o.tags c.key).1 with
  | none =>
    refine beg Tryz.func37 rfl rfl [(0,.agg (cY_ c)),(1,.agg (oY_ b))] rfl rfl fun Z hZ=>?_;have hM:=Mm.nil nF_ w;refine aAu 0 0 2 [] (cs:=(cY_ c)) (T:=27) (v:=fun b=>vP b 0) f0 hM fun ae w1 hM=>aAu 0 1 3 [] (cs:=(oY_ b)) (T:=48) (v:=fun b=>vP b 0) f0 hM fun aa w1 hM=>aAx 1 4 17 [(14,vL b.pt b.o.tags.length b.ct),(16,vS c.key)] (fc (ldm 46 1 5 hM rfl rfl) (fc (ldm 9 0 1 hM rfl rfl) f0)) hM (aDq (hb.tags.src.fr hM.fr) c.key) fun w1 hM=>aBY 2 1 7 [(5,vS ((aAP b.o.tags c.key).1)),(6,vB (aAP b.o.tags c.key).2),(20,.func (.func 81) #[] #[vP aa 0])] [] 34 (.func (.func 81) #[] #[vP aa 0]) f0 hM fun ac w1 hM=>seg 5 2 [(8,.func (.func 82) #[] #[vP ac 0]),(23,vI c.op),(24,vB (c.op==2))] (fc (ldm 3 0 0 hM rfl rfl) f0) ?_;cases h53:(c.op==2)
    rotate_left
    ·exact rt1 4 (vB (aAP b.o.tags c.key).2) rfl f0 (hZ _ _ ⟨by rw [aAo];unfold aCm aCv;simp only [hat,h53,bs_,Option.isSome,Option.getD]<;>rfl,hM.fr⟩)
    refine seg 7 2 [(27,vB (c.op==3))] f0 ?_;cases h54:(c.op==3)
    rotate_left
    ·refine seg 8 2 [(30,vB (aAP b.o.tags c.key).2)] f0 ?_
     cases h62:(aAP b.o.tags c.key).2 with
     | false =>
      exact rt1 4 (vB false) rfl f0 (hZ _ _ ⟨by rw [aAo];unfold aCm aCv;simp only [hat,h53,h54,h62,bs_,Option.isSome,Option.getD]<;>rfl,hM.fr⟩)
     | true =>
      exact rt1 4 (vB ((aAP b.o.tags c.key).1==c.val)) rfl (fc (ldm 9 0 2 hM rfl rfl) (fc (seq 9 ((aAP b.o.tags c.key).1) c.val) f0)) (hZ _ _ ⟨by rw [aAo];unfold aCm aCv;simp only [hat,h53,h54,h62,bs_,Option.isSome,Option.getD]<;>rfl,hM.fr⟩)
    refine seg 9 2 [(36,vB (c.op==7))] f0 ?_;cases h55:(c.op==7)
    ·refine seg 13 2 [(65,vB (c.op==4))] f0 ?_;cases h56:(c.op==4)
     rotate_left
     ·refine seg 15 0 [] f0 (drc [(4,vB ((c.kids.any fun k => !(aAT b.o.tags h k))==true))] hM (fun w5 hM=>(fc (ldm 25 0 4 hM rfl rfl) (fc (tcl (aCo ih (bo:=aa) (hM.get 1 rfl) (hb.fr hM.fr) (hTe.fr hM.fr) (b7:=ac) (hM.get 2 rfl) (hc.2.2.1.g (fun _ h=>h.elim) hM.fr hBw) (fun k hk=>(hc.2.2.2 k hk).g (fun _ h=>h.elim) hM.fr hBw) (Gn_ hBw hM.fr.size))) (fc (ldm 3 0 0 hM rfl rfl) (fc (tv 74 h56) f0))))) fun w5 hM=>rt1 4 (vB ((c.kids.any fun k => !(aAT b.o.tags h k))==true)) rfl f0 (hZ _ _ ⟨by rw [aAo];unfold aCm aCv;simp only [hat,h53,h54,h55,h56,bs_,Option.isSome,Option.getD]<;>rfl,hM.fr⟩))
     refine seg 14 2 [(65,vB (c.op==5))] f0 ?_;cases h57:(c.op==5)
     rotate_left
     ·refine seg 15 0 [] f0 (drc [(4,vB ((c.kids.any fun k => !(aAT b.o.tags h k))==false))] hM (fun w5 hM=>(fc (ldm 25 0 4 hM rfl rfl) (fc (tcl (aCo ih (bo:=aa) (hM.get 1 rfl) (hb.fr hM.fr) (hTe.fr hM.fr) (b7:=ac) (hM.get 2 rfl) (hc.2.2.1.g (fun _ h=>h.elim) hM.fr hBw) (fun k hk=>(hc.2.2.2 k hk).g (fun _ h=>h.elim) hM.fr hBw) (Gn_ hBw hM.fr.size))) (fc (ldm 3 0 0 hM rfl rfl) (fc (tv 74 h56) f0))))) fun w5 hM=>rt1 4 (vB ((c.kids.any fun k => !(aAT b.o.tags h k))==false)) rfl f0 (hZ _ _ ⟨by rw [aAo];unfold aCm aCv;simp only [hat,h53,h54,h55,h56,h57,bs_,Option.isSome,Option.getD]<;>rfl,hM.fr⟩))
     refine seg 16 2 [(76,vB (c.op==6))] f0 ?_;cases h58:(c.op==6)
     ·exact rt1 4 (vB true) rfl f0 (hZ _ _ ⟨by rw [aAo];unfold aCm aCv;simp only [hat,h53,h54,h55,h56,h57,h58,bs_,Option.isSome,Option.getD]<;>rfl,hM.fr⟩)
     refine aAx 17 3 81 [(79,vL c.p c.kids.length c.cap),(80,.func (.func 81) #[] #[vP aa 0])] (fc (ldm 25 0 4 hM rfl rfl) (fc (ldm 34 2 0 hM rfl rfl) f0)) hM (aEQ ih (hM.get 1 rfl) (hb.fr hM.fr) (hTe.fr hM.fr) (hc.2.2.1.g (fun _ h=>h.elim) hM.fr hBw) (fun k hk=>(hc.2.2.2 k hk).g (fun _ h=>h.elim) hM.fr hBw) (Gn_ hBw hM.fr.size)) fun w1 hM=>rt1 4 (vB (c.kids.any (aAT b.o.tags h))) rfl f0 (hZ _ _ ⟨by rw [aAo];unfold aCm aCv;simp only [hat,h53,h54,h55,h56,h57,h58,bs_,Option.isSome,Option.getD]<;>rfl,hM.fr⟩)
    refine aAx 10 1 39 [(38,vS ((aAP b.o.tags c.key).1))] f0 hM (aG8 (aAP b.o.tags c.key).1) fun w1 hM=>cal 11 1 43 [(9,vB (!(decide (0<=Lib.idxFunc aMy true (ofL (aAP b.o.tags c.key).1))))),(42,vS ((aAP b.o.tags c.key).1))] (K:=fun u w8=>∃ n T v,u = .tuple #[vI n,.iface T v] /\ Fr nF_ w1 w8) f0 ((aGC hl (hTe.fr hM.fr)).mono fun e w8 ⟨⟨n1,ev,h1,h2⟩,h3⟩=>(by rcases h2 with ⟨h4,_⟩ | ⟨h4,T,v,rfl⟩<;>rw [hat] at h4<;>cases h4;exact ⟨_,h1,n1,T,v,rfl,h3⟩)) fun u w1 ⟨n,T,v,hu,f1⟩=>?_;subst hu;have hM:=hM.q f1;refine seg 12 2 [(10,vI n),(11,.iface T v),(47,vB (aAP b.o.tags c.key).2)] f0 ?_
    cases h59:(aAP b.o.tags c.key).2 with
    | false =>
     exact rt1 4 (vB false) rfl f0 (hZ _ _ ⟨by rw [aAo];unfold aCm aCv;simp only [hat,h53,h54,h55,h59,bs_,Option.isSome,Option.getD]<;>rfl,hM.fr⟩)
    | true =>
     refine seg 12 5 [(50,vB (!(decide (0<=Lib.idxFunc aMy true (ofL (aAP b.o.tags c.key).1)))))] f0 ?_;cases h60:(decide (0<=Lib.idxFunc aMy true (ofL (aAP b.o.tags c.key).1)))
     rotate_left
     ·exact rt1 4 (vB false) rfl f0 (hZ _ _ ⟨by rw [aAo];unfold aCm aCv;simp only [hat,h53,h54,h55,h59,h60,bs_,Option.isSome,Option.getD]<;>rfl,hM.fr⟩)
     refine seg 12 10 [(55,vB (decide ((((aAP b.o.tags c.key).1).length:Int)<=7)))] (fc (aII 9 ((aAP b.o.tags c.key).1)) f0) ?_;cases h61:(decide ((((aAP b.o.tags c.key).1).length:Int)<=7))
     ·exact rt1 4 (vB false) rfl f0 (hZ _ _ ⟨by rw [aAo];unfold aCm aCv;simp only [hat,h53,h54,h55,h59,h60,h61,bs_,Option.isSome,Option.getD]<;>rfl,hM.fr⟩)
     refine opp 12 11 57 [(56,.iface T v)] (v:=vB false) f0 (rt1 4 (vB false) rfl f0 (hZ _ _ ⟨by rw [aAo];unfold aCm aCv;simp only [hat,h53,h54,h55,h59,h60,h61,bs_,Option.isSome,Option.getD]<;>rfl,hM.fr⟩))
  | some n =>
    refine beg Tryz.func37 rfl rfl [(0,.agg (cY_ c)),(1,.agg (oY_ b))] rfl rfl fun Z hZ=>?_;have hM:=Mm.nil nF_ w;refine aAu 0 0 2 [] (cs:=(cY_ c)) (T:=27) (v:=fun b=>vP b 0) f0 hM fun af w1 hM=>aAu 0 1 3 [] (cs:=(oY_ b)) (T:=48) (v:=fun b=>vP b 0) f0 hM fun ab w1 hM=>aAx 1 4 17 [(14,vL b.pt b.o.tags.length b.ct),(16,vS c.key)] (fc (ldm 46 1 5 hM rfl rfl) (fc (ldm 9 0 1 hM rfl rfl) f0)) hM (aDq (hb.tags.src.fr hM.fr) c.key) fun w1 hM=>aBY 2 1 7 [(5,vS ((aAP b.o.tags c.key).1)),(6,vB (aAP b.o.tags c.key).2),(20,.func (.func 81) #[] #[vP ab 0])] [] 34 (.func (.func 81) #[] #[vP ab 0]) f0 hM fun ad w1 hM=>seg 5 2 [(8,.func (.func 82) #[] #[vP ad 0]),(23,vI c.op),(24,vB (c.op==2))] (fc (ldm 3 0 0 hM rfl rfl) f0) ?_;cases h66:(c.op==2)
    rotate_left
    ·exact rt1 4 (vB (aAP b.o.tags c.key).2) rfl f0 (hZ _ _ ⟨by rw [aAo];unfold aCm aCv;simp only [hat,h66,bs_,Option.isSome,Option.getD]<;>rfl,hM.fr⟩)
    refine seg 7 2 [(27,vB (c.op==3))] f0 ?_;cases h67:(c.op==3)
    rotate_left
    ·refine seg 8 2 [(30,vB (aAP b.o.tags c.key).2)] f0 ?_
     cases h75:(aAP b.o.tags c.key).2 with
     | false =>
      exact rt1 4 (vB false) rfl f0 (hZ _ _ ⟨by rw [aAo];unfold aCm aCv;simp only [hat,h66,h67,h75,bs_,Option.isSome,Option.getD]<;>rfl,hM.fr⟩)
     | true =>
      exact rt1 4 (vB ((aAP b.o.tags c.key).1==c.val)) rfl (fc (ldm 9 0 2 hM rfl rfl) (fc (seq 9 ((aAP b.o.tags c.key).1) c.val) f0)) (hZ _ _ ⟨by rw [aAo];unfold aCm aCv;simp only [hat,h66,h67,h75,bs_,Option.isSome,Option.getD]<;>rfl,hM.fr⟩)
    refine seg 9 2 [(36,vB (c.op==7))] f0 ?_;cases h68:(c.op==7)
    ·refine seg 13 2 [(65,vB (c.op==4))] f0 ?_;cases h69:(c.op==4)
     rotate_left
     ·refine seg 15 0 [] f0 (drc [(4,vB ((c.kids.any fun k => !(aAT b.o.tags h k))==true))] hM (fun w5 hM=>(fc (ldm 25 0 4 hM rfl rfl) (fc (tcl (aCo ih (bo:=ab) (hM.get 1 rfl) (hb.fr hM.fr) (hTe.fr hM.fr) (b7:=ad) (hM.get 2 rfl) (hc.2.2.1.g (fun _ h=>h.elim) hM.fr hBw) (fun k hk=>(hc.2.2.2 k hk).g (fun _ h=>h.elim) hM.fr hBw) (Gn_ hBw hM.fr.size))) (fc (ldm 3 0 0 hM rfl rfl) (fc (tv 74 h69) f0))))) fun w5 hM=>rt1 4 (vB ((c.kids.any fun k => !(aAT b.o.tags h k))==true)) rfl f0 (hZ _ _ ⟨by rw [aAo];unfold aCm aCv;simp only [hat,h66,h67,h68,h69,bs_,Option.isSome,Option.getD]<;>rfl,hM.fr⟩))
     refine seg 14 2 [(65,vB (c.op==5))] f0 ?_;cases h70:(c.op==5)
     rotate_left
     ·refine seg 15 0 [] f0 (drc [(4,vB ((c.kids.any fun k => !(aAT b.o.tags h k))==false))] hM (fun w5 hM=>(fc (ldm 25 0 4 hM rfl rfl) (fc (tcl (aCo ih (bo:=ab) (hM.get 1 rfl) (hb.fr hM.fr) (hTe.fr hM.fr) (b7:=ad) (hM.get 2 rfl) (hc.2.2.1.g (fun _ h=>h.elim) hM.fr hBw) (fun k hk=>(hc.2.2.2 k hk).g (fun _ h=>h.elim) hM.fr hBw) (Gn_ hBw hM.fr.size))) (fc (ldm 3 0 0 hM rfl rfl) (fc (tv 74 h69) f0))))) fun w5 hM=>rt1 4 (vB ((c.kids.any fun k => !(aAT b.o.tags h k))==false)) rfl f0 (hZ _ _ ⟨by rw [aAo];unfold aCm aCv;simp only [hat,h66,h67,h68,h69,h70,bs_,Option.isSome,Option.getD]<;>rfl,hM.fr⟩))
     refine seg 16 2 [(76,vB (c.op==6))] f0 ?_;cases h71:(c.op==6)
     ·exact rt1 4 (vB true) rfl f0 (hZ _ _ ⟨by rw [aAo];unfold aCm aCv;simp only [hat,h66,h67,h68,h69,h70,h71,bs_,Option.isSome,Option.getD]<;>rfl,hM.fr⟩)
     refine aAx 17 3 81 [(79,vL c.p c.kids.length c.cap),(80,.func (.func 81) #[] #[vP ab 0])] (fc (ldm 25 0 4 hM rfl rfl) (fc (ldm 34 2 0 hM rfl rfl) f0)) hM (aEQ ih (hM.get 1 rfl) (hb.fr hM.fr) (hTe.fr hM.fr) (hc.2.2.1.g (fun _ h=>h.elim) hM.fr hBw) (fun k hk=>(hc.2.2.2 k hk).g (fun _ h=>h.elim) hM.fr hBw) (Gn_ hBw hM.fr.size)) fun w1 hM=>rt1 4 (vB (c.kids.any (aAT b.o.tags h))) rfl f0 (hZ _ _ ⟨by rw [aAo];unfold aCm aCv;simp only [hat,h66,h67,h68,h69,h70,h71,bs_,Option.isSome,Option.getD]<;>rfl,hM.fr⟩)
    refine aAx 10 1 39 [(38,vS ((aAP b.o.tags c.key).1))] f0 hM (aG8 (aAP b.o.tags c.key).1) fun w1 hM=>aYa 11 1 43 [(9,vB (!(decide (0<=Lib.idxFunc aMy true (ofL (aAP b.o.tags c.key).1))))),(42,vS ((aAP b.o.tags c.key).1))] (v := .tuple #[vI n,.nilIface]) (K:=fun w8=>Fr nF_ _ w8) f0 ((aGC hl (hTe.fr hM.fr)).mono fun e w8 ⟨⟨n1,ev,h1,h2⟩,h3⟩=>(by rcases h2 with ⟨h4,rfl,_⟩ | ⟨h4,_⟩<;>rw [hat] at h4<;>cases h4;exact ⟨h1,h3⟩)) fun w1 f1=>?_;have hM:=hM.q f1;refine seg 12 2 [(10,vI n),(11,.nilIface),(47,vB (aAP b.o.tags c.key).2)] f0 ?_
    cases h72:(aAP b.o.tags c.key).2 with
    | false =>
     exact rt1 4 (vB false) rfl f0 (hZ _ _ ⟨by rw [aAo];unfold aCm aCv;simp only [hat,h66,h67,h68,h72,bs_,Option.isSome,Option.getD]<;>rfl,hM.fr⟩)
    | true =>
     refine seg 12 5 [(50,vB (!(decide (0<=Lib.idxFunc aMy true (ofL (aAP b.o.tags c.key).1)))))] f0 ?_;cases h73:(decide (0<=Lib.idxFunc aMy true (ofL (aAP b.o.tags c.key).1)))
     rotate_left
     ·exact rt1 4 (vB false) rfl f0 (hZ _ _ ⟨by rw [aAo];unfold aCm aCv;simp only [hat,h66,h67,h68,h72,h73,bs_,Option.isSome,Option.getD]<;>rfl,hM.fr⟩)
     refine seg 12 10 [(55,vB (decide ((((aAP b.o.tags c.key).1).length:Int)<=7)))] (fc (aII 9 ((aAP b.o.tags c.key).1)) f0) ?_;cases h74:(decide ((((aAP b.o.tags c.key).1).length:Int)<=7))
     ·exact rt1 4 (vB false) rfl f0 (hZ _ _ ⟨by rw [aAo];unfold aCm aCv;simp only [hat,h66,h67,h68,h72,h73,h74,bs_,Option.isSome,Option.getD]<;>rfl,hM.fr⟩)
     refine opp 12 11 57 [(56,.nilIface)] (v:=vB true) f0 (rt1 4 (vB (decide (c.n<n))) rfl (fc (ldm 3 0 3 hM rfl rfl) f0) (hZ _ _ ⟨by rw [aAo];unfold aCm aCv;simp only [hat,h66,h67,h68,h72,h73,h74,bs_,Option.isSome,Option.getD]<;>rfl,hM.fr⟩))
theorem aFK {B:Nat}{b:ObR}(ht:∀ k,(aAP b.o.tags k).1.length<=281474976710656):∀ h,aED b B h
  | 0=>fun hc=>hc.elim
  | h+1=>fun hc hBw hb hTe=>aMe ht (aFK ht h) hb hTe hc hBw
theorem aGa {w:World}{B h:Nat}{b:ObR}(ht:∀ k,(aAP b.o.tags k).1.length<=281474976710656) (hb:ObIn w b) (hTe:Te w) {c:CdR}(hc:CdB w B h c) (hBw:B<=w.heap.size):Calls Tryz.prog 16 #[vA (cdL c),vA (obL b)] w fun e w'=>e = .returned (vB (aEM h c b.o.tags)) /\ Fr nF_ w w':=by
  refine beg Tryz.func16 rfl rfl [(0,.agg (cY_ c)),(1,.agg (oY_ b))] rfl rfl fun Z hZ=>?_;have hM:=Mm.nil nF_ w;refine aAu 0 0 2 [] (cs:=(cY_ c)) (T:=27) (v:=fun b=>vP b 0) f0 hM fun aa w1 hM=>aAu 0 1 3 [] (cs:=(oY_ b)) (T:=48) (v:=fun b=>vP b 0) f0 hM fun ab w1 hM=>aAx 1 1 6 [(5,.agg (cY_ c))] (fc (lam 27 0 0 5 hM rfl) f0) hM (aEE (hc.g (fun _ h=>h.elim) hM.fr hBw) (Gn_ hBw hM.fr.size)) fun w1 hM=>seg 1 3 [(7,vB (aDh h c))] f0 ?_;cases h78:(aDh h c)
  ·exact rt1 4 (vB false) rfl f0 (hZ _ _ ⟨by unfold aEM;simp only [h78]<;>rfl,hM.fr⟩)
  refine aAx 1 5 10 [(8,.agg (cY_ c)),(9,.agg (oY_ b))] (fc (lam 27 0 0 5 hM rfl) (fc (lam 48 1 0 6 hM rfl) f0)) hM (aFK ht h (hc.g (fun _ h=>h.elim) hM.fr hBw) (Gn_ hBw hM.fr.size) (hb.fr hM.fr) (hTe.fr hM.fr)) fun w1 hM=>rt1 4 (vB (aAT b.o.tags h c)) rfl f0 (hZ _ _ ⟨by unfold aEM;simp only [h78]<;>rfl,hM.fr⟩)
def aBG (h:Nat) (q:QdR) (b:ObR):Bool:=((q.kind==0)||(q.kind==b.o.kind))&&aEM h q.wh b.o.tags
def aHB (h:Nat) (q:QdR) (os:List ObR):List (Bys×Int):=(os.filter (aBG h q)).map fun b=>(b.o.id,0)
theorem aRm {h:Nat}{q:QdR}{os:List ObR}{i:Nat}{y:ObR}(hy:os[i]?=some y) (ha:aBG h q y=true):aHB h q (os.take i)++[(y.o.id,0)]=aHB h q (os.take (i+1)):=by
  unfold aHB;rw [gt_ hy,List.filter_append,List.map_append];simp [ha]
theorem aTQ {h:Nat}{q:QdR}{os:List ObR}{i:Nat}{y:ObR}(hy:os[i]?=some y) (ha:aBG h q y=false):aHB h q (os.take i)=aHB h q (os.take (i+1)):=by
  unfold aHB;rw [gt_ hy,List.filter_append,List.map_append];simp [ha]
theorem aFo (h:Nat) (q:QdR) (os:List ObR):(aHB h q os).length<=os.length:=by
  unfold aHB;rw [Go_];exact List.length_filter_le _ _
theorem aMB {os:List ObR}{b:ObR}(hv:aAl (aAa os)=true) (hb:b∈os) (k:Bys):(aAP b.o.tags k).1.length<=281474976710656:=Gn_ (aLt (aCk hv _ (List.mem_map.2 ⟨_,hb,rfl⟩)) k) (by decide)
theorem aDw {w:World}{fb bs xi:Nat}{p0:Option Addr}{cp0:Nat}{os:List ObR}(hm:aC0 w (vL p0 os.length cp0) os) (hvm:aAl (aAa os)=true) {B h:Nat}{q:QdR}(hq:QdIn w B h q) (hBw:B<=w.heap.size) (hTe:Te w) (hfb:w.heap[fb]?=some (.cells (fY_ (vL p0 os.length cp0) q (.map (some bs)) (vP xi 0)) 93 (0,0))) {b:ObR}(hbo:b∈os) (hb:ObIn w b):Calls Tryz.prog 56 #[vP fb 0,vA (obL b)] w fun e w'=>e = .returned (vB (aBG h q b)) /\ Fr nF_ w w':=by
  refine beg Tryz.func56 rfl rfl [(0,vP fb 0),(1,.agg (oY_ b))] rfl rfl fun Z hZ=>?_;have hM:=Mm.nil nF_ w;refine aAu 0 0 3 [] (cs:=(oY_ b)) (T:=48) (v:=fun b=>vP b 0) f0 hM fun ac w1 hM=>seg 1 0 [] f0 ?_;cases aa:(q.kind==0)
  ·cases ab:(q.kind==b.o.kind)
   ·refine drc [(4,vB false)] hM (fun w5 hM=>(fc (ld0 3 hM (bx hfb 2 rfl)) (fc (tv 10 aa) (fc (ld0 3 hM (bx hfb 2 rfl)) (fc (ldm 3 0 1 hM rfl rfl) (fc (tv 19 ab) f0)))))) fun w5 hM=>rt1 4 (vB false) rfl f0 (hZ _ _ ⟨by unfold aBG;simp only [aa,ab]<;>rfl,hM.fr⟩)
   refine drc [(4,vB (aEM h q.wh b.o.tags))] hM (fun w5 hM=>(fc (ld0 3 hM (bx hfb 2 rfl)) (fc (tv 10 aa) (fc (ld0 3 hM (bx hfb 2 rfl)) (fc (ldm 3 0 1 hM rfl rfl) (fc (tv 19 ab) (fc (la0 27 hM (rs (aF6 hfb) 3 5)) (fc (lam 48 0 0 6 hM rfl) (fc (tcl (aGa (aMB hvm hbo) (hb.fr hM.fr) (hTe.fr hM.fr) (hq.wh.g (fun _ h=>h.elim) hM.fr hBw) (Gn_ hBw hM.fr.size))) f0))))))))) fun w5 hM=>rt1 4 (vB (aEM h q.wh b.o.tags)) rfl f0 (hZ _ _ ⟨by unfold aBG;simp only [aa,ab]<;>rfl,hM.fr⟩)
  refine drc [(4,vB (aEM h q.wh b.o.tags))] hM (fun w5 hM=>(fc (ld0 3 hM (bx hfb 2 rfl)) (fc (tv 10 aa) (fc (la0 27 hM (rs (aF6 hfb) 3 5)) (fc (lam 48 0 0 6 hM rfl) (fc (tcl (aGa (aMB hvm hbo) (hb.fr hM.fr) (hTe.fr hM.fr) (hq.wh.g (fun _ h=>h.elim) hM.fr hBw) (Gn_ hBw hM.fr.size))) f0)))))) fun w5 hM=>rt1 4 (vB (aEM h q.wh b.o.tags)) rfl f0 (hZ _ _ ⟨by unfold aBG;simp only [aa]<;>rfl,hM.fr⟩)
abbrev aZv (Z:Ending->World->Prop):=AtO Tryz.prog (aAw Tryz.f28) (aAL (bodyPost Tryz.prog Tryz.f28 Z)) [] 28
theorem aIG {w:World}{fb bs xi:Nat}{p0:Option Addr}{cp0:Nat}{os:List ObR}(hm:aC0 w (vL p0 os.length cp0) os) (hvm:aAl (aAa os)=true) {B h:Nat}{q:QdR}(hq:QdIn w B h q) (hBw:B<=w.heap.size) (hTe:Te w) (hfb:w.heap[fb]?=some (.cells (fY_ (vL p0 os.length cp0) q (.map (some bs)) (vP xi 0)) 93 (0,0))) (hol:os.length<=1000000):Calls Tryz.prog 28 #[vP fb 0] w fun e w'=>∃ u,e = .returned (.tuple #[u,vI 0]) /\ Mm nF_ w w' [rw_ rwL 2 42 u (aHB h q os)]:=by
  have hm0:=hm;obtain ⟨hs0,hob⟩:=hm0;have sp0:=hs0.p.2;refine beg Tryz.func28 rfl rfl [(0,vP fb 0)] rfl rfl fun Z hZ=>?_;have hM:=Mm.nil nF_ w;have hM:=hM.row (f:=rwL) (c:=2) (E:=42);refine seg 3 0 [(4,vL none 0 0),(11,vL p0 os.length cp0),(12,vI (os.length:Int)),(13,vI 0)] (fc (ld0 22 hM (bx hfb 0 rfl)) f0) ?_
  have ag:∀ (ac:Nat) (i:Nat) (vo:Value) (w2:World),i<=os.length->Mm nF_ w w2 [rw_ rwL 2 42 vo (aHB h q (os.take i))]->ac=os.length-i->aZv Z (some (3,0)) [(13,vI (i:Int)),(12,vI (os.length:Int)),(11,vL p0 os.length cp0),(4,vo),(0,vP fb 0)] w2:=by
   refine aCx fun ac ad i vo w2 hi hM al=>seg 3 1 [(14,vB (decide ((i:Int)<(os.length:Int))))] f0 ?_;cases ae:(decide ((i:Int)<(os.length:Int)))
   ·have ah:=df ae;exact rt2 2 3 vo (vI 0) rfl rfl f0 (hZ _ _ ⟨_,rfl,by rw [Gc_ (by omega)] at hM;exact hM.pick [0]⟩)
   have ah:=dt ae;obtain ⟨y,hy,am,an,ai,aj⟩:=sp0.el (i:=i) (by omega);refine aBY 4 2 6 [(16,.agg (oY_ y))] [] 48 (.agg (oY_ y)) (fc (ix 22 cp0 ai (gl hy)) (fc (la0 48 hM aj) f0)) hM fun ao w1 hM=>aAx 5 2 19 [(17,vP fb 0),(18,.agg (oY_ y))] (fc (lam 48 1 0 6 hM rfl) f0) hM (aDw (hm.fr hM.fr) hvm (hq.fr hM.fr hBw) (Gn_ hBw hM.fr.size) (hTe.fr hM.fr) (hM.fr.obj hfb id) (gm hy) ((hob _ (gm hy)).fr hM.fr)) fun w1 hM=>?_;cases af:(aBG h q y)
   ·refine seg 3 0 [(13,vI ((i:Int)+1))] (fc (aAI (i:Int) 1 u3_) f0) ?_;have hM:=hM.pick [0];replace hM:Mm nF_ w _ [_]:=hM;obtain ⟨u1,hu1⟩:∃ z,z=vo:=⟨_,rfl⟩;rw [←hu1] at hM;rw [aTQ hy af,hu1] at hM;exact aAh _ (ad _ (by have:=gl hy;omega) (i+1) vo _ (gl hy) hM rfl)
   refine aAu 6 4 24 [(20,vo),(23,.agg #[vS y.o.id,vI 0])] (cs:=#[vS y.o.id,vI 0]) (T:=42) (v:=fun b=>vL (some ⟨b,0,none⟩) 1 1) (fc (ldm 9 1 0 hM rfl rfl) f0) hM fun ap w1 hM=>aVO 6 5 25 [] (cap:=1) (by decide) rwT f0 hM (j:=0) rfl (aCq (f:=rwL) (x:=(y.o.id,0)) (hM.get 2 rfl) (Nat.lt_succ_self _)) (fun h=>by cases h) (by have:=aFo h q (os.take i);have h2:=List.length_take_le i os;simp only [Gf_,Gm_];omega) fun aq w1 hM=>?_;obtain ⟨aa,ab,ak,-⟩:=(hM.src (j:=0) rfl rwT.len).op;subst ak;refine seg 3 0 [(4,vL aa ((aHB h q (os.take i))++[(y.o.id,0)]).length ab),(13,vI ((i:Int)+1))] (fc (aAI (i:Int) 1 u3_) f0) ?_;have hM:=hM.pick [0];replace hM:Mm nF_ w _ [_]:=hM;obtain ⟨u1,hu1⟩:∃ z,z=(vL aa ((aHB h q (os.take i))++[(y.o.id,0)]).length ab):=⟨_,rfl⟩;rw [←hu1] at hM;rw [aRm hy af,hu1] at hM;exact aAh _ (ad _ (by have:=gl hy;omega) (i+1) (vL aa ((aHB h q (os.take i))++[(y.o.id,0)]).length ab) _ (gl hy) hM rfl)
  exact aAh _ (ag _ 0 (vL none 0 0) _ (Gg_ _) hM rfl)
end Go.Proofs.YtngjlnhojicjeaaGreatDoor
namespace Go.Pl
open Go.RowKit
variable {ds:List Deferred}{P:Program}{ops:Array Oper}{Q:Exit->Act->World->Prop}{a:Act}{w:World}{r n:Nat}
def aLm (P:Program) (l:Nat) (args:Array Value) (W:World) (R:World->Prop):Prop :=
 ∃ m,YieldAt Fence.wide m P l args W fun e W'=>e = .returned (.bool true) /\ R W'
def aKb (P:Program) (gf:Nat) (lb:Array Value) (vs:List (Array Value)) (Kp:World->Prop):Prop :=
 ∀ (l:Nat) (J:Nat->World->Prop) (W:World),(∀ k W W',J k W->Fr nF_ W W'->J k W')->(∀ k W,J k W->Kp W) ->
  (∀ k v W,J k W->vs[k]?=some v->aLm P l v W (J (k+1)))->J 0 W ->
  Calls P gf (#[.func (.yield l) #[] #[]]++lb) W fun e W'=>(∃ v,e = .returned v) /\ J vs.length W'
end Go.Pl
namespace Go.Pl
open Go.RowKit
variable {P:Program}{Q:Exit->Act->World->Prop}{a:Act}{w:World}
def aS5 (R:World->Prop):Exit->Act->World->Prop
 | .normal,_,W=>R W
 | _,_,_=>False
theorem aLp {g:Operand}{ps:Array Tmp}{assign body:Code}{gf:Nat}{lb:Array Value}{vs:List (Array Value)}{Kp:World->Prop}
  (I:Nat->World->Prop) (A:Array Value->Act->Prop)
  (hg:a.eval g = .func (.func gf) #[] lb) (eg:∀ args w,(callFunc gf args).run P w = .ok (.enter gf args) w)
  (hY:aKb P gf lb vs Kp) (hps:∀ v∈vs,v.size=ps.size)
  (hI:∀ k W W',I k W->Fr (fun b=>b=w.heap.size∨b=w.heap.size+1) W W'->I k W') (hK:∀ k W,I k W->Kp W) (h0:I 0 w)
  (hassign:∀ (l:Nat) (v:Array Value) (W:World) (K:Act->World->Prop),v∈vs->(∀ a1,A v a1->K a1 W)->assign.wpIn (FR l) 0 P (Exit.then K (fun _ _ _=>False)) { tmps:=(ps.zip v).foldl (fun t (p,v)=>t.setIfInBounds p v) a.tmps,defers:=[] } W)
  (hbody:∀ (k:Nat) (v:Array Value) (a1:Act) (W:World),vs[k]?=some v->I k W->A v a1->w.heap.size+2<=W.heap.size->(∃ r,W.heap[w.heap.size+1]?=some (.loop r)) ->
   body.wpIn (FR (w.heap.size+1)) 0 P (aS5 fun W'=>I (k+1) W' /\ W'.heap[w.heap.size]?=W.heap[w.heap.size]? /\ W'.heap[w.heap.size+1]?=W.heap[w.heap.size+1]?) a1 W)
  (hdone:∀ W,I vs.length W->W.heap[w.heap.size]?=some (.deferred (some []))->Q .normal { a with defers:={ target := .collected w.heap.size,args:=#[] }::a.defers } W) :
  (Code.rangeFunc g ps assign body).wp P Q a w:=by
 refine (wpIn_wide (n:=0)).1 (wpIn_rangeFunc ?_);intro fn hfn;obtain ⟨rec,hrec⟩:∃ rec:LoopState->Option Code->Loop,rec=fun st pe=>{ state:=st,pending:=pe,fn,tmps:=a.tmps,params:=ps,assign,body,defers:=w.heap.size }:=⟨_,rfl⟩;obtain ⟨W1,hW1⟩:∃ W1,(w.alloc (.deferred (some []))).alloc (.loop (rec .ready none))=W1:=⟨_,rfl⟩
 have hL1:W1.heap[w.heap.size+1]?=some (.loop (rec .ready none)):=by
  rw [←hW1];exact aC3 (by simp) _
 have hK1:W1.heap[w.heap.size]?=some (.deferred (some [])):=by
  rw [←hW1];exact (aCw (by simp) _).trans (aAj _ _)
 have hf1:Fr nF_ w W1:=by rw [←hW1];exact ((Fr.refl _ _).alloc _).alloc _
 refine ⟨w.heap.size+1,[{ target := .collected w.heap.size,args:=#[] }],W1,{ target := .fn (.func gf) lb,args:=#[.func (.yield (w.heap.size+1)) #[] #[]] },W1,gf,
  #[.func (.yield (w.heap.size+1)) #[] #[]]++lb,W1,?_,?_,fun _ _=>trivial,?_,fun h=>(by cases h),?_⟩
 ·rw [←hW1,hrec];exact run_enterLoop_outer _ _ _ _ _
 ·simp only [resolve,hg];simp [go_sem]
 ·simp [invoke,go_sem,eg]
 ·refine callsIn_wide.2 ((hY (w.heap.size+1) (fun k W=>I k W /\ W.heap[w.heap.size+1]?=some (.loop (rec .ready none)) /\ W.heap[w.heap.size]?=some (.deferred (some []))) W1
   (fun k W W' h f=>⟨hI k W W' h.1 (f.mono fun _ _ h=>h.elim),f.obj h.2.1 id,f.obj h.2.2 id⟩) (fun k W h=>hK k W h.1) ?_ ⟨hI _ _ _ h0 (hf1.mono fun _ _ h=>h.elim),hL1,hK1⟩).mono ?_)
  ·rintro k v W ⟨hi,hl,hk⟩ hv;have hvm:v∈vs:=Ge_ hv;have hlt:=aAe hl;have hy:=run_yield (P:=P) (args:=v) hl (by rw [hrec];exact hps v hvm);rw [hrec] at hy;refine ⟨0,fn,_,assign,body,hy,roundIn_of_wpIn hfn (hassign _ v W _ hvm ?_)⟩;clear hy;intro a1 hA;refine ⟨_,run_beginRound hl (by rw [hrec]),?_⟩;have f2:=Fr.putObj W (w.heap.size+1) (.loop { rec .ready none with state := .busy });have hl2:(W.putObj (w.heap.size+1) (.loop { rec .ready none with state := .busy })).heap[w.heap.size+1]?=some (.loop { rec .ready none with state := .busy }):=World.putObj_heap_same hlt;have hk2:=f2.obj hk (by omega);have hs2:w.heap.size+2<=(W.putObj (w.heap.size+1) (.loop { rec .ready none with state := .busy })).heap.size:=by simp;omega
   refine wpIn_mono (hbody k v a1 _ hv (hI _ _ _ hi (f2.mono fun _ _ h => .inr h)) hA hs2 ⟨_,hl2⟩) ?_;rintro e a3 W3 hp
   cases e with
   | normal =>
    obtain ⟨hi3,h3,h4⟩:=hp;rw [hl2] at h4;rw [hk2] at h3;have hr:=run_endRound (P:=P) none h4;refine ⟨_,_,hr,rfl,hI _ _ _ hi3 ((Fr.putObj _ _ _).mono fun _ _ h => .inr h),?_,(World.putObj_heap_other (by omega)).trans h3⟩;refine (World.putObj_heap_same (aAe h4)).trans ?_;rw [hrec];rfl
   | ret=>exact hp.elim
   | exit id=>exact hp.elim
   | goto t=>exact hp.elim
   | panic ch=>exact hp.elim
   | outgrown=>exact hp.elim
  ·rintro e W2 ⟨⟨v,rfl⟩,hi,hl,hk⟩;refine ⟨none,_,by have:=run_endLoop (P:=P) hl (by rw [hrec];simp);rw [hrec] at this;exact this,hdone _ (hI _ _ _ hi ((Fr.putObj _ _ _).mono fun _ _ h => .inr h)) ((World.putObj_heap_other (by omega)).trans hk)⟩
theorem aLq {r:Nat}{rr:Loop}{g:Operand}{ps:Array Tmp}{assign body:Code}{gf:Nat}{lb:Array Value}{vs:List (Array Value)}{Kp:World->Prop}
  (hr0:w.heap[r]?=some (.loop rr)) (I:Nat->World->Prop) (A:Array Value->Act->Prop)
  (hg:a.eval g = .func (.func gf) #[] lb) (eg:∀ args w,(callFunc gf args).run P w = .ok (.enter gf args) w)
  (hY:aKb P gf lb vs Kp) (hps:∀ v∈vs,v.size=ps.size)
  (hI:∀ k W W',I k W->Fr (fun b=>b=w.heap.size) W W'->I k W') (hK:∀ k W,I k W->Kp W) (h0:I 0 w)
  (hassign:∀ (l:Nat) (v:Array Value) (W:World) (K:Act->World->Prop),v∈vs->(∀ a1,A v a1->K a1 W)->assign.wpIn (FR l) 0 P (Exit.then K (fun _ _ _=>False)) { tmps:=(ps.zip v).foldl (fun t (p,v)=>t.setIfInBounds p v) a.tmps,defers:=[] } W)
  (hbody:∀ (k:Nat) (v:Array Value) (a1:Act) (W:World),vs[k]?=some v->I k W->A v a1->w.heap.size+1<=W.heap.size ->
   body.wpIn (FR w.heap.size) 0 P (aS5 fun W'=>I (k+1) W' /\ W'.heap[w.heap.size]?=W.heap[w.heap.size]?) a1 W)
  (hdone:∀ W,I vs.length W->Q .normal a W) :
  (Code.rangeFunc g ps assign body).wpIn (FR r) 0 P Q a w:=by
 refine wpIn_rangeFunc ?_;intro fn hfn;obtain ⟨rec,hrec⟩:∃ rec:LoopState->Option Code->Loop,rec=fun st pe=>{ state:=st,pending:=pe,fn,tmps:=a.tmps,params:=ps,assign,body,defers:=rr.defers }:=⟨_,rfl⟩;obtain ⟨W1,hW1⟩:∃ W1,w.alloc (.loop (rec .ready none))=W1:=⟨_,rfl⟩
 have hL1:W1.heap[w.heap.size]?=some (.loop (rec .ready none)):=by
  rw [←hW1];exact aAj _ _
 have hf1:Fr nF_ w W1:=by rw [←hW1];exact (Fr.refl _ _).alloc _
 refine ⟨w.heap.size,[],W1,{ target := .fn (.func gf) lb,args:=#[.func (.yield w.heap.size) #[] #[]] },W1,gf,
  #[.func (.yield w.heap.size) #[] #[]]++lb,W1,?_,?_,fun _ _=>trivial,?_,fun h=>(by cases h),?_⟩
 ·rw [←hW1,hrec];exact run_enterLoop_inner hr0 _ _ _ _ _
 ·simp only [resolve,hg];simp [go_sem]
 ·simp [invoke,go_sem,eg]
 ·refine aEn ((hY w.heap.size (fun k W=>I k W /\ W.heap[w.heap.size]?=some (.loop (rec .ready none))) W1
   (fun k W W' h f=>⟨hI k W W' h.1 (f.mono fun _ _ h=>h.elim),f.obj h.2 id⟩) (fun k W h=>hK k W h.1) ?_ ⟨hI _ _ _ h0 (hf1.mono fun _ _ h=>h.elim),hL1⟩).mono ?_)
  ·rintro k v W ⟨hi,hl⟩ hv;have hvm:v∈vs:=Ge_ hv;have hlt:=aAe hl;have hy:=run_yield (P:=P) (args:=v) hl (by rw [hrec];exact hps v hvm);rw [hrec] at hy;refine ⟨0,fn,_,assign,body,hy,roundIn_of_wpIn (F:=Fence.wide) trivial (hassign _ v W _ hvm ?_)⟩;clear hy;intro a1 hA;refine ⟨_,run_beginRound hl (by rw [hrec]),?_⟩;have f2:=Fr.putObj W w.heap.size (.loop { rec .ready none with state := .busy });have hl2:(W.putObj w.heap.size (.loop { rec .ready none with state := .busy })).heap[w.heap.size]?=some (.loop { rec .ready none with state := .busy }):=World.putObj_heap_same hlt;have hs2:w.heap.size+1<=(W.putObj w.heap.size (.loop { rec .ready none with state := .busy })).heap.size:=by simp;omega
   refine wpIn_mono (hbody k v a1 _ hv (hI _ _ _ hi f2) hA hs2) ?_;rintro e a3 W3 hp
   cases e with
   | normal =>
    obtain ⟨hi3,h4⟩:=hp;rw [hl2] at h4;have hr:=run_endRound (P:=P) none h4;refine ⟨_,_,hr,rfl,hI _ _ _ hi3 (Fr.putObj _ _ _),?_⟩;refine (World.putObj_heap_same (aAe h4)).trans ?_;rw [hrec];rfl
   | ret=>exact hp.elim
   | exit id=>exact hp.elim
   | goto t=>exact hp.elim
   | panic ch=>exact hp.elim
   | outgrown=>exact hp.elim
  ·rintro e W2 ⟨⟨v,rfl⟩,hi,hl⟩;refine ⟨none,_,by have:=run_endLoop (P:=P) hl (by rw [hrec];simp);rw [hrec] at this;exact this,?_⟩;exact hdone _ (hI _ _ _ hi (Fr.putObj _ _ _))
section
variable {O:Array Oper}{rest:List Oper}{o:Oper}{n d m:Nat}{L:List (Nat×Value)}{v:Value}{w':World}{ds:List Deferred}
theorem aJH {l:Nat}{x y:Operand}{ts:Array TypeId}{v:Value}{R:World->Prop}(E:EnvD ds n L a) (hd:o.dst=some d) (hn:d<n) (hf:(L.map (·.1)).contains d=false) (hw:Region.wanted o (yielded O a.tmps)=true) (ho:o.op = .call ⟨.value y,#[x],ts⟩) (hy:a.eval y = .func (.yield l) #[] #[]) (hx:a.eval x=v) (hR:aLm P l #[v] w R)
  (k:∀ a' w',R w'->EnvD ds n ((d,.bool true)::L) a'->wpListIn Fence.wide m P O Q rest a' w'):wpListIn Fence.wide m P O Q (o::rest) a w:=by
 obtain ⟨m',fn,tmps,as9,bd,hrun,hF,hround⟩:=hR;simp only [wpListIn,hw,if_true];refine ⟨fun _ _=>trivial,?_⟩;show Oper.uponIn _ _ _ _ _ _ _ ((execOp a.eval o).run P w);rw [aLz ho hy hx hrun];refine ⟨fun h=>(by cases h),trivial,fun c cs _=>?_⟩;obtain ⟨e2,w2,⟨h1,h2⟩,h3⟩:=hround c cs (room_wide _);subst h1;refine ⟨.returned (.bool true),w2,?_,h3⟩;show wpListIn Fence.wide m P O Q rest (a.put o.dst _) w2;rw [hd];exact k _ _ h2 (E.put hn hf)
end
end Go.Pl
namespace Go.Proofs.YtngjlnhojicjeaaGreatDoor
open Go.RowKit Go.Pl
section
variable {o:Oper}{w:World}{ρ:Operand->Value}{x y z u:Operand}{g off N cap i j:Nat}{p:Option Addr}
theorem aMU (ho:o.op = .slice 159 x (some y) none none) (hx:ρ x = .slice (some ⟨g,off,none⟩) N cap) (hy:ρ y = .int .i64 (i:Int)) (hi:i<N) (hc:N<=cap):(execOp ρ o).run Tryz.prog w = .ok (.value (.slice (some ⟨g,off+i,none⟩) (N-i) (cap-i))) w:=by
 have h1:(i:Int)<=N:=by omega
 have h2:(N:Int)<=cap:=by omega
 have h3:cap≠i:=by omega
 simp [execOp,ho,hx,hy,go_sem,h1,h2,h3,Addr.add]
theorem aMT {a b c:Int}(ho:o.op = .slice 159 x (some y) (some z) (some u)) (hx:ρ x = .slice (some ⟨g,off,none⟩) N cap) (hy:ρ y = .int .i64 a) (hz:ρ z = .int .i64 b) (hu:ρ u = .int .i64 c) (ea:a=(i:Int)) (eb:b=(j:Int)) (ec:c=(j:Int)) (hi:i<j) (hc:j<=cap):(execOp ρ o).run Tryz.prog w = .ok (.value (.slice (some ⟨g,off+i,none⟩) (j-i) (j-i))) w:=by
 subst ea eb ec;have h1:(i:Int)<=j:=by omega
 have h2:(j:Int)<=cap:=by omega
 have h3:j≠i:=by omega
 simp [execOp,ho,hx,hy,hz,hu,go_sem,h1,h2,h3,Addr.add]
end
def chV (g off N n k:Nat):Value := .slice (some ⟨g,off+k*n,none⟩) (min n (N-k*n)) (min n (N-k*n))
def chs (g off N n:Nat):List (Array Value):=(List.range ((N+n-1) / n)).map fun k=>#[chV g off N n k]
theorem aI7 {N n k:Nat}(hn:1<=n):k<(N+n-1) / n↔k*n<N:=by
 rw [Nat.lt_div_iff_mul_lt (by omega)];omega
theorem aRX {g off N n k:Nat}(hn:1<=n) (h:k*n<N):(chs g off N n)[k]?=some #[chV g off N n k]:=by
 unfold chs;rw [Gq_,List.getElem?_range ((aI7 hn).2 h)];rfl
theorem aT5 {g off N n k:Nat}(hn:1<=n) (hk:k<=(N+n-1) / n) (h:¬ k*n<N):k=(chs g off N n).length:=by
 unfold chs;rw [Go_,List.length_range];rw [←aI7 hn] at h;omega
theorem aH2 {g off N n:Nat}(hn:1<=n) {v:Array Value}(h:v∈chs g off N n):∃ k,k*n<N /\ v=#[chV g off N n k]:=by
 unfold chs at h;obtain ⟨k,hk,rfl⟩:=List.mem_map.1 h;exact ⟨k,(aI7 hn).1 (List.mem_range.1 hk),rfl⟩
theorem aRW {g off N n k:Nat}(hn:1<=n) {v:Array Value}(h:(chs g off N n)[k]?=some v):k*n<N /\ v=#[chV g off N n k]:=by
 have hk:=(List.getElem?_eq_some_iff.1 h).1;unfold chs at hk;rw [Go_,List.length_range] at hk;have h2:=(aI7 hn).1 hk;rw [aRX hn h2] at h;exact ⟨h2,(Gh_ h).symm⟩
set_option maxRecDepth 100000 in
set_option maxHeartbeats 4000000 in
theorem aEm {g off N cap n c1 c2:Nat}(hn:1<=n) (hcap:N<=cap) (hN:N<=10000000) (hn2:n<=10000000):aKb Tryz.prog 235 #[.pointer (some ⟨c1,0,none⟩),.pointer (some ⟨c2,0,none⟩)] (chs g off N n) (fun W=>W.heap[c1]?=some (.cells #[.slice (some ⟨g,off,none⟩) N cap] 159 (0,0)) /\ W.heap[c2]?=some (.cells #[.int .i64 (n:Int)] 3 (0,0))):=by
 intro l J w hJF hKp hround hJ;obtain ⟨hc1,hc2⟩:=hKp _ _ hJ;refine aDc Tryz.func235 rfl rfl (n:=31) (by decide) fun a E=>s_ (r_ (ep (v := .int .i64 0) E rfl (a_ rfl rfl) fun a E=>n_ (t_ (bk_ (wp_loop (fun a w2=>∃ (k:Nat),Env 31 [(0,.func (.yield l) #[] #[]),(1,.pointer (some ⟨c1,0,none⟩)),(2,.pointer (some ⟨c2,0,none⟩)),(4,.int .i64 ((k*n:Nat):Int))] a /\ k<=(N+n-1) / n /\ J k w2 /\ w2.heap[c1]?=some (.cells #[.slice (some ⟨g,off,none⟩) N cap] 159 (0,0)) /\ w2.heap[c2]?=some (.cells #[.int .i64 (n:Int)] 3 (0,0))) (fun a _=>N-(intOf (a.eval (.tmp 4))).toNat) ?_ ?_)))))
 ·exact ⟨0,E.of ⟨E.g1,E.g2,E.g3,by rw [Nat.zero_mul];exact E.g0,trivial⟩,Gg_ _,hJ,hc1,hc2⟩
 clear E;rintro a w2 ⟨k,E,hk,hJ,hc1,hc2⟩;have hmu:N-(intOf (a.eval (.tmp 4))).toNat=N-k*n:=by rw [E.g3];first | (simp [intOf];done) | (simp only [intOf];omega)
 rw [hmu];clear hmu;refine s_ (s_ (r_ (ep E rfl (m_ rfl E.g3) fun a E=>ep (v := .slice (some ⟨g,off,none⟩) N cap) E rfl (aAY rfl E.g2 (bx hc1 0 rfl)) fun a E=>ep (v := .int .i64 (N:Int)) E rfl (aBw rfl E.g0) fun a E=>ep (v := .bool (decide (((k*n:Nat):Int)<(N:Int)))) E rfl (aBj E.g2 E.g0 u3_ rfl) fun a E=>n_ (t_ ?_))));cases hq32:(decide (((k*n:Nat):Int)<(N:Int)))
 ·rw [hq32] at E;have hge:¬ k*n<N:=by have:=of_decide_eq_false hq32;omega
  refine c_f E.g0 (x_ (te_ (te_ (be_ ((aCa rfl E ⟨⟨_,rfl⟩,?_⟩).1)))));rw [←aT5 (g:=g) (off:=off) hn hk hge];exact hJ
 rw [hq32] at E;have hlt:k*n<N:=by have:=of_decide_eq_true hq32;omega
 refine c_t E.g0 (k_ (t_ (s_ (bk_ (s_ (aB9 (n:=31) (base:=[(9,.bool true),(8,.int .i64 (N:Int)),(7,.slice (some ⟨g,off,none⟩) N cap),(6,.int .i64 ((k*n:Nat):Int)),(0,.func (.yield l) #[] #[]),(1,.pointer (some ⟨c1,0,none⟩)),(2,.pointer (some ⟨c2,0,none⟩)),(4,.int .i64 ((k*n:Nat):Int))]) (T:=[some (13,.int .i64 (n:Int)),some (14,.slice (some ⟨g,off,none⟩) N cap),some (15,.int .i64 ((k*n:Nat):Int)),some (16,.slice (some ⟨g,off+k*n,none⟩) (N-k*n) (cap-k*n)),some (17,.int .i64 (((N-k*n):Nat):Int)),some (18,.int .i64 (min (n:Int) (((N-k*n):Nat):Int))),some (5,.int .i64 (min (n:Int) (((N-k*n):Nat):Int)))]) (M:=fun _ wm=>Fr nF_ w2 wm) (by kernel_rfl) (by kernel_rfl) (by kernel_rfl) (E.of ⟨E.g0,E.g1,E.g2,E.g3,E.g4,E.g5,E.g6,E.g7,trivial⟩) (Fr.refl _ _).drew ?_ ?_))))))
 ·intro j9 o9 t9 ls9 a w5 ho hT0 hl E D DL hM;have hJ:=hJF _ _ _ hJ hM;have hc1:=hM.obj hc1 id;have hc2:=hM.obj hc2 id
  match j9,ho,hT0,hl,D,DL with
  | 0,ho,hT0,hl,D,DL=>exact y9_ ho hT0 (aAd (aAn rfl E.g6 (bx hc2 0 rfl)) rfl hM)
  | 1,ho,hT0,hl,D,DL=>exact y9_ ho hT0 (aAd (aAY rfl E.g5 (bx hc1 0 rfl)) rfl hM)
  | 2,ho,hT0,hl,D,DL=>exact y9_ ho hT0 (aAd (m_ rfl E.g7) rfl hM)
  | 3,ho,hT0,hl,D,DL=>exact y9_ ho hT0 (aAd (aMU (i:=k*n) rfl (D 1 _ rfl rfl) (D 2 _ rfl rfl) hlt hcap) rfl hM)
  | 4,ho,hT0,hl,D,DL=>exact y9_ ho hT0 (aAd (aBw rfl (D 3 _ rfl rfl)) rfl hM)
  | 5,ho,hT0,hl,D,DL=>exact y9_ ho hT0 (aAd (aJd rfl (D 0 _ rfl rfl) (D 4 _ rfl rfl)) rfl hM)
  | 6,ho,hT0,hl,D,DL=>exact y9_ ho hT0 (aAd (a_ rfl (D 5 _ rfl rfl)) rfl hM)
  | j9+7,ho,hT0,hl,D,DL=>exact absurd hT0 (by simp)
 ·intro a w5 E V hM;have E:=E.add (V 6 _ rfl);clear V;have hJ:=hJF _ _ _ hJ hM;have hc1:=hM.obj hc1 id;have hc2:=hM.obj hc2 id;clear hM;refine t_ (s_ ?_);rw [show (min (n:Int) (((N-k*n):Nat):Int))=((min n (N-k*n):Nat):Int) by omega] at E;have hb4:k*n+min n (N-k*n)<=N:=by omega
  refine aJI (aBD (d:=19) (v := .func (.yield l) #[] #[]) E rfl (by decide) rfl (aAb rfl _) (m_ rfl E.g5) fun a E=>aBD (d:=20) (v := .slice (some ⟨g,off,none⟩) N cap) E rfl (by decide) rfl (aAb rfl _) (aAY rfl E.g7 (bx hc1 0 rfl)) fun a E=>aBD (d:=21) (v := .int .i64 ((k*n:Nat):Int)) E rfl (by decide) rfl (aAb rfl _) (m_ rfl E.g10) fun a E=>aBD (d:=22) (v := .int .i64 ((k*n:Nat):Int)) E rfl (by decide) rfl (aAb rfl _) (m_ rfl E.g11) fun a E=>aBD (d:=23) (v := .int .i64 ((min n (N-k*n):Nat):Int)) E rfl (by decide) rfl (aAb rfl _) (m_ rfl E.g4) fun a E=>aBD (d:=24) (v := .int .i64 (((k*n:Nat):Int)+((min n (N-k*n):Nat):Int))) E rfl (by decide) rfl (aAb rfl _) (aAJ u3_ E.g1 E.g0 (by omega) (by omega) rfl) fun a E=>aBD (d:=25) (v := .int .i64 ((k*n:Nat):Int)) E rfl (by decide) rfl (aAb rfl _) (m_ rfl (E.get 14 rfl)) fun a E=>aBD (d:=26) (v := .int .i64 ((min n (N-k*n):Nat):Int)) E rfl (by decide) rfl (aAb rfl _) (m_ rfl E.g7) fun a E=>aBD (d:=27) (v := .int .i64 (((k*n:Nat):Int)+((min n (N-k*n):Nat):Int))) E rfl (by decide) rfl (aAb rfl _) (aAJ u3_ E.g1 E.g0 (by omega) (by omega) rfl) fun a E=>?_);have hj:k*n+(min n (N-k*n))-k*n=min n (N-k*n):=by omega
  refine aBD (d:=28) (v:=chV g off N n k) E rfl (by decide) rfl (aAb rfl _) ((aMT (i:=k*n) (j:=k*n+(min n (N-k*n))) rfl E.g7 E.g6 E.g3 E.g0 rfl (by omega) (by omega) (by omega) (by omega)).trans (by rw [hj];rfl)) fun a E=>aJH (d:=29) E rfl (by decide) rfl (aAb rfl _) rfl E.g9 E.g0 (hround k _ _ hJ (aRX hn hlt)) fun a w1 hJ E=>?_;obtain ⟨hc1,hc2⟩:=hKp _ _ hJ;refine aBD (d:=30) (v := .bool false) E rfl (by decide) rfl (aAb rfl _) (aBI rfl E.g0) fun a E=>aQV (t_ (c_f E.g0 (k_ (b_ (t_ (r_ (ep (v := .int .i64 ((k*n:Nat):Int)) E rfl (m_ rfl (E.get 20 rfl)) fun a E=>ep (v := .int .i64 (n:Int)) E rfl (aAn rfl (E.get 20 rfl) (bx hc2 0 rfl)) fun a E=>ep (v := .int .i64 (((k*n:Nat):Int)+(n:Int))) E rfl (aAJ u3_ E.g1 E.g0 (by omega) (by omega) rfl) fun a E=>es_ E rfl (a_ rfl E.g0) fun a E=>n_ (t_ ?_))))))));rw [show (((k*n:Nat):Int)+(n:Int))=(((k+1)*n:Nat):Int) by rw [Nat.succ_mul];omega] at E;refine ⟨⟨k+1,E.of ⟨E.get 21 rfl,E.get 22 rfl,E.get 23 rfl,E.g0,trivial⟩,(aI7 hn).2 hlt,hJ,hc1,hc2⟩,?_⟩;rw [E.g0];simp only [intOf];have:(k+1)*n=k*n+n:=(by rw [Nat.add_mul,Nat.one_mul]);omega
end Go.Proofs.YtngjlnhojicjeaaGreatDoor
namespace Go.Proofs
open Go.Shelf
def Tryz.sortN_ren:Go.Shelf.Ren:=⟨fun | 6=>194 | 15=>152 | 14=>233 | 28=>210 | 29=>211 | 20=>259 | 21=>260 | 22=>261 | 23=>262 | 24=>263 | 25=>264 | 26=>265 | 27=>266 | 46=>277 | 47=>237 | 48=>238 | 49=>278 | 50=>279 | 57=>291 | n=>n,fun | 22=>159 | 24=>157 | 25=>286 | 3=>3 | 39=>139 | 0=>0 | 53=>301 | 55=>164 | 4=>4 | 46=>294 | 45=>293 | 50=>77 | 5=>5 | 9=>9 | 66=>334 | 70=>338 | 76=>375 | 77=>376 | n=>n,fun | n=>n⟩
theorem Tryz.sortN:Go.Proofs.SlLaysF.n6 Tryz.prog Tryz.sortN_ren:={
  mixed:=by kernel_rfl
  f6:=⟨Tryz.f194.name,by decide,Tryz.func194.trans (congrArg some (by kernel_rfl))⟩
  f14:=⟨Tryz.f233.name,by decide,Tryz.func233.trans (congrArg some (by kernel_rfl))⟩
  f15:=Tryz.func152.trans (congrArg some (by kernel_rfl))
  f20:=⟨Tryz.f259.name,by decide,Tryz.func259.trans (congrArg some (by kernel_rfl))⟩
  f21:=⟨Tryz.f260.name,by decide,Tryz.func260.trans (congrArg some (by kernel_rfl))⟩
  f22:=⟨Tryz.f261.name,by decide,Tryz.func261.trans (congrArg some (by kernel_rfl))⟩
  f23:=⟨Tryz.f262.name,by decide,Tryz.func262.trans (congrArg some (by kernel_rfl))⟩
  f24:=⟨Tryz.f263.name,by decide,Tryz.func263.trans (congrArg some (by kernel_rfl))⟩
  f25:=⟨Tryz.f264.name,by decide,Tryz.func264.trans (congrArg some (by kernel_rfl))⟩
  f26:=⟨Tryz.f265.name,by decide,Tryz.func265.trans (congrArg some (by kernel_rfl))⟩
  f27:=⟨Tryz.f266.name,by decide,Tryz.func266.trans (congrArg some (by kernel_rfl))⟩
  f28:=Tryz.func210.trans (congrArg some (by kernel_rfl))
  f29:=Tryz.func211.trans (congrArg some (by kernel_rfl))
  f46:=⟨Tryz.f277.name,by decide,Tryz.func277.trans (congrArg some (by kernel_rfl))⟩
  f47:=Tryz.func237.trans (congrArg some (by kernel_rfl))
  f48:=Tryz.func238.trans (congrArg some (by kernel_rfl))
  f49:=⟨Tryz.f278.name,by decide,Tryz.func278.trans (congrArg some (by kernel_rfl))⟩
  f50:=⟨Tryz.f279.name,by decide,Tryz.func279.trans (congrArg some (by kernel_rfl))⟩
  f57:=⟨Tryz.f291.name,by decide,Tryz.func291.trans (congrArg some (by kernel_rfl))⟩
  t0:=Tryz.underlying0
  a0:=Tryz.isAgg0
  z0:=Tryz.sizeOf0
  v0:=Tryz.zeroValue0
  t3:=Tryz.underlying3
  a3:=Tryz.isAgg3
  z3:=Tryz.sizeOf3
  v3:=Tryz.zeroValue3
  t4:=Tryz.underlying4
  a4:=Tryz.isAgg4
  z4:=Tryz.sizeOf4
  v4:=Tryz.zeroValue4
  t5:=Tryz.underlying5
  a5:=Tryz.isAgg5
  z5:=Tryz.sizeOf5
  v5:=Tryz.zeroValue5
  t9:=Tryz.underlying9
  a9:=Tryz.isAgg9
  z9:=Tryz.sizeOf9
  v9:=Tryz.zeroValue9
  t22:=Tryz.underlying159
  a22:=Tryz.isAgg159
  z22:=Tryz.sizeOf159
  v22:=Tryz.zeroValue159
  a24:=Tryz.isAgg157
  z24:=Tryz.sizeOf157
  t25:=Tryz.underlying286
  a25:=Tryz.isAgg286
  z25:=Tryz.sizeOf286
  v25:=Tryz.zeroValue286
  t39:=Tryz.underlying139
  a39:=Tryz.isAgg139
  z39:=Tryz.sizeOf139
  v39:=Tryz.zeroValue139
  t45:=Tryz.underlying293
  a45:=Tryz.isAgg293
  z45:=Tryz.sizeOf293
  v45:=Tryz.zeroValue293
  t46:=Tryz.underlying294
  a46:=Tryz.isAgg294
  z46:=Tryz.sizeOf294
  v46:=Tryz.zeroValue294
  t50:=Tryz.underlying77
  a50:=Tryz.isAgg77
  z50:=Tryz.sizeOf77
  v50:=Tryz.zeroValue77
  t53:=Tryz.underlying301
  a53:=Tryz.isAgg301
  z53:=Tryz.sizeOf301
  v53:=Tryz.zeroValue301
  t55:=Tryz.underlying164
  a55:=Tryz.isAgg164
  z55:=Tryz.sizeOf164
  v55:=Tryz.zeroValue164
  t66:=Tryz.underlying334
  a66:=Tryz.isAgg334
  z66:=Tryz.sizeOf334
  v66:=Tryz.zeroValue334
  t70:=Tryz.underlying338
  a70:=Tryz.isAgg338
  z70:=Tryz.sizeOf338
  v70:=Tryz.zeroValue338
  t76:=Tryz.underlying375
  a76:=Tryz.isAgg375
  z76:=Tryz.sizeOf375
  v76:=Tryz.zeroValue375
  t77:=Tryz.underlying376
  a77:=Tryz.isAgg376
  z77:=Tryz.sizeOf376
  v77:=Tryz.zeroValue376 }
end Go.Proofs
namespace Go.Proofs.YtngjlnhojicjeaaGreatDoor
open Go.RowKit Go.Pl Go.Sort Go.Shelf
abbrev Nd:=Nat×Bx×List En
abbrev ndV (c:Nd):Value := .pointer (some ⟨c.1,0,none⟩)
abbrev aST (c:Nd):List Value:=[ndV c]
theorem aE1:∀ c,(aST c).length=1:=fun _=>rfl
abbrev oNd (w:World) (B:Nat) (v:Value) (L:List Nd):Prop:=ow aST 1 157 w B v L
def aCS (w:World) (S:Nat->Prop) (h:Nat) (C:List Nd):Prop:=∀ c∈C,aHD w S h c.1 c.2.1 c.2.2
theorem aCS.fr {w w':World}{S F:Nat->Prop}{h:Nat}{C:List Nd}(hN:aCS w S h C) (hf:Fr F w w') (hS:∀ k,S k->¬ F k):aCS w' S h C:=fun c hc=>(hN c hc).fr hf hS
theorem aCS.mono {w:World}{S S':Nat->Prop}{h:Nat}{C:List Nd}(hN:aCS w S h C) (hS:∀ k,S k->S' k):aCS w S' h C:=fun c hc=>(hN c hc).mono hS
theorem aCS.perm {w:World}{S:Nat->Prop}{h:Nat}{C D:List Nd}(hN:aCS w S h C) (hp:D.Perm C):aCS w S h D:=fun c hc=>hN c (hp.mem_iff.1 hc)
theorem aCS.sub {w:World}{S:Nat->Prop}{h:Nat}{C D:List Nd}(hN:aCS w S h C) (hp:∀ c∈D,c∈C):aCS w S h D:=fun c hc=>hN c (hp c hc)
theorem aHD.nb {w:World}{S:Nat->Prop}:∀ {n p b L},aHD w S n p b L->nb w p b:=by
 intro n
 cases n with
 | zero =>
  rintro p b L ⟨_,id,h,_⟩ j u hu;rw [aAk h,Nat.zero_add]
  match j,hu with
  | 0,hu=>exact hu
  | 1,hu=>exact hu
  | 2,hu=>exact hu
  | 3,hu=>exact hu
  | j+4,hu=>simp at hu
 | succ n =>
  rintro p b L ⟨_,g,off,cap,C,h,_⟩ j u hu;rw [aAk h,Nat.zero_add]
  match j,hu with
  | 0,hu=>exact hu
  | 1,hu=>exact hu
  | 2,hu=>exact hu
  | 3,hu=>exact hu
  | j+4,hu=>simp at hu
def aFX (cur:Array Value) (m:Nat) (L:List Nd):Prop:=∀ (j:Nat) c,L[j]?=some c->cur[m+j]?=some (ndV c)
section
variable {α:Type}[Inhabited α]
theorem aMD (enc:α->Value) {w:World}{g:Nat}{cur:Array Value}{T:TypeId}(hb:w.heap[g]?=some (.cells cur T (0,0))) (off m:Nat) (dk:Array α) (os:Array Obj) :
  (sortWorld enc w g off m dk os).heap[g]?=some (.cells (putCells enc off dk cur) T (0,0)) /\ Fr (fun k=>k=g) w (sortWorld enc w g off m dk os):=by
 have hlt:=aAe hb
 have hsize:(mapBlock (Sort.ahead w m) g (putCells enc off dk)).heap.size=w.heap.size:=by
  unfold mapBlock Sort.ahead;simp
 constructor
 ·unfold sortWorld putRow grow;simp only;rw [Array.getElem?_append_left (by rw [hsize];exact hlt)];unfold mapBlock;simp only [Array.getElem?_modify,if_true];show Option.map _ w.heap[g]?=_;rw [hb];rfl
 ·unfold sortWorld putRow grow;refine ⟨rfl,rfl,rfl,?_,fun r hr hne=>?_⟩
  ·simp only [Array.size_append];rw [hsize];omega
  ·simp only;rw [Array.getElem?_append_left (by rw [hsize];exact hr)];unfold mapBlock;simp only [Array.getElem?_modify];rw [if_neg (fun e=>hne e.symm)];rfl
end
theorem aSG (x y:Int):orI x y<0↔x<0∨(x=0 /\ y<0):=by unfold orI;split<;>omega
theorem aI6 (x y:Int):aBW x y<0↔x<y:=by unfold aBW;split<;>(try split)<;>omega
theorem aO8 (x y:Int):aBW x y=0↔x=y:=by unfold aBW;split<;>(try split)<;>omega
theorem aOH (x y:Bx):cfB x y<0↔x.1.2+x.2.2<y.1.2+y.2.2:=aI6 _ _
theorem aT6 (x y:Bx):cfA x y<0↔x.1.1+x.2.1<y.1.1+y.2.1∨x.1.1+x.2.1=y.1.1+y.2.1 /\ x.1.2+x.2.2<y.1.2+y.2.2:=by
 unfold cfA;rw [aSG,aI6,aO8,aOH]
theorem aYs {α:Type}(k:α->Bx):SWO (ltOf fun x y=>cfA (k x) (k y)) :=
 aRt (fun x=>(k x).1.1+(k x).2.1) (fun x=>(k x).1.2+(k x).2.2) fun x y=>by unfold ltOf;rw [decide_eq_true_iff,aT6]
theorem aYr {α:Type}(k:α->Bx):SWO (ltOf fun x y=>cfB (k x) (k y)) :=
 aRt (fun x=>(k x).1.2+(k x).2.2) (fun _=>0) fun x y=>by unfold ltOf;rw [decide_eq_true_iff,aOH];omega
def aVW (w:World) (g off:Nat) (cur:Array Value) (D:List Nd) (e:Ending) (w':World):Prop :=
 e = .returned (.tuple #[]) /\ ∃ D' cur',D'.Perm D /\ w'.heap[g]?=some (.cells cur' 157 (0,0)) /\ cur'.size=cur.size /\ aFX cur' off D' /\ (∀ i,i<off∨off+D.length<=i->cur'[i]?=cur[i]?) /\ Fr (fun k=>k=g) w w'
theorem aFu {F:Nat}(cf:Bx->Bx->Int) (eg:∀ args w,(callFunc F args).run Tryz.prog w = .ok (.enter F args) w) (hO:∀ (α:Type) (k:α->Bx),SWO (ltOf fun x y=>cf (k x) (k y)))
  (hcmp:∀ {p q:Nat}{x y:Bx}{w:World},nb w p x->nb w q y->okB x->okB y->Calls Tryz.prog F #[.pointer (some ⟨p,0,none⟩),.pointer (some ⟨q,0,none⟩)] w fun e w'=>e = .returned (.int .i64 (cf x y)) /\ Gw w w')
  {w:World}{g off cap:Nat}{cur:Array Value}{D:List Nd}(hne:D≠[]) (hb:w.heap[g]?=some (.cells cur 157 (0,0))) (hd:aFX cur off D) (hD:∀ c∈D,nb w c.1 c.2.1 /\ okB c.2.1 /\ c.1≠g) (hl:D.length<=10000000) :
  Calls Tryz.prog 194 #[.slice (some ⟨g,off,none⟩) D.length cap,.func (.func F) #[] #[]] w (aVW w g off cur D):=by
 let α:={ c:Nd // nb w c.1 c.2.1 /\ okB c.2.1 /\ c.1≠g }
 have i0:Inhabited α:=⟨⟨D.head hne,hD _ (List.head_mem hne)⟩⟩
 let d:List α:=D.attach.map fun x=>⟨x.1,hD x.1 x.2⟩
 have hdl:d.length=D.length:=by simp [d]
 have hdm:d.map (·.1)=D:=by simp [d,List.map_attach_eq_pmap,List.map_pmap]
 have hget:∀ j,j<D.length->D[j]?=some (d.toArray[j]!).1:=by
  intro j hj;rw [←hdm,Gq_];have h1:j<d.length:=by omega
  rw [Gb_ h1,getElem!_pos d.toArray j (by simpa using h1)];simp
 have hsz:d.toArray.size=D.length:=by simpa using hdl
 have:=Any.slices_SortFunc Tryz.sortN (fun c:α=>ndV c.1) (fun _=>rfl) (fun x y=>cf x.1.2.1 y.1.2.1) (hO α fun x=>x.1.2.1) F #[] g off cap d.toArray w eg
  (fun m os dk hs x y=>by
   have hf:=(aMD (fun c:α=>ndV c.1) hb off m dk os).2;exact (hcmp (x.2.1.fr hf x.2.2.2) (y.2.1.fr hf y.2.2.2) x.2.2.1 y.2.2.1).mono fun e w' h=>⟨h.1,h.2⟩)
  (fun j hj=>by
   rw [hsz] at hj;refine ⟨?_,aAm hb _⟩;rw [aAk hb,hd j _ (hget j hj)])
  (aAe hb) (by rw [hsz];omega)
 rw [hsz] at this;refine Calls.mono this ?_;rintro e w' ⟨he,d',m,os,hp,_,rfl⟩;rw [←hsz] at hp;have hp':=aQg hp;obtain ⟨h1,h2⟩:=aMD (fun c:α=>ndV c.1) hb off m d' os;have hd's:d'.size=D.length:=hp.1.trans hsz;refine ⟨he,d'.toList.map (·.1),_,?_,h1,?_,?_,?_,h2⟩
 ·have:=hp'.map (fun x:α=>x.1);simpa [hdm] using this
 ·unfold putCells;simp
 ·intro j c hc;rw [Gq_] at hc
  have hj:j<d'.size:=by
   cases hx:d'.toList[j]? with
   | none=>rw [hx] at hc;cases hc
   | some x=>simpa using (List.getElem?_eq_some_iff.1 hx).1
  have hjD:j<D.length:=by omega
  have hin:off+j<cur.size:=by
   have:=hd j _ (hget j hjD);exact (Array.getElem?_eq_some_iff.1 this).1
  unfold putCells;rw [Array.getElem?_mapIdx,Array.getElem?_eq_getElem hin];simp only [Option.map_some];rw [if_pos ⟨by omega,by omega⟩,show off+j-off=j by omega,getElem!_pos d' j hj];rw [Array.getElem?_toList,Array.getElem?_eq_getElem hj] at hc;simp only [Option.map_some,Gk_] at hc;rw [hc]
 ·intro i hi;unfold putCells;rw [Array.getElem?_mapIdx]
  cases cur[i]? with
  | none=>rfl
  | some y =>
   simp only [Option.map_some];rw [if_neg (by omega)]
theorem aIY {w:World}{g off cap:Nat}{cur:Array Value}{D:List Nd}(hne:D≠[]) (hb:w.heap[g]?=some (.cells cur 157 (0,0))) (hd:aFX cur off D) (hD:∀ c∈D,nb w c.1 c.2.1 /\ okB c.2.1 /\ c.1≠g) (hl:D.length<=10000000) :
  Calls Tryz.prog 194 #[.slice (some ⟨g,off,none⟩) D.length cap,.func (.func 195) #[] #[]] w (aVW w g off cur D) :=
 aFu cfA (enters_of Tryz.func195 (by kernel_rfl) rfl) (fun _ k=>aYs k) aMl hne hb hd hD hl
theorem aIX {w:World}{g off cap:Nat}{cur:Array Value}{D:List Nd}(hne:D≠[]) (hb:w.heap[g]?=some (.cells cur 157 (0,0))) (hd:aFX cur off D) (hD:∀ c∈D,nb w c.1 c.2.1 /\ okB c.2.1 /\ c.1≠g) (hl:D.length<=10000000) :
  Calls Tryz.prog 194 #[.slice (some ⟨g,off,none⟩) D.length cap,.func (.func 198) #[] #[]] w (aVW w g off cur D) :=
 aFu cfB (enters_of Tryz.func198 (by kernel_rfl) rfl) (fun _ k=>aYr k) aMk hne hb hd hD hl
theorem aVs:(Tryz.prog.info? 157).map (fun i=>(i.zero,i.size,i.bytes))=some (some (.pointer none),1,8):=by kernel_rfl
section
variable {O:Array Oper}{Q:Exit->Act->World->Prop}{rest:List Oper}{o:Oper}{a:Act}{w:World}{n d:Nat}{L:List (Nat×Value)}{x y:Operand}{ds:List Deferred}{ρ:Operand->Value}
theorem aNf (ho:o.op = .buildSlice 159 0 #[]):(execOp ρ o).run Tryz.prog w = .ok (.value (.slice (some ⟨w.heap.size,0,none⟩) 0 0)) (w.alloc (.cells #[] 157)):=by
 simp [execOp,ho,go_sem]
theorem aMY {c:Nd}(ho:o.op = .buildSlice 159 1 #[(0,x)]) (hx:ρ x=ndV c):(execOp ρ o).run Tryz.prog w = .ok (.value (.slice (some ⟨w.heap.size,0,none⟩) 1 1)) (w.alloc (.cells #[ndV c] 157)):=by
 simp [execOp,ho,hx,go_sem]
theorem aFO {B G:Nat}{v:Value}{A S:List Nd}{p:Option Addr}{cap:Nat}(En:EnvD ds n L a) (hd:o.dst=some d) (hn:d<n) (hfr:(L.map (·.1)).contains d=false) (hg:o.guard=none) (ho:o.op = .call { callee := .builtin .append,args:=#[x,y],argTypes:=#[159,159] }) (hx:a.eval x=v) (hv:oNd w B v A) (hy:a.eval y = .slice p S.length cap) (hsrc:aBd aST 1 w G p S) (hcp:p=none->cap=0) (hl:A.length+S.length<=400000000) (hB:B<=w.heap.size)
  (k:∀ a' w' v',oNd w' B v' (A++S)->Fr (fun k=>v.ownBlock=some k) w w'->(v'.ownBlock=v.ownBlock∨v'.ownBlock=some w.heap.size)->EnvD ds n ((d,v')::L) a'->wpList Tryz.prog O Q rest a' w'):wpList Tryz.prog O Q (o::rest) a w:=by
 obtain ⟨i0,hi0,hz0,hz1,hz2⟩:=aE3 aVs;exact aKX aE1 (by omega) (fun s u hu=>by simp at hu;subst hu;rfl) u159_ hi0 hz0 hz1 hz2 rfl (by decide) En hd hn hfr hg ho hx hv hy hsrc hcp hl hB k
theorem aOx {B:Nat}(En:EnvD ds n L a) (hd:o.dst=some d) (hn:d<n) (hf:(L.map (·.1)).contains d=false) (hw:Region.wanted o (yielded O a.tmps)=true) (ho:o.op = .buildSlice 159 0 #[]) (hB:B<=w.heap.size)
  (k:∀ a' w' b,w.heap.size=b->oNd w' B (.slice (some ⟨b,0,none⟩) 0 0) []->Fr nF_ w w'->EnvD ds n ((d,.slice (some ⟨b,0,none⟩) 0 0)::L) a'->wpList Tryz.prog O Q rest a' w'):wpList Tryz.prog O Q (o::rest) a w :=
 aB4 En hd hn hf hw (aNf ho) fun a' E'=>k a' _ _ rfl (aQi w hB) ((Fr.refl _ _).alloc _) E'
theorem aMJ {b G:Nat}{c:Nd}(hb:w.heap[b]?=some (.cells #[ndV c] 157 (0,0))) (hG:b<G):aBd aST 1 w G (some ⟨b,0,none⟩) [c]:=aCq hb hG
theorem aIw {c:Nd}(En:EnvD ds n L a) (hd:o.dst=some d) (hn:d<n) (hf:(L.map (·.1)).contains d=false) (hw:Region.wanted o (yielded O a.tmps)=true) (ho:o.op = .buildSlice 159 1 #[(0,x)]) (hx:a.eval x=ndV c)
  (k:∀ a' w' b,aBd aST 1 w' w'.heap.size (some ⟨b,0,none⟩) [c]->Fr nF_ w w'->EnvD ds n ((d,.slice (some ⟨b,0,none⟩) 1 1)::L) a'->wpList Tryz.prog O Q rest a' w'):wpList Tryz.prog O Q (o::rest) a w :=
 aB4 En hd hn hf hw (aMY ho hx) fun a' E'=>k a' _ _ (aMJ (aAj _ _) (by simp)) ((Fr.refl _ _).alloc _) E'
end
def aYd (w:World) (g off N cap n:Nat) (e:Ending) (w':World):Prop :=
 ∃ c1 c2,e = .returned (.func (.func 235) #[] #[.pointer (some ⟨c1,0,none⟩),.pointer (some ⟨c2,0,none⟩)]) /\ w'.heap[c1]?=some (.cells #[.slice (some ⟨g,off,none⟩) N cap] 159 (0,0)) /\ w'.heap[c2]?=some (.cells #[.int .i64 (n:Int)] 3 (0,0)) /\ Fr nF_ w w' /\ w.heap.size<=c1 /\ w.heap.size<=c2
theorem aFU (g off N cap n:Nat) (w:World) (hn:1<=n):Calls Tryz.prog 197 #[.slice (some ⟨g,off,none⟩) N cap,.int .i64 (n:Int)] w (aYd w g off N cap n):=by
 have hfin:Hid (aYd w g off N cap n (.returned (.func (.func 235) #[] #[.pointer (some ⟨w.heap.size,0,none⟩),.pointer (some ⟨w.heap.size+1,0,none⟩)])) ((w.alloc (.cells #[.slice (some ⟨g,off,none⟩) N cap] 159)).alloc (.cells #[.int .i64 (n:Int)] 3))) :=
  ⟨_,_,rfl,(aCw (by simp) _).trans (aAj _ _),aC3 (by simp) _,((Fr.refl _ _).alloc _).alloc _,Gj_ _,by simp⟩
 have t1:decide ((n:Int)<1)=false:=decide_eq_false (by omega);clear hn
 go_enter Tryz.func197,Tryz.ntmps197
 go_wp2
 go_ret
 exact hfin.out
set_option maxRecDepth 100000 in
set_option maxHeartbeats 4000000 in
theorem aJQ {w:World}{G cap:Nat}{ad:Addr}{S:List Nd}(hs:aBd aST 1 w G (some ad) S) (hl:S.length<=1000000):Calls Tryz.prog 199 #[.slice (some ad) S.length cap] w fun e w'=>∃ v',e = .returned v' /\ oNd w' w.heap.size v' S /\ Fr nF_ w w':=by
 refine aBQ Tryz.func199 rfl rfl (n:=8) (by decide) fun a E=>?_;have hf:Fr nF_ w w:=Fr.refl _ _;refine s_ (r_ (ep (v := .slice none 0 0) E rfl (a_ rfl rfl) fun a E=>n_ (t_ (s_ (s_ (r_ (ep E rfl (m_ rfl E.g1) fun a E=>ep (v := .bool false) E rfl (aHX rfl E.g0 rfl) fun a E=>n_ (t_ (c_f E.g0 (k_ (t_ (s_ (r_ (aOx (B:=w.heap.size) (d:=5) E rfl (by decide) rfl (aAb rfl _) rfl hf.size fun a w1 b1 eb1 hO f1 E=>?_))))))))))))));have hs:=hs.fr f1 (fun _ _ h=>h);have hf:=hf.trans f1;clear f1;refine ep E rfl (m_ rfl E.g4) fun a E=>aFO (B:=w.heap.size) (d:=7) E rfl (by decide) rfl rfl rfl E.g1 hO E.g0 hs (fun h=>by cases h) (by simp;omega) hf.size fun a w1 v2 hO2 f1 hloc E=>?_;have hf:=hf.trans' f1 (fun r hr e=>by have:=(hO.lt e).1;omega);refine es_ E rfl (a_ rfl E.g0) fun a E=>n_ (t_ (wr_ (aAr (t:=2) rfl E E.g0 ⟨_,rfl,hO2,hf⟩)))
end Go.Proofs.YtngjlnhojicjeaaGreatDoor
namespace Go.Pl
open Go.RowKit
variable {P:Program}{w w':World}{ds:List Deferred}
end Go.Pl
namespace Go.Proofs.YtngjlnhojicjeaaGreatDoor
open Go.RowKit Go.Pl
abbrev aC8 (C:List Nd):List En:=C.flatMap (·.2.2)
theorem aIh {w:World}{B:Nat}{v:Value}{C:List Nd}(h:oNd w B v C) (hne:C≠[]):∃ g cap cur,v = .slice (some ⟨g,0,none⟩) C.length cap /\ w.heap[g]?=some (.cells cur 157 (0,0)) /\ C.length<=cap /\ aFX cur 0 C /\ B<=g:=by
 rcases h.2 with ⟨h1,h2⟩ | ⟨g,cap,cur,h1,hB,h3,h4,h5,h6,h7⟩
 ·exact absurd (List.eq_nil_of_length_eq_zero h2) hne
 ·refine ⟨g,cap,cur,h1,h3,h4,fun j c hc=>?_,hB⟩;have hi:=(List.getElem?_eq_some_iff.1 hc).1;have:=aBM aE1 C j c hc 0 (by omega);rw [←h7] at this;simp only [Nat.mul_one,Nat.add_zero] at this;rw [List.getElem?_take_of_lt hi,Array.getElem?_toList] at this;rw [Nat.zero_add];exact this
theorem aK9 {w:World}{B cap:Nat}{p:Option Addr}{C:List Nd}{N:Nat}(hl:C.length=N) (h:oNd w B (.slice p N cap) C) (hne:0<N):∃ g cur,p=some ⟨g,0,none⟩ /\ w.heap[g]?=some (.cells cur 157 (0,0)) /\ C.length<=cap /\ aFX cur 0 C /\ B<=g:=by
 obtain ⟨g,cap2,cur,h1,h2,h3,h4,h5⟩:=aIh h (by rintro rfl;simp at hl;omega);simp only [Value.slice.injEq] at h1;obtain ⟨rfl,_,rfl⟩:=h1;exact ⟨g,cur,rfl,h2,h3,h4,h5⟩
theorem aVN {a b:Bx}(ha:okB a) (hb:okB b):okB (arB a b):=by
 obtain ⟨⟨⟨x1,x2⟩,x3,x4⟩,⟨⟨x5,x6⟩,x7,x8⟩,x9,x10⟩:=ha;obtain ⟨⟨⟨y1,y2⟩,y3,y4⟩,⟨⟨y5,y6⟩,y7,y8⟩,y9,y10⟩:=hb;unfold arB;refine ⟨⟨⟨?_,?_⟩,?_,?_⟩,⟨⟨?_,?_⟩,?_,?_⟩,?_,?_⟩<;>simp only<;>omega
theorem aTP {x a b:Bx}(h:aGd x a):aGd x (arB a b):=by unfold aGd arB at *;simp only;omega
theorem aTO {x a b:Bx}(h:aGd x b):aGd x (arB a b):=by unfold aGd arB at *;simp only;omega
def aGl (b:Bx) (L:List Nd):Bx:=L.foldl (fun b c=>arB b c.2.1) b
theorem aPe (b:Bx) (L:List Nd) (c:Nd):aGl b (L++[c])=arB (aGl b L) c.2.1:=by simp [aGl]
theorem aPd {b:Bx}{L:List Nd}{i:Nat}{c:Nd}(h:L[i]?=some c):aGl b (L.take (i+1))=arB (aGl b (L.take i)) c.2.1:=by
 rw [List.take_add_one,h];exact aPe _ _ _
theorem aPf:∀ (L:List Nd) (b:Bx),okB b->(∀ c∈L,okB c.2.1)->okB (aGl b L)
 | [],b,hb,_=>hb
 | c::L,b,hb,h=>aPf L _ (aVN hb (h c (by simp))) fun d hd=>h d (by simp [hd])
theorem aLk:∀ (L:List Nd) (b x:Bx),aGd x b->aGd x (aGl b L)
 | [],b,x,h=>h
 | c::L,b,x,h=>aLk L _ x (aTP h)
theorem aPg:∀ (L:List Nd) (b x:Bx),(∃ c∈L,aGd x c.2.1)->aGd x (aGl b L)
 | [],b,x,⟨c,hc,_⟩=>by cases hc
 | c::L,b,x,⟨d,hd,hx⟩=>by
  rcases List.mem_cons.1 hd with rfl | hd
  ·exact aLk L _ x (aTO hx)
  ·exact aPg L _ x ⟨d,hd,hx⟩
theorem aQv {W:World}{S:Nat->Prop}{h u a cap:Nat}{b:Bx}{F:List Nd}(hF:F≠[]) (h8:F.length<=8) (hu:W.heap[u]?=some (.cells #[.int .i64 b.1.1,.int .i64 b.1.2,.int .i64 b.2.1,.int .i64 b.2.2,.string ByteArray.empty,.slice (some ⟨a,0,none⟩) F.length cap] 161 (0,0))) (hSu:S u) (hSa:S a)
  (hcl:∀ (i:Nat) c,F[i]?=some c->W.cell? ⟨a,0+i,none⟩=some (ndV c)) (hN:aCS W S h F) (hok:okB b) (hin:∀ c∈F,aGd c.2.1 b):aHD W S (h+1) u b (aC8 F):=by
 refine ⟨⟨hSu,hok⟩,a,0,cap,F,hu,hSa,hF,h8,fun i c hc=>⟨hcl i c hc,hN c (Ge_ hc)⟩,rfl,fun x hx=>?_⟩;obtain ⟨c,hc,hxc⟩:=List.mem_flatMap.1 hx;have h1:=(hN c hc).in_ x hxc;have h2:=hin c hc;unfold aGd at *;omega
structure OutI (wr:World) (g nx c1 c2 N cap s h:Nat) (S:Nat->Prop) (D:List Nd) (k:Nat) (W:World) (S1:Nat->Prop) (N1:List Nd) (nv:Value) (cur1:Array Value):Prop where
 hb:W.heap[g]?=some (.cells cur1 157 (0,0))
 hd:∀ (j:Nat) c,D[j]?=some c->k*s<=j->cur1[j]?=some (ndV c)
 hx:W.heap[nx]?=some (.cells #[nv] 159 (0,0))
 hO:oNd W (wr.heap.size+2) nv N1
 k1:W.heap[c1]?=some (.cells #[.slice (some ⟨g,0,none⟩) N cap] 159 (0,0))
 k2:W.heap[c2]?=some (.cells #[.int .i64 (s:Int)] 3 (0,0))
 hN:aCS W S h D
 hN1:aCS W S1 (h+1) N1
 hS1:∀ b,S1 b->S b∨wr.heap.size+2<=b
 hSl:∀ b,S1 b->b<W.heap.size /\ nv.ownBlock≠some b
 hP:(aC8 N1).Perm (aC8 (D.take (k*s)))
 hc:N1.length<=min (k*s) N /\ (1<=k->N1.length+1<=min (k*s) N)
 hf:Fr (fun b=>b=g∨b=nx) wr W
structure Low (wr:World) (g nx c1 c2:Nat) (S:Nat->Prop):Prop where
 lg:g<wr.heap.size
 lx:nx<wr.heap.size
 l1:c1<wr.heap.size
 l2:c2<wr.heap.size
 lS:∀ b,S b->b<wr.heap.size /\ b≠g /\ b≠nx
 gx:g≠nx
 gc1:c1≠g /\ c1≠nx
 gc2:c2≠g /\ c2≠nx
section
variable {wr wk W W':World}{g nx c1 c2 c3 c4 N cap s h k li e N0:Nat}{S S1:Nat->Prop}{D E N1:List Nd}{nv:Value}{cur1:Array Value}
theorem OutI.fr (H:OutI wr g nx c1 c2 N cap s h S D k W S1 N1 nv cur1) (lo:Low wr g nx c1 c2 S) (f:Fr (fun b=>b=wr.heap.size∨b=wr.heap.size+1) W W'):OutI wr g nx c1 c2 N cap s h S D k W' S1 N1 nv cur1:=by
 have:=lo.lg;have:=lo.lx;have:=lo.l1;have:=lo.l2
 exact ⟨f.obj H.hb (by omega),H.hd,f.obj H.hx (by omega),H.hO.fr f (fun b hb e=>by have:=(H.hO.lt hb).1;omega),f.obj H.k1 (by omega),f.obj H.k2 (by omega),
  H.hN.fr f (fun b hb e=>by have:=(lo.lS b hb).1;omega),H.hN1.fr f (fun b hb e=>by
   rcases H.hS1 b hb with h | h
   ·have:=(lo.lS b h).1;omega
   ·omega),H.hS1,fun b hb=>⟨Nat.lt_of_lt_of_le (H.hSl b hb).1 f.size,(H.hSl b hb).2⟩,H.hP,H.hc,H.hf.trans' f (fun r hr e=>by omega)⟩
structure InI (wr wk:World) (li g nx c1 c2 c3 c4 N cap s k e h N0:Nat) (S:Nat->Prop) (D E:List Nd) (cur2:Array Value) (j:Nat) (W:World) (S1:Nat->Prop) (N1:List Nd) (nv:Value):Prop where
 hb:W.heap[g]?=some (.cells cur2 157 (0,0))
 hx:W.heap[nx]?=some (.cells #[nv] 159 (0,0))
 hO:oNd W (wr.heap.size+2) nv N1
 hOl:nv.ownBlock≠some li
 k1:W.heap[c1]?=some (.cells #[.slice (some ⟨g,0,none⟩) N cap] 159 (0,0))
 k2:W.heap[c2]?=some (.cells #[.int .i64 (s:Int)] 3 (0,0))
 k3:W.heap[c3]?=some (.cells #[.slice (some ⟨g,0+k*s,none⟩) e e] 159 (0,0))
 k4:W.heap[c4]?=some (.cells #[.int .i64 ((8:Nat):Int)] 3 (0,0))
 hN:aCS W S h D
 hN1:aCS W S1 (h+1) N1
 hS1:∀ b,S1 b->S b∨wr.heap.size+2<=b
 hSl:∀ b,S1 b->b<W.heap.size /\ nv.ownBlock≠some b /\ b≠li
 hP:(aC8 N1).Perm (aC8 (D.take (k*s))++aC8 (E.take (j*8)))
 hc:N1.length=N0+j
 hf:Fr (fun b=>b=g∨b=nx∨wr.heap.size+2<=b) wk W
theorem InI.fr {cur2:Array Value}{j:Nat}(H:InI wr wk li g nx c1 c2 c3 c4 N cap s k e h N0 S D E cur2 j W S1 N1 nv) (lo:Low wr g nx c1 c2 S) (hw:wr.heap.size+2<=wk.heap.size) (hli:wk.heap.size<=li) (h3:c3≠li) (h4:c4≠li) (f:Fr (fun b=>b=li) W W'):InI wr wk li g nx c1 c2 c3 c4 N cap s k e h N0 S D E cur2 j W' S1 N1 nv:=by
 have:=lo.lg;have:=lo.lx;have:=lo.l1;have:=lo.l2
 exact ⟨f.obj H.hb (by omega),f.obj H.hx (by omega),H.hO.fr f (fun b hb e=>H.hOl (by rw [←e];exact hb)),H.hOl,f.obj H.k1 (by omega),f.obj H.k2 (by omega),f.obj H.k3 h3,f.obj H.k4 h4,
  H.hN.fr f (fun b hb e=>by have:=(lo.lS b hb).1;omega),H.hN1.fr f (fun b hb e=>(H.hSl b hb).2.2 e),H.hS1,fun b hb=>⟨Nat.lt_of_lt_of_le (H.hSl b hb).1 f.size,(H.hSl b hb).2⟩,H.hP,H.hc,H.hf.trans' f (fun r hr e=>by omega)⟩
end
abbrev ndC (b:Bx) (v:Value):Array Value:=#[.int .i64 b.1.1,.int .i64 b.1.2,.int .i64 b.2.1,.int .i64 b.2.2,.string ByteArray.empty,v]
abbrev ndB (w:World) (u:Nat) (b:Bx) (v:Value):Prop:=w.heap[u]?=some (.cells (ndC b v) 161 (0,0))
section
variable {o:Oper}{w:World}{ρ:Operand->Value}{x y:Operand}{u off g n c:Nat}{b t:Bx}{v:Value}{p:Option Addr}
theorem aNF {B:Nat}{L:List Nd}(h:oNd w B v L):∃ p n c,v = .slice p n c:=by
 obtain ⟨p,c,h,_⟩:=h.src aE1;exact ⟨p,_,c,h⟩
theorem aJh (hv:∃ p n c,v = .slice p n c) (ho:o.op = .build 161 #[(0,x),(2,y)]) (hx:ρ x = .agg (bxC b)) (hy:ρ y=v):(execOp ρ o).run Tryz.prog w = .ok (.value (.agg (ndC b v))) w:=by
 obtain ⟨p,n,c,rfl⟩:=hv;simp [execOp,ho,hx,hy,go_sem];rfl
theorem aNk (ho:o.op = .box 161 x) (hx:ρ x = .agg (ndC b v)):(execOp ρ o).run Tryz.prog w = .ok (.value (.pointer (some ⟨w.heap.size,0,none⟩))) (w.alloc (.cells (ndC b v) 161)):=by
 simp [execOp,ho,hx,go_sem]
theorem ndB.set (h:ndB w u b v) (t:Bx):ndB ((((w.setCell ⟨u,0,none⟩ (.int .i64 t.1.1)).setCell ⟨u,1,none⟩ (.int .i64 t.1.2)).setCell ⟨u,2,none⟩ (.int .i64 t.2.1)).setCell ⟨u,3,none⟩ (.int .i64 t.2.2)) u t v:=by
 have h1:=aAi (off:=0) h (.int .i64 t.1.1);have h2:=aAi (off:=1) h1 (.int .i64 t.1.2);have h3:=aAi (off:=2) h2 (.int .i64 t.2.1);have h4:=aAi (off:=3) h3 (.int .i64 t.2.2);exact h4
theorem aMS (ho:o.op = .store 97 x y) (hx:ρ x = .pointer (some ⟨u,0,none⟩)) (hy:ρ y = .agg (bxC t)) (h:ndB w u b v) :
  (execOp ρ o).run Tryz.prog w = .ok .skip ((((w.setCell ⟨u,0,none⟩ (.int .i64 t.1.1)).setCell ⟨u,1,none⟩ (.int .i64 t.1.2)).setCell ⟨u,2,none⟩ (.int .i64 t.2.1)).setCell ⟨u,3,none⟩ (.int .i64 t.2.2)):=by
 have c0:w.cell? ⟨u,0,none⟩=some (.int .i64 b.1.1):=bx h 0 rfl;have c1:w.cell? ⟨u,1,none⟩=some (.int .i64 b.1.2):=bx h 1 rfl;have c2:w.cell? ⟨u,2,none⟩=some (.int .i64 b.2.1):=bx h 2 rfl;have c3:w.cell? ⟨u,3,none⟩=some (.int .i64 b.2.2):=bx h 3 rfl;have z0:=aAm h 0;have z1:=aAm h 1;have z2:=aAm h 2;have z3:=aAm h 3;simp [execOp,ho,hx,hy,go_sem,c0,c1,c2,c3,z0,z1,z2,z3]
theorem aJi (ho:o.op = .alloc 159):(execOp ρ o).run Tryz.prog w = .ok (.value (.pointer (some ⟨w.heap.size,0,none⟩))) (w.alloc (.cells #[.slice none 0 0] 159)):=by
 simp [execOp,ho,go_sem]
theorem aPF {u0:Value}(hv:v = .slice p n c) (ho:o.op = .store 159 x y) (hx:ρ x = .pointer (some ⟨g,off,none⟩)) (hy:ρ y=v) (hc:w.cell? ⟨g,off,none⟩=some u0) (hz:w.frozen? ⟨g,off,none⟩=false):(execOp ρ o).run Tryz.prog w = .ok .skip (w.setCell ⟨g,off,none⟩ v):=by
 subst hv;simp [execOp,ho,hx,hy,go_sem,hc,hz]
end
section
variable {O:Array Oper}{Q:Exit->Act->World->Prop}{rest:List Oper}{o:Oper}{a:Act}{w:World}{n d:Nat}{L:List (Nat×Value)}{x y:Operand}{ds:List Deferred}
theorem aJE (E:EnvD ds n L a) (hd:o.dst=some d) (hn:d<n) (hf:(L.map (·.1)).contains d=false) (hw:Region.wanted o (yielded O a.tmps)=true) (ho:o.op = .alloc 159)
  (k:∀ a' w' b,w.heap.size=b->w'.heap[b]?=some (.cells #[.slice none 0 0] 159 (0,0))->Fr nF_ w w'->EnvD ds n ((d,.pointer (some ⟨b,0,none⟩))::L) a'->wpList Tryz.prog O Q rest a' w'):wpList Tryz.prog O Q (o::rest) a w :=
 aB4 E hd hn hf hw (aJi ho) fun a' E'=>k a' _ _ rfl (aAj _ _) ((Fr.refl _ _).alloc _) E'
end
def aVY (w:World) (S0:Nat->Prop) (v0:Value) (C0:List Nd) (e:Ending) (w':World):Prop :=
 ∃ rv,e = .returned rv /\ Fr (fun k=>v0.ownBlock=some k) w w' /\ ((rv = .pointer none /\ aC8 C0=[])∨∃ S n p b L,rv = .pointer (some ⟨p,0,none⟩) /\ aHD w' S n p b L /\ L.Perm (aC8 C0) /\ ∀ k,S k->k<w'.heap.size /\ (S0 k∨w.heap.size<=k))
theorem aRx {R:World->Prop}{a:Act}{W:World}(h:R W):aS5 R .normal a W:=h
theorem aOB {g off N n:Nat}(hn:1<=n):(chs g off N n).length=(N+n-1) / n:=by simp [chs]
theorem aOC {N n:Nat}(hn:1<=n):N<=(N+n-1) / n*n:=by
 have h1:=Nat.div_add_mod (N+n-1) n;have h2:=Nat.mod_lt (N+n-1) (show 0<n by omega);rw [Nat.mul_comm] at h1;omega
theorem aT4 {N n:Nat}(hn:1<=n) (hN:1<=N):1<=(N+n-1) / n:=by
 rw [Nat.le_div_iff_mul_le (by omega)];omega
section
variable {wr wk W wi2 wu w2 w1 w3:World}{g nx c1 c2 c3 c4 N cap s h k li e N0 j u:Nat}{S S1 S2 S3:Nat->Prop}{C D E E0 E1 N1 N2 F0:List Nd}{nv nw va v9:Value}{cur2 cr:Array Value}{b0:Bx}
theorem aQl (hDl:D.length=N) (H:OutI wr g nx c1 c2 N cap s h S D k wk S1 N1 nv cr) (J:InI wr wk li g nx c1 c2 c3 c4 N cap s k E0.length h N1.length S D E1 cur2 ((E0.length+8-1) / 8) W S2 N2 nw) (hks:k*s<N) (hE0:E0=(D.drop (k*s)).take s) (hE0l:E0.length=min s (N-k*s)) (hE1:E1.Perm E0)
  (hout:∀ i,i<0+k*s∨0+k*s+E0.length<=i->cur2[i]?=cr[i]?) (hs8:8<=s) (hlt1:1<N):OutI wr g nx c1 c2 N cap s h S D (k+1) W S2 N2 nw cur2:=by
 have hk1:(k+1)*s=k*s+s:=by rw [Nat.add_mul,Nat.one_mul]
 refine ⟨J.hb,fun j c hj hjk=>?_,J.hx,J.hO,J.k1,J.k2,J.hN,J.hN1,J.hS1,fun b hb=>⟨(J.hSl b hb).1,(J.hSl b hb).2.1⟩,?_,?_,H.hf.trans' J.hf (fun r hr e=>?_)⟩
 ·rw [hout j (.inr (by omega))];exact H.hd j c hj (by omega)
 ·rw [hk1,List.take_add];have h1:E1.take ((E0.length+8-1) / 8*8)=E1:=Gc_ (by rw [hE1.length_eq];exact aOC (by omega));have h2:=J.hP;rw [h1] at h2;rw [←hE0];refine h2.trans ?_;show (aC8 (D.take (k*s))++aC8 E1).Perm (List.flatMap _ (D.take (k*s)++E0));rw [List.flatMap_append];exact (List.Perm.refl _).append (hE1.flatMap_right _)
 ·have h1:=H.hc;have h2:=J.hc;rw [hk1];have h3:k=0∨1<=k:=by omega
  rcases h3 with rfl | h3
  ·simp only [Nat.zero_mul,Nat.zero_add] at *;omega
  ·have h4:=h1.2 h3;omega
 ·rcases e with e | e | e
  ·exact .inl e
  ·exact .inr e
  ·omega
theorem aSE (lo:Low wr g nx c1 c2 S) (J:InI wr wk li g nx c1 c2 c3 c4 N cap s k e h N0 S D E cur2 j W S2 N2 nw) (hwk:wr.heap.size+2<=wk.heap.size):W.heap[wr.heap.size]?=wk.heap[wr.heap.size]? /\ W.heap[wr.heap.size+1]?=wk.heap[wr.heap.size+1]?:=by
 have:=lo.lg;have:=lo.lx;exact ⟨J.hf.blk _ (by omega) (by omega),J.hf.blk _ (by omega) (by omega)⟩
theorem aVw (lo:Low wr g nx c1 c2 S) (hwk2:wr.heap.size+2<=wk.heap.size) (hwki:wk.heap.size<=li) (hwj:li+1<=wi2.heap.size) (hul:wi2.heap.size<=u) (fu:Fr nF_ wi2 wu) (hF:Fr (fun b=>b=u) wu w2) (f3:Fr nF_ w2 w1) (f4:Fr (fun k=>nw.ownBlock=some k) w1 w3) (v9:Value) :
  Fr (fun b=>b=nx∨nw.ownBlock=some b) w2 (w3.setCell ⟨nx,0,none⟩ v9) /\ Fr (fun b=>b=u∨b=nx∨nw.ownBlock=some b) wu (w3.setCell ⟨nx,0,none⟩ v9) /\ Fr (fun b=>b=nx∨nw.ownBlock=some b) wi2 (w3.setCell ⟨nx,0,none⟩ v9):=by
 have h1:Fr (fun b=>b=nx∨nw.ownBlock=some b) w2 (w3.setCell ⟨nx,0,none⟩ v9):=((f3.mono fun _ _ h=>h.elim).trans' f4 (fun _ _ e => .inr e)).setCell (p:=⟨nx,0,none⟩) (fun _ => .inl rfl) v9;have h2:Fr (fun b=>b=u∨b=nx∨nw.ownBlock=some b) wu (w3.setCell ⟨nx,0,none⟩ v9):=(hF.mono fun _ _ e => .inl e).trans' h1 (fun _ _ e => .inr e);refine ⟨h1,h2,(fu.mono fun _ _ h=>h.elim).trans' h2 fun r hr e=>?_⟩;rcases e with e | e
 ·omega
 ·exact e
theorem aVu (lo:Low wr g nx c1 c2 S) (hwk2:wr.heap.size+2<=wk.heap.size) (hwki:wk.heap.size<=li) (hwj:li+1<=wi2.heap.size) (hul:wi2.heap.size<=u) (J:InI wr wk li g nx c1 c2 c3 c4 N cap s k e h N0 S D E cur2 j wi2 S2 N2 nw) (fu:Fr nF_ wi2 wu) (hF:Fr (fun b=>b=u) wu w2) (f3:Fr nF_ w2 w1) (f4:Fr (fun k=>nw.ownBlock=some k) w1 w3) (v9:Value) :
  (w3.setCell ⟨nx,0,none⟩ v9).heap[li]?=wi2.heap[li]?:=by
 obtain ⟨_,_,hT⟩:=aVw lo hwk2 hwki hwj hul fu hF f3 f4 v9;have:=lo.lx;exact hT.blk li (by omega) (fun e=>by rcases e with e | e;omega;exact J.hOl e)
theorem aTo (lo:Low wr g nx c1 c2 S) (hwk2:wr.heap.size+2<=wk.heap.size) (hwki:wk.heap.size<=li) (hwj:li+1<=wi2.heap.size) (hul:wi2.heap.size<=u) (hau:va.ownBlock≠some u) (J:InI wr wk li g nx c1 c2 c3 c4 N cap s k e h N0 S D E1 cur2 j wi2 S2 N2 nw)
  (hF0:F0=(E1.drop (j*8)).take 8) (hFne:F0≠[]) (hok0:okB b0) (hOa:oNd wu wi2.heap.size va F0) (hNF:aCS wu S h F0) (hu:ndB w2 u (aGl b0 F0) va) (fu:Fr nF_ wi2 wu) (hF:Fr (fun b=>b=u) wu w2) (f3:Fr nF_ w2 w1) (f4:Fr (fun k=>nw.ownBlock=some k) w1 w3)
  (hO9:oNd w3 (wr.heap.size+2) v9 (N2++[(u,aGl b0 F0,aC8 F0)])) (hloc:v9.ownBlock=nw.ownBlock∨v9.ownBlock=some w1.heap.size) (hx9:w3.heap[nx]?=some (.cells #[nw] 159 (0,0))) (hS3:S3=fun b=>S2 b∨b=u∨va.ownBlock=some b∨S b) :
  InI wr wk li g nx c1 c2 c3 c4 N cap s k e h N0 S D E1 cur2 (j+1) (w3.setCell ⟨nx,0,none⟩ v9) S3 (N2++[(u,aGl b0 F0,aC8 F0)]) v9:=by
 obtain ⟨h2,hu2,hT⟩:=aVw lo hwk2 hwki hwj hul fu hF f3 f4 v9;have z2:=hF.size;have z3:=f3.size;have z4:=h2.size;have hlg:=lo.lg;have hlx:=lo.lx;have hl1:=lo.l1;have hl2:=lo.l2;have hgx:=lo.gx;have own:∀ b,nw.ownBlock=some b->wr.heap.size+2<=b /\ b<wi2.heap.size:=fun b hb=>J.hO.lt hb;have hul2:u<w2.heap.size:=aAe hu;have h8:F0.length<=8:=by rw [hF0,Gp_];omega
 have hk1:(j+1)*8=j*8+8:=by omega
 obtain ⟨a,ca,cur,hva,hba,hca,hcl,hal⟩:=aIh hOa hFne;have hau2:a≠u:=fun e=>hau (by rw [hva,e];rfl);have hSS3:∀ b,S b->S3 b:=fun b hb=>by rw [hS3];exact .inr (.inr (.inr hb))
 have hSb:∀ b,S b->¬ (b=u∨b=nx∨nw.ownBlock=some b):=fun b hb e=>by
  have h9:=lo.lS b hb;rcases e with e | e | e
  ·omega
  ·exact h9.2.2 e
  ·have:=(own b e).1;omega
 refine ⟨hT.obj J.hb ?_,aAi (off:=0) hx9 v9,hO9.fr ((Fr.refl (fun b=>b=nx) w3).setCell (p:=⟨nx,0,none⟩) (fun _=>rfl) v9) (fun b hb e=>by have:=(hO9.lt hb).1;omega),?_,hT.obj J.k1 ?_,hT.obj J.k2 ?_,hT.obj J.k3 ?_,hT.obj J.k4 ?_,
  J.hN.fr hT (fun b hb e=>hSb b hb (.inr e)),?_,?_,?_,?_,?_,J.hf.trans' hT ?_⟩
 ·rintro (e | e)
  ·exact hgx e
  ·have:=(own _ e).1;omega
 ·rcases hloc with e | e
  ·rw [e];exact J.hOl
  ·rw [e];intro e2;have:=Gh_ e2;omega
 ·rintro (e | e)
  ·exact lo.gc1.2 e
  ·have:=(own _ e).1;omega
 ·rintro (e | e)
  ·exact lo.gc2.2 e
  ·have:=(own _ e).1;omega
 ·rintro (q | q)
  ·have h9:=J.k3;rw [q,J.hx] at h9;simp only [Gk_,Obj.cells.injEq] at h9;have h10:=h9.1;have h11:nw = .slice (some ⟨g,0+k*s,none⟩) e e:=by simpa using h10
   have:=(own g (by rw [h11];rfl)).1;omega
  ·exact aAX (by decide) J.hO J.k3 q
 ·rintro (e | e)
  ·have h9:=J.k4;rw [e,J.hx] at h9;simp at h9
  ·exact aAX (by decide) J.hO J.k4 e
 ·intro c hc;rcases List.mem_append.1 hc with hc | hc
  ·refine ((J.hN1 c hc).fr hT (fun b hb e=>?_)).mono (fun b hb=>by rw [hS3];exact .inl hb);rcases e with e | e
   ·rcases J.hS1 b hb with h9 | h9
    ·exact (lo.lS b h9).2.2 e
    ·omega
   ·exact (J.hSl b hb).2.1 e
  ·simp only [Gd_] at hc;subst hc;refine aQv (a:=a) (cap:=ca) hFne h8 ?_ (by rw [hS3];exact .inr (.inl rfl)) (by rw [hS3];exact .inr (.inr (.inl (by rw [hva];rfl)))) (fun i c hc=>?_) ((hNF.fr hu2 hSb).mono hSS3) (aPf _ _ hok0 fun c hc=>(hNF c hc).ok) (fun c hc=>aPg _ _ _ ⟨c,hc,by unfold aGd;omega⟩)
   ·have h9:=h2.obj hu (fun e=>by rcases e with e | e;omega;have:=(own _ e).2;omega);rw [hva] at h9;exact h9
   ·have h9:=hu2.obj hba (fun e=>by rcases e with e | e | e;exact hau2 e;omega;have:=(own _ e).2;omega);rw [aAk h9];exact hcl i c hc
 ·intro b hb;rw [hS3] at hb;rcases hb with hb | hb | hb | hb
  ·exact J.hS1 b hb
  ·right;omega
  ·right;have:=(hOa.lt hb).1;omega
  ·exact .inl hb
 ·intro b hb;rw [hS3] at hb;rcases hb with hb | hb | hb | hb
  ·have h9:=J.hSl b hb;refine ⟨by have:=hT.size;omega,?_,h9.2.2⟩;rcases hloc with e | e
   ·rw [e];exact h9.2.1
   ·rw [e];intro e2;have:=Gh_ e2;omega
  ·refine ⟨by omega,?_,by omega⟩;rcases hloc with e | e
   ·rw [e];intro e2;have:=(own _ e2).2;omega
   ·rw [e];intro e2;have:=Gh_ e2;omega
  ·have h9:=hOa.lt hb;refine ⟨by omega,?_,by omega⟩;rcases hloc with e | e
   ·rw [e];intro e2;have:=(own _ e2).2;omega
   ·rw [e];intro e2;have:=Gh_ e2;omega
  ·have h9:=lo.lS b hb;refine ⟨by have:=hT.size;omega,?_,by omega⟩;intro e2;have:=(hO9.lt e2).1;omega
 ·rw [hk1,List.take_add,←hF0];show (List.flatMap _ (N2++[(u,aGl b0 F0,aC8 F0)])).Perm (aC8 (D.take (k*s))++List.flatMap _ (E1.take (j*8)++F0));rw [List.flatMap_append,List.flatMap_append,←Gl_];refine J.hP.append ?_;simp
 ·rw [Gi_,J.hc];simp;omega
 ·intro r hr e;rcases e with e | e
  ·exact .inr (.inl e)
  ·exact .inr (.inr (own _ e).1)
end
set_option maxRecDepth 100000 in
set_option maxHeartbeats 4000000 in
theorem aLK {w:World}{S0:Nat->Prop}{B h0:Nat}{v0:Value}{C0:List Nd}(hO:oNd w B v0 C0) (hN:aCS w S0 h0 C0) (hS:∀ k,S0 k->k<w.heap.size /\ v0.ownBlock≠some k) (hl:C0.length<=100000):Calls Tryz.prog 150 #[v0] w (aVY w S0 v0 C0):=by
 obtain ⟨p0,cap0,hv0,_,_,_,_⟩:=hO.src aE1;refine aLo Tryz.func150 rfl rfl (n:=73) (by decide) fun a E=>?_;rw [hv0] at E;refine s_ (r_ (ep (v:=(Value.pointer none)) E rfl (a_ rfl rfl) fun a E=>n_ (t_ (s_ (bk_ (wp_loop (fun a w2=>∃ (p:Option Addr) (cap:Nat) (C:List Nd) (h:Nat) (S:Nat->Prop) (ds:List Deferred),EnvD ds 73 [(0,.slice (p) C.length cap),(2,Value.pointer none)] a /\ oNd w2 0 (.slice p C.length cap) C /\ aCS w2 S h C /\ (∀ k,S k->k<w2.heap.size /\ (Value.slice p C.length cap).ownBlock≠some k /\ ¬ aBx ds k) /\ (∀ k,S k->S0 k∨w.heap.size<=k) /\ aCT w2 ds /\ (∀ k,aBx ds k->w.heap.size<=k) /\ (aC8 C).Perm (aC8 C0) /\ C.length<=100000 /\ Fr (fun k=>v0.ownBlock=some k) w w2 /\ (∀ k,(Value.slice p C.length cap).ownBlock=some k->v0.ownBlock=some k∨w.heap.size<=k)) (fun a _=>lenOf (a.eval (.tmp 0))) ?_ ?_))))))
 ·exact ⟨p0,cap0,C0,h0,S0,[],E.of ⟨E.g1,E.g0,trivial⟩,by rw [←hv0];exact hO.base (Gg_ _),hN,fun k hk=>⟨(hS k hk).1,by rw [←hv0];exact (hS k hk).2,fun h=>(by cases h)⟩,fun _ h => .inl h,aCT.nil _,fun _ h=>(by cases h),List.Perm.refl _,hl,Fr.refl _ _,fun k hk => .inl (by rw [hv0];exact hk)⟩
 clear E;rintro a w2 ⟨p,cap,C,h,S,ds,E,hO,hN,hS,hS0,hm,hmw,hP,hl,hT,hvb⟩;have hmu:lenOf (a.eval (.tmp 0))=C.length:=by rw [E.g0];first | rfl | (simp [intOf];done) | (simp only [intOf];omega)
 rw [hmu];clear hmu;refine s_ (s_ (r_ (ep E rfl (m_ rfl E.g0) fun a E=>ep (v := .int .i64 (C.length:Int)) E rfl (aBw rfl E.g0) fun a E=>ep (v := .bool (decide (1<(C.length:Int)))) E rfl (aCf E.g0 rfl u3_ rfl) fun a E=>n_ (t_ ?_))));cases hq32:(decide (1<(C.length:Int)))
 ·rw [hq32] at E;have hle1:¬ 1<C.length:=by have:=of_decide_eq_false hq32;omega
  refine c_f E.g0 (x_ (te_ (te_ (be_ (t_ (s_ (s_ (r_ (ep E rfl (m_ rfl E.g3) fun a E=>ep (v := .int .i64 (C.length:Int)) E rfl (aBw rfl E.g0) fun a E=>ep (v := .bool ((C.length:Int)==0)) E rfl (aK4 E.g0 rfl u3_ rfl) fun a E=>n_ (t_ ?_))))))))));cases hq33:((C.length:Int)==0)
  rotate_left
  ·rw [hq33] at E;have hz0:C=[]:=List.eq_nil_of_length_eq_zero (by have:=beq_iff_eq.1 hq33;omega);refine c_t E.g0 (s_ (r_ (es_ (v:=(Value.pointer none)) E rfl (a_ rfl rfl) fun a E=>n_ (t_ (wr_ (tr_ (aK6 (t:=2) rfl E E.g0 hm (fun w9 f9=>⟨_,rfl,hT.trans' f9 (fun r hr e=>by have:=hmw r e;omega),.inl ⟨rfl,by rw [hz0] at hP;exact List.perm_nil.1 hP.symm⟩⟩))))))))
  rw [hq33] at E
  have hlen1:C.length=1:=by
   have h9:¬ ((C.length:Int)=0):=fun e=>by rw [e] at hq33;simp at hq33
   omega
  have h0l:0<C.length:=by omega
  obtain ⟨g,cur,rfl,hb,hcap,hd,_⟩:=aK9 rfl hO (by omega);obtain ⟨ct,hct⟩:∃ ct,C[0]?=some ct:=⟨_,Gb_ h0l⟩;refine c_f E.g0 (k_ (t_ (s_ (r_ (ep E rfl (m_ rfl E.g6) fun a E=>ep (v := .pointer (some ⟨g,(0+0),none⟩)) E rfl (aCr (i:=0) rfl E.g0 rfl h0l) fun a E=>ep (v := .pointer (some ⟨ct.1,0,none⟩)) E rfl (aAN rfl E.g0 (bx hb (0+0) (hd 0 ct hct))) fun a E=>es_ E rfl (a_ rfl E.g0) fun a E=>n_ (t_ (wr_ ?_)))))));have hctm:=Ge_ hct
  have hCe:aC8 C=ct.2.2:=by
   obtain ⟨c9,rfl⟩:=List.length_eq_one_iff.1 hlen1;simp at hct;subst hct;simp [aC8]
  rw [hCe] at hP;exact aK6 (t:=2) rfl E E.g0 hm (fun w9 f9=>⟨_,rfl,hT.trans' f9 (fun r hr e=>by have:=hmw r e;omega),.inr ⟨S,h,ct.1,ct.2.1,ct.2.2,rfl,(hN ct hctm).fr f9 (fun b hb9 e=>(hS b hb9).2.2 e),hP,fun b hb9=>⟨Nat.lt_of_lt_of_le (hS b hb9).1 f9.size,hS0 b hb9⟩⟩⟩)
 rw [hq32] at E;have hlt1:1<C.length:=by have:=of_decide_eq_true hq32;omega
 obtain ⟨g,cur,rfl,hb,hcap,hd,_⟩:=aK9 rfl hO (by omega);have hCne:C≠[]:=by rintro rfl;simp at hlt1
 refine c_t E.g0 (k_ (t_ (bk_ (s_ (r_ (ep E rfl (m_ rfl E.g3) fun a E=>?_))))));have hb0:=hb;refine aBy (d:=14) (R:=fun u w8=>u = .tuple #[] /\ aVW w2 g 0 cur C (.returned (.tuple #[])) w8) E rfl (by decide) rfl (aAb rfl _) (aA4 (enters_of Tryz.func194 (by kernel_rfl) rfl) rfl rfl E.g0 rfl) ((aIY (g:=g) (off:=0) (cap:=cap) hCne hb hd (fun c hc=>⟨(hN c hc).nb,(hN c hc).ok,fun e=>(hS _ (hN c hc).mem).2.1 (by rw [e];rfl)⟩) (by omega)).mono fun e w8 h=>⟨_,h.1,rfl,by rw [←h.1];exact h⟩) fun a w1 u9 hR E=>?_;obtain ⟨rfl,_,D,cur1,hD1,hb,hsz1,hd,_,f1⟩:=hR;have hDl:D.length=C.length:=hD1.length_eq;have hN:=(hN.fr f1 (fun k hk e=>(hS k hk).2.1 (by rw [e];rfl))).perm hD1;have hPD:(aC8 D).Perm (aC8 C):=hD1.flatMap_right _;have hm:=hm.fr f1 (fun k hk e=>by subst e;have:=hm.at hk;rw [this] at hb0;cases hb0);have hT:=hT.trans' f1 (fun r hr e=>by rcases hvb g rfl with h | h;(rw [e];exact h);omega);have hS:∀ k,S k->k<w1.heap.size /\ k≠g /\ ¬ aBx ds k:=fun k hk=>⟨Nat.lt_of_lt_of_le (hS k hk).1 f1.size,fun e=>(hS k hk).2.1 (by rw [e];rfl),(hS k hk).2.2⟩;clear hb0 hO hsz1 f1 hD1;refine n_ (t_ (s_ (r_ (ep (v := .int .i64 8) E rfl (a_ rfl rfl) fun a E=>n_ (t_ (s_ (bk_ (wp_loop (fun a w2=>∃ (s:Nat),EnvD ds 73 [(0,.slice (some ⟨g,0,none⟩) C.length cap),(3,.int .i64 (s:Int)),(2,Value.pointer none)] a /\ 8<=s /\ s<=C.length*8+8 /\ w2=w1) (fun a _=>C.length*8+8-(intOf (a.eval (.tmp 3))).toNat) ?_ ?_))))))))
 ·exact ⟨8,E.of ⟨E.g6,E.g0,E.g7,trivial⟩,Gj_ _,by omega,rfl⟩
 clear E;rintro a w2 ⟨s,E,hs8,hsN,hw2⟩;have hmu:C.length*8+8-(intOf (a.eval (.tmp 3))).toNat=C.length*8+8-s:=by rw [E.g1];first | rfl | (simp [intOf];done) | (simp only [intOf];omega)
 rw [hmu];clear hmu;subst hw2
 have hss:(s:Int)*(s:Int)<=1000000000000 /\ 0<=(s:Int)*(s:Int) /\ (s:Int)<=(s:Int)*(s:Int):=by
  have h1:s*s<=1000000*1000000:=Nat.mul_le_mul (by omega) (by omega);have h2:s<=s*s:=Nat.le_mul_self s;omega
 refine s_ (s_ (r_ (ep E rfl (m_ rfl E.g1) fun a E=>ep E rfl (m_ rfl E.g2) fun a E=>ep (v := .int .i64 ((s:Int)*(s:Int))) E rfl (aD0 u3_ E.g1 E.g0 (by omega) (by omega) rfl) fun a E=>ep E rfl (m_ rfl E.g3) fun a E=>ep (v := .int .i64 (C.length:Int)) E rfl (aBw rfl E.g0) fun a E=>ep (v := .int .i64 ((C.length:Int)*8)) E rfl (aD0 u3_ E.g0 rfl (by omega) (by omega) rfl) fun a E=>ep (v := .bool (decide (((s:Int)*(s:Int))<((C.length:Int)*8)))) E rfl (aBj E.g3 E.g0 u3_ rfl) fun a E=>n_ (t_ ?_))));cases hq35:(decide (((s:Int)*(s:Int))<((C.length:Int)*8)))
 rotate_left
 ·rw [hq35] at E;refine c_t E.g0 (k_ (t_ (bk_ (r_ (ep E rfl (m_ rfl E.g8) fun a E=>ep (v := .int .i64 ((s:Int)+8)) E rfl (aAJ u3_ E.g0 rfl (by omega) (by omega) rfl) fun a E=>es_ E rfl (a_ rfl E.g0) fun a E=>n_ (b_ (t_ ?_)))))));rw [show ((s:Int)+8)=((s+8:Nat):Int) by omega] at E;have hlt9:(s:Int)<(C.length:Int)*8:=by have:=of_decide_eq_true hq35;omega
  refine ⟨⟨s+8,E.of ⟨E.g10,E.g0,E.g11,trivial⟩,by omega,by omega,rfl⟩,?_⟩;rw [E.g0];simp only [intOf];omega
 rw [hq35] at E;refine c_f E.g0 (x_ (te_ (te_ (be_ (t_ (s_ (r_ (aJE (d:=4) E rfl (by decide) rfl (aAb rfl _) rfl fun a w1 nx enx hx f1 E=>?_))))))));have hnx:w2.heap.size=nx:=enx;have hgl:=aAe hb;have hws0:=hT.size;have hb:=f1.obj hb id;have hN:=hN.fr f1 (fun _ _ h=>h);have hm:=hm.fr f1 (fun _ _ h=>h);have hT:=hT.trans' f1 (fun _ _ h=>h.elim);have hS:∀ k,S k->k<nx /\ k≠g /\ ¬ aBx ds k:=fun k hk=>⟨by have:=(hS k hk).1;omega,(hS k hk).2⟩;have hgx:g<nx:=by omega
 have hxl:=aAe hx;have hws:w.heap.size<=nx:=by omega
 clear f1 hgl enx;refine n_ (t_ (s_ (s_ (r_ (ep E rfl (m_ rfl E.g8) fun a E=>ep E rfl (m_ rfl E.g10) fun a E=>?_)))));have hz9:1<=s:=by omega
 refine aBy (d:=26) (R:=fun u w8=>∃ c1 c2,u = .func (.func 235) #[] #[.pointer (some ⟨c1,0,none⟩),.pointer (some ⟨c2,0,none⟩)] /\ w8.heap[c1]?=some (.cells #[.slice (some ⟨g,0,none⟩) C.length cap] 159 (0,0)) /\ w8.heap[c2]?=some (.cells #[.int .i64 ((s:Nat):Int)] 3 (0,0)) /\ Fr nF_ w1 w8 /\ w1.heap.size<=c1 /\ w1.heap.size<=c2) E rfl (by decide) rfl (aAb rfl _) (aA4 (enters_of Tryz.func197 (by kernel_rfl) rfl) rfl rfl E.g1 E.g0) ((aFU g 0 C.length cap s _ hz9).mono fun e w8 ⟨c8,c9,h1,h2⟩=>⟨_,h1,c8,c9,rfl,h2⟩) fun a wr u9 hR E=>?_;obtain ⟨c1,c2,rfl,k1,k2,f2,hc8,hc9⟩:=hR;clear hz9;refine n_ (t_ (bk_ ?_));have hc1l:=aAe k1;have hc2l:=aAe k2;have lo:Low wr g nx c1 c2 S:=⟨by omega,by omega,hc1l,hc2l,fun b hb=>by have:=hS b hb;exact ⟨by omega,this.2.1,by omega⟩,by omega,⟨by omega,by omega⟩,⟨by omega,by omega⟩⟩;have hb:=f2.obj hb id;have hx:=f2.obj hx id;have hN:=hN.fr f2 (fun _ _ h=>h);have hm:=hm.fr f2 (fun _ _ h=>h);have hT:=hT.trans' f2 (fun _ _ h=>h.elim);have hI0:OutI wr g nx c1 c2 C.length cap s h S D 0 wr S [] (.slice none 0 0) cur1:=⟨hb,fun j c hj _=>by have:=hd j c hj;rwa [Nat.zero_add] at this,hx,aCU _,k1,k2,hN,(fun c hc=>by cases hc),fun b hb => .inl hb,fun b hb=>⟨(lo.lS b hb).1,by simp [Value.ownBlock]⟩,by simp [aC8],⟨by simp,by omega⟩,Fr.refl _ _⟩;have hs1:1<=s:=by omega
 refine aLp (fun k W=>∃ S1 N1 nv cr,OutI wr g nx c1 c2 C.length cap s h S D k W S1 N1 nv cr) (fun v a=>∃ x,v=#[x] /\ Env 73 [(5,x),(27,x),(4,.pointer (some ⟨nx,0,none⟩))] a) E.g0 (enters_of Tryz.func235 (by kernel_rfl) rfl) (aEm (g:=g) (off:=0) (N:=C.length) (cap:=cap) (n:=s) (c1:=c1) (c2:=c2) hs1 (by omega) (by omega) (by omega)) (fun v hv=>by obtain ⟨k,_,rfl⟩:=aH2 hs1 hv;rfl) ?_ ?_ ⟨S,[],_,cur1,hI0⟩ ?_ ?_ ?_
 ·rintro k W W' ⟨S1,N1,nv,cr,H⟩ f;exact ⟨_,_,_,_,H.fr lo f⟩
 ·rintro k W ⟨S1,N1,nv,cr,H⟩;exact ⟨H.k1,H.k2⟩
 ·intro l v W K hv hK;obtain ⟨k,_,rfl⟩:=aH2 hs1 hv;have E:=aKU (d:=27) (x:=chV g 0 C.length s k) (E.of (L':=[(4,.pointer (some ⟨nx,0,none⟩))]) ⟨E.g3,trivial⟩) (by decide) rfl;refine aA2 (by kernel_rfl) (fun ⟨_,_,h⟩=>h) (ep E rfl (a_ rfl E.g0) fun a E=>n_ (hK _ ⟨_,rfl,E⟩))
 ·rintro k v ak wk hv ⟨S1,N1,nv,cr,H⟩ ⟨x9,rfl,E⟩ hwk ⟨rr,hrr⟩;obtain ⟨hks,hv2⟩:=aRW hs1 hv;obtain rfl:x9=chV g 0 C.length s k:=by simpa using hv2
  obtain ⟨E0,hE0⟩:∃ E0,E0=(D.drop (k*s)).take s:=⟨_,rfl⟩;have hE0l:E0.length=min s (C.length-k*s):=by rw [hE0];simp [hDl]
  have hx9:chV g 0 C.length s k = .slice (some ⟨g,0+k*s,none⟩) E0.length E0.length:=by rw [hE0l];rfl
  rw [hx9] at E;have hEne:E0≠[]:=by rintro rfl;simp at hE0l;omega
  have hE0g:∀ (i:Nat) c,E0[i]?=some c->D[k*s+i]?=some c:=fun i c hc=>by rw [hE0,List.getElem?_take] at hc;split at hc;(rw [List.getElem?_drop] at hc;exact hc);cases hc
  have hE0c:aFX cr (0+k*s) E0:=fun i c hc=>by rw [Nat.zero_add];exact H.hd _ _ (hE0g i c hc) (Nat.le_add_right _ _)
  have hE0m:∀ c∈E0,c∈D:=fun c hc=>by obtain ⟨i,hi⟩:=List.mem_iff_getElem?.1 hc;exact Ge_ (hE0g i c hi)
  refine wpIn_block (wpIn_seq (aA2 (by kernel_rfl) (fun ⟨_,_,h⟩=>h) (ep E rfl (m_ rfl E.g0) fun a E=>aBy (d:=29) (R:=fun u w8=>u = .tuple #[] /\ aVW wk g (0+k*s) cr E0 (.returned (.tuple #[])) w8) E rfl (by decide) rfl (aAb rfl _) (aA4 (enters_of Tryz.func194 (by kernel_rfl) rfl) rfl rfl E.g0 rfl) ((aIX (g:=g) (off:=0+k*s) (cap:=E0.length) hEne H.hb hE0c (fun c hc=>⟨(H.hN c (hE0m c hc)).nb,(H.hN c (hE0m c hc)).ok,(lo.lS _ (H.hN c (hE0m c hc)).mem).2.1⟩) (by omega)).mono fun e w8 h=>⟨_,h.1,rfl,by rw [←h.1];exact h⟩) fun a wb u9 hR E=>?_)));obtain ⟨rfl,_,E1,cur2,hE1,hb2,_,hd2,hout,f1⟩:=hR;have hEl:E1.length=E0.length:=hE1.length_eq;refine n_ (t_ (wpIn_seq (aA2 (by kernel_rfl) (fun ⟨_,_,h⟩=>h) (ep E rfl (m_ rfl E.g2) fun a E=>?_))));have hz9:1<=8:=by omega
  refine aBy (d:=31) (R:=fun u w8=>∃ c3 c4,u = .func (.func 235) #[] #[.pointer (some ⟨c3,0,none⟩),.pointer (some ⟨c4,0,none⟩)] /\ w8.heap[c3]?=some (.cells #[.slice (some ⟨g,(0+k*s),none⟩) E0.length E0.length] 159 (0,0)) /\ w8.heap[c4]?=some (.cells #[.int .i64 ((8:Nat):Int)] 3 (0,0)) /\ Fr nF_ wb w8 /\ wb.heap.size<=c3 /\ wb.heap.size<=c4) E rfl (by decide) rfl (aAb rfl _) (aA4 (enters_of Tryz.func197 (by kernel_rfl) rfl) rfl rfl E.g0 rfl) ((aFU g (0+k*s) E0.length E0.length 8 _ hz9).mono fun e w8 ⟨c8,c9,h1,h2⟩=>⟨_,h1,c8,c9,rfl,h2⟩) fun a wi u9 hR E=>?_;obtain ⟨c3,c4,rfl,k3,k4,f2,hc8,hc9⟩:=hR;clear hz9;refine n_ (t_ (wpIn_block ?_));have hc3l:=aAe k3;have hc4l:=aAe k4;have f12:Fr (fun b=>b=g) wk wi:=f1.trans' f2 (fun _ _ h=>h.elim);have f13:Fr (fun b=>b=g∨b=nx∨wr.heap.size+2<=b) wk wi:=f12.mono (fun _ _ e => .inl e);have hb3:=f2.obj hb2 id;have hng:nv.ownBlock≠some g:=fun e=>by have:=(H.hO.lt e).1;have:=lo.lg;omega
  have hlg:=lo.lg;have hlx:=lo.lx;have hgx9:=lo.gx;have hgc1:=lo.gc1;have hgc2:=lo.gc2;have hJ0:InI wr wk wi.heap.size g nx c1 c2 c3 c4 C.length cap s k E0.length h N1.length S D E1 cur2 0 wi S1 N1 nv:=⟨hb3,f12.obj H.hx (fun e=>hgx9 e.symm),H.hO.fr f12 (fun b hb9 e=>by rw [e] at hb9;exact hng hb9),fun e=>by have:=(H.hO.lt e).2;have:=f12.size;omega,f12.obj H.k1 (fun e=>hgc1.1 e),f12.obj H.k2 (fun e=>hgc2.1 e),k3,k4,H.hN.fr f12 (fun b hb9 e=>(lo.lS b hb9).2.1 e),H.hN1.fr f12 (fun b hb9 e=>by rcases H.hS1 b hb9 with h9 | h9;exact (lo.lS b h9).2.1 e;omega),H.hS1,fun b hb9=>⟨Nat.lt_of_lt_of_le (H.hSl b hb9).1 f12.size,(H.hSl b hb9).2,by have:=(H.hSl b hb9).1;have:=f12.size;omega⟩,by simpa [aC8] using H.hP,rfl,f13⟩;have hr8:wi.heap[wr.heap.size+1]?=some (.loop rr):=f12.obj hrr (by omega);have hwk2:wr.heap.size+2<=wk.heap.size:=hwk;have hwki:wk.heap.size<=wi.heap.size:=f12.size;refine aLq hr8 (fun j W=>∃ S2 N2 nw,InI wr wk wi.heap.size g nx c1 c2 c3 c4 C.length cap s k E0.length h N1.length S D E1 cur2 j W S2 N2 nw) (fun v a=>∃ x,v=#[x] /\ Env 73 [(6,x),(32,x),(4,.pointer (some ⟨nx,0,none⟩))] a) E.g0 (enters_of Tryz.func235 (by kernel_rfl) rfl) (aEm (g:=g) (off:=0+k*s) (N:=E0.length) (cap:=E0.length) (n:=8) (c1:=c3) (c2:=c4) (by omega) (Gj_ _) (by omega) (by omega)) (fun v hv=>by obtain ⟨j,_,rfl⟩:=aH2 (by omega) hv;rfl) ?_ ?_ ⟨S1,N1,nv,hJ0⟩ ?_ ?_ ?_
  ·rintro j W W' ⟨S2,N2,nw,J⟩ f;exact ⟨_,_,_,J.fr lo hwk2 hwki (by omega) (by omega) f⟩
  ·rintro j W ⟨S2,N2,nw,J⟩;exact ⟨J.k3,J.k4⟩
  ·intro l v W K hv hK;obtain ⟨j,_,rfl⟩:=aH2 (by omega) hv;have E:=aKU (d:=32) (x:=chV g (0+k*s) E0.length 8 j) (E.of (L':=[(4,.pointer (some ⟨nx,0,none⟩))]) ⟨E.g6,trivial⟩) (by decide) rfl;refine aA2 (by kernel_rfl) (fun ⟨_,_,h⟩=>h) (ep E rfl (a_ rfl E.g0) fun a E=>n_ (hK _ ⟨_,rfl,E⟩))
  ·rintro j v aj wi2 hv ⟨S2,N2,nw,J⟩ ⟨x9,rfl,E⟩ hwj;obtain ⟨hj8,hv3⟩:=aRW (by omega) hv;obtain rfl:x9=chV g (0+k*s) E0.length 8 j:=by simpa using hv3
   obtain ⟨F0,hF0⟩:∃ F0,F0=(E1.drop (j*8)).take 8:=⟨_,rfl⟩;have hF0l:F0.length=min 8 (E0.length-j*8):=by rw [hF0];simp [hEl]
   have hx8:chV g (0+k*s) E0.length 8 j = .slice (some ⟨g,0+k*s+j*8,none⟩) F0.length F0.length:=by rw [hF0l];rfl
   rw [hx8] at E;have hFne:F0≠[]:=by rintro rfl;simp at hF0l;omega
   have hF0g:∀ (i:Nat) c,F0[i]?=some c->E1[j*8+i]?=some c:=fun i c hc=>by rw [hF0,List.getElem?_take] at hc;split at hc;(rw [List.getElem?_drop] at hc;exact hc);cases hc
   have hF0m:∀ c∈F0,c∈D:=fun c hc=>by obtain ⟨i,hi⟩:=List.mem_iff_getElem?.1 hc;exact hE0m c (hE1.mem_iff.1 (Ge_ (hF0g i c hi)))
   have hFc0:∀ (i:Nat) c,F0[i]?=some c->wi2.cell? ⟨g,0+k*s+j*8+i,none⟩=some (ndV c):=fun i c hc=>by rw [aAk J.hb,Nat.add_assoc (0+k*s)];exact hd2 _ _ (hF0g i c hc)
   have hNF0:aCS wi2 S h F0:=J.hN.sub hF0m
   have hsr:aBd aST 1 wi2 wi2.heap.size (some ⟨g,0+k*s+j*8,none⟩) F0 := .inr ⟨g,_,rfl,aAe J.hb,fun i c hc m u hu=>by
     match m,hu with
     | 0,hu=>rw [Nat.mul_one,Nat.add_zero];simp at hu;subst hu;exact hFc0 i c hc
     | m+1,hu=>simp at hu⟩
   have hFl:0<F0.length:=by omega
   obtain ⟨q0,hqe⟩:∃ q0,F0[0]?=some q0:=⟨_,Gb_ hFl⟩;have hq0:wi2.cell? ⟨g,0+k*s+j*8+0,none⟩=some (ndV q0):=hFc0 0 q0 hqe;obtain ⟨b0,hb0⟩:∃ b0,b0=q0.2.1:=⟨_,rfl⟩;have hok0:okB b0:=by rw [hb0];exact (hNF0 q0 (Ge_ hqe)).ok
   have hnb0:nb wi2 q0.1 b0:=by rw [hb0];exact (hNF0 q0 (Ge_ hqe)).nb
   refine wpIn_block (wpIn_seq (aDd (G:=Value×Nat) (undef,0) (n:=73) (base:=[(6,.slice (some ⟨g,0+k*s+j*8,none⟩) F0.length F0.length),(32,.slice (some ⟨g,0+k*s+j*8,none⟩) F0.length F0.length),(4,.pointer (some ⟨nx,0,none⟩))]) (U:=[]) (T:=fun γ=>[some (33,.slice (some ⟨g,0+k*s+j*8,none⟩) F0.length F0.length),some (34,.pointer (some ⟨g,(0+k*s+j*8+0),none⟩)),some (35,.pointer (some ⟨q0.1,0,none⟩)),some (36,.pointer (some ⟨q0.1,0,none⟩)),some (37,.pointer (some ⟨q0.1,0,none⟩)),some (38,.agg (bxC b0)),some (39,.slice (some ⟨g,0+k*s+j*8,none⟩) F0.length F0.length),some (40,γ.1),some (41,.agg (ndC b0 γ.1)),some (42,.pointer (some ⟨γ.2,0,none⟩)),some (7,.pointer (some ⟨γ.2,0,none⟩))]) (M:=fun γ ls9 wm=>Fr nF_ wi2 wm /\ (ls9 7=true->oNd wm wi2.heap.size γ.1 F0) /\ (ls9 9=true->wi2.heap.size<=γ.2 /\ γ.1.ownBlock≠some γ.2 /\ ndB wm γ.2 b0 γ.1)) (by kernel_rfl) (fun ⟨_,_,h⟩=>h) (by kernel_rfl) (by kernel_rfl) (fun _=>by kernel_rfl) (E.of ⟨E.g0,E.g1,E.g2,trivial⟩) (fun x hx=>by cases hx) ⟨(Fr.refl _ _).drew,fun h=>absurd h Bool.false_ne_true,fun h=>absurd h Bool.false_ne_true⟩ ?_ ?_))
   ·intro j9 o9 γ ls9 a w5 ho hl E D DL DL2 hB hM;have hsr:=hsr.fr hM.1 (fun _ _ h=>h);have hq0:=hM.1.cell hq0 id;have hnb0:=hnb0.fr hM.1 id
    match j9,ho,hl,D,DL,hB with
    | 0,ho,hl,D,DL,hB=>exact z0_ ho (aAq rfl (m_ rfl E.g0) rfl hM)
    | 1,ho,hl,D,DL,hB=>exact z0_ ho (aAq rfl (aCr (i:=0) rfl (D 0 _ rfl rfl) rfl hFl) rfl hM)
    | 2,ho,hl,D,DL,hB=>exact z0_ ho (aAq rfl (aAN rfl (D 1 _ rfl rfl) hq0) rfl hM)
    | 3,ho,hl,D,DL,hB=>exact z0_ ho (aAq rfl (i_ rfl (D 2 _ rfl rfl)) rfl hM)
    | 4,ho,hl,D,DL,hB=>exact z0_ ho (aAq rfl (aB7 rfl (D 3 _ rfl rfl)) rfl hM)
    | 5,ho,hl,D,DL,hB=>exact z0_ ho (aAq rfl (aBi rfl (D 4 _ rfl rfl) hnb0) rfl hM)
    | 6,ho,hl,D,DL,hB=>exact z0_ ho (aAq rfl (m_ rfl E.g0) rfl hM)
    | 7,ho,hl,D,DL,hB=>exact z0_ ho (aRY (aBb (enters_of Tryz.func199 (by kernel_rfl) rfl) rfl rfl (D 6 _ rfl rfl)) ((aJQ hsr (by omega)).mono fun e9 w9 ⟨v9,h8,h9,h10⟩=>⟨v9,h8,(⟨h9.base hM.1.size,h10⟩:oNd w9 wi2.heap.size v9 F0 /\ Fr nF_ w5 w9)⟩) rfl fun v9 w9 f9=>⟨(v9,γ.2),rfl,(fun j hj=>match j,hj with | 0,_=>rfl | 1,_=>rfl | 2,_=>rfl | 3,_=>rfl | 4,_=>rfl | 5,_=>rfl | 6,_=>rfl | 7,hj=>absurd (hl.symm.trans hj) (by decide) | 8,hj=>absurd (hl.symm.trans (DL2 8 7 rfl hj)) (by decide) | 9,_=>rfl | 10,_=>rfl | e9+11,_=>rfl),⟨hM.1.trans' f9.2 (fun _ _ h=>h.elim),fun _=>f9.1,fun h=>absurd (DL2 9 8 rfl h) (fun e=>by have:=DL2 8 7 rfl e;rw [hl] at this;cases this)⟩⟩)
    | 8,ho,hl,D,DL,hB=>exact z0_ ho (aAq rfl (aJh (aNF (hM.2.1 (DL 7 rfl))) rfl (D 5 _ rfl rfl) (D 7 _ rfl rfl)) rfl hM)
    | 9,ho,hl,D,DL,hB =>
     obtain rfl:=Gh_ ho;clear ho;have hO8:=hM.2.1 (DL2 8 7 rfl (DL 8 rfl));exact ⟨fun _=>aLs (γ.1,w5.heap.size) rfl (aNk rfl (D 8 _ rfl rfl)) rfl (fun j hj=>match j,hj with | 0,_=>rfl | 1,_=>rfl | 2,_=>rfl | 3,_=>rfl | 4,_=>rfl | 5,_=>rfl | 6,_=>rfl | 7,_=>rfl | 8,_=>rfl | 9,hj=>absurd (hl.symm.trans hj) (by decide) | 10,hj=>absurd (hl.symm.trans (DL2 10 9 rfl hj)) (by decide) | e9+11,_=>rfl) ⟨hM.1.trans' ((Fr.refl nF_ w5).alloc _) (fun _ _ h=>h.elim),fun h=>ow.fr (hM.2.1 h) ((Fr.refl nF_ w5).alloc _) (fun _ _ h=>h),fun _=>⟨hM.1.size,fun e=>by have:=(hO8.lt e).2;omega,aAj _ _⟩⟩,fun h=>by rw [aAb rfl] at h;cases h⟩
    | 10,ho,hl,D,DL,hB=>exact z0_ ho (aAq rfl (a_ rfl (D 9 _ rfl rfl)) rfl hM)
    | j9+11,ho,hl,D,DL,hB=>exact absurd ho (by simp)
   ·rintro ⟨γ36a,γ36b⟩ a wu E V hM;have E:=E.add (v := .pointer (some ⟨γ36b,0,none⟩)) (V 10 _ rfl);clear V;have hOa:=hM.2.1 rfl;obtain ⟨hul,hau,hu⟩:=hM.2.2 rfl;have fu:=hM.1;generalize γ36b=u at E hul hau hu;generalize γ36a=va at E hOa hau hu;clear hM hsr hq0 hnb0;have hgu:g≠u:=by have:=aAe J.hb;omega
    have hFc:=fun i c hc=>fu.cell (hFc0 i c hc) id;have hNF:=hNF0.fr fu (fun _ _ h=>h);have hFu:∀ c∈F0,c.1≠u:=fun c hc=>by have:=(lo.lS _ (hNF0 c hc).mem).1;omega
    clear hFc0 hNF0;refine t_ (wpIn_seq (wpIn_seq (aA2 (by kernel_rfl) (fun ⟨_,_,h⟩=>h) (ep E rfl (m_ rfl E.g1) fun a E=>ep (v := .int .i64 (F0.length:Int)) E rfl (aBw rfl E.g0) fun a E=>ep (v := .int .i64 0) E rfl (m_ rfl rfl) fun a E=>n_ (t_ (wpIn_block (wpIn_loop (fun a w2=>∃ (i:Nat),Env 73 [(45,.int .i64 (i:Int)),(44,.int .i64 (F0.length:Int)),(43,.slice (some ⟨g,0+k*s+j*8,none⟩) F0.length F0.length),(7,.pointer (some ⟨u,0,none⟩)),(4,.pointer (some ⟨nx,0,none⟩))] a /\ i<=F0.length /\ ndB w2 u (aGl b0 (F0.take i)) va /\ Fr (fun b=>b=u) wu w2) (fun a _=>F0.length-(intOf (a.eval (.tmp 45))).toNat) ?_ ?_)))))))
    ·exact ⟨0,E.of ⟨E.g0,E.g1,E.g2,E.g3,E.g6,trivial⟩,Gg_ _,hu,Fr.refl _ _⟩
    clear E;rintro a w2 ⟨i,E,hi,hu,hF⟩;have hmu:F0.length-(intOf (a.eval (.tmp 45))).toNat=F0.length-i:=by rw [E.g0];first | rfl | (simp [intOf];done) | (simp only [intOf];omega)
    rw [hmu];clear hmu;refine wpIn_seq (aA2 (by kernel_rfl) (fun ⟨_,_,h⟩=>h) (ep (v := .bool (decide ((i:Int)<(F0.length:Int)))) E rfl (aBj E.g0 E.g1 u3_ rfl) fun a E=>n_ (t_ (wpIn_seq ?_))));cases hq38:(decide ((i:Int)<(F0.length:Int)))
    ·rw [hq38] at E;have hie:i=F0.length:=by have:=of_decide_eq_false hq38;omega
     rw [hie,List.take_length] at hu;refine wpIn_cond_false E.g0 (wpIn_exit (te_ (te_ (be_ (t_ ?_)))));have hx9:=hF.obj (fu.obj J.hx id) (fun e=>by have:=aAe J.hx;omega);have hOw:=(J.hO.fr fu (fun _ _ h=>h)).fr hF (fun b hb9 e=>by have:=(J.hO.lt hb9).2;omega);have hx:=hx9;refine aA2 (by kernel_rfl) (fun ⟨_,_,h⟩=>h) (ep (v:=nw) E rfl (aAY rfl E.g5 (bx hx 0 rfl)) fun a E=>ep E rfl (m_ rfl E.g5) fun a E=>aIw (c:=(u,aGl b0 F0,aC8 F0)) (d:=64) E rfl (by decide) rfl (aAb rfl _) rfl E.g0 fun a w1 bo hso f3 E=>?_);have hwuz:=fu.size;have hwvz:=hF.size;have hwwz:=f3.size;have hOx:=hOw.fr f3 (fun _ _ h=>h);refine aFO (d:=65) E rfl (by decide) rfl rfl rfl E.g2 hOx E.g0 hso (fun h=>by cases h) (by have:=J.hc;have:=H.hc.1;simp;omega) (by omega) fun a w3 v9 hO9 f4 hloc E=>?_;have hx9:=f4.obj (f3.obj hx9 id) (fun e=>by have:=(J.hO.lt e).1;have:=lo.lx;omega);obtain ⟨pn,cn,hvv,_⟩:=hO9.src aE1;refine aCJ E rfl (aAb rfl _) (aPF hvv rfl E.g9 E.g0 (bx hx9 0 rfl) (aAm hx9 0)) fun E=>?_;clear hvv;refine n_ (b_ ?_);obtain ⟨S3,hS3⟩:∃ S3:Nat->Prop,S3=fun b=>S2 b∨b=u∨va.ownBlock=some b∨S b:=⟨_,rfl⟩;refine aRx ⟨⟨S3,N2++[(u,aGl b0 F0,aC8 F0)],v9,?_⟩,?_⟩
     ·exact aTo lo hwk2 hwki hwj hul hau J hF0 hFne hok0 hOa hNF hu fu hF f3 f4 hO9 hloc hx9 hS3
     ·exact aVu lo hwk2 hwki hwj hul J fu hF f3 f4 v9
    rw [hq38] at E;have hi3:i<F0.length:=by have:=of_decide_eq_true hq38;omega
    obtain ⟨q,hq⟩:∃ q,F0[i]?=some q:=⟨_,Gb_ hi3⟩;have hqc:=hF.cell (hFc i q hq) hgu;have hqm:=Ge_ hq;have hnbq:nb w2 q.1 q.2.1:=(hNF q hqm).nb.fr hF (fun e=>hFu q hqm e);refine wpIn_cond_true E.g0 (wpIn_skip (t_ (wpIn_seq (wpIn_block (wpIn_seq (aA2 (by kernel_rfl) (fun ⟨_,_,h⟩=>h) (ep (v := .pointer (some ⟨g,(0+k*s+j*8+i),none⟩)) E rfl (aCr (i:=i) rfl E.g3 E.g1 hi3) fun a E=>ep (v := .pointer (some ⟨q.1,0,none⟩)) E rfl (aAN rfl E.g0 hqc) fun a E=>ep E rfl (a_ rfl E.g0) fun a E=>n_ (t_ (aDd (G:=Unit) () (n:=73) (base:=[(7,.pointer (some ⟨u,0,none⟩)),(9,.pointer (some ⟨q.1,0,none⟩)),(45,.int .i64 (i:Int)),(44,.int .i64 (F0.length:Int)),(43,.slice (some ⟨g,0+k*s+j*8,none⟩) F0.length F0.length),(4,.pointer (some ⟨nx,0,none⟩))]) (U:=[]) (T:=fun γ=>[some (49,.pointer (some ⟨u,0,none⟩)),some (50,.pointer (some ⟨u,0,none⟩)),some (51,.pointer (some ⟨u,0,none⟩)),some (52,.pointer (some ⟨u,0,none⟩)),some (53,.agg (bxC (aGl b0 (F0.take i)))),some (54,.pointer (some ⟨q.1,0,none⟩)),some (55,.pointer (some ⟨q.1,0,none⟩)),some (56,.pointer (some ⟨q.1,0,none⟩)),some (57,.agg (bxC q.2.1)),some (58,.agg (bxC (arB (aGl b0 (F0.take i)) q.2.1))),some (59,.pointer (some ⟨u,0,none⟩)),some (60,.pointer (some ⟨u,0,none⟩)),none]) (M:=fun γ ls9 wm=>Fr (fun b=>b=u) w2 wm /\ ndB wm u (bif ls9 12 then (arB (aGl b0 (F0.take i)) q.2.1) else (aGl b0 (F0.take i))) va) (by kernel_rfl) (fun ⟨_,_,h⟩=>h) (by kernel_rfl) (by kernel_rfl) (fun _=>by kernel_rfl) (E.of ⟨E.g7,E.g0,E.g4,E.g5,E.g6,E.g8,trivial⟩) (fun x hx=>by cases hx) ⟨(Fr.refl _ _).drew,(Fr.refl nF_ _).drew.obj hu id⟩ ?_ ?_)))))))))
    ·intro j9 o9 γ ls9 a w5 ho hl E D9 DL DL2 hB hM;have hnq:=hnbq.fr hM.1 (fun e=>hFu q hqm e)
     match j9,ho,hl,D9,DL,hB with
     | 0,ho,hl,D9,DL,hB =>
      obtain rfl:=Gh_ ho;exact ⟨fun _=>aAq rfl (m_ rfl E.g0) rfl hM,fun h=>by rw [aAb rfl] at h;cases h⟩
     | 1,ho,hl,D9,DL,hB =>
      obtain rfl:=Gh_ ho;exact ⟨fun _=>aAq rfl (m_ rfl E.g0) rfl hM,fun h=>by rw [aAb rfl] at h;cases h⟩
     | 2,ho,hl,D9,DL,hB =>
      obtain rfl:=Gh_ ho;exact ⟨fun _=>aAq rfl (i_ rfl (D9 1 _ rfl rfl)) rfl hM,fun h=>by rw [aAb rfl] at h;cases h⟩
     | 3,ho,hl,D9,DL,hB =>
      obtain rfl:=Gh_ ho;exact ⟨fun _=>aAq rfl (aB7 rfl (D9 2 _ rfl rfl)) rfl hM,fun h=>by rw [aAb rfl] at h;cases h⟩
     | 4,ho,hl,D9,DL,hB =>
      have h9:ls9 12=false:=by
       cases h8:ls9 12 with
       | false=>rfl
       | true=>exact absurd (hl.symm.trans (DL2 9 4 rfl (DL2 12 9 rfl h8))) (by decide)
      have h7:=hM.2;rw [h9] at h7;obtain rfl:=Gh_ ho;exact ⟨fun _=>aAq rfl (aBi rfl (D9 3 _ rfl rfl) (aPZ (p:=(aGl b0 (F0.take i))) h7 0 rfl rfl rfl rfl)) rfl hM,fun h=>by rw [aAb rfl] at h;cases h⟩
     | 5,ho,hl,D9,DL,hB =>
      obtain rfl:=Gh_ ho;exact ⟨fun _=>aAq rfl (m_ rfl E.g1) rfl hM,fun h=>by rw [aAb rfl] at h;cases h⟩
     | 6,ho,hl,D9,DL,hB =>
      obtain rfl:=Gh_ ho;exact ⟨fun _=>aAq rfl (i_ rfl (D9 5 _ rfl rfl)) rfl hM,fun h=>by rw [aAb rfl] at h;cases h⟩
     | 7,ho,hl,D9,DL,hB =>
      obtain rfl:=Gh_ ho;exact ⟨fun _=>aAq rfl (aB7 rfl (D9 6 _ rfl rfl)) rfl hM,fun h=>by rw [aAb rfl] at h;cases h⟩
     | 8,ho,hl,D9,DL,hB =>
      obtain rfl:=Gh_ ho;exact ⟨fun _=>aAq rfl (aBi rfl (D9 7 _ rfl rfl) hnq) rfl hM,fun h=>by rw [aAb rfl] at h;cases h⟩
     | 9,ho,hl,D9,DL,hB =>
      obtain rfl:=Gh_ ho
      exact ⟨fun _=>aH3 rfl (aA4 (enters_of Tryz.func200 (by kernel_rfl) rfl) rfl rfl (D9 4 _ rfl rfl) (D9 8 _ rfl rfl)) (aIF _ _ _) rfl fun w9 f1=>⟨hM.1.trans' f1 (fun _ _ h=>h.elim),by
       have h6:=f1.obj hM.2 id
       have h5:ls9 12=false:=by
        cases h8:ls9 12 with
        | false=>rfl
        | true=>exact absurd (hl.symm.trans (DL2 12 9 rfl h8)) (by decide)
       exact h6⟩,fun h=>by rw [aAb rfl] at h;cases h⟩
     | 10,ho,hl,D9,DL,hB =>
      obtain rfl:=Gh_ ho;exact ⟨fun _=>aAq rfl (i_ rfl (D9 0 _ rfl rfl)) rfl hM,fun h=>by rw [aAb rfl] at h;cases h⟩
     | 11,ho,hl,D9,DL,hB =>
      obtain rfl:=Gh_ ho;exact ⟨fun _=>aAq rfl (aB7 rfl (D9 10 _ rfl rfl)) rfl hM,fun h=>by rw [aAb rfl] at h;cases h⟩
     | 12,ho,hl,D9,DL,hB =>
      have h7:=hM.2;rw [hl] at h7;obtain rfl:=Gh_ ho;exact ⟨fun _=>aDi rfl (aMS rfl (D9 11 _ rfl rfl) (D9 9 _ rfl rfl) h7) rfl ⟨hM.1.trans' (Fr.one4 _ _ _ _ _ _) (fun _ _ e=>e),ndB.set h7 _⟩,fun h=>by rw [aAb rfl] at h;cases h⟩
     | j9+13,ho,hl,D9,DL,hB=>exact absurd ho (by simp)
    ·rintro _ a w6 E V hM;clear V;have hu:ndB w6 u (arB (aGl b0 (F0.take i)) q.2.1) va:=hM.2;have hF:=hF.trans' hM.1 (fun _ _ e=>e);rw [←aPd hq] at hu;clear hM;refine b_ (t_ (aA2 (by kernel_rfl) (fun ⟨_,_,h⟩=>h) (ep (v := .int .i64 ((i:Int)+1)) E rfl (aAJ u3_ E.g2 rfl (by omega) (by omega) rfl) fun a E=>es_ E rfl (m_ rfl E.g0) fun a E=>n_ (t_ ?_))));refine ⟨⟨i+1,E.of ⟨E.g0,E.g4,E.g5,E.g2,E.g6,trivial⟩,by omega,hu,hF⟩,?_⟩;rw [E.g0];simp only [intOf];omega
  ·rintro W ⟨S2,N2,nw,J⟩;refine b_ (b_ ?_);have hjl:=aOB (g:=g) (off:=0+k*s) (N:=E0.length) (n:=8) (by omega);rw [hjl] at J;refine aRx ⟨⟨S2,N2,nw,cur2,?_⟩,?_⟩
   ·exact aQl hDl H J hks hE0 hE0l hE1 hout hs8 hlt1
   ·exact aSE lo J hwk2
 ·rintro W ⟨S1,N1,nv,cr,H⟩ hDk;have E:=aQU (D:=wr.heap.size) E;have hkl:=aOB (g:=g) (off:=0) (N:=C.length) hs1;rw [hkl] at H;obtain ⟨pn,cn,hvn,_,_,_,_⟩:=H.hO.src aE1;subst hvn;have hPe:=H.hP;have hcl:=H.hc;have hkk:=aOC (N:=C.length) hs1;rw [Gc_ (by rw [hDl];exact hkk)] at hPe;have hk1:1<=(C.length+s-1) / s:=aT4 hs1 (by omega);have hcl2:=hcl.2 hk1;rw [Nat.min_eq_right hkk] at hcl2;have hPn:(aC8 N1).Perm (aC8 C0):=(hPe.trans hPD).trans hP;have hN1:=H.hN1;have hOn:oNd W 0 (.slice pn N1.length cn) N1:=H.hO.base (Gg_ _);have hnm:¬ aBx ds wr.heap.size:=fun hk=>by have:=aAe (hm.at hk);omega
  have hmn:=((hm.fr H.hf (fun b hk e=>by have h9:=hm.at hk;rcases e with e | e;(subst e;rw [h9] at hb;cases hb);(subst e;rw [h9] at hx;cases hx))).cons hDk hnm);have hwl:w.heap.size<=wr.heap.size:=hT.size;have hmwn:∀ b,aBx (mkD wr.heap.size::ds) b->w.heap.size<=b:=fun b hk=>by rcases aBK.1 hk with rfl | hk;exact hwl;exact hmw b hk
  have hSn:∀ b,S1 b->b<W.heap.size /\ (Value.slice pn N1.length cn).ownBlock≠some b /\ ¬ aBx (mkD wr.heap.size::ds) b:=fun b hb9=>⟨(H.hSl b hb9).1,(H.hSl b hb9).2,fun hk=>by
    rcases H.hS1 b hb9 with h9 | h9
    ·rcases aBK.1 hk with rfl | hk
     ·have:=(lo.lS _ h9).1;omega
     ·exact (hS b h9).2.2 hk
    ·rcases aBK.1 hk with rfl | hk
     ·omega
     ·have:=aAe (hm.at hk);omega⟩
  have hS0n:∀ b,S1 b->S0 b∨w.heap.size<=b:=fun b hb9=>by rcases H.hS1 b hb9 with h9 | h9;exact hS0 b h9;exact .inr (by omega)
  have hTn:=hT.trans' H.hf (fun r hr e=>by rcases e with e | e;(rcases hvb g rfl with h9 | h9;(rw [e];exact h9);omega);omega);have hvn:∀ b,(Value.slice pn N1.length cn).ownBlock=some b->v0.ownBlock=some b∨w.heap.size<=b:=fun b hb9 => .inr (by have:=(H.hO.lt hb9).1;omega);have hx:=H.hx;refine b_ (t_ (r_ (ep (v := .slice pn N1.length cn) E rfl (aAY rfl E.g3 (bx hx 0 rfl)) fun a E=>es_ E rfl (a_ rfl E.g0) fun a E=>n_ (b_ (t_ ?_)))));refine ⟨⟨pn,cn,N1,h+1,S1,_,E.of ⟨E.g0,E.get 14 rfl,trivial⟩,hOn,hN1,hSn,hS0n,hmn,hmwn,hPn,by omega,hTn,hvn⟩,?_⟩;rw [E.g0];simp only [lenOf];omega
theorem aMt {P:Program}{K t e:TypeId}(ht:P.underlying t=some (.map K e)) {w:World}{b n:Nat}{m}(h:aDP P K w b n m) :
  ∃ o cnt,(Instr.range t (.map (some b))).run P w = .ok (.pointer (some ⟨w.heap.size,0,none⟩)) (w.alloc o) /\ Rng P K (w.alloc o) b w.heap.size m (fun k=>(m k).isSome=true) cnt /\ cnt<=n:=by
 have hlt:=h.lt;obtain ⟨es,clock,hb,h,hs⟩:=h;refine ⟨_,_,run_range_map w t K e b es clock ht hb,⟨es,clock,clock,#[],clock,(aCw hlt _).trans hb,h,aAj _ _,h.born,rfl,fun x hx=>?_,fun k hk=>?_,Gj_ _,Gj_ _⟩,?_⟩
 ·show (m x.key).isSome=true↔_;rw [(h.at_ x.key x.val).2 ⟨x,hx,rfl,rfl⟩];simp
 ·obtain ⟨v,hv⟩:=Option.isSome_iff_exists.1 hk;obtain ⟨x,hx,h1,_⟩:=(h.at_ k v).1 hv;exact ⟨x,hx,h1⟩
 ·unfold leftOf;exact Gn_ (Array.size_filter_le ..) hs
section
variable {o:Oper}{w w':World}{ρ:Operand->Value}{x y:Operand}{b:Bx}{s:ByteArray}{v:Value}{r:Nat}
theorem aKz (h:(Instr.next (.pointer (some ⟨r,0,none⟩)) false o.type).run Tryz.prog w = .ok v w') (ho:o.op = .next x false) (hx:ρ x = .pointer (some ⟨r,0,none⟩)):(execOp ρ o).run Tryz.prog w = .ok (.value v) w':=by
 simp [execOp,ho,hx,h,Result.andThen]
theorem aNe (h:(Instr.entry (.pointer (some ⟨r,0,none⟩))).run Tryz.prog w = .ok v w') (ho:o.op = .entry x) (hx:ρ x = .pointer (some ⟨r,0,none⟩)):(execOp ρ o).run Tryz.prog w = .ok (.value v) w':=by
 simp [execOp,ho,hx,h,Result.andThen]
theorem aJc {mb:Nat}(h:(Instr.range 180 (.map (some mb))).run Tryz.prog w = .ok v w') (ho:o.op = .range 180 x) (hx:ρ x = .map (some mb)):(execOp ρ o).run Tryz.prog w = .ok (.value v) w':=by
 simp [execOp,ho,hx,h,Result.andThen]
theorem aFd {k:Nat}{vs:Array Value}(hk:vs[k]?=some v) (ho:o.op = .extract x k) (hx:ρ x = .tuple vs):(execOp ρ o).run Tryz.prog w = .ok (.value v) w:=by
 simp [execOp,ho,hx,go_sem,hk]
abbrev lfC (b:Bx) (s:ByteArray):Array Value:=#[.int .i64 b.1.1,.int .i64 b.1.2,.int .i64 b.2.1,.int .i64 b.2.2,.string s,.slice none 0 0]
theorem aL3 (ho:o.op = .build 161 #[(0,x),(1,y)]) (hx:ρ x = .agg (bxC b)) (hy:ρ y = .string s):(execOp ρ o).run Tryz.prog w = .ok (.value (.agg (lfC b s))) w:=by
 simp [execOp,ho,hx,hy,go_sem]
theorem aL6 (ho:o.op = .box 161 x) (hx:ρ x = .agg (lfC b s)):(execOp ρ o).run Tryz.prog w = .ok (.value (.pointer (some ⟨w.heap.size,0,none⟩))) (w.alloc (.cells (lfC b s) 161)):=by
 simp [execOp,ho,hx,go_sem]
theorem aPH {p0:Option Addr}{u:Value}{g off:Nat}(ho:o.op = .store 157 x y) (hx:ρ x = .pointer (some ⟨g,off,none⟩)) (hy:ρ y = .pointer p0) (hc:w.cell? ⟨g,off,none⟩=some u) (hz:w.frozen? ⟨g,off,none⟩=false):(execOp ρ o).run Tryz.prog w = .ok .skip (w.setCell ⟨g,off,none⟩ (.pointer p0)):=by
 simp [execOp,ho,hx,hy,go_sem,hc,hz]
end
def aXv (w:World) (p mb N:Nat) (S:Nat->Prop) (m:ByteArray->Option Bx) (e:Ending) (w':World):Prop :=
 ∃ S' rv',e = .returned rv' /\ IxAt w' p mb N S' m rv' true /\ Fr (fun k=>k=p) w w' /\ ∀ k,S' k->S k∨w.heap.size<=k
def aUo (m:ByteArray->Option Bx) (left:Value->Prop) (L:List En):Prop:=(L.map (·.1)).Nodup /\ ∀ s b,(s,b)∈L↔m s=some b /\ ¬ left (.string s)
theorem aUo.start {m:ByteArray->Option Bx}:aUo m (fun k=>(bxM m k).isSome=true) []:=by
 refine ⟨List.nodup_nil,fun s b=>⟨fun h=>(by cases h),fun h=>absurd ?_ h.2⟩⟩;show (bxM m (.string s)).isSome=true;rw [aH6,h.1];rfl
theorem aUo.next {m:ByteArray->Option Bx}{left:Value->Prop}{L:List En}(h:aUo m left L) {s:ByteArray}{b:Bx}(hl:left (.string s)) (hm:m s=some b):aUo m (fun x=>left x /\ x ≠ .string s) (L++[(s,b)]):=by
 refine ⟨?_,fun t c=>?_⟩
 ·rw [List.map_append,List.nodup_append];refine ⟨h.1,by simp,?_⟩;intro x hx y hy e;simp at hy;subst hy;subst e;obtain ⟨z,hz,hze⟩:=List.mem_map.1 hx;exact ((h.2 z.1 z.2).1 hz).2 (by rw [hze];exact hl)
 ·rw [List.mem_append,h.2];constructor
  ·rintro (⟨h1,h2⟩ | h1)
   ·exact ⟨h1,fun h3=>h2 h3.1⟩
   ·simp at h1;obtain ⟨rfl,rfl⟩:=h1;exact ⟨hm,fun h3=>h3.2 rfl⟩
  ·rintro ⟨h1,h2⟩
   by_cases ht:t=s
   ·subst ht;rw [hm] at h1;cases h1;exact .inr (by simp)
   ·refine .inl ⟨h1,fun h3=>h2 ⟨h3,fun e=>ht ?_⟩⟩;simpa using e
theorem aUo.ends {m:ByteArray->Option Bx}{left:Value->Prop}{L:List En}(h:aUo m left L) (hn:∀ k,¬ left k):aPu L m:=⟨h.1,fun s b=>⟨fun h2=>((h.2 s b).1 h2).1,fun h2=>(h.2 s b).2 ⟨h2,hn _⟩⟩⟩
theorem aPu.perm {m:ByteArray->Option Bx}{L K:List En}(h:aPu L m) (hp:K.Perm L):aPu K m:=⟨(hp.map _).nodup_iff.2 h.1,fun s b=>by rw [hp.mem_iff];exact h.2 s b⟩
set_option maxRecDepth 100000 in
set_option maxHeartbeats 4000000 in
theorem aGr {w:World}{p mb N:Nat}{S0:Nat->Prop}{m:ByteArray->Option Bx}{rv:Value}{pk:Bool}(h:IxAt w p mb N S0 m rv pk) (hNb:N<=100000):Calls Tryz.prog 109 #[.pointer (some ⟨p,0,none⟩)] w (aXv w p mb N S0 m):=by
 refine aBQ Tryz.func109 rfl rfl (n:=40) (by decide) fun a E=>?_;have hf:Fr nF_ w w:=Fr.refl _ _;have hpl:p<w.heap.size:=aAe h.hp;have hml:mb<w.heap.size:=h.hm.lt;have hσ:∀ k,S0 k->k<w.heap.size:=h.lt;refine s_ (r_ (ep (v:=(Value.pointer none)) E rfl (a_ rfl rfl) fun a E=>n_ (t_ (s_ (s_ (r_ (ep E rfl (m_ rfl E.g1) fun a E=>ep E rfl (i_ rfl E.g0) fun a E=>ep (v := .pointer (some ⟨p,2,none⟩)) E rfl (aOn rfl E.g0) fun a E=>ep (v := .bool pk) E rfl (aNd rfl E.g0 (bx h.hp 2 rfl)) fun a E=>ep (v := .bool (!pk)) E rfl (aBI rfl E.g0) fun a E=>n_ (t_ ?_))))))))
 cases hq34:pk with
 | false =>
  rw [hq34] at E;rw [hq34] at h;refine c_t E.g0 (s_ (r_ (ep (v := .slice none 0 0) E rfl (a_ rfl rfl) fun a E=>n_ (t_ (s_ (s_ (r_ (ep E rfl (m_ rfl E.g7) fun a E=>ep E rfl (i_ rfl E.g0) fun a E=>ep (v := .pointer (some ⟨p,0,none⟩)) E rfl (aOo rfl E.g0) fun a E=>ep (v := .map (some mb)) E rfl (aGV rfl E.g0 (bx h.hp 0 rfl)) fun a E=>?_))))))));obtain ⟨oi,cnt,hrun,hr,hcn⟩:=aMt u180_ h.hm;have f1:Fr nF_ w (w.alloc oi):=(Fr.refl _ _).alloc _;refine ep (v := .pointer (some ⟨w.heap.size,0,none⟩)) E rfl (aJc hrun rfl E.g0) fun a E=>?_;have h:=IxAt.fr h f1 id id (fun _ _ h=>h);have hf:=hf.trans f1;obtain ⟨r,hre⟩:∃ r,r=w.heap.size:=⟨_,rfl⟩;rw [←hre] at E hr;obtain ⟨wr,hwr⟩:∃ wr,wr=w.alloc oi:=⟨_,rfl⟩;rw [←hwr] at h hf hr ⊢;have hrl:r<wr.heap.size:=hr.lt;clear hrun f1 hwr;refine n_ (t_ (bk_ (wp_loop (fun a w2=>∃ (C:List Nd) (S:Nat->Prop) (v:Value) (left:Value->Prop) (cnt:Nat),Env 40 [(15,.pointer (some ⟨r,0,none⟩)),(3,v),(2,Value.pointer none),(0,.pointer (some ⟨p,0,none⟩))] a /\ Rng Tryz.prog 9 w2 mb r (bxM m) left cnt /\ oNd w2 (r+1) v C /\ aCS w2 S 0 C /\ (∀ k,S k->r<k /\ k<w2.heap.size /\ v.ownBlock≠some k) /\ aUo m left (aC8 C) /\ C.length+cnt<=N /\ IxAt w2 p mb N S0 m rv false /\ Fr nF_ w w2) (fun _ w9=>w9.rangeLeft mb r) ?_ ?_)))
  ·exact ⟨[],fun _=>False,.slice none 0 0,_,cnt,E.of ⟨E.g0,E.g5,E.g11,E.get 12 rfl,trivial⟩,hr,aCU _,(fun c hc=>by cases hc),(fun k hk=>hk.elim),aUo.start,by simpa using hcn,h,hf⟩
  clear E hr h hf hcn;rintro a w2 ⟨C,S,v,left,cnt,E,hr,hO,hN,hS,hE,hcn,h,hf⟩;rw [hr.left_eq];rcases hr.next 0 with ⟨hno,hrun⟩ | ⟨key,v9,wN,cnt2,hl9,hm9,⟨l9,hk9⟩,hrun,hr2,hc9,f9,hent⟩
  ·skip
   refine s_ (r_ (ep (v := .tuple #[.bool false]) E rfl (aKz hrun rfl E.g0) fun a E=>ep (v := .bool false) E rfl (aFd (v := .bool false) rfl rfl E.g0) fun a E=>n_ (t_ (s_ (c_f E.g0 (x_ (te_ (te_ (be_ (t_ (r_ (ep E rfl (m_ rfl E.g5) fun a E=>ep E rfl (m_ rfl E.g6) fun a E=>ep E rfl (m_ rfl E.g5) fun a E=>aBy (d:=31) (R:=fun u w8=>aVY w2 S v C (.returned u) w8) E rfl (by decide) rfl (aAb rfl _) (aBb (enters_of Tryz.func150 (by kernel_rfl) rfl) rfl rfl E.g0) ((aLK hO hN (fun k hk=>⟨(hS k hk).2.1,(hS k hk).2.2⟩) (by omega)).mono fun e w8 hh=>by obtain ⟨u,h1,h2⟩:=hh;exact ⟨u,h1,u,rfl,h2⟩) fun a wp u9 hR E=>?_))))))))))));obtain ⟨rv2,hrv,fP,hcase⟩:=hR;obtain rfl:u9=rv2:=by injection hrv
   obtain ⟨rp,hrp⟩:∃ rp,u9 = .pointer rp:=by
    rcases hcase with ⟨e,_⟩ | ⟨S5,n5,p5,b5,L5,e,_⟩
    ·exact ⟨_,e⟩
    ·exact ⟨_,e⟩
   rw [hrp] at E;have hp9:=fP.obj h.hp (fun e=>by have:=(hO.lt e).1;omega);refine ep E rfl (i_ rfl E.g3) fun a E=>ep (v := .pointer (some ⟨p,1,none⟩)) E rfl (aKR rfl E.g0) fun a E=>aCJ E rfl (aAb rfl _) (aPH rfl E.g0 E.g2 (bx hp9 1 rfl) (aAm hp9 1)) fun E=>?_;have hp8:=aAi (off:=1) hp9 (.pointer rp);have g1:Fr (fun k=>k=p) wp (wp.setCell ⟨p,1,none⟩ (.pointer rp)):=(Fr.refl (fun k=>k=p) wp).setCell (p:=⟨p,1,none⟩) (fun _=>rfl) _;generalize wp.setCell ⟨p,1,none⟩ (.pointer rp)=wq at hp8 g1 ⊢;refine ep E rfl (i_ rfl E.g4) fun a E=>ep (v := .pointer (some ⟨p,2,none⟩)) E rfl (aOn rfl E.g0) fun a E=>aCJ E rfl (aAb rfl _) (aS3 rfl E.g0 rfl (bx hp8 2 rfl) (aAm hp8 2)) fun E=>?_;have hp7:=aAi (off:=2) hp8 (.bool true);have g2:=g1.setCell (p:=⟨p,2,none⟩) (fun _=>rfl) (.bool true);generalize wq.setCell ⟨p,2,none⟩ (.bool true)=wz at hp7 g2 ⊢;refine n_ (t_ (s_ ?_));have hrl9:=hr.lt;have hmn:=aUo.ends hE hno;have fO:Fr nF_ w wp:=hf.trans' fP (fun r1 hr1 e=>by have:=(hO.lt e).1;omega)
   have hN9:∃ S9:Nat->Prop,(∀ k,S9 k->k<wp.heap.size /\ r<k) /\ aLn wp S9 (.pointer rp) m:=by
    rcases hcase with ⟨e,e2⟩ | ⟨S5,n5,p5,b5,L5,e,hN5,hP5,hS5⟩
    ·refine ⟨fun _=>False,fun _ h=>h.elim,.inl ⟨by rw [←hrp,e],fun s=>?_⟩⟩
     cases hx:m s with
     | none=>rfl
     | some c=>have:=(hmn.2 s c).2 hx;rw [e2] at this;cases this
    ·refine ⟨S5,fun k hk=>⟨(hS5 k hk).1,?_⟩,.inr ⟨n5,p5,b5,L5,by rw [←hrp,e],hN5,hmn.perm hP5⟩⟩;rcases (hS5 k hk).2 with h9 | h9
     ·exact (hS k h9).1
     ·omega
   obtain ⟨S9,hS9,hRt⟩:=hN9;have hm9:aDP Tryz.prog 9 wz mb N (bxM m):=(h.hm.fr fP (fun e=>by have:=(hO.lt e).1;omega)).fr g2 (fun e=>h.ne e.symm);have h:=(⟨hp7,hm9,h.ne,fun hk=>by have:=(hS9 _ hk).2;omega,fun hk=>by have:=(hS9 _ hk).2;omega,fun k hk=>Nat.lt_of_lt_of_le (hS9 k hk).1 g2.size,h.ok,⟨_,rfl⟩,fun _=>hRt.fr g2 (fun k hk e=>by have:=(hS9 k hk).2;omega)⟩:IxAt wz p mb N S9 m (.pointer rp) true);have hfz:Fr (fun k=>k=p) w wz:=(fO.mono fun _ _ h=>h.elim).trans' g2 (fun _ _ e=>e);refine r_ (ep (v := .pointer (some ⟨p,0,none⟩)) E rfl (m_ rfl (E.get 13 rfl)) fun a E=>ep E rfl (i_ rfl E.g0) fun a E=>ep (v := .pointer (some ⟨p,1,none⟩)) E rfl (aKR rfl E.g0) fun a E=>ep (v := .pointer rp) E rfl (aAN rfl E.g0 (bx h.hp 1 rfl)) fun a E=>es_ E rfl (a_ rfl E.g0) fun a E=>n_ (t_ (wr_ (aAr (t:=2) rfl E E.g0 ⟨S9,_,rfl,h,hfz,fun k hk => .inr (by have:=(hS9 k hk).2;omega)⟩))))
  ·skip
   obtain ⟨s9,rfl,hs9⟩:=aTe hk9
   obtain ⟨bb,hms,rfl⟩:∃ bb,m s9=some bb /\ v9 = .agg (bxC bb):=by
    rw [aH6] at hm9
    cases hx:m s9 with
    | none=>rw [hx] at hm9;cases hm9
    | some bb=>rw [hx] at hm9;exact ⟨bb,rfl,(Gh_ hm9).symm⟩
   refine s_ (r_ (ep (v := .tuple #[.bool true,.string s9,.agg (bxC bb)]) E rfl (aKz hrun rfl E.g0) fun a E=>?_));have h:=IxAt.fr h f9 (by have:=hr2.lt;omega) (by have:=hr2.lt;omega) (fun k hk e=>by have:=hσ k hk;omega);have hf:=hf.trans' f9 (fun r hr e=>by omega);have hO:=hO.fr f9 (fun k hk e=>by have:=(hO.lt hk).1;omega);have hN:=hN.fr f9 (fun k hk e=>by have:=(hS k hk).1;omega);have hS:=fun k hk=>(⟨(hS k hk).1,Nat.lt_of_lt_of_le (hS k hk).2.1 f9.size,(hS k hk).2.2⟩:r<k /\ k<wN.heap.size /\ v.ownBlock≠some k);clear hrun;refine ep (v := .bool true) E rfl (aFd (v := .bool true) rfl rfl E.g0) fun a E=>n_ (t_ (s_ (c_t E.g0 (k_ (t_ (bk_ (s_ ?_)))))));have hrl9:=hr2.lt;have hOo:=fun k (hk:v.ownBlock=some k)=>(hO.lt hk).2;refine r_ (ep (v := .tuple #[.string s9,.agg (bxC bb)]) E rfl (aNe hent rfl E.g2) fun a E=>ep (v := .string s9) E rfl (aFd (v := .string s9) rfl rfl E.g0) fun a E=>ep (v := .agg (bxC bb)) E rfl (aFd (v := .agg (bxC bb)) rfl rfl E.g1) fun a E=>aCt (d:=5) E rfl (by decide) rfl (aAb rfl _) rfl fun a wa b5 eb5 hb5 f8 E=>ep E rfl (a_ rfl E.g2) fun a E=>aD5 E rfl (aAb rfl _) rfl E.g1 E.g2 hb5 fun wb hb5 f1 E=>?_);have f8:=f8.trans' f1 (fun r hr e=>by omega);clear f1;refine n_ (t_ (r_ (ep E rfl (m_ rfl E.g8) fun a E=>ep (v := .agg (bxC bb)) E rfl (aBi rfl E.g2 (aPZ (p:=bb) hb5 0 rfl rfl rfl rfl)) fun a E=>ep E rfl (m_ rfl E.g2) fun a E=>ep (v := .agg (lfC bb s9)) E rfl (aL3 rfl E.g1 E.g0) fun a E=>?_)));have hwz:=aAe hb5;refine ep (v := .pointer (some ⟨wb.heap.size,0,none⟩)) E rfl (aL6 rfl E.g0) fun a E=>?_;have f1:Fr nF_ wb (wb.alloc (.cells (lfC bb s9) 161)):=(Fr.refl _ _).alloc _;have hu:(wb.alloc (.cells (lfC bb s9) 161)).heap[wb.heap.size]?=some (.cells (lfC bb s9) 161 (0,0)):=aAj _ _;obtain ⟨u,hue⟩:∃ u,u=wb.heap.size:=⟨_,rfl⟩;obtain ⟨wu,hwu⟩:∃ wu,wu=wb.alloc (.cells (lfC bb s9) 161):=⟨_,rfl⟩;have hun:wN.heap.size<=u:=by have:=f8.size;omega
   rw [←hue] at E hu;rw [←hwu] at f1 hu ⊢;have f8:=f8.trans f1;have hul:=aAe hu;clear f1 hwu;refine aIw (c:=(u,bb,[(s9,bb)])) (d:=26) E rfl (by decide) rfl (aAb rfl _) rfl E.g0 fun a w1 bo hso f3 E=>?_;have f8:=f8.trans f3;have hu:=f3.obj hu id;clear f3;have hO:=hO.fr f8 (fun _ _ h=>h);have hws:=f8.size;refine aFO (B:=r+1) (d:=27) E rfl (by decide) rfl rfl rfl E.g5 hO E.g0 hso (fun h=>by cases h) (by simp;omega) (by omega) fun a w3 v8 hO9 f4 hloc E=>es_ E rfl (a_ rfl E.g0) fun a E=>n_ (b_ (t_ ?_));have hu1:=aAe hu;have hr3:=(hr2.fr f8 id id).fr f4 (fun e=>by have:=(hO.lt e).1;omega) (fun e=>by have:=(hO.lt e).1;omega);have h:=(IxAt.fr h f8 id id (fun _ _ h=>h)).fr f4 (fun e=>by have:=(hO.lt e).1;omega) (fun e=>by have:=(hO.lt e).1;omega) (fun k hk e=>by have:=(hO.lt e).1;have:=hσ k hk;omega);have hf:=(hf.trans f8).trans' f4 (fun r1 hr1 e=>by have:=(hO.lt e).1;omega);have hu2:=f4.obj hu (fun e=>by have:=(hO.lt e).2;have:=hOo _ e;omega)
   have hNn:aCS w3 (fun k=>S k∨k=u) 0 (C++[(u,bb,[(s9,bb)])]):=by
    intro c hc;rcases List.mem_append.1 hc with hc | hc
    ·exact (((hN c hc).fr f8 (fun _ _ h=>h)).fr f4 (fun k hk e=>(hS k hk).2.2 e)).mono (fun k hk => .inl hk)
    ·simp only [Gd_] at hc;subst hc;exact ⟨⟨.inr rfl,h.ok s9 bb hms⟩,s9,hu2,rfl⟩
   have hSn:∀ k,(S k∨k=u)->r<k /\ k<w3.heap.size /\ v8.ownBlock≠some k:=by
    intro k hk;have hz4:=f4.size;have hz9:=hu1;rcases hk with hk | rfl
    ·have h9:=hS k hk;refine ⟨h9.1,by omega,fun e=>?_⟩;rcases hloc with e2 | e2
     ·rw [e2] at e;exact h9.2.2 e
     ·rw [e2] at e;have:=Gh_ e;omega
    ·refine ⟨by omega,by omega,fun e=>?_⟩;rcases hloc with e2 | e2
     ·rw [e2] at e;have:=hOo _ e;omega
     ·rw [e2] at e;have:=Gh_ e;omega
   have hEn:aUo m (fun x=>left x /\ x ≠ .string s9) (aC8 (C++[(u,bb,[(s9,bb)])])):=by
    have:=hE.next hl9 hms;simpa [aC8] using this
   refine ⟨⟨_,_,v8,_,cnt2,E.of ⟨E.get 15 rfl,E.g0,E.get 16 rfl,E.get 17 rfl,trivial⟩,hr3,hO9,hNn,hSn,hEn,by simp;omega,h,hf⟩,?_⟩;rw [hr3.left_eq];exact hc9
 | true =>
  rw [hq34] at E;rw [hq34] at h;refine c_f E.g0 (k_ (t_ (s_ (r_ (ep E rfl (m_ rfl E.g6) fun a E=>ep E rfl (i_ rfl E.g0) fun a E=>ep (v := .pointer (some ⟨p,1,none⟩)) E rfl (aKR rfl E.g0) fun a E=>ep (v:=rv) E rfl (aAN rfl E.g0 (bx h.hp 1 rfl)) fun a E=>es_ E rfl (a_ rfl E.g0) fun a E=>n_ (t_ (wr_ (aAr (t:=2) rfl E E.g0 ⟨S0,rv,rfl,h,hf.mono fun _ _ h=>h.elim,fun k hk => .inl hk⟩))))))))
end Go.Proofs.YtngjlnhojicjeaaGreatDoor
namespace Go.Proofs
open Go.Shelf
def Tryz.sortS_ren:Go.Shelf.Ren:=⟨fun | 6=>110 | 8=>152 | 9=>151 | 19=>210 | 20=>211 | 21=>201 | 22=>202 | 23=>203 | 24=>204 | 25=>205 | 26=>206 | 27=>207 | 28=>208 | 29=>209 | 36=>236 | 31=>237 | 32=>238 | 37=>239 | 38=>240 | 39=>241 | 41=>267 | n=>n,fun | 27=>45 | 29=>9 | 3=>3 | 32=>139 | 26=>45 | 0=>0 | 44=>301 | 46=>164 | 4=>4 | 36=>294 | 35=>293 | 41=>77 | 5=>5 | 9=>9 | 53=>334 | 57=>338 | 63=>375 | 64=>376 | n=>n,fun | n=>n⟩
theorem Tryz.sortS:Go.Proofs.SlLaysM.n6 Tryz.prog Tryz.sortS_ren:={
  mixed:=by kernel_rfl
  f6:=⟨Tryz.f110.name,by decide,Tryz.func110.trans (congrArg some (by kernel_rfl))⟩
  f8:=Tryz.func152.trans (congrArg some (by kernel_rfl))
  f9:=⟨Tryz.f151.name,by decide,Tryz.func151.trans (congrArg some (by kernel_rfl))⟩
  f19:=Tryz.func210.trans (congrArg some (by kernel_rfl))
  f20:=Tryz.func211.trans (congrArg some (by kernel_rfl))
  f21:=⟨Tryz.f201.name,by decide,Tryz.func201.trans (congrArg some (by kernel_rfl))⟩
  f22:=⟨Tryz.f202.name,by decide,Tryz.func202.trans (congrArg some (by kernel_rfl))⟩
  f23:=⟨Tryz.f203.name,by decide,Tryz.func203.trans (congrArg some (by kernel_rfl))⟩
  f24:=⟨Tryz.f204.name,by decide,Tryz.func204.trans (congrArg some (by kernel_rfl))⟩
  f25:=⟨Tryz.f205.name,by decide,Tryz.func205.trans (congrArg some (by kernel_rfl))⟩
  f26:=⟨Tryz.f206.name,by decide,Tryz.func206.trans (congrArg some (by kernel_rfl))⟩
  f27:=⟨Tryz.f207.name,by decide,Tryz.func207.trans (congrArg some (by kernel_rfl))⟩
  f28:=⟨Tryz.f208.name,by decide,Tryz.func208.trans (congrArg some (by kernel_rfl))⟩
  f29:=⟨Tryz.f209.name,by decide,Tryz.func209.trans (congrArg some (by kernel_rfl))⟩
  f31:=Tryz.func237.trans (congrArg some (by kernel_rfl))
  f32:=Tryz.func238.trans (congrArg some (by kernel_rfl))
  f36:=⟨Tryz.f236.name,by decide,Tryz.func236.trans (congrArg some (by kernel_rfl))⟩
  f37:=⟨Tryz.f239.name,by decide,Tryz.func239.trans (congrArg some (by kernel_rfl))⟩
  f38:=⟨Tryz.f240.name,by decide,Tryz.func240.trans (congrArg some (by kernel_rfl))⟩
  f39:=⟨Tryz.f241.name,by decide,Tryz.func241.trans (congrArg some (by kernel_rfl))⟩
  f41:=⟨Tryz.f267.name,by decide,Tryz.func267.trans (congrArg some (by kernel_rfl))⟩
  t0:=Tryz.underlying0
  a0:=Tryz.isAgg0
  z0:=Tryz.sizeOf0
  v0:=Tryz.zeroValue0
  t3:=Tryz.underlying3
  a3:=Tryz.isAgg3
  z3:=Tryz.sizeOf3
  v3:=Tryz.zeroValue3
  t4:=Tryz.underlying4
  a4:=Tryz.isAgg4
  z4:=Tryz.sizeOf4
  v4:=Tryz.zeroValue4
  t5:=Tryz.underlying5
  a5:=Tryz.isAgg5
  z5:=Tryz.sizeOf5
  v5:=Tryz.zeroValue5
  t9:=Tryz.underlying9
  a9:=Tryz.isAgg9
  z9:=Tryz.sizeOf9
  v9:=Tryz.zeroValue9
  t26:=Tryz.underlying45
  a26:=Tryz.isAgg45
  z26:=Tryz.sizeOf45
  v26:=Tryz.zeroValue45
  t27:=Tryz.underlying45
  a27:=Tryz.isAgg45
  z27:=Tryz.sizeOf45
  v27:=Tryz.zeroValue45
  t29:=Tryz.underlying9
  a29:=Tryz.isAgg9
  z29:=Tryz.sizeOf9
  v29:=Tryz.zeroValue9
  t32:=Tryz.underlying139
  a32:=Tryz.isAgg139
  z32:=Tryz.sizeOf139
  v32:=Tryz.zeroValue139
  t35:=Tryz.underlying293
  a35:=Tryz.isAgg293
  z35:=Tryz.sizeOf293
  v35:=Tryz.zeroValue293
  t36:=Tryz.underlying294
  a36:=Tryz.isAgg294
  z36:=Tryz.sizeOf294
  v36:=Tryz.zeroValue294
  t41:=Tryz.underlying77
  a41:=Tryz.isAgg77
  z41:=Tryz.sizeOf77
  v41:=Tryz.zeroValue77
  t44:=Tryz.underlying301
  a44:=Tryz.isAgg301
  z44:=Tryz.sizeOf301
  v44:=Tryz.zeroValue301
  t46:=Tryz.underlying164
  a46:=Tryz.isAgg164
  z46:=Tryz.sizeOf164
  v46:=Tryz.zeroValue164
  t53:=Tryz.underlying334
  a53:=Tryz.isAgg334
  z53:=Tryz.sizeOf334
  v53:=Tryz.zeroValue334
  t57:=Tryz.underlying338
  a57:=Tryz.isAgg338
  z57:=Tryz.sizeOf338
  v57:=Tryz.zeroValue338
  t63:=Tryz.underlying375
  a63:=Tryz.isAgg375
  z63:=Tryz.sizeOf375
  v63:=Tryz.zeroValue375
  t64:=Tryz.underlying376
  a64:=Tryz.isAgg376
  z64:=Tryz.sizeOf376
  v64:=Tryz.zeroValue376 }
end Go.Proofs
namespace Go.Proofs.YtngjlnhojicjeaaGreatDoor
open Go.RowKit Go.Pl Go.Sort Go.Shelf
abbrev sl (s t:ByteArray):Prop:=Op.bytesLess s.toList t.toList=true
theorem aVI:∀ (x y:List UInt8),Op.bytesLess x y=decide (x<y)
 | [],[]=>by simp [Op.bytesLess]
 | _::_,[]=>by simp [Op.bytesLess]
 | [],_::_=>by simp [Op.bytesLess]
 | a::x,b::y=>by
  rw [Op.bytesLess,aVI x y];simp only [List.cons_lt_cons_iff]
  by_cases h1:a<b<;>by_cases h2:a=b<;>by_cases h3:x<y<;>simp [h1,h2,h3]
theorem aHS (s t:ByteArray):sl s t↔s.data.toList<t.data.toList:=by
 unfold sl;rw [aVI,decide_eq_true_iff,ByteArray.toList_eq,ByteArray.toList_eq]
theorem aHR (s:ByteArray):¬ sl s s:=by rw [aHS];exact List.lt_irrefl _
theorem aKp {s t u:ByteArray}(h:sl s t) (k:sl t u):sl s u:=by rw [aHS] at *;exact List.lt_trans h k
theorem aVL {s t:ByteArray}(h:s.data.toList=t.data.toList):s=t:=ByteArray.ext (Array.toList_inj.1 h)
theorem aHQ (s t:ByteArray):sl s t∨s=t∨sl t s:=by
 rw [aHS,aHS]
 by_cases h1:s.data.toList<t.data.toList
 ·exact .inl h1
 ·by_cases h2:t.data.toList<s.data.toList
  ·exact .inr (.inr h2)
  ·exact .inr (.inl (aVL (List.le_antisymm (by simpa using h2) (by simpa using h1))))
def aDZ (A:List ByteArray):List ByteArray:=((A.map fun s=>s.data.toList).mergeSort fun x y=>decide (x<=y)).map fun l=>⟨l.toArray⟩
theorem aEw (A:List ByteArray):(aDZ A).Perm A:=by
 have h:=(List.mergeSort_perm (A.map fun s=>s.data.toList) (fun x y=>decide (x<=y))).map (fun l:List UInt8=>(⟨l.toArray⟩:ByteArray));rw [List.map_map] at h;have e:((fun l:List UInt8=>(⟨l.toArray⟩:ByteArray))∘fun s:ByteArray=>s.data.toList)=id:=by funext s;simp
 rw [e,List.map_id] at h;exact h
theorem aDY (A:List ByteArray):(aDZ A).length=A.length:=(aEw A).length_eq
theorem aSx (A:List ByteArray):(aDZ A).Pairwise fun s t=>¬ sl t s:=by
 unfold aDZ;rw [List.pairwise_map];refine (List.pairwise_mergeSort (le:=fun x y:List UInt8=>decide (x<=y)) ?_ ?_ _).imp ?_
 ·intro a b c h1 h2;simp only [decide_eq_true_eq] at *;exact List.le_trans h1 h2
 ·intro a b;simp only [Bool.or_eq_true,decide_eq_true_eq];exact List.le_total a b
 ·intro a b h;rw [aHS];simpa using h
theorem aSw {A:List ByteArray}(h:A.Nodup):(aDZ A).Pairwise sl:=by
 have h1:=aSx A;have h2:(aDZ A).Pairwise (· ≠ ·):=(aEw A).nodup_iff.2 h;refine (h1.and h2).imp ?_;rintro s t ⟨h3,h4⟩;rcases aHQ s t with h | h | h
 ·exact h
 ·exact absurd h h4
 ·exact absurd h h3
theorem aIW {w:World}{B:Nat}{v:Value}{A:List ByteArray}(hO:aEc w B v A) (hl:A.length<=10000000):Calls Tryz.prog 110 #[v] w fun e w'=>e = .returned (.tuple #[]) /\ aEc w' B v (aDZ A) /\ Fr (fun k=>v.ownBlock=some k) w w':=by
 by_cases hne:A=[]
 ·subst hne;obtain ⟨p,cap,rfl,_⟩:=hO.src aBA;exact (AnyM.slices_Sort_string_none Tryz.sortS p cap w).mono fun e w' ⟨h1,h2⟩=>⟨h1,by rw [h2,show aDZ []=[] from List.eq_nil_of_length_eq_zero (aDY [])];exact hO,by rw [h2];exact Fr.refl _ _⟩
 ·obtain ⟨hlen,⟨_,h0⟩ | ⟨g,cap,cur,rfl,hB,hb,h4,h5,h6,h7⟩⟩:=hO
  ·exact absurd (List.eq_nil_of_length_eq_zero h0) hne
  ·have hal:(A.map fun s=>s.data.toList).length=A.length:=by simp
   have hcell:∀ (j:Nat) s,A[j]?=some s->cur[j]?=some (.string s):=fun j s hs=>by
    have hi:=(List.getElem?_eq_some_iff.1 hs).1;have:=aBM aBA A j s hs 0 (by omega);rw [←h7] at this;simp only [Nat.mul_one,Nat.add_zero] at this;rw [List.getElem?_take_of_lt hi,Array.getElem?_toList] at this;exact this
   have:=AnyM.slices_Sort_string Tryz.sortS g 0 cap (A.map fun s=>s.data.toList) w (fun j hj=>by
    simp only [List.size_toArray,hal] at hj;refine ⟨?_,aAm hb _⟩;obtain ⟨s,hs⟩:∃ s,A[j]?=some s:=⟨_,Gb_ hj⟩;rw [aAk hb,Nat.zero_add,hcell j s hs];rw [getElem!_pos _ j (by simpa using hj)];have:A[j]=s:=(List.getElem?_eq_some_iff.1 hs).2;simp [this]) (aAe hb) (by rw [hal];omega)
   rw [hal] at this;refine Calls.mono this ?_;rintro e w' ⟨he,n,os,rfl⟩;obtain ⟨c1,c2⟩:=aMD encStr hb 0 n ((A.map fun s=>s.data.toList).mergeSort fun x y=>decide (x<=y)).toArray os;unfold sortWorld at c1 c2;refine ⟨he,?_,c2.mono fun r _ e=>by rw [e];rfl⟩;have hml:((A.map fun s=>s.data.toList).mergeSort fun x y=>decide (x<=y)).length=A.length:=by rw [List.length_mergeSort,hal]
   refine ⟨?_,.inr ⟨g,cap,_,?_,hB,c1,?_,h5,?_,?_⟩⟩
   ·rw [aAK aBA]
   ·rw [aDY]
   ·rw [aDY];exact h4
   ·rw [←h6];unfold putCells;simp
   ·apply List.ext_getElem?;intro i;rw [aDY,Nat.mul_one]
    by_cases hi:i<A.length
    ·rw [List.getElem?_take_of_lt hi,Array.getElem?_toList];obtain ⟨l,hl2⟩:∃ l,((A.map fun s=>s.data.toList).mergeSort fun x y=>decide (x<=y))[i]?=some l:=⟨_,Gb_ (by omega)⟩;have h8:(aDZ A)[i]?=some ⟨l.toArray⟩:=by unfold aDZ;rw [Gq_,hl2];rfl
     have h9:=aBM aBA (aDZ A) i _ h8 0 (by omega);simp only [Nat.mul_one,Nat.add_zero] at h9;rw [h9];unfold putCells;have hcs:i<cur.size:=by rw [h6];omega
     rw [Array.getElem?_mapIdx,Array.getElem?_eq_getElem hcs];simp only [Option.map_some,Gg_,true_and,Nat.zero_add,List.size_toArray,hml,Nat.sub_zero];rw [if_pos hi,getElem!_pos _ i (by simpa [hml] using hi)];have:((A.map fun s=>s.data.toList).mergeSort fun x y=>decide (x<=y))[i]'(by omega)=l:=(List.getElem?_eq_some_iff.1 hl2).2;simp [this]
    ·have h8:((aDZ A).flatMap aUf).length<=i:=by rw [aAK aBA,aDY];omega
     rw [List.getElem?_eq_none h8,List.getElem?_eq_none];rw [Gp_];omega
theorem aNU {α:Type}[DecidableEq α]:∀ (l k:List α),l.Nodup->(∀ x∈l,x∈k)->l.length<=k.length
 | [],k,_,_=>Gg_ _
 | a::l,k,hn,hs=>by
  have ha:=hs a (by simp)
  have h1:=aNU l (k.erase a) (List.nodup_cons.1 hn).2 (fun x hx=>by
   have hxa:x≠a:=fun e=>(List.nodup_cons.1 hn).1 (e▸hx);exact (List.mem_erase_of_ne hxa).2 (hs x (by simp [hx])))
  rw [List.length_erase_of_mem ha] at h1;have:=List.length_pos_of_mem ha;simp only [Gf_];omega
theorem aPu.len {w:World}{mb N:Nat}{m:ByteArray->Option Bx}{L:List En}(h:aPu L m) (hm:aDP Tryz.prog 9 w mb N (bxM m)):L.length<=N:=by
 obtain ⟨es,c,_,hE,hs⟩:=hm
 have h1:(L.map (·.1)).length<=(es.toList.map fun e=>match e.key with | .string s=>s | _=>ByteArray.empty).length:=by
  refine aNU _ _ h.1 fun s hs=>?_;obtain ⟨x,hx,rfl⟩:=List.mem_map.1 hs;have h2:=(h.2 x.1 x.2).1 hx;obtain ⟨e,he,hk,_⟩:=(hE.at_ (.string x.1) (.agg (bxC x.2))).1 (by rw [aH6,h2];rfl);exact List.mem_map.2 ⟨e,he,by rw [hk]⟩
 simp only [Go_,Array.length_toList] at h1;omega
section
variable {o:Oper}{w:World}{ρ:Operand->Value}{x y z:Operand}{g off:Nat}{v v1 v2 v3:Value}
theorem aMW (ho:o.op = .binOp .eql 157 x y 157) (hx:ρ x = .pointer none) (hy:ρ y = .pointer none):(execOp ρ o).run Tryz.prog w = .ok (.value (.bool true)) w:=by
 simp [execOp,ho,hx,hy,go_sem]
theorem aJk (ho:o.op = .alloc 45):(execOp ρ o).run Tryz.prog w = .ok (.value (.pointer (some ⟨w.heap.size,0,none⟩))) (w.alloc (.cells #[.slice none 0 0] 45)):=by
 simp [execOp,ho,go_sem]
theorem aJj (ho:o.op = .alloc 156):(execOp ρ o).run Tryz.prog w = .ok (.value (.pointer (some ⟨w.heap.size,0,none⟩))) (w.alloc (.cells #[.nilFunc] 156)):=by
 simp [execOp,ho,go_sem]
theorem aMZ (ho:o.op = .makeFunc (.func 107) #[] #[x,y,z]) (hx:ρ x=v1) (hy:ρ y=v2) (hz:ρ z=v3):(execOp ρ o).run Tryz.prog w = .ok (.value (.func (.func 107) #[] #[v1,v2,v3])) w:=by
 simp [execOp,ho,hx,hy,hz,go_sem]
theorem aPG {u:Value}{f:Fn}{a b:Array Value}(ho:o.op = .store 156 x y) (hx:ρ x = .pointer (some ⟨g,off,none⟩)) (hy:ρ y = .func f a b) (hc:w.cell? ⟨g,off,none⟩=some u) (hz:w.frozen? ⟨g,off,none⟩=false):(execOp ρ o).run Tryz.prog w = .ok .skip (w.setCell ⟨g,off,none⟩ (.func f a b)):=by
 have hs:=run_store Tryz.prog w ⟨g,off,none⟩ (.func f a b) .plain rfl;simp [execOp,ho,hx,hy,go_sem,hc,hz,hs]
end
section
variable {O:Array Oper}{Q:Exit->Act->World->Prop}{rest:List Oper}{o:Oper}{a:Act}{w:World}{n d:Nat}{L:List (Nat×Value)}{x y:Operand}{ds:List Deferred}
theorem aJG (E:EnvD ds n L a) (hd:o.dst=some d) (hn:d<n) (hf:(L.map (·.1)).contains d=false) (hw:Region.wanted o (yielded O a.tmps)=true) (ho:o.op = .alloc 45)
  (k:∀ a' w' b,w.heap.size=b->w'.heap[b]?=some (.cells #[.slice none 0 0] 45 (0,0))->Fr nF_ w w'->EnvD ds n ((d,.pointer (some ⟨b,0,none⟩))::L) a'->wpList Tryz.prog O Q rest a' w'):wpList Tryz.prog O Q (o::rest) a w :=
 aB4 E hd hn hf hw (aJk ho) fun a' E'=>k a' _ _ rfl (aAj _ _) ((Fr.refl _ _).alloc _) E'
theorem aJF (E:EnvD ds n L a) (hd:o.dst=some d) (hn:d<n) (hf:(L.map (·.1)).contains d=false) (hw:Region.wanted o (yielded O a.tmps)=true) (ho:o.op = .alloc 156)
  (k:∀ a' w' b,w.heap.size=b->w'.heap[b]?=some (.cells #[.nilFunc] 156 (0,0))->Fr nF_ w w'->EnvD ds n ((d,.pointer (some ⟨b,0,none⟩))::L) a'->wpList Tryz.prog O Q rest a' w'):wpList Tryz.prog O Q (o::rest) a w :=
 aB4 E hd hn hf hw (aJj ho) fun a' E'=>k a' _ _ rfl (aAj _ _) ((Fr.refl _ _).alloc _) E'
end
def WkR (w:World) (bo B:Nat) (m:ByteArray->Option Bx) (q:Bx) (e:Ending) (w':World):Prop :=
 e = .returned (.tuple #[]) /\ ∃ v' L,aPu L m /\ w'.heap[bo]?=some (.cells #[v'] 45 (0,0)) /\ aEc w' B v' (aCl L q) /\ Fr (fun k=>k=bo∨B<=k) w w'
def InR (m:ByteArray->Option Bx) (q:Bx) (R:List ByteArray):Prop:=R.Pairwise sl /\ ∀ s,s∈R↔∃ c,m s=some c /\ mtB c q
theorem InR.of {m:ByteArray->Option Bx}{L:List En}(h:aPu L m) (q:Bx):InR m q (aDZ (aCl L q)):=by
 refine ⟨aSw (List.Nodup.sublist ((List.filter_sublist).map _) h.1),fun s=>?_⟩;rw [(aEw _).mem_iff];unfold aCl;constructor
 ·intro hs;obtain ⟨x,hx,rfl⟩:=List.mem_map.1 hs;have h1:=List.mem_filter.1 hx;exact ⟨x.2,(h.2 x.1 x.2).1 h1.1,by simpa using h1.2⟩
 ·rintro ⟨c,h1,h2⟩;exact List.mem_map.2 ⟨(s,c),List.mem_filter.2 ⟨(h.2 s c).2 h1,by simpa using h2⟩,rfl⟩
def aPl (w:World) (p mb N:Nat) (S:Nat->Prop) (m:ByteArray->Option Bx) (C:Nat) (w':World):Prop:=∃ S' rv' pk',IxAt w' p mb N S' m rv' pk' /\ Fr (fun k=>k=p) w w' /\ ∀ k,S' k->(S k∨w.heap.size<=k) /\ k<C
def InP (w:World) (p mb N:Nat) (S:Nat->Prop) (m:ByteArray->Option Bx) (q:Bx) (e:Ending) (w':World):Prop :=
 ∃ v R C,e = .returned v /\ w.heap.size<=C /\ aEc w' C v R /\ (if okB q then InR m q R else R=[]) /\ aPl w p mb N S m C w'
set_option maxRecDepth 100000 in
set_option maxHeartbeats 4000000 in
theorem aP0 {v1 v2 v3:Value}(w:World):Calls Tryz.prog 107 #[.pointer none,v1,v2,v3] w fun e w'=>e = .returned (.tuple #[]) /\ Fr nF_ w w':=by
 refine aFp Tryz.func107 rfl rfl (n:=43) (by decide) fun a E=>?_;have hf:Fr nF_ w w:=Fr.refl _ _;refine s_ (s_ (aC4 (n:=43) (base:=[(0,Value.pointer none),(1,v1),(2,v2),(3,v3)]) (T:=[some (7,Value.pointer none),some (8,.bool true),some (9,.bool true),some (10,undef),some (11,undef),some (12,undef),some (13,undef),some (14,undef),some (15,undef),some (16,undef),some (17,.bool true)]) (M:=fun _ wm=>Fr nF_ w wm) (by kernel_rfl) (by kernel_rfl) (by kernel_rfl) (E.of ⟨E.g0,E.g1,E.g2,E.g3,trivial⟩) (Fr.refl _ _).drew ?_ ?_))
 ·intro j9 o9 t9 ls9 a w5 ho hT0 hl E D DL hM
  match j9,ho,hT0,hl,D,DL with
  | 0,ho,hT0,hl,D,DL=>exact y0_ ho hT0 (aAd (m_ rfl E.g0) rfl hM)
  | 1,ho,hT0,hl,D,DL=>exact y0_ ho hT0 (aAd (aMW rfl (D 0 _ rfl rfl) rfl) rfl hM)
  | 2,ho,hT0,hl,D,DL=>exact y0_ ho hT0 (aAd (m_ rfl (D 1 _ rfl rfl)) rfl hM)
  | 3,ho,hT0,hl,D,DL=>exact y2_ ho hT0 E (D 2 _ rfl rfl) hM
  | 4,ho,hT0,hl,D,DL=>exact y2_ ho hT0 E (D 2 _ rfl rfl) hM
  | 5,ho,hT0,hl,D,DL=>exact y2_ ho hT0 E (D 2 _ rfl rfl) hM
  | 6,ho,hT0,hl,D,DL=>exact y2_ ho hT0 E (D 2 _ rfl rfl) hM
  | 7,ho,hT0,hl,D,DL=>exact y2_ ho hT0 E (D 2 _ rfl rfl) hM
  | 8,ho,hT0,hl,D,DL=>exact y2_ ho hT0 E (D 2 _ rfl rfl) hM
  | 9,ho,hT0,hl,D,DL=>exact y2_ ho hT0 E (D 2 _ rfl rfl) hM
  | 10,ho,hT0,hl,D,DL=>exact y0_ ho hT0 (aAd (aAB rfl (D 2 _ rfl rfl) rfl) rfl hM)
  | j9+11,ho,hT0,hl,D,DL=>exact absurd hT0 (by simp)
 ·intro a w5 E V hM;have E:=E.add (V 10 _ rfl);clear V;have hf:=hf.trans hM;clear hM;refine t_ (c_t E.g0 (wr_ (tr_ ((aCa rfl E ⟨rfl,hf⟩).2))))
theorem aIP {w:World}{p mb N bq bo bw B:Nat}{S:Nat->Prop}{m:ByteArray->Option Bx}{rv:Value}{q:Bx}(h:IxAt w p mb N S m rv true) (hN:N<=100000) (hbo:bo<B) (hbq:bq<B) (hbw:bw<B) (nq:bq≠bo) (nw:bw≠bo) (hS:∀ k,S k->k<B /\ k≠bo) (hq:bxB w bq q) (hu:w.heap[bo]?=some (.cells #[.slice none 0 0] 45 (0,0)))
  (hw:w.heap[bw]?=some (.cells #[(.func (.func 107) #[] #[.pointer (some ⟨bq,0,none⟩),.pointer (some ⟨bo,0,none⟩),.pointer (some ⟨bw,0,none⟩)])] 156 (0,0))) (hB:B<=w.heap.size):Calls Tryz.prog 107 #[rv,.pointer (some ⟨bq,0,none⟩),.pointer (some ⟨bo,0,none⟩),.pointer (some ⟨bw,0,none⟩)] w (WkR w bo B m q):=by
 rcases h.tree rfl with ⟨rfl,hn⟩ | ⟨n,pn,b,L,rfl,hNd,hE⟩
 ·refine (aP0 w).mono ?_;rintro e w' ⟨he,hf⟩;exact ⟨he,_,[],⟨List.nodup_nil,fun s b=>⟨fun h=>(by cases h),fun h=>by rw [hn s] at h;cases h⟩⟩,hf.obj hu id,aCU _,hf.mono fun _ _ h=>h.elim⟩
 ·refine (aIO hbo hbq hbw nq nw hS n hNd (A:=[]) hq hu (aCU _) hw hB (by have:=hE.len h.hm;simp;omega)).mono ?_;rintro e w' ⟨he,v',h1,h2,h3⟩;exact ⟨he,v',L,hE,h1,by simpa using h2,h3⟩
set_option maxRecDepth 100000 in
set_option maxHeartbeats 4000000 in
theorem aQI {w:World}{p mb N:Nat}{S:Nat->Prop}{m:ByteArray->Option Bx}{rv:Value}{pk:Bool}(h:IxAt w p mb N S m rv pk) (hNb:N<=100000) (b:Bx):Calls Tryz.prog 59 #[.pointer (some ⟨p,0,none⟩),.agg (bxC b)] w (InP w p mb N S m b):=by
 have h0:=h;refine aAR Tryz.func59 rfl rfl (n:=52) (by decide) fun a E=>?_;have hf:Fr nF_ w w:=Fr.refl _ _;have hpl:p<w.heap.size:=aAe h.hp;have hml:mb<w.heap.size:=h.hm.lt;have hσ:∀ k,S k->k<w.heap.size:=h.lt;refine s_ (r_ ?_);have hfz:=hf.size;refine aCK (d:=3) E rfl (by decide) rfl (aAb rfl _) rfl E.g1 fun a w1 aa ab hb37 f1 E=>?_;have h:=IxAt.fr h f1 id id (fun _ _ h=>h);have hf:=hf.trans f1;clear f1;have hnb37:w.heap.size<=aa:=by omega
 clear hfz ab;refine ep (v := .slice none 0 0) E rfl (a_ rfl rfl) fun a E=>n_ (t_ (s_ (s_ (r_ (ep E rfl (m_ rfl E.g2) fun a E=>ep (v := .bool false) E rfl (aGT rfl E.g0 rfl) fun a E=>ep E rfl (m_ rfl E.g0) fun a E=>eg (v := .pointer (some ⟨aa,0,none⟩)) E rfl (wy_ E E.g0) (aBr rfl E.g4) fun a E=>eg (v := .pointer (some ⟨aa,0,none⟩)) E rfl (wy_ E E.g1) (aBh rfl E.g0) fun a E=>eg (v := .int .i64 b.1.1) E rfl (wy_ E E.g2) (aAn rfl E.g0 (bx hb37 0 rfl)) fun a E=>eg (v := .pointer (some ⟨aa,0,none⟩)) E rfl (wy_ E E.g3) (aBr rfl E.g7) fun a E=>eg (v := .pointer (some ⟨aa,1,none⟩)) E rfl (wy_ E E.g4) (aAV rfl E.g0) fun a E=>eg (v := .int .i64 b.1.2) E rfl (wy_ E E.g5) (aAn rfl E.g0 (bx hb37 1 rfl)) fun a E=>eg (v := .pointer (some ⟨aa,2,none⟩)) E rfl (wy_ E E.g6) (aBq rfl E.g10) fun a E=>eg (v := .pointer (some ⟨aa,2,none⟩)) E rfl (wy_ E E.g7) (aBh rfl E.g0) fun a E=>eg (v := .int .i64 b.2.1) E rfl (wy_ E E.g8) (aAn rfl E.g0 (bx hb37 2 rfl)) fun a E=>eg (v := .pointer (some ⟨aa,2,none⟩)) E rfl (wy_ E E.g9) (aBq rfl (E.get 13 rfl)) fun a E=>eg (v := .pointer (some ⟨aa,3,none⟩)) E rfl (wy_ E E.g10) (aAV rfl E.g0) fun a E=>eg (v := .int .i64 b.2.2) E rfl (wy_ E E.g11) (aAn rfl E.g0 (bx hb37 3 rfl)) fun a E=>aMh (d:=22) E rfl (by decide) rfl (wy_ E (E.get 12 rfl)) rfl E.g9 E.g6 E.g3 E.g0 fun a w1 ac hs4 f1 E=>?_)))));have h:=IxAt.fr h f1 id id (fun _ _ h=>h);have hb37:=f1.obj hb37 id;have hf:=hf.trans f1;clear f1;refine aD6 (d:=23) (v := .bool (List.all [b.1.1,b.1.2,b.2.1,b.2.2] fun n9=>decide (isI n9))) E rfl (by decide) rfl (wy_ E (E.get 13 rfl)) (aBb (enters_of Tryz.func106 (by kernel_rfl) rfl) rfl rfl E.g0) (aHL hs4 (by simp)) fun a w1 f1 E=>?_;have h:=IxAt.fr h f1 id id (fun _ _ h=>h);have hb37:=f1.obj hb37 id;have hs4:=hs4.fr f1 (fun _ _ h=>h);have hf:=hf.trans f1;clear f1;refine eg (v := .bool (!(List.all [b.1.1,b.1.2,b.2.1,b.2.2] fun n9=>decide (isI n9)))) E rfl (wy_ E (E.get 14 rfl)) (aBI rfl E.g0) fun a E=>ep (v := .bool (!(List.all [b.1.1,b.1.2,b.2.1,b.2.2] fun n9=>decide (isI n9)))) E rfl (aAt rfl (E.get 15 rfl) E.g0) fun a E=>ep E rfl (m_ rfl E.g0) fun a E=>?_;cases hq39:(List.all [b.1.1,b.1.2,b.2.1,b.2.2] fun n9=>decide (isI n9))
 ·rw [hq39] at E;refine ek E rfl rfl E.g0 fun a E=>ek E rfl rfl E.g1 fun a E=>ek E rfl rfl E.g2 fun a E=>ek E rfl rfl E.g3 fun a E=>ek E rfl rfl E.g4 fun a E=>ek E rfl rfl E.g5 fun a E=>ek E rfl rfl E.g6 fun a E=>ep (v := .bool true) E rfl (aAB rfl E.g7 rfl) fun a E=>ep E rfl (m_ rfl E.g0) fun a E=>ek E rfl rfl E.g0 fun a E=>ek E rfl rfl E.g1 fun a E=>ek E rfl rfl E.g2 fun a E=>ek E rfl rfl E.g3 fun a E=>ek E rfl rfl E.g4 fun a E=>ek E rfl rfl E.g5 fun a E=>ek E rfl rfl E.g6 fun a E=>ep (v := .bool true) E rfl (aAB rfl E.g7 rfl) fun a E=>n_ (t_ (c_t E.g0 (s_ (r_ (es_ (v := .slice none 0 0) E rfl (a_ rfl rfl) fun a E=>n_ (t_ (wr_ (tr_ ?_))))))))
  have hno:¬ okB b:=fun hok=>by
   have hal:=aJu hok
   first | (rw [hal] at hq39;exact Bool.noConfusion hq39) | (obtain ⟨_,_,q1,q2⟩:=hok;omega)
  refine aAr (t:=4) rfl E E.g0 ?_;exact ⟨_,[],w.heap.size,rfl,Gj_ _,aCU _,by rw [if_neg hno],S,rv,pk,h,hf.mono fun _ _ h=>h.elim,fun k hk=>⟨.inl hk,h0.lt k hk⟩⟩
 rw [hq39] at E;refine eg (v := .pointer (some ⟨aa,0,none⟩)) E rfl (wy_ E E.g0) (aBr rfl (E.get 21 rfl)) fun a E=>eg (v := .pointer (some ⟨aa,0,none⟩)) E rfl (wy_ E E.g1) (aBh rfl E.g0) fun a E=>eg (v := .int .i64 b.1.1) E rfl (wy_ E E.g2) (aAn rfl E.g0 (bx hb37 0 rfl)) fun a E=>eg (v := .pointer (some ⟨aa,2,none⟩)) E rfl (wy_ E E.g3) (aBq rfl (E.get 24 rfl)) fun a E=>eg (v := .pointer (some ⟨aa,2,none⟩)) E rfl (wy_ E E.g4) (aBh rfl E.g0) fun a E=>eg (v := .int .i64 b.2.1) E rfl (wy_ E E.g5) (aAn rfl E.g0 (bx hb37 2 rfl)) fun a E=>eg (v := .bool (decide (b.2.1<b.1.1))) E rfl (wy_ E E.g6) (aCf E.g3 E.g0 u3_ rfl) fun a E=>ep (v := .bool (decide (b.2.1<b.1.1))) E rfl (aAt rfl E.g7 E.g0) fun a E=>ep E rfl (m_ rfl E.g0) fun a E=>?_;cases hq40:(decide (b.2.1<b.1.1))
 rotate_left
 ·rw [hq40] at E;refine ek E rfl rfl E.g0 fun a E=>ek E rfl rfl E.g1 fun a E=>ek E rfl rfl E.g2 fun a E=>ek E rfl rfl E.g3 fun a E=>ek E rfl rfl E.g4 fun a E=>ek E rfl rfl E.g5 fun a E=>ek E rfl rfl E.g6 fun a E=>ep (v := .bool true) E rfl (aAB rfl E.g7 rfl) fun a E=>n_ (t_ (c_t E.g0 (s_ (r_ (es_ (v := .slice none 0 0) E rfl (a_ rfl rfl) fun a E=>n_ (t_ (wr_ (tr_ ?_))))))));have khq40:=of_decide_eq_true hq40
  have hno:¬ okB b:=fun hok=>by
   have hal:=aJu hok
   first | (rw [hal] at hq39;exact Bool.noConfusion hq39) | (obtain ⟨_,_,q1,q2⟩:=hok;omega)
  refine aAr (t:=4) rfl E E.g0 ?_;exact ⟨_,[],w.heap.size,rfl,Gj_ _,aCU _,by rw [if_neg hno],S,rv,pk,h,hf.mono fun _ _ h=>h.elim,fun k hk=>⟨.inl hk,h0.lt k hk⟩⟩
 rw [hq40] at E;refine eg (v := .pointer (some ⟨aa,0,none⟩)) E rfl (wy_ E E.g0) (aBr rfl (E.get 30 rfl)) fun a E=>eg (v := .pointer (some ⟨aa,1,none⟩)) E rfl (wy_ E E.g1) (aAV rfl E.g0) fun a E=>eg (v := .int .i64 b.1.2) E rfl (wy_ E E.g2) (aAn rfl E.g0 (bx hb37 1 rfl)) fun a E=>eg (v := .pointer (some ⟨aa,2,none⟩)) E rfl (wy_ E E.g3) (aBq rfl (E.get 33 rfl)) fun a E=>eg (v := .pointer (some ⟨aa,3,none⟩)) E rfl (wy_ E E.g4) (aAV rfl E.g0) fun a E=>eg (v := .int .i64 b.2.2) E rfl (wy_ E E.g5) (aAn rfl E.g0 (bx hb37 3 rfl)) fun a E=>eg (v := .bool (decide (b.2.2<b.1.2))) E rfl (wy_ E E.g6) (aCf E.g3 E.g0 u3_ rfl) fun a E=>ep (v := .bool (decide (b.2.2<b.1.2))) E rfl (aAt rfl E.g7 E.g0) fun a E=>n_ (t_ ?_);cases hq41:(decide (b.2.2<b.1.2))
 rotate_left
 ·rw [hq41] at E;refine c_t E.g0 (s_ (r_ (es_ (v := .slice none 0 0) E rfl (a_ rfl rfl) fun a E=>n_ (t_ (wr_ (tr_ ?_))))));have khq40:=of_decide_eq_false hq40;have khq41:=of_decide_eq_true hq41
  have hno:¬ okB b:=fun hok=>by
   have hal:=aJu hok
   first | (rw [hal] at hq39;exact Bool.noConfusion hq39) | (obtain ⟨_,_,q1,q2⟩:=hok;omega)
  refine aAr (t:=4) rfl E E.g0 ?_;exact ⟨_,[],w.heap.size,rfl,Gj_ _,aCU _,by rw [if_neg hno],S,rv,pk,h,hf.mono fun _ _ h=>h.elim,fun k hk=>⟨.inl hk,h0.lt k hk⟩⟩
 rw [hq41] at E;refine c_f E.g0 (k_ (t_ (s_ ?_)));have khq40:=of_decide_eq_false hq40;have khq41:=of_decide_eq_false hq41;have hok:okB b:=aUR hq39 (by omega) (by omega);have hsz0:=hf.size;have hbq0:=aAe hb37;refine r_ (aJG (d:=5) E rfl (by decide) rfl (aAb rfl _) rfl fun a w1 bo ebo hbo f1 E=>?_);have h:=IxAt.fr h f1 id id (fun _ _ h=>h);have hb37:=f1.obj hb37 id;have hf:=hf.trans f1;clear f1;have hbol:=aAe hbo;refine n_ (t_ (s_ (r_ (aJF (d:=6) E rfl (by decide) rfl (aAb rfl _) rfl fun a w1 bw ebw hbw f1 E=>?_))));have h:=IxAt.fr h f1 id id (fun _ _ h=>h);have hb37:=f1.obj hb37 id;have hbo:=f1.obj hbo id;have hf:=hf.trans f1;clear f1;refine n_ (t_ (s_ (r_ (ep (v:=(.func (.func 107) #[] #[.pointer (some ⟨aa,0,none⟩),.pointer (some ⟨bo,0,none⟩),.pointer (some ⟨bw,0,none⟩)])) E rfl (aMZ rfl (E.get 40 rfl) E.g1 E.g0) fun a E=>aCJ E rfl (aAb rfl _) (aPG rfl E.g1 E.g0 (bx hbw 0 rfl) (aAm hbw 0)) fun E=>?_))));have hbw2:=aAi (off:=0) hbw (.func (.func 107) #[] #[.pointer (some ⟨aa,0,none⟩),.pointer (some ⟨bo,0,none⟩),.pointer (some ⟨bw,0,none⟩)]);have g1:=(Fr.refl (fun k=>k=bw) w1).setCell (p:=⟨bw,0,none⟩) (fun _=>rfl) (.func (.func 107) #[] #[.pointer (some ⟨aa,0,none⟩),.pointer (some ⟨bo,0,none⟩),.pointer (some ⟨bw,0,none⟩)]);obtain ⟨w6,hw6⟩:∃ w6,w6=w1.setCell ⟨bw,0,none⟩ (.func (.func 107) #[] #[.pointer (some ⟨aa,0,none⟩),.pointer (some ⟨bo,0,none⟩),.pointer (some ⟨bw,0,none⟩)]):=⟨_,rfl⟩;rw [←hw6] at hbw2 g1 ⊢;have h:=IxAt.fr h g1 (by omega) (by omega) (fun k hk e=>by have:=hσ k hk;omega);have hf:=hf.trans' g1 (fun r hr e=>by omega);have hbo:=g1.obj hbo (by omega);have hq:=g1.obj hb37 (by omega);have hwz:=aAe hbw2;have hbob:=aAe hbo;clear hbw g1 hw6;refine n_ (t_ (s_ (aAs (G:=Value×(Nat->Prop)×Nat) (undef,nF_,0) (n:=52) (base:=[(6,.pointer (some ⟨bw,0,none⟩)),(5,.pointer (some ⟨bo,0,none⟩)),(0,.pointer (some ⟨p,0,none⟩))]) (U:=[]) (T:=fun Z=>[some (45,(.func (.func 107) #[] #[.pointer (some ⟨aa,0,none⟩),.pointer (some ⟨bo,0,none⟩),.pointer (some ⟨bw,0,none⟩)])),some (46,.pointer (some ⟨p,0,none⟩)),some (47,Z.1),some (48,.tuple #[])]) (M:=fun Z ls9 wm=>Fr (fun k=>k=p∨k=bo) w6 wm /\ (ls9 3=false->wm.heap[bo]?=some (.cells #[.slice none 0 0] 45 (0,0))) /\ (ls9 2=false->IxAt wm p mb N S m rv pk) /\ (ls9 2=true->IxAt wm p mb N Z.2.1 m Z.1 true /\ (∀ k,Z.2.1 k->(S k∨w6.heap.size<=k) /\ k<Z.2.2) /\ w6.heap.size<=Z.2.2 /\ Z.2.2<=wm.heap.size) /\ (ls9 3=true->∃ v9 L9,aPu L9 m /\ wm.heap[bo]?=some (.cells #[v9] 45 (0,0)) /\ aEc wm Z.2.2 v9 (aCl L9 b))) (by kernel_rfl) (by kernel_rfl) (fun _=>by kernel_rfl) (E.of ⟨E.g1,E.g2,E.get 42 rfl,trivial⟩) (fun x hx=>by cases hx) ⟨(Fr.refl _ _).drew,fun _=>hbo,fun _=>h.fr (Fr.refl nF_ w6).drew id id (fun _ _ h=>h),fun e=>absurd e Bool.false_ne_true,fun e=>absurd e Bool.false_ne_true⟩ ?_ ?_)))
 ·intro j9 o9 Z ls9 a w5 ho hl E D DL DL2 hB hM;obtain ⟨m1,m2,m3,m4,m5⟩:=hM;have hbw5:=m1.obj hbw2 (by omega);have hq5:=m1.obj hq (by omega)
  match j9,ho,hl,D,DL,hB with
  | 0,ho,hl,D,DL,hB=>exact z0_ ho (aAq rfl (aK1 rfl E.g0 (bx hbw5 0 rfl)) rfl ⟨m1,m2,m3,m4,m5⟩)
  | 1,ho,hl,D,DL,hB=>exact z0_ ho (aAq rfl (m_ rfl E.g2) rfl ⟨m1,m2,m3,m4,m5⟩)
  | 2,ho,hl,D,DL,hB =>
   have h39:ls9 3=false:=by
    cases h8:ls9 3 with
    | false=>rfl
    | true=>exact absurd (hl.symm.trans (DL2 3 2 rfl h8)) (by decide)
   have h7:=m3 hl;have hbo7:=m2 h39;obtain rfl:=Gh_ ho;refine ⟨fun _=>aRY (aBb (enters_of Tryz.func109 (by kernel_rfl) rfl) rfl rfl (D 1 _ rfl rfl)) ((aGr h7 hNb).mono fun e9 w9 ⟨S9,r9,h1,h2,h3,h4⟩=>⟨r9,h1,(⟨S9,h2,h3,h4⟩:∃ S9,IxAt w9 p mb N S9 m r9 true /\ Fr (fun k=>k=p) w5 w9 /\ ∀ k,S9 k->S k∨w5.heap.size<=k)⟩) rfl fun v9 w9 f9=>?_,fun h=>by rw [aAb rfl] at h;cases h⟩;obtain ⟨S9,h2,h3,h4⟩:=f9;refine ⟨(v9,S9,w9.heap.size),rfl,(fun j hj=>match j,hj with | 0,_=>rfl | 1,_=>rfl | 2,hj=>absurd (hl.symm.trans hj) (by decide) | 3,_=>rfl | j9+4,_=>rfl),?_⟩;refine ⟨m1.trans' h3 (fun _ _ e => .inl e),fun _=>h3.obj hbo7 (by omega),fun e=>by simp at e,fun _=>⟨h2,fun k hk=>⟨?_,h2.lt k hk⟩,(show w6.heap.size<=w9.heap.size by have:=m1.size;have:=h3.size;omega),Gj_ _⟩,fun e=>by simp [h39] at e⟩;rcases h4 k hk with h9 | h9
   ·exact .inl h9
   ·right;have:=m1.size;omega
  | 3,ho,hl,D,DL,hB =>
   have h29:=DL 2 rfl;obtain ⟨h7,h8,h9,h10⟩:=m4 h29;have hbo7:=m2 hl;obtain rfl:=Gh_ ho;refine ⟨fun _=>aH3 rfl (aF3 (enters_of Tryz.func107 (by kernel_rfl) rfl) rfl (D 0 _ rfl rfl) (D 2 _ rfl rfl)) ((aIP (B:=Z.2.2) h7 hNb (by omega) (by omega) (by omega) (by omega) (by omega) (fun k hk=>⟨(h8 k hk).2,by rcases (h8 k hk).1 with h | h;(have:=hσ k h;omega);omega⟩) hq5 hbo7 hbw5 h10).mono fun e9 w9 hh=>⟨hh.1,hh.2⟩) rfl fun w9 f9=>?_,fun h=>by rw [aAb rfl] at h;cases h⟩;obtain ⟨v9,L9,e1,e2,e3,e4⟩:=f9;refine ⟨m1.trans' e4 (fun r hr e=>by rcases e with e | e;exact .inr e;omega),fun e=>by simp at e,fun e=>by simp [h29] at e,fun _=>⟨h7.fr e4 (by omega) (by have:=h7.ne;omega) (fun k hk e=>by rcases (h8 k hk).1 with h | h;(have:=hσ k h;have:=(h8 k hk).2;omega);(have:=(h8 k hk).2;omega)),h8,h9,by have:=e4.size;omega⟩,fun _=>⟨v9,L9,e1,e2,e3⟩⟩
  | j9+4,ho,hl,D,DL,hB=>exact absurd ho (by simp)
 ·rintro ⟨rv2,S2,B2⟩ a w7 E V hM;clear V;obtain ⟨m1,_,_,m4,m5⟩:=hM;obtain ⟨h7,h8,h9,h10⟩:=m4 rfl;obtain ⟨v9,L9,hE9,hbo,hO⟩:=m5 rfl
  dsimp only at h7 h8 h9 h10 hO
  refine t_ (s_ (r_ (ep (v:=v9) E rfl (aGW rfl E.g1 (bx hbo 0 rfl)) fun a E=>?_)));have hlen9:=hE9.len h7.hm;refine ec_ (v := .tuple #[]) (F:=fun w8=>aEc w8 B2 v9 (aDZ (aCl L9 b)) /\ Fr (fun k=>v9.ownBlock=some k) w7 w8) E rfl (aBb (enters_of Tryz.func110 (by kernel_rfl) rfl) rfl rfl E.g0) (aIW hO (by have:=aKG L9 b;omega)) fun a w8 f9 E=>?_;obtain ⟨hO8,f8⟩:=f9;have hbo8:=f8.obj hbo (fun e=>by have:=(hO.lt e).1;omega);have hbo:=hbo8;have h18:=h7.fr f8 (fun e=>by have:=(hO.lt e).1;omega) (fun e=>by have:=(hO.lt e).1;omega) (fun k hk e=>by have:=(hO.lt e).1;have:=(h8 k hk).2;omega);have f18:Fr (fun k=>k=p) w w8:=(hf.mono (fun _ _ h=>h.elim)).trans' (m1.trans' f8 (fun r hr e=>by have:=(hO.lt e).1;omega)) (fun r hr e=>by rcases e with e | e;exact e;omega);refine n_ (t_ (s_ (r_ (ep (v:=v9) E rfl (aGW rfl E.g3 (bx hbo 0 rfl)) fun a E=>ep E rfl (a_ rfl E.g0) fun a E=>n_ (t_ (wr_ (aAr (t:=4) rfl E E.g0 ?_)))))));exact ⟨_,_,B2,rfl,by omega,hO8,by rw [if_pos hok];exact InR.of hE9 b,S2,rv2,true,h18,f18,fun k hk=>⟨by rcases (h8 k hk).1 with h | h;exact .inl h;exact .inr (by omega),(h8 k hk).2⟩⟩
structure Wt where
 c:Nd
 h:Nat
 far:Int
def aZa (h:Nat) (L:List En):ByteArray:=if h=0 then (L.head?.map (·.1)).getD ByteArray.empty else ByteArray.empty
abbrev Wt.id (x:Wt):ByteArray:=aZa x.h x.c.2.2
abbrev wtC (x:Wt):Array Value:=#[.pointer (some ⟨x.c.1,0,none⟩),.int .i64 x.far]
abbrev wtL (x:Wt):List Value:=[.pointer (some ⟨x.c.1,0,none⟩),.int .i64 x.far]
theorem aBX:∀ x,(wtL x).length=2:=fun _=>rfl
abbrev oWt (w:World) (B:Nat) (v:Value) (X:List Wt):Prop:=ow wtL 2 170 w B v X
abbrev aMz (w:World) (S:Nat->Prop) (x:Wt):Prop:=aHD w S x.h x.c.1 x.c.2.1 x.c.2.2
def lsW (x y:Wt):Bool:=if x.far≠y.far then decide (x.far<y.far) else if (x.h==0) != (y.h==0) then x.h != 0 else Op.bytesLess x.id.toList y.id.toList
def LsW (x y:Wt):Prop:=x.far<y.far∨x.far=y.far /\ (x.h≠0 /\ y.h=0∨(x.h=0↔y.h=0) /\ sl x.id y.id)
theorem aCb (x y:Wt):lsW x y=true↔LsW x y:=by
 unfold lsW LsW
 by_cases h1:x.far=y.far
 ·rw [if_neg (by simpa using h1)]
  by_cases h2:x.h=0
  ·have b2:(x.h==0)=true:=beq_iff_eq.2 h2
   by_cases h3:y.h=0
   ·have b3:(y.h==0)=true:=beq_iff_eq.2 h3;rw [b2,b3];simp [h1,h2,h3,sl]
   ·have b3:(y.h==0)=false:=beq_eq_false_iff_ne.2 h3;rw [b2,b3];simp [h1,h2,h3,sl]
  ·have b2:(x.h==0)=false:=beq_eq_false_iff_ne.2 h2
   by_cases h3:y.h=0
   ·have b3:(y.h==0)=true:=beq_iff_eq.2 h3;rw [b2,b3];simp [h1,h2,h3,sl]
   ·have b3:(y.h==0)=false:=beq_eq_false_iff_ne.2 h3;rw [b2,b3];simp [h1,h2,h3,sl]
 ·rw [if_pos h1];simp only [decide_eq_true_eq,h1,false_and,or_false]
theorem LsW.irrefl (x:Wt):¬ LsW x x:=by
 unfold LsW;rintro (h | ⟨_,⟨h1,h2⟩ | ⟨_,h⟩⟩)
 ·omega
 ·exact h1 h2
 ·exact aHR _ h
theorem LsW.trans {x y z:Wt}(h:LsW x y) (k:LsW y z):LsW x z:=by
 unfold LsW at *;rcases h with h | ⟨h1,h⟩
 ·rcases k with k | ⟨k1,_⟩
  ·left;omega
  ·left;omega
 ·rcases k with k | ⟨k1,k⟩
  ·left;omega
  ·right;refine ⟨h1.trans k1,?_⟩;rcases h with ⟨h2,h3⟩ | ⟨h2,h3⟩
   ·rcases k with ⟨k2,k3⟩ | ⟨k2,k3⟩
    ·exact absurd h3 k2
    ·exact .inl ⟨h2,k2.1 h3⟩
   ·rcases k with ⟨k2,k3⟩ | ⟨k2,k3⟩
    ·exact .inl ⟨fun e=>k2 (h2.1 e),k3⟩
    ·exact .inr ⟨h2.trans k2,aKp h3 k3⟩
theorem LsW.ntrans {x y z:Wt}(h:¬ LsW x y) (k:¬ LsW y z):¬ LsW x z:=by
 intro hxz
 have htri:LsW x y∨LsW y x∨(x.far=y.far /\ (x.h=0↔y.h=0) /\ x.id=y.id):=by
  unfold LsW;rcases Int.lt_trichotomy x.far y.far with h1 | h1 | h1
  ·exact .inl (.inl h1)
  ·by_cases h2:x.h=0<;>by_cases h3:y.h=0
   ·rcases aHQ x.id y.id with h4 | h4 | h4
    ·exact .inl (.inr ⟨h1,.inr ⟨by simp [h2,h3],h4⟩⟩)
    ·exact .inr (.inr ⟨h1,by simp [h2,h3],h4⟩)
    ·exact .inr (.inl (.inr ⟨h1.symm,.inr ⟨by simp [h2,h3],h4⟩⟩))
   ·exact .inr (.inl (.inr ⟨h1.symm,.inl ⟨h3,h2⟩⟩))
   ·exact .inl (.inr ⟨h1,.inl ⟨h2,h3⟩⟩)
   ·rcases aHQ x.id y.id with h4 | h4 | h4
    ·exact .inl (.inr ⟨h1,.inr ⟨by simp [h2,h3],h4⟩⟩)
    ·exact .inr (.inr ⟨h1,by simp [h2,h3],h4⟩)
    ·exact .inr (.inl (.inr ⟨h1.symm,.inr ⟨by simp [h2,h3],h4⟩⟩))
  ·exact .inr (.inl (.inl h1))
 rcases htri with h1 | h1 | ⟨h1,h2,h3⟩
 ·exact h h1
 ·exact k (LsW.trans h1 hxz)
 ·apply k;unfold LsW at *;rw [h1,h3] at hxz;rcases hxz with q | ⟨q1,q2⟩
  ·exact .inl q
  ·refine .inr ⟨q1,?_⟩;rcases q2 with ⟨q3,q4⟩ | ⟨q3,q4⟩
   ·exact .inl ⟨fun e=>q3 (h2.2 e),q4⟩
   ·exact .inr ⟨h2.symm.trans q3,q4⟩
theorem aMz.cells {w:World}{S:Nat->Prop}{x:Wt}(h:aMz w S x):w.cell? ⟨x.c.1,4,none⟩=some (.string x.id) /\ ∃ p n cap,w.cell? ⟨x.c.1,5,none⟩=some (.slice p n cap) /\ (x.h=0->p=none /\ n=0 /\ cap=0) /\ (x.h≠0->∃ a,p=some a):=by
 obtain ⟨⟨pb,b,L⟩,hh,far⟩:=x
 cases hh with
 | zero =>
  obtain ⟨_,id,h2,h3⟩:=h;simp only at h2 h3;subst h3;exact ⟨by rw [aAk h2];rfl,none,0,0,by rw [aAk h2];rfl,fun _=>⟨rfl,rfl,rfl⟩,fun h=>absurd rfl h⟩
 | succ n =>
  obtain ⟨_,g,off,cap,C,h2,_⟩:=h;simp only at h2;exact ⟨by rw [aAk h2];rfl,some ⟨g,off,none⟩,C.length,cap,by rw [aAk h2];rfl,fun h=>by simp at h,fun _=>⟨_,rfl⟩⟩
def quB (w:World) (q:Nat) (v:Value):Prop:=w.heap[q]?=some (.cells #[v,.func (.func 114) #[] #[]] 174 (0,0))
abbrev wtB (w:World) (g:Nat) (x:Wt):Prop:=w.heap[g]?=some (.cells (wtC x) 170 (0,0))
section
variable {o:Oper}{w:World}{ρ:Operand->Value}{x y z:Operand}{g off q n cap i:Nat}{s t:Wt}{v:Value}{p:Option Addr}
theorem aVr:(Tryz.prog.info? 170).map (·.size)=some 2:=by kernel_rfl
theorem aTn:(Tryz.prog.info? 170).map (fun i=>(i.zero,i.size,i.bytes))=some (some (.agg #[.pointer none,.int .i64 0]),2,16):=by kernel_rfl
theorem aCO (ho:o.op = .load 170 x) (hx:ρ x = .pointer (some ⟨g,off,none⟩)) (h:w.rangeAt g off (wtC s).toList):(execOp ρ o).run Tryz.prog w = .ok (.value (.agg (wtC s))) w:=by
 have:=run_loadAt_mid (P:=Tryz.prog) w g off 170 (wtC s).toList _ h Tryz.underlying170 rfl aVr;simp only [execOp,ho,hx,Sem.run_bind,this,Result.andThen_ok,Sem.run_pure]
theorem aNj (ho:o.op = .box 170 x) (hx:ρ x = .agg (wtC s)):(execOp ρ o).run Tryz.prog w = .ok (.value (.pointer (some ⟨w.heap.size,0,none⟩))) (w.alloc (.cells (wtC s) 170)):=by
 simp [execOp,ho,hx,go_sem]
theorem aF5 (ho:o.op = .alloc 170):(execOp ρ o).run Tryz.prog w = .ok (.value (.pointer (some ⟨w.heap.size,0,none⟩))) (w.alloc (.cells #[.pointer none,.int .i64 0] 170)):=by
 simp [execOp,ho,go_sem]
theorem aFb {u0 u1:Value}(ho:o.op = .store 170 x y) (hx:ρ x = .pointer (some ⟨g,off,none⟩)) (hy:ρ y = .agg (wtC s)) (h0:w.cell? ⟨g,off,none⟩=some u0) (h1:w.cell? ⟨g,off+1,none⟩=some u1) (z0:w.frozen? ⟨g,off,none⟩=false) (z1:w.frozen? ⟨g,off+1,none⟩=false) :
  (execOp ρ o).run Tryz.prog w = .ok .skip ((w.setCell ⟨g,off,none⟩ (.pointer (some ⟨s.c.1,0,none⟩))).setCell ⟨g,off+1,none⟩ (.int .i64 s.far)):=by
 simp [execOp,ho,hx,hy,go_sem,h0,h1,z0,z1]
theorem aPQ (ho:o.op = .load 171 x) (hx:ρ x = .pointer (some ⟨g,off,none⟩)) (hc:w.cell? ⟨g,off,none⟩=some v):(execOp ρ o).run Tryz.prog w = .ok (.value v) w:=by
 simp [execOp,ho,hx,go_sem,hc]
theorem aKx {u:Value}{n c:Nat}(hv:v = .slice p n c) (ho:o.op = .store 172 x y) (hx:ρ x = .pointer (some ⟨g,off,none⟩)) (hy:ρ y=v) (hc:w.cell? ⟨g,off,none⟩=some u) (hz:w.frozen? ⟨g,off,none⟩=false):(execOp ρ o).run Tryz.prog w = .ok .skip (w.setCell ⟨g,off,none⟩ v):=by
 subst hv;simp [execOp,ho,hx,hy,go_sem,hc,hz]
theorem aF4 {pb:Nat}{f:Int}(ho:o.op = .build 170 #[(0,x),(1,y)]) (hx:ρ x = .pointer (some ⟨pb,0,none⟩)) (hy:ρ y = .int .i64 f):(execOp ρ o).run Tryz.prog w = .ok (.value (.agg #[.pointer (some ⟨pb,0,none⟩),.int .i64 f])) w:=by
 simp [execOp,ho,hx,hy,go_sem]
theorem aFz (ho:o.op = .makeInterface 168 x) (hx:ρ x = .pointer p):(execOp ρ o).run Tryz.prog w = .ok (.value (.iface 168 (.pointer p))) w:=by
 simp [execOp,ho,hx,go_sem]
theorem aFy (ho:o.op = .makeInterface 170 x) (hx:ρ x = .agg (wtC s)):(execOp ρ o).run Tryz.prog w = .ok (.value (.iface 170 (.agg (wtC s)))) w:=by
 simp [execOp,ho,hx,go_sem]
theorem aKw (ho:o.op = .typeAssert x 20 170 true) (hx:ρ x = .iface 170 (.agg (wtC s))):(execOp ρ o).run Tryz.prog w = .ok (.value (.tuple #[.agg (wtC s),.bool true])) w:=by
 have h:(Instr.typeAssert (.iface 170 (.agg (wtC s))) 20 170 true).run Tryz.prog w = .ok (.tuple #[.agg (wtC s),.bool true]) w:=by kernel_rfl
 simp only [execOp,ho,hx,Sem.run_bind,h,Result.andThen_ok,Sem.run_pure]
theorem aRB (q:Nat) (w:World):(method 555 168 (.pointer (some ⟨q,0,none⟩)) "Len").run Tryz.prog w = .ok (117,.pointer (some ⟨q,0,none⟩)) w:=by kernel_rfl
theorem aFF (q:Nat) (w:World):(method 555 168 (.pointer (some ⟨q,0,none⟩)) "Less").run Tryz.prog w = .ok (335,.pointer (some ⟨q,0,none⟩)) w:=by kernel_rfl
theorem aFE (q:Nat) (w:World):(method 555 168 (.pointer (some ⟨q,0,none⟩)) "Swap").run Tryz.prog w = .ok (338,.pointer (some ⟨q,0,none⟩)) w:=by kernel_rfl
theorem aSW (q:Nat) (w:World):(method 555 168 (.pointer (some ⟨q,0,none⟩)) "Push").run Tryz.prog w = .ok (337,.pointer (some ⟨q,0,none⟩)) w:=by kernel_rfl
theorem aUZ (q:Nat) (w:World):(method 555 168 (.pointer (some ⟨q,0,none⟩)) "Pop").run Tryz.prog w = .ok (336,.pointer (some ⟨q,0,none⟩)) w:=by kernel_rfl
end
section
variable {o:Oper}{w:World}{ρ:Operand->Value}{x y z:Operand}{rv v u:Value}{f:Nat}{nm:String}{ts:Array TypeId}
theorem aGX (hm:(method 555 168 rv nm).run Tryz.prog w = .ok (f,rv) w) (eg:∀ args w,(callFunc f args).run Tryz.prog w = .ok (.enter f args) w) (ho:o.op = .call ⟨.invoke x nm,#[],ts⟩) (hx:ρ x = .iface 168 rv):(execOp ρ o).run Tryz.prog w = .ok (.enter f #[rv]) w:=by
 simp [execOp,ho,hx,resolve,invoke,callMethod,go_sem,hm,eg]
theorem aPR (hm:(method 555 168 rv nm).run Tryz.prog w = .ok (f,rv) w) (eg:∀ args w,(callFunc f args).run Tryz.prog w = .ok (.enter f args) w) (ho:o.op = .call ⟨.invoke x nm,#[y],ts⟩) (hx:ρ x = .iface 168 rv) (hy:ρ y=v):(execOp ρ o).run Tryz.prog w = .ok (.enter f #[rv,v]) w:=by
 simp [execOp,ho,hx,hy,resolve,invoke,callMethod,go_sem,hm,eg]
theorem aBP (hm:(method 555 168 rv nm).run Tryz.prog w = .ok (f,rv) w) (eg:∀ args w,(callFunc f args).run Tryz.prog w = .ok (.enter f args) w) (ho:o.op = .call ⟨.invoke x nm,#[y,z],ts⟩) (hx:ρ x = .iface 168 rv) (hy:ρ y=v) (hz:ρ z=u):(execOp ρ o).run Tryz.prog w = .ok (.enter f #[rv,v,u]) w:=by
 simp [execOp,ho,hx,hy,hz,resolve,invoke,callMethod,go_sem,hm,eg]
end
end Go.Proofs.YtngjlnhojicjeaaGreatDoor
