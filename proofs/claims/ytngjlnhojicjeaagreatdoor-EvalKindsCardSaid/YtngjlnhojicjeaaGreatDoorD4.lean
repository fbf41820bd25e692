/- Part 4 of the proof. -/
import Derived.Test.YtngjlnhojicjeaaGreatDoorD3
import Derived.RangeFuncNested
import Derived.TacticsIn
import Derived.OrdersIn
import Derived.Shelf.SlSortCmp.Whole1
import Derived.Ground.SlsfProg
import Derived.Shelf.SlGeneric
import Derived.Test.YtngjlnhojicjeaaGreatDoorProg
import Derived.Deep.QuietTactic
import Derived.BigQuiet
import Derived.Lib.Hide
import Derived.Deep.RegionLaw
import Derived.Shelf.SortM.Plain
import Derived.Shelf.SortM.SortNone
import Derived.Ground.SlgmProg
set_option linter.unusedVariables false
set_option linter.unusedSimpArgs false
namespace Go.Pl
open Go.RowKit Go.Proofs.YtngjlnhojicjeaaGreatDoor
def aYr (T:Ent->Prop)(e:Ent)(w w':World):Prop:=∃e',T e'/\e'.H w'/\(∀b,e'.B b->e.B b\/w.heap.size<=b)/\Fr e.B w w'
def aPA (P:Program)(gf:Nat)(lb:Array Value)(vs:List (Array Value))(Kp:(Nat->Prop)->World->Prop):Prop :=
 ∀(l:Nat)(J:Nat->Ent->Prop)(T:Ent->Prop)(W0:World)(e0:Ent),J 0 e0->e0.H W0->Kp e0.B W0 ->
  (∀k e v W,J k e->e.H W->Fr e0.B W0 W->(∀b,e.B b->e0.B b\/W0.heap.size<=b)->vs[k]?=some v->aEO P l v W (aWJ J k e W) (aYr T e W)) ->
  Calls P gf (#[.func (.yield l) #[] #[]]++lb) W0 λx W'=>(∃v,x=.returned v)/\((∃e,J vs.length e/\e.H W'/\(∀b,e.B b->e0.B b\/W0.heap.size<=b)/\Fr e0.B W0 W')\/∃e,T e/\e.H W'/\(∀b,e.B b->e0.B b\/W0.heap.size<=b)/\Fr e0.B W0 W')
variable{gf:Nat}{lb:Array Value}{vs:List (Array Value)}{Kp:(Nat->Prop)->World->Prop}
theorem aUE.z {P:Program}(h:aUE P gf lb vs Kp):aPA P gf lb vs Kp:=λl J T W0 e0 hJ he hK hr=>by
 refine(h l (λk e=>J k e/\∀b,e.B b->e0.B b\/W0.heap.size<=b) (λW=>∃e,T e/\e.H W/\(∀b,e.B b->e0.B b\/W0.heap.size<=b)/\Fr e0.B W0 W) W0 e0 ⟨hJ,λb hb =>.inl hb⟩ he hK (λW W' ⟨e,h1,h2,h3,h4⟩ f=>⟨e,h1,e.fr h2 f λ_ _ h=>h,h3,h4.trans' f λ_ _ h=>h.elim⟩) (λW ⟨e,h1,h2,h3,h4⟩=>h4) λk e v W ⟨hj,hs⟩ hH hf hv=>?_).mono λx W' ⟨h1,h2⟩=>⟨h1,h2.imp (λ⟨e,⟨h3,h4⟩,h5,h6⟩=>⟨e,h3,h5,h4,h6⟩) id⟩;obtain⟨m,fn,tm,sg,bd,hy,hR⟩:=hr k e v W hj hH hf hs hv;have sub:∀e':Ent,(∀b,e'.B b->e.B b\/W.heap.size<=b)->∀b,e'.B b->e0.B b\/W0.heap.size<=b:=λe' h b hb=>(h b hb).elim (hs b) λh =>.inr (Gn_ hf.size h);exact⟨m,fn,tm,sg,bd,hy,hR.mono λe W' h=>h.imp (λ⟨a,e',t1,t2,t3,t4⟩=>⟨a,e',⟨t1,sub e' t3⟩,t2,t3,t4⟩) λ⟨a,e',t1,t2,t3,t4⟩=>⟨a,e',t1,t2,sub e' t3,hf.trans' t4 λr hr hb=>(hs r hb).resolve_right oM⟩⟩
variable{B:Code}{ds:List Deferred}{F0:Nat->Prop}{M:List Ent}
section
variable{P:Program}{n:Nat}{L:Frm}{w w0:World}{Qf:Exit->Act->World->Prop}
theorem aQw (q:Nat){g:Operand}{ps:Array Tmp}(I:Nat->List Ent->Prop)(T:List Ent->Prop)
  (hM:Mm F0 w0 w M) (h0:I 0 M) (eg:aJe P gf) (hY:aPA P gf lb vs Kp)
  (hK:∀(G:Nat->Prop) W,(∀k,G k->BlM M k\/w.heap.size<=k)->Fr nF_ w W->Kp G W)
  (hps:∀v∈vs,v.size=ps.size)
  (hround:∀k v Mk W l,vs[k]?=some v->I k Mk->Fr F0 w0 W->Mm (BlM Mk) W W Mk->AtO P (aUT (1000+q) B) ⟨bAg P (aSC (1000+q) B) n F0 w0 I T k Mk W,some l⟩ [] n none ((ps.toList.zip v.toList).reverse++L) W)
  (hdone:∀M' W',I vs.length M'->Mm F0 w0 W' (M'++[dfE w.heap.size])->AtO P B ⟨Qf,none⟩ (mkD w.heap.size::ds) n (some (2000+q,0)) L W')
  (hstop:∀a M' W',T M'->Mm F0 w0 W' (M'++[dfE w.heap.size])->EnvS (mkD w.heap.size::ds) n L a->Qf .ret a W')
  (h:(match aBe (1000+q) B [],aBe (2000+q) B [],aLX (1000+q) B with
   | some (O,dr,.seq (.rangeFunc g1 ps1 as1 bd1)::k1),some (O2,dr2,k2),some (g2,ps2,as2,bd2)=>some (O,dr,O2,dr2,[Kon.seq (.rangeFunc g1 ps1 as1 bd1)],k1,opv L g1,ps.toList.all λp=>Nat.blt p n)
   | _,_,_=>none)=(match aBe (1000+q) B [],aBe (2000+q) B [],aLX (1000+q) B with
   | some (O,dr,.seq (.rangeFunc g1 ps1 as1 bd1)::k1),some (O2,dr2,k2),some (g2,ps2,as2,bd2)=>some (#[],false,#[],false,[Kon.seq (.rangeFunc g ps as2 bd2)],k2,some (.func (.func gf) #[] lb),true)
   | _,_,_=>some (#[],false,#[],false,[],[],none,true)):=by kernel_rfl):AtO P B ⟨Qf,none⟩ ds n (some (1000+q,0)) L w:=by
 split at h
 rotate_left
 ·cases h
 rename_i O dr g1 ps1 as1 bd1 k1 O2 dr2 k2 g2 ps2 as2 bd2 h1 h2 h3;simp only[Gk_,Prod.mk.injEq,List.cons.injEq,Kon.seq.injEq,Code.rangeFunc.injEq,and_true] at h;obtain⟨rfl,rfl,rfl,rfl,⟨rfl,rfl,rfl,rfl⟩,rfl,hg,hpn⟩:=h;refine⟨_,_,_,h1,λa E=>?_⟩;have hasO:aUT (1000+q) B=as1:=by unfold aUT;rw[h3]
 have hbdO:aSC (1000+q) B=bd1:=by unfold aSC;rw[h3]
 rw[hasO,hbdO] at hround;show(Code.rangeFunc g1 ps1 as1 bd1).wpIn (fen none) 0 P (post P ⟨Qf,none⟩ k1) a w;have hga:a.eval g1=.func (.func gf) #[] lb:=E.opv hg;have hblt:∀b,BlM M b->b<w.heap.size:=λb ⟨x,hx,hb⟩=>x.lt (hM.at_ x hx) hb;refine wpIn_rangeFunc ?_;intro fn hfn;obtain⟨rec,hrec⟩:∃rec:LoopState->Option Code->Loop,rec=λst pe=>{ state:=st,pending:=pe,fn,tmps:=a.tmps,params:=ps1,assign:=as1,body:=bd1,defers:=w.heap.size }:=⟨_,rfl⟩;obtain⟨W1,hW1⟩:∃W1,(w.alloc (.deferred (some []))).alloc (.loop (rec .ready none))=W1:=⟨_,rfl⟩
 have hL1:W1.heap[w.heap.size+1]?=some (.loop (rec .ready none)):=by
  rw[<-hW1];exact aC7 sI _
 have hK1:W1.heap[w.heap.size]?=some (.deferred (some [])):=by
  rw[<-hW1];exact(aBJ sI _).trans (aAl _ _)
 have hf1:Fr nF_ w W1:=by rw[<-hW1];exact((Fr.refl _ _).alloc _).alloc _
 have hsz1:w.heap.size+2<=W1.heap.size:=by have:=aAf hL1;omega
 obtain⟨e0,he0⟩:∃e0,aOu M w.heap.size (w.heap.size+1) (rec .ready none)=e0:=⟨_,rfl⟩;have hM1:=hM.q hf1
 have hF0:∀W,Fr e0.B W1 W->Fr F0 w0 W:=λW f=>hM1.fr.trans' f λr hr hb=>by
  rw[<-he0] at hb;have:=hM.fr.size;rcases hb with⟨x,hx,hk⟩|rfl|rfl
  ·exact hM.own x hx r hk hr
  ·omega
  ·omega
 refine⟨w.heap.size+1,[{ target := .collected w.heap.size,args:=#[] }],W1,{ target := .fn (.func gf) lb,args:=#[.func (.yield (w.heap.size+1)) #[] #[]] },W1,gf,
  #[.func (.yield (w.heap.size+1)) #[] #[]]++lb,W1,?_,?_,λ_ _=>trivial,?_,λh=>(by cases h),?_⟩
 ·rw[<-hW1,hrec];exact run_enterLoop_outer _ _ _ _ _
 ·simp only[resolve,hga];simp[go_sem]
 ·have:=eg (#[.func (.yield (w.heap.size+1)) #[] #[]]++lb) W1;simp[invoke,go_sem,this]
 refine aGo ((hY (w.heap.size+1) (λk e=>∃Mk,I k Mk/\Mk.Pairwise (λx y=>∀k,x.B k->¬y.B k)/\(∀b,BlM Mk b->(BlM M b\/w.heap.size+2<=b))/\e=aOu Mk w.heap.size (w.heap.size+1) (rec .ready none))
   (λe=>∃M',T M'/\M'.Pairwise (λx y=>∀k,x.B k->¬y.B k)/\(∀b,BlM M' b->(BlM M b\/w.heap.size+2<=b))/\e=aOu M' w.heap.size (w.heap.size+1) (rec .done (some .ret))) W1 e0
   ⟨M,h0,hM.nd,λb hb =>.inl hb,he0.symm⟩ (by rw[<-he0];exact⟨hM1.at_,hK1,hL1⟩) (hK _ _ (λk hk=>by
    rw[<-he0] at hk;rcases hk with h|rfl|rfl
    ·exact .inl h
    ·exact .inr (Gj_ _)
    ·exact .inr oM) hf1) ?_).mono ?_)
 ·rintro k e v W ⟨Mk,hI,hnd,hsub,rfl⟩ ⟨hat,hkD,hl⟩ hfW _ hv;have hvm:v∈vs:=Ge_ hv;have hlt:=aAf hl;have hy:=run_yield (P:=P) (args:=v) hl (by rw[hrec];exact hps v hvm);rw[hrec] at hy
  have hnl:∀b,BlM Mk b->b≠w.heap.size/\b≠w.heap.size+1:=λb hb=>by
   rcases hsub b hb with h|h
   ·have:=hblt b h;omega
   ·omega
  have hmW:Mm (BlM Mk) W W Mk:=⟨Fr.refl _ _,hat,λx hx b hb _=>⟨x,hx,hb⟩,hnd⟩;have has:=hround k v Mk W (w.heap.size+1) hv hI (hF0 W hfW) hmW;refine⟨0,fn,_,as1,bd1,hy,roundIn_of_wpIn hfn ?_⟩;clear hy
  have E0:EnvS [] n ((ps1.toList.zip v.toList).reverse++L) { tmps:=(ps1.zip v).foldl (λt (p,v)=>t.setIfInBounds p v) a.tmps,defers:=[] }:=by
   have hz:=aJf (ds:=ds) (n:=n) (L:=L) (ps:=ps1.toList) (vs:=v.toList) (t:=a.tmps) ⟨E.size,λs u hs=>E.at_ s u hs,rfl⟩ (by have:=hps v hvm;simpa using this.symm) (λp hp=>by
    have:=List.all_eq_true.1 hpn p hp;simpa[Nat.blt_eq] using this)
   have hfo:(ps1.zip v).foldl (λt (p,v)=>t.setIfInBounds p v) a.tmps=(ps1.toList.zip v.toList).foldl (λt (p,v)=>t.setIfInBounds p v) a.tmps:=by rw[<-Array.toList_zip,Array.foldl_toList]
   rw[hfo];exact hz
  refine wpIn_mono (has _ E0) ?_;rintro e9 a1 W2 hp
  cases e9 with
  | normal =>
   obtain⟨Lb,M1,E1,hMa,hb⟩:=hp;have hfa:=hMa.fr;have hl9:=hfa.obj hl (λh=>(hnl _ h).2 rfl);have hkD9:=hfa.obj hkD (λh=>(hnl _ h).1 rfl);have hlt9:=aAf hl9;refine⟨_,run_beginRound hl9 (by rw[hrec]),?_⟩;have f2:=Fr.putObj W2 (w.heap.size+1) (.loop { rec .ready none with state := .busy });obtain⟨W3,hW3⟩:∃W3,W2.putObj (w.heap.size+1) (.loop { rec .ready none with state := .busy })=W3:=⟨_,rfl⟩;have hl3:W3.heap[w.heap.size+1]?=some (.loop { rec .ready none with state := .busy }):=by rw[<-hW3];exact World.putObj_heap_same hlt9
   rw[hW3] at f2 ⊢;have hkD3:=f2.obj hkD9 oM
   have hM1n:∀b,BlM M1 b->BlM Mk b\/W.heap.size<=b:=λb ⟨x,hx,hb⟩=>by
    rcases Nat.lt_or_ge b W.heap.size with h|h
    ·exact .inl (hMa.own x hx b hb h)
    ·exact .inr h
   have hM1l:∀b,BlM M1 b->b≠w.heap.size/\b≠w.heap.size+1:=λb hb=>by
    rcases hM1n b hb with h|h
    ·exact hnl b h
    ·omega
   have hM3:Mm (BlM M1) W3 W3 M1:=⟨Fr.refl _ _,λx hx=>x.fr (hMa.at_ x hx) f2 λb hb e=>(hM1l b ⟨x,hx,hb⟩).2 e,λx hx b hb _=>⟨x,hx,hb⟩,hMa.nd⟩
   have hF3:Fr F0 w0 W3:=by
    refine((hF0 W hfW).trans' hfa λr hr hb=>?_).trans' f2 λr hr e=>?_
    ·rcases hsub r hb with⟨x,hx,h⟩|h
     ·exact hM.own x hx r h hr
     ·have:=hM.fr.size;omega
    ·have:=hM.fr.size;omega
   have hsW:W.heap.size<=W3.heap.size:=Gn_ hfa.size f2.size;have hsWW:w.heap.size+2<=W.heap.size:=Gn_ hsz1 hfW.size
   have fin:∀M' W',Mm (BlM M1) W3 W' M'->(∀b,BlM M' b->(BlM M b\/w.heap.size+2<=b))/\(∀b,BlM M' b->BlM Mk b\/W.heap.size<=b)/\W'.heap[w.heap.size+1]?=some (.loop { rec .ready none with state := .busy })/\W'.heap[w.heap.size]?=some (.deferred (some [])):=by
    intro M' W' hm
    have hb1:∀b,BlM M' b->BlM Mk b\/W.heap.size<=b:=λb ⟨x,hx,hb⟩=>by
     rcases Nat.lt_or_ge b W3.heap.size with h|h
     ·exact hM1n b (hm.own x hx b hb h)
     ·exact .inr (Gn_ hsW h)
    refine⟨λb hb=>?_,hb1,hm.fr.obj hl3 (λh=>(hM1l _ h).2 rfl),hm.fr.obj hkD3 (λh=>(hM1l _ h).1 rfl)⟩;rcases hb1 b hb with h|h
    ·exact hsub b h
    ·exact .inr (Gn_ hsWW h)
   refine wpIn_mono (hb W3 (w.heap.size+1) ⟨aZq (λW'=>∃M',I (k+1) M'/\Mm (BlM M1) W3 W' M') (λW'=>∃M',T M'/\Mm (BlM M1) W3 W' M'),some (w.heap.size+1)⟩ hF3 hM3 ⟨⟨_,hl3⟩,λh=>(hM1l _ h).2 rfl,rfl,λa M' W' h1 h2=>⟨M',h1,h2⟩,λa M' W' h1 h2=>⟨M',h1,h2⟩⟩ _ E1) ?_;rintro e a3 W4 hp
   cases e with
   | normal =>
    obtain⟨M',hI',hm'⟩:=hp;obtain⟨g1,g2,h4,h3⟩:=fin M' W4 hm';have hr:=run_endRound (P:=P) none h4;refine⟨_,_,hr,.inl ⟨rfl,_,⟨M',hI',hm'.nd,g1,rfl⟩,⟨λx hx=>x.fr (hm'.at_ x hx) (Fr.putObj W4 _ _) λb hb e=>?_,(World.putObj_heap_other oM).trans h3,?_⟩,?_,?_⟩⟩
    ·rcases g1 b ⟨x,hx,hb⟩ with h|h
     ·have:=hblt b h;omega
     ·omega
    ·refine(World.putObj_heap_same (aAf h4)).trans ?_;rw[hrec];rfl
    ·rintro b (h|h|h)
     ·rcases g2 b h with h|h
      ·exact .inl (.inl h)
      ·exact .inr h
     ·exact .inl (.inr (.inl h))
     ·exact .inl (.inr (.inr h))
    ·refine(((hfa.mono (G:=(aOu Mk w.heap.size (w.heap.size+1) (rec .ready none)).B) λ_ _ h =>.inl h).trans' f2 λr _ e =>.inr (.inr e)).trans' hm'.fr λr hr hb=>?_).trans' (Fr.putObj W4 _ _) λr _ e =>.inr (.inr e);rcases hM1n r hb with h|h
     ·exact .inl h
     ·omega
   | ret =>
    obtain⟨M',hI',hm'⟩:=hp;obtain⟨g1,g2,h4,h3⟩:=fin M' W4 hm';have hr:=run_endRound (P:=P) (some .ret) h4;refine⟨_,_,hr,.inr ⟨rfl,_,⟨M',hI',hm'.nd,g1,rfl⟩,⟨λx hx=>x.fr (hm'.at_ x hx) (Fr.putObj W4 _ _) λb hb e=>?_,(World.putObj_heap_other oM).trans h3,?_⟩,?_,?_⟩⟩
    ·rcases g1 b ⟨x,hx,hb⟩ with h|h
     ·have:=hblt b h;omega
     ·omega
    ·refine(World.putObj_heap_same (aAf h4)).trans ?_;rw[hrec];rfl
    ·rintro b (h|h|h)
     ·rcases g2 b h with h|h
      ·exact .inl (.inl h)
      ·exact .inr h
     ·exact .inl (.inr (.inl h))
     ·exact .inl (.inr (.inr h))
    ·refine(((hfa.mono (G:=(aOu Mk w.heap.size (w.heap.size+1) (rec .ready none)).B) λ_ _ h =>.inl h).trans' f2 λr _ e =>.inr (.inr e)).trans' hm'.fr λr hr hb=>?_).trans' (Fr.putObj W4 _ _) λr _ e =>.inr (.inr e);rcases hM1n r hb with h|h
     ·exact .inl h
     ·omega
   | exit id=>exact hp.elim
   | goto t=>exact hp.elim
   | panic ch=>exact hp.elim
   | outgrown=>exact hp.elim
  | exit id=>exact hp.elim
  | goto t=>exact hp.elim
  | ret=>exact hp.elim
  | panic ch=>exact hp.elim
  | outgrown=>exact hp.elim
 ·rintro e W2 ⟨⟨v,rfl⟩,hend⟩
  have key:∀Mk W9 ob,(∀e∈Mk,e.H W2)->Mk.Pairwise (λx y=>∀k,x.B k->¬y.B k)->(∀b,BlM Mk b->(BlM M b\/w.heap.size+2<=b))->W2.heap[w.heap.size]?=some (.deferred (some []))->Fr e0.B W1 W2->W9=W2.putObj (w.heap.size+1) ob->Mm F0 w0 W9 (Mk++[dfE w.heap.size]):=by
   intro Mk W9 ob hat hnd hsub hkD hfW hw9;subst hw9;refine⟨(hF0 W2 hfW).trans' (Fr.putObj W2 _ _) λr hr e=>?_,λx hx=>?_,λx hx b hb hlt=>?_,?_⟩
   ·have:=hM.fr.size;omega
   ·rcases List.mem_append.1 hx with hx|hx
    ·refine x.fr (hat x hx) (Fr.putObj W2 _ _) λb hb e=>?_;rcases hsub b ⟨x,hx,hb⟩ with h|h
     ·have:=hblt b h;omega
     ·omega
    ·rw[Gd_] at hx;subst hx;exact(World.putObj_heap_other oM).trans hkD
   ·rcases List.mem_append.1 hx with hx|hx
    ·rcases hsub b ⟨x,hx,hb⟩ with⟨y,hy,h⟩|h
     ·exact hM.own y hy b h hlt
     ·have:=hM.fr.size;omega
    ·rw[Gd_] at hx;subst hx;have hb:b=w.heap.size:=hb;have:=hM.fr.size;omega
   ·refine List.pairwise_append.2 ⟨hnd,List.pairwise_singleton _ _,λx hx y hy b hb hb2=>?_⟩;rw[Gd_] at hy;subst hy;have hb2:b=w.heap.size:=hb2;rcases hsub b ⟨x,hx,hb⟩ with h|h
    ·have:=hblt b h;omega
    ·omega
  rcases hend with⟨_,⟨Mk,hI,hnd,hsub,rfl⟩,⟨hat,hkD,hl⟩,_,hfW⟩|⟨_,⟨Mk,hT,hnd,hsub,rfl⟩,⟨hat,hkD,hl⟩,_,hfW⟩
  ·have hr:=run_endLoop (P:=P) hl (by rw[hrec];simp);rw[hrec] at hr;refine⟨none,_,hr,?_⟩;obtain⟨O9,dr9,kk9,hf9,hk9⟩:=hdone Mk _ hI (key _ _ _ hat hnd hsub hkD hfW rfl);rw[h2] at hf9;cases hf9;exact hk9 _ ⟨E.size,λs u hs=>E.at_ s u hs,by show _::a.defers=_;rw[E.df]⟩
  ·have hr:=run_endLoop (P:=P) hl (by rw[hrec];simp);rw[hrec] at hr;refine⟨some .ret,_,hr,?_⟩;exact wpIn_ret (aCT (R:=⟨Qf,none⟩) (hstop _ Mk _ hT (key _ _ _ hat hnd hsub hkD hfW rfl) ⟨E.size,λs u hs=>E.at_ s u hs,by show _::a.defers=_;rw[E.df]⟩))
end
variable{F:List Ft}
section
variable{P:Program}{R:Pst}{n:Nat}{p:Option (Nat×Nat)}{L N:Frm}{w w0:World}{r' i':Nat}
theorem aPJ (r' i' d:Nat)(N:Frm)(ts:Array TypeId){l:Nat}{v v2:Value}{J:Nat->Ent->Prop}{T:Ent->Prop}{j k:Nat}{e:Ent}(hd:d<n)(hF:aBg P w F)(hM:Mm F0 w0 w M)(hj:M[j]?=some e)(hR:aEO P l #[v,v2] w (aWJ J k e w) (aYr T e w))
  (kt:∀e' w',J (k+1) e'->Mm F0 w0 w' (M.set j e')->AtO P B R ds n (some (r',i'+1)) ((d,.bool true)::(N++L)) w')
  (kf:∀e' w',T e'->Mm F0 w0 w' (M.set j e')->AtO P B R ds n (some (r',i'+1)) ((d,.bool false)::(N++L)) w')
  (h:(lhs (go P w n B p L r' i' F) N L,aSU (go P w n B p L r' i' F) n L (λx y z =>.call ⟨.value x,#[y,z],ts⟩))=(rhs (go P w n B p L r' i' F) N B r' i',aST (go P w n B p L r' i' F) n L (λx y z =>.call ⟨.value x,#[y,z],ts⟩) (some d) (.func (.yield l) #[] #[]) v v2):=by kernel_rfl):AtO P B R ds n p L w :=
 aYZ (S:=aYr T e w) r' i' d N ts hd hF hM hj hR kt (λw' ⟨e',h1,h2,h3,h4⟩=>kf e' w' h1 (hM.put j hj h4 (λ_ _ h=>h) h2 h3)) h
end
variable{Ds:List Nat}
section
variable{P:Program}{n:Nat}{p:Option (Nat×Nat)}{L:Frm}{w w0:World}{fn:Func}{Φ:Ending->World->Prop}
def aH1 (Ds:List Nat):Ent:=aBQ (Ds.map dfE)
theorem Mm.perm {M':List Ent}(h:Mm F0 w0 w M)(q:M.Perm M'):Mm F0 w0 w M':=⟨h.fr,λe he=>h.at_ e (q.mem_iff.2 he),λe he=>h.own e (q.mem_iff.2 he),(q.pairwise_iff λ{_ _} h k hy hx=>h k hx hy).1 h.nd⟩
theorem Mm.mark0 (h:Mm F0 w0 w M):Mm F0 w0 w (M++[aH1 []]):=aDc (Ms:=[]) (by rw[List.append_nil];exact h)
theorem Mm.mark1 {d:Nat}(h:Mm F0 w0 w ((M++[aH1 Ds])++[dfE d])):Mm F0 w0 w (M++[aH1 (d::Ds)]):=by
 have h1:Mm F0 w0 w (M++aBQ (Ds.map dfE)::[dfE d]):=by
  rw[Gl_] at h;exact h
 have h2:=h1.ung;refine aDc (Ms:=(d::Ds).map dfE) (h2.perm ?_);refine List.Perm.append_left M ?_;rw[List.map_cons];exact List.perm_append_comm
theorem aMl {k:Nat}(h:aB0 (Ds.map mkD) k):k∈Ds:=by
 obtain⟨d,hd,e⟩:=List.mem_map.1 h;rw[<-aH2 e];exact hd
theorem Mm.unmks {w':World}(h:Mm F0 w0 w (M++[aH1 Ds]))(f:Fr (aB0 (Ds.map mkD)) w w'):Mm F0 w0 w' M:=by
 have hi:∀r,aB0 (Ds.map mkD) r->(aH1 Ds).B r:=λr hr=>⟨dfE r,List.mem_map.2 ⟨r,aMl hr,rfl⟩,rfl⟩;have hm:aH1 Ds∈M++[aH1 Ds]:=by simp
 obtain⟨n1,_,n3⟩:=List.pairwise_append.1 h.nd;exact⟨h.fr.trans' f λr hr hg=>h.own _ hm r (hi r hg) hr,λe he=>e.fr (h.at_ e (Gs_ _ he)) f λk hk hg=>n3 e he (aH1 Ds) sI k hk (hi k hg),λe he=>h.own e (Gs_ _ he),n1⟩
theorem aSn {a:Act}(E:a.defers=Ds.map mkD)(hM:Mm F0 w0 w (M++[aH1 Ds]))(hres:∀w',Mm F0 w0 w' M->∃v,(results fn a.tmps).run P w'=.ok v w'/\Φ (.returned v) w'):bodyPostM Fence.wide 0 P fn Φ .ret a w/\bodyPostM Fence.wide 0 P fn Φ .normal a w:=by
 have hg:(aH1 Ds).H w:=hM.at_ _ sI
 have:LeavesInM Fence.wide 0 P fn a.tmps Φ a.defers .returning w:=by
  rw[E];refine aJK _ w ⟨?_,λd hd=>?_⟩ λw' hf=>hres w' (hM.unmks hf)
  ·have h2:=hg.2;unfold List.Nodup;rw[List.pairwise_map] at h2 ⊢;exact h2.imp λ{x y} h e=>h x rfl (aH2 e)
  ·obtain⟨D,hD,rfl⟩:=List.mem_map.1 hd;exact⟨D,rfl,hg.1 (dfE D) (List.mem_map.2 ⟨D,hD,rfl⟩)⟩
 exact⟨this,this⟩
theorem aJ4 (hr:fn.results=#[])(hF:aBg P w F)(hM:Mm F0 w0 w (M++[aH1 Ds]))(k:∀w',Mm F0 w0 w' M->Φ (.returned (.tuple #[])) w')(h:aPG (go P w n B p L 1000000 0 F) [] L=aMw (go P w n B p L 1000000 0 F) []:=by kernel_rfl):AtO P B (aHZ P fn Φ) (Ds.map mkD) n p L w :=
 aRp [] hF h λa E=>aSn E.df hM λw' hM'=>⟨_,by simp[results,hr],k w' hM'⟩
end
end Go.Pl
namespace Go.Proofs.YtngjlnhojicjeaaGreatDoor
open Go.RowKit Go.Pl
variable{w:World}{M:List Ent}
theorem geM {N:Nat}{w0:World}{M1:List Ent}(h:∀k,BlM M k->N<=k)(hN:N<=w0.heap.size)(hM:Mm (BlM M) w0 w M1):∀k,BlM M1 k->N<=k:=λk ⟨e,he,hb⟩=>by
  rcases Nat.lt_or_ge k w0.heap.size with h1|h1
  · exact h k (hM.own e he k hb h1)
  · exact Gn_ hN h1
theorem ge0 {w0:World}(hM:Mm nF_ w0 w M):∀k,BlM M k->w0.heap.size<=k:=λk ⟨e,he,hb⟩=>hM.ge he hb
section
variable{P:Program}{B:Code}{n:Nat}{p:Option (Nat×Nat)}{L:Frm}{w0:World}{F:List Ft}{F0:Nat->Prop}{fn:Func}{Φ:Ending->World->Prop}{t2 T2 b2:Nat}{v2:Value}
theorem aNB {a:Act}(hr:fn.results=#[.cell t2 T2])(h2:a.eval (.tmp t2)=vP b2 0)(j2:Nat)(m2:M[j2]?=some (bk b2 #[v2] T2))(hs:scT P T2=true)(hM:Mm F0 w0 w M):(results fn a.tmps).run P w=.ok v2 w:=by
  have l2:=aFF (P:=P) hs (bx (hM.get j2 m2) 0 rfl);have e2:a.tmps[t2]?.getD undef=vP b2 0:=by have:a.tmps.getD t2 undef=vP b2 0:=h2;simpa using this
  simp only[Instr.loadAt,Instr.sureAddr,Sem.run_bind,Sem.run_pure,Result.andThen_ok] at l2;simp[results,hr,e2,asAddr,l2]
theorem aQt {D:Nat}(j2:Nat)(hr:fn.results=#[.cell t2 T2])(hF:aBg P w F)(hM:Mm F0 w0 w (M++[dfE D]))(m2:M[j2]?=some (bk b2 #[v2] T2))(k:∀w',Mm F0 w0 w' M->Φ (.returned v2) w')(hs:scT P T2=true:=by kernel_rfl)
    (h:aPG (go P w n B p L 1000000 0 F) [(t2,vP b2 0)] L=aMw (go P w n B p L 1000000 0 F) [(t2,vP b2 0)]:=by kernel_rfl):AtO P B (aHZ P fn Φ) [mkD D] n p L w :=
  aRp _ hF h λa E=>aLd (u:=true) E.df hM λw' hM'=>⟨_,aNB hr (E.at_ t2 _ (by simp[Go.Pl.look])) j2 m2 hs hM',k w' hM'⟩
theorem aQu (j2:Nat)(hr:fn.results=#[.cell t2 T2])(hF:aBg P w F)(hM:Mm F0 w0 w M)(m2:M[j2]?=some (bk b2 #[v2] T2))(k:Φ (.returned v2) w)(hs:scT P T2=true:=by kernel_rfl)
    (h:aPG (go P w n B p L 1000000 0 F) [(t2,vP b2 0)] L=aMw (go P w n B p L 1000000 0 F) [(t2,vP b2 0)]:=by kernel_rfl):AtO P B (aHZ P fn Φ) [] n p L w :=
  aRp _ hF h λa E=>aVP E.df ⟨_,aNB hr (E.at_ t2 _ (by simp[Go.Pl.look])) j2 m2 hs hM,k⟩
end
theorem aDN (p:Option Addr)(n c:Nat)(w:World):Calls Tryz.prog 129 #[vL p n c] w λe w'=>∃b,e=.returned (.func (.func 179) #[] #[vP b 0])/\w'.heap[b]?=some (.cells #[vL p n c] 100 (0,0))/\w.heap.size<=b/\Fr nF_ w w':=by
  refine beg Tryz.func129 rfl rfl [(0,vL p n c)] rfl rfl λZ hZ=>?_;have hM:=Mm.nil nF_ w;refine aAu 0 0 1 [] (cs:=#[vL p n c]) (T:=100) (v:=λb=>vP b 0) f0 hM λaa w1 hM=>rt1 2 (.func (.func 179) #[] #[vP aa 0]) rfl f0 (hZ _ _ ⟨aa,rfl,hM.get 0 rfl,hM.ge (.head _) rfl,hM.fr⟩)
def nbP (L:List Pt)(i k:Nat):Bool:=((i:Int)-(k:Int)==1)||((i:Int)-(k:Int)==(L.length:Int)-1)
def okS (L:List Pt)(i k:Nat):Bool:=bif nbP L i k then aB7 (sdP L i) (sdP L k)==1 else aB7 (sdP L i) (sdP L k)==0
def okI (L:List Pt)(i:Nat):Bool:=(List.range i).all λk=>okS L i k
def aDU (L:List Pt):Bool:=aLY L&&(List.range L.length).all λi=>okI L i
variable{k:Nat}
theorem aNg {L:List Pt}{i:Nat}(hk:k<i)(hi:i<L.length)(h:okS L i k=false):aDU L=false:=by
  unfold aDU;rw[Bool.and_eq_false_iff];right;rw[List.all_eq_false];refine⟨i,List.mem_range.2 hi,?_⟩;unfold okI;rw[Bool.not_eq_true,List.all_eq_false];exact⟨k,List.mem_range.2 hk,by rw[h];simp⟩
theorem aVB {L:List Pt}{i:Nat}(h:∀k,k<i->okS L i k=true):okI L i=true:=by
  unfold okI;rw[List.all_eq_true];exact λk hk=>h k (List.mem_range.1 hk)
theorem aTb {L:List Pt}(hr:aLY L=true)(h:∀i,i<L.length->okI L i=true):aDU L=true:=by
  unfold aDU;rw[hr,Bool.true_and,List.all_eq_true];exact λk hk=>h k (List.mem_range.1 hk)
theorem al_ {p:Nat->Prop}(h:∀j,j<k->p j)(e:p k):∀j,j<k+1->p j:=λj hj=>by rcases Nat.lt_succ_iff_lt_or_eq.1 hj with z|z;exact h j z;rw[z];exact e
theorem aBY {p:Option Addr}{cap:Nat}{L:List Pt}(hs:SrcP ptL 2 w p cap L):Calls Tryz.prog 73 #[vL p L.length cap] w λe w'=>e=.returned (vB (aDU L))/\Fr nF_ w w':=by
  have bb:=hs.bnd;refine aWX Tryz.func73 rfl rfl [(0,vL p L.length cap)] rfl rfl λZ hZ=>?_;have hM:=Mm.nil nF_ w;refine aAu 0 0 1 [] (cs:=#[vL p L.length cap]) (T:=100) (v:=λb=>vP b 0) f0 hM λac w1 hM=>aAu 0 1 2 [] (cs:=#[vB false]) (T:=4) (v:=λb=>vP b 0) f0 hM λaa w1 hM=>aAw 1 1 11 [(10,vL p L.length cap)] (fc (ldm 100 0 0 hM rfl rfl) f0) hM (aHs (hs.fr hM.fr)) λw1 hM=>seg 1 3 [(12,vB (!(aLY L)))] f0 ?_;cases ah:(aLY L)
  ·refine stm 2 0 [] 4 1 0 (vB false) f0 hM rfl λw1 hM=>aQu 1 rfl f0 hM rfl (hZ _ _ ⟨by unfold aDU;rw[ah];rfl,hM.fr⟩)
  refine aBW 3 2 3 [(14,vI (L.length:Int))] [] 3 (vI (L.length:Int)) (fc (ldm 100 0 0 hM rfl rfl) f0) hM λab w1 hM=>cal 4 1 16 [(15,vL p L.length cap)] (K:=λu w8=>∃b,u=.func (.func 179) #[] #[vP b 0]/\w8.heap[b]?=some (.cells #[vL p L.length cap] 100 (0,0))/\(World.heap _).size<=b/\Fr nF_ _ w8) (fc (ldm 100 0 0 hM rfl rfl) f0) ((aDN p L.length cap _).mono λe w9 ⟨b,h1,h2⟩=>⟨_,h1,b,rfl,h2⟩) λu w1 ⟨it130,hu,hi130,hs130,f1⟩=>?_;subst hu;have hn130:¬BlM [bk ac #[vL p L.length cap] 100,bk aa #[vB false] 4,bk ab #[vI (L.length:Int)] 3] it130:=λ⟨e,he,hb⟩=>Nat.lt_irrefl _ (Nat.lt_of_lt_of_le (e.lt (hM.at_ e he) hb) hs130);have hM:=hM.q f1;refine seg 1005 0 [] f0 ?_;have hg9:∀k9,BlM [bk ac #[vL p L.length cap] 100,bk aa #[vB false] 4,bk ab #[vI (L.length:Int)] 3] k9->w.heap.size<=k9:=ge0 hM;refine aQw 5 (g := .tmp 16) (ps:=#[17,18]) (vs:=sdV L) (λi Mk=>Mk=[bk ac #[vL p L.length cap] 100,bk aa #[vB false] 4,bk ab #[vI (L.length:Int)] 3]/\∀j,j<i->okI L j=true) (λMk=>aDU L=false/\Mk=[bk ac #[vL p L.length cap] 100,bk aa #[vB false] 4,bk ab #[vI (L.length:Int)] 3]) hM ⟨rfl,λj h=>absurd h (Nat.not_lt_zero j)⟩ (enters_of Tryz.func179 kR rfl) aIk.z (λG W hG f=>⟨f.obj hi130 id,λh=>(hG _ h).elim hn130 (λh2=>absurd (aAf hi130) oM),w.heap.size,hs.b (hM.fr.trans' f λ_ _ h=>h.elim),λk hk=>(hG k hk).elim (hg9 k) λh2=>Gn_ (hM.fr).size h2⟩) (vsz (ps:=#[17,18]) rfl) ?_ ?_ ?_
  · skip
    intro i v Mk W l hv hI hfW hM;obtain⟨rfl,hall⟩:=hI;obtain⟨hi,rfl⟩:=aNk hv;have hgk:∀k9,BlM [bk ac #[vL p L.length cap] 100,bk aa #[vB false] 4,bk ab #[vI (L.length:Int)] 3] k9->w.heap.size<=k9:=hg9;have hfw:Fr nF_ w W:=hfW;refine aBW 5 0 4 [] [] 3 (vI (i:Int)) f0 hM λad w1 hM=>aBW 6 0 5 [] [] 126 (.agg #[vI (sdP L i).1.1,vI (sdP L i).1.2,vI (sdP L i).2.1,vI (sdP L i).2.2]) f0 hM λae w1 hM=>?_;have hg2:∀k9,BlM [bk ac #[vL p L.length cap] 100,bk aa #[vB false] 4,bk ab #[vI (L.length:Int)] 3,bk ad #[vI (i:Int)] 3,bk ae #[vI (sdP L i).1.1,vI (sdP L i).1.2,vI (sdP L i).2.1,vI (sdP L i).2.2] 126] k9->w.heap.size<=k9:=geM hgk hfw.size hM;refine aJc [(5,vP ae 0),(4,vP ad 0),(3,vP ab 0),(2,vP aa 0),(1,vP ac 0)] f0 λa E=>⟨_,_,E,hM,λW2 l2 R2 hf2 hM hE2=>?_⟩;refine cal 7 1 20 [(19,vL p L.length cap)] (K:=λu w8=>∃b,u=.func (.func 179) #[] #[vP b 0]/\w8.heap[b]?=some (.cells #[vL p L.length cap] 100 (0,0))/\(World.heap _).size<=b/\Fr nF_ _ w8) (fc (ldm 100 0 0 hM rfl rfl) f0) ((aDN p L.length cap _).mono λe w9 ⟨b,h1,h2⟩=>⟨_,h1,b,rfl,h2⟩) λu w1 ⟨it133,hu,hi133,hs133,f1⟩=>?_;subst hu;have hn133:¬BlM [bk ac #[vL p L.length cap] 100,bk aa #[vB false] 4,bk ab #[vI (L.length:Int)] 3,bk ad #[vI (i:Int)] 3,bk ae #[vI (sdP L i).1.1,vI (sdP L i).1.2,vI (sdP L i).2.1,vI (sdP L i).2.2] 126] it133:=λ⟨e,he,hb⟩=>Nat.lt_irrefl _ (Nat.lt_of_lt_of_le (e.lt (hM.at_ e he) hb) hs133);have hM:=hM.q f1;refine seg 1008 0 [] f0 ?_;have hg9:∀k9,BlM [bk ac #[vL p L.length cap] 100,bk aa #[vB false] 4,bk ab #[vI (L.length:Int)] 3,bk ad #[vI (i:Int)] 3,bk ae #[vI (sdP L i).1.1,vI (sdP L i).1.2,vI (sdP L i).2.1,vI (sdP L i).2.2] 126] k9->w.heap.size<=k9:=geM hg2 (Gn_ hf2.size (Gj_ _)) hM;obtain⟨rr4,hlp4⟩:=hE2.lp;refine aXF 8 2 (g := .tmp 20) (ps:=#[21,22]) (vs:=sdV L) (λk Mk=>Mk=[bk ac #[vL p L.length cap] 100,bk aa #[vB false] 4,bk ab #[vI (L.length:Int)] 3,bk ad #[vI (i:Int)] 3,bk ae #[vI (sdP L i).1.1,vI (sdP L i).1.2,vI (sdP L i).2.1,vI (sdP L i).2.2] 126]/\∀j,j<k->okS L i j=true) (λMk=>aDU L=false/\Mk=[bk ac #[vL p L.length cap] 100,bk aa #[vB false] 4,bk ab #[vI (L.length:Int)] 3,bk ad #[vI (i:Int)] 3,bk ae #[vI (sdP L i).1.1,vI (sdP L i).1.2,vI (sdP L i).2.1,vI (sdP L i).2.2] 126]) (λMk=>Mk=[bk ac #[vL p L.length cap] 100,bk aa #[vB false] 4,bk ab #[vI (L.length:Int)] 3,bk ad #[vI (i:Int)] 3,bk ae #[vI (sdP L i).1.1,vI (sdP L i).1.2,vI (sdP L i).2.1,vI (sdP L i).2.2] 126]/\∀j,j<i->okS L i j=true) hE2.rd (hM.fr.obj hlp4 hE2.nl) hM ⟨rfl,λj h=>absurd h (Nat.not_lt_zero j)⟩ (enters_of Tryz.func179 kR rfl) aIk (λG W hG f=>⟨f.obj hi133 id,λh=>(hG _ h).elim hn133 (λh2=>absurd (aAf hi133) oM),w.heap.size,hs.b ((hf2.trans' hM.fr λr hr hb=>absurd hr (by have:=hg2 r hb;omega)).trans' f λ_ _ h=>h.elim),λk hk=>(hG k hk).elim (hg9 k) λh2=>Gn_ ((hf2.trans' hM.fr λr hr hb=>absurd hr (by have:=hg2 r hb;omega))).size h2⟩) (vsz (ps:=#[21,22]) rfl) ?_ ?_ ?_ kR
    · skip
      intro k v Mk W l hv hI hfW hM;obtain⟨rfl,hin⟩:=hI;obtain⟨hk,rfl⟩:=aNk hv;have hgk:∀k9,BlM [bk ac #[vL p L.length cap] 100,bk aa #[vB false] 4,bk ab #[vI (L.length:Int)] 3,bk ad #[vI (i:Int)] 3,bk ae #[vI (sdP L i).1.1,vI (sdP L i).1.2,vI (sdP L i).2.1,vI (sdP L i).2.2] 126] k9->w.heap.size<=k9:=hg9;have hfw:Fr nF_ w W:=hf2.trans' hfW λr hr hb=>absurd hr (by have:=hg2 r hb;omega);refine aBW 9 0 7 [(6,vI (k:Int))] [] 126 (.agg #[vI (sdP L k).1.1,vI (sdP L k).1.2,vI (sdP L k).2.1,vI (sdP L k).2.2]) f0 hM λam w1 hM=>aJc [(7,vP am 0),(6,vI (k:Int)),(5,vP ae 0),(4,vP ad 0),(3,vP ab 0),(2,vP aa 0)] f0 λa E=>⟨_,_,E,hM,λW4 l4 R4 hf4 hM hE4=>?_⟩;replace hf4:Fr nF_ w W4:=hf2.trans' hf4 λr hr hb=>absurd hr (by have:=hg2 r hb;omega);refine seg 10 3 [(25,vB (decide ((i:Int)<=(k:Int))))] (fc (ldm 3 3 0 hM rfl rfl) f0) ?_;cases ai:(decide ((i:Int)<=(k:Int)))
      rotate_left
      ·have an:=dt ai;exact aZX 10 3 2 λa E=>hE4.brk a _ _ ⟨rfl,λj hj=>hin j oM⟩ (hM.pick [0,1,2,3,4])
      have an:=df ai;refine aAw 11 2 28 [(26,.agg #[vI (sdP L i).1.1,vI (sdP L i).1.2,vI (sdP L i).2.1,vI (sdP L i).2.2]),(27,.agg #[vI (sdP L k).1.1,vI (sdP L k).1.2,vI (sdP L k).2.1,vI (sdP L k).2.2])] (fc (lam 126 4 0 4 hM rfl) (fc (lam 126 5 0 4 hM rfl) f0)) hM (aFV (sdP L i) (sdP L k) _) λw1 hM=>seg 12 5 [(8,vI (aB7 (sdP L i) (sdP L k))),(33,vB (((i:Int)-(k:Int))==1))] (fc (ldm 3 3 0 hM rfl rfl) (fc (aGq (i:Int) (k:Int) u3_) f0)) ?_;cases af:(((i:Int)-(k:Int))==1)
      rotate_left
      ·have ao:=et af;refine seg 13 6 [(9,vB true),(46,vB (!((aB7 (sdP L i) (sdP L k))==1)))] f0 ?_;cases aj:((aB7 (sdP L i) (sdP L k))==1)
       ·refine stm 14 0 [] 4 1 0 (vB false) f0 hM rfl λw1 hM=>?_;have hok:okS L i k=false:=by unfold okS nbP;simp only[af,aj]<;>rfl
        exact aTl [] f0 λa E=>hE4.ret a _ _ ⟨aNg oM hi hok,rfl⟩ (hM.pick [0,1,2,3,4])
       have hok:okS L i k=true:=by unfold okS nbP;simp only[af,aj]<;>rfl
       exact aJc [] f0 λa E=>hE4.nrm a _ _ ⟨rfl,al_ hin hok⟩ (hM.pick [0,1,2,3,4])
      have ao:=ef af;refine seg 13 2 [(9,vB (((i:Int)-(k:Int))==((L.length:Int)-1))),(42,vB (((i:Int)-(k:Int))==((L.length:Int)-1)))] (fc (ldm 3 3 0 hM rfl rfl) (fc (aGq (i:Int) (k:Int) u3_) (fc (ldm 3 2 0 hM rfl rfl) (fc (aGq (L.length:Int) 1 u3_) f0)))) ?_;cases ag:(((i:Int)-(k:Int))==((L.length:Int)-1))
      ·have aq:=ef ag;refine seg 13 13 [(53,vB (!((aB7 (sdP L i) (sdP L k))==0)))] f0 ?_;cases ak:((aB7 (sdP L i) (sdP L k))==0)
       ·refine stm 14 0 [] 4 1 0 (vB false) f0 hM rfl λw1 hM=>?_;have hok:okS L i k=false:=by unfold okS nbP;simp only[af,ag,ak]<;>rfl
        exact aTl [] f0 λa E=>hE4.ret a _ _ ⟨aNg oM hi hok,rfl⟩ (hM.pick [0,1,2,3,4])
       have hok:okS L i k=true:=by unfold okS nbP;simp only[af,ag,ak]<;>rfl
       exact aJc [] f0 λa E=>hE4.nrm a _ _ ⟨rfl,al_ hin hok⟩ (hM.pick [0,1,2,3,4])
      have aq:=et ag;refine seg 13 6 [(46,vB (!((aB7 (sdP L i) (sdP L k))==1)))] f0 ?_;cases al:((aB7 (sdP L i) (sdP L k))==1)
      ·refine stm 14 0 [] 4 1 0 (vB false) f0 hM rfl λw1 hM=>?_;have hok:okS L i k=false:=by unfold okS nbP;simp only[af,ag,al]<;>rfl
       exact aTl [] f0 λa E=>hE4.ret a _ _ ⟨aNg oM hi hok,rfl⟩ (hM.pick [0,1,2,3,4])
      have hok:okS L i k=true:=by unfold okS nbP;simp only[af,ag,al]<;>rfl
      exact aJc [] f0 λa E=>hE4.nrm a _ _ ⟨rfl,al_ hin hok⟩ (hM.pick [0,1,2,3,4])
    · skip
      intro Mk w1 hI hM;have hk:(sdV L).length=L.length:=by unfold sdV;rw[Gp_,List.length_range]
      rw[hk] at hI
      obtain⟨rfl,hin⟩:Mk=[bk ac #[vL p L.length cap] 100,bk aa #[vB false] 4,bk ab #[vI (L.length:Int)] 3,bk ad #[vI (i:Int)] 3,bk ae #[vI (sdP L i).1.1,vI (sdP L i).1.2,vI (sdP L i).2.1,vI (sdP L i).2.2] 126]/\∀j,j<i->okS L i j=true:=by
        rcases hI with⟨rfl,h⟩|h
        · exact⟨rfl,λj hj=>h j oM⟩
        · exact h
      exact aJc [] f0 λa E=>hE2.nrm a _ _ ⟨rfl,λj hj=>by rcases Nat.lt_succ_iff_lt_or_eq.1 hj with h|h;exact hall j h;rw[h];exact aVB hin⟩ (hM.pick [0,1,2])
    · skip
      intro a Mk w1 hT hM E;obtain⟨hsm,rfl⟩:=hT;exact hE2.ret a _ _ ⟨hsm,rfl⟩ (hM.pick [0,1,2])
  · skip
    intro Mk w1 hI hM;obtain⟨i,hk⟩:∃k,k=(sdV L).length:=⟨_,rfl⟩;rw[<-hk] at hI;replace hk:i=L.length:=by rw[hk];unfold sdV;rw[Gp_,List.length_range]
    obtain⟨rfl,hall⟩:=hI;refine stm 15 0 [] 4 1 0 (vB true) f0 hM rfl λw1 hM=>?_;have hM:Mm nF_ w _ ([bk ac #[vL p L.length cap] 100,bk aa #[vB true] 4,bk ab #[vI (L.length:Int)] 3]++[dfE _]):=hM;exact aQt 1 rfl f0 hM rfl (λw9 hM=>hZ _ _ ⟨by rw[aTb (ah) (λi hi=>hall i oM)],hM.fr⟩)
  · skip
    intro a Mk w1 hT hM E;obtain⟨hsm,rfl⟩:=hT;exact(aLd (u:=true) E.df hM λw9 hM=>⟨_,aNB rfl (E.at_ 2 (vP aa 0) rfl) 1 rfl kR hM,hZ _ _ ⟨by rw[hsm],hM.fr⟩⟩).1
def aJJ (s:Pt×Pt)(z:Pt):Bool:=(aDT s.1 s.2 z==0)&&(btw s.1.1 z.1 s.2.1&&btw s.1.2 z.2 s.2.2)
def dlt (s:Pt×Pt)(z:Pt):Int:=bif decide (s.1.2<=z.2)&&(decide (z.2<s.2.2)&&decide (0<aDT s.1 s.2 z)) then 1 else bif decide (z.2<s.1.2)&&(decide (s.2.2<=z.2)&&decide (aDT s.1 s.2 z<0)) then -1 else 0
def wnd (L:List Pt)(z:Pt):Nat->Int
  | 0=>0
  | k+1=>wnd L z k+dlt (sdP L k) z
def aPF (L:List Pt)(z:Pt):Int:=bif (List.range L.length).any (λk=>aJJ (sdP L k) z) then 0 else bif wnd L z L.length==0 then -1 else 1
def aFe (L:List Pt)(z:Pt):Int:=bif aDU L&&rnP z then aPF L z else -1
theorem aRT {L:List Pt}(h:aLY L=true)(i:Nat):rnP (aJT L i)=true:=by
  unfold aLY at h;simp only[Ga_,Bool.not_eq_true',List.any_eq_false] at h;unfold aJT;rw[List.getD_eq_getElem?_getD]
  cases hq:L[i]? with
  | none=>decide
  | some y=>have:=h.2 y (Ge_ hq);simpa using this
theorem aTc {L:List Pt}(h:aDU L=true):aLY L=true:=by
  unfold aDU at h;rw[Ga_] at h;exact h.1
theorem aVb (L:List Pt)(z:Pt):∀k:Nat,-(k:Int)<=wnd L z k/\wnd L z k<=(k:Int)
  | 0=>⟨by simp[wnd],by simp[wnd]⟩
  | k+1=>by
    have h:=aVb L z k
    have h2 : -1<=dlt (sdP L k) z/\dlt (sdP L k) z<=1:=by
      unfold dlt;cases decide ((sdP L k).1.2<=z.2)&&(decide (z.2<(sdP L k).2.2)&&decide (0<aDT (sdP L k).1 (sdP L k).2 z))<;>cases decide (z.2<(sdP L k).1.2)&&(decide ((sdP L k).2.2<=z.2)&&decide (aDT (sdP L k).1 (sdP L k).2 z<0))<;>decide
    unfold wnd;omega
theorem aVM {L:List Pt}{z:Pt}(hk:k<L.length)(h:aJJ (sdP L k) z=true):aPF L z=0:=by
  unfold aPF;rw[show((List.range L.length).any λk=>aJJ (sdP L k) z)=true from List.any_eq_true.2 ⟨k,List.mem_range.2 hk,h⟩];rfl
theorem aOm {L:List Pt}{z:Pt}(h:∀k,k<L.length->aJJ (sdP L k) z=false):aPF L z=bif wnd L z L.length==0 then -1 else 1:=by
  unfold aPF;rw[show((List.range L.length).any λk=>aJJ (sdP L k) z)=false from List.any_eq_false.2 λk hk=>by rw[h k (List.mem_range.1 hk)];simp];rfl
theorem aI1 {p:Option Addr}{cap:Nat}{L:List Pt}(hs:SrcP ptL 2 w p cap L){z:Pt}(hr:aLY L=true)(hz:rnP z=true):Calls Tryz.prog 192 #[vL p L.length cap,.agg #[vI z.1,vI z.2]] w λe w'=>e=.returned (vI (aPF L z))/\Fr nF_ w w':=by
  have bb:=hs.bnd;have hlr:L.length<=2000:=by have h9:=hr;unfold aLY at h9;simp only[Ga_,decide_eq_true_eq] at h9;omega
  refine aWX Tryz.func192 rfl rfl [(0,vL p L.length cap),(1,.agg #[vI z.1,vI z.2])] rfl rfl λZ hZ=>?_;have hM:=Mm.nil nF_ w;refine aAu 0 0 3 [] (cs:=#[vI z.1,vI z.2]) (T:=29) (v:=λb=>vP b 0) f0 hM λaa w1 hM=>aAu 0 1 4 [] (cs:=#[vI 0]) (T:=3) (v:=λb=>vP b 0) f0 hM λac w1 hM=>aBW 1 0 5 [] [] 3 (vI 0) f0 hM λab w1 hM=>cal 2 1 10 [(9,vL p L.length cap)] (K:=λu w8=>∃b,u=.func (.func 179) #[] #[vP b 0]/\w8.heap[b]?=some (.cells #[vL p L.length cap] 100 (0,0))/\(World.heap _).size<=b/\Fr nF_ _ w8) f0 ((aDN p L.length cap _).mono λe w9 ⟨b,h1,h2⟩=>⟨_,h1,b,rfl,h2⟩) λu w1 ⟨it129,hu,hi129,hs129,f1⟩=>?_;subst hu;have hn129:¬BlM [bk aa #[vI z.1,vI z.2] 29,bk ac #[vI 0] 3,bk ab #[vI 0] 3] it129:=λ⟨e,he,hb⟩=>Nat.lt_irrefl _ (Nat.lt_of_lt_of_le (e.lt (hM.at_ e he) hb) hs129);have hM:=hM.q f1;refine seg 1003 0 [] f0 ?_;have hg9:∀k9,BlM [bk aa #[vI z.1,vI z.2] 29,bk ac #[vI 0] 3,bk ab #[vI 0] 3] k9->w.heap.size<=k9:=ge0 hM;refine aQw 3 (g := .tmp 10) (ps:=#[11,12]) (vs:=sdV L) (λk Mk=>Mk=[bk aa #[vI z.1,vI z.2] 29,bk ac #[vI 0] 3,bk ab #[vI (wnd L z k)] 3]/\∀j,j<k->aJJ (sdP L j) z=false) (λMk=>aPF L z=0/\∃c,Mk=[bk aa #[vI z.1,vI z.2] 29,bk ac #[vI 0] 3,bk ab #[vI c] 3]) hM ⟨rfl,λj h=>absurd h (Nat.not_lt_zero j)⟩ (enters_of Tryz.func179 kR rfl) aIk.z (λG W hG f=>⟨f.obj hi129 id,λh=>(hG _ h).elim hn129 (λh2=>absurd (aAf hi129) oM),w.heap.size,hs.b (hM.fr.trans' f λ_ _ h=>h.elim),λk hk=>(hG k hk).elim (hg9 k) λh2=>Gn_ (hM.fr).size h2⟩) (vsz (ps:=#[11,12]) rfl) ?_ ?_ ?_
  · skip
    intro k v Mk W l hv hI hfW hM;obtain⟨rfl,hall⟩:=hI;obtain⟨hk,rfl⟩:=aNk hv;have hgk:∀k9,BlM [bk aa #[vI z.1,vI z.2] 29,bk ac #[vI 0] 3,bk ab #[vI (wnd L z k)] 3] k9->w.heap.size<=k9:=λk9 ⟨e,he,hb⟩=>by(simp only[List.mem_cons,List.not_mem_nil,or_false] at he;rcases he with rfl|rfl|rfl;exact hg9 _ ⟨_,.head _,hb⟩;exact hg9 _ ⟨_,.tail _ (.head _),hb⟩;exact hg9 _ ⟨_,.tail _ (.tail _ (.head _)),hb⟩)
    have hfw:Fr nF_ w W:=hfW;refine aBW 3 0 7 [] [] 126 (.agg #[vI (sdP L k).1.1,vI (sdP L k).1.2,vI (sdP L k).2.1,vI (sdP L k).2.2]) f0 hM λad w1 hM=>aJc [(7,vP ad 0),(5,vP ab 0),(4,vP ac 0),(3,vP aa 0)] f0 λa E=>⟨_,_,E,hM,λW2 l2 R2 hf2 hM hE2=>?_⟩;have hwb:=aVb L z k;refine aAw 4 5 18 [(14,.agg #[vI (sdP L k).1.1,vI (sdP L k).1.2]),(16,.agg #[vI (sdP L k).2.1,vI (sdP L k).2.2]),(17,.agg #[vI z.1,vI z.2])] (fc (lam 29 3 0 2 hM rfl) (fc (lam 29 3 2 2 hM rfl) (fc (lam 29 0 0 2 hM rfl) f0))) hM (aLE (a:=(sdP L k).1) (b:=(sdP L k).2) (c:=z) (aRT hr _) (aRT hr _) hz _) λw1 hM=>seg 5 0 [(8,vI (aDT (sdP L k).1 (sdP L k).2 z))] f0 ?_
    have cu131:∀(w2:World),aJJ (sdP L k) z=false->Mm (BlM [bk aa #[vI z.1,vI z.2] 29,bk ac #[vI 0] 3,bk ab #[vI (wnd L z k)] 3,bk ad #[vI (sdP L k).1.1,vI (sdP L k).1.2,vI (sdP L k).2.1,vI (sdP L k).2.2] 126]) W2 w2 [bk aa #[vI z.1,vI z.2] 29,bk ac #[vI 0] 3,bk ab #[vI (wnd L z k)] 3,bk ad #[vI (sdP L k).1.1,vI (sdP L k).1.2,vI (sdP L k).2.1,vI (sdP L k).2.2] 126]->AtO Tryz.prog (aSC 1003 (aAv Tryz.f192)) R2 [] 88 (some (7,0)) [(8,vI (aDT (sdP L k).1 (sdP L k).2 z)),(7,vP ad 0),(5,vP ab 0),(3,vP aa 0)] w2:=by
     intro w2 hon hM
     have cu132:∀(w2:World),(decide ((sdP L k).1.2<=z.2)&&(decide (z.2<(sdP L k).2.2)&&decide (0<aDT (sdP L k).1 (sdP L k).2 z)))=false->Mm (BlM [bk aa #[vI z.1,vI z.2] 29,bk ac #[vI 0] 3,bk ab #[vI (wnd L z k)] 3,bk ad #[vI (sdP L k).1.1,vI (sdP L k).1.2,vI (sdP L k).2.1,vI (sdP L k).2.2] 126]) W2 w2 [bk aa #[vI z.1,vI z.2] 29,bk ac #[vI 0] 3,bk ab #[vI (wnd L z k)] 3,bk ad #[vI (sdP L k).1.1,vI (sdP L k).1.2,vI (sdP L k).2.1,vI (sdP L k).2.2] 126]->AtO Tryz.prog (aSC 1003 (aAv Tryz.f192)) R2 [] 88 (some (9,0)) [(8,vI (aDT (sdP L k).1 (sdP L k).2 z)),(7,vP ad 0),(5,vP ab 0),(3,vP aa 0)] w2:=by
      intro w2 hup hM;refine seg 9 7 [(72,vB (decide (z.2<(sdP L k).1.2)))] (fc (ldm 3 3 1 hM rfl rfl) (fc (ldm 3 0 1 hM rfl rfl) f0)) ?_;cases ae:(decide (z.2<(sdP L k).1.2))
      ·have hw:(wnd L z k)=wnd L z (k+1):=by show _=wnd L z k+dlt (sdP L k) z;unfold dlt;simp only[hup,ae];first|rfl|simp|omega
       exact aJc [] f0 λa E=>hE2.nrm a [bk aa #[vI z.1,vI z.2] 29,bk ac #[vI 0] 3,bk ab #[vI (wnd L z k)] 3] _ ⟨by rw[<-hw],al_ hall hon⟩ (hM.pick [0,1,2])
      refine seg 9 15 [(80,vB (decide ((sdP L k).2.2<=z.2)))] (fc (ldm 3 3 3 hM rfl rfl) (fc (ldm 3 0 1 hM rfl rfl) f0)) ?_;cases ah:(decide ((sdP L k).2.2<=z.2))
      ·have hw:(wnd L z k)=wnd L z (k+1):=by show _=wnd L z k+dlt (sdP L k) z;unfold dlt;simp only[hup,ae,ah];first|rfl|simp|omega
       exact aJc [] f0 λa E=>hE2.nrm a [bk aa #[vI z.1,vI z.2] 29,bk ac #[vI 0] 3,bk ab #[vI (wnd L z k)] 3] _ ⟨by rw[<-hw],al_ hall hon⟩ (hM.pick [0,1,2])
      refine seg 9 19 [(65,vB (decide ((aDT (sdP L k).1 (sdP L k).2 z)<0)))] f0 ?_;cases ak:(decide ((aDT (sdP L k).1 (sdP L k).2 z)<0))
      ·have hw:(wnd L z k)=wnd L z (k+1):=by show _=wnd L z k+dlt (sdP L k) z;unfold dlt;simp only[hup,ae,ah,ak];first|rfl|simp|omega
       exact aJc [] f0 λa E=>hE2.nrm a [bk aa #[vI z.1,vI z.2] 29,bk ac #[vI 0] 3,bk ab #[vI (wnd L z k)] 3] _ ⟨by rw[<-hw],al_ hall hon⟩ (hM.pick [0,1,2])
      refine stm 10 2 [(85,vI ((wnd L z k)-1))] 3 2 0 (vI ((wnd L z k)-1)) (fc (ldm 3 2 0 hM rfl rfl) (fc (aGq (wnd L z k) 1 u3_) f0)) hM rfl λw1 hM=>?_;have hw:((wnd L z k)-1)=wnd L z (k+1):=by show _=wnd L z k+dlt (sdP L k) z;unfold dlt;simp only[hup,ae,ah,ak];first|rfl|simp|omega
      exact aJc [] f0 λa E=>hE2.nrm a [bk aa #[vI z.1,vI z.2] 29,bk ac #[vI 0] 3,bk ab #[vI ((wnd L z k)-1)] 3] _ ⟨by rw[<-hw],al_ hall hon⟩ (hM.pick [0,1,2])
     refine seg 7 7 [(51,vB (decide ((sdP L k).1.2<=z.2)))] (fc (ldm 3 3 1 hM rfl rfl) (fc (ldm 3 0 1 hM rfl rfl) f0)) ?_;cases af:(decide ((sdP L k).1.2<=z.2))
     ·refine seg 9 0 [] f0 (aAi _ (cu132 _ (by simp only[af]<;>rfl) hM))
     refine seg 7 15 [(59,vB (decide (z.2<(sdP L k).2.2)))] (fc (ldm 3 3 3 hM rfl rfl) (fc (ldm 3 0 1 hM rfl rfl) f0)) ?_;cases ai:(decide (z.2<(sdP L k).2.2))
     ·refine seg 9 0 [] f0 (aAi _ (cu132 _ (by simp only[af,ai]<;>rfl) hM))
     refine seg 7 19 [(44,vB (decide (0<(aDT (sdP L k).1 (sdP L k).2 z))))] f0 ?_;cases al:(decide (0<(aDT (sdP L k).1 (sdP L k).2 z)))
     ·refine seg 9 0 [] f0 (aAi _ (cu132 _ (by simp only[af,ai,al]<;>rfl) hM))
     refine stm 8 2 [(64,vI ((wnd L z k)+1))] 3 2 0 (vI ((wnd L z k)+1)) (fc (ldm 3 2 0 hM rfl rfl) (fc (aAP (wnd L z k) 1 u3_) f0)) hM rfl λw1 hM=>?_;have hw:((wnd L z k)+1)=wnd L z (k+1):=by show _=wnd L z k+dlt (sdP L k) z;unfold dlt;simp only[af,ai,al];first|rfl|simp|omega
     exact aJc [] f0 λa E=>hE2.nrm a [bk aa #[vI z.1,vI z.2] 29,bk ac #[vI 0] 3,bk ab #[vI ((wnd L z k)+1)] 3] _ ⟨by rw[<-hw],al_ hall hon⟩ (hM.pick [0,1,2])
    refine seg 5 3 [(22,vB ((aDT (sdP L k).1 (sdP L k).2 z)==0))] f0 ?_;cases ag:((aDT (sdP L k).1 (sdP L k).2 z)==0)
    ·refine seg 7 0 [] f0 (aAi _ (cu131 _ (by unfold aJJ;simp only[ag]<;>rfl) hM))
    refine aAw 5 11 31 [(25,vI (sdP L k).1.1),(27,vI z.1),(30,vI (sdP L k).2.1)] (fc (ldm 3 3 0 hM rfl rfl) (fc (ldm 3 0 0 hM rfl rfl) (fc (ldm 3 3 2 hM rfl rfl) f0))) hM (aEv (sdP L k).1.1 z.1 (sdP L k).2.1 _) λw1 hM=>seg 5 14 [(33,vB (btw (sdP L k).1.1 z.1 (sdP L k).2.1))] f0 ?_;cases aj:(btw (sdP L k).1.1 z.1 (sdP L k).2.1)
    ·refine seg 7 0 [] f0 (aAi _ (cu131 _ (by unfold aJJ;simp only[ag,aj]<;>rfl) hM))
    refine aAw 5 22 42 [(36,vI (sdP L k).1.2),(38,vI z.2),(41,vI (sdP L k).2.2)] (fc (ldm 3 3 1 hM rfl rfl) (fc (ldm 3 0 1 hM rfl rfl) (fc (ldm 3 3 3 hM rfl rfl) f0))) hM (aEv (sdP L k).1.2 z.2 (sdP L k).2.2 _) λw1 hM=>seg 5 25 [(19,vB (btw (sdP L k).1.2 z.2 (sdP L k).2.2))] f0 ?_;cases am:(btw (sdP L k).1.2 z.2 (sdP L k).2.2)
    ·refine seg 7 0 [] f0 (aAi _ (cu131 _ (by unfold aJJ;simp only[ag,aj,am]<;>rfl) hM))
    refine stm 6 0 [] 3 1 0 (vI 0) f0 hM rfl λw1 hM=>?_;have hon:aJJ (sdP L k) z=true:=by unfold aJJ;simp only[ag,aj,am]<;>rfl
    exact aTl [] f0 λa E=>hE2.ret a _ _ ⟨aVM hk hon,_,rfl⟩ (hM.pick [0,1,2])
  · skip
    intro Mk w1 hI hM;obtain⟨k,hk⟩:∃k,k=(sdV L).length:=⟨_,rfl⟩;rw[<-hk] at hI;replace hk:k=L.length:=by rw[hk];unfold sdV;rw[Gp_,List.length_range]
    obtain⟨rfl,hall⟩:=hI;refine seg 11 2 [(87,vB ((wnd L z k)==0))] (fc (ldm 3 2 0 hM rfl rfl) f0) ?_;cases an:((wnd L z k)==0)
    ·refine stm 13 0 [] 3 1 0 (vI 1) f0 hM rfl λw1 hM=>?_;have hM:Mm nF_ w _ ([bk aa #[vI z.1,vI z.2] 29,bk ac #[vI 1] 3,bk ab #[vI (wnd L z k)] 3]++[dfE _]):=hM;exact aQt 1 rfl f0 hM rfl (λw9 hM=>hZ _ _ ⟨by rw[aOm (λj hj=>hall j oM),<-hk,an];rfl,hM.fr⟩)
    refine stm 12 0 [] 3 1 0 (vI (-1)) f0 hM rfl λw1 hM=>?_;have hM:Mm nF_ w _ ([bk aa #[vI z.1,vI z.2] 29,bk ac #[vI (-1)] 3,bk ab #[vI (wnd L z k)] 3]++[dfE _]):=hM;exact aQt 1 rfl f0 hM rfl (λw9 hM=>hZ _ _ ⟨by rw[aOm (λj hj=>hall j oM),<-hk,an];rfl,hM.fr⟩)
  · skip
    intro a Mk w1 hT hM E;obtain⟨hsm,c9,rfl⟩:=hT;exact(aLd (u:=true) E.df hM λw9 hM=>⟨_,aNB rfl (E.at_ 4 (vP ac 0) rfl) 1 rfl kR hM,hZ _ _ ⟨by rw[hsm],hM.fr⟩⟩).1
theorem aG9 {p:Option Addr}{cap:Nat}{L:List Pt}(hs:SrcP ptL 2 w p cap L)(z:Pt):Calls Tryz.prog 147 #[vL p L.length cap,.agg #[vI z.1,vI z.2]] w λe w'=>e=.returned (vI (aFe L z))/\Fr nF_ w w':=by
  refine beg Tryz.func147 rfl rfl [(0,vL p L.length cap),(1,.agg #[vI z.1,vI z.2])] rfl rfl λZ hZ=>?_;have hM:=Mm.nil nF_ w;refine aAu 0 0 3 [] (cs:=#[vI z.1,vI z.2]) (T:=29) (v:=λb=>vP b 0) f0 hM λac w1 hM=>aAw 1 1 6 [(5,vL p L.length cap)] f0 hM (aBY (hs.fr hM.fr)) λw1 hM=>seg 1 4 [(8,vB (!(aDU L)))] f0 ?_;cases aa:(aDU L)
  ·exact rt1 4 (vI (-1)) rfl f0 (hZ _ _ ⟨by unfold aFe;simp only[aa]<;>rfl,hM.fr⟩)
  refine aAw 1 5 10 [(9,.agg #[vI z.1,vI z.2])] (fc (lam 29 0 0 2 hM rfl) f0) hM (aFL z _) λw1 hM=>seg 1 8 [(12,vB (!(rnP z)))] f0 ?_;cases ab:(rnP z)
  ·exact rt1 4 (vI (-1)) rfl f0 (hZ _ _ ⟨by unfold aFe;simp only[aa,ab]<;>rfl,hM.fr⟩)
  refine aAw 3 2 15 [(13,vL p L.length cap),(14,.agg #[vI z.1,vI z.2])] (fc (lam 29 0 0 2 hM rfl) f0) hM (aI1 (hs.fr hM.fr) (aTc aa) ab) λw1 hM=>rt1 4 (vI (aPF L z)) rfl f0 (hZ _ _ ⟨by unfold aFe;simp only[aa,ab]<;>rfl,hM.fr⟩)
end Go.Proofs.YtngjlnhojicjeaaGreatDoor
namespace Go.Pl
open Go.RowKit Go.Proofs.YtngjlnhojicjeaaGreatDoor
def aXz (O:Array Oper)(i:Nat)(LL:Frm):Option (Op×Option Value×Option Value×Option Value×Option Value×Option Value×Option Nat) :=
 match O[i]? with
 | some o=>(match o.op.operands[0]?,o.op.operands[1]?,o.op.operands[2]?,o.op.operands[3]?,o.op.operands[4]? with
  | some x,some y,some z,some u,some v=>some (o.op,opv LL x,opv LL y,opv LL z,opv LL u,opv LL v,o.dst)
  | _,_,_,_,_=>none)
 | none=>none
def aXy (O:Array Oper)(i:Nat)(f:Operand->Operand->Operand->Operand->Operand->Op)(v u t r q:Value)(d:Option Nat):Option (Op×Option Value×Option Value×Option Value×Option Value×Option Value×Option Nat) :=
 match O[i]? with
 | some o=>(match o.op.operands[0]?,o.op.operands[1]?,o.op.operands[2]?,o.op.operands[3]?,o.op.operands[4]? with
  | some x,some y,some z,some a,some b=>some (f x y z a b,some v,some u,some t,some r,some q,d)
  | _,_,_,_,_=>some (f (.tmp 0) (.tmp 0) (.tmp 0) (.tmp 0) (.tmp 0),none,none,none,none,none,none))
 | none=>some (f (.tmp 0) (.tmp 0) (.tmp 0) (.tmp 0) (.tmp 0),none,none,none,none,none,none)
variable{ds:List Deferred}{o:Oper}
theorem aVq {O:Array Oper}{i:Nat}{LL:Frm}{f:Operand->Operand->Operand->Operand->Operand->Op}{v u t r q:Value}{d:Option Nat}{n:Nat}{a:Act}(ho:O[i]?=some o)(E:EnvS ds n LL a)(h:aXz O i LL=aXy O i f v u t r q d):∃x y z x4 x5,o.op=f x y z x4 x5/\a.eval x=v/\a.eval y=u/\a.eval z=t/\a.eval x4=r/\a.eval x5=q/\o.dst=d:=by
 unfold aXz aXy at h;rw[ho] at h;simp only at h
 split at h
 ·rename_i x y z x4 x5 h1 h2 h3 h4 h5;simp only[Gk_,Prod.mk.injEq] at h;obtain⟨g1,g2,g3,g4,g5,g6,g7⟩:=h;exact⟨x,y,z,x4,x5,g1,E.opv g2,E.opv g3,E.opv g4,E.opv g5,E.opv g6,g7⟩
 ·cases h
theorem aQO {P:Program}{w:World}{ρ:Operand->Value}{x y z u v:Operand}{ts:Array TypeId}{a b c d e:Int}(ho:o.op=.call ⟨.builtin .min,#[x,y,z,u,v],ts⟩)(h1:ρ x=vI a)(h2:ρ y=vI b)(h3:ρ z=vI c)(h4:ρ u=vI d)(h5:ρ v=vI e):(execOp ρ o).run P w=.ok (.value (vI (min (min (min (min a b) c) d) e))) w:=by
 simp[execOp,ho,h1,h2,h3,h4,h5,resolve,invoke,go_sem,Builtin.min_,Builtin.min2,List.foldlM,<-aSk]
section
variable{rd:Option Nat}{P:Program}{B:Code}{n:Nat}{L:Frm}{w w0:World}{r:Nat}{F0:Nat->Prop}{ef:List Nat}{V:Lts->List (Option Value)}{F:Lts->List Ft}{Mf:Lts->List Bool->List Ent}
theorem aUz (p i d:Nat)(ts:Array TypeId)(a b c e f:Int)
  (hm:∀γ fr,Mf γ (flg B r ef i fr)=Mf (aBK γ p undef) ((flg B r ef i fr).set p true):=by intro γ fr;kernel_rfl)
  (hV:∀γ,((V (aBK γ p undef))[p]?).getD none=some (vI (min (min (min (min a b) c) e) f)):=by intro γ;rfl)
  (hs:∀γ,aXz (aA9 B r) i (frX P w n B r L ef V F i γ)=aXy (aA9 B r) i (λx y z u v =>.call ⟨.builtin .min,#[x,y,z,u,v],ts⟩) (vI a) (vI b) (vI c) (vI e) (vI f) (some d):=by intro γ;kernel_rfl):Arm rd P w n B r L ef V F ds F0 w0 Mf p i:=by
 intro γ fr a1 wm Q o ho En hw hM;obtain⟨x,y,z,x4,x5,h1,h2,h3,h4,h5,h6,h7⟩:=aVq ho En (hs γ);rw[hm] at hM;exact aF1 (w':=wm) (aQO h1 h2 h3 h4 h5 h6) ⟨undef,γ.e p,by rw[aAy,hV,h7];rfl,by rw[aAy];exact hM⟩
end
end Go.Pl
namespace Go.Proofs.YtngjlnhojicjeaaGreatDoor
open Go.RowKit Go.Pl
structure ShA (l:List Ob)(s:ShR)(w:World):Prop where
  blk:w.heap[s.b]?=some (.cells #[vS s.o.o.id,vI s.o.o.kind,vI s.o.o.x,vI s.o.o.y,vL s.o.pr s.o.o.refs.length s.o.cr,vL s.o.pt s.o.o.tags.length s.o.ct,vL s.lp (s.L l).length s.lc,vL s.pp (s.P l).length s.pc] 102 (0,0))
  ln:SrcP sgL 4 w s.lp s.lc (s.L l)
  pt:SrcP ptL 2 w s.pp s.pc (s.P l)
variable{w:World}{s:ShR}
theorem ShA.of {l:List Ob}(h:(shE l s).H w):ShA l s w:=by
  have h1:=h.1 _ (.head _);have h2:ow sgL 4 126 w 0 (vL s.lp (s.L l).length s.lc) (s.L l):=h.1 _ (.tail _ (.head _));have h3:ow ptL 2 29 w 0 (vL s.pp (s.P l).length s.pc) (s.P l):=h.1 _ (.tail _ (.tail _ (.head _)));exact⟨h1,(show Src sgL 4 w (vL s.lp (s.L l).length s.lc) (s.L l) from h2.src sgT.len).p.2,(show Src ptL 2 w (vL s.pp (s.P l).length s.pc) (s.P l) from h3.src ptT.len).p.2⟩
theorem ShA.fr {l:List Ob}{w':World}(h:ShA l s w)(f:Fr nF_ w w'):ShA l s w':=⟨f.obj h.blk id,h.ln.fr f,h.pt.fr f⟩
def ShN (l:List Ob)(s:ShR):Prop:=0<(s.L l).length/\0<(s.P l).length
def arP (l:List Ob)(s:ShR)(z:Pt):Bool:=(s.o.o.kind==3)&&(aDU (s.P l)&&decide (0<=aFe (s.P l) z))
def mnL (z:Pt)(L:List (Pt×Pt))(m:Int):Int:=L.foldl (λm x=>min m (aAA x z)) m
def aWn (L:List (Pt×Pt))(i:Nat):Pt×Pt:=L.getD i ((0,0),(0,0))
def sqP (l:List Ob)(s:ShR)(z:Pt):Int:=bif arP l s z then 0 else mnL z (s.L l) (aAA (aWn (s.L l) 0) z)
def nr4 (a b:Pt×Pt)(m:Int):Int:=min (min (min (min m (aAA a b.1)) (aAA a b.2)) (aAA b a.1)) (aAA b a.2)
def inn (a:Pt×Pt)(L:List (Pt×Pt))(m:Int):Int:=L.foldl (λm b=>nr4 a b m) m
def aSl (A L:List (Pt×Pt)):Bool:=A.any λa=>L.any λb => !(aB7 a b==0)
def apP (l:List Ob)(s u:ShR):Int:=bif arP l s (aJT (u.P l) 0) then 0 else bif aSl (u.L l) (s.L l) then 0 else(u.L l).foldl (λm a=>inn a (s.L l) m) (sqP l u (aJT (s.P l) 0))
variable{i:Nat}{y:Pt×Pt}
theorem aUc {L:List (Pt×Pt)}(h:L[i]?=some y):aWn L i=y:=by unfold aWn;rw[List.getD_eq_getElem?_getD,h];rfl
variable{k:Nat}{m0 m:Int}
theorem aTC {z:Pt}{L:List (Pt×Pt)}(h:m=mnL z (L.take k) m0)(hy:L[k]?=some y):min m (aAA y z)=mnL z (L.take (k+1)) m0:=by
  unfold mnL at h ⊢;rw[gt_ hy,List.foldl_append,<-h];rfl
variable{a:Pt×Pt}
theorem aRi {L:List (Pt×Pt)}(h:m=inn a (L.take k) m0)(hy:L[k]?=some y):nr4 a y m=inn a (L.take (k+1)) m0:=by
  unfold inn at h ⊢;rw[gt_ hy,List.foldl_append,<-h];rfl
theorem aTU {L:List (Pt×Pt)}(h:m=inn a (L.take k) m0)(hk:L.length<=k):m=inn a L m0:=by rw[Gc_ hk] at h;exact h
theorem aQ8 {A L:List (Pt×Pt)}{m2:Int}(h:m=(A.take i).foldl (λm a=>inn a L m) m0)(hy:A[i]?=some y)(h2:m2=inn y L m):m2=(A.take (i+1)).foldl (λm a=>inn a L m) m0:=by
  rw[gt_ hy,List.foldl_append,<-h];exact h2
theorem aTE {A L:List (Pt×Pt)}{b:Pt×Pt}(ha:A[i]?=some a)(hb:L[k]?=some b)(h:(aB7 a b==0)=false):aSl A L=true:=by
  unfold aSl;rw[List.any_eq_true];exact⟨a,Ge_ ha,List.any_eq_true.2 ⟨b,Ge_ hb,by rw[h];rfl⟩⟩
theorem aVK {A L:List (Pt×Pt)}(h:∀(i:Nat)(a:Pt×Pt),A[i]?=some a->∀(k:Nat)(b:Pt×Pt),L[k]?=some b->(aB7 a b==0)=true):aSl A L=false:=by
  unfold aSl;rw[List.any_eq_false];intro a ha;obtain⟨i,hi⟩:=List.getElem?_of_mem ha;rw[Bool.not_eq_true,List.any_eq_false];intro b hb;obtain⟨k,hk⟩:=List.getElem?_of_mem hb;rw[h i a hi k b hk];simp
theorem aTo {l:List Ob}{s:Bys}(hv:aAh l=true)(h:(aAd l s).1=0){o:Ob}(ho:l[(aAr l s).toNat]?=some o)(hk:o.kind=2):2<=(aAd l s).2.length:=by
  unfold aAd at h ⊢;rw[hv] at h ⊢
  cases hd:decide (aAr l s<0) with
  | true=>rw[hd] at h;cases h
  | false =>
    rw[hd] at h;simp only[Bool.not_true,cond_false] at h ⊢;rw[ho] at h ⊢;simp only at h ⊢;unfold aA3 at h ⊢;have hvo:=aCo hv o (Ge_ ho);rw[hk] at h ⊢;rw[show((2:Int)==1)=false from rfl,show((2:Int)==2)=true from rfl] at h ⊢;simp only[cond_false,Bool.true_or,cond_true] at h ⊢
    cases ha:o.refs.all λr=>(ptOf l r).isSome with
    | false=>rw[ha] at h;cases h
    | true =>
      simp only[cond_true,Gp_];have:=aLe hvo;rw[hk] at this;have:(2:Int)<=o.refs.length:=this;omega
variable{k:Int}
theorem aOn {P:List Pt}(h0:0<P.length)(h2:k=2->2<=P.length):0<(aEX k P).length:=by
  have h1:aH5 k P 0=[(P.getD 0 (0,0),P.getD ((0+1)%P.length) (0,0))]:=by
    unfold aH5
    cases hk:k==2 with
    | false=>simp
    | true =>
      have h3:=h2 (et hk)
      rw[decide_eq_true (by
        have:(((0:Nat):Int)+1)%(P.length:Int)=1:=Int.emod_eq_of_lt oM oM;omega)];rfl
  unfold aEX;obtain⟨n,hn⟩:∃n,P.length=n+1:=⟨P.length-1,by omega⟩;rw[hn,List.range_succ_eq_map,List.flatMap_cons,h1];simp
theorem aDG {l:List Ob}(hA:ShA l s w)(z:Pt):Calls Tryz.prog 111 #[vP s.b 0,.agg #[vI z.1,vI z.2]] w λe w'=>e=.returned (vB (arP l s z))/\Fr nF_ w w':=by
  refine beg Tryz.func111 rfl rfl [(0,vP s.b 0),(1,.agg #[vI z.1,vI z.2])] rfl rfl λZ hZ=>?_;have hM:=Mm.nil nF_ w;refine aAu 0 0 3 [] (cs:=#[vI z.1,vI z.2]) (T:=29) (v:=λb=>vP b 0) f0 hM λac w1 hM=>seg 1 0 [] f0 ?_;cases aa:(s.o.o.kind==3)
  ·refine drc [(4,vB false)] hM (λw5 hM=>(fc (ld0 3 hM (bx hA.blk 1 rfl)) (fc (tv 10 aa) f0))) λw5 hM=>rt1 4 (vB false) rfl f0 (hZ _ _ ⟨by unfold arP;simp only[aa]<;>rfl,hM.fr⟩)
  cases ab:(aDU (s.P l))
  ·refine drc [(4,vB false)] hM (λw5 hM=>(fc (ld0 3 hM (bx hA.blk 1 rfl)) (fc (tv 10 aa) (fc (ld0 100 hM (bx hA.blk 7 rfl)) (fc (rzc (tcl (aBY (hA.pt.fr hM.fr))) ab) f0))))) λw5 hM=>rt1 4 (vB false) rfl f0 (hZ _ _ ⟨by unfold arP;simp only[aa,ab]<;>rfl,hM.fr⟩)
  refine drc [(4,vB (decide (0<=(aFe (s.P l) z))))] hM (λw5 hM=>(fc (ld0 3 hM (bx hA.blk 1 rfl)) (fc (tv 10 aa) (fc (ld0 100 hM (bx hA.blk 7 rfl)) (fc (rzc (tcl (aBY (hA.pt.fr hM.fr))) ab) (fc (ld0 100 hM (bx hA.blk 7 rfl)) (fc (lam 29 0 0 2 hM rfl) (fc (tcl (aG9 (hA.pt.fr hM.fr) z)) f0)))))))) λw5 hM=>rt1 4 (vB (decide (0<=(aFe (s.P l) z)))) rfl f0 (hZ _ _ ⟨by unfold arP;simp only[aa,ab]<;>rfl,hM.fr⟩)
abbrev bAs (Z:Ending->World->Prop):=AtO Tryz.prog (aAv Tryz.f66) (aAI (bodyPost Tryz.prog Tryz.f66 Z)) [] 35
theorem aET {l:List Ob}(hA:ShA l s w)(hN:ShN l s)(z:Pt):Calls Tryz.prog 66 #[vP s.b 0,.agg #[vI z.1,vI z.2]] w λe w'=>e=.returned (vI (sqP l s z))/\Fr nF_ w w':=by
  obtain⟨hl0,hp0⟩:=hN;have bls:=hA.ln.bnd;refine beg Tryz.func66 rfl rfl [(0,vP s.b 0),(1,.agg #[vI z.1,vI z.2])] rfl rfl λZ hZ=>?_;have hM:=Mm.nil nF_ w;refine aAu 0 0 3 [] (cs:=#[vI z.1,vI z.2]) (T:=29) (v:=λb=>vP b 0) f0 hM λad w1 hM=>aAw 1 2 10 [(8,vP s.b 0),(9,.agg #[vI z.1,vI z.2])] (fc (lam 29 0 0 2 hM rfl) f0) hM (aDG (hA.fr hM.fr) z) λw1 hM=>?_;cases ae:(arP l s z)
  rotate_left
  ·exact rt1 4 (vI 0) rfl f0 (hZ _ _ ⟨by unfold sqP;rw[ae];rfl,hM.fr⟩)
  refine seg 3 0 [] f0 ?_;obtain⟨ab,af,aq,au,ai,aj⟩:=(hA.ln).el (i:=0) oM;refine drc [(5,vI (aAA ab z))] hM (λw5 hM=>(fc (ld0 99 hM (bx hA.blk 6 rfl)) (fc (ix 99 s.lc ai (gl af)) (fc (la0 126 hM aj) (fc (lam 29 0 0 2 hM rfl) (fc (tcl (aBO ab z _)) f0)))))) λw5 hM=>seg 5 0 [(22,vL s.lp (s.L l).length s.lc),(23,vI ((s.L l).length:Int)),(24,vI 0)] (fc (ld0 99 hM (bx hA.blk 6 rfl)) f0) ?_
  have ak:∀(ag:Nat)(k:Nat)(m:Int)(w2:World),k<=(s.L l).length->m=mnL z ((s.L l).take k) (aAA ab z)->Mm nF_ w w2 [bk ad #[vI z.1,vI z.2] 29]->ag=(s.L l).length-k->bAs Z (some (5,0)) [(24,vI (k:Int)),(23,vI ((s.L l).length:Int)),(22,vL s.lp (s.L l).length s.lc),(5,vI m),(3,vP ad 0)] w2:=by
   refine aCh λag al k m w2 hk hm hM av=>seg 5 1 [(25,vB (decide ((k:Int)<((s.L l).length:Int))))] f0 ?_;cases ah:(decide ((k:Int)<((s.L l).length:Int)))
   ·have am:=df ah;exact rt1 4 (vI m) rfl f0 (hZ _ _ ⟨by unfold sqP;rw[ae,aUc af,hm,Gc_ oM];rfl,hM.fr⟩)
   have am:=dt ah;obtain⟨aa,ac,aw,ax,an,ao⟩:=(hA.ln).el (i:=k) oM;refine aBW 6 2 7 [(27,.agg #[vI aa.1.1,vI aa.1.2,vI aa.2.1,vI aa.2.2])] [] 126 (.agg #[vI aa.1.1,vI aa.1.2,vI aa.2.1,vI aa.2.2]) (fc (ix 99 s.lc an (gl ac)) (fc (la0 126 hM ao) f0)) hM λay w1 hM=>aAw 7 3 31 [(28,vI m),(29,.agg #[vI aa.1.1,vI aa.1.2,vI aa.2.1,vI aa.2.2]),(30,.agg #[vI z.1,vI z.2])] (fc (lam 126 1 0 4 hM rfl) (fc (lam 29 0 0 2 hM rfl) f0)) hM (aBO aa z _) λw1 hM=>seg 5 0 [(5,vI (min m (aAA aa z))),(24,vI ((k:Int)+1))] (fc (aSS 3 m (aAA aa z)) (fc (aAP (k:Int) 1 u3_) f0)) (aAi _ (al _ oM (k+1) _ _ (gl ac) (aTC hm ac) (hM.pick [0]) rfl))
  exact aAi _ (ak _ 0 (aAA ab z) _ (Gg_ _) rfl hM rfl)
abbrev aYY (Z:Ending->World->Prop):=AtO Tryz.prog (aAv Tryz.f61) (aAI (bodyPost Tryz.prog Tryz.f61 Z)) [] 69
theorem aKo {l:List Ob}{u:ShR}(hA:ShA l s w)(hU:ShA l u w)(hN:ShN l s)(hU2:ShN l u):Calls Tryz.prog 61 #[vP s.b 0,vP u.b 0] w λe w'=>e=.returned (vI (apP l s u))/\Fr nF_ w w':=by
  obtain⟨hl0,hp0⟩:=hN;have hN2:=hU2;obtain⟨hl1,hp1⟩:=hU2;have bls:=hA.ln.bnd;have blu:=hU.ln.bnd;refine beg Tryz.func61 rfl rfl [(0,vP s.b 0),(1,vP u.b 0)] rfl rfl λY hY=>?_;have hM:=Mm.nil nF_ w;obtain⟨af,ag,a9,ba,au,av⟩:=(hU.pt).el (i:=0) oM;refine aAw 1 7 17 [(10,vP s.b 0),(16,.agg #[vI af.1,vI af.2])] (fc (ld0 100 hM (bx hU.blk 7 rfl)) (fc (ix 100 u.pc au (gl ag)) (fc (la0 29 hM av) f0))) hM (aDG (hA.fr hM.fr) af) λw1 hM=>?_;cases aj:(arP l s af)
  rotate_left
  ·exact rt1 4 (vI 0) rfl f0 (hY _ _ ⟨by unfold apP;rw[aEF ag,aj];rfl,hM.fr⟩)
  obtain⟨ac,ak,bb,bc,aw,ax⟩:=(hA.pt).el (i:=0) oM;refine aAw 3 7 25 [(18,vP u.b 0),(24,.agg #[vI ac.1,vI ac.2])] (fc (ld0 100 hM (bx hA.blk 7 rfl)) (fc (ix 100 s.pc aw (gl ak)) (fc (la0 29 hM ax) f0))) hM (aET (hU.fr hM.fr) hN2 ac) λw1 hM=>seg 5 0 [(5,vI (sqP l u ac)),(29,vL u.lp (u.L l).length u.lc),(30,vI ((u.L l).length:Int)),(31,vI 0)] (fc (ld0 99 hM (bx hU.blk 6 rfl)) f0) ?_
  have ay:∀(al:Nat)(i:Nat)(m:Int)(w2:World),i<=(u.L l).length->m=((u.L l).take i).foldl (λm a=>inn a (s.L l) m) (sqP l u ac)->(∀(i9:Nat),i9<i->∀(a:Pt×Pt),(u.L l)[i9]?=some a->∀(k:Nat)(b:Pt×Pt),(s.L l)[k]?=some b->(aB7 a b==0)=true)->Mm nF_ w w2 []->al=(u.L l).length-i->aYY Y (some (5,0)) [(31,vI (i:Int)),(30,vI ((u.L l).length:Int)),(29,vL u.lp (u.L l).length u.lc),(5,vI m),(0,vP s.b 0)] w2:=by
   refine aCh λal az i m w2 hi hm hno hM bd=>seg 5 1 [(32,vB (decide ((i:Int)<((u.L l).length:Int))))] f0 ?_;cases am:(decide ((i:Int)<((u.L l).length:Int)))
   ·have a0:=df am;exact rt1 4 (vI m) rfl f0 (hY _ _ ⟨by unfold apP;rw[aEF ag,aj,aVK (λi9 a ha=>hno i9 (by have:=gl ha;omega) a ha),aEF ak,hm,Gc_ oM];rfl,hM.fr⟩)
   have a0:=dt am;obtain⟨aa,ad,be,bf,a1,a2⟩:=(hU.ln).el (i:=i) oM;refine aBW 6 2 7 [(34,.agg #[vI aa.1.1,vI aa.1.2,vI aa.2.1,vI aa.2.2])] [] 126 (.agg #[vI aa.1.1,vI aa.1.2,vI aa.2.1,vI aa.2.2]) (fc (ix 99 u.lc a1 (gl ad)) (fc (la0 126 hM a2) f0)) hM λah w1 hM=>seg 8 0 [(38,vL s.lp (s.L l).length s.lc),(39,vI ((s.L l).length:Int)),(40,vI 0)] (fc (ld0 99 hM (bx hA.blk 6 rfl)) f0) ?_
   have a3:∀(an:Nat)(k:Nat)(m2:Int)(w2:World),k<=(s.L l).length->m2=inn aa ((s.L l).take k) m->(∀(k9:Nat),k9<k->∀(b:Pt×Pt),(s.L l)[k9]?=some b->(aB7 aa b==0)=true)->Mm nF_ w w2 [bk ah #[vI aa.1.1,vI aa.1.2,vI aa.2.1,vI aa.2.2] 126]->an=(s.L l).length-k->aYY Y (some (8,0)) [(40,vI (k:Int)),(39,vI ((s.L l).length:Int)),(38,vL s.lp (s.L l).length s.lc),(7,vP ah 0),(31,vI (i:Int)),(30,vI ((u.L l).length:Int)),(29,vL u.lp (u.L l).length u.lc),(5,vI m2),(0,vP s.b 0)] w2:=by
    refine aCh λan a4 k m2 w2 hk hm2 hin hM bg=>seg 8 1 [(41,vB (decide ((k:Int)<((s.L l).length:Int))))] f0 ?_;cases ao:(decide ((k:Int)<((s.L l).length:Int)))
    ·have a5:=df ao;refine seg 5 0 [(31,vI ((i:Int)+1))] (fc (aAP (i:Int) 1 u3_) f0) (aAi _ (az _ oM (i+1) _ _ (gl ad) (aQ8 hm ad (aTU hm2 oM)) (λi9 h9 a ha=>by rcases Nat.lt_succ_iff_lt_or_eq.1 h9 with h|h;exact hno i9 h a ha;subst h;obtain rfl:=Gh_ (ha.symm.trans ad);exact λk9 b hb=>hin k9 (by have:=gl hb;omega) b hb) (hM.pick []) rfl))
    have a5:=dt ao;obtain⟨ab,ae,bh,bi,a6,a7⟩:=(hA.ln).el (i:=k) oM;refine aBW 9 2 9 [(43,.agg #[vI ab.1.1,vI ab.1.2,vI ab.2.1,vI ab.2.2])] [] 126 (.agg #[vI ab.1.1,vI ab.1.2,vI ab.2.1,vI ab.2.2]) (fc (ix 99 s.lc a6 (gl ae)) (fc (la0 126 hM a7) f0)) hM λaq w1 hM=>aAw 10 2 46 [(44,.agg #[vI aa.1.1,vI aa.1.2,vI aa.2.1,vI aa.2.2]),(45,.agg #[vI ab.1.1,vI ab.1.2,vI ab.2.1,vI ab.2.2])] (fc (lam 126 0 0 4 hM rfl) (fc (lam 126 1 0 4 hM rfl) f0)) hM (aFV aa ab _) λw1 hM=>seg 10 4 [(47,vB (!((aB7 aa ab)==0)))] f0 ?_;cases ai:((aB7 aa ab)==0)
    ·have a8:=ef ai;exact rt1 4 (vI 0) rfl f0 (hY _ _ ⟨by unfold apP;rw[aEF ag,aj,aTE ad ae ai];rfl,hM.fr⟩)
    have a8:=et ai;refine seg 12 0 [] f0 (drx [17] (λZ=>[some (vI (min (min (min (min m2 (aAA aa ab.1)) (aAA aa ab.2)) (aAA ab aa.1)) (aAA ab aa.2)))]) _ (λZ l=>[bk ah #[vI aa.1.1,vI aa.1.2,vI aa.2.1,vI aa.2.2] 126,bk aq #[vI ab.1.1,vI ab.1.2,vI ab.2.1,vI ab.2.2] 126]) (λZ=>[(5,vI (min (min (min (min m2 (aAA aa ab.1)) (aAA aa ab.2)) (aAA ab aa.1)) (aAA ab aa.2)))]) hM (λZ=>rfl) (λZ l w5 hM=>(fc (lam 126 0 0 4 hM rfl) (fc (lam 29 1 0 2 hM rfl) (fc (tcl (aBO aa ab.1 _)) (fc (lam 126 0 0 4 hM rfl) (fc (lam 29 1 2 2 hM rfl) (fc (tcl (aBO aa ab.2 _)) (fc (lam 126 1 0 4 hM rfl) (fc (lam 29 0 0 2 hM rfl) (fc (tcl (aBO ab aa.1 _)) (fc (lam 126 1 0 4 hM rfl) (fc (lam 29 0 2 2 hM rfl) (fc (tcl (aBO ab aa.2 _)) f0))))))))))))) ⟨aUz 0 17 65 #[3,3,3,3,3] m2 (aAA aa ab.1) (aAA aa ab.2) (aAA ab aa.1) (aAA ab aa.2),trivial⟩ λbj w1 hM=>?_);replace hM:Mm nF_ w w1 [bk ah #[vI aa.1.1,vI aa.1.2,vI aa.2.1,vI aa.2.2] 126,bk aq #[vI ab.1.1,vI ab.1.2,vI ab.2.1,vI ab.2.2] 126]:=hM;refine seg 8 0 [(40,vI ((k:Int)+1))] (fc (aAP (k:Int) 1 u3_) f0) (aAi _ (a4 _ oM (k+1) _ _ (gl ae) (aRi hm2 ae) (λk9 h9 b hb=>by rcases Nat.lt_succ_iff_lt_or_eq.1 h9 with h|h;exact hin k9 h b hb;subst h;obtain rfl:=Gh_ (hb.symm.trans ae);exact ai) (hM.pick [0]) rfl))
   exact aAi _ (a3 _ 0 m _ (Gg_ _) rfl (λk9 h=>absurd h (Nat.not_lt_zero _)) hM rfl)
  exact aAi _ (ay _ 0 (sqP l u ac) _ (Gg_ _) rfl (λi9 h=>absurd h (Nat.not_lt_zero _)) hM rfl)
def aFg (lo hi x:Int):Int:=max (lo-x) (max 0 (x-hi))
def aM7 (b:Pt×Pt)(p:Pt):Int:=aFg b.1.1 b.2.1 p.1*aFg b.1.1 b.2.1 p.1+aFg b.1.2 b.2.2 p.2*aFg b.1.2 b.2.2 p.2
theorem aKA {d a:Int}(h0:0<=d)(h:d<=a\/d <= -a):d*d<=a*a:=by
 rcases h with h|h
 ·exact Int.mul_le_mul h h h0 oM
 ·rw[<-Int.neg_mul_neg a a];exact Int.mul_le_mul h h h0 oM
variable{x:Int}
theorem aKG {D al a b lo hi:Int}(h0:0<=al)(h1:al<=D)(ha:lo<=a/\a<=hi)(hb:lo<=b/\b<=hi):D*aFg lo hi x<=D*(x-a)-al*(b-a)\/D*aFg lo hi x <= -(D*(x-a)-al*(b-a)):=by
 have p1:0<=(D-al)*(a-lo):=Int.mul_nonneg oM oM;have p2:0<=al*(b-lo):=Int.mul_nonneg h0 oM;have p3:0<=(D-al)*(hi-a):=Int.mul_nonneg oM oM;have p4:0<=al*(hi-b):=Int.mul_nonneg h0 oM;simp only[Int.sub_mul,Int.mul_sub] at p1 p2 p3 p4 ⊢;have hg:aFg lo hi x=lo-x\/aFg lo hi x=0\/aFg lo hi x=x-hi:=by unfold aFg;omega
 rcases hg with hg|hg|hg
 ·rw[hg];simp only[Int.mul_sub];omega
 ·rw[hg,Int.mul_zero];omega
 ·rw[hg];simp only[Int.mul_sub];omega
theorem aCi (lo hi x:Int):0<=aFg lo hi x:=by unfold aFg;omega
theorem aO6 {lo hi a:Int}(ha:lo<=a/\a<=hi):aFg lo hi x<=x-a\/aFg lo hi x <= -(x-a):=by unfold aFg;omega
def aDP (b:Pt×Pt)(p:Pt):Prop:=(b.1.1<=p.1/\p.1<=b.2.1)/\(b.1.2<=p.2/\p.2<=b.2.2)
theorem aSA {b:Pt×Pt}{a p:Pt}(h:aDP b a):aM7 b p<=(p.1-a.1)*(p.1-a.1)+(p.2-a.2)*(p.2-a.2):=by
 have h1:=aKA (aCi _ _ p.1) (aO6 (x:=p.1) h.1);have h2:=aKA (aCi _ _ p.2) (aO6 (x:=p.2) h.2);unfold aM7;omega
variable{s:Pt×Pt}
theorem aFr {p:Pt}{b:Pt×Pt}(h1:aDP b s.1)(h2:aDP b s.2)(hn:[s.1,s.2,p].all aA4=true):aM7 b p<=aAA s p:=by
 have n1:aA4 s.1=true:=List.all_eq_true.1 hn _ (.head _);have n2:aA4 s.2=true:=List.all_eq_true.1 hn _ (.tail _ (.head _));have n3:aA4 p=true:=List.all_eq_true.1 hn _ (.tail _ (.tail _ (.head _)));unfold aAA;rw[hn];simp only[Bool.not_true,cond_false]
 cases c1:decide (aC0 s.1 s.2 p<=0) with
 | true =>
  simp only[cond_true];unfold aFi;rw[n1,n3];exact aSA h1
 | false =>
  simp only[cond_false]
  cases c2:decide (aC0 s.1 s.2 s.2<=aC0 s.1 s.2 p) with
  | true =>
   simp only[cond_true];unfold aFi;rw[n2,n3];exact aSA h2
  | false =>
   simp only[cond_false];have r1:=of_decide_eq_false c1;have r2:=of_decide_eq_false c2;have k1:=aKG (D:=aC0 s.1 s.2 s.2) (al:=aC0 s.1 s.2 p) (x:=p.1) oM oM h1.1 h2.1;have k2:=aKG (D:=aC0 s.1 s.2 s.2) (al:=aC0 s.1 s.2 p) (x:=p.2) oM oM h1.2 h2.2
   have e1:aC0 s.1 s.2 s.2*(p.1-s.1.1)-aC0 s.1 s.2 p*(s.2.1-s.1.1)=-((s.2.2-s.1.2)*aB2 s.1 s.2 p):=by
    unfold aC0 aB2;generalize s.2.1-s.1.1=vx;generalize s.2.2-s.1.2=vy;generalize p.1-s.1.1=wx;generalize p.2-s.1.2=wy;have q1:vx*vx*wx=vx*wx*vx:=by rw[Int.mul_assoc,Int.mul_comm vx (vx*wx)]
    have q2:vy*(vx*wy)=vy*wy*vx:=by rw[Int.mul_comm vx wy,Int.mul_assoc]
    have q3:vy*(vy*wx)=vy*vy*wx:=by rw[Int.mul_assoc]
    simp only[Int.add_mul,Int.mul_sub];omega
   have e2:aC0 s.1 s.2 s.2*(p.2-s.1.2)-aC0 s.1 s.2 p*(s.2.2-s.1.2)=(s.2.1-s.1.1)*aB2 s.1 s.2 p:=by
    unfold aC0 aB2;generalize s.2.1-s.1.1=vx;generalize s.2.2-s.1.2=vy;generalize p.1-s.1.1=wx;generalize p.2-s.1.2=wy;have q1:vy*vy*wy=vy*wy*vy:=by rw[Int.mul_assoc,Int.mul_comm vy (vy*wy)]
    have q2:vx*(vy*wx)=vx*wx*vy:=by rw[Int.mul_comm vy wx,Int.mul_assoc]
    have q3:vx*(vx*wy)=vx*vx*wy:=by rw[Int.mul_assoc]
    simp only[Int.add_mul,Int.mul_sub];omega
   rw[e1,Int.neg_neg] at k1;rw[e2] at k2;have hD:aC0 s.1 s.2 s.2=(s.2.1-s.1.1)*(s.2.1-s.1.1)+(s.2.2-s.1.2)*(s.2.2-s.1.2):=rfl;generalize hvx:s.2.1-s.1.1=vx at *;generalize hvy:s.2.2-s.1.2=vy at *;generalize hDD:aC0 s.1 s.2 s.2=D at *;generalize hc:aB2 s.1 s.2 p=c at *;have g1:=aCi b.1.1 b.2.1 p.1;have g2:=aCi b.1.2 b.2.2 p.2;unfold aM7;generalize aFg b.1.1 b.2.1 p.1=dx at *;generalize aFg b.1.2 b.2.2 p.2=dy at *;have f1:=aKA (Int.mul_nonneg (show 0<=D by omega) g1) (a:=vy*c) oM;have f2:=aKA (Int.mul_nonneg (show 0<=D by omega) g2) (a:=vx*c) oM;rw[m4 D dx D dx,m4 vy c vy c] at f1;rw[m4 D dy D dy,m4 vx c vx c] at f2
   have f3:D*(D*(dx*dx+dy*dy))<=D*(c*c):=by
    rw[<-Int.mul_assoc,Int.mul_add];have:D*(c*c)=vx*vx*(c*c)+vy*vy*(c*c):=by rw[hD,Int.add_mul]
    omega
   have f4:D*(dx*dx+dy*dy)<=c*c:=Int.le_of_mul_le_mul_left f3 oM
   have g3:0<=dx*dx+dy*dy:=by
    have:=Int.mul_nonneg g1 g1;have:=Int.mul_nonneg g2 g2;omega
   obtain⟨N,hN⟩:=Int.eq_ofNat_of_zero_le g3;obtain⟨d,hd⟩:=Int.eq_ofNat_of_zero_le (show 0<=D by omega);rw[hN,hd] at f4;rw[hN,hd,Int.toNat_natCast];refine Int.ofNat_le.2 ?_;rw[Nat.le_div_iff_mul_le oM];have f5:((N*d:Nat):Int)<=((c.natAbs*c.natAbs:Nat):Int):=by rw[aP5,Int.natCast_mul,Int.mul_comm];exact f4
   exact Int.ofNat_le.1 f5
def lin (α β:Int)(p:Pt):Int:=α*p.1+β*p.2
def bef (α β:Int)(s t:Pt×Pt):Prop:=(lin α β s.1<lin α β t.1/\lin α β s.1<lin α β t.2)/\(lin α β s.2<lin α β t.1/\lin α β s.2<lin α β t.2)
theorem aBI {a b:Pt}:aCg a b<=0↔(a.1<b.1\/(a.1=b.1/\a.2<=b.2)):=by
 unfold aCg aCj aCj aCj aCb
 by_cases h:a.1<b.1
 ·simp[h]
 ·by_cases h2:b.1<a.1
  ·simp[h,h2];omega
  ·have e:a.1=b.1:=by omega
   by_cases h3:a.2<b.2
   ·simp[h,h2,h3,e];omega
   ·by_cases h4:b.2<a.2
    ·simp[h,h2,h3,h4,e]
    ·simp[h,h2,h3,h4,e];omega
theorem aR3 (a b:Pt):aCg a b=-1\/aCg a b=0\/aCg a b=1:=by
 unfold aCg aCj aCj aCj aCb
 by_cases h:a.1<b.1
 ·simp[h]
 ·by_cases h2:b.1<a.1
  ·simp[h,h2]
  ·have e:a.1=b.1:=by omega
   by_cases h3:a.2<b.2
   ·simp[h,h2,h3]
   ·by_cases h4:b.2<a.2<;>simp[h,h2,h3,h4]
theorem aIv {a b c:Pt}(h:[a,b,c].all aA4=true):orP a b c=aCb (aB2 a b c) 0:=by unfold orP;rw[h];rfl
theorem aC6 {a b:Pt}:aBq a b=true↔a=b:=by
 unfold aBq;rw[Ga_,beq_iff_eq,beq_iff_eq];exact⟨λh=>Prod.ext h.1 h.2,λh=>by rw[h];exact⟨rfl,rfl⟩⟩
variable{α β:Int}
theorem aNV {a b p:Pt}(h:aB2 a b p=0)(h1:a.1<p.1\/(a.1=p.1/\a.2<=p.2))(h2:p.1<b.1\/(p.1=b.1/\p.2<=b.2))(hn:a=b->p=a) :
  ∃l m:Int,0<=l/\0<=m/\0<l+m/\(l+m)*lin α β p=l*lin α β a+m*lin α β b:=by
 unfold aB2 at h;unfold lin
 by_cases hx:a.1<b.1
 ·exact⟨b.1-p.1,p.1-a.1,by omega,by omega,by omega,by grind⟩
 ·have e1:a.1=b.1:=by omega
  have e2:p.1=a.1:=by omega
  by_cases hy:a.2<b.2
  ·exact⟨b.2-p.2,p.2-a.2,by omega,by omega,by omega,by rw[e2,<-e1];grind⟩
  ·have e3:a.2=b.2:=by omega
   have:=hn (Prod.ext e1 e3);subst this;exact⟨1,0,by omega,by omega,by omega,by grind⟩
theorem aJH {l y z u:Int}(h0:0<=l)(h1:0<=m)(h2:0<l+m)(h:(l+m)*z=l*x+m*y)(hx:z<x)(hy:z<y):False:=by
 have a1:=Int.mul_le_mul_of_nonneg_left (show z+1<=x by omega) h0;have a2:=Int.mul_le_mul_of_nonneg_left (show z+1<=y by omega) h1;rw[Int.mul_add] at a1 a2;rw[Int.add_mul] at h;omega
theorem mid_not' {l y z:Int}(h0:0<=l)(h1:0<=m)(h2:0<l+m)(h:(l+m)*z=l*x+m*y)(hx:x<z)(hy:y<z):False:=by
 have a1:=Int.mul_le_mul_of_nonneg_left (show x<=z-1 by omega) h0;have a2:=Int.mul_le_mul_of_nonneg_left (show y<=z-1 by omega) h1;rw[Int.mul_sub] at a1 a2;rw[Int.add_mul] at h;omega
theorem aOV :(aCb x 0==0)=true↔x=0:=by
 unfold aCb
 by_cases h:x<0
 ·simp[h];omega
 ·by_cases h2:0<x
  ·simp[h,h2];omega
  ·simp[h,h2];omega
theorem aF6 (s:Pt×Pt):(aAg s=s\/aAg s=(s.2,s.1))/\aCg (aAg s).1 (aAg s).2<=0:=by
 unfold aAg
 cases h:decide (0<aCg s.1 s.2) with
 | false=>simp at h;exact⟨.inl rfl,h⟩
 | true =>
  simp at h;refine⟨.inr rfl,?_⟩;show aCg s.2 s.1<=0;have h':¬aCg s.1 s.2<=0:=by omega
  rw[aBI] at h' ⊢;omega
variable{t:Pt×Pt}
theorem aVA {p:Pt}(h:(lin α β p<lin α β t.1/\lin α β p<lin α β t.2)\/(lin α β t.1<lin α β p/\lin α β t.2<lin α β p)):onP t p=false:=by
 cases hb:onP t p with
 | false=>rfl
 | true =>
  exfalso;unfold onP at hb;rw[Ga_] at hb;obtain⟨hn,ho⟩:=hb;have hs:=aF6 t;generalize hu:aAg t=u at hs ho
  have h':(lin α β p<lin α β u.1/\lin α β p<lin α β u.2)\/(lin α β u.1<lin α β p/\lin α β u.2<lin α β p):=by
   rcases hs.1 with e|e<;>rw[e]
   ·exact h
   ·rcases h with h|h
    ·exact .inl ⟨h.2,h.1⟩
    ·exact .inr ⟨h.2,h.1⟩
  have hn':[u.1,u.2,p].all aA4=true:=by
   simp only[List.all_cons,List.all_nil,Bool.and_true,Ga_] at hn ⊢;rcases hs.1 with e|e<;>rw[e]
   ·exact hn
   ·exact⟨hn.2.1,hn.1,hn.2.2⟩
  unfold onS at ho;rw[aIv hn'] at ho;simp only[Ga_,decide_eq_true_eq,Bool.or_eq_true,Bool.not_eq_true'] at ho;obtain⟨⟨⟨h1,h2⟩,h3⟩,h4⟩:=ho
  obtain⟨l,m,a0,a1,a2,a3⟩:=aNV (α:=α) (β:=β) (aOV.1 h1) (aBI.1 h2) (aBI.1 h3) (λe=>by
   rcases h4 with h4|h4
   ·rw[aC6.2 e] at h4;cases h4
   ·exact aC6.1 h4)
  rcases h' with h'|h'
  ·exact aJH (u:=0) a0 a1 a2 a3 h'.1 h'.2
  ·exact mid_not' a0 a1 a2 a3 h'.1 h'.2
theorem aFx {y:Int}(h:¬0<aCb x 0*aCb y 0):(x<=0/\0<=y)\/(0<=x/\y<=0):=by
 unfold aCb at h
 by_cases hx:x<0<;>by_cases hy:y<0<;>by_cases hx2:0<x<;>by_cases hy2:0<y<;>simp[hx,hy,hx2,hy2] at h<;>omega
theorem aR0 {s1 s2 t1 t2:Pt}(hn:s1≠s2)(h1:aB2 s1 s2 t1=0)(h2:aB2 s1 s2 t2=0):aB2 t1 t2 s1=0:=by
 unfold aB2 at *
 by_cases hx:s2.1-s1.1=0
 ·have hy:s2.2-s1.2≠0:=λhy=>hn (Prod.ext oM oM);have e:(s2.2-s1.2)*((t2.1-t1.1)*(s1.2-t1.2)-(t2.2-t1.2)*(s1.1-t1.1))=0:=by grind
  exact(Int.mul_eq_zero.1 e).resolve_left hy
 ·have e:(s2.1-s1.1)*((t2.1-t1.1)*(s1.2-t1.2)-(t2.2-t1.2)*(s1.1-t1.1))=0:=by grind
  exact(Int.mul_eq_zero.1 e).resolve_left hx
theorem aIK (α β:Int)(s1 s2 t1 t2:Pt):aB2 t1 t2 s2*lin α β s1-aB2 t1 t2 s1*lin α β s2=aB2 s1 s2 t1*lin α β t2-aB2 s1 s2 t2*lin α β t1:=by
 unfold aB2 lin;grind
theorem aIL (s1 s2 t1 t2:Pt):aB2 t1 t2 s2-aB2 t1 t2 s1=aB2 s1 s2 t1-aB2 s1 s2 t2:=by unfold aB2;grind
theorem aIJ {a b c d x1 x2 y1 y2:Int}(e:d*x1-c*x2=a*y2-b*y1)(k:d-c=a-b)(h:(a<=0/\0<=b)\/(0<=a/\b<=0))(h':(c<=0/\0<=d)\/(0<=c/\d<=0))(hz:¬(a=0/\b=0))(p1:x1<y1)(p2:x1<y2)(p3:x2<y1)(p4:x2<y2):False:=by
 have key:∀{a b c d x1 x2 y1 y2:Int},d*x1-c*x2=a*y2-b*y1->d-c=a-b->0<a-b->0<=a->b<=0->c<=0->0<=d->x1<y1->x1<y2->x2<y1->x2<y2->False:=by
  intro a b c d x1 x2 y1 y2 e k hp ha hb hc hd p1 p2 p3 p4;have m1:x1<=max x1 x2:=by omega
  have m2:x2<=max x1 x2:=by omega
  have m3:max x1 x2+1<=y1:=by omega
  have m4:max x1 x2+1<=y2:=by omega
  generalize max x1 x2=M at m1 m2 m3 m4;have a1:=Int.mul_le_mul_of_nonneg_left m1 hd;have a2:=Int.mul_le_mul_of_nonneg_left m2 (show 0 <= -c by omega);have a3:=Int.mul_le_mul_of_nonneg_left m4 ha;have a4:=Int.mul_le_mul_of_nonneg_left m3 (show 0 <= -b by omega);have e1:d*M + -c*M=(a-b)*M:=by rw[<-Int.add_mul,<-k];congr 1
  have e2:a*(M+1) + -b*(M+1)=(a-b)*M+(a-b):=by rw[<-Int.add_mul,Int.mul_add,Int.mul_one];congr 1
  rw[Int.neg_mul] at a2 a4;rw[Int.neg_mul] at e1 a2;rw[Int.neg_mul] at a4 e2;omega
 rcases h with h|h
 ·rcases h' with h'|h'
  ·have:d=0/\c=0\/¬(a-b<0):=by omega
   rcases this with h9|h9
   ·omega
   ·omega
  ·have hp:0<(-a)-(-b):=by omega
   exact key (a := -a) (b := -b) (c := -c) (d := -d) (by rw[Int.neg_mul,Int.neg_mul,Int.neg_mul,Int.neg_mul];omega) oM hp oM oM oM oM p1 p2 p3 p4
 ·rcases h' with h'|h'
  ·exact key e k oM h.1 h.2 h'.1 h'.2 p1 p2 p3 p4
  ·omega
theorem aTI (hb:bef α β s t\/bef α β t s)(hs:aCg s.1 s.2<=0)(ht:aCg t.1 t.2<=0)(hs1:s.1≠s.2)(ht1:t.1≠t.2)(h1:aB2 s.1 s.2 t.1=0)(h2:aB2 s.1 s.2 t.2=0):¬aCg (aQS s t) (aHB s t)<=0:=by
 intro hle;unfold aQS aHB at hle;rw[aBI] at hs ht
 cases hl:decide (0<aCg t.1 s.1) with
 | true =>
  rw[hl,cond_true] at hle;have hl':¬aCg t.1 s.1<=0:=by simp at hl;omega
  rw[aBI] at hl'
  have h3:t.1.1<s.2.1\/(t.1.1=s.2.1/\t.1.2<=s.2.2):=by
   cases hh:decide (aCg t.2 s.2<0) with
   | true =>
    rw[hh,cond_true,aBI] at hle;have:aCg t.2 s.2<=0:=by simp at hh;omega
    rw[aBI] at this;omega
   | false=>rw[hh,cond_false,aBI] at hle;exact hle
  obtain⟨l,m,a0,a1,a2,a3⟩:=aNV (α:=α) (β:=β) h1 (show s.1.1<t.1.1\/(s.1.1=t.1.1/\s.1.2<=t.1.2) by omega) h3 (λe=>absurd e hs1);rcases hb with hb|hb
  ·exact mid_not' a0 a1 a2 a3 hb.1.1 hb.2.1
  ·exact aJH (u:=0) a0 a1 a2 a3 hb.1.1 hb.1.2
 | false =>
  rw[hl,cond_false] at hle;have hl':aCg t.1 s.1<=0:=by simp at hl;omega
  rw[aBI] at hl'
  have h3:s.1.1<t.2.1\/(s.1.1=t.2.1/\s.1.2<=t.2.2):=by
   cases hh:decide (aCg t.2 s.2<0) with
   | true=>rw[hh,cond_true,aBI] at hle;exact hle
   | false =>
    have:¬aCg t.2 s.2<0:=by simpa using hh
    have h5:=aR3 t.2 s.2
    have h4:aCg s.2 t.2<=0:=by
     rw[aBI];rcases h5 with h5|h5|h5
     ·omega
     ·have h6:aCg t.2 s.2<=0:=by omega
      rw[aBI] at h6;unfold aCg aCj aCj aCj aCb at h5
      by_cases q:t.2.1<s.2.1
      ·simp[q] at h5
      ·by_cases q2:s.2.1<t.2.1
       ·simp[q,q2] at h5
       ·have q3:t.2.1=s.2.1:=by omega
        by_cases q4:t.2.2<s.2.2
        ·simp[q,q2,q4] at h5
        ·omega
     ·have h6:¬aCg t.2 s.2<=0:=by omega
      rw[aBI] at h6;omega
    rw[aBI] at h4;omega
  obtain⟨l,m,a0,a1,a2,a3⟩:=aNV (α:=α) (β:=β) (aR0 hs1 h1 h2) hl' h3 (λe=>absurd e ht1);rcases hb with hb|hb
  ·exact aJH (u:=0) a0 a1 a2 a3 hb.1.1 hb.1.2
  ·exact mid_not' a0 a1 a2 a3 hb.1.1 hb.2.1
theorem aGJ (hb:bef α β s t\/bef α β t s)(hs:aCg s.1 s.2<=0)(ht:aCg t.1 t.2<=0)(hc:s.1≠s.2->t.1≠t.2/\aB2 s.1 s.2 t.1=0/\aB2 s.1 s.2 t.2=0):aMF s t=0:=by
 unfold aMF
 cases he:aBq s.1 s.2 with
 | true =>
  rw[cond_true,aVA (α:=α) (β:=β) (t:=t) (p:=s.1) (by
   rcases hb with hb|hb
   ·exact .inl hb.1
   ·exact .inr ⟨hb.1.1,hb.2.1⟩)]
  rfl
 | false =>
  have hs1:s.1≠s.2:=λe=>by rw[aC6.2 e] at he;cases he
  obtain⟨ht1,h1,h2⟩:=hc hs1;have hn:=aTI hb hs ht hs1 ht1 h1 h2;rw[cond_false];have e1:(aCg (aQS s t) (aHB s t) == -1)=false:=by rw[Gt_];omega
  have e2:(aCg (aQS s t) (aHB s t)==0)=false:=by rw[Gt_];omega
  rw[e1,e2];rfl
theorem aSB {u v:Pt×Pt}(h:bef α β s t)(hs:u=s\/u=(s.2,s.1))(ht:v=t\/v=(t.2,t.1)):bef α β u v:=by
 unfold bef at *;rcases hs with rfl|rfl<;>rcases ht with rfl|rfl<;>((try dsimp only)<;>omega)
theorem aD3 (hb:bef α β s t\/bef α β t s):aB7 s t=0:=by
 unfold aB7
 cases hn:[s.1,s.2,t.1,t.2].all aA4 with
 | false=>rfl
 | true =>
  rw[Bool.not_true,cond_false];have hu:=aF6 s;have hv:=aF6 t;generalize aAg s=u at hu;generalize aAg t=v at hv;have hb':bef α β u v\/bef α β v u:=hb.imp (λh=>aSB h hu.1 hv.1) (λh=>aSB h hv.1 hu.1);simp only[List.all_cons,List.all_nil,Bool.and_true,Ga_] at hn;have hnu:aA4 u.1=true/\aA4 u.2=true:=by rcases hu.1 with e|e<;>rw[e];exact⟨hn.1,hn.2.1⟩;exact⟨hn.2.1,hn.1⟩
  have hnv:aA4 v.1=true/\aA4 v.2=true:=by rcases hv.1 with e|e<;>rw[e];exact⟨hn.2.2.1,hn.2.2.2⟩;exact⟨hn.2.2.2,hn.2.2.1⟩
  have o1:orP u.1 u.2 v.1=aCb (aB2 u.1 u.2 v.1) 0:=aIv (by simp[hnu,hnv]);have o2:orP u.1 u.2 v.2=aCb (aB2 u.1 u.2 v.2) 0:=aIv (by simp[hnu,hnv]);have o3:orP v.1 v.2 u.1=aCb (aB2 v.1 v.2 u.1) 0:=aIv (by simp[hnu,hnv]);have o4:orP v.1 v.2 u.2=aCb (aB2 v.1 v.2 u.2) 0:=aIv (by simp[hnu,hnv]);unfold aED;rw[o1,o2,o3,o4]
  have e0:aGe u v=false:=by
   cases h:aGe u v with
   | false=>rfl
   | true =>
    unfold aGe at h;rw[Ga_,aC6,aC6] at h;unfold bef at hb';rw[h.1,h.2] at hb';omega
  rw[e0,cond_false]
  cases h1:aBq u.1 u.2||aBq v.1 v.2||((aCb (aB2 u.1 u.2 v.1) 0==0)&&(aCb (aB2 u.1 u.2 v.2) 0==0)) with
  | true =>
   rw[cond_true];unfold aQE;simp only[Bool.or_eq_true,Ga_] at h1
   cases hv2:aBq v.1 v.2 with
   | true =>
    rw[cond_true];exact aGJ (hb'.symm) hv.2 hu.2 (λh=>absurd (aC6.1 hv2) h)
   | false =>
    rw[cond_false];refine aGJ hb' hu.2 hv.2 λh=>⟨λe=>(by rw[aC6.2 e] at hv2;cases hv2),?_⟩;rw[hv2] at h1;rcases h1 with(h1|h1)|h1
    ·exact absurd (aC6.1 h1) h
    ·cases h1
    ·exact⟨aOV.1 h1.1,aOV.1 h1.2⟩
  | false =>
   rw[cond_false]
   cases h2:decide (0<aCb (aB2 u.1 u.2 v.1) 0*aCb (aB2 u.1 u.2 v.2) 0)||decide (0<aCb (aB2 v.1 v.2 u.1) 0*aCb (aB2 v.1 v.2 u.2) 0) with
   | true=>rfl
   | false =>
    exfalso;simp only[Bool.or_eq_false_iff,decide_eq_false_iff_not] at h2;simp only[Bool.or_eq_false_iff,Bool.and_eq_false_iff] at h1
    have hz:¬(aB2 u.1 u.2 v.1=0/\aB2 u.1 u.2 v.2=0):=λ⟨z1,z2⟩=>by
     rcases h1.2 with h|h
     ·rw[aOV.2 z1] at h;cases h
     ·rw[aOV.2 z2] at h;cases h
    rcases hb' with hb'|hb'
    ·exact aIJ (aIK α β u.1 u.2 v.1 v.2) (aIL u.1 u.2 v.1 v.2) (aFx h2.1) (aFx h2.2) hz hb'.1.1 hb'.1.2 hb'.2.1 hb'.2.2
    ·have hn1:=aIK (-α) (-β) u.1 u.2 v.1 v.2;have hl:∀p:Pt,lin (-α) (-β) p=- lin α β p:=λp=>by unfold lin;rw[Int.neg_mul,Int.neg_mul];omega
     rw[hl,hl,hl,hl] at hn1;exact aIJ hn1 (aIL u.1 u.2 v.1 v.2) (aFx h2.1) (aFx h2.2) hz (by have:=hb'.1.1;omega) (by have:=hb'.2.1;omega) (by have:=hb'.1.2;omega) (by have:=hb'.2.2;omega)
def aY9 (s:Pt×Pt)(z:Pt):Nat->Prop
 | 0=>z.1<s.1.1/\z.1<s.2.1
 | 1=>s.1.1<z.1/\s.2.1<z.1
 | 2=>z.2<s.1.2/\z.2<s.2.2
 | _=>s.1.2<z.2/\s.2.2<z.2
theorem aTt {z:Pt}{c:Nat}(h:aY9 s z c):aJJ s z=false:=by
 unfold aJJ btw
 cases hb:(aDT s.1 s.2 z==0) with
 | false=>rfl
 | true =>
  have e:decide (min s.1.1 s.2.1<=z.1)=false\/decide (z.1<=max s.1.1 s.2.1)=false\/decide (min s.1.2 s.2.2<=z.2)=false\/decide (z.2<=max s.1.2 s.2.2)=false:=by
   simp only[decide_eq_false_iff_not]
   match c,h with
   | 0,h=>have h:z.1<s.1.1/\z.1<s.2.1:=h;left;omega
   | 1,h=>have h:s.1.1<z.1/\s.2.1<z.1:=h;right;left;omega
   | 2,h=>have h:z.2<s.1.2/\z.2<s.2.2:=h;right;right;left;omega
   | _+3,h=>have h:s.1.2<z.2/\s.2.2<z.2:=h;right;right;right;omega
  rcases e with e|e|e|e<;>rw[e]<;>simp
def abv (z p:Pt):Int:=if z.2<p.2 then 1 else 0
theorem aRy {z:Pt}(h:z.1<s.1.1/\z.1<s.2.1):dlt s z=abv z s.2-abv z s.1:=by
 have hu:s.1.2<=z.2->z.2<s.2.2->0<aDT s.1 s.2 z:=λh1 h2=>by
  have a1:=Int.mul_nonneg (show 0<=s.2.1-z.1 by omega) (show 0<=z.2-s.1.2 by omega);have a2:=Int.mul_pos (show 0<s.1.1-z.1 by omega) (show 0<s.2.2-z.2 by omega);have e:aDT s.1 s.2 z=(s.2.1-z.1)*(z.2-s.1.2)+(s.1.1-z.1)*(s.2.2-z.2):=by unfold aDT;grind
  omega
 have hd:z.2<s.1.2->s.2.2<=z.2->aDT s.1 s.2 z<0:=λh1 h2=>by
  have a1:=Int.mul_pos (show 0<s.2.1-z.1 by omega) (show 0<s.1.2-z.2 by omega);have a2:=Int.mul_nonneg (show 0<=s.1.1-z.1 by omega) (show 0<=z.2-s.2.2 by omega);have e:aDT s.1 s.2 z=- ((s.2.1-z.1)*(s.1.2-z.2)+(s.1.1-z.1)*(z.2-s.2.2)):=by unfold aDT;grind
  omega
 unfold dlt abv
 by_cases h1:z.2<s.1.2
 ·have e1:decide (s.1.2<=z.2)=false:=decide_eq_false oM
  by_cases h2:z.2<s.2.2
  ·have e2:decide (s.2.2<=z.2)=false:=decide_eq_false oM;simp[e1,e2,h1,h2]
  ·have h3:=hd h1 oM;have e2:decide (s.2.2<=z.2)=true:=decide_eq_true oM;simp[e1,e2,h1,h2,h3]
 ·by_cases h2:z.2<s.2.2
  ·have h3:=hu oM h2;have e2:decide (s.1.2<=z.2)=true:=decide_eq_true oM;simp[e2,h1,h2,h3]
  ·simp[h1,h2]
theorem aON {z:Pt}(h:s.1.1<z.1/\s.2.1<z.1):dlt s z=0:=by
 have hu:s.1.2<=z.2->z.2<s.2.2->¬0<aDT s.1 s.2 z:=λh1 h2=>by
  have a1:=Int.mul_nonneg (show 0<=z.1-s.2.1 by omega) (show 0<=z.2-s.1.2 by omega);have a2:=Int.mul_nonneg (show 0<=z.1-s.1.1 by omega) (show 0<=s.2.2-z.2 by omega);have e:aDT s.1 s.2 z=- ((z.1-s.2.1)*(z.2-s.1.2)+(z.1-s.1.1)*(s.2.2-z.2)):=by unfold aDT;grind
  omega
 have hd:z.2<s.1.2->s.2.2<=z.2->¬aDT s.1 s.2 z<0:=λh1 h2=>by
  have a1:=Int.mul_nonneg (show 0<=z.1-s.2.1 by omega) (show 0<=s.1.2-z.2 by omega);have a2:=Int.mul_nonneg (show 0<=z.1-s.1.1 by omega) (show 0<=z.2-s.2.2 by omega);have e:aDT s.1 s.2 z=(z.1-s.2.1)*(s.1.2-z.2)+(z.1-s.1.1)*(z.2-s.2.2):=by unfold aDT;grind
  omega
 unfold dlt
 by_cases h1:s.1.2<=z.2
 ·by_cases h2:z.2<s.2.2
  ·have e1:decide (z.2<s.1.2)=false:=decide_eq_false oM;have e2:decide (0<aDT s.1 s.2 z)=false:=decide_eq_false (hu h1 h2);rw[e1,e2];simp
  ·have e1:decide (z.2<s.1.2)=false:=decide_eq_false oM;have e2:decide (z.2<s.2.2)=false:=decide_eq_false h2;rw[e1,e2];simp
 ·have e1:decide (s.1.2<=z.2)=false:=decide_eq_false h1
  by_cases h2:s.2.2<=z.2
  ·simp[e1,h2,hd oM h2]
  ·simp[e1,h2]
theorem aLu {z:Pt}(h:(z.2<s.1.2/\z.2<s.2.2)\/(s.1.2<z.2/\s.2.2<z.2)):dlt s z=0:=by
 unfold dlt;rcases h with h|h
 ·have e1:decide (s.1.2<=z.2)=false:=decide_eq_false oM;have e2:decide (s.2.2<=z.2)=false:=decide_eq_false oM;simp[e1,e2]
 ·have e1:decide (z.2<s.2.2)=false:=decide_eq_false oM;have e2:decide (z.2<s.1.2)=false:=decide_eq_false oM;simp[e1,e2]
theorem aFj {L:List Pt}{z:Pt}:∀k:Nat,(∀j,j<k->dlt (sdP L j) z=0)->wnd L z k=0
 | 0,_=>rfl
 | k+1,h=>by unfold wnd;rw[aFj k λj hj=>h j oM,h k oM];rfl
theorem aMN {L:List Pt}{z:Pt}:∀k:Nat,k<L.length->(∀j,j<L.length->dlt (sdP L j) z=abv z (sdP L j).2-abv z (sdP L j).1)->wnd L z k=abv z (aJT L k)-abv z (aJT L 0)
 | 0,_,_=>by unfold wnd;omega
 | k+1,hk,h=>by
  unfold wnd;rw[aMN k oM h,h k oM];have e:(k+1)%L.length=k+1:=Nat.mod_eq_of_lt hk;unfold sdP;rw[e]
  dsimp only
  omega
theorem aSI {L:List Pt}{z:Pt}(h:∀j,j<L.length->dlt (sdP L j) z=abv z (sdP L j).2-abv z (sdP L j).1):wnd L z L.length=0:=by
 cases hn:L.length with
 | zero=>rfl
 | succ n =>
  unfold wnd;rw[aMN n oM h,h n oM];have e:(n+1)%L.length=0:=by rw[hn];exact Nat.mod_self _
  unfold sdP;rw[e]
  dsimp only
  omega
theorem aTJ {L:List Pt}{z:Pt}{c:Nat}(h:∀j,j<L.length->aY9 (sdP L j) z c):aPF L z=-1:=by
 have h1:((List.range L.length).any λk=>aJJ (sdP L k) z)=false:=by
  rw[List.any_eq_false];intro k hk;rw[aTt (h k (List.mem_range.1 hk))];simp
 have h2:wnd L z L.length=0:=by
  match c,h with
  | 0,h=>exact aSI λj hj=>aRy (h j hj)
  | 1,h=>exact aFj _ λj hj=>aON (h j hj)
  | 2,h=>exact aFj _ λj hj=>aLu (.inl (h j hj))
  | _+3,h=>exact aFj _ λj hj=>aLu (.inr (h j hj))
 unfold aPF;rw[h1,h2];rfl
def onG (p:Pt):Prop:=(0<=p.1/\p.1<=1048575)/\(0<=p.2/\p.2<=1048575)
theorem aCn {p:Pt}(h:onG p):aA4 p=true:=by
 unfold onG at h;unfold aA4;simp only[Ga_,Bool.not_eq_true',decide_eq_false_iff_not];omega
theorem aPg:∀(L:List Pt)(b:Pt×Pt)(p:Pt),p∈L\/aDP b p->aDP (bxI b L) p
 | [],b,p,h=>h.resolve_left sI
 | a::L,b,p,h=>by
  refine aPg L _ p ?_;rcases h with h|h
  ·rcases List.mem_cons.1 h with rfl|h
   ·right;unfold aDP;dsimp only;omega
   ·exact .inl h
  ·right;unfold aDP at *;dsimp only;omega
theorem aEN {L:List Pt}{p:Pt}(h:p∈L):aDP (aAc L) p:=aPg L _ p (.inl h)
theorem aCW {L:List Pt}(h:i<L.length):aJT L i∈L:=by
 unfold aJT;rw[List.getD_eq_getElem?_getD,Gb_ h];exact List.getElem_mem h
theorem aAG {P:List Pt}(h:s∈aEX k P):s.1∈P/\s.2∈P:=by
 unfold aEX at h;obtain⟨i,hi,hs⟩:=List.mem_flatMap.1 h;have hi:=List.mem_range.1 hi;unfold aH5 at hs
 cases hc:decide (0<(((i:Int)+1)%(P.length:Int))) || !(k==2) with
 | false=>rw[hc] at hs;cases hs
 | true =>
  rw[hc,cond_true,Gd_] at hs;subst hs;exact⟨aCW hi,aCW (Nat.mod_lt _ oM)⟩
def wdB (b:Pt×Pt)(n:Int):Pt×Pt:=((b.1.1-n,b.1.2-n),(b.2.1+n,b.2.2+n))
def aUS (c b:Pt×Pt)(n:Int):Nat->Prop
 | 0=>b.2.1+n<c.1.1
 | 1=>c.2.1<b.1.1-n
 | 2=>b.2.2+n<c.1.2
 | _=>c.2.2<b.1.2-n
theorem aS1 {c b:Pt×Pt}{n:Int}(h:¬mtB c (wdB b n)):∃d,d<4/\aUS c b n d:=by
 unfold mtB wdB at h
 dsimp only at h
 by_cases h0:b.2.1+n<c.1.1
 ·exact⟨0,by omega,h0⟩
 by_cases h1:c.2.1<b.1.1-n
 ·exact⟨1,by omega,h1⟩
 by_cases h2:b.2.2+n<c.1.2
 ·exact⟨2,by omega,h2⟩
 exact⟨3,by omega,show c.2.2<b.1.2-n by omega⟩
theorem aPV {a g:Int}(h0:0<=a)(h:a<=g):a*a<=g*g:=Int.mul_le_mul h h h0 (Int.le_trans h0 h)
variable{d:Nat}
theorem aUr {c b:Pt×Pt}{z:Pt}{n:Int}(h0:0<=n)(hz:aDP b z)(h:aUS c b n d):(n+1)*(n+1)<=aM7 c z:=by
 unfold aM7;have g1:=Int.mul_nonneg (aCi c.1.1 c.2.1 z.1) (aCi c.1.1 c.2.1 z.1);have g2:=Int.mul_nonneg (aCi c.1.2 c.2.2 z.2) (aCi c.1.2 c.2.2 z.2);unfold aDP at hz
 have h9:n+1<=aFg c.1.1 c.2.1 z.1\/n+1<=aFg c.1.2 c.2.2 z.2:=by
  unfold aFg
  match d,h with
  | 0,h=>have h:b.2.1+n<c.1.1:=h;left;omega
  | 1,h=>have h:c.2.1<b.1.1-n:=h;left;omega
  | 2,h=>have h:b.2.2+n<c.1.2:=h;right;omega
  | _+3,h=>have h:c.2.2<b.1.2-n:=h;right;omega
 rcases h9 with h9|h9
 ·have:=aPV oM h9;omega
 ·have:=aPV oM h9;omega
theorem box_far' {c b:Pt×Pt}{p:Pt}{n:Int}(h0:0<=n)(hp:aDP c p)(h:aUS c b n d):(n+1)*(n+1)<=aM7 b p:=by
 unfold aM7;have g1:=Int.mul_nonneg (aCi b.1.1 b.2.1 p.1) (aCi b.1.1 b.2.1 p.1);have g2:=Int.mul_nonneg (aCi b.1.2 b.2.2 p.2) (aCi b.1.2 b.2.2 p.2);unfold aDP at hp
 have h9:n+1<=aFg b.1.1 b.2.1 p.1\/n+1<=aFg b.1.2 b.2.2 p.2:=by
  unfold aFg
  match d,h with
  | 0,h=>have h:b.2.1+n<c.1.1:=h;left;omega
  | 1,h=>have h:c.2.1<b.1.1-n:=h;left;omega
  | 2,h=>have h:b.2.2+n<c.1.2:=h;right;omega
  | _+3,h=>have h:c.2.2<b.1.2-n:=h;right;omega
 rcases h9 with h9|h9
 ·have:=aPV oM h9;omega
 ·have:=aPV oM h9;omega
theorem aQQ {c b:Pt×Pt}{n:Int}(h0:0<=n){u:Pt×Pt}(s1:aDP c s.1)(s2:aDP c s.2)(u1:aDP b u.1)(u2:aDP b u.2)(h:aUS c b n d):aB7 u s=0:=by
 unfold aDP at *
 match d,h with
 | 0,h=>have h:b.2.1+n<c.1.1:=h;exact aD3 (α:=1) (β:=0) (.inl (by unfold bef lin;omega))
 | 1,h=>have h:c.2.1<b.1.1-n:=h;exact aD3 (α:=1) (β:=0) (.inr (by unfold bef lin;omega))
 | 2,h=>have h:b.2.2+n<c.1.2:=h;exact aD3 (α:=0) (β:=1) (.inl (by unfold bef lin;omega))
 | _+3,h=>have h:c.2.2<b.1.2-n:=h;exact aD3 (α:=0) (β:=1) (.inr (by unfold bef lin;omega))
theorem aKC {c b:Pt×Pt}{n:Int}(h0:0<=n){P:List Pt}{z:Pt}(hP:∀p∈P,aDP c p)(hz:aDP b z)(hd:d<4)(h:aUS c b n d):aFe P z=-1:=by
 unfold aFe
 cases aDU P&&rnP z with
 | false=>rfl
 | true =>
  rw[cond_true];have hs:∀j,j<P.length->aDP c (sdP P j).1/\aDP c (sdP P j).2:=λj hj=>⟨hP _ (aCW hj),hP _ (aCW (Nat.mod_lt _ oM))⟩;refine aTJ (c:=d) λj hj=>?_;have hj:=hs j hj;generalize sdP P j=t at hj;unfold aDP at hj hz
  match d,hd,h with
  | 0,_,h=>have h:b.2.1+n<c.1.1:=h;show z.1<t.1.1/\z.1<t.2.1;omega
  | 1,_,h=>have h:c.2.1<b.1.1-n:=h;show t.1.1<z.1/\t.2.1<z.1;omega
  | 2,_,h=>have h:b.2.2+n<c.1.2:=h;show z.2<t.1.2/\z.2<t.2.2;omega
  | 3,_,h=>have h:c.2.2<b.1.2-n:=h;show t.1.2<z.2/\t.2.2<z.2;omega
theorem aLc {z:Pt}{K:Int}:∀(L:List (Pt×Pt))(m:Int),K<=m->(∀s∈L,K<=aAA s z)->K<=mnL z L m
 | [],_,h,_=>h
 | s::L,m,h,hs=>aLc L _ (show K<=min m (aAA s z) by have:=hs s (.head _);omega) λt ht=>hs t (.tail _ ht)
theorem aSj {z:Pt}:∀(L:List (Pt×Pt))(m:Int),mnL z L m<=m/\∀s∈L,mnL z L m<=aAA s z
 | [],m=>⟨Int.le_refl _,λ_ h=>(by cases h)⟩
 | s::L,m=>by
  have h:=aSj (z:=z) L (min m (aAA s z));refine⟨Int.le_trans h.1 oM,λt ht=>?_⟩;rcases List.mem_cons.1 ht with rfl|ht
  ·exact Int.le_trans h.1 oM
  ·exact h.2 t ht
theorem aVE {b:Pt×Pt}{K:Int}(h:K<=m)(h1:K<=aAA a b.1)(h2:K<=aAA a b.2)(h3:K<=aAA b a.1)(h4:K<=aAA b a.2):K<=nr4 a b m:=by unfold nr4;omega
theorem aVD (a b:Pt×Pt)(m:Int):nr4 a b m<=m:=by unfold nr4;omega
theorem aSt {a:Pt×Pt}{K:Int}:∀(L:List (Pt×Pt))(m:Int),K<=m->(∀b∈L,K<=aAA a b.1/\K<=aAA a b.2/\K<=aAA b a.1/\K<=aAA b a.2)->K<=inn a L m
 | [],_,h,_=>h
 | b::L,m,h,hs=>aSt L _ (have q:=hs b (.head _);aVE h q.1 q.2.1 q.2.2.1 q.2.2.2) λt ht=>hs t (.tail _ ht)
theorem aSs {a:Pt×Pt}:∀(L:List (Pt×Pt))(m:Int),inn a L m<=m
 | [],_=>Int.le_refl _
 | b::L,m=>Int.le_trans (aSs L _) (aVD a b m)
theorem aRY {L:List (Pt×Pt)}{K:Int}:∀(A:List (Pt×Pt))(m:Int),K<=m->(∀a∈A,∀b∈L,K<=aAA a b.1/\K<=aAA a b.2/\K<=aAA b a.1/\K<=aAA b a.2)->K<=A.foldl (λm a=>inn a L m) m
 | [],_,h,_=>h
 | a::A,m,h,hs=>aRY A _ (aSt L m h (hs a (.head _))) λt ht=>hs t (.tail _ ht)
theorem aRX {L:List (Pt×Pt)}:∀(A:List (Pt×Pt))(m:Int),A.foldl (λm a=>inn a L m) m<=m
 | [],_=>Int.le_refl _
 | a::A,m=>Int.le_trans (aRX A _) (aSs L m)
theorem aOg {p:Pt}(h1:onG s.1)(h2:onG s.2)(h3:onG p):0<=aAA s p:=by
 have hb:=aFr (b:=((min s.1.1 s.2.1,min s.1.2 s.2.2),(max s.1.1 s.2.1,max s.1.2 s.2.2))) (s:=s) (p:=p) (by unfold aDP;dsimp only;omega) (by unfold aDP;dsimp only;omega) (by simp[aCn h1,aCn h2,aCn h3]);refine Int.le_trans ?_ hb;unfold aM7;have g1:=Int.mul_nonneg (aCi (min s.1.1 s.2.1) (max s.1.1 s.2.1) p.1) (aCi (min s.1.1 s.2.1) (max s.1.1 s.2.1) p.1);have g2:=Int.mul_nonneg (aCi (min s.1.2 s.2.2) (max s.1.2 s.2.2) p.2) (aCi (min s.1.2 s.2.2) (max s.1.2 s.2.2) p.2)
 dsimp only
 omega
theorem aOP (a b:Pt):aFi a b<=35184372088832:=by
 unfold aFi
 cases h:aA4 a&&aA4 b with
 | false=>exact(by decide:(0:Int)<=35184372088832)
 | true =>
  rw[Ga_] at h;have ha:=aBc h.1;have hb:=aBc h.2;have h1:=aEU (x:=b.1-a.1) oM oM;have h2:=aEU (x:=b.2-a.2) oM oM;rw[cond_true];omega
theorem aT2 (s:Pt×Pt)(p:Pt):aAA s p<=35184372088832:=by
 unfold aAA
 cases hn:[s.1,s.2,p].all aA4 with
 | false=>exact(by decide:(0:Int)<=35184372088832)
 | true =>
  simp only[List.all_cons,List.all_nil,Bool.and_true,Ga_] at hn;rw[Bool.not_true,cond_false]
  cases h1:decide (aC0 s.1 s.2 p<=0) with
  | true=>exact aOP _ _
  | false =>
   rw[cond_false]
   cases h2:decide (aC0 s.1 s.2 s.2<=aC0 s.1 s.2 p) with
   | true=>exact aOP _ _
   | false =>
    rw[cond_false];have h1:¬aC0 s.1 s.2 p<=0:=by simpa using h1
    have h2:¬aC0 s.1 s.2 s.2<=aC0 s.1 s.2 p:=by simpa using h2
    have hd:aC0 s.1 s.2 s.2=((aC0 s.1 s.2 s.2).toNat:Int):=by omega
    have h3:=aRL hn.1 hn.2.1 hn.2.2 hd
    have h4:(aB2 s.1 s.2 p).natAbs*(aB2 s.1 s.2 p).natAbs / (aC0 s.1 s.2 s.2).toNat<=35184372088832:=by
     exact Nat.div_le_of_le_mul h3
    omega
section
variable{l:List Ob}{s u:ShR}
def ShG (l:List Ob)(s:ShR):Prop:=∀p∈s.P l,onG p
theorem aQT (h:ShG l s):∀x∈s.L l,onG x.1/\onG x.2:=λx hx=>⟨h _ (aAG hx).1,h _ (aAG hx).2⟩
theorem aFv (hN:ShN l s):aWn (s.L l) 0∈s.L l:=by
 unfold aWn;rw[List.getD_eq_getElem?_getD,Gb_ hN.1];exact List.getElem_mem _
theorem aRQ (hN:ShN l s)(h:ShG l s){z:Pt}(hz:onG z):0<=sqP l s z:=by
 unfold sqP
 cases arP l s z with
 | true=>exact Int.le_refl _
 | false =>
  have q:=aQT h;exact aLc _ _ (aOg (q _ (aFv hN)).1 (q _ (aFv hN)).2 hz) λx hx=>aOg (q x hx).1 (q x hx).2 hz
theorem aNe (l:List Ob)(s:ShR)(z:Pt):sqP l s z<=35184372088832:=by
 unfold sqP
 cases arP l s z with
 | true=>exact(by decide:(0:Int)<=35184372088832)
 | false=>exact Int.le_trans (aSj _ _).1 (aT2 _ _)
theorem aWD (l:List Ob)(s u:ShR):apP l s u<=35184372088832:=by
 unfold apP
 cases arP l s (aJT (u.P l) 0) with
 | true=>exact(by decide:(0:Int)<=35184372088832)
 | false =>
  cases aSl (u.L l) (s.L l) with
  | true=>exact(by decide:(0:Int)<=35184372088832)
  | false=>exact Int.le_trans (aRX _ _) (aNe _ _ _)
theorem aWC (hN:ShN l s)(hU:ShN l u)(h:ShG l s)(hu:ShG l u)(hk:u.o.o.kind=2){n:Int}(h0:0<=n)(hf:¬mtB (aAc (s.P l)) (wdB (aAc (u.P l)) n)):(n+1)*(n+1)<=apP l s u:=by
 obtain⟨d,hd,hf⟩:=aS1 hf;have hs:∀p∈s.P l,aDP (aAc (s.P l)) p:=λp hp=>aEN hp;have hv:∀p∈u.P l,aDP (aAc (u.P l)) p:=λp hp=>aEN hp;have q:=aQT h;have r:=aQT hu;have nr:∀{x:Pt×Pt}{p:Pt},onG x.1->onG x.2->onG p->[x.1,x.2,p].all aA4=true:=λh1 h2 h3=>by simp[aCn h1,aCn h2,aCn h3]
 have n1:∀a∈u.L l,∀p∈s.P l,(n+1)*(n+1)<=aAA a p:=λa ha p hp=>Int.le_trans (box_far' h0 (hs p hp) hf) (aFr (hv _ (aAG ha).1) (hv _ (aAG ha).2) (nr (r a ha).1 (r a ha).2 (h p hp)));have n2:∀b∈s.L l,∀p∈u.P l,(n+1)*(n+1)<=aAA b p:=λb hb p hp=>Int.le_trans (aUr h0 (hv p hp) hf) (aFr (hs _ (aAG hb).1) (hs _ (aAG hb).2) (nr (q b hb).1 (q b hb).2 (hu p hp)))
 have e1:arP l s (aJT (u.P l) 0)=false:=by
  unfold arP;rw[aKC h0 hs (hv _ (aCW hU.2)) hd hf];cases(s.o.o.kind==3)<;>cases aDU (s.P l)<;>rfl
 have e2:aSl (u.L l) (s.L l)=false:=by
  unfold aSl;rw[List.any_eq_false];intro a ha;rw[Bool.not_eq_true,List.any_eq_false];intro b hb;rw[aQQ h0 (hs _ (aAG hb).1) (hs _ (aAG hb).2) (hv _ (aAG ha).1) (hv _ (aAG ha).2) hf];decide
 have e3:arP l u (aJT (s.P l) 0)=false:=by unfold arP;rw[hk];rfl
 unfold apP;rw[e1,e2,cond_false,cond_false];refine aRY _ _ ?_ λa ha b hb=>⟨n1 a ha _ (aAG hb).1,n1 a ha _ (aAG hb).2,n2 b hb _ (aAG ha).1,n2 b hb _ (aAG ha).2⟩;unfold sqP;rw[e3,cond_false];exact aLc _ _ (n1 _ (aFv hU) _ (aCW hN.2)) λx hx=>n1 x hx _ (aCW hN.2)
end
theorem aTi {n N:Int}(h0:0<=N)(h:(N+1)*(N+1)<=n):N<aAN n:=by
 have h1:=Int.mul_nonneg (show 0<=N+1 by omega) (show 0<=N+1 by omega);unfold aAN;rw[decide_eq_false oM,cond_false];have h2:=(aHp n.toNat).2;obtain⟨k,rfl⟩:=Int.eq_ofNat_of_zero_le h0;rcases Nat.lt_or_ge k (aC3 n.toNat) with h3|h3
 ·exact_mod_cast h3
 ·exfalso;have h4:=Nat.mul_le_mul (show aC3 n.toNat+1<=k+1 by omega) (show aC3 n.toNat+1<=k+1 by omega)
  have h5:((k+1)*(k+1):Nat)<=n.toNat:=by
   have:(((k+1)*(k+1):Nat):Int)<=n:=by push_cast;exact h
   omega
  omega
def aMH (x:Nat):Bool:=decide ((x:Int)<48)||decide (57<(x:Int))
def aC1 (v:Bys):Bool := !(decide (0<=Lib.idxFunc aMH true (ofL v)))
def aCq (v:Bys)(has:Bool)(n:Int):Bool:=has&&aC1 v&&decide ((v.length:Int)<=7)&&(aHO v).isSome&&decide (n<(aHO v).getD 0)
def aAD (t:List Tag):Nat->CdR->Bool
  | 0,_=>true
  | h+1,c =>
    bif c.op==2 then(aAE t c.key).2
    else bif c.op==3 then(aAE t c.key).2&&((aAE t c.key).1==c.val)
    else bif c.op==7 then aCq (aAE t c.key).1 (aAE t c.key).2 c.n
    else bif (c.op==4)||(c.op==5) then(c.kids.any λk => !(aAD t h k))==(c.op==4)
    else bif c.op==6 then c.kids.any (aAD t h) else true
theorem aAp (t:List Tag)(h:Nat)(c:CdR):aAD t (h+1) c =
    bif c.op==2 then(aAE t c.key).2
    else bif c.op==3 then(aAE t c.key).2&&((aAE t c.key).1==c.val)
    else bif c.op==7 then aCq (aAE t c.key).1 (aAE t c.key).2 c.n
    else bif (c.op==4)||(c.op==5) then(c.kids.any λk => !(aAD t h k))==(c.op==4)
    else bif c.op==6 then c.kids.any (aAD t h) else true:=rfl
def aCK (h:Nat)(c:CdR)(t:List Tag):Bool:=aDl h c&&aAD t h c
def aEQ (b:ObR)(B h:Nat):Prop:=∀{c:CdR}{w:World},CdB w B h c->B<=w.heap.size->ObIn w b->Te w->Calls Tryz.prog 37 #[vA (cdL c),vA (obL b)] w λe w'=>e=.returned (vB (aAD b.o.tags h c))/\Fr nF_ w w'
theorem aM9 (x:Nat):Calls Tryz.prog 84 #[.int .i32 (x:Int)] w λe w'=>e=.returned (vB (aMH x))/\Fr nF_ w w':=by
  refine beg Tryz.func84 rfl rfl [(0,.int .i32 (x:Int))] rfl rfl λZ hZ=>?_;have hM:=Mm.nil nF_ w;refine seg 1 3 [(5,vB (decide ((x:Int)<48)))] f0 ?_;cases h46:(decide ((x:Int)<48))
  ·exact rt1 2 (vB (decide (57<(x:Int)))) rfl f0 (hZ _ _ ⟨by unfold aMH;simp only[h46]<;>rfl,hM.fr⟩)
  exact rt1 2 (vB true) rfl f0 (hZ _ _ ⟨by unfold aMH;simp only[h46]<;>rfl,hM.fr⟩)
theorem aGP (v:Bys):Calls Tryz.prog 83 #[vS v,.func (.func 84) #[] #[]] w λe w'=>e=.returned (vB (decide (0<=Lib.idxFunc aMH true (ofL v))))/\Fr nF_ w w' :=
  (Tryz.strings_ContainsFunc_grows 84 #[] (enters_of Tryz.func84 kR rfl) aMH (ofL v) w (λW x _ _=>(aM9 x).mono λe w2 ⟨h1,h2⟩=>⟨h1,h2.os,h2.tape,h2.output,h2.size,λr hr=>h2.blk r hr id⟩)).mono λe w2 ⟨h1,h2⟩=>⟨h1,Fr.of_below h2⟩
variable{B h bo:Nat}
theorem aI2 {b:ObR}(ih:aEQ b B h)(hbo:w.heap[bo]?=some (.cells (oY_ b) 48 (0,0)))(hb:ObIn w b)(hTe:Te w){c:CdR}(hc:CdB w B h c)(hBw:B<=w.heap.size):Calls Tryz.prog 81 #[vA (cdL c),vP bo 0] w λe w'=>e=.returned (vB (aAD b.o.tags h c))/\Fr nF_ w w':=by
  refine beg Tryz.func81 rfl rfl [(0,.agg (cY_ c)),(1,vP bo 0)] rfl rfl λZ hZ=>?_;have hM:=Mm.nil nF_ w;refine aAu 0 0 2 [] (cs:=(cY_ c)) (T:=27) (v:=λb=>vP b 0) f0 hM λaa w1 hM=>aAw 1 2 6 [(4,.agg (cY_ c)),(5,.agg (oY_ b))] (fc (lam 27 0 0 5 hM rfl) (fc (la0 48 hM (rs (aFK hbo) 0 6)) f0)) hM (ih (hc.g (λ_ h=>h.elim) hM.fr hBw) (Gn_ hBw hM.fr.size) (hb.fr hM.fr) (hTe.fr hM.fr)) λw1 hM=>rt1 3 (vB (aAD b.o.tags h c)) rfl f0 (hZ _ _ ⟨rfl,hM.fr⟩)
variable{b7:Nat}
theorem aMy {b:ObR}(ih:aEQ b B h)(hbo:w.heap[bo]?=some (.cells (oY_ b) 48 (0,0)))(hb:ObIn w b)(hTe:Te w)(hb7:w.heap[b7]?=some (.cells #[.func (.func 81) #[] #[vP bo 0]] 34 (0,0))){c:CdR}(hc:CdB w B h c)(hBw:B<=w.heap.size):Calls Tryz.prog 82 #[vA (cdL c),vP b7 0] w λe w'=>e=.returned (vB (!(aAD b.o.tags h c)))/\Fr nF_ w w':=by
  refine beg Tryz.func82 rfl rfl [(0,.agg (cY_ c)),(1,vP b7 0)] rfl rfl λZ hZ=>?_;have hM:=Mm.nil nF_ w;refine aAu 0 0 2 [] (cs:=(cY_ c)) (T:=27) (v:=λb=>vP b 0) f0 hM λaa w1 hM=>aAw 1 2 6 [(4,.func (.func 81) #[] #[vP bo 0]),(5,.agg (cY_ c))] (fc (ld0 34 hM (bx hb7 0 rfl)) (fc (lam 27 0 0 5 hM rfl) f0)) hM (aI2 ih (hM.fr.obj hbo id) (hb.fr hM.fr) (hTe.fr hM.fr) (hc.g (λ_ h=>h.elim) hM.fr hBw) (Gn_ hBw hM.fr.size)) λw1 hM=>rt1 3 (vB (!(aAD b.o.tags h c))) rfl f0 (hZ _ _ ⟨rfl,hM.fr⟩)
theorem aFc {b:ObR}(ih:aEQ b B h)(hbo:w.heap[bo]?=some (.cells (oY_ b) 48 (0,0)))(hb:ObIn w b)(hTe:Te w){p:Option Addr}{cap:Nat}{L:List CdR}(hs:SrcB cdL 5 w B p cap L)(hk:∀k∈L,CdB w B h k)(hBw:B<=w.heap.size):Calls Tryz.prog 86 #[vL p L.length cap,.func (.func 81) #[] #[vP bo 0]] w λe w'=>e=.returned (vB (L.any (aAD b.o.tags h)))/\Fr nF_ w w' :=
  (aGm (caps:=#[vP bo 0]) hs (G:=λ_=>False) (λ_ h=>h.elim) (enters_of Tryz.func81 kR rfl) (λ_ _=>True) (atQ L (aAD b.o.tags h)) trivial (λi x w1 hx _ _ f=>(aI2 ih (f.obj hbo id) (hb.fr f) (hTe.fr f) ((hk x (gm hx)).g (λ_ h=>h.elim) f hBw) (Gn_ hBw f.size)).mono λe w2 h=>⟨by rw[h.1];unfold atQ;rw[hx],trivial,h.2⟩)).mono λe w9 h=>⟨by obtain⟨z,h1,h2⟩:=h.1;rw[h1,aHC h2],h.2⟩
theorem aCs {b:ObR}(ih:aEQ b B h)(hbo:w.heap[bo]?=some (.cells (oY_ b) 48 (0,0)))(hb:ObIn w b)(hTe:Te w)(hb7:w.heap[b7]?=some (.cells #[.func (.func 81) #[] #[vP bo 0]] 34 (0,0))){p:Option Addr}{cap:Nat}{L:List CdR}(hs:SrcB cdL 5 w B p cap L)(hk:∀k∈L,CdB w B h k)(hBw:B<=w.heap.size):Calls Tryz.prog 86 #[vL p L.length cap,.func (.func 82) #[] #[vP b7 0]] w λe w'=>e=.returned (vB (L.any (λk => !(aAD b.o.tags h k))))/\Fr nF_ w w' :=
  (aGm (caps:=#[vP b7 0]) hs (G:=λ_=>False) (λ_ h=>h.elim) (enters_of Tryz.func82 kR rfl) (λ_ _=>True) (atQ L (λk => !(aAD b.o.tags h k))) trivial (λi x w1 hx _ _ f=>(aMy ih (f.obj hbo id) (hb.fr f) (hTe.fr f) (f.obj hb7 id) ((hk x (gm hx)).g (λ_ h=>h.elim) f hBw) (Gn_ hBw f.size)).mono λe w2 h=>⟨by rw[h.1];unfold atQ;rw[hx],trivial,h.2⟩)).mono λe w9 h=>⟨by obtain⟨z,h1,h2⟩:=h.1;rw[h1,aHC h2],h.2⟩
theorem aMv {b:ObR}(ht:∀k,(aAE b.o.tags k).1.length<=281474976710656)(ih:aEQ b B h)(hb:ObIn w b)(hTe:Te w){c:CdR}(hc:CdB w B (h+1) c)(hBw:B<=w.heap.size):Calls Tryz.prog 37 #[vA (cdL c),vA (obL b)] w λe w'=>e=.returned (vB (aAD b.o.tags (h+1) c))/\Fr nF_ w w':=by
  have hl:=ht c.key
  cases hat:aHO (aAE b.o.tags c.key).1 with
  | none =>
    refine beg Tryz.func37 rfl rfl [(0,.agg (cY_ c)),(1,.agg (oY_ b))] rfl rfl λZ hZ=>?_;have hM:=Mm.nil nF_ w;refine aAu 0 0 2 [] (cs:=(cY_ c)) (T:=27) (v:=λb=>vP b 0) f0 hM λae w1 hM=>aAu 0 1 3 [] (cs:=(oY_ b)) (T:=48) (v:=λb=>vP b 0) f0 hM λaa w1 hM=>aAw 1 4 17 [(14,vL b.pt b.o.tags.length b.ct),(16,vS c.key)] (fc (ldm 46 1 5 hM rfl rfl) (fc (ldm 9 0 1 hM rfl rfl) f0)) hM (aEk (hb.tags.src.fr hM.fr) c.key) λw1 hM=>aBW 2 1 7 [(5,vS ((aAE b.o.tags c.key).1)),(6,vB (aAE b.o.tags c.key).2),(20,.func (.func 81) #[] #[vP aa 0])] [] 34 (.func (.func 81) #[] #[vP aa 0]) f0 hM λac w1 hM=>seg 5 2 [(8,.func (.func 82) #[] #[vP ac 0]),(23,vI c.op),(24,vB (c.op==2))] (fc (ldm 3 0 0 hM rfl rfl) f0) ?_;cases h53:(c.op==2)
    rotate_left
    ·exact rt1 4 (vB (aAE b.o.tags c.key).2) rfl f0 (hZ _ _ ⟨by rw[aAp];unfold aCq aC1;simp only[hat,h53,bs_,Option.isSome,Option.getD]<;>rfl,hM.fr⟩)
    refine seg 7 2 [(27,vB (c.op==3))] f0 ?_;cases h54:(c.op==3)
    rotate_left
    ·refine seg 8 2 [(30,vB (aAE b.o.tags c.key).2)] f0 ?_
     cases h62:(aAE b.o.tags c.key).2 with
     | false =>
      exact rt1 4 (vB false) rfl f0 (hZ _ _ ⟨by rw[aAp];unfold aCq aC1;simp only[hat,h53,h54,h62,bs_,Option.isSome,Option.getD]<;>rfl,hM.fr⟩)
     | true =>
      exact rt1 4 (vB ((aAE b.o.tags c.key).1==c.val)) rfl (fc (ldm 9 0 2 hM rfl rfl) (fc (seq 9 ((aAE b.o.tags c.key).1) c.val) f0)) (hZ _ _ ⟨by rw[aAp];unfold aCq aC1;simp only[hat,h53,h54,h62,bs_,Option.isSome,Option.getD]<;>rfl,hM.fr⟩)
    refine seg 9 2 [(36,vB (c.op==7))] f0 ?_;cases h55:(c.op==7)
    ·refine seg 13 2 [(65,vB (c.op==4))] f0 ?_;cases h56:(c.op==4)
     rotate_left
     ·refine seg 15 0 [] f0 (drc [(4,vB ((c.kids.any λk => !(aAD b.o.tags h k))==true))] hM (λw5 hM=>(fc (ldm 25 0 4 hM rfl rfl) (fc (tcl (aCs ih (bo:=aa) (hM.get 1 rfl) (hb.fr hM.fr) (hTe.fr hM.fr) (b7:=ac) (hM.get 2 rfl) (hc.2.2.1.g (λ_ h=>h.elim) hM.fr hBw) (λk hk=>(hc.2.2.2 k hk).g (λ_ h=>h.elim) hM.fr hBw) (Gn_ hBw hM.fr.size))) (fc (ldm 3 0 0 hM rfl rfl) (fc (tv 74 h56) f0))))) λw5 hM=>rt1 4 (vB ((c.kids.any λk => !(aAD b.o.tags h k))==true)) rfl f0 (hZ _ _ ⟨by rw[aAp];unfold aCq aC1;simp only[hat,h53,h54,h55,h56,bs_,Option.isSome,Option.getD]<;>rfl,hM.fr⟩))
     refine seg 14 2 [(65,vB (c.op==5))] f0 ?_;cases h57:(c.op==5)
     rotate_left
     ·refine seg 15 0 [] f0 (drc [(4,vB ((c.kids.any λk => !(aAD b.o.tags h k))==false))] hM (λw5 hM=>(fc (ldm 25 0 4 hM rfl rfl) (fc (tcl (aCs ih (bo:=aa) (hM.get 1 rfl) (hb.fr hM.fr) (hTe.fr hM.fr) (b7:=ac) (hM.get 2 rfl) (hc.2.2.1.g (λ_ h=>h.elim) hM.fr hBw) (λk hk=>(hc.2.2.2 k hk).g (λ_ h=>h.elim) hM.fr hBw) (Gn_ hBw hM.fr.size))) (fc (ldm 3 0 0 hM rfl rfl) (fc (tv 74 h56) f0))))) λw5 hM=>rt1 4 (vB ((c.kids.any λk => !(aAD b.o.tags h k))==false)) rfl f0 (hZ _ _ ⟨by rw[aAp];unfold aCq aC1;simp only[hat,h53,h54,h55,h56,h57,bs_,Option.isSome,Option.getD]<;>rfl,hM.fr⟩))
     refine seg 16 2 [(76,vB (c.op==6))] f0 ?_;cases h58:(c.op==6)
     ·exact rt1 4 (vB true) rfl f0 (hZ _ _ ⟨by rw[aAp];unfold aCq aC1;simp only[hat,h53,h54,h55,h56,h57,h58,bs_,Option.isSome,Option.getD]<;>rfl,hM.fr⟩)
     refine aAw 17 3 81 [(79,vL c.p c.kids.length c.cap),(80,.func (.func 81) #[] #[vP aa 0])] (fc (ldm 25 0 4 hM rfl rfl) (fc (ldm 34 2 0 hM rfl rfl) f0)) hM (aFc ih (hM.get 1 rfl) (hb.fr hM.fr) (hTe.fr hM.fr) (hc.2.2.1.g (λ_ h=>h.elim) hM.fr hBw) (λk hk=>(hc.2.2.2 k hk).g (λ_ h=>h.elim) hM.fr hBw) (Gn_ hBw hM.fr.size)) λw1 hM=>rt1 4 (vB (c.kids.any (aAD b.o.tags h))) rfl f0 (hZ _ _ ⟨by rw[aAp];unfold aCq aC1;simp only[hat,h53,h54,h55,h56,h57,h58,bs_,Option.isSome,Option.getD]<;>rfl,hM.fr⟩)
    refine aAw 10 1 39 [(38,vS ((aAE b.o.tags c.key).1))] f0 hM (aGP (aAE b.o.tags c.key).1) λw1 hM=>cal 11 1 43 [(9,vB (!(decide (0<=Lib.idxFunc aMH true (ofL (aAE b.o.tags c.key).1))))),(42,vS ((aAE b.o.tags c.key).1))] (K:=λu w8=>∃n T v,u=.tuple #[vI n,.iface T v]/\Fr nF_ w1 w8) f0 ((aGS hl (hTe.fr hM.fr)).mono λe w8 ⟨⟨n1,ev,h1,h2⟩,h3⟩=>(by rcases h2 with⟨h4,_⟩|⟨h4,T,v,rfl⟩<;>rw[hat] at h4<;>cases h4;exact⟨_,h1,n1,T,v,rfl,h3⟩)) λu w1 ⟨n,T,v,hu,f1⟩=>?_;subst hu;have hM:=hM.q f1;refine seg 12 2 [(10,vI n),(11,.iface T v),(47,vB (aAE b.o.tags c.key).2)] f0 ?_
    cases h59:(aAE b.o.tags c.key).2 with
    | false =>
     exact rt1 4 (vB false) rfl f0 (hZ _ _ ⟨by rw[aAp];unfold aCq aC1;simp only[hat,h53,h54,h55,h59,bs_,Option.isSome,Option.getD]<;>rfl,hM.fr⟩)
    | true =>
     refine seg 12 5 [(50,vB (!(decide (0<=Lib.idxFunc aMH true (ofL (aAE b.o.tags c.key).1)))))] f0 ?_;cases h60:(decide (0<=Lib.idxFunc aMH true (ofL (aAE b.o.tags c.key).1)))
     rotate_left
     ·exact rt1 4 (vB false) rfl f0 (hZ _ _ ⟨by rw[aAp];unfold aCq aC1;simp only[hat,h53,h54,h55,h59,h60,bs_,Option.isSome,Option.getD]<;>rfl,hM.fr⟩)
     refine seg 12 10 [(55,vB (decide ((((aAE b.o.tags c.key).1).length:Int)<=7)))] (fc (aHS 9 ((aAE b.o.tags c.key).1)) f0) ?_;cases h61:(decide ((((aAE b.o.tags c.key).1).length:Int)<=7))
     ·exact rt1 4 (vB false) rfl f0 (hZ _ _ ⟨by rw[aAp];unfold aCq aC1;simp only[hat,h53,h54,h55,h59,h60,h61,bs_,Option.isSome,Option.getD]<;>rfl,hM.fr⟩)
     refine opp 12 11 57 [(56,.iface T v)] (v:=vB false) f0 (rt1 4 (vB false) rfl f0 (hZ _ _ ⟨by rw[aAp];unfold aCq aC1;simp only[hat,h53,h54,h55,h59,h60,h61,bs_,Option.isSome,Option.getD]<;>rfl,hM.fr⟩))
  | some n =>
    refine beg Tryz.func37 rfl rfl [(0,.agg (cY_ c)),(1,.agg (oY_ b))] rfl rfl λZ hZ=>?_;have hM:=Mm.nil nF_ w;refine aAu 0 0 2 [] (cs:=(cY_ c)) (T:=27) (v:=λb=>vP b 0) f0 hM λaf w1 hM=>aAu 0 1 3 [] (cs:=(oY_ b)) (T:=48) (v:=λb=>vP b 0) f0 hM λab w1 hM=>aAw 1 4 17 [(14,vL b.pt b.o.tags.length b.ct),(16,vS c.key)] (fc (ldm 46 1 5 hM rfl rfl) (fc (ldm 9 0 1 hM rfl rfl) f0)) hM (aEk (hb.tags.src.fr hM.fr) c.key) λw1 hM=>aBW 2 1 7 [(5,vS ((aAE b.o.tags c.key).1)),(6,vB (aAE b.o.tags c.key).2),(20,.func (.func 81) #[] #[vP ab 0])] [] 34 (.func (.func 81) #[] #[vP ab 0]) f0 hM λad w1 hM=>seg 5 2 [(8,.func (.func 82) #[] #[vP ad 0]),(23,vI c.op),(24,vB (c.op==2))] (fc (ldm 3 0 0 hM rfl rfl) f0) ?_;cases h66:(c.op==2)
    rotate_left
    ·exact rt1 4 (vB (aAE b.o.tags c.key).2) rfl f0 (hZ _ _ ⟨by rw[aAp];unfold aCq aC1;simp only[hat,h66,bs_,Option.isSome,Option.getD]<;>rfl,hM.fr⟩)
    refine seg 7 2 [(27,vB (c.op==3))] f0 ?_;cases h67:(c.op==3)
    rotate_left
    ·refine seg 8 2 [(30,vB (aAE b.o.tags c.key).2)] f0 ?_
     cases h75:(aAE b.o.tags c.key).2 with
     | false =>
      exact rt1 4 (vB false) rfl f0 (hZ _ _ ⟨by rw[aAp];unfold aCq aC1;simp only[hat,h66,h67,h75,bs_,Option.isSome,Option.getD]<;>rfl,hM.fr⟩)
     | true =>
      exact rt1 4 (vB ((aAE b.o.tags c.key).1==c.val)) rfl (fc (ldm 9 0 2 hM rfl rfl) (fc (seq 9 ((aAE b.o.tags c.key).1) c.val) f0)) (hZ _ _ ⟨by rw[aAp];unfold aCq aC1;simp only[hat,h66,h67,h75,bs_,Option.isSome,Option.getD]<;>rfl,hM.fr⟩)
    refine seg 9 2 [(36,vB (c.op==7))] f0 ?_;cases h68:(c.op==7)
    ·refine seg 13 2 [(65,vB (c.op==4))] f0 ?_;cases h69:(c.op==4)
     rotate_left
     ·refine seg 15 0 [] f0 (drc [(4,vB ((c.kids.any λk => !(aAD b.o.tags h k))==true))] hM (λw5 hM=>(fc (ldm 25 0 4 hM rfl rfl) (fc (tcl (aCs ih (bo:=ab) (hM.get 1 rfl) (hb.fr hM.fr) (hTe.fr hM.fr) (b7:=ad) (hM.get 2 rfl) (hc.2.2.1.g (λ_ h=>h.elim) hM.fr hBw) (λk hk=>(hc.2.2.2 k hk).g (λ_ h=>h.elim) hM.fr hBw) (Gn_ hBw hM.fr.size))) (fc (ldm 3 0 0 hM rfl rfl) (fc (tv 74 h69) f0))))) λw5 hM=>rt1 4 (vB ((c.kids.any λk => !(aAD b.o.tags h k))==true)) rfl f0 (hZ _ _ ⟨by rw[aAp];unfold aCq aC1;simp only[hat,h66,h67,h68,h69,bs_,Option.isSome,Option.getD]<;>rfl,hM.fr⟩))
     refine seg 14 2 [(65,vB (c.op==5))] f0 ?_;cases h70:(c.op==5)
     rotate_left
     ·refine seg 15 0 [] f0 (drc [(4,vB ((c.kids.any λk => !(aAD b.o.tags h k))==false))] hM (λw5 hM=>(fc (ldm 25 0 4 hM rfl rfl) (fc (tcl (aCs ih (bo:=ab) (hM.get 1 rfl) (hb.fr hM.fr) (hTe.fr hM.fr) (b7:=ad) (hM.get 2 rfl) (hc.2.2.1.g (λ_ h=>h.elim) hM.fr hBw) (λk hk=>(hc.2.2.2 k hk).g (λ_ h=>h.elim) hM.fr hBw) (Gn_ hBw hM.fr.size))) (fc (ldm 3 0 0 hM rfl rfl) (fc (tv 74 h69) f0))))) λw5 hM=>rt1 4 (vB ((c.kids.any λk => !(aAD b.o.tags h k))==false)) rfl f0 (hZ _ _ ⟨by rw[aAp];unfold aCq aC1;simp only[hat,h66,h67,h68,h69,h70,bs_,Option.isSome,Option.getD]<;>rfl,hM.fr⟩))
     refine seg 16 2 [(76,vB (c.op==6))] f0 ?_;cases h71:(c.op==6)
     ·exact rt1 4 (vB true) rfl f0 (hZ _ _ ⟨by rw[aAp];unfold aCq aC1;simp only[hat,h66,h67,h68,h69,h70,h71,bs_,Option.isSome,Option.getD]<;>rfl,hM.fr⟩)
     refine aAw 17 3 81 [(79,vL c.p c.kids.length c.cap),(80,.func (.func 81) #[] #[vP ab 0])] (fc (ldm 25 0 4 hM rfl rfl) (fc (ldm 34 2 0 hM rfl rfl) f0)) hM (aFc ih (hM.get 1 rfl) (hb.fr hM.fr) (hTe.fr hM.fr) (hc.2.2.1.g (λ_ h=>h.elim) hM.fr hBw) (λk hk=>(hc.2.2.2 k hk).g (λ_ h=>h.elim) hM.fr hBw) (Gn_ hBw hM.fr.size)) λw1 hM=>rt1 4 (vB (c.kids.any (aAD b.o.tags h))) rfl f0 (hZ _ _ ⟨by rw[aAp];unfold aCq aC1;simp only[hat,h66,h67,h68,h69,h70,h71,bs_,Option.isSome,Option.getD]<;>rfl,hM.fr⟩)
    refine aAw 10 1 39 [(38,vS ((aAE b.o.tags c.key).1))] f0 hM (aGP (aAE b.o.tags c.key).1) λw1 hM=>aYT 11 1 43 [(9,vB (!(decide (0<=Lib.idxFunc aMH true (ofL (aAE b.o.tags c.key).1))))),(42,vS ((aAE b.o.tags c.key).1))] (v := .tuple #[vI n,.nilIface]) (K:=λw8=>Fr nF_ _ w8) f0 ((aGS hl (hTe.fr hM.fr)).mono λe w8 ⟨⟨n1,ev,h1,h2⟩,h3⟩=>(by rcases h2 with⟨h4,rfl,_⟩|⟨h4,_⟩<;>rw[hat] at h4<;>cases h4;exact⟨h1,h3⟩)) λw1 f1=>?_;have hM:=hM.q f1;refine seg 12 2 [(10,vI n),(11,.nilIface),(47,vB (aAE b.o.tags c.key).2)] f0 ?_
    cases h72:(aAE b.o.tags c.key).2 with
    | false =>
     exact rt1 4 (vB false) rfl f0 (hZ _ _ ⟨by rw[aAp];unfold aCq aC1;simp only[hat,h66,h67,h68,h72,bs_,Option.isSome,Option.getD]<;>rfl,hM.fr⟩)
    | true =>
     refine seg 12 5 [(50,vB (!(decide (0<=Lib.idxFunc aMH true (ofL (aAE b.o.tags c.key).1)))))] f0 ?_;cases h73:(decide (0<=Lib.idxFunc aMH true (ofL (aAE b.o.tags c.key).1)))
     rotate_left
     ·exact rt1 4 (vB false) rfl f0 (hZ _ _ ⟨by rw[aAp];unfold aCq aC1;simp only[hat,h66,h67,h68,h72,h73,bs_,Option.isSome,Option.getD]<;>rfl,hM.fr⟩)
     refine seg 12 10 [(55,vB (decide ((((aAE b.o.tags c.key).1).length:Int)<=7)))] (fc (aHS 9 ((aAE b.o.tags c.key).1)) f0) ?_;cases h74:(decide ((((aAE b.o.tags c.key).1).length:Int)<=7))
     ·exact rt1 4 (vB false) rfl f0 (hZ _ _ ⟨by rw[aAp];unfold aCq aC1;simp only[hat,h66,h67,h68,h72,h73,h74,bs_,Option.isSome,Option.getD]<;>rfl,hM.fr⟩)
     refine opp 12 11 57 [(56,.nilIface)] (v:=vB true) f0 (rt1 4 (vB (decide (c.n<n))) rfl (fc (ldm 3 0 3 hM rfl rfl) f0) (hZ _ _ ⟨by rw[aAp];unfold aCq aC1;simp only[hat,h66,h67,h68,h72,h73,h74,bs_,Option.isSome,Option.getD]<;>rfl,hM.fr⟩))
theorem aFZ {B:Nat}{b:ObR}(ht:∀k,(aAE b.o.tags k).1.length<=281474976710656):∀h,aEQ b B h
  | 0=>λhc=>hc.elim
  | h+1=>λhc hBw hb hTe=>aMv ht (aFZ ht h) hb hTe hc hBw
theorem aGp {b:ObR}(ht:∀k,(aAE b.o.tags k).1.length<=281474976710656)(hb:ObIn w b)(hTe:Te w){c:CdR}(hc:CdB w B h c)(hBw:B<=w.heap.size):Calls Tryz.prog 16 #[vA (cdL c),vA (obL b)] w λe w'=>e=.returned (vB (aCK h c b.o.tags))/\Fr nF_ w w':=by
  refine beg Tryz.func16 rfl rfl [(0,.agg (cY_ c)),(1,.agg (oY_ b))] rfl rfl λZ hZ=>?_;have hM:=Mm.nil nF_ w;refine aAu 0 0 2 [] (cs:=(cY_ c)) (T:=27) (v:=λb=>vP b 0) f0 hM λaa w1 hM=>aAu 0 1 3 [] (cs:=(oY_ b)) (T:=48) (v:=λb=>vP b 0) f0 hM λab w1 hM=>aAw 1 1 6 [(5,.agg (cY_ c))] (fc (lam 27 0 0 5 hM rfl) f0) hM (aES (hc.g (λ_ h=>h.elim) hM.fr hBw) (Gn_ hBw hM.fr.size)) λw1 hM=>seg 1 3 [(7,vB (aDl h c))] f0 ?_;cases h78:(aDl h c)
  ·exact rt1 4 (vB false) rfl f0 (hZ _ _ ⟨by unfold aCK;simp only[h78]<;>rfl,hM.fr⟩)
  refine aAw 1 5 10 [(8,.agg (cY_ c)),(9,.agg (oY_ b))] (fc (lam 27 0 0 5 hM rfl) (fc (lam 48 1 0 6 hM rfl) f0)) hM (aFZ ht h (hc.g (λ_ h=>h.elim) hM.fr hBw) (Gn_ hBw hM.fr.size) (hb.fr hM.fr) (hTe.fr hM.fr)) λw1 hM=>rt1 4 (vB (aAD b.o.tags h c)) rfl f0 (hZ _ _ ⟨by unfold aCK;simp only[h78]<;>rfl,hM.fr⟩)
def aA2 (h:Nat)(q:QdR)(b:ObR):Bool:=((q.kind==0)||(q.kind==b.o.kind))&&aCK h q.wh b.o.tags
def aDy (h:Nat)(q:QdR)(os:List ObR):List (Bys×Int):=(os.filter (aA2 h q)).map λb=>(b.o.id,0)
variable{y:ObR}{os:List ObR}
theorem aRG {q:QdR}(hy:os[i]?=some y)(ha:aA2 h q y=true):aDy h q (os.take i)++[(y.o.id,0)]=aDy h q (os.take (i+1)):=by
  unfold aDy;rw[gt_ hy,List.filter_append,List.map_append];simp[ha]
theorem aU7 {q:QdR}(hy:os[i]?=some y)(ha:aA2 h q y=false):aDy h q (os.take i)=aDy h q (os.take (i+1)):=by
  unfold aDy;rw[gt_ hy,List.filter_append,List.map_append];simp[ha]
theorem aEz (h:Nat)(q:QdR)(os:List ObR):(aDy h q os).length<=os.length:=by
  unfold aDy;rw[Gp_];exact List.length_filter_le _ _
theorem aMV {b:ObR}(hv:aAh (aAa os)=true)(hb:b∈os)(k:Bys):(aAE b.o.tags k).1.length<=281474976710656:=Gn_ (aLC (aCo hv _ (List.mem_map.2 ⟨_,hb,rfl⟩)) k) dE
variable{p0:Option Addr}{cp0:Nat}
theorem aDx {fb bs xi:Nat}(hm:aCt w (vL p0 os.length cp0) os)(hvm:aAh (aAa os)=true){q:QdR}(hq:QdIn w B h q)(hBw:B<=w.heap.size)(hTe:Te w)(hfb:w.heap[fb]?=some (.cells (fY_ (vL p0 os.length cp0) q (.map (some bs)) (vP xi 0)) 93 (0,0))){b:ObR}(hbo:b∈os)(hb:ObIn w b):Calls Tryz.prog 56 #[vP fb 0,vA (obL b)] w λe w'=>e=.returned (vB (aA2 h q b))/\Fr nF_ w w':=by
  refine beg Tryz.func56 rfl rfl [(0,vP fb 0),(1,.agg (oY_ b))] rfl rfl λZ hZ=>?_;have hM:=Mm.nil nF_ w;refine aAu 0 0 3 [] (cs:=(oY_ b)) (T:=48) (v:=λb=>vP b 0) f0 hM λac w1 hM=>seg 1 0 [] f0 ?_;cases aa:(q.kind==0)
  ·cases ab:(q.kind==b.o.kind)
   ·refine drc [(4,vB false)] hM (λw5 hM=>(fc (ld0 3 hM (bx hfb 2 rfl)) (fc (tv 10 aa) (fc (ld0 3 hM (bx hfb 2 rfl)) (fc (ldm 3 0 1 hM rfl rfl) (fc (tv 19 ab) f0)))))) λw5 hM=>rt1 4 (vB false) rfl f0 (hZ _ _ ⟨by unfold aA2;simp only[aa,ab]<;>rfl,hM.fr⟩)
   refine drc [(4,vB (aCK h q.wh b.o.tags))] hM (λw5 hM=>(fc (ld0 3 hM (bx hfb 2 rfl)) (fc (tv 10 aa) (fc (ld0 3 hM (bx hfb 2 rfl)) (fc (ldm 3 0 1 hM rfl rfl) (fc (tv 19 ab) (fc (la0 27 hM (rs (aFK hfb) 3 5)) (fc (lam 48 0 0 6 hM rfl) (fc (tcl (aGp (aMV hvm hbo) (hb.fr hM.fr) (hTe.fr hM.fr) (hq.wh.g (λ_ h=>h.elim) hM.fr hBw) (Gn_ hBw hM.fr.size))) f0))))))))) λw5 hM=>rt1 4 (vB (aCK h q.wh b.o.tags)) rfl f0 (hZ _ _ ⟨by unfold aA2;simp only[aa,ab]<;>rfl,hM.fr⟩)
  refine drc [(4,vB (aCK h q.wh b.o.tags))] hM (λw5 hM=>(fc (ld0 3 hM (bx hfb 2 rfl)) (fc (tv 10 aa) (fc (la0 27 hM (rs (aFK hfb) 3 5)) (fc (lam 48 0 0 6 hM rfl) (fc (tcl (aGp (aMV hvm hbo) (hb.fr hM.fr) (hTe.fr hM.fr) (hq.wh.g (λ_ h=>h.elim) hM.fr hBw) (Gn_ hBw hM.fr.size))) f0)))))) λw5 hM=>rt1 4 (vB (aCK h q.wh b.o.tags)) rfl f0 (hZ _ _ ⟨by unfold aA2;simp only[aa]<;>rfl,hM.fr⟩)
abbrev bAu (Z:Ending->World->Prop):=AtO Tryz.prog (aAv Tryz.f28) (aAI (bodyPost Tryz.prog Tryz.f28 Z)) [] 28
theorem aJa {fb bs xi:Nat}(hm:aCt w (vL p0 os.length cp0) os)(hvm:aAh (aAa os)=true){q:QdR}(hq:QdIn w B h q)(hBw:B<=w.heap.size)(hTe:Te w)(hfb:w.heap[fb]?=some (.cells (fY_ (vL p0 os.length cp0) q (.map (some bs)) (vP xi 0)) 93 (0,0)))(hol:os.length<=1000000):Calls Tryz.prog 28 #[vP fb 0] w λe w'=>∃u,e=.returned (.tuple #[u,vI 0])/\Mm nF_ w w' [rw_ rwL 2 42 u (aDy h q os)]:=by
  have hm0:=hm;obtain⟨hs0,hob⟩:=hm0;have sp0:=hs0.p.2;refine beg Tryz.func28 rfl rfl [(0,vP fb 0)] rfl rfl λZ hZ=>?_;have hM:=Mm.nil nF_ w;have hM:=hM.row (f:=rwL) (c:=2) (E:=42);refine seg 3 0 [(4,vL none 0 0),(11,vL p0 os.length cp0),(12,vI (os.length:Int)),(13,vI 0)] (fc (ld0 22 hM (bx hfb 0 rfl)) f0) ?_
  have ag:∀(ac:Nat)(i:Nat)(vo:Value)(w2:World),i<=os.length->Mm nF_ w w2 [rw_ rwL 2 42 vo (aDy h q (os.take i))]->ac=os.length-i->bAu Z (some (3,0)) [(13,vI (i:Int)),(12,vI (os.length:Int)),(11,vL p0 os.length cp0),(4,vo),(0,vP fb 0)] w2:=by
   refine aCh λac ad i vo w2 hi hM al=>seg 3 1 [(14,vB (decide ((i:Int)<(os.length:Int))))] f0 ?_;cases ae:(decide ((i:Int)<(os.length:Int)))
   ·have ah:=df ae;exact rt2 2 3 vo (vI 0) rfl rfl f0 (hZ _ _ ⟨_,rfl,by rw[Gc_ oM] at hM;exact hM.pick [0]⟩)
   have ah:=dt ae;obtain⟨y,hy,am,an,ai,aj⟩:=sp0.el (i:=i) oM;refine aBW 4 2 6 [(16,.agg (oY_ y))] [] 48 (.agg (oY_ y)) (fc (ix 22 cp0 ai (gl hy)) (fc (la0 48 hM aj) f0)) hM λao w1 hM=>aAw 5 2 19 [(17,vP fb 0),(18,.agg (oY_ y))] (fc (lam 48 1 0 6 hM rfl) f0) hM (aDx (hm.fr hM.fr) hvm (hq.fr hM.fr hBw) (Gn_ hBw hM.fr.size) (hTe.fr hM.fr) (hM.fr.obj hfb id) (gm hy) ((hob _ (gm hy)).fr hM.fr)) λw1 hM=>?_;cases af:(aA2 h q y)
   ·refine seg 3 0 [(13,vI ((i:Int)+1))] (fc (aAP (i:Int) 1 u3_) f0) ?_;have hM:=hM.pick [0];replace hM:Mm nF_ w _ [_]:=hM;obtain⟨u1,hu1⟩:∃z,z=vo:=⟨_,rfl⟩;rw[<-hu1] at hM;rw[aU7 hy af,hu1] at hM;exact aAi _ (ad _ (by have:=gl hy;omega) (i+1) vo _ (gl hy) hM rfl)
   refine aAu 6 4 24 [(20,vo),(23,.agg #[vS y.o.id,vI 0])] (cs:=#[vS y.o.id,vI 0]) (T:=42) (v:=λb=>vL (some ⟨b,0,none⟩) 1 1) (fc (ldm 9 1 0 hM rfl rfl) f0) hM λaq w1 hM=>aU6 6 5 25 [] (cap:=1) dE rwT f0 hM (j:=0) rfl (aCu (f:=rwL) (x:=(y.o.id,0)) (hM.get 2 rfl) (Nat.lt_succ_self _)) (λh=>by cases h) (by have:=aEz h q (os.take i);have h2:=List.length_take_le i os;simp only[Gf_,Gm_];omega) λau w1 hM=>?_;obtain⟨aa,ab,ak,-⟩:=(hM.src (j:=0) rfl rwT.len).op;subst ak;refine seg 3 0 [(4,vL aa ((aDy h q (os.take i))++[(y.o.id,0)]).length ab),(13,vI ((i:Int)+1))] (fc (aAP (i:Int) 1 u3_) f0) ?_;have hM:=hM.pick [0];replace hM:Mm nF_ w _ [_]:=hM;obtain⟨u1,hu1⟩:∃z,z=(vL aa ((aDy h q (os.take i))++[(y.o.id,0)]).length ab):=⟨_,rfl⟩;rw[<-hu1] at hM;rw[aRG hy af,hu1] at hM;exact aAi _ (ad _ (by have:=gl hy;omega) (i+1) (vL aa ((aDy h q (os.take i))++[(y.o.id,0)]).length ab) _ (gl hy) hM rfl)
  exact aAi _ (ag _ 0 (vL none 0 0) _ (Gg_ _) hM rfl)
end Go.Proofs.YtngjlnhojicjeaaGreatDoor
namespace Go.Pl
open Go.RowKit
variable{ds:List Deferred}{P:Program}{ops:Array Oper}{Q:Exit->Act->World->Prop}{a:Act}{w:World}{r n:Nat}
def aL5 (P:Program)(l:Nat)(args:Array Value)(W:World)(R:World->Prop):Prop :=
 ∃m,YieldAt Fence.wide m P l args W λe W'=>e=.returned (.bool true)/\R W'
def aKv (P:Program)(gf:Nat)(lb:Array Value)(vs:List (Array Value))(Kp:World->Prop):Prop :=
 ∀(l:Nat)(J:Nat->World->Prop)(W:World),(∀k W W',J k W->Fr nF_ W W'->J k W')->(∀k W,J k W->Kp W) ->
  (∀k v W,J k W->vs[k]?=some v->aL5 P l v W (J (k+1)))->J 0 W ->
  Calls P gf (#[.func (.yield l) #[] #[]]++lb) W λe W'=>(∃v,e=.returned v)/\J vs.length W'
end Go.Pl
namespace Go.Pl
open Go.RowKit
variable{P:Program}{Q:Exit->Act->World->Prop}{a:Act}{w:World}
def aTj (R:World->Prop):Exit->Act->World->Prop
 | .normal,_,W=>R W
 | _,_,_=>False
variable{gf:Nat}{lb:Array Value}{vs:List (Array Value)}{Kp:World->Prop}{ps:Array Tmp}
theorem aL8 {g:Operand}{assign body:Code}
  (I:Nat->World->Prop) (A:Array Value->Act->Prop)
  (hg:a.eval g=.func (.func gf) #[] lb) (eg:∀args w,(callFunc gf args).run P w=.ok (.enter gf args) w)
  (hY:aKv P gf lb vs Kp) (hps:∀v∈vs,v.size=ps.size)
  (hI:∀k W W',I k W->Fr (λb=>b=w.heap.size\/b=w.heap.size+1) W W'->I k W') (hK:∀k W,I k W->Kp W) (h0:I 0 w)
  (hassign:∀(l:Nat)(v:Array Value)(W:World)(K:Act->World->Prop),v∈vs->(∀a1,A v a1->K a1 W)->assign.wpIn (FR l) 0 P (Exit.then K (λ_ _ _=>False)) { tmps:=(ps.zip v).foldl (λt (p,v)=>t.setIfInBounds p v) a.tmps,defers:=[] } W)
  (hbody:∀(k:Nat)(v:Array Value)(a1:Act)(W:World),vs[k]?=some v->I k W->A v a1->w.heap.size+2<=W.heap.size->(∃r,W.heap[w.heap.size+1]?=some (.loop r)) ->
   body.wpIn (FR (w.heap.size+1)) 0 P (aTj λW'=>I (k+1) W'/\W'.heap[w.heap.size]?=W.heap[w.heap.size]?/\W'.heap[w.heap.size+1]?=W.heap[w.heap.size+1]?) a1 W)
  (hdone:∀W,I vs.length W->W.heap[w.heap.size]?=some (.deferred (some []))->Q .normal { a with defers:={ target := .collected w.heap.size,args:=#[] }::a.defers } W) :
  (Code.rangeFunc g ps assign body).wp P Q a w:=by
 refine(wpIn_wide (n:=0)).1 (wpIn_rangeFunc ?_);intro fn hfn;obtain⟨rec,hrec⟩:∃rec:LoopState->Option Code->Loop,rec=λst pe=>{ state:=st,pending:=pe,fn,tmps:=a.tmps,params:=ps,assign,body,defers:=w.heap.size }:=⟨_,rfl⟩;obtain⟨W1,hW1⟩:∃W1,(w.alloc (.deferred (some []))).alloc (.loop (rec .ready none))=W1:=⟨_,rfl⟩
 have hL1:W1.heap[w.heap.size+1]?=some (.loop (rec .ready none)):=by
  rw[<-hW1];exact aC7 sI _
 have hK1:W1.heap[w.heap.size]?=some (.deferred (some [])):=by
  rw[<-hW1];exact(aBJ sI _).trans (aAl _ _)
 have hf1:Fr nF_ w W1:=by rw[<-hW1];exact((Fr.refl _ _).alloc _).alloc _
 refine⟨w.heap.size+1,[{ target := .collected w.heap.size,args:=#[] }],W1,{ target := .fn (.func gf) lb,args:=#[.func (.yield (w.heap.size+1)) #[] #[]] },W1,gf,
  #[.func (.yield (w.heap.size+1)) #[] #[]]++lb,W1,?_,?_,λ_ _=>trivial,?_,λh=>(by cases h),?_⟩
 ·rw[<-hW1,hrec];exact run_enterLoop_outer _ _ _ _ _
 ·simp only[resolve,hg];simp[go_sem]
 ·simp[invoke,go_sem,eg]
 ·refine callsIn_wide.2 ((hY (w.heap.size+1) (λk W=>I k W/\W.heap[w.heap.size+1]?=some (.loop (rec .ready none))/\W.heap[w.heap.size]?=some (.deferred (some []))) W1
   (λk W W' h f=>⟨hI k W W' h.1 (f.mono λ_ _ h=>h.elim),f.obj h.2.1 id,f.obj h.2.2 id⟩) (λk W h=>hK k W h.1) ?_ ⟨hI _ _ _ h0 (hf1.mono λ_ _ h=>h.elim),hL1,hK1⟩).mono ?_)
  ·rintro k v W ⟨hi,hl,hk⟩ hv;have hvm:v∈vs:=Ge_ hv;have hlt:=aAf hl;have hy:=run_yield (P:=P) (args:=v) hl (by rw[hrec];exact hps v hvm);rw[hrec] at hy;refine⟨0,fn,_,assign,body,hy,roundIn_of_wpIn hfn (hassign _ v W _ hvm ?_)⟩;clear hy;intro a1 hA;refine⟨_,run_beginRound hl (by rw[hrec]),?_⟩;have f2:=Fr.putObj W (w.heap.size+1) (.loop { rec .ready none with state := .busy });have hl2:(W.putObj (w.heap.size+1) (.loop { rec .ready none with state := .busy })).heap[w.heap.size+1]?=some (.loop { rec .ready none with state := .busy }):=World.putObj_heap_same hlt;have hk2:=f2.obj hk oM;have hs2:w.heap.size+2<=(W.putObj (w.heap.size+1) (.loop { rec .ready none with state := .busy })).heap.size:=by simp;omega
   refine wpIn_mono (hbody k v a1 _ hv (hI _ _ _ hi (f2.mono λ_ _ h =>.inr h)) hA hs2 ⟨_,hl2⟩) ?_;rintro e a3 W3 hp
   cases e with
   | normal =>
    obtain⟨hi3,h3,h4⟩:=hp;rw[hl2] at h4;rw[hk2] at h3;have hr:=run_endRound (P:=P) none h4;refine⟨_,_,hr,rfl,hI _ _ _ hi3 ((Fr.putObj _ _ _).mono λ_ _ h =>.inr h),?_,(World.putObj_heap_other oM).trans h3⟩;refine(World.putObj_heap_same (aAf h4)).trans ?_;rw[hrec];rfl
   | ret=>exact hp.elim
   | exit id=>exact hp.elim
   | goto t=>exact hp.elim
   | panic ch=>exact hp.elim
   | outgrown=>exact hp.elim
  ·rintro e W2 ⟨⟨v,rfl⟩,hi,hl,hk⟩;refine⟨none,_,by have:=run_endLoop (P:=P) hl (by rw[hrec];simp);rw[hrec] at this;exact this,hdone _ (hI _ _ _ hi ((Fr.putObj _ _ _).mono λ_ _ h =>.inr h)) ((World.putObj_heap_other oM).trans hk)⟩
theorem aL9 {r:Nat}{rr:Loop}{g:Operand}{assign body:Code}
  (hr0:w.heap[r]?=some (.loop rr)) (I:Nat->World->Prop) (A:Array Value->Act->Prop)
  (hg:a.eval g=.func (.func gf) #[] lb) (eg:∀args w,(callFunc gf args).run P w=.ok (.enter gf args) w)
  (hY:aKv P gf lb vs Kp) (hps:∀v∈vs,v.size=ps.size)
  (hI:∀k W W',I k W->Fr (λb=>b=w.heap.size) W W'->I k W') (hK:∀k W,I k W->Kp W) (h0:I 0 w)
  (hassign:∀(l:Nat)(v:Array Value)(W:World)(K:Act->World->Prop),v∈vs->(∀a1,A v a1->K a1 W)->assign.wpIn (FR l) 0 P (Exit.then K (λ_ _ _=>False)) { tmps:=(ps.zip v).foldl (λt (p,v)=>t.setIfInBounds p v) a.tmps,defers:=[] } W)
  (hbody:∀(k:Nat)(v:Array Value)(a1:Act)(W:World),vs[k]?=some v->I k W->A v a1->w.heap.size+1<=W.heap.size ->
   body.wpIn (FR w.heap.size) 0 P (aTj λW'=>I (k+1) W'/\W'.heap[w.heap.size]?=W.heap[w.heap.size]?) a1 W)
  (hdone:∀W,I vs.length W->Q .normal a W) :
  (Code.rangeFunc g ps assign body).wpIn (FR r) 0 P Q a w:=by
 refine wpIn_rangeFunc ?_;intro fn hfn;obtain⟨rec,hrec⟩:∃rec:LoopState->Option Code->Loop,rec=λst pe=>{ state:=st,pending:=pe,fn,tmps:=a.tmps,params:=ps,assign,body,defers:=rr.defers }:=⟨_,rfl⟩;obtain⟨W1,hW1⟩:∃W1,w.alloc (.loop (rec .ready none))=W1:=⟨_,rfl⟩
 have hL1:W1.heap[w.heap.size]?=some (.loop (rec .ready none)):=by
  rw[<-hW1];exact aAl _ _
 have hf1:Fr nF_ w W1:=by rw[<-hW1];exact(Fr.refl _ _).alloc _
 refine⟨w.heap.size,[],W1,{ target := .fn (.func gf) lb,args:=#[.func (.yield w.heap.size) #[] #[]] },W1,gf,
  #[.func (.yield w.heap.size) #[] #[]]++lb,W1,?_,?_,λ_ _=>trivial,?_,λh=>(by cases h),?_⟩
 ·rw[<-hW1,hrec];exact run_enterLoop_inner hr0 _ _ _ _ _
 ·simp only[resolve,hg];simp[go_sem]
 ·simp[invoke,go_sem,eg]
 ·refine aEt ((hY w.heap.size (λk W=>I k W/\W.heap[w.heap.size]?=some (.loop (rec .ready none))) W1
   (λk W W' h f=>⟨hI k W W' h.1 (f.mono λ_ _ h=>h.elim),f.obj h.2 id⟩) (λk W h=>hK k W h.1) ?_ ⟨hI _ _ _ h0 (hf1.mono λ_ _ h=>h.elim),hL1⟩).mono ?_)
  ·rintro k v W ⟨hi,hl⟩ hv;have hvm:v∈vs:=Ge_ hv;have hlt:=aAf hl;have hy:=run_yield (P:=P) (args:=v) hl (by rw[hrec];exact hps v hvm);rw[hrec] at hy;refine⟨0,fn,_,assign,body,hy,roundIn_of_wpIn (F:=Fence.wide) trivial (hassign _ v W _ hvm ?_)⟩;clear hy;intro a1 hA;refine⟨_,run_beginRound hl (by rw[hrec]),?_⟩;have f2:=Fr.putObj W w.heap.size (.loop { rec .ready none with state := .busy });have hl2:(W.putObj w.heap.size (.loop { rec .ready none with state := .busy })).heap[w.heap.size]?=some (.loop { rec .ready none with state := .busy }):=World.putObj_heap_same hlt;have hs2:w.heap.size+1<=(W.putObj w.heap.size (.loop { rec .ready none with state := .busy })).heap.size:=by simp;omega
   refine wpIn_mono (hbody k v a1 _ hv (hI _ _ _ hi f2) hA hs2) ?_;rintro e a3 W3 hp
   cases e with
   | normal =>
    obtain⟨hi3,h4⟩:=hp;rw[hl2] at h4;have hr:=run_endRound (P:=P) none h4;refine⟨_,_,hr,rfl,hI _ _ _ hi3 (Fr.putObj _ _ _),?_⟩;refine(World.putObj_heap_same (aAf h4)).trans ?_;rw[hrec];rfl
   | ret=>exact hp.elim
   | exit id=>exact hp.elim
   | goto t=>exact hp.elim
   | panic ch=>exact hp.elim
   | outgrown=>exact hp.elim
  ·rintro e W2 ⟨⟨v,rfl⟩,hi,hl⟩;refine⟨none,_,by have:=run_endLoop (P:=P) hl (by rw[hrec];simp);rw[hrec] at this;exact this,?_⟩;exact hdone _ (hI _ _ _ hi (Fr.putObj _ _ _))
section
variable{O:Array Oper}{rest:List Oper}{o:Oper}{n d m:Nat}{L:List (Nat×Value)}{v:Value}{w':World}{ds:List Deferred}
theorem aKd {l:Nat}{x y:Operand}{ts:Array TypeId}{v:Value}{R:World->Prop}(E:EnvD ds n L a)(hd:o.dst=some d)(hn:d<n)(hf:(L.map (·.1)).contains d=false)(hw:Region.wanted o (yielded O a.tmps)=true)(ho:o.op=.call ⟨.value y,#[x],ts⟩)(hy:a.eval y=.func (.yield l) #[] #[])(hx:a.eval x=v)(hR:aL5 P l #[v] w R)
  (k:∀a' w',R w'->EnvD ds n ((d,.bool true)::L) a'->wpListIn Fence.wide m P O Q rest a' w'):wpListIn Fence.wide m P O Q (o::rest) a w:=by
 obtain⟨m',fn,tmps,as9,bd,hrun,hF,hround⟩:=hR;simp only[wpListIn,hw,if_true];refine⟨λ_ _=>trivial,?_⟩;show Oper.uponIn _ _ _ _ _ _ _ ((execOp a.eval o).run P w);rw[aLJ ho hy hx hrun];refine⟨λh=>(by cases h),trivial,λc cs _=>?_⟩;obtain⟨e2,w2,⟨h1,h2⟩,h3⟩:=hround c cs (room_wide _);subst h1;refine⟨.returned (.bool true),w2,?_,h3⟩;show wpListIn Fence.wide m P O Q rest (a.put o.dst _) w2;rw[hd];exact k _ _ h2 (E.put hn hf)
end
end Go.Pl
namespace Go.Proofs.YtngjlnhojicjeaaGreatDoor
open Go.RowKit Go.Pl
variable{N off:Nat}
section
variable{o:Oper}{w:World}{ρ:Operand->Value}{x y z u:Operand}{g cap i j:Nat}{p:Option Addr}
theorem aNo (ho:o.op=.slice 159 x (some y) none none)(hx:ρ x=.slice (some ⟨g,off,none⟩) N cap)(hy:ρ y=.int .i64 (i:Int))(hi:i<N)(hc:N<=cap):(execOp ρ o).run Tryz.prog w=.ok (.value (.slice (some ⟨g,off+i,none⟩) (N-i) (cap-i))) w:=by
 have h1:(i:Int)<=N:=by omega
 have h2:(N:Int)<=cap:=by omega
 have h3:cap≠i:=by omega
 simp[execOp,ho,hx,hy,go_sem,h1,h2,h3,Addr.add]
theorem aNn {a b c:Int}(ho:o.op=.slice 159 x (some y) (some z) (some u))(hx:ρ x=.slice (some ⟨g,off,none⟩) N cap)(hy:ρ y=.int .i64 a)(hz:ρ z=.int .i64 b)(hu:ρ u=.int .i64 c)(ea:a=(i:Int))(eb:b=(j:Int))(ec:c=(j:Int))(hi:i<j)(hc:j<=cap):(execOp ρ o).run Tryz.prog w=.ok (.value (.slice (some ⟨g,off+i,none⟩) (j-i) (j-i))) w:=by
 subst ea eb ec;have h1:(i:Int)<=j:=by omega
 have h2:(j:Int)<=cap:=by omega
 have h3:j≠i:=by omega
 simp[execOp,ho,hx,hy,hz,hu,go_sem,h1,h2,h3,Addr.add]
end
def chV (g off N n k:Nat):Value := .slice (some ⟨g,off+k*n,none⟩) (min n (N-k*n)) (min n (N-k*n))
def chs (g off N n:Nat):List (Array Value):=(List.range ((N+n-1) / n)).map λk=>#[chV g off N n k]
theorem aIQ {n k:Nat}(hn:1<=n):k<(N+n-1) / n↔k*n<N:=by
 rw[Nat.lt_div_iff_mul_lt oM];omega
theorem aS4 {g n k:Nat}(hn:1<=n)(h:k*n<N):(chs g off N n)[k]?=some #[chV g off N n k]:=by
 unfold chs;rw[Gr_,List.getElem?_range ((aIQ hn).2 h)];rfl
theorem aUm {g n k:Nat}(hn:1<=n)(hk:k<=(N+n-1) / n)(h:¬k*n<N):k=(chs g off N n).length:=by
 unfold chs;rw[Gp_,List.length_range];rw[<-aIQ hn] at h;omega
variable{v:Array Value}
theorem aHJ {g n:Nat}(hn:1<=n)(h:v∈chs g off N n):∃k,k*n<N/\v=#[chV g off N n k]:=by
 unfold chs at h;obtain⟨k,hk,rfl⟩:=List.mem_map.1 h;exact⟨k,(aIQ hn).1 (List.mem_range.1 hk),rfl⟩
theorem aS3 {g n k:Nat}(hn:1<=n)(h:(chs g off N n)[k]?=some v):k*n<N/\v=#[chV g off N n k]:=by
 have hk:=(List.getElem?_eq_some_iff.1 h).1;unfold chs at hk;rw[Gp_,List.length_range] at hk;have h2:=(aIQ hn).1 hk;rw[aS4 hn h2] at h;exact⟨h2,(Gh_ h).symm⟩
set_option maxRecDepth 100000 in
set_option maxHeartbeats 4000000 in
theorem aEr {g cap n c1 c2:Nat}(hn:1<=n)(hcap:N<=cap)(hN:N<=10000000)(hn2:n<=10000000):aKv Tryz.prog 235 #[vP c1 0,vP c2 0] (chs g off N n) (λW=>W.heap[c1]?=some (.cells #[.slice (some ⟨g,off,none⟩) N cap] 159 (0,0))/\W.heap[c2]?=some (.cells #[.int .i64 (n:Int)] 3 (0,0))):=by
 intro l J w hJF hKp hround hJ;obtain⟨hc1,hc2⟩:=hKp _ _ hJ;refine aDg Tryz.func235 rfl rfl (n:=31) dE λa E=>s_ (r_ (ep (v := .int .i64 0) E rfl (a_ rfl rfl) λa E=>n_ (t_ (bk_ (wp_loop (λa w2=>∃(k:Nat),Env 31 [(0,.func (.yield l) #[] #[]),(1,vP c1 0),(2,vP c2 0),(4,.int .i64 ((k*n:Nat):Int))] a/\k<=(N+n-1) / n/\J k w2/\w2.heap[c1]?=some (.cells #[.slice (some ⟨g,off,none⟩) N cap] 159 (0,0))/\w2.heap[c2]?=some (.cells #[.int .i64 (n:Int)] 3 (0,0))) (λa _=>N-(intOf (a.eval (.tmp 4))).toNat) ?_ ?_)))))
 ·exact⟨0,E.of ⟨E.g1,E.g2,E.g3,by rw[Nat.zero_mul];exact E.g0,trivial⟩,Gg_ _,hJ,hc1,hc2⟩
 clear E;rintro a w2 ⟨k,E,hk,hJ,hc1,hc2⟩;have hmu:N-(intOf (a.eval (.tmp 4))).toNat=N-k*n:=by rw[E.g3];first|(simp[intOf];done)|(simp only[intOf];omega)
 rw[hmu];clear hmu;refine s_ (s_ (r_ (ep E rfl (m_ rfl E.g3) λa E=>ep (v := .slice (some ⟨g,off,none⟩) N cap) E rfl (aBa rfl E.g2 (bx hc1 0 rfl)) λa E=>ep (v := .int .i64 (N:Int)) E rfl (aBz rfl E.g0) λa E=>ep (v := .bool (decide (((k*n:Nat):Int)<(N:Int)))) E rfl (aBn E.g2 E.g0 u3_ rfl) λa E=>n_ (t_ ?_))));cases hq32:(decide (((k*n:Nat):Int)<(N:Int)))
 ·rw[hq32] at E;have hge:¬k*n<N:=by have:=of_decide_eq_false hq32;omega
  refine c_f E.g0 (x_ (te_ (te_ (be_ ((aCe rfl E ⟨⟨_,rfl⟩,?_⟩).1)))));rw[<-aUm (g:=g) (off:=off) hn hk hge];exact hJ
 rw[hq32] at E;have hlt:k*n<N:=by have:=of_decide_eq_true hq32;omega
 refine c_t E.g0 (k_ (t_ (s_ (bk_ (s_ (aBE (n:=31) (base:=[(9,.bool true),(8,.int .i64 (N:Int)),(7,.slice (some ⟨g,off,none⟩) N cap),(6,.int .i64 ((k*n:Nat):Int)),(0,.func (.yield l) #[] #[]),(1,vP c1 0),(2,vP c2 0),(4,.int .i64 ((k*n:Nat):Int))]) (T:=[some (13,.int .i64 (n:Int)),some (14,.slice (some ⟨g,off,none⟩) N cap),some (15,.int .i64 ((k*n:Nat):Int)),some (16,.slice (some ⟨g,off+k*n,none⟩) (N-k*n) (cap-k*n)),some (17,.int .i64 (((N-k*n):Nat):Int)),some (18,.int .i64 (min (n:Int) (((N-k*n):Nat):Int))),some (5,.int .i64 (min (n:Int) (((N-k*n):Nat):Int)))]) (M:=λ_ wm=>Fr nF_ w2 wm) kR kR kR (E.of ⟨E.g0,E.g1,E.g2,E.g3,E.g4,E.g5,E.g6,E.g7,trivial⟩) (Fr.refl _ _).drew ?_ ?_))))))
 ·intro j9 o9 t9 ls9 a w5 ho hT0 hl E D DL hM;have hJ:=hJF _ _ _ hJ hM;have hc1:=hM.obj hc1 id;have hc2:=hM.obj hc2 id
  match j9,ho,hT0,hl,D,DL with
  | 0,ho,hT0,hl,D,DL=>exact y9_ ho hT0 (aAe (aAo rfl E.g6 (bx hc2 0 rfl)) rfl hM)
  | 1,ho,hT0,hl,D,DL=>exact y9_ ho hT0 (aAe (aBa rfl E.g5 (bx hc1 0 rfl)) rfl hM)
  | 2,ho,hT0,hl,D,DL=>exact y9_ ho hT0 (aAe (m_ rfl E.g7) rfl hM)
  | 3,ho,hT0,hl,D,DL=>exact y9_ ho hT0 (aAe (aNo (i:=k*n) rfl (D 1 _ rfl rfl) (D 2 _ rfl rfl) hlt hcap) rfl hM)
  | 4,ho,hT0,hl,D,DL=>exact y9_ ho hT0 (aAe (aBz rfl (D 3 _ rfl rfl)) rfl hM)
  | 5,ho,hT0,hl,D,DL=>exact y9_ ho hT0 (aAe (aJv rfl (D 0 _ rfl rfl) (D 4 _ rfl rfl)) rfl hM)
  | 6,ho,hT0,hl,D,DL=>exact y9_ ho hT0 (aAe (a_ rfl (D 5 _ rfl rfl)) rfl hM)
  | j9+7,ho,hT0,hl,D,DL=>exact absurd hT0 sI
 ·intro a w5 E V hM;have E:=E.add (V 6 _ rfl);clear V;have hJ:=hJF _ _ _ hJ hM;have hc1:=hM.obj hc1 id;have hc2:=hM.obj hc2 id;clear hM;refine t_ (s_ ?_);rw[show(min (n:Int) (((N-k*n):Nat):Int))=((min n (N-k*n):Nat):Int) by omega] at E;have hb4:k*n+min n (N-k*n)<=N:=by omega
  refine aKe (aBH (d:=19) (v := .func (.yield l) #[] #[]) E rfl dE rfl (aAb rfl _) (m_ rfl E.g5) λa E=>aBH (d:=20) (v := .slice (some ⟨g,off,none⟩) N cap) E rfl dE rfl (aAb rfl _) (aBa rfl E.g7 (bx hc1 0 rfl)) λa E=>aBH (d:=21) (v := .int .i64 ((k*n:Nat):Int)) E rfl dE rfl (aAb rfl _) (m_ rfl E.g10) λa E=>aBH (d:=22) (v := .int .i64 ((k*n:Nat):Int)) E rfl dE rfl (aAb rfl _) (m_ rfl E.g11) λa E=>aBH (d:=23) (v := .int .i64 ((min n (N-k*n):Nat):Int)) E rfl dE rfl (aAb rfl _) (m_ rfl E.g4) λa E=>aBH (d:=24) (v := .int .i64 (((k*n:Nat):Int)+((min n (N-k*n):Nat):Int))) E rfl dE rfl (aAb rfl _) (aAQ u3_ E.g1 E.g0 oM oM rfl) λa E=>aBH (d:=25) (v := .int .i64 ((k*n:Nat):Int)) E rfl dE rfl (aAb rfl _) (m_ rfl (E.get 14 rfl)) λa E=>aBH (d:=26) (v := .int .i64 ((min n (N-k*n):Nat):Int)) E rfl dE rfl (aAb rfl _) (m_ rfl E.g7) λa E=>aBH (d:=27) (v := .int .i64 (((k*n:Nat):Int)+((min n (N-k*n):Nat):Int))) E rfl dE rfl (aAb rfl _) (aAQ u3_ E.g1 E.g0 oM oM rfl) λa E=>?_);have hj:k*n+(min n (N-k*n))-k*n=min n (N-k*n):=by omega
  refine aBH (d:=28) (v:=chV g off N n k) E rfl dE rfl (aAb rfl _) ((aNn (i:=k*n) (j:=k*n+(min n (N-k*n))) rfl E.g7 E.g6 E.g3 E.g0 rfl oM oM oM oM).trans (by rw[hj];rfl)) λa E=>aKd (d:=29) E rfl dE rfl (aAb rfl _) rfl E.g9 E.g0 (hround k _ _ hJ (aS4 hn hlt)) λa w1 hJ E=>?_;obtain⟨hc1,hc2⟩:=hKp _ _ hJ;refine aBH (d:=30) (v := .bool false) E rfl dE rfl (aAb rfl _) (aBM rfl E.g0) λa E=>aRw (t_ (c_f E.g0 (k_ (b_ (t_ (r_ (ep (v := .int .i64 ((k*n:Nat):Int)) E rfl (m_ rfl (E.get 20 rfl)) λa E=>ep (v := .int .i64 (n:Int)) E rfl (aAo rfl (E.get 20 rfl) (bx hc2 0 rfl)) λa E=>ep (v := .int .i64 (((k*n:Nat):Int)+(n:Int))) E rfl (aAQ u3_ E.g1 E.g0 oM oM rfl) λa E=>es_ E rfl (a_ rfl E.g0) λa E=>n_ (t_ ?_))))))));rw[show(((k*n:Nat):Int)+(n:Int))=(((k+1)*n:Nat):Int) by rw[Nat.succ_mul];omega] at E;refine⟨⟨k+1,E.of ⟨E.get 21 rfl,E.get 22 rfl,E.get 23 rfl,E.g0,trivial⟩,(aIQ hn).2 hlt,hJ,hc1,hc2⟩,?_⟩;rw[E.g0];simp only[intOf];have:(k+1)*n=k*n+n:=(by rw[Nat.add_mul,Nat.one_mul]);omega
end Go.Proofs.YtngjlnhojicjeaaGreatDoor
namespace Go.Proofs
open Go.Shelf
def Tryz.sortN_ren:Go.Shelf.Ren:=⟨λ| 6=>194|15=>152|14=>233|28=>210|29=>211|20=>259|21=>260|22=>261|23=>262|24=>263|25=>264|26=>265|27=>266|46=>277|47=>237|48=>238|49=>278|50=>279|57=>291|n=>n,λ| 22=>159|24=>157|25=>286|3=>3|39=>139|0=>0|53=>301|55=>164|4=>4|46=>294|45=>293|50=>77|5=>5|9=>9|66=>334|70=>338|76=>375|77=>376|n=>n,λ| n=>n⟩
theorem Tryz.sortN:Go.Proofs.SlLaysF.n6 Tryz.prog Tryz.sortN_ren:={
  mixed:=by kernel_rfl
  f6:=⟨Tryz.f194.name,by decide,Tryz.func194.trans (congrArg some (by kernel_rfl))⟩
  f14:=⟨Tryz.f233.name,by decide,Tryz.func233.trans (congrArg some (by kernel_rfl))⟩
  f15:=Tryz.func152.trans (congrArg some (by kernel_rfl))
  f20:=⟨Tryz.f259.name,by decide,Tryz.func259.trans (congrArg some (by kernel_rfl))⟩
  f21:=⟨Tryz.f260.name,by decide,Tryz.func260.trans (congrArg some (by kernel_rfl))⟩
  f22:=⟨Tryz.f261.name,by decide,Tryz.func261.trans (congrArg some (by kernel_rfl))⟩
  f23:=⟨Tryz.f262.name,by decide,Tryz.func262.trans (congrArg some (by kernel_rfl))⟩
  f24:=⟨Tryz.f263.name,by decide,Tryz.func263.trans (congrArg some (by kernel_rfl))⟩
  f25:=⟨Tryz.f264.name,by decide,Tryz.func264.trans (congrArg some (by kernel_rfl))⟩
  f26:=⟨Tryz.f265.name,by decide,Tryz.func265.trans (congrArg some (by kernel_rfl))⟩
  f27:=⟨Tryz.f266.name,by decide,Tryz.func266.trans (congrArg some (by kernel_rfl))⟩
  f28:=Tryz.func210.trans (congrArg some (by kernel_rfl))
  f29:=Tryz.func211.trans (congrArg some (by kernel_rfl))
  f46:=⟨Tryz.f277.name,by decide,Tryz.func277.trans (congrArg some (by kernel_rfl))⟩
  f47:=Tryz.func237.trans (congrArg some (by kernel_rfl))
  f48:=Tryz.func238.trans (congrArg some (by kernel_rfl))
  f49:=⟨Tryz.f278.name,by decide,Tryz.func278.trans (congrArg some (by kernel_rfl))⟩
  f50:=⟨Tryz.f279.name,by decide,Tryz.func279.trans (congrArg some (by kernel_rfl))⟩
  f57:=⟨Tryz.f291.name,by decide,Tryz.func291.trans (congrArg some (by kernel_rfl))⟩
  t0:=Tryz.underlying0
  a0:=Tryz.isAgg0
  z0:=Tryz.sizeOf0
  v0:=Tryz.zeroValue0
  t3:=Tryz.underlying3
  a3:=Tryz.isAgg3
  z3:=Tryz.sizeOf3
  v3:=Tryz.zeroValue3
  t4:=Tryz.underlying4
  a4:=Tryz.isAgg4
  z4:=Tryz.sizeOf4
  v4:=Tryz.zeroValue4
  t5:=Tryz.underlying5
  a5:=Tryz.isAgg5
  z5:=Tryz.sizeOf5
  v5:=Tryz.zeroValue5
  t9:=Tryz.underlying9
  a9:=Tryz.isAgg9
  z9:=Tryz.sizeOf9
  v9:=Tryz.zeroValue9
  t22:=Tryz.underlying159
  a22:=Tryz.isAgg159
  z22:=Tryz.sizeOf159
  v22:=Tryz.zeroValue159
  a24:=Tryz.isAgg157
  z24:=Tryz.sizeOf157
  t25:=Tryz.underlying286
  a25:=Tryz.isAgg286
  z25:=Tryz.sizeOf286
  v25:=Tryz.zeroValue286
  t39:=Tryz.underlying139
  a39:=Tryz.isAgg139
  z39:=Tryz.sizeOf139
  v39:=Tryz.zeroValue139
  t45:=Tryz.underlying293
  a45:=Tryz.isAgg293
  z45:=Tryz.sizeOf293
  v45:=Tryz.zeroValue293
  t46:=Tryz.underlying294
  a46:=Tryz.isAgg294
  z46:=Tryz.sizeOf294
  v46:=Tryz.zeroValue294
  t50:=Tryz.underlying77
  a50:=Tryz.isAgg77
  z50:=Tryz.sizeOf77
  v50:=Tryz.zeroValue77
  t53:=Tryz.underlying301
  a53:=Tryz.isAgg301
  z53:=Tryz.sizeOf301
  v53:=Tryz.zeroValue301
  t55:=Tryz.underlying164
  a55:=Tryz.isAgg164
  z55:=Tryz.sizeOf164
  v55:=Tryz.zeroValue164
  t66:=Tryz.underlying334
  a66:=Tryz.isAgg334
  z66:=Tryz.sizeOf334
  v66:=Tryz.zeroValue334
  t70:=Tryz.underlying338
  a70:=Tryz.isAgg338
  z70:=Tryz.sizeOf338
  v70:=Tryz.zeroValue338
  t76:=Tryz.underlying375
  a76:=Tryz.isAgg375
  z76:=Tryz.sizeOf375
  v76:=Tryz.zeroValue375
  t77:=Tryz.underlying376
  a77:=Tryz.isAgg376
  z77:=Tryz.sizeOf376
  v77:=Tryz.zeroValue376 }
end Go.Proofs
namespace Go.Proofs.YtngjlnhojicjeaaGreatDoor
open Go.RowKit Go.Pl Go.Sort Go.Shelf
abbrev Nd:=Nat×Bx×List En
abbrev ndV (c:Nd):Value := vP c.1 0
abbrev aT8 (c:Nd):List Value:=[ndV c]
theorem aEC:∀c,(aT8 c).length=1:=λ_=>rfl
abbrev oNd (w:World)(B:Nat)(v:Value)(L:List Nd):Prop:=ow aT8 1 157 w B v L
def aCX (w:World)(S:Nat->Prop)(h:Nat)(C:List Nd):Prop:=∀c∈C,aHV w S h c.1 c.2.1 c.2.2
variable{w:World}{h:Nat}{S:Nat->Prop}{C:List Nd}
theorem aCX.fr {w':World}{F:Nat->Prop}(hN:aCX w S h C)(hf:Fr F w w')(hS:∀k,S k->¬F k):aCX w' S h C:=λc hc=>(hN c hc).fr hf hS
theorem aCX.mono {S':Nat->Prop}(hN:aCX w S h C)(hS:∀k,S k->S' k):aCX w S' h C:=λc hc=>(hN c hc).mono hS
variable{D:List Nd}
theorem aCX.perm (hN:aCX w S h C)(hp:D.Perm C):aCX w S h D:=λc hc=>hN c (hp.mem_iff.1 hc)
theorem aCX.sub (hN:aCX w S h C)(hp:∀c∈D,c∈C):aCX w S h D:=λc hc=>hN c (hp c hc)
theorem aHV.nb :∀{n p b L},aHV w S n p b L->nb w p b:=by
 intro n
 cases n with
 | zero =>
  rintro p b L ⟨_,id,h,_⟩ j u hu;rw[aAj h,Nat.zero_add]
  match j,hu with
  | 0,hu=>exact hu
  | 1,hu=>exact hu
  | 2,hu=>exact hu
  | 3,hu=>exact hu
  | j+4,hu=>simp at hu
 | succ n =>
  rintro p b L ⟨_,g,off,cap,C,h,_⟩ j u hu;rw[aAj h,Nat.zero_add]
  match j,hu with
  | 0,hu=>exact hu
  | 1,hu=>exact hu
  | 2,hu=>exact hu
  | 3,hu=>exact hu
  | j+4,hu=>simp at hu
def aGn (cur:Array Value)(m:Nat)(L:List Nd):Prop:=∀(j:Nat) c,L[j]?=some c->cur[m+j]?=some (ndV c)
variable{α:Type}{cur:Array Value}
section
variable[Inhabited α]
theorem aMX (enc:α->Value){g:Nat}{T:TypeId}(hb:w.heap[g]?=some (.cells cur T (0,0)))(off m:Nat)(dk:Array α)(os:Array Obj) :
  (sortWorld enc w g off m dk os).heap[g]?=some (.cells (putCells enc off dk cur) T (0,0))/\Fr (λk=>k=g) w (sortWorld enc w g off m dk os):=by
 have hlt:=aAf hb
 have hsize:(mapBlock (Sort.ahead w m) g (putCells enc off dk)).heap.size=w.heap.size:=by
  unfold mapBlock Sort.ahead;simp
 constructor
 ·unfold sortWorld putRow grow;simp only;rw[Array.getElem?_append_left (by rw[hsize];exact hlt)];unfold mapBlock;simp only[Array.getElem?_modify,if_true];show Option.map _ w.heap[g]?=_;rw[hb];rfl
 ·unfold sortWorld putRow grow;refine⟨rfl,rfl,rfl,?_,λr hr hne=>?_⟩
  ·simp only[Array.size_append];rw[hsize];omega
  ·simp only;rw[Array.getElem?_append_left (by rw[hsize];exact hr)];unfold mapBlock;simp only[Array.getElem?_modify];rw[if_neg (λe=>hne e.symm)];rfl
end
theorem aTu (x y:Int):orI x y<0↔x<0\/(x=0/\y<0):=by unfold orI;split<;>omega
theorem aIN (x y:Int):aCb x y<0↔x<y:=by unfold aCb;split<;>(try split)<;>omega
theorem aOU (x y:Int):aCb x y=0↔x=y:=by unfold aCb;split<;>(try split)<;>omega
theorem aPe (x y:Bx):cfB x y<0↔x.1.2+x.2.2<y.1.2+y.2.2:=aIN _ _
theorem aUn (x y:Bx):cfA x y<0↔x.1.1+x.2.1<y.1.1+y.2.1\/x.1.1+x.2.1=y.1.1+y.2.1/\x.1.2+x.2.2<y.1.2+y.2.2:=by
 unfold cfA;rw[aTu,aIN,aOU,aPe]
theorem aZl (k:α->Bx):SWO (ltOf λx y=>cfA (k x) (k y)) :=
 aRO (λx=>(k x).1.1+(k x).2.1) (λx=>(k x).1.2+(k x).2.2) λx y=>by unfold ltOf;rw[decide_eq_true_iff,aUn]
theorem aZk (k:α->Bx):SWO (ltOf λx y=>cfB (k x) (k y)) :=
 aRO (λx=>(k x).1.2+(k x).2.2) (λ_=>0) λx y=>by unfold ltOf;rw[decide_eq_true_iff,aPe];omega
def aWI (w:World)(g off:Nat)(cur:Array Value)(D:List Nd)(e:Ending)(w':World):Prop :=
 e=.returned (.tuple #[])/\∃D' cur',D'.Perm D/\w'.heap[g]?=some (.cells cur' 157 (0,0))/\cur'.size=cur.size/\aGn cur' off D'/\(∀i,i<off\/off+D.length<=i->cur'[i]?=cur[i]?)/\Fr (λk=>k=g) w w'
variable{off:Nat}
theorem aF8 {F:Nat}(cf:Bx->Bx->Int)(eg:∀args w,(callFunc F args).run Tryz.prog w=.ok (.enter F args) w)(hO:∀(α:Type)(k:α->Bx),SWO (ltOf λx y=>cf (k x) (k y)))
  (hcmp:∀{p q:Nat}{x y:Bx}{w:World},nb w p x->nb w q y->okB x->okB y->Calls Tryz.prog F #[vP p 0,vP q 0] w λe w'=>e=.returned (.int .i64 (cf x y))/\Gw w w')
  {g cap:Nat}(hne:D≠[]) (hb:w.heap[g]?=some (.cells cur 157 (0,0))) (hd:aGn cur off D) (hD:∀c∈D,nb w c.1 c.2.1/\okB c.2.1/\c.1≠g) (hl:D.length<=10000000) :
  Calls Tryz.prog 194 #[.slice (some ⟨g,off,none⟩) D.length cap,.func (.func F) #[] #[]] w (aWI w g off cur D):=by
 let α:={ c:Nd // nb w c.1 c.2.1/\okB c.2.1/\c.1≠g }
 have i0:Inhabited α:=⟨⟨D.head hne,hD _ (List.head_mem hne)⟩⟩
 let d:List α:=D.attach.map λx=>⟨x.1,hD x.1 x.2⟩
 have hdl:d.length=D.length:=by simp[d]
 have hdm:d.map (·.1)=D:=by simp[d,List.map_attach_eq_pmap,List.map_pmap]
 have hget:∀j,j<D.length->D[j]?=some (d.toArray[j]!).1:=by
  intro j hj;rw[<-hdm,Gr_];have h1:j<d.length:=by omega
  rw[Gb_ h1,getElem!_pos d.toArray j (by simpa using h1)];simp
 have hsz:d.toArray.size=D.length:=by simpa using hdl
 have:=Any.slices_SortFunc Tryz.sortN (λc:α=>ndV c.1) (λ_=>rfl) (λx y=>cf x.1.2.1 y.1.2.1) (hO α λx=>x.1.2.1) F #[] g off cap d.toArray w eg
  (λm os dk hs x y=>by
   have hf:=(aMX (λc:α=>ndV c.1) hb off m dk os).2;exact(hcmp (x.2.1.fr hf x.2.2.2) (y.2.1.fr hf y.2.2.2) x.2.2.1 y.2.2.1).mono λe w' h=>⟨h.1,h.2⟩)
  (λj hj=>by
   rw[hsz] at hj;refine⟨?_,aAm hb _⟩;rw[aAj hb,hd j _ (hget j hj)])
  (aAf hb) (by rw[hsz];omega)
 rw[hsz] at this;refine Calls.mono this ?_;rintro e w' ⟨he,d',m,os,hp,_,rfl⟩;rw[<-hsz] at hp;have hp':=aQ4 hp;obtain⟨h1,h2⟩:=aMX (λc:α=>ndV c.1) hb off m d' os;have hd's:d'.size=D.length:=hp.1.trans hsz;refine⟨he,d'.toList.map (·.1),_,?_,h1,?_,?_,?_,h2⟩
 ·have:=hp'.map (λx:α=>x.1);simpa[hdm] using this
 ·unfold putCells;simp
 ·intro j c hc;rw[Gr_] at hc
  have hj:j<d'.size:=by
   cases hx:d'.toList[j]? with
   | none=>rw[hx] at hc;cases hc
   | some x=>simpa using(List.getElem?_eq_some_iff.1 hx).1
  have hjD:j<D.length:=by omega
  have hin:off+j<cur.size:=by
   have:=hd j _ (hget j hjD);exact(Array.getElem?_eq_some_iff.1 this).1
  unfold putCells;rw[Array.getElem?_mapIdx,Array.getElem?_eq_getElem hin];simp only[Option.map_some];rw[if_pos ⟨by omega,by omega⟩,show off+j-off=j by omega,getElem!_pos d' j hj];rw[Array.getElem?_toList,Array.getElem?_eq_getElem hj] at hc;simp only[Option.map_some,Gk_] at hc;rw[hc]
 ·intro i hi;unfold putCells;rw[Array.getElem?_mapIdx]
  cases cur[i]? with
  | none=>rfl
  | some y =>
   simp only[Option.map_some];rw[if_neg oM]
theorem aJq {g cap:Nat}(hne:D≠[])(hb:w.heap[g]?=some (.cells cur 157 (0,0)))(hd:aGn cur off D)(hD:∀c∈D,nb w c.1 c.2.1/\okB c.2.1/\c.1≠g)(hl:D.length<=10000000) :
  Calls Tryz.prog 194 #[.slice (some ⟨g,off,none⟩) D.length cap,.func (.func 195) #[] #[]] w (aWI w g off cur D) :=
 aF8 cfA (enters_of Tryz.func195 kR rfl) (λ_ k=>aZl k) aM4 hne hb hd hD hl
theorem aJp {g cap:Nat}(hne:D≠[])(hb:w.heap[g]?=some (.cells cur 157 (0,0)))(hd:aGn cur off D)(hD:∀c∈D,nb w c.1 c.2.1/\okB c.2.1/\c.1≠g)(hl:D.length<=10000000) :
  Calls Tryz.prog 194 #[.slice (some ⟨g,off,none⟩) D.length cap,.func (.func 198) #[] #[]] w (aWI w g off cur D) :=
 aF8 cfB (enters_of Tryz.func198 kR rfl) (λ_ k=>aZk k) aM3 hne hb hd hD hl
theorem aWf:(Tryz.prog.info? 157).map (λi=>(i.zero,i.size,i.bytes))=some (some (.pointer none),1,8):=by kernel_rfl
variable{S:List Nd}
section
variable{O:Array Oper}{Q:Exit->Act->World->Prop}{rest:List Oper}{o:Oper}{a:Act}{n d:Nat}{L:List (Nat×Value)}{x y:Operand}{ds:List Deferred}{ρ:Operand->Value}
theorem aN0 (ho:o.op=.buildSlice 159 0 #[]):(execOp ρ o).run Tryz.prog w=.ok (.value (.slice (some ⟨w.heap.size,0,none⟩) 0 0)) (w.alloc (.cells #[] 157)):=by
 simp[execOp,ho,go_sem]
theorem aNt {c:Nd}(ho:o.op=.buildSlice 159 1 #[(0,x)])(hx:ρ x=ndV c):(execOp ρ o).run Tryz.prog w=.ok (.value (.slice (some ⟨w.heap.size,0,none⟩) 1 1)) (w.alloc (.cells #[ndV c] 157)):=by
 simp[execOp,ho,hx,go_sem]
theorem aGf {B G:Nat}{v:Value}{A:List Nd}{p:Option Addr}{cap:Nat}(En:EnvD ds n L a)(hd:o.dst=some d)(hn:d<n)(hfr:(L.map (·.1)).contains d=false)(hg:o.guard=none)(ho:o.op=.call { callee := .builtin .append,args:=#[x,y],argTypes:=#[159,159] })(hx:a.eval x=v)(hv:oNd w B v A)(hy:a.eval y=.slice p S.length cap)(hsrc:aBh aT8 1 w G p S)(hcp:p=none->cap=0)(hl:A.length+S.length<=400000000)(hB:B<=w.heap.size)
  (k:∀a' w' v',oNd w' B v' (A++S)->Fr (λk=>v.ownBlock=some k) w w'->(v'.ownBlock=v.ownBlock\/v'.ownBlock=some w.heap.size)->EnvD ds n ((d,v')::L) a'->wpList Tryz.prog O Q rest a' w'):wpList Tryz.prog O Q (o::rest) a w:=by
 obtain⟨i0,hi0,hz0,hz1,hz2⟩:=aEE aWf;exact aLt aEC oM (λs u hu=>by simp at hu;subst hu;rfl) u159_ hi0 hz0 hz1 hz2 rfl dE En hd hn hfr hg ho hx hv hy hsrc hcp hl hB k
theorem aOJ {B:Nat}(En:EnvD ds n L a)(hd:o.dst=some d)(hn:d<n)(hf:(L.map (·.1)).contains d=false)(hw:Region.wanted o (yielded O a.tmps)=true)(ho:o.op=.buildSlice 159 0 #[])(hB:B<=w.heap.size)
  (k:∀a' w' b,w.heap.size=b->oNd w' B (.slice (some ⟨b,0,none⟩) 0 0) []->Fr nF_ w w'->EnvD ds n ((d,.slice (some ⟨b,0,none⟩) 0 0)::L) a'->wpList Tryz.prog O Q rest a' w'):wpList Tryz.prog O Q (o::rest) a w :=
 aB8 En hd hn hf hw (aN0 ho) λa' E'=>k a' _ _ rfl (aQ6 w hB) ((Fr.refl _ _).alloc _) E'
theorem aNc {b G:Nat}{c:Nd}(hb:w.heap[b]?=some (.cells #[ndV c] 157 (0,0)))(hG:b<G):aBh aT8 1 w G (some ⟨b,0,none⟩) [c]:=aCu hb hG
theorem aID {c:Nd}(En:EnvD ds n L a)(hd:o.dst=some d)(hn:d<n)(hf:(L.map (·.1)).contains d=false)(hw:Region.wanted o (yielded O a.tmps)=true)(ho:o.op=.buildSlice 159 1 #[(0,x)])(hx:a.eval x=ndV c)
  (k:∀a' w' b,aBh aT8 1 w' w'.heap.size (some ⟨b,0,none⟩) [c]->Fr nF_ w w'->EnvD ds n ((d,.slice (some ⟨b,0,none⟩) 1 1)::L) a'->wpList Tryz.prog O Q rest a' w'):wpList Tryz.prog O Q (o::rest) a w :=
 aB8 En hd hn hf hw (aNt ho hx) λa' E'=>k a' _ _ (aNc (aAl _ _) sI) ((Fr.refl _ _).alloc _) E'
end
def aYW (w:World)(g off N cap n:Nat)(e:Ending)(w':World):Prop :=
 ∃c1 c2,e=.returned (.func (.func 235) #[] #[vP c1 0,vP c2 0])/\w'.heap[c1]?=some (.cells #[.slice (some ⟨g,off,none⟩) N cap] 159 (0,0))/\w'.heap[c2]?=some (.cells #[.int .i64 (n:Int)] 3 (0,0))/\Fr nF_ w w'/\w.heap.size<=c1/\w.heap.size<=c2
theorem aGk (g off N cap n:Nat)(w:World)(hn:1<=n):Calls Tryz.prog 197 #[.slice (some ⟨g,off,none⟩) N cap,.int .i64 (n:Int)] w (aYW w g off N cap n):=by
 have hfin:Hid (aYW w g off N cap n (.returned (.func (.func 235) #[] #[vP w.heap.size 0,.pointer (some ⟨w.heap.size+1,0,none⟩)])) ((w.alloc (.cells #[.slice (some ⟨g,off,none⟩) N cap] 159)).alloc (.cells #[.int .i64 (n:Int)] 3))) :=
  ⟨_,_,rfl,(aBJ sI _).trans (aAl _ _),aC7 sI _,((Fr.refl _ _).alloc _).alloc _,Gj_ _,by simp⟩
 have t1:decide ((n:Int)<1)=false:=decide_eq_false oM;clear hn
 go_enter Tryz.func197,Tryz.ntmps197
 go_wp2
 go_ret
 exact hfin.out
set_option maxRecDepth 100000 in
set_option maxHeartbeats 4000000 in
theorem aKk {G cap:Nat}{ad:Addr}(hs:aBh aT8 1 w G (some ad) S)(hl:S.length<=1000000):Calls Tryz.prog 199 #[.slice (some ad) S.length cap] w λe w'=>∃v',e=.returned v'/\oNd w' w.heap.size v' S/\Fr nF_ w w':=by
 refine aBV Tryz.func199 rfl rfl (n:=8) dE λa E=>?_;have hf:Fr nF_ w w:=Fr.refl _ _;refine s_ (r_ (ep (v := .slice none 0 0) E rfl (a_ rfl rfl) λa E=>n_ (t_ (s_ (s_ (r_ (ep E rfl (m_ rfl E.g1) λa E=>ep (v := .bool false) E rfl (aIo rfl E.g0 rfl) λa E=>n_ (t_ (c_f E.g0 (k_ (t_ (s_ (r_ (aOJ (B:=w.heap.size) (d:=5) E rfl dE rfl (aAb rfl _) rfl hf.size λa w1 b1 eb1 hO f1 E=>?_))))))))))))));have hs:=hs.fr f1 (λ_ _ h=>h);have hf:=hf.trans f1;clear f1;refine ep E rfl (m_ rfl E.g4) λa E=>aGf (B:=w.heap.size) (d:=7) E rfl dE rfl rfl rfl E.g1 hO E.g0 hs (λh=>by cases h) (by simp;omega) hf.size λa w1 v2 hO2 f1 hloc E=>?_;have hf:=hf.trans' f1 (λr hr e=>by have:=(hO.lt e).1;omega);refine es_ E rfl (a_ rfl E.g0) λa E=>n_ (t_ (wr_ (aAs (t:=2) rfl E E.g0 ⟨_,rfl,hO2,hf⟩)))
end Go.Proofs.YtngjlnhojicjeaaGreatDoor
namespace Go.Pl
open Go.RowKit
variable{P:Program}{w w':World}{ds:List Deferred}
end Go.Pl
namespace Go.Proofs.YtngjlnhojicjeaaGreatDoor
open Go.RowKit Go.Pl
abbrev aCC (C:List Nd):List En:=C.flatMap (·.2.2)
variable{B:Nat}{w:World}{v:Value}{C:List Nd}
theorem aIx (h:oNd w B v C)(hne:C≠[]):∃g cap cur,v=.slice (some ⟨g,0,none⟩) C.length cap/\w.heap[g]?=some (.cells cur 157 (0,0))/\C.length<=cap/\aGn cur 0 C/\B<=g:=by
 rcases h.2 with⟨h1,h2⟩|⟨g,cap,cur,h1,hB,h3,h4,h5,h6,h7⟩
 ·exact absurd (List.eq_nil_of_length_eq_zero h2) hne
 ·refine⟨g,cap,cur,h1,h3,h4,λj c hc=>?_,hB⟩;have hi:=(List.getElem?_eq_some_iff.1 hc).1;have:=aBR aEC C j c hc 0 oM;rw[<-h7] at this;simp only[Nat.mul_one,Nat.add_zero] at this;rw[List.getElem?_take_of_lt hi,Array.getElem?_toList] at this;rw[Nat.zero_add];exact this
variable{N:Nat}
theorem aKU {cap:Nat}{p:Option Addr}(hl:C.length=N)(h:oNd w B (.slice p N cap) C)(hne:0<N):∃g cur,p=some ⟨g,0,none⟩/\w.heap[g]?=some (.cells cur 157 (0,0))/\C.length<=cap/\aGn cur 0 C/\B<=g:=by
 obtain⟨g,cap2,cur,h1,h2,h3,h4,h5⟩:=aIx h (by rintro rfl;simp at hl;omega);simp only[Value.slice.injEq] at h1;obtain⟨rfl,_,rfl⟩:=h1;exact⟨g,cur,rfl,h2,h3,h4,h5⟩
theorem aWA {a b:Bx}(ha:okB a)(hb:okB b):okB (arB a b):=by
 obtain⟨⟨⟨x1,x2⟩,x3,x4⟩,⟨⟨x5,x6⟩,x7,x8⟩,x9,x10⟩:=ha;obtain⟨⟨⟨y1,y2⟩,y3,y4⟩,⟨⟨y5,y6⟩,y7,y8⟩,y9,y10⟩:=hb;unfold arB;refine⟨⟨⟨?_,?_⟩,?_,?_⟩,⟨⟨?_,?_⟩,?_,?_⟩,?_,?_⟩<;>simp only<;>omega
theorem aU5 {x a b:Bx}(h:aGs x a):aGs x (arB a b):=by unfold aGs arB at *;simp only;omega
theorem aU4 {x a b:Bx}(h:aGs x b):aGs x (arB a b):=by unfold aGs arB at *;simp only;omega
def aG1 (b:Bx)(L:List Nd):Bx:=L.foldl (λb c=>arB b c.2.1) b
theorem aP2 (b:Bx)(L:List Nd)(c:Nd):aG1 b (L++[c])=arB (aG1 b L) c.2.1:=by simp[aG1]
theorem aP1 {b:Bx}{L:List Nd}{i:Nat}{c:Nd}(h:L[i]?=some c):aG1 b (L.take (i+1))=arB (aG1 b (L.take i)) c.2.1:=by
 rw[List.take_add_one,h];exact aP2 _ _ _
theorem aP3:∀(L:List Nd)(b:Bx),okB b->(∀c∈L,okB c.2.1)->okB (aG1 b L)
 | [],b,hb,_=>hb
 | c::L,b,hb,h=>aP3 L _ (aWA hb (h c sI)) λd hd=>h d (by simp[hd])
theorem aL3:∀(L:List Nd)(b x:Bx),aGs x b->aGs x (aG1 b L)
 | [],b,x,h=>h
 | c::L,b,x,h=>aL3 L _ x (aU5 h)
theorem aP4:∀(L:List Nd)(b x:Bx),(∃c∈L,aGs x c.2.1)->aGs x (aG1 b L)
 | [],b,x,⟨c,hc,_⟩=>by cases hc
 | c::L,b,x,⟨d,hd,hx⟩=>by
  rcases List.mem_cons.1 hd with rfl|hd
  ·exact aL3 L _ x (aU4 hx)
  ·exact aP4 L _ x ⟨d,hd,hx⟩
variable{S:Nat->Prop}{W:World}
theorem aQJ {h u a cap:Nat}{b:Bx}{F:List Nd}(hF:F≠[])(h8:F.length<=8)(hu:W.heap[u]?=some (.cells #[.int .i64 b.1.1,.int .i64 b.1.2,.int .i64 b.2.1,.int .i64 b.2.2,.string ByteArray.empty,.slice (some ⟨a,0,none⟩) F.length cap] 161 (0,0)))(hSu:S u)(hSa:S a)
  (hcl:∀(i:Nat) c,F[i]?=some c->W.cell? ⟨a,0+i,none⟩=some (ndV c)) (hN:aCX W S h F) (hok:okB b) (hin:∀c∈F,aGs c.2.1 b):aHV W S (h+1) u b (aCC F):=by
 refine⟨⟨hSu,hok⟩,a,0,cap,F,hu,hSa,hF,h8,λi c hc=>⟨hcl i c hc,hN c (Ge_ hc)⟩,rfl,λx hx=>?_⟩;obtain⟨c,hc,hxc⟩:=List.mem_flatMap.1 hx;have h1:=(hN c hc).in_ x hxc;have h2:=hin c hc;unfold aGs at *;omega
structure OutI (wr:World)(g nx c1 c2 N cap s h:Nat)(S:Nat->Prop)(D:List Nd)(k:Nat)(W:World)(S1:Nat->Prop)(N1:List Nd)(nv:Value)(cur1:Array Value):Prop where
 hb:W.heap[g]?=some (.cells cur1 157 (0,0))
 hd:∀(j:Nat) c,D[j]?=some c->k*s<=j->cur1[j]?=some (ndV c)
 hx:W.heap[nx]?=some (.cells #[nv] 159 (0,0))
 hO:oNd W (wr.heap.size+2) nv N1
 k1:W.heap[c1]?=some (.cells #[.slice (some ⟨g,0,none⟩) N cap] 159 (0,0))
 k2:W.heap[c2]?=some (.cells #[.int .i64 (s:Int)] 3 (0,0))
 hN:aCX W S h D
 hN1:aCX W S1 (h+1) N1
 hS1:∀b,S1 b->S b\/wr.heap.size+2<=b
 hSl:∀b,S1 b->b<W.heap.size/\nv.ownBlock≠some b
 hP:(aCC N1).Perm (aCC (D.take (k*s)))
 hc:N1.length<=min (k*s) N/\(1<=k->N1.length+1<=min (k*s) N)
 hf:Fr (λb=>b=g\/b=nx) wr W
structure Low (wr:World)(g nx c1 c2:Nat)(S:Nat->Prop):Prop where
 lg:g<wr.heap.size
 lx:nx<wr.heap.size
 l1:c1<wr.heap.size
 l2:c2<wr.heap.size
 lS:∀b,S b->b<wr.heap.size/\b≠g/\b≠nx
 gx:g≠nx
 gc1:c1≠g/\c1≠nx
 gc2:c2≠g/\c2≠nx
variable{k:Nat}{nv:Value}{cur2:Array Value}
section
variable{wr wk W':World}{g nx c1 c2 c3 c4 cap s h li e N0:Nat}{S1:Nat->Prop}{D E N1:List Nd}{cur1:Array Value}
theorem OutI.fr (H:OutI wr g nx c1 c2 N cap s h S D k W S1 N1 nv cur1)(lo:Low wr g nx c1 c2 S)(f:Fr (λb=>b=wr.heap.size\/b=wr.heap.size+1) W W'):OutI wr g nx c1 c2 N cap s h S D k W' S1 N1 nv cur1:=by
 have:=lo.lg;have:=lo.lx;have:=lo.l1;have:=lo.l2
 exact⟨f.obj H.hb oM,H.hd,f.obj H.hx oM,H.hO.fr f (λb hb e=>by have:=(H.hO.lt hb).1;omega),f.obj H.k1 oM,f.obj H.k2 oM,
  H.hN.fr f (λb hb e=>by have:=(lo.lS b hb).1;omega),H.hN1.fr f (λb hb e=>by
   rcases H.hS1 b hb with h|h
   ·have:=(lo.lS b h).1;omega
   ·omega),H.hS1,λb hb=>⟨Nat.lt_of_lt_of_le (H.hSl b hb).1 f.size,(H.hSl b hb).2⟩,H.hP,H.hc,H.hf.trans' f (λr hr e=>by omega)⟩
structure InI (wr wk:World)(li g nx c1 c2 c3 c4 N cap s k e h N0:Nat)(S:Nat->Prop)(D E:List Nd)(cur2:Array Value)(j:Nat)(W:World)(S1:Nat->Prop)(N1:List Nd)(nv:Value):Prop where
 hb:W.heap[g]?=some (.cells cur2 157 (0,0))
 hx:W.heap[nx]?=some (.cells #[nv] 159 (0,0))
 hO:oNd W (wr.heap.size+2) nv N1
 hOl:nv.ownBlock≠some li
 k1:W.heap[c1]?=some (.cells #[.slice (some ⟨g,0,none⟩) N cap] 159 (0,0))
 k2:W.heap[c2]?=some (.cells #[.int .i64 (s:Int)] 3 (0,0))
 k3:W.heap[c3]?=some (.cells #[.slice (some ⟨g,0+k*s,none⟩) e e] 159 (0,0))
 k4:W.heap[c4]?=some (.cells #[.int .i64 ((8:Nat):Int)] 3 (0,0))
 hN:aCX W S h D
 hN1:aCX W S1 (h+1) N1
 hS1:∀b,S1 b->S b\/wr.heap.size+2<=b
 hSl:∀b,S1 b->b<W.heap.size/\nv.ownBlock≠some b/\b≠li
 hP:(aCC N1).Perm (aCC (D.take (k*s))++aCC (E.take (j*8)))
 hc:N1.length=N0+j
 hf:Fr (λb=>b=g\/b=nx\/wr.heap.size+2<=b) wk W
theorem InI.fr {j:Nat}(H:InI wr wk li g nx c1 c2 c3 c4 N cap s k e h N0 S D E cur2 j W S1 N1 nv)(lo:Low wr g nx c1 c2 S)(hw:wr.heap.size+2<=wk.heap.size)(hli:wk.heap.size<=li)(h3:c3≠li)(h4:c4≠li)(f:Fr (λb=>b=li) W W'):InI wr wk li g nx c1 c2 c3 c4 N cap s k e h N0 S D E cur2 j W' S1 N1 nv:=by
 have:=lo.lg;have:=lo.lx;have:=lo.l1;have:=lo.l2
 exact⟨f.obj H.hb oM,f.obj H.hx oM,H.hO.fr f (λb hb e=>H.hOl (by rw[<-e];exact hb)),H.hOl,f.obj H.k1 oM,f.obj H.k2 oM,f.obj H.k3 h3,f.obj H.k4 h4,
  H.hN.fr f (λb hb e=>by have:=(lo.lS b hb).1;omega),H.hN1.fr f (λb hb e=>(H.hSl b hb).2.2 e),H.hS1,λb hb=>⟨Nat.lt_of_lt_of_le (H.hSl b hb).1 f.size,(H.hSl b hb).2⟩,H.hP,H.hc,H.hf.trans' f (λr hr e=>by omega)⟩
end
abbrev ndC (b:Bx)(v:Value):Array Value:=#[.int .i64 b.1.1,.int .i64 b.1.2,.int .i64 b.2.1,.int .i64 b.2.2,.string ByteArray.empty,v]
abbrev ndB (w:World)(u:Nat)(b:Bx)(v:Value):Prop:=w.heap[u]?=some (.cells (ndC b v) 161 (0,0))
variable{o:Oper}{ρ:Operand->Value}{off:Nat}
section
variable{x y:Operand}{u g n c:Nat}{b t:Bx}{p:Option Addr}
theorem aOb {L:List Nd}(h:oNd w B v L):∃p n c,v=.slice p n c:=by
 obtain⟨p,c,h,_⟩:=h.src aEC;exact⟨p,_,c,h⟩
theorem aJz (hv:∃p n c,v=.slice p n c)(ho:o.op=.build 161 #[(0,x),(2,y)])(hx:ρ x=.agg (bxC b))(hy:ρ y=v):(execOp ρ o).run Tryz.prog w=.ok (.value (.agg (ndC b v))) w:=by
 obtain⟨p,n,c,rfl⟩:=hv;simp[execOp,ho,hx,hy,go_sem];rfl
theorem aN5 (ho:o.op=.box 161 x)(hx:ρ x=.agg (ndC b v)):(execOp ρ o).run Tryz.prog w=.ok (.value (vP w.heap.size 0)) (w.alloc (.cells (ndC b v) 161)):=by
 simp[execOp,ho,hx,go_sem]
theorem ndB.set (h:ndB w u b v)(t:Bx):ndB ((((w.setCell ⟨u,0,none⟩ (.int .i64 t.1.1)).setCell ⟨u,1,none⟩ (.int .i64 t.1.2)).setCell ⟨u,2,none⟩ (.int .i64 t.2.1)).setCell ⟨u,3,none⟩ (.int .i64 t.2.2)) u t v:=by
 have h1:=aAk (off:=0) h (.int .i64 t.1.1);have h2:=aAk (off:=1) h1 (.int .i64 t.1.2);have h3:=aAk (off:=2) h2 (.int .i64 t.2.1);have h4:=aAk (off:=3) h3 (.int .i64 t.2.2);exact h4
theorem aNm (ho:o.op=.store 97 x y)(hx:ρ x=vP u 0)(hy:ρ y=.agg (bxC t))(h:ndB w u b v) :
  (execOp ρ o).run Tryz.prog w=.ok .skip ((((w.setCell ⟨u,0,none⟩ (.int .i64 t.1.1)).setCell ⟨u,1,none⟩ (.int .i64 t.1.2)).setCell ⟨u,2,none⟩ (.int .i64 t.2.1)).setCell ⟨u,3,none⟩ (.int .i64 t.2.2)):=by
 have c0:w.cell? ⟨u,0,none⟩=some (.int .i64 b.1.1):=bx h 0 rfl;have c1:w.cell? ⟨u,1,none⟩=some (.int .i64 b.1.2):=bx h 1 rfl;have c2:w.cell? ⟨u,2,none⟩=some (.int .i64 b.2.1):=bx h 2 rfl;have c3:w.cell? ⟨u,3,none⟩=some (.int .i64 b.2.2):=bx h 3 rfl;have z0:=aAm h 0;have z1:=aAm h 1;have z2:=aAm h 2;have z3:=aAm h 3;simp[execOp,ho,hx,hy,go_sem,c0,c1,c2,c3,z0,z1,z2,z3]
theorem aJ0 (ho:o.op=.alloc 159):(execOp ρ o).run Tryz.prog w=.ok (.value (vP w.heap.size 0)) (w.alloc (.cells #[.slice none 0 0] 159)):=by
 simp[execOp,ho,go_sem]
theorem aQd {u0:Value}(hv:v=.slice p n c)(ho:o.op=.store 159 x y)(hx:ρ x=vP g off)(hy:ρ y=v)(hc:w.cell? ⟨g,off,none⟩=some u0)(hz:w.frozen? ⟨g,off,none⟩=false):(execOp ρ o).run Tryz.prog w=.ok .skip (w.setCell ⟨g,off,none⟩ v):=by
 subst hv;simp[execOp,ho,hx,hy,go_sem,hc,hz]
end
variable{a:Act}
section
variable{O:Array Oper}{Q:Exit->Act->World->Prop}{rest:List Oper}{n d:Nat}{L:List (Nat×Value)}{x y:Operand}{ds:List Deferred}
theorem aKa (E:EnvD ds n L a)(hd:o.dst=some d)(hn:d<n)(hf:(L.map (·.1)).contains d=false)(hw:Region.wanted o (yielded O a.tmps)=true)(ho:o.op=.alloc 159)
  (k:∀a' w' b,w.heap.size=b->w'.heap[b]?=some (.cells #[.slice none 0 0] 159 (0,0))->Fr nF_ w w'->EnvD ds n ((d,vP b 0)::L) a'->wpList Tryz.prog O Q rest a' w'):wpList Tryz.prog O Q (o::rest) a w :=
 aB8 E hd hn hf hw (aJ0 ho) λa' E'=>k a' _ _ rfl (aAl _ _) ((Fr.refl _ _).alloc _) E'
end
def aWK (w:World)(S0:Nat->Prop)(v0:Value)(C0:List Nd)(e:Ending)(w':World):Prop :=
 ∃rv,e=.returned rv/\Fr (λk=>v0.ownBlock=some k) w w'/\((rv=.pointer none/\aCC C0=[])\/∃S n p b L,rv=vP p 0/\aHV w' S n p b L/\L.Perm (aCC C0)/\∀k,S k->k<w'.heap.size/\(S0 k\/w.heap.size<=k))
theorem aRS {R:World->Prop}(h:R W):aTj R .normal a W:=h
theorem aOY {g n:Nat}(hn:1<=n):(chs g off N n).length=(N+n-1) / n:=by simp[chs]
theorem aOZ {n:Nat}(hn:1<=n):N<=(N+n-1) / n*n:=by
 have h1:=Nat.div_add_mod (N+n-1) n;have h2:=Nat.mod_lt (N+n-1) (show 0<n by omega);rw[Nat.mul_comm] at h1;omega
theorem aUl {n:Nat}(hn:1<=n)(hN:1<=N):1<=(N+n-1) / n:=by
 rw[Nat.le_div_iff_mul_le oM];omega
section
variable{wr wk wi2 wu w2 w1 w3:World}{g nx c1 c2 c3 c4 cap s h li e N0 j u:Nat}{S1 S2 S3:Nat->Prop}{D E E0 E1 N1 N2 F0:List Nd}{nw va v9:Value}{cr:Array Value}{b0:Bx}
theorem aQ9 (hDl:D.length=N)(H:OutI wr g nx c1 c2 N cap s h S D k wk S1 N1 nv cr)(J:InI wr wk li g nx c1 c2 c3 c4 N cap s k E0.length h N1.length S D E1 cur2 ((E0.length+8-1) / 8) W S2 N2 nw)(hks:k*s<N)(hE0:E0=(D.drop (k*s)).take s)(hE0l:E0.length=min s (N-k*s))(hE1:E1.Perm E0)
  (hout:∀i,i<0+k*s\/0+k*s+E0.length<=i->cur2[i]?=cr[i]?) (hs8:8<=s) (hlt1:1<N):OutI wr g nx c1 c2 N cap s h S D (k+1) W S2 N2 nw cur2:=by
 have hk1:(k+1)*s=k*s+s:=by rw[Nat.add_mul,Nat.one_mul]
 refine⟨J.hb,λj c hj hjk=>?_,J.hx,J.hO,J.k1,J.k2,J.hN,J.hN1,J.hS1,λb hb=>⟨(J.hSl b hb).1,(J.hSl b hb).2.1⟩,?_,?_,H.hf.trans' J.hf (λr hr e=>?_)⟩
 ·rw[hout j (.inr oM)];exact H.hd j c hj oM
 ·rw[hk1,List.take_add];have h1:E1.take ((E0.length+8-1) / 8*8)=E1:=Gc_ (by rw[hE1.length_eq];exact aOZ oM);have h2:=J.hP;rw[h1] at h2;rw[<-hE0];refine h2.trans ?_;show(aCC (D.take (k*s))++aCC E1).Perm (List.flatMap _ (D.take (k*s)++E0));rw[List.flatMap_append];exact(List.Perm.refl _).append (hE1.flatMap_right _)
 ·have h1:=H.hc;have h2:=J.hc;rw[hk1];have h3:k=0\/1<=k:=by omega
  rcases h3 with rfl|h3
  ·simp only[Nat.zero_mul,Nat.zero_add] at *;omega
  ·have h4:=h1.2 h3;omega
 ·rcases e with e|e|e
  ·exact .inl e
  ·exact .inr e
  ·omega
theorem aTs (lo:Low wr g nx c1 c2 S)(J:InI wr wk li g nx c1 c2 c3 c4 N cap s k e h N0 S D E cur2 j W S2 N2 nw)(hwk:wr.heap.size+2<=wk.heap.size):W.heap[wr.heap.size]?=wk.heap[wr.heap.size]?/\W.heap[wr.heap.size+1]?=wk.heap[wr.heap.size+1]?:=by
 have:=lo.lg;have:=lo.lx;exact⟨J.hf.blk _ oM oM,J.hf.blk _ oM oM⟩
theorem aWj (lo:Low wr g nx c1 c2 S)(hwk2:wr.heap.size+2<=wk.heap.size)(hwki:wk.heap.size<=li)(hwj:li+1<=wi2.heap.size)(hul:wi2.heap.size<=u)(fu:Fr nF_ wi2 wu)(hF:Fr (λb=>b=u) wu w2)(f3:Fr nF_ w2 w1)(f4:Fr (λk=>nw.ownBlock=some k) w1 w3)(v9:Value) :
  Fr (λb=>b=nx\/nw.ownBlock=some b) w2 (w3.setCell ⟨nx,0,none⟩ v9)/\Fr (λb=>b=u\/b=nx\/nw.ownBlock=some b) wu (w3.setCell ⟨nx,0,none⟩ v9)/\Fr (λb=>b=nx\/nw.ownBlock=some b) wi2 (w3.setCell ⟨nx,0,none⟩ v9):=by
 have h1:Fr (λb=>b=nx\/nw.ownBlock=some b) w2 (w3.setCell ⟨nx,0,none⟩ v9):=((f3.mono λ_ _ h=>h.elim).trans' f4 (λ_ _ e =>.inr e)).setCell (p:=⟨nx,0,none⟩) (λ_ =>.inl rfl) v9;have h2:Fr (λb=>b=u\/b=nx\/nw.ownBlock=some b) wu (w3.setCell ⟨nx,0,none⟩ v9):=(hF.mono λ_ _ e =>.inl e).trans' h1 (λ_ _ e =>.inr e);refine⟨h1,h2,(fu.mono λ_ _ h=>h.elim).trans' h2 λr hr e=>?_⟩;rcases e with e|e
 ·omega
 ·exact e
theorem aWh (lo:Low wr g nx c1 c2 S)(hwk2:wr.heap.size+2<=wk.heap.size)(hwki:wk.heap.size<=li)(hwj:li+1<=wi2.heap.size)(hul:wi2.heap.size<=u)(J:InI wr wk li g nx c1 c2 c3 c4 N cap s k e h N0 S D E cur2 j wi2 S2 N2 nw)(fu:Fr nF_ wi2 wu)(hF:Fr (λb=>b=u) wu w2)(f3:Fr nF_ w2 w1)(f4:Fr (λk=>nw.ownBlock=some k) w1 w3)(v9:Value) :
  (w3.setCell ⟨nx,0,none⟩ v9).heap[li]?=wi2.heap[li]?:=by
 obtain⟨_,_,hT⟩:=aWj lo hwk2 hwki hwj hul fu hF f3 f4 v9;have:=lo.lx;exact hT.blk li oM (λe=>by rcases e with e|e;omega;exact J.hOl e)
theorem aTW (lo:Low wr g nx c1 c2 S)(hwk2:wr.heap.size+2<=wk.heap.size)(hwki:wk.heap.size<=li)(hwj:li+1<=wi2.heap.size)(hul:wi2.heap.size<=u)(hau:va.ownBlock≠some u)(J:InI wr wk li g nx c1 c2 c3 c4 N cap s k e h N0 S D E1 cur2 j wi2 S2 N2 nw)
  (hF0:F0=(E1.drop (j*8)).take 8) (hFne:F0≠[]) (hok0:okB b0) (hOa:oNd wu wi2.heap.size va F0) (hNF:aCX wu S h F0) (hu:ndB w2 u (aG1 b0 F0) va) (fu:Fr nF_ wi2 wu) (hF:Fr (λb=>b=u) wu w2) (f3:Fr nF_ w2 w1) (f4:Fr (λk=>nw.ownBlock=some k) w1 w3)
  (hO9:oNd w3 (wr.heap.size+2) v9 (N2++[(u,aG1 b0 F0,aCC F0)])) (hloc:v9.ownBlock=nw.ownBlock\/v9.ownBlock=some w1.heap.size) (hx9:w3.heap[nx]?=some (.cells #[nw] 159 (0,0))) (hS3:S3=λb=>S2 b\/b=u\/va.ownBlock=some b\/S b) :
  InI wr wk li g nx c1 c2 c3 c4 N cap s k e h N0 S D E1 cur2 (j+1) (w3.setCell ⟨nx,0,none⟩ v9) S3 (N2++[(u,aG1 b0 F0,aCC F0)]) v9:=by
 obtain⟨h2,hu2,hT⟩:=aWj lo hwk2 hwki hwj hul fu hF f3 f4 v9;have z2:=hF.size;have z3:=f3.size;have z4:=h2.size;have hlg:=lo.lg;have hlx:=lo.lx;have hl1:=lo.l1;have hl2:=lo.l2;have hgx:=lo.gx;have own:∀b,nw.ownBlock=some b->wr.heap.size+2<=b/\b<wi2.heap.size:=λb hb=>J.hO.lt hb;have hul2:u<w2.heap.size:=aAf hu;have h8:F0.length<=8:=by rw[hF0,Gq_];omega
 have hk1:(j+1)*8=j*8+8:=by omega
 obtain⟨a,ca,cur,hva,hba,hca,hcl,hal⟩:=aIx hOa hFne;have hau2:a≠u:=λe=>hau (by rw[hva,e];rfl);have hSS3:∀b,S b->S3 b:=λb hb=>by rw[hS3];exact .inr (.inr (.inr hb))
 have hSb:∀b,S b->¬(b=u\/b=nx\/nw.ownBlock=some b):=λb hb e=>by
  have h9:=lo.lS b hb;rcases e with e|e|e
  ·omega
  ·exact h9.2.2 e
  ·have:=(own b e).1;omega
 refine⟨hT.obj J.hb ?_,aAk (off:=0) hx9 v9,hO9.fr ((Fr.refl (λb=>b=nx) w3).setCell (p:=⟨nx,0,none⟩) (λ_=>rfl) v9) (λb hb e=>by have:=(hO9.lt hb).1;omega),?_,hT.obj J.k1 ?_,hT.obj J.k2 ?_,hT.obj J.k3 ?_,hT.obj J.k4 ?_,
  J.hN.fr hT (λb hb e=>hSb b hb (.inr e)),?_,?_,?_,?_,?_,J.hf.trans' hT ?_⟩
 ·rintro(e|e)
  ·exact hgx e
  ·have:=(own _ e).1;omega
 ·rcases hloc with e|e
  ·rw[e];exact J.hOl
  ·rw[e];intro e2;have:=Gh_ e2;omega
 ·rintro(e|e)
  ·exact lo.gc1.2 e
  ·have:=(own _ e).1;omega
 ·rintro(e|e)
  ·exact lo.gc2.2 e
  ·have:=(own _ e).1;omega
 ·rintro(q|q)
  ·have h9:=J.k3;rw[q,J.hx] at h9;simp only[Gk_,Obj.cells.injEq] at h9;have h10:=h9.1;have h11:nw=.slice (some ⟨g,0+k*s,none⟩) e e:=by simpa using h10
   have:=(own g (by rw[h11];rfl)).1;omega
  ·exact aAZ dE J.hO J.k3 q
 ·rintro(e|e)
  ·have h9:=J.k4;rw[e,J.hx] at h9;simp at h9
  ·exact aAZ dE J.hO J.k4 e
 ·intro c hc;rcases List.mem_append.1 hc with hc|hc
  ·refine((J.hN1 c hc).fr hT (λb hb e=>?_)).mono (λb hb=>by rw[hS3];exact .inl hb);rcases e with e|e
   ·rcases J.hS1 b hb with h9|h9
    ·exact(lo.lS b h9).2.2 e
    ·omega
   ·exact(J.hSl b hb).2.1 e
  ·simp only[Gd_] at hc;subst hc;refine aQJ (a:=a) (cap:=ca) hFne h8 ?_ (by rw[hS3];exact .inr (.inl rfl)) (by rw[hS3];exact .inr (.inr (.inl (by rw[hva];rfl)))) (λi c hc=>?_) ((hNF.fr hu2 hSb).mono hSS3) (aP3 _ _ hok0 λc hc=>(hNF c hc).ok) (λc hc=>aP4 _ _ _ ⟨c,hc,by unfold aGs;omega⟩)
   ·have h9:=h2.obj hu (λe=>by rcases e with e|e;omega;have:=(own _ e).2;omega);rw[hva] at h9;exact h9
   ·have h9:=hu2.obj hba (λe=>by rcases e with e|e|e;exact hau2 e;omega;have:=(own _ e).2;omega);rw[aAj h9];exact hcl i c hc
 ·intro b hb;rw[hS3] at hb;rcases hb with hb|hb|hb|hb
  ·exact J.hS1 b hb
  ·right;omega
  ·right;have:=(hOa.lt hb).1;omega
  ·exact .inl hb
 ·intro b hb;rw[hS3] at hb;rcases hb with hb|hb|hb|hb
  ·have h9:=J.hSl b hb;refine⟨by have:=hT.size;omega,?_,h9.2.2⟩;rcases hloc with e|e
   ·rw[e];exact h9.2.1
   ·rw[e];intro e2;have:=Gh_ e2;omega
  ·refine⟨by omega,?_,by omega⟩;rcases hloc with e|e
   ·rw[e];intro e2;have:=(own _ e2).2;omega
   ·rw[e];intro e2;have:=Gh_ e2;omega
  ·have h9:=hOa.lt hb;refine⟨by omega,?_,by omega⟩;rcases hloc with e|e
   ·rw[e];intro e2;have:=(own _ e2).2;omega
   ·rw[e];intro e2;have:=Gh_ e2;omega
  ·have h9:=lo.lS b hb;refine⟨by have:=hT.size;omega,?_,by omega⟩;intro e2;have:=(hO9.lt e2).1;omega
 ·rw[hk1,List.take_add,<-hF0];show(List.flatMap _ (N2++[(u,aG1 b0 F0,aCC F0)])).Perm (aCC (D.take (k*s))++List.flatMap _ (E1.take (j*8)++F0));rw[List.flatMap_append,List.flatMap_append,<-Gl_];refine J.hP.append ?_;simp
 ·rw[Gi_,J.hc];simp;omega
 ·intro r hr e;rcases e with e|e
  ·exact .inr (.inl e)
  ·exact .inr (.inr (own _ e).1)
end
variable{S0:Nat->Prop}
set_option maxRecDepth 100000 in
set_option maxHeartbeats 4000000 in
theorem aMa {h0:Nat}{v0:Value}{C0:List Nd}(hO:oNd w B v0 C0)(hN:aCX w S0 h0 C0)(hS:∀k,S0 k->k<w.heap.size/\v0.ownBlock≠some k)(hl:C0.length<=100000):Calls Tryz.prog 150 #[v0] w (aWK w S0 v0 C0):=by
 obtain⟨p0,cap0,hv0,_,_,_,_⟩:=hO.src aEC;refine aL7 Tryz.func150 rfl rfl (n:=73) dE λa E=>?_;rw[hv0] at E;refine s_ (r_ (ep (v:=(Value.pointer none)) E rfl (a_ rfl rfl) λa E=>n_ (t_ (s_ (bk_ (wp_loop (λa w2=>∃(p:Option Addr)(cap:Nat)(C:List Nd)(h:Nat)(S:Nat->Prop)(ds:List Deferred),EnvD ds 73 [(0,.slice (p) C.length cap),(2,Value.pointer none)] a/\oNd w2 0 (.slice p C.length cap) C/\aCX w2 S h C/\(∀k,S k->k<w2.heap.size/\(Value.slice p C.length cap).ownBlock≠some k/\¬aB0 ds k)/\(∀k,S k->S0 k\/w.heap.size<=k)/\aCY w2 ds/\(∀k,aB0 ds k->w.heap.size<=k)/\(aCC C).Perm (aCC C0)/\C.length<=100000/\Fr (λk=>v0.ownBlock=some k) w w2/\(∀k,(Value.slice p C.length cap).ownBlock=some k->v0.ownBlock=some k\/w.heap.size<=k)) (λa _=>lenOf (a.eval (.tmp 0))) ?_ ?_))))))
 ·exact⟨p0,cap0,C0,h0,S0,[],E.of ⟨E.g1,E.g0,trivial⟩,by rw[<-hv0];exact hO.base (Gg_ _),hN,λk hk=>⟨(hS k hk).1,by rw[<-hv0];exact(hS k hk).2,λh=>(by cases h)⟩,λ_ h =>.inl h,aCY.nil _,λ_ h=>(by cases h),List.Perm.refl _,hl,Fr.refl _ _,λk hk =>.inl (by rw[hv0];exact hk)⟩
 clear E;rintro a w2 ⟨p,cap,C,h,S,ds,E,hO,hN,hS,hS0,hm,hmw,hP,hl,hT,hvb⟩;have hmu:lenOf (a.eval (.tmp 0))=C.length:=by rw[E.g0];first|rfl|(simp[intOf];done)|(simp only[intOf];omega)
 rw[hmu];clear hmu;refine s_ (s_ (r_ (ep E rfl (m_ rfl E.g0) λa E=>ep (v := .int .i64 (C.length:Int)) E rfl (aBz rfl E.g0) λa E=>ep (v := .bool (decide (1<(C.length:Int)))) E rfl (aCk E.g0 rfl u3_ rfl) λa E=>n_ (t_ ?_))));cases hq32:(decide (1<(C.length:Int)))
 ·rw[hq32] at E;have hle1:¬1<C.length:=by have:=of_decide_eq_false hq32;omega
  refine c_f E.g0 (x_ (te_ (te_ (be_ (t_ (s_ (s_ (r_ (ep E rfl (m_ rfl E.g3) λa E=>ep (v := .int .i64 (C.length:Int)) E rfl (aBz rfl E.g0) λa E=>ep (v := .bool ((C.length:Int)==0)) E rfl (aKP E.g0 rfl u3_ rfl) λa E=>n_ (t_ ?_))))))))));cases hq33:((C.length:Int)==0)
  rotate_left
  ·rw[hq33] at E;have hz0:C=[]:=List.eq_nil_of_length_eq_zero (by have:=beq_iff_eq.1 hq33;omega);refine c_t E.g0 (s_ (r_ (es_ (v:=(Value.pointer none)) E rfl (a_ rfl rfl) λa E=>n_ (t_ (wr_ (tr_ (aKR (t:=2) rfl E E.g0 hm (λw9 f9=>⟨_,rfl,hT.trans' f9 (λr hr e=>by have:=hmw r e;omega),.inl ⟨rfl,by rw[hz0] at hP;exact List.perm_nil.1 hP.symm⟩⟩))))))))
  rw[hq33] at E
  have hlen1:C.length=1:=by
   have h9:¬((C.length:Int)=0):=λe=>by rw[e] at hq33;simp at hq33
   omega
  have h0l:0<C.length:=by omega
  obtain⟨g,cur,rfl,hb,hcap,hd,_⟩:=aKU rfl hO oM;obtain⟨ct,hct⟩:∃ct,C[0]?=some ct:=⟨_,Gb_ h0l⟩;refine c_f E.g0 (k_ (t_ (s_ (r_ (ep E rfl (m_ rfl E.g6) λa E=>ep (v := vP g (0+0)) E rfl (aCv (i:=0) rfl E.g0 rfl h0l) λa E=>ep (v := vP ct.1 0) E rfl (aAR rfl E.g0 (bx hb (0+0) (hd 0 ct hct))) λa E=>es_ E rfl (a_ rfl E.g0) λa E=>n_ (t_ (wr_ ?_)))))));have hctm:=Ge_ hct
  have hCe:aCC C=ct.2.2:=by
   obtain⟨c9,rfl⟩:=List.length_eq_one_iff.1 hlen1;simp at hct;subst hct;simp[aCC]
  rw[hCe] at hP;exact aKR (t:=2) rfl E E.g0 hm (λw9 f9=>⟨_,rfl,hT.trans' f9 (λr hr e=>by have:=hmw r e;omega),.inr ⟨S,h,ct.1,ct.2.1,ct.2.2,rfl,(hN ct hctm).fr f9 (λb hb9 e=>(hS b hb9).2.2 e),hP,λb hb9=>⟨Nat.lt_of_lt_of_le (hS b hb9).1 f9.size,hS0 b hb9⟩⟩⟩)
 rw[hq32] at E;have hlt1:1<C.length:=by have:=of_decide_eq_true hq32;omega
 obtain⟨g,cur,rfl,hb,hcap,hd,_⟩:=aKU rfl hO oM;have hCne:C≠[]:=by rintro rfl;simp at hlt1
 refine c_t E.g0 (k_ (t_ (bk_ (s_ (r_ (ep E rfl (m_ rfl E.g3) λa E=>?_))))));have hb0:=hb;refine aB1 (d:=14) (R:=λu w8=>u=.tuple #[]/\aWI w2 g 0 cur C (.returned (.tuple #[])) w8) E rfl dE rfl (aAb rfl _) (aAB (enters_of Tryz.func194 kR rfl) rfl rfl E.g0 rfl) ((aJq (g:=g) (off:=0) (cap:=cap) hCne hb hd (λc hc=>⟨(hN c hc).nb,(hN c hc).ok,λe=>(hS _ (hN c hc).mem).2.1 (by rw[e];rfl)⟩) oM).mono λe w8 h=>⟨_,h.1,rfl,by rw[<-h.1];exact h⟩) λa w1 u9 hR E=>?_;obtain⟨rfl,_,D,cur1,hD1,hb,hsz1,hd,_,f1⟩:=hR;have hDl:D.length=C.length:=hD1.length_eq;have hN:=(hN.fr f1 (λk hk e=>(hS k hk).2.1 (by rw[e];rfl))).perm hD1;have hPD:(aCC D).Perm (aCC C):=hD1.flatMap_right _;have hm:=hm.fr f1 (λk hk e=>by subst e;have:=hm.at hk;rw[this] at hb0;cases hb0);have hT:=hT.trans' f1 (λr hr e=>by rcases hvb g rfl with h|h;(rw[e];exact h);omega);have hS:∀k,S k->k<w1.heap.size/\k≠g/\¬aB0 ds k:=λk hk=>⟨Nat.lt_of_lt_of_le (hS k hk).1 f1.size,λe=>(hS k hk).2.1 (by rw[e];rfl),(hS k hk).2.2⟩;clear hb0 hO hsz1 f1 hD1;refine n_ (t_ (s_ (r_ (ep (v := .int .i64 8) E rfl (a_ rfl rfl) λa E=>n_ (t_ (s_ (bk_ (wp_loop (λa w2=>∃(s:Nat),EnvD ds 73 [(0,.slice (some ⟨g,0,none⟩) C.length cap),(3,.int .i64 (s:Int)),(2,Value.pointer none)] a/\8<=s/\s<=C.length*8+8/\w2=w1) (λa _=>C.length*8+8-(intOf (a.eval (.tmp 3))).toNat) ?_ ?_))))))))
 ·exact⟨8,E.of ⟨E.g6,E.g0,E.g7,trivial⟩,Gj_ _,by omega,rfl⟩
 clear E;rintro a w2 ⟨s,E,hs8,hsN,hw2⟩;have hmu:C.length*8+8-(intOf (a.eval (.tmp 3))).toNat=C.length*8+8-s:=by rw[E.g1];first|rfl|(simp[intOf];done)|(simp only[intOf];omega)
 rw[hmu];clear hmu;subst hw2
 have hss:(s:Int)*(s:Int)<=1000000000000/\0<=(s:Int)*(s:Int)/\(s:Int)<=(s:Int)*(s:Int):=by
  have h1:s*s<=1000000*1000000:=Nat.mul_le_mul oM oM;have h2:s<=s*s:=Nat.le_mul_self s;omega
 refine s_ (s_ (r_ (ep E rfl (m_ rfl E.g1) λa E=>ep E rfl (m_ rfl E.g2) λa E=>ep (v := .int .i64 ((s:Int)*(s:Int))) E rfl (aD2 u3_ E.g1 E.g0 oM oM rfl) λa E=>ep E rfl (m_ rfl E.g3) λa E=>ep (v := .int .i64 (C.length:Int)) E rfl (aBz rfl E.g0) λa E=>ep (v := .int .i64 ((C.length:Int)*8)) E rfl (aD2 u3_ E.g0 rfl oM oM rfl) λa E=>ep (v := .bool (decide (((s:Int)*(s:Int))<((C.length:Int)*8)))) E rfl (aBn E.g3 E.g0 u3_ rfl) λa E=>n_ (t_ ?_))));cases hq35:(decide (((s:Int)*(s:Int))<((C.length:Int)*8)))
 rotate_left
 ·rw[hq35] at E;refine c_t E.g0 (k_ (t_ (bk_ (r_ (ep E rfl (m_ rfl E.g8) λa E=>ep (v := .int .i64 ((s:Int)+8)) E rfl (aAQ u3_ E.g0 rfl oM oM rfl) λa E=>es_ E rfl (a_ rfl E.g0) λa E=>n_ (b_ (t_ ?_)))))));rw[show((s:Int)+8)=((s+8:Nat):Int) by omega] at E;have hlt9:(s:Int)<(C.length:Int)*8:=by have:=of_decide_eq_true hq35;omega
  refine⟨⟨s+8,E.of ⟨E.g10,E.g0,E.g11,trivial⟩,by omega,by omega,rfl⟩,?_⟩;rw[E.g0];simp only[intOf];omega
 rw[hq35] at E;refine c_f E.g0 (x_ (te_ (te_ (be_ (t_ (s_ (r_ (aKa (d:=4) E rfl dE rfl (aAb rfl _) rfl λa w1 nx enx hx f1 E=>?_))))))));have hnx:w2.heap.size=nx:=enx;have hgl:=aAf hb;have hws0:=hT.size;have hb:=f1.obj hb id;have hN:=hN.fr f1 (λ_ _ h=>h);have hm:=hm.fr f1 (λ_ _ h=>h);have hT:=hT.trans' f1 (λ_ _ h=>h.elim);have hS:∀k,S k->k<nx/\k≠g/\¬aB0 ds k:=λk hk=>⟨by have:=(hS k hk).1;omega,(hS k hk).2⟩;have hgx:g<nx:=by omega
 have hxl:=aAf hx;have hws:w.heap.size<=nx:=by omega
 clear f1 hgl enx;refine n_ (t_ (s_ (s_ (r_ (ep E rfl (m_ rfl E.g8) λa E=>ep E rfl (m_ rfl E.g10) λa E=>?_)))));have hz9:1<=s:=by omega
 refine aB1 (d:=26) (R:=λu w8=>∃c1 c2,u=.func (.func 235) #[] #[vP c1 0,vP c2 0]/\w8.heap[c1]?=some (.cells #[.slice (some ⟨g,0,none⟩) C.length cap] 159 (0,0))/\w8.heap[c2]?=some (.cells #[.int .i64 ((s:Nat):Int)] 3 (0,0))/\Fr nF_ w1 w8/\w1.heap.size<=c1/\w1.heap.size<=c2) E rfl dE rfl (aAb rfl _) (aAB (enters_of Tryz.func197 kR rfl) rfl rfl E.g1 E.g0) ((aGk g 0 C.length cap s _ hz9).mono λe w8 ⟨c8,c9,h1,h2⟩=>⟨_,h1,c8,c9,rfl,h2⟩) λa wr u9 hR E=>?_;obtain⟨c1,c2,rfl,k1,k2,f2,hc8,hc9⟩:=hR;clear hz9;refine n_ (t_ (bk_ ?_));have hc1l:=aAf k1;have hc2l:=aAf k2;have lo:Low wr g nx c1 c2 S:=⟨by omega,by omega,hc1l,hc2l,λb hb=>by have:=hS b hb;exact⟨by omega,this.2.1,by omega⟩,by omega,⟨by omega,by omega⟩,⟨by omega,by omega⟩⟩;have hb:=f2.obj hb id;have hx:=f2.obj hx id;have hN:=hN.fr f2 (λ_ _ h=>h);have hm:=hm.fr f2 (λ_ _ h=>h);have hT:=hT.trans' f2 (λ_ _ h=>h.elim);have hI0:OutI wr g nx c1 c2 C.length cap s h S D 0 wr S [] (.slice none 0 0) cur1:=⟨hb,λj c hj _=>by have:=hd j c hj;rwa[Nat.zero_add] at this,hx,aCZ _,k1,k2,hN,(λc hc=>by cases hc),λb hb =>.inl hb,λb hb=>⟨(lo.lS b hb).1,by simp[Value.ownBlock]⟩,by simp[aCC],⟨by simp,by omega⟩,Fr.refl _ _⟩;have hs1:1<=s:=by omega
 refine aL8 (λk W=>∃S1 N1 nv cr,OutI wr g nx c1 c2 C.length cap s h S D k W S1 N1 nv cr) (λv a=>∃x,v=#[x]/\Env 73 [(5,x),(27,x),(4,vP nx 0)] a) E.g0 (enters_of Tryz.func235 kR rfl) (aEr (g:=g) (off:=0) (N:=C.length) (cap:=cap) (n:=s) (c1:=c1) (c2:=c2) hs1 oM oM oM) (λv hv=>by obtain⟨k,_,rfl⟩:=aHJ hs1 hv;rfl) ?_ ?_ ⟨S,[],_,cur1,hI0⟩ ?_ ?_ ?_
 ·rintro k W W' ⟨S1,N1,nv,cr,H⟩ f;exact⟨_,_,_,_,H.fr lo f⟩
 ·rintro k W ⟨S1,N1,nv,cr,H⟩;exact⟨H.k1,H.k2⟩
 ·intro l v W K hv hK;obtain⟨k,_,rfl⟩:=aHJ hs1 hv;have E:=aLq (d:=27) (x:=chV g 0 C.length s k) (E.of (L':=[(4,vP nx 0)]) ⟨E.g3,trivial⟩) dE rfl;refine aA7 kR (λ⟨_,_,h⟩=>h) (ep E rfl (a_ rfl E.g0) λa E=>n_ (hK _ ⟨_,rfl,E⟩))
 ·rintro k v ak wk hv ⟨S1,N1,nv,cr,H⟩ ⟨x9,rfl,E⟩ hwk ⟨rr,hrr⟩;obtain⟨hks,hv2⟩:=aS3 hs1 hv;obtain rfl:x9=chV g 0 C.length s k:=by simpa using hv2
  obtain⟨E0,hE0⟩:∃E0,E0=(D.drop (k*s)).take s:=⟨_,rfl⟩;have hE0l:E0.length=min s (C.length-k*s):=by rw[hE0];simp[hDl]
  have hx9:chV g 0 C.length s k=.slice (some ⟨g,0+k*s,none⟩) E0.length E0.length:=by rw[hE0l];rfl
  rw[hx9] at E;have hEne:E0≠[]:=by rintro rfl;simp at hE0l;omega
  have hE0g:∀(i:Nat) c,E0[i]?=some c->D[k*s+i]?=some c:=λi c hc=>by rw[hE0,List.getElem?_take] at hc;split at hc;(rw[List.getElem?_drop] at hc;exact hc);cases hc
  have hE0c:aGn cr (0+k*s) E0:=λi c hc=>by rw[Nat.zero_add];exact H.hd _ _ (hE0g i c hc) (Nat.le_add_right _ _)
  have hE0m:∀c∈E0,c∈D:=λc hc=>by obtain⟨i,hi⟩:=List.mem_iff_getElem?.1 hc;exact Ge_ (hE0g i c hi)
  refine wpIn_block (wpIn_seq (aA7 kR (λ⟨_,_,h⟩=>h) (ep E rfl (m_ rfl E.g0) λa E=>aB1 (d:=29) (R:=λu w8=>u=.tuple #[]/\aWI wk g (0+k*s) cr E0 (.returned (.tuple #[])) w8) E rfl dE rfl (aAb rfl _) (aAB (enters_of Tryz.func194 kR rfl) rfl rfl E.g0 rfl) ((aJp (g:=g) (off:=0+k*s) (cap:=E0.length) hEne H.hb hE0c (λc hc=>⟨(H.hN c (hE0m c hc)).nb,(H.hN c (hE0m c hc)).ok,(lo.lS _ (H.hN c (hE0m c hc)).mem).2.1⟩) oM).mono λe w8 h=>⟨_,h.1,rfl,by rw[<-h.1];exact h⟩) λa wb u9 hR E=>?_)));obtain⟨rfl,_,E1,cur2,hE1,hb2,_,hd2,hout,f1⟩:=hR;have hEl:E1.length=E0.length:=hE1.length_eq;refine n_ (t_ (wpIn_seq (aA7 kR (λ⟨_,_,h⟩=>h) (ep E rfl (m_ rfl E.g2) λa E=>?_))));have hz9:1<=8:=by omega
  refine aB1 (d:=31) (R:=λu w8=>∃c3 c4,u=.func (.func 235) #[] #[vP c3 0,vP c4 0]/\w8.heap[c3]?=some (.cells #[.slice (some ⟨g,(0+k*s),none⟩) E0.length E0.length] 159 (0,0))/\w8.heap[c4]?=some (.cells #[.int .i64 ((8:Nat):Int)] 3 (0,0))/\Fr nF_ wb w8/\wb.heap.size<=c3/\wb.heap.size<=c4) E rfl dE rfl (aAb rfl _) (aAB (enters_of Tryz.func197 kR rfl) rfl rfl E.g0 rfl) ((aGk g (0+k*s) E0.length E0.length 8 _ hz9).mono λe w8 ⟨c8,c9,h1,h2⟩=>⟨_,h1,c8,c9,rfl,h2⟩) λa wi u9 hR E=>?_;obtain⟨c3,c4,rfl,k3,k4,f2,hc8,hc9⟩:=hR;clear hz9;refine n_ (t_ (wpIn_block ?_));have hc3l:=aAf k3;have hc4l:=aAf k4;have f12:Fr (λb=>b=g) wk wi:=f1.trans' f2 (λ_ _ h=>h.elim);have f13:Fr (λb=>b=g\/b=nx\/wr.heap.size+2<=b) wk wi:=f12.mono (λ_ _ e =>.inl e);have hb3:=f2.obj hb2 id;have hng:nv.ownBlock≠some g:=λe=>by have:=(H.hO.lt e).1;have:=lo.lg;omega
  have hlg:=lo.lg;have hlx:=lo.lx;have hgx9:=lo.gx;have hgc1:=lo.gc1;have hgc2:=lo.gc2;have hJ0:InI wr wk wi.heap.size g nx c1 c2 c3 c4 C.length cap s k E0.length h N1.length S D E1 cur2 0 wi S1 N1 nv:=⟨hb3,f12.obj H.hx (λe=>hgx9 e.symm),H.hO.fr f12 (λb hb9 e=>by rw[e] at hb9;exact hng hb9),λe=>by have:=(H.hO.lt e).2;have:=f12.size;omega,f12.obj H.k1 (λe=>hgc1.1 e),f12.obj H.k2 (λe=>hgc2.1 e),k3,k4,H.hN.fr f12 (λb hb9 e=>(lo.lS b hb9).2.1 e),H.hN1.fr f12 (λb hb9 e=>by rcases H.hS1 b hb9 with h9|h9;exact(lo.lS b h9).2.1 e;omega),H.hS1,λb hb9=>⟨Nat.lt_of_lt_of_le (H.hSl b hb9).1 f12.size,(H.hSl b hb9).2,by have:=(H.hSl b hb9).1;have:=f12.size;omega⟩,by simpa[aCC] using H.hP,rfl,f13⟩;have hr8:wi.heap[wr.heap.size+1]?=some (.loop rr):=f12.obj hrr oM;have hwk2:wr.heap.size+2<=wk.heap.size:=hwk;have hwki:wk.heap.size<=wi.heap.size:=f12.size;refine aL9 hr8 (λj W=>∃S2 N2 nw,InI wr wk wi.heap.size g nx c1 c2 c3 c4 C.length cap s k E0.length h N1.length S D E1 cur2 j W S2 N2 nw) (λv a=>∃x,v=#[x]/\Env 73 [(6,x),(32,x),(4,vP nx 0)] a) E.g0 (enters_of Tryz.func235 kR rfl) (aEr (g:=g) (off:=0+k*s) (N:=E0.length) (cap:=E0.length) (n:=8) (c1:=c3) (c2:=c4) oM (Gj_ _) oM oM) (λv hv=>by obtain⟨j,_,rfl⟩:=aHJ oM hv;rfl) ?_ ?_ ⟨S1,N1,nv,hJ0⟩ ?_ ?_ ?_
  ·rintro j W W' ⟨S2,N2,nw,J⟩ f;exact⟨_,_,_,J.fr lo hwk2 hwki oM oM f⟩
  ·rintro j W ⟨S2,N2,nw,J⟩;exact⟨J.k3,J.k4⟩
  ·intro l v W K hv hK;obtain⟨j,_,rfl⟩:=aHJ oM hv;have E:=aLq (d:=32) (x:=chV g (0+k*s) E0.length 8 j) (E.of (L':=[(4,vP nx 0)]) ⟨E.g6,trivial⟩) dE rfl;refine aA7 kR (λ⟨_,_,h⟩=>h) (ep E rfl (a_ rfl E.g0) λa E=>n_ (hK _ ⟨_,rfl,E⟩))
  ·rintro j v aj wi2 hv ⟨S2,N2,nw,J⟩ ⟨x9,rfl,E⟩ hwj;obtain⟨hj8,hv3⟩:=aS3 oM hv;obtain rfl:x9=chV g (0+k*s) E0.length 8 j:=by simpa using hv3
   obtain⟨F0,hF0⟩:∃F0,F0=(E1.drop (j*8)).take 8:=⟨_,rfl⟩;have hF0l:F0.length=min 8 (E0.length-j*8):=by rw[hF0];simp[hEl]
   have hx8:chV g (0+k*s) E0.length 8 j=.slice (some ⟨g,0+k*s+j*8,none⟩) F0.length F0.length:=by rw[hF0l];rfl
   rw[hx8] at E;have hFne:F0≠[]:=by rintro rfl;simp at hF0l;omega
   have hF0g:∀(i:Nat) c,F0[i]?=some c->E1[j*8+i]?=some c:=λi c hc=>by rw[hF0,List.getElem?_take] at hc;split at hc;(rw[List.getElem?_drop] at hc;exact hc);cases hc
   have hF0m:∀c∈F0,c∈D:=λc hc=>by obtain⟨i,hi⟩:=List.mem_iff_getElem?.1 hc;exact hE0m c (hE1.mem_iff.1 (Ge_ (hF0g i c hi)))
   have hFc0:∀(i:Nat) c,F0[i]?=some c->wi2.cell? ⟨g,0+k*s+j*8+i,none⟩=some (ndV c):=λi c hc=>by rw[aAj J.hb,Nat.add_assoc (0+k*s)];exact hd2 _ _ (hF0g i c hc)
   have hNF0:aCX wi2 S h F0:=J.hN.sub hF0m
   have hsr:aBh aT8 1 wi2 wi2.heap.size (some ⟨g,0+k*s+j*8,none⟩) F0 := .inr ⟨g,_,rfl,aAf J.hb,λi c hc m u hu=>by
     match m,hu with
     | 0,hu=>rw[Nat.mul_one,Nat.add_zero];simp at hu;subst hu;exact hFc0 i c hc
     | m+1,hu=>simp at hu⟩
   have hFl:0<F0.length:=by omega
   obtain⟨q0,hqe⟩:∃q0,F0[0]?=some q0:=⟨_,Gb_ hFl⟩;have hq0:wi2.cell? ⟨g,0+k*s+j*8+0,none⟩=some (ndV q0):=hFc0 0 q0 hqe;obtain⟨b0,hb0⟩:∃b0,b0=q0.2.1:=⟨_,rfl⟩;have hok0:okB b0:=by rw[hb0];exact(hNF0 q0 (Ge_ hqe)).ok
   have hnb0:nb wi2 q0.1 b0:=by rw[hb0];exact(hNF0 q0 (Ge_ hqe)).nb
   refine wpIn_block (wpIn_seq (aDh (G:=Value×Nat) (undef,0) (n:=73) (base:=[(6,.slice (some ⟨g,0+k*s+j*8,none⟩) F0.length F0.length),(32,.slice (some ⟨g,0+k*s+j*8,none⟩) F0.length F0.length),(4,vP nx 0)]) (U:=[]) (T:=λγ=>[some (33,.slice (some ⟨g,0+k*s+j*8,none⟩) F0.length F0.length),some (34,vP g (0+k*s+j*8+0)),some (35,vP q0.1 0),some (36,vP q0.1 0),some (37,vP q0.1 0),some (38,.agg (bxC b0)),some (39,.slice (some ⟨g,0+k*s+j*8,none⟩) F0.length F0.length),some (40,γ.1),some (41,.agg (ndC b0 γ.1)),some (42,vP γ.2 0),some (7,vP γ.2 0)]) (M:=λγ ls9 wm=>Fr nF_ wi2 wm/\(ls9 7=true->oNd wm wi2.heap.size γ.1 F0)/\(ls9 9=true->wi2.heap.size<=γ.2/\γ.1.ownBlock≠some γ.2/\ndB wm γ.2 b0 γ.1)) kR (λ⟨_,_,h⟩=>h) kR kR (λ_=>by kernel_rfl) (E.of ⟨E.g0,E.g1,E.g2,trivial⟩) (λx hx=>by cases hx) ⟨(Fr.refl _ _).drew,λh=>absurd h Bool.false_ne_true,λh=>absurd h Bool.false_ne_true⟩ ?_ ?_))
   ·intro j9 o9 γ ls9 a w5 ho hl E D DL DL2 hB hM;have hsr:=hsr.fr hM.1 (λ_ _ h=>h);have hq0:=hM.1.cell hq0 id;have hnb0:=hnb0.fr hM.1 id
    match j9,ho,hl,D,DL,hB with
    | 0,ho,hl,D,DL,hB=>exact z0_ ho (aAq rfl (m_ rfl E.g0) rfl hM)
    | 1,ho,hl,D,DL,hB=>exact z0_ ho (aAq rfl (aCv (i:=0) rfl (D 0 _ rfl rfl) rfl hFl) rfl hM)
    | 2,ho,hl,D,DL,hB=>exact z0_ ho (aAq rfl (aAR rfl (D 1 _ rfl rfl) hq0) rfl hM)
    | 3,ho,hl,D,DL,hB=>exact z0_ ho (aAq rfl (i_ rfl (D 2 _ rfl rfl)) rfl hM)
    | 4,ho,hl,D,DL,hB=>exact z0_ ho (aAq rfl (aBB rfl (D 3 _ rfl rfl)) rfl hM)
    | 5,ho,hl,D,DL,hB=>exact z0_ ho (aAq rfl (aBm rfl (D 4 _ rfl rfl) hnb0) rfl hM)
    | 6,ho,hl,D,DL,hB=>exact z0_ ho (aAq rfl (m_ rfl E.g0) rfl hM)
    | 7,ho,hl,D,DL,hB=>exact z0_ ho (aS5 (aBd (enters_of Tryz.func199 kR rfl) rfl rfl (D 6 _ rfl rfl)) ((aKk hsr oM).mono λe9 w9 ⟨v9,h8,h9,h10⟩=>⟨v9,h8,(⟨h9.base hM.1.size,h10⟩:oNd w9 wi2.heap.size v9 F0/\Fr nF_ w5 w9)⟩) rfl λv9 w9 f9=>⟨(v9,γ.2),rfl,(λj hj=>match j,hj with|0,_=>rfl|1,_=>rfl|2,_=>rfl|3,_=>rfl|4,_=>rfl|5,_=>rfl|6,_=>rfl|7,hj=>absurd (hl.symm.trans hj) dE|8,hj=>absurd (hl.symm.trans (DL2 8 7 rfl hj)) dE|9,_=>rfl|10,_=>rfl|e9+11,_=>rfl),⟨hM.1.trans' f9.2 (λ_ _ h=>h.elim),λ_=>f9.1,λh=>absurd (DL2 9 8 rfl h) (λe=>by have:=DL2 8 7 rfl e;rw[hl] at this;cases this)⟩⟩)
    | 8,ho,hl,D,DL,hB=>exact z0_ ho (aAq rfl (aJz (aOb (hM.2.1 (DL 7 rfl))) rfl (D 5 _ rfl rfl) (D 7 _ rfl rfl)) rfl hM)
    | 9,ho,hl,D,DL,hB =>
     obtain rfl:=Gh_ ho;clear ho;have hO8:=hM.2.1 (DL2 8 7 rfl (DL 8 rfl));exact⟨λ_=>aLB (γ.1,w5.heap.size) rfl (aN5 rfl (D 8 _ rfl rfl)) rfl (λj hj=>match j,hj with|0,_=>rfl|1,_=>rfl|2,_=>rfl|3,_=>rfl|4,_=>rfl|5,_=>rfl|6,_=>rfl|7,_=>rfl|8,_=>rfl|9,hj=>absurd (hl.symm.trans hj) dE|10,hj=>absurd (hl.symm.trans (DL2 10 9 rfl hj)) dE|e9+11,_=>rfl) ⟨hM.1.trans' ((Fr.refl nF_ w5).alloc _) (λ_ _ h=>h.elim),λh=>ow.fr (hM.2.1 h) ((Fr.refl nF_ w5).alloc _) (λ_ _ h=>h),λ_=>⟨hM.1.size,λe=>by have:=(hO8.lt e).2;omega,aAl _ _⟩⟩,λh=>by rw[aAb rfl] at h;cases h⟩
    | 10,ho,hl,D,DL,hB=>exact z0_ ho (aAq rfl (a_ rfl (D 9 _ rfl rfl)) rfl hM)
    | j9+11,ho,hl,D,DL,hB=>exact absurd ho sI
   ·rintro⟨γ36a,γ36b⟩ a wu E V hM;have E:=E.add (v := vP γ36b 0) (V 10 _ rfl);clear V;have hOa:=hM.2.1 rfl;obtain⟨hul,hau,hu⟩:=hM.2.2 rfl;have fu:=hM.1;generalize γ36b=u at E hul hau hu;generalize γ36a=va at E hOa hau hu;clear hM hsr hq0 hnb0;have hgu:g≠u:=by have:=aAf J.hb;omega
    have hFc:=λi c hc=>fu.cell (hFc0 i c hc) id;have hNF:=hNF0.fr fu (λ_ _ h=>h);have hFu:∀c∈F0,c.1≠u:=λc hc=>by have:=(lo.lS _ (hNF0 c hc).mem).1;omega
    clear hFc0 hNF0;refine t_ (wpIn_seq (wpIn_seq (aA7 kR (λ⟨_,_,h⟩=>h) (ep E rfl (m_ rfl E.g1) λa E=>ep (v := .int .i64 (F0.length:Int)) E rfl (aBz rfl E.g0) λa E=>ep (v := .int .i64 0) E rfl (m_ rfl rfl) λa E=>n_ (t_ (wpIn_block (wpIn_loop (λa w2=>∃(i:Nat),Env 73 [(45,.int .i64 (i:Int)),(44,.int .i64 (F0.length:Int)),(43,.slice (some ⟨g,0+k*s+j*8,none⟩) F0.length F0.length),(7,vP u 0),(4,vP nx 0)] a/\i<=F0.length/\ndB w2 u (aG1 b0 (F0.take i)) va/\Fr (λb=>b=u) wu w2) (λa _=>F0.length-(intOf (a.eval (.tmp 45))).toNat) ?_ ?_)))))))
    ·exact⟨0,E.of ⟨E.g0,E.g1,E.g2,E.g3,E.g6,trivial⟩,Gg_ _,hu,Fr.refl _ _⟩
    clear E;rintro a w2 ⟨i,E,hi,hu,hF⟩;have hmu:F0.length-(intOf (a.eval (.tmp 45))).toNat=F0.length-i:=by rw[E.g0];first|rfl|(simp[intOf];done)|(simp only[intOf];omega)
    rw[hmu];clear hmu;refine wpIn_seq (aA7 kR (λ⟨_,_,h⟩=>h) (ep (v := .bool (decide ((i:Int)<(F0.length:Int)))) E rfl (aBn E.g0 E.g1 u3_ rfl) λa E=>n_ (t_ (wpIn_seq ?_))));cases hq38:(decide ((i:Int)<(F0.length:Int)))
    ·rw[hq38] at E;have hie:i=F0.length:=by have:=of_decide_eq_false hq38;omega
     rw[hie,List.take_length] at hu;refine wpIn_cond_false E.g0 (wpIn_exit (te_ (te_ (be_ (t_ ?_)))));have hx9:=hF.obj (fu.obj J.hx id) (λe=>by have:=aAf J.hx;omega);have hOw:=(J.hO.fr fu (λ_ _ h=>h)).fr hF (λb hb9 e=>by have:=(J.hO.lt hb9).2;omega);have hx:=hx9;refine aA7 kR (λ⟨_,_,h⟩=>h) (ep (v:=nw) E rfl (aBa rfl E.g5 (bx hx 0 rfl)) λa E=>ep E rfl (m_ rfl E.g5) λa E=>aID (c:=(u,aG1 b0 F0,aCC F0)) (d:=64) E rfl dE rfl (aAb rfl _) rfl E.g0 λa w1 bo hso f3 E=>?_);have hwuz:=fu.size;have hwvz:=hF.size;have hwwz:=f3.size;have hOx:=hOw.fr f3 (λ_ _ h=>h);refine aGf (d:=65) E rfl dE rfl rfl rfl E.g2 hOx E.g0 hso (λh=>by cases h) (by have:=J.hc;have:=H.hc.1;simp;omega) oM λa w3 v9 hO9 f4 hloc E=>?_;have hx9:=f4.obj (f3.obj hx9 id) (λe=>by have:=(J.hO.lt e).1;have:=lo.lx;omega);obtain⟨pn,cn,hvv,_⟩:=hO9.src aEC;refine aCN E rfl (aAb rfl _) (aQd hvv rfl E.g9 E.g0 (bx hx9 0 rfl) (aAm hx9 0)) λE=>?_;clear hvv;refine n_ (b_ ?_);obtain⟨S3,hS3⟩:∃S3:Nat->Prop,S3=λb=>S2 b\/b=u\/va.ownBlock=some b\/S b:=⟨_,rfl⟩;refine aRS ⟨⟨S3,N2++[(u,aG1 b0 F0,aCC F0)],v9,?_⟩,?_⟩
     ·exact aTW lo hwk2 hwki hwj hul hau J hF0 hFne hok0 hOa hNF hu fu hF f3 f4 hO9 hloc hx9 hS3
     ·exact aWh lo hwk2 hwki hwj hul J fu hF f3 f4 v9
    rw[hq38] at E;have hi3:i<F0.length:=by have:=of_decide_eq_true hq38;omega
    obtain⟨q,hq⟩:∃q,F0[i]?=some q:=⟨_,Gb_ hi3⟩;have hqc:=hF.cell (hFc i q hq) hgu;have hqm:=Ge_ hq;have hnbq:nb w2 q.1 q.2.1:=(hNF q hqm).nb.fr hF (λe=>hFu q hqm e);refine wpIn_cond_true E.g0 (wpIn_skip (t_ (wpIn_seq (wpIn_block (wpIn_seq (aA7 kR (λ⟨_,_,h⟩=>h) (ep (v := vP g (0+k*s+j*8+i)) E rfl (aCv (i:=i) rfl E.g3 E.g1 hi3) λa E=>ep (v := vP q.1 0) E rfl (aAR rfl E.g0 hqc) λa E=>ep E rfl (a_ rfl E.g0) λa E=>n_ (t_ (aDh (G:=Unit) () (n:=73) (base:=[(7,vP u 0),(9,vP q.1 0),(45,.int .i64 (i:Int)),(44,.int .i64 (F0.length:Int)),(43,.slice (some ⟨g,0+k*s+j*8,none⟩) F0.length F0.length),(4,vP nx 0)]) (U:=[]) (T:=λγ=>[some (49,vP u 0),some (50,vP u 0),some (51,vP u 0),some (52,vP u 0),some (53,.agg (bxC (aG1 b0 (F0.take i)))),some (54,vP q.1 0),some (55,vP q.1 0),some (56,vP q.1 0),some (57,.agg (bxC q.2.1)),some (58,.agg (bxC (arB (aG1 b0 (F0.take i)) q.2.1))),some (59,vP u 0),some (60,vP u 0),none]) (M:=λγ ls9 wm=>Fr (λb=>b=u) w2 wm/\ndB wm u (bif ls9 12 then(arB (aG1 b0 (F0.take i)) q.2.1) else(aG1 b0 (F0.take i))) va) kR (λ⟨_,_,h⟩=>h) kR kR (λ_=>by kernel_rfl) (E.of ⟨E.g7,E.g0,E.g4,E.g5,E.g6,E.g8,trivial⟩) (λx hx=>by cases hx) ⟨(Fr.refl _ _).drew,(Fr.refl nF_ _).drew.obj hu id⟩ ?_ ?_)))))))))
    ·intro j9 o9 γ ls9 a w5 ho hl E D9 DL DL2 hB hM;have hnq:=hnbq.fr hM.1 (λe=>hFu q hqm e)
     match j9,ho,hl,D9,DL,hB with
     | 0,ho,hl,D9,DL,hB =>
      obtain rfl:=Gh_ ho;exact⟨λ_=>aAq rfl (m_ rfl E.g0) rfl hM,λh=>by rw[aAb rfl] at h;cases h⟩
     | 1,ho,hl,D9,DL,hB =>
      obtain rfl:=Gh_ ho;exact⟨λ_=>aAq rfl (m_ rfl E.g0) rfl hM,λh=>by rw[aAb rfl] at h;cases h⟩
     | 2,ho,hl,D9,DL,hB =>
      obtain rfl:=Gh_ ho;exact⟨λ_=>aAq rfl (i_ rfl (D9 1 _ rfl rfl)) rfl hM,λh=>by rw[aAb rfl] at h;cases h⟩
     | 3,ho,hl,D9,DL,hB =>
      obtain rfl:=Gh_ ho;exact⟨λ_=>aAq rfl (aBB rfl (D9 2 _ rfl rfl)) rfl hM,λh=>by rw[aAb rfl] at h;cases h⟩
     | 4,ho,hl,D9,DL,hB =>
      have h9:ls9 12=false:=by
       cases h8:ls9 12 with
       | false=>rfl
       | true=>exact absurd (hl.symm.trans (DL2 9 4 rfl (DL2 12 9 rfl h8))) dE
      have h7:=hM.2;rw[h9] at h7;obtain rfl:=Gh_ ho;exact⟨λ_=>aAq rfl (aBm rfl (D9 3 _ rfl rfl) (aQx (p:=(aG1 b0 (F0.take i))) h7 0 rfl rfl rfl rfl)) rfl hM,λh=>by rw[aAb rfl] at h;cases h⟩
     | 5,ho,hl,D9,DL,hB =>
      obtain rfl:=Gh_ ho;exact⟨λ_=>aAq rfl (m_ rfl E.g1) rfl hM,λh=>by rw[aAb rfl] at h;cases h⟩
     | 6,ho,hl,D9,DL,hB =>
      obtain rfl:=Gh_ ho;exact⟨λ_=>aAq rfl (i_ rfl (D9 5 _ rfl rfl)) rfl hM,λh=>by rw[aAb rfl] at h;cases h⟩
     | 7,ho,hl,D9,DL,hB =>
      obtain rfl:=Gh_ ho;exact⟨λ_=>aAq rfl (aBB rfl (D9 6 _ rfl rfl)) rfl hM,λh=>by rw[aAb rfl] at h;cases h⟩
     | 8,ho,hl,D9,DL,hB =>
      obtain rfl:=Gh_ ho;exact⟨λ_=>aAq rfl (aBm rfl (D9 7 _ rfl rfl) hnq) rfl hM,λh=>by rw[aAb rfl] at h;cases h⟩
     | 9,ho,hl,D9,DL,hB =>
      obtain rfl:=Gh_ ho
      exact⟨λ_=>aHK rfl (aAB (enters_of Tryz.func200 kR rfl) rfl rfl (D9 4 _ rfl rfl) (D9 8 _ rfl rfl)) (aIZ _ _ _) rfl λw9 f1=>⟨hM.1.trans' f1 (λ_ _ h=>h.elim),by
       have h6:=f1.obj hM.2 id
       have h5:ls9 12=false:=by
        cases h8:ls9 12 with
        | false=>rfl
        | true=>exact absurd (hl.symm.trans (DL2 12 9 rfl h8)) dE
       exact h6⟩,λh=>by rw[aAb rfl] at h;cases h⟩
     | 10,ho,hl,D9,DL,hB =>
      obtain rfl:=Gh_ ho;exact⟨λ_=>aAq rfl (i_ rfl (D9 0 _ rfl rfl)) rfl hM,λh=>by rw[aAb rfl] at h;cases h⟩
     | 11,ho,hl,D9,DL,hB =>
      obtain rfl:=Gh_ ho;exact⟨λ_=>aAq rfl (aBB rfl (D9 10 _ rfl rfl)) rfl hM,λh=>by rw[aAb rfl] at h;cases h⟩
     | 12,ho,hl,D9,DL,hB =>
      have h7:=hM.2;rw[hl] at h7;obtain rfl:=Gh_ ho;exact⟨λ_=>aDm rfl (aNm rfl (D9 11 _ rfl rfl) (D9 9 _ rfl rfl) h7) rfl ⟨hM.1.trans' (Fr.one4 _ _ _ _ _ _) (λ_ _ e=>e),ndB.set h7 _⟩,λh=>by rw[aAb rfl] at h;cases h⟩
     | j9+13,ho,hl,D9,DL,hB=>exact absurd ho sI
    ·rintro _ a w6 E V hM;clear V;have hu:ndB w6 u (arB (aG1 b0 (F0.take i)) q.2.1) va:=hM.2;have hF:=hF.trans' hM.1 (λ_ _ e=>e);rw[<-aP1 hq] at hu;clear hM;refine b_ (t_ (aA7 kR (λ⟨_,_,h⟩=>h) (ep (v := .int .i64 ((i:Int)+1)) E rfl (aAQ u3_ E.g2 rfl oM oM rfl) λa E=>es_ E rfl (m_ rfl E.g0) λa E=>n_ (t_ ?_))));refine⟨⟨i+1,E.of ⟨E.g0,E.g4,E.g5,E.g2,E.g6,trivial⟩,by omega,hu,hF⟩,?_⟩;rw[E.g0];simp only[intOf];omega
  ·rintro W ⟨S2,N2,nw,J⟩;refine b_ (b_ ?_);have hjl:=aOY (g:=g) (off:=0+k*s) (N:=E0.length) (n:=8) oM;rw[hjl] at J;refine aRS ⟨⟨S2,N2,nw,cur2,?_⟩,?_⟩
   ·exact aQ9 hDl H J hks hE0 hE0l hE1 hout hs8 hlt1
   ·exact aTs lo J hwk2
 ·rintro W ⟨S1,N1,nv,cr,H⟩ hDk;have E:=aRv (D:=wr.heap.size) E;have hkl:=aOY (g:=g) (off:=0) (N:=C.length) hs1;rw[hkl] at H;obtain⟨pn,cn,hvn,_,_,_,_⟩:=H.hO.src aEC;subst hvn;have hPe:=H.hP;have hcl:=H.hc;have hkk:=aOZ (N:=C.length) hs1;rw[Gc_ (by rw[hDl];exact hkk)] at hPe;have hk1:1<=(C.length+s-1) / s:=aUl hs1 oM;have hcl2:=hcl.2 hk1;rw[Nat.min_eq_right hkk] at hcl2;have hPn:(aCC N1).Perm (aCC C0):=(hPe.trans hPD).trans hP;have hN1:=H.hN1;have hOn:oNd W 0 (.slice pn N1.length cn) N1:=H.hO.base (Gg_ _);have hnm:¬aB0 ds wr.heap.size:=λhk=>by have:=aAf (hm.at hk);omega
  have hmn:=((hm.fr H.hf (λb hk e=>by have h9:=hm.at hk;rcases e with e|e;(subst e;rw[h9] at hb;cases hb);(subst e;rw[h9] at hx;cases hx))).cons hDk hnm);have hwl:w.heap.size<=wr.heap.size:=hT.size;have hmwn:∀b,aB0 (mkD wr.heap.size::ds) b->w.heap.size<=b:=λb hk=>by rcases aBP.1 hk with rfl|hk;exact hwl;exact hmw b hk
  have hSn:∀b,S1 b->b<W.heap.size/\(Value.slice pn N1.length cn).ownBlock≠some b/\¬aB0 (mkD wr.heap.size::ds) b:=λb hb9=>⟨(H.hSl b hb9).1,(H.hSl b hb9).2,λhk=>by
    rcases H.hS1 b hb9 with h9|h9
    ·rcases aBP.1 hk with rfl|hk
     ·have:=(lo.lS _ h9).1;omega
     ·exact(hS b h9).2.2 hk
    ·rcases aBP.1 hk with rfl|hk
     ·omega
     ·have:=aAf (hm.at hk);omega⟩
  have hS0n:∀b,S1 b->S0 b\/w.heap.size<=b:=λb hb9=>by rcases H.hS1 b hb9 with h9|h9;exact hS0 b h9;exact .inr oM
  have hTn:=hT.trans' H.hf (λr hr e=>by rcases e with e|e;(rcases hvb g rfl with h9|h9;(rw[e];exact h9);omega);omega);have hvn:∀b,(Value.slice pn N1.length cn).ownBlock=some b->v0.ownBlock=some b\/w.heap.size<=b:=λb hb9 =>.inr (by have:=(H.hO.lt hb9).1;omega);have hx:=H.hx;refine b_ (t_ (r_ (ep (v := .slice pn N1.length cn) E rfl (aBa rfl E.g3 (bx hx 0 rfl)) λa E=>es_ E rfl (a_ rfl E.g0) λa E=>n_ (b_ (t_ ?_)))));refine⟨⟨pn,cn,N1,h+1,S1,_,E.of ⟨E.g0,E.get 14 rfl,trivial⟩,hOn,hN1,hSn,hS0n,hmn,hmwn,hPn,by omega,hTn,hvn⟩,?_⟩;rw[E.g0];simp only[lenOf];omega
theorem aMD {P:Program}{K t e:TypeId}(ht:P.underlying t=some (.map K e)){b n:Nat}{m}(h:aDS P K w b n m) :
  ∃o cnt,(Instr.range t (.map (some b))).run P w=.ok (vP w.heap.size 0) (w.alloc o)/\Rng P K (w.alloc o) b w.heap.size m (λk=>(m k).isSome=true) cnt/\cnt<=n:=by
 have hlt:=h.lt;obtain⟨es,clock,hb,h,hs⟩:=h;refine⟨_,_,run_range_map w t K e b es clock ht hb,⟨es,clock,clock,#[],clock,(aBJ hlt _).trans hb,h,aAl _ _,h.born,rfl,λx hx=>?_,λk hk=>?_,Gj_ _,Gj_ _⟩,?_⟩
 ·show(m x.key).isSome=true↔_;rw[(h.at_ x.key x.val).2 ⟨x,hx,rfl,rfl⟩];simp
 ·obtain⟨v,hv⟩:=Option.isSome_iff_exists.1 hk;obtain⟨x,hx,h1,_⟩:=(h.at_ k v).1 hv;exact⟨x,hx,h1⟩
 ·unfold leftOf;exact Gn_ (Array.size_filter_le ..) hs
variable{s:ByteArray}{mb:Nat}
section
variable{w':World}{x y:Operand}{b:Bx}{r:Nat}
theorem aKK (h:(Instr.next (vP r 0) false o.type).run Tryz.prog w=.ok v w')(ho:o.op=.next x false)(hx:ρ x=vP r 0):(execOp ρ o).run Tryz.prog w=.ok (.value v) w':=by
 simp[execOp,ho,hx,h,Result.andThen]
theorem aNz (h:(Instr.entry (vP r 0)).run Tryz.prog w=.ok v w')(ho:o.op=.entry x)(hx:ρ x=vP r 0):(execOp ρ o).run Tryz.prog w=.ok (.value v) w':=by
 simp[execOp,ho,hx,h,Result.andThen]
theorem aJu (h:(Instr.range 180 (.map (some mb))).run Tryz.prog w=.ok v w')(ho:o.op=.range 180 x)(hx:ρ x=.map (some mb)):(execOp ρ o).run Tryz.prog w=.ok (.value v) w':=by
 simp[execOp,ho,hx,h,Result.andThen]
theorem aFo {vs:Array Value}(hk:vs[k]?=some v)(ho:o.op=.extract x k)(hx:ρ x=.tuple vs):(execOp ρ o).run Tryz.prog w=.ok (.value v) w:=by
 simp[execOp,ho,hx,go_sem,hk]
abbrev lfC (b:Bx)(s:ByteArray):Array Value:=#[.int .i64 b.1.1,.int .i64 b.1.2,.int .i64 b.2.1,.int .i64 b.2.2,.string s,.slice none 0 0]
theorem aLN (ho:o.op=.build 161 #[(0,x),(1,y)])(hx:ρ x=.agg (bxC b))(hy:ρ y=.string s):(execOp ρ o).run Tryz.prog w=.ok (.value (.agg (lfC b s))) w:=by
 simp[execOp,ho,hx,hy,go_sem]
theorem aLQ (ho:o.op=.box 161 x)(hx:ρ x=.agg (lfC b s)):(execOp ρ o).run Tryz.prog w=.ok (.value (vP w.heap.size 0)) (w.alloc (.cells (lfC b s) 161)):=by
 simp[execOp,ho,hx,go_sem]
theorem aQf {p0:Option Addr}{u:Value}{g:Nat}(ho:o.op=.store 157 x y)(hx:ρ x=vP g off)(hy:ρ y=.pointer p0)(hc:w.cell? ⟨g,off,none⟩=some u)(hz:w.frozen? ⟨g,off,none⟩=false):(execOp ρ o).run Tryz.prog w=.ok .skip (w.setCell ⟨g,off,none⟩ (.pointer p0)):=by
 simp[execOp,ho,hx,hy,go_sem,hc,hz]
end
def aYq (w:World)(p mb N:Nat)(S:Nat->Prop)(m:ByteArray->Option Bx)(e:Ending)(w':World):Prop :=
 ∃S' rv',e=.returned rv'/\IxAt w' p mb N S' m rv' true/\Fr (λk=>k=p) w w'/\∀k,S' k->S k\/w.heap.size<=k
def aUV (m:ByteArray->Option Bx)(left:Value->Prop)(L:List En):Prop:=(L.map (·.1)).Nodup/\∀s b,(s,b)∈L↔m s=some b/\¬left (.string s)
variable{m:ByteArray->Option Bx}
theorem aUV.start :aUV m (λk=>(bxM m k).isSome=true) []:=by
 refine⟨List.nodup_nil,λs b=>⟨λh=>(by cases h),λh=>absurd ?_ h.2⟩⟩;show(bxM m (.string s)).isSome=true;rw[aHN,h.1];rfl
variable{left:Value->Prop}
theorem aUV.next {L:List En}(h:aUV m left L){b:Bx}(hl:left (.string s))(hm:m s=some b):aUV m (λx=>left x/\x ≠ .string s) (L++[(s,b)]):=by
 refine⟨?_,λt c=>?_⟩
 ·rw[List.map_append,List.nodup_append];refine⟨h.1,by simp,?_⟩;intro x hx y hy e;simp at hy;subst hy;subst e;obtain⟨z,hz,hze⟩:=List.mem_map.1 hx;exact((h.2 z.1 z.2).1 hz).2 (by rw[hze];exact hl)
 ·rw[List.mem_append,h.2];constructor
  ·rintro(⟨h1,h2⟩|h1)
   ·exact⟨h1,λh3=>h2 h3.1⟩
   ·simp at h1;obtain⟨rfl,rfl⟩:=h1;exact⟨hm,λh3=>h3.2 rfl⟩
  ·rintro⟨h1,h2⟩
   by_cases ht:t=s
   ·subst ht;rw[hm] at h1;cases h1;exact .inr sI
   ·refine .inl ⟨h1,λh3=>h2 ⟨h3,λe=>ht ?_⟩⟩;simpa using e
theorem aUV.ends {L:List En}(h:aUV m left L)(hn:∀k,¬left k):aPI L m:=⟨h.1,λs b=>⟨λh2=>((h.2 s b).1 h2).1,λh2=>(h.2 s b).2 ⟨h2,hn _⟩⟩⟩
theorem aPI.perm {L K:List En}(h:aPI L m)(hp:K.Perm L):aPI K m:=⟨(hp.map _).nodup_iff.2 h.1,λs b=>by rw[hp.mem_iff];exact h.2 s b⟩
set_option maxRecDepth 100000 in
set_option maxHeartbeats 4000000 in
theorem aG6 {p:Nat}{rv:Value}{pk:Bool}(h:IxAt w p mb N S0 m rv pk)(hNb:N<=100000):Calls Tryz.prog 109 #[vP p 0] w (aYq w p mb N S0 m):=by
 refine aBV Tryz.func109 rfl rfl (n:=40) dE λa E=>?_;have hf:Fr nF_ w w:=Fr.refl _ _;have hpl:p<w.heap.size:=aAf h.hp;have hml:mb<w.heap.size:=h.hm.lt;have hσ:∀k,S0 k->k<w.heap.size:=h.lt;refine s_ (r_ (ep (v:=(Value.pointer none)) E rfl (a_ rfl rfl) λa E=>n_ (t_ (s_ (s_ (r_ (ep E rfl (m_ rfl E.g1) λa E=>ep E rfl (i_ rfl E.g0) λa E=>ep (v := vP p 2) E rfl (aO9 rfl E.g0) λa E=>ep (v := .bool pk) E rfl (aNy rfl E.g0 (bx h.hp 2 rfl)) λa E=>ep (v := .bool (!pk)) E rfl (aBM rfl E.g0) λa E=>n_ (t_ ?_))))))))
 cases hq34:pk with
 | false =>
  rw[hq34] at E;rw[hq34] at h;refine c_t E.g0 (s_ (r_ (ep (v := .slice none 0 0) E rfl (a_ rfl rfl) λa E=>n_ (t_ (s_ (s_ (r_ (ep E rfl (m_ rfl E.g7) λa E=>ep E rfl (i_ rfl E.g0) λa E=>ep (v := vP p 0) E rfl (aOA rfl E.g0) λa E=>ep (v := .map (some mb)) E rfl (aHl rfl E.g0 (bx h.hp 0 rfl)) λa E=>?_))))))));obtain⟨oi,cnt,hrun,hr,hcn⟩:=aMD u180_ h.hm;have f1:Fr nF_ w (w.alloc oi):=(Fr.refl _ _).alloc _;refine ep (v := vP w.heap.size 0) E rfl (aJu hrun rfl E.g0) λa E=>?_;have h:=IxAt.fr h f1 id id (λ_ _ h=>h);have hf:=hf.trans f1;obtain⟨r,hre⟩:∃r,r=w.heap.size:=⟨_,rfl⟩;rw[<-hre] at E hr;obtain⟨wr,hwr⟩:∃wr,wr=w.alloc oi:=⟨_,rfl⟩;rw[<-hwr] at h hf hr ⊢;have hrl:r<wr.heap.size:=hr.lt;clear hrun f1 hwr;refine n_ (t_ (bk_ (wp_loop (λa w2=>∃(C:List Nd)(S:Nat->Prop)(v:Value)(left:Value->Prop)(cnt:Nat),Env 40 [(15,vP r 0),(3,v),(2,Value.pointer none),(0,vP p 0)] a/\Rng Tryz.prog 9 w2 mb r (bxM m) left cnt/\oNd w2 (r+1) v C/\aCX w2 S 0 C/\(∀k,S k->r<k/\k<w2.heap.size/\v.ownBlock≠some k)/\aUV m left (aCC C)/\C.length+cnt<=N/\IxAt w2 p mb N S0 m rv false/\Fr nF_ w w2) (λ_ w9=>w9.rangeLeft mb r) ?_ ?_)))
  ·exact⟨[],λ_=>False,.slice none 0 0,_,cnt,E.of ⟨E.g0,E.g5,E.g11,E.get 12 rfl,trivial⟩,hr,aCZ _,(λc hc=>by cases hc),(λk hk=>hk.elim),aUV.start,by simpa using hcn,h,hf⟩
  clear E hr h hf hcn;rintro a w2 ⟨C,S,v,left,cnt,E,hr,hO,hN,hS,hE,hcn,h,hf⟩;rw[hr.left_eq];rcases hr.next 0 with⟨hno,hrun⟩|⟨key,v9,wN,cnt2,hl9,hm9,⟨l9,hk9⟩,hrun,hr2,hc9,f9,hent⟩
  ·skip
   refine s_ (r_ (ep (v := .tuple #[.bool false]) E rfl (aKK hrun rfl E.g0) λa E=>ep (v := .bool false) E rfl (aFo (v := .bool false) rfl rfl E.g0) λa E=>n_ (t_ (s_ (c_f E.g0 (x_ (te_ (te_ (be_ (t_ (r_ (ep E rfl (m_ rfl E.g5) λa E=>ep E rfl (m_ rfl E.g6) λa E=>ep E rfl (m_ rfl E.g5) λa E=>aB1 (d:=31) (R:=λu w8=>aWK w2 S v C (.returned u) w8) E rfl dE rfl (aAb rfl _) (aBd (enters_of Tryz.func150 kR rfl) rfl rfl E.g0) ((aMa hO hN (λk hk=>⟨(hS k hk).2.1,(hS k hk).2.2⟩) oM).mono λe w8 hh=>by obtain⟨u,h1,h2⟩:=hh;exact⟨u,h1,u,rfl,h2⟩) λa wp u9 hR E=>?_))))))))))));obtain⟨rv2,hrv,fP,hcase⟩:=hR;obtain rfl:u9=rv2:=by injection hrv
   obtain⟨rp,hrp⟩:∃rp,u9=.pointer rp:=by
    rcases hcase with⟨e,_⟩|⟨S5,n5,p5,b5,L5,e,_⟩
    ·exact⟨_,e⟩
    ·exact⟨_,e⟩
   rw[hrp] at E;have hp9:=fP.obj h.hp (λe=>by have:=(hO.lt e).1;omega);refine ep E rfl (i_ rfl E.g3) λa E=>ep (v := vP p 1) E rfl (aLn rfl E.g0) λa E=>aCN E rfl (aAb rfl _) (aQf rfl E.g0 E.g2 (bx hp9 1 rfl) (aAm hp9 1)) λE=>?_;have hp8:=aAk (off:=1) hp9 (.pointer rp);have g1:Fr (λk=>k=p) wp (wp.setCell ⟨p,1,none⟩ (.pointer rp)):=(Fr.refl (λk=>k=p) wp).setCell (p:=⟨p,1,none⟩) (λ_=>rfl) _;generalize wp.setCell ⟨p,1,none⟩ (.pointer rp)=wq at hp8 g1 ⊢;refine ep E rfl (i_ rfl E.g4) λa E=>ep (v := vP p 2) E rfl (aO9 rfl E.g0) λa E=>aCN E rfl (aAb rfl _) (aTg rfl E.g0 rfl (bx hp8 2 rfl) (aAm hp8 2)) λE=>?_;have hp7:=aAk (off:=2) hp8 (.bool true);have g2:=g1.setCell (p:=⟨p,2,none⟩) (λ_=>rfl) (.bool true);generalize wq.setCell ⟨p,2,none⟩ (.bool true)=wz at hp7 g2 ⊢;refine n_ (t_ (s_ ?_));have hrl9:=hr.lt;have hmn:=aUV.ends hE hno;have fO:Fr nF_ w wp:=hf.trans' fP (λr1 hr1 e=>by have:=(hO.lt e).1;omega)
   have hN9:∃S9:Nat->Prop,(∀k,S9 k->k<wp.heap.size/\r<k)/\aL6 wp S9 (.pointer rp) m:=by
    rcases hcase with⟨e,e2⟩|⟨S5,n5,p5,b5,L5,e,hN5,hP5,hS5⟩
    ·refine⟨λ_=>False,λ_ h=>h.elim,.inl ⟨by rw[<-hrp,e],λs=>?_⟩⟩
     cases hx:m s with
     | none=>rfl
     | some c=>have:=(hmn.2 s c).2 hx;rw[e2] at this;cases this
    ·refine⟨S5,λk hk=>⟨(hS5 k hk).1,?_⟩,.inr ⟨n5,p5,b5,L5,by rw[<-hrp,e],hN5,hmn.perm hP5⟩⟩;rcases(hS5 k hk).2 with h9|h9
     ·exact(hS k h9).1
     ·omega
   obtain⟨S9,hS9,hRt⟩:=hN9;have hm9:aDS Tryz.prog 9 wz mb N (bxM m):=(h.hm.fr fP (λe=>by have:=(hO.lt e).1;omega)).fr g2 (λe=>h.ne e.symm);have h:=(⟨hp7,hm9,h.ne,λhk=>by have:=(hS9 _ hk).2;omega,λhk=>by have:=(hS9 _ hk).2;omega,λk hk=>Nat.lt_of_lt_of_le (hS9 k hk).1 g2.size,h.ok,⟨_,rfl⟩,λ_=>hRt.fr g2 (λk hk e=>by have:=(hS9 k hk).2;omega)⟩:IxAt wz p mb N S9 m (.pointer rp) true);have hfz:Fr (λk=>k=p) w wz:=(fO.mono λ_ _ h=>h.elim).trans' g2 (λ_ _ e=>e);refine r_ (ep (v := vP p 0) E rfl (m_ rfl (E.get 13 rfl)) λa E=>ep E rfl (i_ rfl E.g0) λa E=>ep (v := vP p 1) E rfl (aLn rfl E.g0) λa E=>ep (v := .pointer rp) E rfl (aAR rfl E.g0 (bx h.hp 1 rfl)) λa E=>es_ E rfl (a_ rfl E.g0) λa E=>n_ (t_ (wr_ (aAs (t:=2) rfl E E.g0 ⟨S9,_,rfl,h,hfz,λk hk =>.inr (by have:=(hS9 k hk).2;omega)⟩))))
  ·skip
   obtain⟨s9,rfl,hs9⟩:=aTM hk9
   obtain⟨bb,hms,rfl⟩:∃bb,m s9=some bb/\v9=.agg (bxC bb):=by
    rw[aHN] at hm9
    cases hx:m s9 with
    | none=>rw[hx] at hm9;cases hm9
    | some bb=>rw[hx] at hm9;exact⟨bb,rfl,(Gh_ hm9).symm⟩
   refine s_ (r_ (ep (v := .tuple #[.bool true,.string s9,.agg (bxC bb)]) E rfl (aKK hrun rfl E.g0) λa E=>?_));have h:=IxAt.fr h f9 (by have:=hr2.lt;omega) (by have:=hr2.lt;omega) (λk hk e=>by have:=hσ k hk;omega);have hf:=hf.trans' f9 (λr hr e=>by omega);have hO:=hO.fr f9 (λk hk e=>by have:=(hO.lt hk).1;omega);have hN:=hN.fr f9 (λk hk e=>by have:=(hS k hk).1;omega);have hS:=λk hk=>(⟨(hS k hk).1,Nat.lt_of_lt_of_le (hS k hk).2.1 f9.size,(hS k hk).2.2⟩:r<k/\k<wN.heap.size/\v.ownBlock≠some k);clear hrun;refine ep (v := .bool true) E rfl (aFo (v := .bool true) rfl rfl E.g0) λa E=>n_ (t_ (s_ (c_t E.g0 (k_ (t_ (bk_ (s_ ?_)))))));have hrl9:=hr2.lt;have hOo:=λk (hk:v.ownBlock=some k)=>(hO.lt hk).2;refine r_ (ep (v := .tuple #[.string s9,.agg (bxC bb)]) E rfl (aNz hent rfl E.g2) λa E=>ep (v := .string s9) E rfl (aFo (v := .string s9) rfl rfl E.g0) λa E=>ep (v := .agg (bxC bb)) E rfl (aFo (v := .agg (bxC bb)) rfl rfl E.g1) λa E=>aCy (d:=5) E rfl dE rfl (aAb rfl _) rfl λa wa b5 eb5 hb5 f8 E=>ep E rfl (a_ rfl E.g2) λa E=>aD7 E rfl (aAb rfl _) rfl E.g1 E.g2 hb5 λwb hb5 f1 E=>?_);have f8:=f8.trans' f1 (λr hr e=>by omega);clear f1;refine n_ (t_ (r_ (ep E rfl (m_ rfl E.g8) λa E=>ep (v := .agg (bxC bb)) E rfl (aBm rfl E.g2 (aQx (p:=bb) hb5 0 rfl rfl rfl rfl)) λa E=>ep E rfl (m_ rfl E.g2) λa E=>ep (v := .agg (lfC bb s9)) E rfl (aLN rfl E.g1 E.g0) λa E=>?_)));have hwz:=aAf hb5;refine ep (v := vP wb.heap.size 0) E rfl (aLQ rfl E.g0) λa E=>?_;have f1:Fr nF_ wb (wb.alloc (.cells (lfC bb s9) 161)):=(Fr.refl _ _).alloc _;have hu:(wb.alloc (.cells (lfC bb s9) 161)).heap[wb.heap.size]?=some (.cells (lfC bb s9) 161 (0,0)):=aAl _ _;obtain⟨u,hue⟩:∃u,u=wb.heap.size:=⟨_,rfl⟩;obtain⟨wu,hwu⟩:∃wu,wu=wb.alloc (.cells (lfC bb s9) 161):=⟨_,rfl⟩;have hun:wN.heap.size<=u:=by have:=f8.size;omega
   rw[<-hue] at E hu;rw[<-hwu] at f1 hu ⊢;have f8:=f8.trans f1;have hul:=aAf hu;clear f1 hwu;refine aID (c:=(u,bb,[(s9,bb)])) (d:=26) E rfl dE rfl (aAb rfl _) rfl E.g0 λa w1 bo hso f3 E=>?_;have f8:=f8.trans f3;have hu:=f3.obj hu id;clear f3;have hO:=hO.fr f8 (λ_ _ h=>h);have hws:=f8.size;refine aGf (B:=r+1) (d:=27) E rfl dE rfl rfl rfl E.g5 hO E.g0 hso (λh=>by cases h) (by simp;omega) oM λa w3 v8 hO9 f4 hloc E=>es_ E rfl (a_ rfl E.g0) λa E=>n_ (b_ (t_ ?_));have hu1:=aAf hu;have hr3:=(hr2.fr f8 id id).fr f4 (λe=>by have:=(hO.lt e).1;omega) (λe=>by have:=(hO.lt e).1;omega);have h:=(IxAt.fr h f8 id id (λ_ _ h=>h)).fr f4 (λe=>by have:=(hO.lt e).1;omega) (λe=>by have:=(hO.lt e).1;omega) (λk hk e=>by have:=(hO.lt e).1;have:=hσ k hk;omega);have hf:=(hf.trans f8).trans' f4 (λr1 hr1 e=>by have:=(hO.lt e).1;omega);have hu2:=f4.obj hu (λe=>by have:=(hO.lt e).2;have:=hOo _ e;omega)
   have hNn:aCX w3 (λk=>S k\/k=u) 0 (C++[(u,bb,[(s9,bb)])]):=by
    intro c hc;rcases List.mem_append.1 hc with hc|hc
    ·exact(((hN c hc).fr f8 (λ_ _ h=>h)).fr f4 (λk hk e=>(hS k hk).2.2 e)).mono (λk hk =>.inl hk)
    ·simp only[Gd_] at hc;subst hc;exact⟨⟨.inr rfl,h.ok s9 bb hms⟩,s9,hu2,rfl⟩
   have hSn:∀k,(S k\/k=u)->r<k/\k<w3.heap.size/\v8.ownBlock≠some k:=by
    intro k hk;have hz4:=f4.size;have hz9:=hu1;rcases hk with hk|rfl
    ·have h9:=hS k hk;refine⟨h9.1,by omega,λe=>?_⟩;rcases hloc with e2|e2
     ·rw[e2] at e;exact h9.2.2 e
     ·rw[e2] at e;have:=Gh_ e;omega
    ·refine⟨by omega,by omega,λe=>?_⟩;rcases hloc with e2|e2
     ·rw[e2] at e;have:=hOo _ e;omega
     ·rw[e2] at e;have:=Gh_ e;omega
   have hEn:aUV m (λx=>left x/\x ≠ .string s9) (aCC (C++[(u,bb,[(s9,bb)])])):=by
    have:=hE.next hl9 hms;simpa[aCC] using this
   refine⟨⟨_,_,v8,_,cnt2,E.of ⟨E.get 15 rfl,E.g0,E.get 16 rfl,E.get 17 rfl,trivial⟩,hr3,hO9,hNn,hSn,hEn,by simp;omega,h,hf⟩,?_⟩;rw[hr3.left_eq];exact hc9
 | true =>
  rw[hq34] at E;rw[hq34] at h;refine c_f E.g0 (k_ (t_ (s_ (r_ (ep E rfl (m_ rfl E.g6) λa E=>ep E rfl (i_ rfl E.g0) λa E=>ep (v := vP p 1) E rfl (aLn rfl E.g0) λa E=>ep (v:=rv) E rfl (aAR rfl E.g0 (bx h.hp 1 rfl)) λa E=>es_ E rfl (a_ rfl E.g0) λa E=>n_ (t_ (wr_ (aAs (t:=2) rfl E E.g0 ⟨S0,rv,rfl,h,hf.mono λ_ _ h=>h.elim,λk hk =>.inl hk⟩))))))))
end Go.Proofs.YtngjlnhojicjeaaGreatDoor
namespace Go.Proofs
open Go.Shelf
def Tryz.sortS_ren:Go.Shelf.Ren:=⟨λ| 6=>110|8=>152|9=>151|19=>210|20=>211|21=>201|22=>202|23=>203|24=>204|25=>205|26=>206|27=>207|28=>208|29=>209|36=>236|31=>237|32=>238|37=>239|38=>240|39=>241|41=>267|n=>n,λ| 27=>45|29=>9|3=>3|32=>139|26=>45|0=>0|44=>301|46=>164|4=>4|36=>294|35=>293|41=>77|5=>5|9=>9|53=>334|57=>338|63=>375|64=>376|n=>n,λ| n=>n⟩
theorem Tryz.sortS:Go.Proofs.SlLaysM.n6 Tryz.prog Tryz.sortS_ren:={
  mixed:=by kernel_rfl
  f6:=⟨Tryz.f110.name,by decide,Tryz.func110.trans (congrArg some (by kernel_rfl))⟩
  f8:=Tryz.func152.trans (congrArg some (by kernel_rfl))
  f9:=⟨Tryz.f151.name,by decide,Tryz.func151.trans (congrArg some (by kernel_rfl))⟩
  f19:=Tryz.func210.trans (congrArg some (by kernel_rfl))
  f20:=Tryz.func211.trans (congrArg some (by kernel_rfl))
  f21:=⟨Tryz.f201.name,by decide,Tryz.func201.trans (congrArg some (by kernel_rfl))⟩
  f22:=⟨Tryz.f202.name,by decide,Tryz.func202.trans (congrArg some (by kernel_rfl))⟩
  f23:=⟨Tryz.f203.name,by decide,Tryz.func203.trans (congrArg some (by kernel_rfl))⟩
  f24:=⟨Tryz.f204.name,by decide,Tryz.func204.trans (congrArg some (by kernel_rfl))⟩
  f25:=⟨Tryz.f205.name,by decide,Tryz.func205.trans (congrArg some (by kernel_rfl))⟩
  f26:=⟨Tryz.f206.name,by decide,Tryz.func206.trans (congrArg some (by kernel_rfl))⟩
  f27:=⟨Tryz.f207.name,by decide,Tryz.func207.trans (congrArg some (by kernel_rfl))⟩
  f28:=⟨Tryz.f208.name,by decide,Tryz.func208.trans (congrArg some (by kernel_rfl))⟩
  f29:=⟨Tryz.f209.name,by decide,Tryz.func209.trans (congrArg some (by kernel_rfl))⟩
  f31:=Tryz.func237.trans (congrArg some (by kernel_rfl))
  f32:=Tryz.func238.trans (congrArg some (by kernel_rfl))
  f36:=⟨Tryz.f236.name,by decide,Tryz.func236.trans (congrArg some (by kernel_rfl))⟩
  f37:=⟨Tryz.f239.name,by decide,Tryz.func239.trans (congrArg some (by kernel_rfl))⟩
  f38:=⟨Tryz.f240.name,by decide,Tryz.func240.trans (congrArg some (by kernel_rfl))⟩
  f39:=⟨Tryz.f241.name,by decide,Tryz.func241.trans (congrArg some (by kernel_rfl))⟩
  f41:=⟨Tryz.f267.name,by decide,Tryz.func267.trans (congrArg some (by kernel_rfl))⟩
  t0:=Tryz.underlying0
  a0:=Tryz.isAgg0
  z0:=Tryz.sizeOf0
  v0:=Tryz.zeroValue0
  t3:=Tryz.underlying3
  a3:=Tryz.isAgg3
  z3:=Tryz.sizeOf3
  v3:=Tryz.zeroValue3
  t4:=Tryz.underlying4
  a4:=Tryz.isAgg4
  z4:=Tryz.sizeOf4
  v4:=Tryz.zeroValue4
  t5:=Tryz.underlying5
  a5:=Tryz.isAgg5
  z5:=Tryz.sizeOf5
  v5:=Tryz.zeroValue5
  t9:=Tryz.underlying9
  a9:=Tryz.isAgg9
  z9:=Tryz.sizeOf9
  v9:=Tryz.zeroValue9
  t26:=Tryz.underlying45
  a26:=Tryz.isAgg45
  z26:=Tryz.sizeOf45
  v26:=Tryz.zeroValue45
  t27:=Tryz.underlying45
  a27:=Tryz.isAgg45
  z27:=Tryz.sizeOf45
  v27:=Tryz.zeroValue45
  t29:=Tryz.underlying9
  a29:=Tryz.isAgg9
  z29:=Tryz.sizeOf9
  v29:=Tryz.zeroValue9
  t32:=Tryz.underlying139
  a32:=Tryz.isAgg139
  z32:=Tryz.sizeOf139
  v32:=Tryz.zeroValue139
  t35:=Tryz.underlying293
  a35:=Tryz.isAgg293
  z35:=Tryz.sizeOf293
  v35:=Tryz.zeroValue293
  t36:=Tryz.underlying294
  a36:=Tryz.isAgg294
  z36:=Tryz.sizeOf294
  v36:=Tryz.zeroValue294
  t41:=Tryz.underlying77
  a41:=Tryz.isAgg77
  z41:=Tryz.sizeOf77
  v41:=Tryz.zeroValue77
  t44:=Tryz.underlying301
  a44:=Tryz.isAgg301
  z44:=Tryz.sizeOf301
  v44:=Tryz.zeroValue301
  t46:=Tryz.underlying164
  a46:=Tryz.isAgg164
  z46:=Tryz.sizeOf164
  v46:=Tryz.zeroValue164
  t53:=Tryz.underlying334
  a53:=Tryz.isAgg334
  z53:=Tryz.sizeOf334
  v53:=Tryz.zeroValue334
  t57:=Tryz.underlying338
  a57:=Tryz.isAgg338
  z57:=Tryz.sizeOf338
  v57:=Tryz.zeroValue338
  t63:=Tryz.underlying375
  a63:=Tryz.isAgg375
  z63:=Tryz.sizeOf375
  v63:=Tryz.zeroValue375
  t64:=Tryz.underlying376
  a64:=Tryz.isAgg376
  z64:=Tryz.sizeOf376
  v64:=Tryz.zeroValue376 }
end Go.Proofs
namespace Go.Proofs.YtngjlnhojicjeaaGreatDoor
open Go.RowKit Go.Pl Go.Sort Go.Shelf
abbrev sl (s t:ByteArray):Prop:=Op.bytesLess s.toList t.toList=true
theorem aW3:∀(x y:List UInt8),Op.bytesLess x y=decide (x<y)
 | [],[]=>by simp[Op.bytesLess]
 | _::_,[]=>by simp[Op.bytesLess]
 | [],_::_=>by simp[Op.bytesLess]
 | a::x,b::y=>by
  rw[Op.bytesLess,aW3 x y];simp only[List.cons_lt_cons_iff]
  by_cases h1:a<b<;>by_cases h2:a=b<;>by_cases h3:x<y<;>simp[h1,h2,h3]
theorem aIj (s t:ByteArray):sl s t↔s.data.toList<t.data.toList:=by
 unfold sl;rw[aW3,decide_eq_true_iff,ByteArray.toList_eq,ByteArray.toList_eq]
theorem aIi (s:ByteArray):¬sl s s:=by rw[aIj];exact List.lt_irrefl _
theorem aKB {s t u:ByteArray}(h:sl s t)(k:sl t u):sl s u:=by rw[aIj] at *;exact List.lt_trans h k
theorem aW6 {s t:ByteArray}(h:s.data.toList=t.data.toList):s=t:=ByteArray.ext (Array.toList_inj.1 h)
theorem aIh (s t:ByteArray):sl s t\/s=t\/sl t s:=by
 rw[aIj,aIj]
 by_cases h1:s.data.toList<t.data.toList
 ·exact .inl h1
 ·by_cases h2:t.data.toList<s.data.toList
  ·exact .inr (.inr h2)
  ·exact .inr (.inl (aW6 (List.le_antisymm (by simpa using h2) (by simpa using h1))))
def aEb (A:List ByteArray):List ByteArray:=((A.map λs=>s.data.toList).mergeSort λx y=>decide (x<=y)).map λl=>⟨l.toArray⟩
theorem aE6 (A:List ByteArray):(aEb A).Perm A:=by
 have h:=(List.mergeSort_perm (A.map λs=>s.data.toList) (λx y=>decide (x<=y))).map (λl:List UInt8=>(⟨l.toArray⟩:ByteArray));rw[List.map_map] at h;have e:((λl:List UInt8=>(⟨l.toArray⟩:ByteArray))∘λs:ByteArray=>s.data.toList)=id:=by funext s;simp
 rw[e,List.map_id] at h;exact h
theorem aEa (A:List ByteArray):(aEb A).length=A.length:=(aE6 A).length_eq
theorem aSZ (A:List ByteArray):(aEb A).Pairwise λs t=>¬sl t s:=by
 unfold aEb;rw[List.pairwise_map];refine(List.pairwise_mergeSort (le:=λx y:List UInt8=>decide (x<=y)) ?_ ?_ _).imp ?_
 ·intro a b c h1 h2;simp only[decide_eq_true_eq] at *;exact List.le_trans h1 h2
 ·intro a b;simp only[Bool.or_eq_true,decide_eq_true_eq];exact List.le_total a b
 ·intro a b h;rw[aIj];simpa using h
variable{A:List ByteArray}
theorem aSY (h:A.Nodup):(aEb A).Pairwise sl:=by
 have h1:=aSZ A;have h2:(aEb A).Pairwise (· ≠ ·):=(aE6 A).nodup_iff.2 h;refine(h1.and h2).imp ?_;rintro s t ⟨h3,h4⟩;rcases aIh s t with h|h|h
 ·exact h
 ·exact absurd h h4
 ·exact absurd h h3
variable{w:World}{v:Value}
theorem aJo {B:Nat}(hO:aEg w B v A)(hl:A.length<=10000000):Calls Tryz.prog 110 #[v] w λe w'=>e=.returned (.tuple #[])/\aEg w' B v (aEb A)/\Fr (λk=>v.ownBlock=some k) w w':=by
 by_cases hne:A=[]
 ·subst hne;obtain⟨p,cap,rfl,_⟩:=hO.src aBF;exact(AnyM.slices_Sort_string_none Tryz.sortS p cap w).mono λe w' ⟨h1,h2⟩=>⟨h1,by rw[h2,show aEb []=[] from List.eq_nil_of_length_eq_zero (aEa [])];exact hO,by rw[h2];exact Fr.refl _ _⟩
 ·obtain⟨hlen,⟨_,h0⟩|⟨g,cap,cur,rfl,hB,hb,h4,h5,h6,h7⟩⟩:=hO
  ·exact absurd (List.eq_nil_of_length_eq_zero h0) hne
  ·have hal:(A.map λs=>s.data.toList).length=A.length:=by simp
   have hcell:∀(j:Nat) s,A[j]?=some s->cur[j]?=some (.string s):=λj s hs=>by
    have hi:=(List.getElem?_eq_some_iff.1 hs).1;have:=aBR aBF A j s hs 0 oM;rw[<-h7] at this;simp only[Nat.mul_one,Nat.add_zero] at this;rw[List.getElem?_take_of_lt hi,Array.getElem?_toList] at this;exact this
   have:=AnyM.slices_Sort_string Tryz.sortS g 0 cap (A.map λs=>s.data.toList) w (λj hj=>by
    simp only[List.size_toArray,hal] at hj;refine⟨?_,aAm hb _⟩;obtain⟨s,hs⟩:∃s,A[j]?=some s:=⟨_,Gb_ hj⟩;rw[aAj hb,Nat.zero_add,hcell j s hs];rw[getElem!_pos _ j (by simpa using hj)];have:A[j]=s:=(List.getElem?_eq_some_iff.1 hs).2;simp[this]) (aAf hb) (by rw[hal];omega)
   rw[hal] at this;refine Calls.mono this ?_;rintro e w' ⟨he,n,os,rfl⟩;obtain⟨c1,c2⟩:=aMX encStr hb 0 n ((A.map λs=>s.data.toList).mergeSort λx y=>decide (x<=y)).toArray os;unfold sortWorld at c1 c2;refine⟨he,?_,c2.mono λr _ e=>by rw[e];rfl⟩;have hml:((A.map λs=>s.data.toList).mergeSort λx y=>decide (x<=y)).length=A.length:=by rw[List.length_mergeSort,hal]
   refine⟨?_,.inr ⟨g,cap,_,?_,hB,c1,?_,h5,?_,?_⟩⟩
   ·rw[aAz aBF]
   ·rw[aEa]
   ·rw[aEa];exact h4
   ·rw[<-h6];unfold putCells;simp
   ·apply List.ext_getElem?;intro i;rw[aEa,Nat.mul_one]
    by_cases hi:i<A.length
    ·rw[List.getElem?_take_of_lt hi,Array.getElem?_toList];obtain⟨l,hl2⟩:∃l,((A.map λs=>s.data.toList).mergeSort λx y=>decide (x<=y))[i]?=some l:=⟨_,Gb_ oM⟩;have h8:(aEb A)[i]?=some ⟨l.toArray⟩:=by unfold aEb;rw[Gr_,hl2];rfl
     have h9:=aBR aBF (aEb A) i _ h8 0 oM;simp only[Nat.mul_one,Nat.add_zero] at h9;rw[h9];unfold putCells;have hcs:i<cur.size:=by rw[h6];omega
     rw[Array.getElem?_mapIdx,Array.getElem?_eq_getElem hcs];simp only[Option.map_some,Gg_,true_and,Nat.zero_add,List.size_toArray,hml,Nat.sub_zero];rw[if_pos hi,getElem!_pos _ i (by simpa[hml] using hi)];have:((A.map λs=>s.data.toList).mergeSort λx y=>decide (x<=y))[i]' oM=l:=(List.getElem?_eq_some_iff.1 hl2).2;simp[this]
    ·have h8:((aEb A).flatMap aUK).length<=i:=by rw[aAz aBF,aEa];omega
     rw[List.getElem?_eq_none h8,List.getElem?_eq_none];rw[Gq_];omega
theorem aOp {α:Type}[DecidableEq α]:∀(l k:List α),l.Nodup->(∀x∈l,x∈k)->l.length<=k.length
 | [],k,_,_=>Gg_ _
 | a::l,k,hn,hs=>by
  have ha:=hs a sI
  have h1:=aOp l (k.erase a) (List.nodup_cons.1 hn).2 (λx hx=>by
   have hxa:x≠a:=λe=>(List.nodup_cons.1 hn).1 (e▸hx);exact(List.mem_erase_of_ne hxa).2 (hs x (by simp[hx])))
  rw[List.length_erase_of_mem ha] at h1;have:=List.length_pos_of_mem ha;simp only[Gf_];omega
variable{m:ByteArray->Option Bx}
theorem aPI.len {mb N:Nat}{L:List En}(h:aPI L m)(hm:aDS Tryz.prog 9 w mb N (bxM m)):L.length<=N:=by
 obtain⟨es,c,_,hE,hs⟩:=hm
 have h1:(L.map (·.1)).length<=(es.toList.map λe=>match e.key with|.string s=>s|_=>ByteArray.empty).length:=by
  refine aOp _ _ h.1 λs hs=>?_;obtain⟨x,hx,rfl⟩:=List.mem_map.1 hs;have h2:=(h.2 x.1 x.2).1 hx;obtain⟨e,he,hk,_⟩:=(hE.at_ (.string x.1) (.agg (bxC x.2))).1 (by rw[aHN,h2];rfl);exact List.mem_map.2 ⟨e,he,by rw[hk]⟩
 simp only[Gp_,Array.length_toList] at h1;omega
variable{u:Value}{o:Oper}{ρ:Operand->Value}
section
variable{x y z:Operand}{g off:Nat}{v1 v2 v3:Value}
theorem aNq (ho:o.op=.binOp .eql 157 x y 157)(hx:ρ x=.pointer none)(hy:ρ y=.pointer none):(execOp ρ o).run Tryz.prog w=.ok (.value (.bool true)) w:=by
 simp[execOp,ho,hx,hy,go_sem]
theorem aJ2 (ho:o.op=.alloc 45):(execOp ρ o).run Tryz.prog w=.ok (.value (vP w.heap.size 0)) (w.alloc (.cells #[.slice none 0 0] 45)):=by
 simp[execOp,ho,go_sem]
theorem aJ1 (ho:o.op=.alloc 156):(execOp ρ o).run Tryz.prog w=.ok (.value (vP w.heap.size 0)) (w.alloc (.cells #[.nilFunc] 156)):=by
 simp[execOp,ho,go_sem]
theorem aNu (ho:o.op=.makeFunc (.func 107) #[] #[x,y,z])(hx:ρ x=v1)(hy:ρ y=v2)(hz:ρ z=v3):(execOp ρ o).run Tryz.prog w=.ok (.value (.func (.func 107) #[] #[v1,v2,v3])) w:=by
 simp[execOp,ho,hx,hy,hz,go_sem]
theorem aQe {f:Fn}{a b:Array Value}(ho:o.op=.store 156 x y)(hx:ρ x=vP g off)(hy:ρ y=.func f a b)(hc:w.cell? ⟨g,off,none⟩=some u)(hz:w.frozen? ⟨g,off,none⟩=false):(execOp ρ o).run Tryz.prog w=.ok .skip (w.setCell ⟨g,off,none⟩ (.func f a b)):=by
 have hs:=run_store Tryz.prog w ⟨g,off,none⟩ (.func f a b) .plain rfl;simp[execOp,ho,hx,hy,go_sem,hc,hz,hs]
end
section
variable{O:Array Oper}{Q:Exit->Act->World->Prop}{rest:List Oper}{a:Act}{n d:Nat}{L:List (Nat×Value)}{x y:Operand}{ds:List Deferred}
theorem aKc (E:EnvD ds n L a)(hd:o.dst=some d)(hn:d<n)(hf:(L.map (·.1)).contains d=false)(hw:Region.wanted o (yielded O a.tmps)=true)(ho:o.op=.alloc 45)
  (k:∀a' w' b,w.heap.size=b->w'.heap[b]?=some (.cells #[.slice none 0 0] 45 (0,0))->Fr nF_ w w'->EnvD ds n ((d,vP b 0)::L) a'->wpList Tryz.prog O Q rest a' w'):wpList Tryz.prog O Q (o::rest) a w :=
 aB8 E hd hn hf hw (aJ2 ho) λa' E'=>k a' _ _ rfl (aAl _ _) ((Fr.refl _ _).alloc _) E'
theorem aKb (E:EnvD ds n L a)(hd:o.dst=some d)(hn:d<n)(hf:(L.map (·.1)).contains d=false)(hw:Region.wanted o (yielded O a.tmps)=true)(ho:o.op=.alloc 156)
  (k:∀a' w' b,w.heap.size=b->w'.heap[b]?=some (.cells #[.nilFunc] 156 (0,0))->Fr nF_ w w'->EnvD ds n ((d,vP b 0)::L) a'->wpList Tryz.prog O Q rest a' w'):wpList Tryz.prog O Q (o::rest) a w :=
 aB8 E hd hn hf hw (aJ1 ho) λa' E'=>k a' _ _ rfl (aAl _ _) ((Fr.refl _ _).alloc _) E'
end
def WkR (w:World)(bo B:Nat)(m:ByteArray->Option Bx)(q:Bx)(e:Ending)(w':World):Prop :=
 e=.returned (.tuple #[])/\∃v' L,aPI L m/\w'.heap[bo]?=some (.cells #[v'] 45 (0,0))/\aEg w' B v' (aCp L q)/\Fr (λk=>k=bo\/B<=k) w w'
def InR (m:ByteArray->Option Bx)(q:Bx)(R:List ByteArray):Prop:=R.Pairwise sl/\∀s,s∈R↔∃c,m s=some c/\mtB c q
theorem InR.of {L:List En}(h:aPI L m)(q:Bx):InR m q (aEb (aCp L q)):=by
 refine⟨aSY (List.Nodup.sublist ((List.filter_sublist).map _) h.1),λs=>?_⟩;rw[(aE6 _).mem_iff];unfold aCp;constructor
 ·intro hs;obtain⟨x,hx,rfl⟩:=List.mem_map.1 hs;have h1:=List.mem_filter.1 hx;exact⟨x.2,(h.2 x.1 x.2).1 h1.1,by simpa using h1.2⟩
 ·rintro⟨c,h1,h2⟩;exact List.mem_map.2 ⟨(s,c),List.mem_filter.2 ⟨(h.2 s c).2 h1,by simpa using h2⟩,rfl⟩
def aP9 (w:World)(p mb N:Nat)(S:Nat->Prop)(m:ByteArray->Option Bx)(C:Nat)(w':World):Prop:=∃S' rv' pk',IxAt w' p mb N S' m rv' pk'/\Fr (λk=>k=p) w w'/\∀k,S' k->(S k\/w.heap.size<=k)/\k<C
def InP (w:World)(p mb N:Nat)(S:Nat->Prop)(m:ByteArray->Option Bx)(q:Bx)(e:Ending)(w':World):Prop :=
 ∃v R C,e=.returned v/\w.heap.size<=C/\aEg w' C v R/\(if okB q then InR m q R else R=[])/\aP9 w p mb N S m C w'
set_option maxRecDepth 100000 in
set_option maxHeartbeats 4000000 in
theorem aPN {v1 v2 v3:Value}(w:World):Calls Tryz.prog 107 #[.pointer none,v1,v2,v3] w λe w'=>e=.returned (.tuple #[])/\Fr nF_ w w':=by
 refine aF0 Tryz.func107 rfl rfl (n:=43) dE λa E=>?_;have hf:Fr nF_ w w:=Fr.refl _ _;refine s_ (s_ (aC9 (n:=43) (base:=[(0,Value.pointer none),(1,v1),(2,v2),(3,v3)]) (T:=[some (7,Value.pointer none),some (8,.bool true),some (9,.bool true),some (10,undef),some (11,undef),some (12,undef),some (13,undef),some (14,undef),some (15,undef),some (16,undef),some (17,.bool true)]) (M:=λ_ wm=>Fr nF_ w wm) kR kR kR (E.of ⟨E.g0,E.g1,E.g2,E.g3,trivial⟩) (Fr.refl _ _).drew ?_ ?_))
 ·intro j9 o9 t9 ls9 a w5 ho hT0 hl E D DL hM
  match j9,ho,hT0,hl,D,DL with
  | 0,ho,hT0,hl,D,DL=>exact y0_ ho hT0 (aAe (m_ rfl E.g0) rfl hM)
  | 1,ho,hT0,hl,D,DL=>exact y0_ ho hT0 (aAe (aNq rfl (D 0 _ rfl rfl) rfl) rfl hM)
  | 2,ho,hT0,hl,D,DL=>exact y0_ ho hT0 (aAe (m_ rfl (D 1 _ rfl rfl)) rfl hM)
  | 3,ho,hT0,hl,D,DL=>exact y2_ ho hT0 E (D 2 _ rfl rfl) hM
  | 4,ho,hT0,hl,D,DL=>exact y2_ ho hT0 E (D 2 _ rfl rfl) hM
  | 5,ho,hT0,hl,D,DL=>exact y2_ ho hT0 E (D 2 _ rfl rfl) hM
  | 6,ho,hT0,hl,D,DL=>exact y2_ ho hT0 E (D 2 _ rfl rfl) hM
  | 7,ho,hT0,hl,D,DL=>exact y2_ ho hT0 E (D 2 _ rfl rfl) hM
  | 8,ho,hT0,hl,D,DL=>exact y2_ ho hT0 E (D 2 _ rfl rfl) hM
  | 9,ho,hT0,hl,D,DL=>exact y2_ ho hT0 E (D 2 _ rfl rfl) hM
  | 10,ho,hT0,hl,D,DL=>exact y0_ ho hT0 (aAe (aAL rfl (D 2 _ rfl rfl) rfl) rfl hM)
  | j9+11,ho,hT0,hl,D,DL=>exact absurd hT0 sI
 ·intro a w5 E V hM;have E:=E.add (V 10 _ rfl);clear V;have hf:=hf.trans hM;clear hM;refine t_ (c_t E.g0 (wr_ (tr_ ((aCe rfl E ⟨rfl,hf⟩).2))))
variable{S:Nat->Prop}{rv:Value}
theorem aJi {p mb N bq bo bw B:Nat}{q:Bx}(h:IxAt w p mb N S m rv true)(hN:N<=100000)(hbo:bo<B)(hbq:bq<B)(hbw:bw<B)(nq:bq≠bo)(nw:bw≠bo)(hS:∀k,S k->k<B/\k≠bo)(hq:bxB w bq q)(hu:w.heap[bo]?=some (.cells #[.slice none 0 0] 45 (0,0)))
  (hw:w.heap[bw]?=some (.cells #[(.func (.func 107) #[] #[vP bq 0,vP bo 0,vP bw 0])] 156 (0,0))) (hB:B<=w.heap.size):Calls Tryz.prog 107 #[rv,vP bq 0,vP bo 0,vP bw 0] w (WkR w bo B m q):=by
 rcases h.tree rfl with⟨rfl,hn⟩|⟨n,pn,b,L,rfl,hNd,hE⟩
 ·refine(aPN w).mono ?_;rintro e w' ⟨he,hf⟩;exact⟨he,_,[],⟨List.nodup_nil,λs b=>⟨λh=>(by cases h),λh=>by rw[hn s] at h;cases h⟩⟩,hf.obj hu id,aCZ _,hf.mono λ_ _ h=>h.elim⟩
 ·refine(aJh hbo hbq hbw nq nw hS n hNd (A:=[]) hq hu (aCZ _) hw hB (by have:=hE.len h.hm;simp;omega)).mono ?_;rintro e w' ⟨he,v',h1,h2,h3⟩;exact⟨he,v',L,hE,h1,by simpa using h2,h3⟩
set_option maxRecDepth 100000 in
set_option maxHeartbeats 4000000 in
theorem aRj {p mb N:Nat}{pk:Bool}(h:IxAt w p mb N S m rv pk)(hNb:N<=100000)(b:Bx):Calls Tryz.prog 59 #[vP p 0,.agg (bxC b)] w (InP w p mb N S m b):=by
 have h0:=h;refine aAW Tryz.func59 rfl rfl (n:=52) dE λa E=>?_;have hf:Fr nF_ w w:=Fr.refl _ _;have hpl:p<w.heap.size:=aAf h.hp;have hml:mb<w.heap.size:=h.hm.lt;have hσ:∀k,S k->k<w.heap.size:=h.lt;refine s_ (r_ ?_);have hfz:=hf.size;refine aCO (d:=3) E rfl dE rfl (aAb rfl _) rfl E.g1 λa w1 aa ab hb37 f1 E=>?_;have h:=IxAt.fr h f1 id id (λ_ _ h=>h);have hf:=hf.trans f1;clear f1;have hnb37:w.heap.size<=aa:=by omega
 clear hfz ab;refine ep (v := .slice none 0 0) E rfl (a_ rfl rfl) λa E=>n_ (t_ (s_ (s_ (r_ (ep E rfl (m_ rfl E.g2) λa E=>ep (v := .bool false) E rfl (aHj rfl E.g0 rfl) λa E=>ep E rfl (m_ rfl E.g0) λa E=>eg (v := vP aa 0) E rfl (wy_ E E.g0) (aBu rfl E.g4) λa E=>eg (v := vP aa 0) E rfl (wy_ E E.g1) (aBl rfl E.g0) λa E=>eg (v := .int .i64 b.1.1) E rfl (wy_ E E.g2) (aAo rfl E.g0 (bx hb37 0 rfl)) λa E=>eg (v := vP aa 0) E rfl (wy_ E E.g3) (aBu rfl E.g7) λa E=>eg (v := vP aa 1) E rfl (wy_ E E.g4) (aAY rfl E.g0) λa E=>eg (v := .int .i64 b.1.2) E rfl (wy_ E E.g5) (aAo rfl E.g0 (bx hb37 1 rfl)) λa E=>eg (v := vP aa 2) E rfl (wy_ E E.g6) (aBt rfl E.g10) λa E=>eg (v := vP aa 2) E rfl (wy_ E E.g7) (aBl rfl E.g0) λa E=>eg (v := .int .i64 b.2.1) E rfl (wy_ E E.g8) (aAo rfl E.g0 (bx hb37 2 rfl)) λa E=>eg (v := vP aa 2) E rfl (wy_ E E.g9) (aBt rfl (E.get 13 rfl)) λa E=>eg (v := vP aa 3) E rfl (wy_ E E.g10) (aAY rfl E.g0) λa E=>eg (v := .int .i64 b.2.2) E rfl (wy_ E E.g11) (aAo rfl E.g0 (bx hb37 3 rfl)) λa E=>aMz (d:=22) E rfl dE rfl (wy_ E (E.get 12 rfl)) rfl E.g9 E.g6 E.g3 E.g0 λa w1 ac hs4 f1 E=>?_)))));have h:=IxAt.fr h f1 id id (λ_ _ h=>h);have hb37:=f1.obj hb37 id;have hf:=hf.trans f1;clear f1;refine aD8 (d:=23) (v := .bool (List.all [b.1.1,b.1.2,b.2.1,b.2.2] λn9=>decide (isI n9))) E rfl dE rfl (wy_ E (E.get 13 rfl)) (aBd (enters_of Tryz.func106 kR rfl) rfl rfl E.g0) (aIc hs4 sI) λa w1 f1 E=>?_;have h:=IxAt.fr h f1 id id (λ_ _ h=>h);have hb37:=f1.obj hb37 id;have hs4:=hs4.fr f1 (λ_ _ h=>h);have hf:=hf.trans f1;clear f1;refine eg (v := .bool (!(List.all [b.1.1,b.1.2,b.2.1,b.2.2] λn9=>decide (isI n9)))) E rfl (wy_ E (E.get 14 rfl)) (aBM rfl E.g0) λa E=>ep (v := .bool (!(List.all [b.1.1,b.1.2,b.2.1,b.2.2] λn9=>decide (isI n9)))) E rfl (aAx rfl (E.get 15 rfl) E.g0) λa E=>ep E rfl (m_ rfl E.g0) λa E=>?_;cases hq39:(List.all [b.1.1,b.1.2,b.2.1,b.2.2] λn9=>decide (isI n9))
 ·rw[hq39] at E;refine ek E rfl rfl E.g0 λa E=>ek E rfl rfl E.g1 λa E=>ek E rfl rfl E.g2 λa E=>ek E rfl rfl E.g3 λa E=>ek E rfl rfl E.g4 λa E=>ek E rfl rfl E.g5 λa E=>ek E rfl rfl E.g6 λa E=>ep (v := .bool true) E rfl (aAL rfl E.g7 rfl) λa E=>ep E rfl (m_ rfl E.g0) λa E=>ek E rfl rfl E.g0 λa E=>ek E rfl rfl E.g1 λa E=>ek E rfl rfl E.g2 λa E=>ek E rfl rfl E.g3 λa E=>ek E rfl rfl E.g4 λa E=>ek E rfl rfl E.g5 λa E=>ek E rfl rfl E.g6 λa E=>ep (v := .bool true) E rfl (aAL rfl E.g7 rfl) λa E=>n_ (t_ (c_t E.g0 (s_ (r_ (es_ (v := .slice none 0 0) E rfl (a_ rfl rfl) λa E=>n_ (t_ (wr_ (tr_ ?_))))))))
  have hno:¬okB b:=λhok=>by
   have hal:=aJD hok
   first|(rw[hal] at hq39;exact Bool.noConfusion hq39)|(obtain⟨_,_,q1,q2⟩:=hok;omega)
  refine aAs (t:=4) rfl E E.g0 ?_;exact⟨_,[],w.heap.size,rfl,Gj_ _,aCZ _,by rw[if_neg hno],S,rv,pk,h,hf.mono λ_ _ h=>h.elim,λk hk=>⟨.inl hk,h0.lt k hk⟩⟩
 rw[hq39] at E;refine eg (v := vP aa 0) E rfl (wy_ E E.g0) (aBu rfl (E.get 21 rfl)) λa E=>eg (v := vP aa 0) E rfl (wy_ E E.g1) (aBl rfl E.g0) λa E=>eg (v := .int .i64 b.1.1) E rfl (wy_ E E.g2) (aAo rfl E.g0 (bx hb37 0 rfl)) λa E=>eg (v := vP aa 2) E rfl (wy_ E E.g3) (aBt rfl (E.get 24 rfl)) λa E=>eg (v := vP aa 2) E rfl (wy_ E E.g4) (aBl rfl E.g0) λa E=>eg (v := .int .i64 b.2.1) E rfl (wy_ E E.g5) (aAo rfl E.g0 (bx hb37 2 rfl)) λa E=>eg (v := .bool (decide (b.2.1<b.1.1))) E rfl (wy_ E E.g6) (aCk E.g3 E.g0 u3_ rfl) λa E=>ep (v := .bool (decide (b.2.1<b.1.1))) E rfl (aAx rfl E.g7 E.g0) λa E=>ep E rfl (m_ rfl E.g0) λa E=>?_;cases hq40:(decide (b.2.1<b.1.1))
 rotate_left
 ·rw[hq40] at E;refine ek E rfl rfl E.g0 λa E=>ek E rfl rfl E.g1 λa E=>ek E rfl rfl E.g2 λa E=>ek E rfl rfl E.g3 λa E=>ek E rfl rfl E.g4 λa E=>ek E rfl rfl E.g5 λa E=>ek E rfl rfl E.g6 λa E=>ep (v := .bool true) E rfl (aAL rfl E.g7 rfl) λa E=>n_ (t_ (c_t E.g0 (s_ (r_ (es_ (v := .slice none 0 0) E rfl (a_ rfl rfl) λa E=>n_ (t_ (wr_ (tr_ ?_))))))));have khq40:=of_decide_eq_true hq40
  have hno:¬okB b:=λhok=>by
   have hal:=aJD hok
   first|(rw[hal] at hq39;exact Bool.noConfusion hq39)|(obtain⟨_,_,q1,q2⟩:=hok;omega)
  refine aAs (t:=4) rfl E E.g0 ?_;exact⟨_,[],w.heap.size,rfl,Gj_ _,aCZ _,by rw[if_neg hno],S,rv,pk,h,hf.mono λ_ _ h=>h.elim,λk hk=>⟨.inl hk,h0.lt k hk⟩⟩
 rw[hq40] at E;refine eg (v := vP aa 0) E rfl (wy_ E E.g0) (aBu rfl (E.get 30 rfl)) λa E=>eg (v := vP aa 1) E rfl (wy_ E E.g1) (aAY rfl E.g0) λa E=>eg (v := .int .i64 b.1.2) E rfl (wy_ E E.g2) (aAo rfl E.g0 (bx hb37 1 rfl)) λa E=>eg (v := vP aa 2) E rfl (wy_ E E.g3) (aBt rfl (E.get 33 rfl)) λa E=>eg (v := vP aa 3) E rfl (wy_ E E.g4) (aAY rfl E.g0) λa E=>eg (v := .int .i64 b.2.2) E rfl (wy_ E E.g5) (aAo rfl E.g0 (bx hb37 3 rfl)) λa E=>eg (v := .bool (decide (b.2.2<b.1.2))) E rfl (wy_ E E.g6) (aCk E.g3 E.g0 u3_ rfl) λa E=>ep (v := .bool (decide (b.2.2<b.1.2))) E rfl (aAx rfl E.g7 E.g0) λa E=>n_ (t_ ?_);cases hq41:(decide (b.2.2<b.1.2))
 rotate_left
 ·rw[hq41] at E;refine c_t E.g0 (s_ (r_ (es_ (v := .slice none 0 0) E rfl (a_ rfl rfl) λa E=>n_ (t_ (wr_ (tr_ ?_))))));have khq40:=of_decide_eq_false hq40;have khq41:=of_decide_eq_true hq41
  have hno:¬okB b:=λhok=>by
   have hal:=aJD hok
   first|(rw[hal] at hq39;exact Bool.noConfusion hq39)|(obtain⟨_,_,q1,q2⟩:=hok;omega)
  refine aAs (t:=4) rfl E E.g0 ?_;exact⟨_,[],w.heap.size,rfl,Gj_ _,aCZ _,by rw[if_neg hno],S,rv,pk,h,hf.mono λ_ _ h=>h.elim,λk hk=>⟨.inl hk,h0.lt k hk⟩⟩
 rw[hq41] at E;refine c_f E.g0 (k_ (t_ (s_ ?_)));have khq40:=of_decide_eq_false hq40;have khq41:=of_decide_eq_false hq41;have hok:okB b:=aVC hq39 oM oM;have hsz0:=hf.size;have hbq0:=aAf hb37;refine r_ (aKc (d:=5) E rfl dE rfl (aAb rfl _) rfl λa w1 bo ebo hbo f1 E=>?_);have h:=IxAt.fr h f1 id id (λ_ _ h=>h);have hb37:=f1.obj hb37 id;have hf:=hf.trans f1;clear f1;have hbol:=aAf hbo;refine n_ (t_ (s_ (r_ (aKb (d:=6) E rfl dE rfl (aAb rfl _) rfl λa w1 bw ebw hbw f1 E=>?_))));have h:=IxAt.fr h f1 id id (λ_ _ h=>h);have hb37:=f1.obj hb37 id;have hbo:=f1.obj hbo id;have hf:=hf.trans f1;clear f1;refine n_ (t_ (s_ (r_ (ep (v:=(.func (.func 107) #[] #[vP aa 0,vP bo 0,vP bw 0])) E rfl (aNu rfl (E.get 40 rfl) E.g1 E.g0) λa E=>aCN E rfl (aAb rfl _) (aQe rfl E.g1 E.g0 (bx hbw 0 rfl) (aAm hbw 0)) λE=>?_))));have hbw2:=aAk (off:=0) hbw (.func (.func 107) #[] #[vP aa 0,vP bo 0,vP bw 0]);have g1:=(Fr.refl (λk=>k=bw) w1).setCell (p:=⟨bw,0,none⟩) (λ_=>rfl) (.func (.func 107) #[] #[vP aa 0,vP bo 0,vP bw 0]);obtain⟨w6,hw6⟩:∃w6,w6=w1.setCell ⟨bw,0,none⟩ (.func (.func 107) #[] #[vP aa 0,vP bo 0,vP bw 0]):=⟨_,rfl⟩;rw[<-hw6] at hbw2 g1 ⊢;have h:=IxAt.fr h g1 oM oM (λk hk e=>by have:=hσ k hk;omega);have hf:=hf.trans' g1 (λr hr e=>by omega);have hbo:=g1.obj hbo oM;have hq:=g1.obj hb37 oM;have hwz:=aAf hbw2;have hbob:=aAf hbo;clear hbw g1 hw6;refine n_ (t_ (s_ (aAt (G:=Value×(Nat->Prop)×Nat) (undef,nF_,0) (n:=52) (base:=[(6,vP bw 0),(5,vP bo 0),(0,vP p 0)]) (U:=[]) (T:=λZ=>[some (45,(.func (.func 107) #[] #[vP aa 0,vP bo 0,vP bw 0])),some (46,vP p 0),some (47,Z.1),some (48,.tuple #[])]) (M:=λZ ls9 wm=>Fr (λk=>k=p\/k=bo) w6 wm/\(ls9 3=false->wm.heap[bo]?=some (.cells #[.slice none 0 0] 45 (0,0)))/\(ls9 2=false->IxAt wm p mb N S m rv pk)/\(ls9 2=true->IxAt wm p mb N Z.2.1 m Z.1 true/\(∀k,Z.2.1 k->(S k\/w6.heap.size<=k)/\k<Z.2.2)/\w6.heap.size<=Z.2.2/\Z.2.2<=wm.heap.size)/\(ls9 3=true->∃v9 L9,aPI L9 m/\wm.heap[bo]?=some (.cells #[v9] 45 (0,0))/\aEg wm Z.2.2 v9 (aCp L9 b))) kR kR (λ_=>by kernel_rfl) (E.of ⟨E.g1,E.g2,E.get 42 rfl,trivial⟩) (λx hx=>by cases hx) ⟨(Fr.refl _ _).drew,λ_=>hbo,λ_=>h.fr (Fr.refl nF_ w6).drew id id (λ_ _ h=>h),λe=>absurd e Bool.false_ne_true,λe=>absurd e Bool.false_ne_true⟩ ?_ ?_)))
 ·intro j9 o9 Z ls9 a w5 ho hl E D DL DL2 hB hM;obtain⟨m1,m2,m3,m4,m5⟩:=hM;have hbw5:=m1.obj hbw2 oM;have hq5:=m1.obj hq oM
  match j9,ho,hl,D,DL,hB with
  | 0,ho,hl,D,DL,hB=>exact z0_ ho (aAq rfl (aKM rfl E.g0 (bx hbw5 0 rfl)) rfl ⟨m1,m2,m3,m4,m5⟩)
  | 1,ho,hl,D,DL,hB=>exact z0_ ho (aAq rfl (m_ rfl E.g2) rfl ⟨m1,m2,m3,m4,m5⟩)
  | 2,ho,hl,D,DL,hB =>
   have h39:ls9 3=false:=by
    cases h8:ls9 3 with
    | false=>rfl
    | true=>exact absurd (hl.symm.trans (DL2 3 2 rfl h8)) dE
   have h7:=m3 hl;have hbo7:=m2 h39;obtain rfl:=Gh_ ho;refine⟨λ_=>aS5 (aBd (enters_of Tryz.func109 kR rfl) rfl rfl (D 1 _ rfl rfl)) ((aG6 h7 hNb).mono λe9 w9 ⟨S9,r9,h1,h2,h3,h4⟩=>⟨r9,h1,(⟨S9,h2,h3,h4⟩:∃S9,IxAt w9 p mb N S9 m r9 true/\Fr (λk=>k=p) w5 w9/\∀k,S9 k->S k\/w5.heap.size<=k)⟩) rfl λv9 w9 f9=>?_,λh=>by rw[aAb rfl] at h;cases h⟩;obtain⟨S9,h2,h3,h4⟩:=f9;refine⟨(v9,S9,w9.heap.size),rfl,(λj hj=>match j,hj with|0,_=>rfl|1,_=>rfl|2,hj=>absurd (hl.symm.trans hj) dE|3,_=>rfl|j9+4,_=>rfl),?_⟩;refine⟨m1.trans' h3 (λ_ _ e =>.inl e),λ_=>h3.obj hbo7 oM,λe=>by simp at e,λ_=>⟨h2,λk hk=>⟨?_,h2.lt k hk⟩,(show w6.heap.size<=w9.heap.size by have:=m1.size;have:=h3.size;omega),Gj_ _⟩,λe=>by simp[h39] at e⟩;rcases h4 k hk with h9|h9
   ·exact .inl h9
   ·right;have:=m1.size;omega
  | 3,ho,hl,D,DL,hB =>
   have h29:=DL 2 rfl;obtain⟨h7,h8,h9,h10⟩:=m4 h29;have hbo7:=m2 hl;obtain rfl:=Gh_ ho;refine⟨λ_=>aHK rfl (aFH (enters_of Tryz.func107 kR rfl) rfl (D 0 _ rfl rfl) (D 2 _ rfl rfl)) ((aJi (B:=Z.2.2) h7 hNb oM oM oM oM oM (λk hk=>⟨(h8 k hk).2,by rcases(h8 k hk).1 with h|h;(have:=hσ k h;omega);omega⟩) hq5 hbo7 hbw5 h10).mono λe9 w9 hh=>⟨hh.1,hh.2⟩) rfl λw9 f9=>?_,λh=>by rw[aAb rfl] at h;cases h⟩;obtain⟨v9,L9,e1,e2,e3,e4⟩:=f9;refine⟨m1.trans' e4 (λr hr e=>by rcases e with e|e;exact .inr e;omega),λe=>by simp at e,λe=>by simp[h29] at e,λ_=>⟨h7.fr e4 oM (by have:=h7.ne;omega) (λk hk e=>by rcases(h8 k hk).1 with h|h;(have:=hσ k h;have:=(h8 k hk).2;omega);(have:=(h8 k hk).2;omega)),h8,h9,by have:=e4.size;omega⟩,λ_=>⟨v9,L9,e1,e2,e3⟩⟩
  | j9+4,ho,hl,D,DL,hB=>exact absurd ho sI
 ·rintro⟨rv2,S2,B2⟩ a w7 E V hM;clear V;obtain⟨m1,_,_,m4,m5⟩:=hM;obtain⟨h7,h8,h9,h10⟩:=m4 rfl;obtain⟨v9,L9,hE9,hbo,hO⟩:=m5 rfl
  dsimp only at h7 h8 h9 h10 hO
  refine t_ (s_ (r_ (ep (v:=v9) E rfl (aHm rfl E.g1 (bx hbo 0 rfl)) λa E=>?_)));have hlen9:=hE9.len h7.hm;refine ec_ (v := .tuple #[]) (F:=λw8=>aEg w8 B2 v9 (aEb (aCp L9 b))/\Fr (λk=>v9.ownBlock=some k) w7 w8) E rfl (aBd (enters_of Tryz.func110 kR rfl) rfl rfl E.g0) (aJo hO (by have:=aLb L9 b;omega)) λa w8 f9 E=>?_;obtain⟨hO8,f8⟩:=f9;have hbo8:=f8.obj hbo (λe=>by have:=(hO.lt e).1;omega);have hbo:=hbo8;have h18:=h7.fr f8 (λe=>by have:=(hO.lt e).1;omega) (λe=>by have:=(hO.lt e).1;omega) (λk hk e=>by have:=(hO.lt e).1;have:=(h8 k hk).2;omega);have f18:Fr (λk=>k=p) w w8:=(hf.mono (λ_ _ h=>h.elim)).trans' (m1.trans' f8 (λr hr e=>by have:=(hO.lt e).1;omega)) (λr hr e=>by rcases e with e|e;exact e;omega);refine n_ (t_ (s_ (r_ (ep (v:=v9) E rfl (aHm rfl E.g3 (bx hbo 0 rfl)) λa E=>ep E rfl (a_ rfl E.g0) λa E=>n_ (t_ (wr_ (aAs (t:=4) rfl E E.g0 ?_)))))));exact⟨_,_,B2,rfl,by omega,hO8,by rw[if_pos hok];exact InR.of hE9 b,S2,rv2,true,h18,f18,λk hk=>⟨by rcases(h8 k hk).1 with h|h;exact .inl h;exact .inr oM,(h8 k hk).2⟩⟩
structure Wt where
 c:Nd
 h:Nat
 far:Int
def aZV (h:Nat)(L:List En):ByteArray:=if h=0 then(L.head?.map (·.1)).getD ByteArray.empty else ByteArray.empty
abbrev Wt.id (x:Wt):ByteArray:=aZV x.h x.c.2.2
abbrev wtC (x:Wt):Array Value:=#[vP x.c.1 0,.int .i64 x.far]
abbrev wtL (x:Wt):List Value:=[vP x.c.1 0,.int .i64 x.far]
theorem aCc:∀x,(wtL x).length=2:=λ_=>rfl
abbrev oWt (w:World)(B:Nat)(v:Value)(X:List Wt):Prop:=ow wtL 2 170 w B v X
abbrev aMI (w:World)(S:Nat->Prop)(x:Wt):Prop:=aHV w S x.h x.c.1 x.c.2.1 x.c.2.2
def lsW (x y:Wt):Bool:=if x.far≠y.far then decide (x.far<y.far) else if(x.h==0) != (y.h==0) then x.h != 0 else Op.bytesLess x.id.toList y.id.toList
def LsW (x y:Wt):Prop:=x.far<y.far\/x.far=y.far/\(x.h≠0/\y.h=0\/(x.h=0↔y.h=0)/\sl x.id y.id)
theorem aCf (x y:Wt):lsW x y=true↔LsW x y:=by
 unfold lsW LsW
 by_cases h1:x.far=y.far
 ·rw[if_neg (by simpa using h1)]
  by_cases h2:x.h=0
  ·have b2:(x.h==0)=true:=beq_iff_eq.2 h2
   by_cases h3:y.h=0
   ·have b3:(y.h==0)=true:=beq_iff_eq.2 h3;rw[b2,b3];simp[h1,h2,h3,sl]
   ·have b3:(y.h==0)=false:=beq_eq_false_iff_ne.2 h3;rw[b2,b3];simp[h1,h2,h3,sl]
  ·have b2:(x.h==0)=false:=beq_eq_false_iff_ne.2 h2
   by_cases h3:y.h=0
   ·have b3:(y.h==0)=true:=beq_iff_eq.2 h3;rw[b2,b3];simp[h1,h2,h3,sl]
   ·have b3:(y.h==0)=false:=beq_eq_false_iff_ne.2 h3;rw[b2,b3];simp[h1,h2,h3,sl]
 ·rw[if_pos h1];simp only[decide_eq_true_eq,h1,false_and,or_false]
theorem LsW.irrefl (x:Wt):¬LsW x x:=by
 unfold LsW;rintro(h|⟨_,⟨h1,h2⟩|⟨_,h⟩⟩)
 ·omega
 ·exact h1 h2
 ·exact aIi _ h
variable{x:Wt}
theorem LsW.trans {y z:Wt}(h:LsW x y)(k:LsW y z):LsW x z:=by
 unfold LsW at *;rcases h with h|⟨h1,h⟩
 ·rcases k with k|⟨k1,_⟩
  ·left;omega
  ·left;omega
 ·rcases k with k|⟨k1,k⟩
  ·left;omega
  ·right;refine⟨h1.trans k1,?_⟩;rcases h with⟨h2,h3⟩|⟨h2,h3⟩
   ·rcases k with⟨k2,k3⟩|⟨k2,k3⟩
    ·exact absurd h3 k2
    ·exact .inl ⟨h2,k2.1 h3⟩
   ·rcases k with⟨k2,k3⟩|⟨k2,k3⟩
    ·exact .inl ⟨λe=>k2 (h2.1 e),k3⟩
    ·exact .inr ⟨h2.trans k2,aKB h3 k3⟩
theorem LsW.ntrans {y z:Wt}(h:¬LsW x y)(k:¬LsW y z):¬LsW x z:=by
 intro hxz
 have htri:LsW x y\/LsW y x\/(x.far=y.far/\(x.h=0↔y.h=0)/\x.id=y.id):=by
  unfold LsW;rcases Int.lt_trichotomy x.far y.far with h1|h1|h1
  ·exact .inl (.inl h1)
  ·by_cases h2:x.h=0<;>by_cases h3:y.h=0
   ·rcases aIh x.id y.id with h4|h4|h4
    ·exact .inl (.inr ⟨h1,.inr ⟨by simp[h2,h3],h4⟩⟩)
    ·exact .inr (.inr ⟨h1,by simp[h2,h3],h4⟩)
    ·exact .inr (.inl (.inr ⟨h1.symm,.inr ⟨by simp[h2,h3],h4⟩⟩))
   ·exact .inr (.inl (.inr ⟨h1.symm,.inl ⟨h3,h2⟩⟩))
   ·exact .inl (.inr ⟨h1,.inl ⟨h2,h3⟩⟩)
   ·rcases aIh x.id y.id with h4|h4|h4
    ·exact .inl (.inr ⟨h1,.inr ⟨by simp[h2,h3],h4⟩⟩)
    ·exact .inr (.inr ⟨h1,by simp[h2,h3],h4⟩)
    ·exact .inr (.inl (.inr ⟨h1.symm,.inr ⟨by simp[h2,h3],h4⟩⟩))
  ·exact .inr (.inl (.inl h1))
 rcases htri with h1|h1|⟨h1,h2,h3⟩
 ·exact h h1
 ·exact k (LsW.trans h1 hxz)
 ·apply k;unfold LsW at *;rw[h1,h3] at hxz;rcases hxz with q|⟨q1,q2⟩
  ·exact .inl q
  ·refine .inr ⟨q1,?_⟩;rcases q2 with⟨q3,q4⟩|⟨q3,q4⟩
   ·exact .inl ⟨λe=>q3 (h2.2 e),q4⟩
   ·exact .inr ⟨h2.symm.trans q3,q4⟩
theorem aMI.cells (h:aMI w S x):w.cell? ⟨x.c.1,4,none⟩=some (.string x.id)/\∃p n cap,w.cell? ⟨x.c.1,5,none⟩=some (.slice p n cap)/\(x.h=0->p=none/\n=0/\cap=0)/\(x.h≠0->∃a,p=some a):=by
 obtain⟨⟨pb,b,L⟩,hh,far⟩:=x
 cases hh with
 | zero =>
  obtain⟨_,id,h2,h3⟩:=h;simp only at h2 h3;subst h3;exact⟨by rw[aAj h2];rfl,none,0,0,by rw[aAj h2];rfl,λ_=>⟨rfl,rfl,rfl⟩,λh=>absurd rfl h⟩
 | succ n =>
  obtain⟨_,g,off,cap,C,h2,_⟩:=h;simp only at h2;exact⟨by rw[aAj h2];rfl,some ⟨g,off,none⟩,C.length,cap,by rw[aAj h2];rfl,λh=>by simp at h,λ_=>⟨_,rfl⟩⟩
def quB (w:World)(q:Nat)(v:Value):Prop:=w.heap[q]?=some (.cells #[v,.func (.func 114) #[] #[]] 174 (0,0))
abbrev wtB (w:World)(g:Nat)(x:Wt):Prop:=w.heap[g]?=some (.cells (wtC x) 170 (0,0))
section
variable{x y z:Operand}{g off q n cap i:Nat}{s t:Wt}{p:Option Addr}
theorem aWe:(Tryz.prog.info? 170).map (·.size)=some 2:=by kernel_rfl
theorem aTV:(Tryz.prog.info? 170).map (λi=>(i.zero,i.size,i.bytes))=some (some (.agg #[.pointer none,.int .i64 0]),2,16):=by kernel_rfl
theorem aCS (ho:o.op=.load 170 x)(hx:ρ x=vP g off)(h:w.rangeAt g off (wtC s).toList):(execOp ρ o).run Tryz.prog w=.ok (.value (.agg (wtC s))) w:=by
 have:=run_loadAt_mid (P:=Tryz.prog) w g off 170 (wtC s).toList _ h Tryz.underlying170 rfl aWe;simp only[execOp,ho,hx,Sem.run_bind,this,Result.andThen_ok,Sem.run_pure]
theorem aN4 (ho:o.op=.box 170 x)(hx:ρ x=.agg (wtC s)):(execOp ρ o).run Tryz.prog w=.ok (.value (vP w.heap.size 0)) (w.alloc (.cells (wtC s) 170)):=by
 simp[execOp,ho,hx,go_sem]
theorem aFJ (ho:o.op=.alloc 170):(execOp ρ o).run Tryz.prog w=.ok (.value (vP w.heap.size 0)) (w.alloc (.cells #[.pointer none,.int .i64 0] 170)):=by
 simp[execOp,ho,go_sem]
theorem aFm {u0 u1:Value}(ho:o.op=.store 170 x y)(hx:ρ x=vP g off)(hy:ρ y=.agg (wtC s))(h0:w.cell? ⟨g,off,none⟩=some u0)(h1:w.cell? ⟨g,off+1,none⟩=some u1)(z0:w.frozen? ⟨g,off,none⟩=false)(z1:w.frozen? ⟨g,off+1,none⟩=false) :
  (execOp ρ o).run Tryz.prog w=.ok .skip ((w.setCell ⟨g,off,none⟩ (vP s.c.1 0)).setCell ⟨g,off+1,none⟩ (.int .i64 s.far)):=by
 simp[execOp,ho,hx,hy,go_sem,h0,h1,z0,z1]
theorem aQo (ho:o.op=.load 171 x)(hx:ρ x=vP g off)(hc:w.cell? ⟨g,off,none⟩=some v):(execOp ρ o).run Tryz.prog w=.ok (.value v) w:=by
 simp[execOp,ho,hx,go_sem,hc]
theorem aKI {n c:Nat}(hv:v=.slice p n c)(ho:o.op=.store 172 x y)(hx:ρ x=vP g off)(hy:ρ y=v)(hc:w.cell? ⟨g,off,none⟩=some u)(hz:w.frozen? ⟨g,off,none⟩=false):(execOp ρ o).run Tryz.prog w=.ok .skip (w.setCell ⟨g,off,none⟩ v):=by
 subst hv;simp[execOp,ho,hx,hy,go_sem,hc,hz]
theorem aFI {pb:Nat}{f:Int}(ho:o.op=.build 170 #[(0,x),(1,y)])(hx:ρ x=vP pb 0)(hy:ρ y=.int .i64 f):(execOp ρ o).run Tryz.prog w=.ok (.value (.agg #[vP pb 0,.int .i64 f])) w:=by
 simp[execOp,ho,hx,hy,go_sem]
theorem aFD (ho:o.op=.makeInterface 168 x)(hx:ρ x=.pointer p):(execOp ρ o).run Tryz.prog w=.ok (.value (.iface 168 (.pointer p))) w:=by
 simp[execOp,ho,hx,go_sem]
theorem aFC (ho:o.op=.makeInterface 170 x)(hx:ρ x=.agg (wtC s)):(execOp ρ o).run Tryz.prog w=.ok (.value (.iface 170 (.agg (wtC s)))) w:=by
 simp[execOp,ho,hx,go_sem]
theorem aKH (ho:o.op=.typeAssert x 20 170 true)(hx:ρ x=.iface 170 (.agg (wtC s))):(execOp ρ o).run Tryz.prog w=.ok (.value (.tuple #[.agg (wtC s),.bool true])) w:=by
 have h:(Instr.typeAssert (.iface 170 (.agg (wtC s))) 20 170 true).run Tryz.prog w=.ok (.tuple #[.agg (wtC s),.bool true]) w:=by kernel_rfl
 simp only[execOp,ho,hx,Sem.run_bind,h,Result.andThen_ok,Sem.run_pure]
theorem aSi (q:Nat)(w:World):(method 555 168 (vP q 0) "Len").run Tryz.prog w=.ok (117,vP q 0) w:=by kernel_rfl
theorem aFU (q:Nat)(w:World):(method 555 168 (vP q 0) "Less").run Tryz.prog w=.ok (335,vP q 0) w:=by kernel_rfl
theorem aFT (q:Nat)(w:World):(method 555 168 (vP q 0) "Swap").run Tryz.prog w=.ok (338,vP q 0) w:=by kernel_rfl
theorem aTB (q:Nat)(w:World):(method 555 168 (vP q 0) "Push").run Tryz.prog w=.ok (337,vP q 0) w:=by kernel_rfl
theorem aVJ (q:Nat)(w:World):(method 555 168 (vP q 0) "Pop").run Tryz.prog w=.ok (336,vP q 0) w:=by kernel_rfl
end
section
variable{x y z:Operand}{f:Nat}{nm:String}{ts:Array TypeId}
theorem aHn (hm:(method 555 168 rv nm).run Tryz.prog w=.ok (f,rv) w)(eg:∀args w,(callFunc f args).run Tryz.prog w=.ok (.enter f args) w)(ho:o.op=.call ⟨.invoke x nm,#[],ts⟩)(hx:ρ x=.iface 168 rv):(execOp ρ o).run Tryz.prog w=.ok (.enter f #[rv]) w:=by
 simp[execOp,ho,hx,resolve,invoke,callMethod,go_sem,hm,eg]
theorem aQp (hm:(method 555 168 rv nm).run Tryz.prog w=.ok (f,rv) w)(eg:∀args w,(callFunc f args).run Tryz.prog w=.ok (.enter f args) w)(ho:o.op=.call ⟨.invoke x nm,#[y],ts⟩)(hx:ρ x=.iface 168 rv)(hy:ρ y=v):(execOp ρ o).run Tryz.prog w=.ok (.enter f #[rv,v]) w:=by
 simp[execOp,ho,hx,hy,resolve,invoke,callMethod,go_sem,hm,eg]
theorem aBU (hm:(method 555 168 rv nm).run Tryz.prog w=.ok (f,rv) w)(eg:∀args w,(callFunc f args).run Tryz.prog w=.ok (.enter f args) w)(ho:o.op=.call ⟨.invoke x nm,#[y,z],ts⟩)(hx:ρ x=.iface 168 rv)(hy:ρ y=v)(hz:ρ z=u):(execOp ρ o).run Tryz.prog w=.ok (.enter f #[rv,v,u]) w:=by
 simp[execOp,ho,hx,hy,hz,resolve,invoke,callMethod,go_sem,hm,eg]
end
end Go.Proofs.YtngjlnhojicjeaaGreatDoor
