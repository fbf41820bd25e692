/- A walk within a round of a range over a function: the laws over an abstract act go there as they are. -/
import Derived.Test.YtjaffpnegdcjnaaGreatDoorSDrx
import Derived.Test.YtjaffpnegdcjnaaGreatDoorSBase
import Derived.Test.YtjaffpnegdcjnaaGreatDoorSWa
import Derived.RangeFuncNested
import Derived.TacticsIn
import Derived.OrdersIn
set_option linter.unusedVariables false
set_option linter.unusedSimpArgs false
namespace Go.Pl
open Go.RowKit
abbrev FR (r : Nat) : Fence := Fence.wide.inRound r
variable {ds : List Deferred} {P : Program} {ops : Array Oper} {Q : Exit → Act → World → Prop} {a : Act} {w : World} {r n : Nat}
theorem callsIn_round {f : FuncId} {args : Array Value} {R : Ending → World → Prop} (h : Calls P f args w R) : CallsIn (FR r) n P f args w R := callsIn_wide.2 h
theorem rowsIn_round {row : String} {args : Array Value} {R : Value → World → Prop} (h : Rows P row args w R) : RowsIn (FR r) n P row args w R := fun c cs _ => by
  obtain ⟨v, w', h1, h2⟩ := h c cs
  exact ⟨v, w', h1, stepsIn_wide.2 h2⟩
theorem oper_in {o : Oper} {next : Act → World → Prop} (hd : ∀ c, o.op ≠ .defer c) (h : o.wp P a w next Q) : o.wpIn (FR r) n P a w next Q := by
  refine ⟨fun _ _ => trivial, ?_⟩
  rw [Oper.semAt_eq _ _ _ hd]
  unfold Oper.wp at h
  generalize (execOp a.eval o).run P w = x at *
  cases x with
  | ok n' w' =>
    cases n' <;> simp only [Oper.upon, Oper.uponIn] at h ⊢ <;> first | exact h | exact h.elim | exact ⟨fun h => (by cases h), callsIn_round h⟩ | exact ⟨fun h => (by cases h), rowsIn_round h⟩
  | halt x w' => cases x <;> simp only [Oper.upon, Oper.uponIn] at h ⊢ <;> exact h
def noDef (o : Oper) : Bool := match o.op with | .defer _ => false | _ => true
theorem noDef_ne {o : Oper} (h : noDef o = true) : ∀ c, o.op ≠ .defer c := fun c e => by unfold noDef at h; rw [e] at h; cases h
theorem wpListIn_of (hq : ¬ LetsOut Q) : ∀ (l : List Oper) (a : Act) (w : World), l.all noDef = true → wpList P ops Q l a w → wpListIn (FR r) n P ops Q l a w
  | [], a, w, _, h => h
  | o :: rest, a, w, hd, h => by
    simp only [List.all_cons, Bool.and_eq_true] at hd
    simp only [wpList, wpListIn] at h ⊢
    split
    · rename_i hw
      rw [if_pos hw] at h
      rcases h with h | h
      · exact oper_in (noDef_ne hd.1) (Oper.wp_mono (fun a w h => wpListIn_of hq rest a w hd.2 h) h)
      · exact absurd h.2 hq
    · rename_i hw
      rw [if_neg hw] at h
      exact ⟨fun _ _ => trivial, wpListIn_of hq rest _ w hd.2 h⟩
theorem wpR_region_lit {id : Nat} {l : List Oper} (hd : l.all noDef = true) (hq : ¬ LetsOut Q) (h : wpList P l.toArray Q l a w) : (Code.region id l.toArray false).wpIn (FR r) n P Q a w :=
  wpIn_region_lit (wpListIn_of hq l a w hd h)
theorem wpAnyIn_of (hd : ops.all noDef = true) (hq : ¬ LetsOut Q) : ∀ (fuel : Nat) (listed : Array Bool) (a : Act) (w : World), wpAny P .any ops Q fuel listed a w → wpAnyIn (FR r) n P .any ops Q fuel listed a w
  | 0, listed, a, w, h => h
  | fuel + 1, listed, a, w, h => by
    refine ⟨h.1, fun i hi => ?_⟩
    have h2 := h.2 i hi
    unfold wpOp at h2
    unfold wpOpIn
    cases ho : ops[i]? with
    | none => rw [ho] at h2; exact wpAnyIn_of hd hq fuel _ _ _ h2
    | some o =>
      rw [ho] at h2
      simp only at h2 ⊢
      split
      · rename_i hw
        rw [if_pos hw] at h2
        rcases h2 with h2 | h2
        · refine oper_in (noDef_ne ?_) (Oper.wp_mono (fun a w h => wpAnyIn_of hd hq fuel _ a w h) h2)
          rw [Array.all_eq_true'] at hd
          exact hd o (Array.mem_of_getElem? ho)
        · exact absurd h2.2 hq
      · rename_i hw
        rw [if_neg hw] at h2
        exact ⟨fun _ _ => trivial, wpAnyIn_of hd hq fuel _ _ _ h2⟩
theorem wpR_region_any {id : Nat} (hd : ops.all noDef = true) (hq : ¬ LetsOut Q) (hm : P.follows .mixedOrders = true) (h : wpAny P .any ops Q ops.size (Array.replicate ops.size false) a w.drew) : (Code.region id ops true).wpIn (FR r) n P Q a w :=
  wpIn_region_any hm (wpAnyIn_of hd hq _ _ _ _ h)
theorem wpR_region_invx {G : Type} (γ0 : G) {id k : Nat} {base : List (Nat × Value)} {U : List (Nat × Value × Nat)} {T : G → List (Option (Nat × Value))} {M : G → (Nat → Bool) → World → Prop} (hd : ops.all noDef = true) (hq : ¬ LetsOut Q) (hm : P.follows .mixedOrders = true) (hord : ordered ops = true) (hT : ∀ γ, tableOKu ops n base U (T γ) = true)
    (E : EnvD ds n base a) (hU : ∀ x ∈ U, a.eval (.tmp x.1) = x.2.1) (hM : M γ0 (fun _ => false) w.drew)
    (step : ∀ (i : Nat) (o : Oper) (γ : G) (lst : Nat → Bool) (a : Act) (w : World), ops[i]? = some o → lst i = false → EnvD ds n base a → (∀ (j : Nat) (x : Nat × Value), depOn ops i j = true → (T γ)[j]? = some (some x) → a.eval (.tmp x.1) = x.2) → (∀ j, depOn ops i j = true → lst j = true) → (∀ j k, depOn ops j k = true → lst j = true → lst k = true) → (∀ x ∈ U, depOn ops x.2.2 i = true → a.eval (.tmp x.1) = x.2.1) → M γ lst w →
      (Region.wanted o (yielded ops a.tmps) = true → o.wp P a w (StepX T M i γ lst a) Q) ∧ (Region.wanted o (yielded ops a.tmps) = false → (∀ x, (T γ)[i]? = some (some x) → x.2 = undef) ∧ M γ (fun j => j == i || lst j) w))
    (hend : ∀ γ a w, EnvD ds n base a → (∀ (j : Nat) (x : Nat × Value), (T γ)[j]? = some (some x) → a.eval (.tmp x.1) = x.2) → M γ (fun j => decide (j < ops.size)) w → Q .normal a w) :
    (Code.region id ops true).wpIn (FR r) k P Q a w := by
  refine wpR_region_any hd hq hm (wpAny_invx hord hT step hend _ γ0 _ _ _ (by simp) ?_ ⟨⟨E, ?_, ?_⟩, fun x hx _ => hU x hx, ?_⟩)
  · exact Nat.le_trans (List.length_filter_le _ _) (by simp)
  · intro j x hj hlj
    rw [Array.getD_eq_getD_getElem?, Array.getElem?_replicate] at hlj
    split at hlj <;> simp at hlj
  · have e : (fun j => (Array.replicate ops.size false).getD j false) = fun _ => false := by
      funext j
      rw [Array.getD_eq_getD_getElem?, Array.getElem?_replicate]
      split <;> rfl
    rw [e]; exact hM
  · intro j k _ hlj
    rw [Array.getD_eq_getD_getElem?, Array.getElem?_replicate] at hlj
    split at hlj <;> simp at hlj
/-- A call of the round l: it goes on, or hands back false. -/
def RoundOf (P : Program) (l : Nat) (args : Array Value) (W : World) (R S : World → Prop) : Prop :=
  ∃ m, YieldAt Fence.wide m P l args W fun e W' => (e = .returned (.bool true) ∧ R W') ∨ (e = .returned (.bool false) ∧ S W')
/-- What an iterator owes: it yields vs in order (J k: k rounds are over), as long as no round stops it (S). -/
def IterOf (P : Program) (gf : Nat) (lb : Array Value) (vs : List (Array Value)) (Kp : World → Prop) : Prop :=
  ∀ (l : Nat) (J : Nat → World → Prop) (S : World → Prop) (W : World), (∀ k W W', J k W → Fr (fun _ => False) W W' → J k W') → (∀ W W', S W → Fr (fun _ => False) W W' → S W') → (∀ k W, J k W → Kp W) →
    (∀ k v W, J k W → vs[k]? = some v → RoundOf P l v W (J (k + 1)) S) → J 0 W →
    Calls P gf (#[.func (.yield l) #[] #[]] ++ lb) W fun e W' => (∃ v, e = .returned v) ∧ (J vs.length W' ∨ S W')
end Go.Pl
set_option linter.unusedVariables false
set_option linter.unusedSimpArgs false
namespace Go.Pl
open Go.RowKit
variable {P : Program} {Q : Exit → Act → World → Prop} {a : Act} {w : World}
theorem Fr.putObj (W : World) (l : Nat) (o : Obj) : Fr (fun b => b = l) W (W.putObj l o) :=
  ⟨rfl, rfl, rfl, by simp, fun r _ hr => World.putObj_heap_other hr⟩
/-- What a round leaves: it goes on, or it returns. -/
def rndP (R S : World → Prop) : Exit → Act → World → Prop
  | .normal, _, W => R W
  | .ret, _, W => S W
  | _, _, _ => False
theorem wp_rangeF {g : Operand} {ps : Array Tmp} {assign body : Code} {gf : Nat} {lb : Array Value} {vs : List (Array Value)} {Kp : World → Prop}
    (I : Nat → World → Prop) (St : World → Prop) (A : Array Value → Act → World → Prop)
    (hg : a.eval g = .func (.func gf) #[] lb) (eg : ∀ args w, (callFunc gf args).run P w = .ok (.enter gf args) w)
    (hY : IterOf P gf lb vs Kp) (hps : ∀ v ∈ vs, v.size = ps.size)
    (hI : ∀ k W W', I k W → Fr (fun b => b = w.heap.size ∨ b = w.heap.size + 1) W W' → I k W') (hS : ∀ W W', St W → Fr (fun b => b = w.heap.size ∨ b = w.heap.size + 1) W W' → St W') (hK : ∀ k W, I k W → Kp W) (h0 : I 0 w)
    (hAf : ∀ v a1 W W', A v a1 W → Fr (fun b => b = w.heap.size ∨ b = w.heap.size + 1) W W' → A v a1 W')
    (hassign : ∀ (l : Nat) (v : Array Value) (W : World) (K : Act → World → Prop), v ∈ vs → w.heap.size + 2 ≤ W.heap.size → (∀ a1 W1, A v a1 W1 → Fr (fun _ => False) W W1 → K a1 W1) → assign.wpIn (FR l) 0 P (Exit.then K (fun _ _ _ => False)) { tmps := (ps.zip v).foldl (fun t (p, v) => t.setIfInBounds p v) a.tmps, defers := [] } W)
    (hbody : ∀ (k : Nat) (v : Array Value) (a1 : Act) (W : World), vs[k]? = some v → I k W → A v a1 W → w.heap.size + 2 ≤ W.heap.size → (∃ r, W.heap[w.heap.size + 1]? = some (.loop r)) →
      body.wpIn (FR (w.heap.size + 1)) 0 P (rndP (fun W' => I (k + 1) W' ∧ W'.heap[w.heap.size]? = W.heap[w.heap.size]? ∧ W'.heap[w.heap.size + 1]? = W.heap[w.heap.size + 1]?) (fun W' => St W' ∧ W'.heap[w.heap.size]? = W.heap[w.heap.size]? ∧ W'.heap[w.heap.size + 1]? = W.heap[w.heap.size + 1]?)) a1 W)
    (hdone : ∀ W, I vs.length W → W.heap[w.heap.size]? = some (.deferred (some [])) → Q .normal { a with defers := { target := .collected w.heap.size, args := #[] } :: a.defers } W)
    (hstop : ∀ W, St W → W.heap[w.heap.size]? = some (.deferred (some [])) → Q .ret { a with defers := { target := .collected w.heap.size, args := #[] } :: a.defers } W) :
    (Code.rangeFunc g ps assign body).wp P Q a w := by
  refine (wpIn_wide (n := 0)).1 (wpIn_rangeFunc ?_)
  intro fn hfn
  obtain ⟨rec, hrec⟩ : ∃ rec : LoopState → Option Code → Loop, rec = fun st pe => { state := st, pending := pe, fn, tmps := a.tmps, params := ps, assign, body, defers := w.heap.size } := ⟨_, rfl⟩
  obtain ⟨W1, hW1⟩ : ∃ W1, (w.alloc (.deferred (some []))).alloc (.loop (rec .ready none)) = W1 := ⟨_, rfl⟩
  have hL1 : W1.heap[w.heap.size + 1]? = some (.loop (rec .ready none)) := by
    rw [← hW1]; exact blk_alloc_at (by simp) _
  have hK1 : W1.heap[w.heap.size]? = some (.deferred (some [])) := by
    rw [← hW1]; exact (blk_alloc (by simp) _).trans (blk_alloc_new _ _)
  have hf1 : Fr (fun _ => False) w W1 := by rw [← hW1]; exact ((Fr.refl _ _).alloc _).alloc _
  refine ⟨w.heap.size + 1, [{ target := .collected w.heap.size, args := #[] }], W1, { target := .fn (.func gf) lb, args := #[.func (.yield (w.heap.size + 1)) #[] #[]] }, W1, gf,
    #[.func (.yield (w.heap.size + 1)) #[] #[]] ++ lb, W1, ?_, ?_, fun _ _ => trivial, ?_, fun h => (by cases h), ?_⟩
  · rw [← hW1, hrec]; exact run_enterLoop_outer _ _ _ _ _
  · simp only [resolve, hg]
    simp [go_sem]
  · simp [invoke, go_sem, eg]
  · refine callsIn_wide.2 ((hY (w.heap.size + 1) (fun k W => I k W ∧ W.heap[w.heap.size + 1]? = some (.loop (rec .ready none)) ∧ W.heap[w.heap.size]? = some (.deferred (some [])))
      (fun W => St W ∧ W.heap[w.heap.size + 1]? = some (.loop (rec .done (some .ret))) ∧ W.heap[w.heap.size]? = some (.deferred (some []))) W1
      (fun k W W' h f => ⟨hI k W W' h.1 (f.mono fun _ _ h => h.elim), f.obj h.2.1 id, f.obj h.2.2 id⟩) (fun W W' h f => ⟨hS W W' h.1 (f.mono fun _ _ h => h.elim), f.obj h.2.1 id, f.obj h.2.2 id⟩) (fun k W h => hK k W h.1) ?_ ⟨hI _ _ _ h0 (hf1.mono fun _ _ h => h.elim), hL1, hK1⟩).mono ?_)
    · rintro k v W ⟨hi, hl, hk⟩ hv
      have hvm : v ∈ vs := List.mem_of_getElem? hv
      have hlt := lt_of_blk hl
      have hy := run_yield (P := P) (args := v) hl (by rw [hrec]; exact hps v hvm)
      rw [hrec] at hy
      refine ⟨0, fn, _, assign, body, hy, roundIn_of_wpIn hfn (hassign _ v W _ hvm (by omega) ?_)⟩
      clear hy
      intro a1 W1 hA hfa
      replace hi := hI _ _ _ hi (hfa.mono fun _ _ h => h.elim)
      replace hl := hfa.obj hl id
      replace hk := hfa.obj hk id
      have hlt := lt_of_blk hl
      refine ⟨_, run_beginRound hl (by rw [hrec]), ?_⟩
      have f2 := Fr.putObj W1 (w.heap.size + 1) (.loop { rec .ready none with state := .busy })
      have hl2 : (W1.putObj (w.heap.size + 1) (.loop { rec .ready none with state := .busy })).heap[w.heap.size + 1]? = some (.loop { rec .ready none with state := .busy }) := World.putObj_heap_same hlt
      have hk2 := f2.obj hk (by omega)
      have hs2 : w.heap.size + 2 ≤ (W1.putObj (w.heap.size + 1) (.loop { rec .ready none with state := .busy })).heap.size := by simp; omega
      refine wpIn_mono (hbody k v a1 _ hv (hI _ _ _ hi (f2.mono fun _ _ h => .inr h)) (hAf _ _ _ _ hA (f2.mono fun _ _ h => .inr h)) hs2 ⟨_, hl2⟩) ?_
      rintro e a3 W3 hp
      cases e with
      | normal =>
        obtain ⟨hi3, h3, h4⟩ := hp
        rw [hl2] at h4
        rw [hk2] at h3
        have hr := run_endRound (P := P) none h4
        refine ⟨_, _, hr, .inl ⟨rfl, hI _ _ _ hi3 ((Fr.putObj _ _ _).mono fun _ _ h => .inr h), ?_, (World.putObj_heap_other (by omega)).trans h3⟩⟩
        refine (World.putObj_heap_same (lt_of_blk h4)).trans ?_
        rw [hrec]; rfl
      | ret =>
        obtain ⟨hi3, h3, h4⟩ := hp
        rw [hl2] at h4
        rw [hk2] at h3
        have hr := run_endRound (P := P) (some .ret) h4
        refine ⟨_, _, hr, .inr ⟨rfl, hS _ _ hi3 ((Fr.putObj _ _ _).mono fun _ _ h => .inr h), ?_, (World.putObj_heap_other (by omega)).trans h3⟩⟩
        refine (World.putObj_heap_same (lt_of_blk h4)).trans ?_
        rw [hrec]; rfl
      | exit id => exact hp.elim
      | goto t => exact hp.elim
      | panic ch => exact hp.elim
      | outgrown => exact hp.elim
    · rintro e W2 ⟨⟨v, rfl⟩, ⟨hi, hl, hk⟩ | ⟨hi, hl, hk⟩⟩
      · refine ⟨none, _, by have := run_endLoop (P := P) hl (by rw [hrec]; simp); rw [hrec] at this; exact this, hdone _ (hI _ _ _ hi ((Fr.putObj _ _ _).mono fun _ _ h => .inr h)) ((World.putObj_heap_other (by omega)).trans hk)⟩
      · refine ⟨some .ret, _, by have := run_endLoop (P := P) hl (by rw [hrec]; simp); rw [hrec] at this; exact this, ?_⟩
        exact wpIn_ret (hstop _ (hS _ _ hi ((Fr.putObj _ _ _).mono fun _ _ h => .inr h)) ((World.putObj_heap_other (by omega)).trans hk))
/-! A list of operations under the wide fence (an iterator's own body, where it calls yield). -/
section
variable {O : Array Oper} {rest : List Oper} {o : Oper} {n d m : Nat} {L : List (Nat × Value)} {v : Value} {w' : World} {ds : List Deferred}
theorem envI_put (E : EnvD ds n L a) (hd : o.dst = some d) (hn : d < n) (hf : (L.map (·.1)).contains d = false) (hw : Region.wanted o (yielded O a.tmps) = true) (hr : (execOp a.eval o).run P w = .ok (.value v) w') (k : ∀ a', EnvD ds n ((d, v) :: L) a' → wpListIn Fence.wide m P O Q rest a' w') : wpListIn Fence.wide m P O Q (o :: rest) a w := by
  simp only [wpListIn, hw, if_true]
  refine ⟨fun _ _ => trivial, ?_⟩
  show Oper.uponIn _ _ _ _ _ _ _ ((execOp a.eval o).run P w)
  rw [hr]
  show wpListIn Fence.wide m P O Q rest (a.put o.dst v) w'
  rw [hd]
  exact k _ (E.put hn hf)
theorem run_yieldc {ρ : Operand → Value} {l fn : Nat} {x y : Operand} {ts : Array TypeId} {v : Value} {tmps : Array Value} {as bd : Code} (ho : o.op = .call ⟨.value y, #[x], ts⟩) (hy : ρ y = .func (.yield l) #[] #[]) (hx : ρ x = v) (hrun : (Instr.yield l #[v]).run P w = .ok (.round l fn tmps as bd) w) : (execOp ρ o).run P w = .ok (.round l fn tmps as bd) w := by
  simp [execOp, ho, hy, hx, resolve, Deferred.ofValue, invoke, go_sem, hrun]
theorem run_yieldc2 {ρ : Operand → Value} {l fn : Nat} {x x2 y : Operand} {ts : Array TypeId} {v v2 : Value} {tmps : Array Value} {as bd : Code} (ho : o.op = .call ⟨.value y, #[x, x2], ts⟩) (hy : ρ y = .func (.yield l) #[] #[]) (hx : ρ x = v) (hx2 : ρ x2 = v2) (hrun : (Instr.yield l #[v, v2]).run P w = .ok (.round l fn tmps as bd) w) : (execOp ρ o).run P w = .ok (.round l fn tmps as bd) w := by
  simp [execOp, ho, hy, hx, hx2, resolve, Deferred.ofValue, invoke, go_sem, hrun]
theorem envI_yieldG {l : Nat} {args : Array Value} {R S : World → Prop} (E : EnvD ds n L a) (hd : o.dst = some d) (hn : d < n) (hf : (L.map (·.1)).contains d = false) (hw : Region.wanted o (yielded O a.tmps) = true)
    (hrun : ∀ fn tmps as bd, (Instr.yield l args).run P w = .ok (.round l fn tmps as bd) w → (execOp a.eval o).run P w = .ok (.round l fn tmps as bd) w) (hR : RoundOf P l args w R S)
    (k : ∀ a' w' b, (b = true ∧ R w') ∨ (b = false ∧ S w') → EnvD ds n ((d, .bool b) :: L) a' → wpListIn Fence.wide m P O Q rest a' w') : wpListIn Fence.wide m P O Q (o :: rest) a w := by
  obtain ⟨m', fn, tmps, as, bd, hrun1, hF, hround⟩ := hR
  simp only [wpListIn, hw, if_true]
  refine ⟨fun _ _ => trivial, ?_⟩
  show Oper.uponIn _ _ _ _ _ _ _ ((execOp a.eval o).run P w)
  rw [hrun _ _ _ _ hrun1]
  refine ⟨fun h => (by cases h), trivial, fun c cs _ => ?_⟩
  obtain ⟨e2, w2, h, h3⟩ := hround c cs (room_wide _)
  rcases h with ⟨rfl, h2⟩ | ⟨rfl, h2⟩
  · refine ⟨.returned (.bool true), w2, ?_, h3⟩
    show wpListIn Fence.wide m P O Q rest (a.put o.dst _) w2
    rw [hd]
    exact k _ _ true (.inl ⟨rfl, h2⟩) (E.put hn hf)
  · refine ⟨.returned (.bool false), w2, ?_, h3⟩
    show wpListIn Fence.wide m P O Q rest (a.put o.dst _) w2
    rw [hd]
    exact k _ _ false (.inr ⟨rfl, h2⟩) (E.put hn hf)
theorem envI_yield {l : Nat} {x y : Operand} {ts : Array TypeId} {v : Value} {R S : World → Prop} (E : EnvD ds n L a) (hd : o.dst = some d) (hn : d < n) (hf : (L.map (·.1)).contains d = false) (hw : Region.wanted o (yielded O a.tmps) = true) (ho : o.op = .call ⟨.value y, #[x], ts⟩) (hy : a.eval y = .func (.yield l) #[] #[]) (hx : a.eval x = v) (hR : RoundOf P l #[v] w R S)
    (k : ∀ a' w' b, (b = true ∧ R w') ∨ (b = false ∧ S w') → EnvD ds n ((d, .bool b) :: L) a' → wpListIn Fence.wide m P O Q rest a' w') : wpListIn Fence.wide m P O Q (o :: rest) a w :=
  envI_yieldG E hd hn hf hw (fun _ _ _ _ h => run_yieldc ho hy hx h) hR k
theorem envI_yield2 {l : Nat} {x x2 y : Operand} {ts : Array TypeId} {v v2 : Value} {R S : World → Prop} (E : EnvD ds n L a) (hd : o.dst = some d) (hn : d < n) (hf : (L.map (·.1)).contains d = false) (hw : Region.wanted o (yielded O a.tmps) = true) (ho : o.op = .call ⟨.value y, #[x, x2], ts⟩) (hy : a.eval y = .func (.yield l) #[] #[]) (hx : a.eval x = v) (hx2 : a.eval x2 = v2) (hR : RoundOf P l #[v, v2] w R S)
    (k : ∀ a' w' b, (b = true ∧ R w') ∨ (b = false ∧ S w') → EnvD ds n ((d, .bool b) :: L) a' → wpListIn Fence.wide m P O Q rest a' w') : wpListIn Fence.wide m P O Q (o :: rest) a w :=
  envI_yieldG E hd hn hf hw (fun _ _ _ _ h => run_yieldc2 ho hy hx hx2 h) hR k
theorem envI_region {id : Nat} {l : List Oper} (h : wpListIn Fence.wide 0 P l.toArray Q l a w) : (Code.region id l.toArray false).wp P Q a w := (wpIn_wide (n := 0)).1 (wpIn_region_lit h)
theorem envI_nil (h : Q .normal a w) : wpListIn Fence.wide m P O Q [] a w := h
end
theorem env_zip1 {ds : List Deferred} {n d : Nat} {L : List (Nat × Value)} {a : Act} {x : Value} (E : EnvD ds n L a) (hn : d < n) (hf : (L.map (·.1)).contains d = false) : Env n ((d, x) :: L) { tmps := ((#[d] : Array Tmp).zip #[x]).foldl (fun t (p, v) => t.setIfInBounds p v) a.tmps, defers := [] } := by
  have h := E.put (v := x) hn hf
  refine ⟨?_, ?_, rfl⟩
  · have := h.size
    simpa [Act.put] using this
  · intro y hy
    have := h.at_ y hy
    simpa [Act.put, Act.eval] using this
end Go.Pl
namespace Go.Pl
open Go.RowKit
variable {P : Program} {w w' : World} {ds : List Deferred}
abbrev mkD (D : Nat) : Deferred := { target := .collected D, args := #[] }
def isMark (ds : List Deferred) (k : Nat) : Prop := mkD k ∈ ds
/-- The marks' blocks: each once, each without a call. -/
def MarksOk (w : World) (ds : List Deferred) : Prop := ds.Nodup ∧ ∀ d ∈ ds, ∃ D, d = mkD D ∧ w.heap[D]? = some (.deferred (some []))
theorem MarksOk.nil (w : World) : MarksOk w [] := ⟨List.nodup_nil, fun _ h => by cases h⟩
theorem mkD_inj {a b : Nat} (h : mkD a = mkD b) : a = b := by
  simp only [mkD, Deferred.mk.injEq, Target.collected.injEq] at h; exact h.1
theorem MarksOk.at (h : MarksOk w ds) {k : Nat} (hk : isMark ds k) : w.heap[k]? = some (.deferred (some [])) := by
  obtain ⟨D, h1, h2⟩ := h.2 _ hk
  rw [mkD_inj h1]; exact h2
theorem MarksOk.fr {F : Nat → Prop} (h : MarksOk w ds) (hf : Fr F w w') (hF : ∀ k, isMark ds k → ¬ F k) : MarksOk w' ds :=
  ⟨h.1, fun d hd => by
    obtain ⟨D, h1, h2⟩ := h.2 d hd
    exact ⟨D, h1, hf.obj h2 (hF D (by unfold isMark; rw [← h1]; exact hd))⟩⟩
theorem MarksOk.cons (h : MarksOk w ds) {D : Nat} (hD : w.heap[D]? = some (.deferred (some []))) (hn : ¬ isMark ds D) : MarksOk w (mkD D :: ds) :=
  ⟨List.nodup_cons.2 ⟨hn, h.1⟩, fun d hd => by
    rcases List.mem_cons.1 hd with rfl | hd
    · exact ⟨D, rfl, hD⟩
    · exact h.2 d hd⟩
theorem isMark_cons {D k : Nat} : isMark (mkD D :: ds) k ↔ k = D ∨ isMark ds k := by
  unfold isMark
  rw [List.mem_cons]
  constructor
  · rintro (h | h)
    · exact .inl (mkD_inj h)
    · exact .inr h
  · rintro (rfl | h)
    · exact .inl rfl
    · exact .inr h
theorem leavesM {fn : Func} {tmps : Array Value} {R : Ending → World → Prop} : ∀ (ds : List Deferred) (w : World), MarksOk w ds →
    (∀ w', Fr (isMark ds) w w' → ∃ v, (results fn tmps).run P w' = .ok v w' ∧ R (.returned v) w') → LeavesInM Fence.wide 0 P fn tmps R ds .returning w := by
  intro ds
  induction ds with
  | nil => intro w _ h; exact h w (Fr.refl _ _)
  | cons d ds ih =>
    intro w hm h
    obtain ⟨D, rfl, hD⟩ := hm.2 d (by simp)
    refine ⟨by simp, .inl ⟨D, _, rfl, run_takeDeferred hD, ih _ ⟨(List.nodup_cons.1 hm.1).2, fun e he => ?_⟩ fun w' hf => h w' ?_⟩⟩
    · obtain ⟨D2, rfl, h2⟩ := hm.2 e (by simp [he])
      refine ⟨D2, rfl, (World.putObj_heap_other ?_).trans h2⟩
      rintro rfl
      exact (List.nodup_cons.1 hm.1).1 he
    · exact ((Fr.putObj w D (.deferred none)).mono (fun k _ hk => isMark_cons.2 (.inl hk))).trans' hf (fun k _ hk => isMark_cons.2 (.inr hk))
theorem wp_startM1 {f : FuncId} {fn : Func} {c : Code} {R : Ending → World → Prop} {n : Nat} {v0 : Value} (hf : P.funcs[f]? = some fn) (hb : fn.body = some c) (hn : fn.ntmps = n) (h2 : 1 ≤ n) (k : ∀ a, Env n [(0, v0)] a → c.wp P (bodyPostM Fence.wide 0 P fn R) a w) : Calls P f #[v0] w R := by
  refine (callsIn_wide (n := 0)).1 (callsIn_of_wp_marks hf hb trivial ((wpIn_wide (n := 0)).2 (k _ ⟨?_, ?_, rfl⟩)))
  · simp [hn]; omega
  · intro x hx
    simp only [List.mem_cons, List.not_mem_nil, or_false] at hx
    subst hx
    show (#[v0] ++ Array.replicate (fn.ntmps - 1) undef).getD 0 undef = v0
    rw [Array.getD_eq_getD_getElem?, Array.getElem?_append_left (by simp)]; rfl
theorem retM_tmp {fn : Func} {R : Ending → World → Prop} {n : Nat} {L : List (Nat × Value)} {a : Act} {t : Tmp} {v : Value} (hr : fn.results = #[.tmp t]) (E : EnvD ds n L a) (hv : a.eval (.tmp t) = v) (hm : MarksOk w ds) (h : ∀ w', Fr (isMark ds) w w' → R (.returned v) w') : bodyPostM Fence.wide 0 P fn R .ret a w := by
  show LeavesInM Fence.wide 0 P fn a.tmps R a.defers .returning w
  rw [E.df]
  refine leavesM ds w hm fun w' hf => ⟨v, ?_, h w' hf⟩
  unfold results
  rw [hr]
  have : a.tmps.getD t undef = v := hv
  rw [Array.getD_eq_getD_getElem?] at this
  simp [this]
theorem env_mark {ds : List Deferred} {n D : Nat} {L : List (Nat × Value)} {a : Act} (E : EnvD ds n L a) : EnvD (mkD D :: ds) n L { a with defers := { target := .collected D, args := #[] } :: a.defers } :=
  ⟨E.size, E.at_, by simp only; rw [E.df]⟩
theorem wp_startM2 {f : FuncId} {fn : Func} {c : Code} {R : Ending → World → Prop} {n : Nat} {v0 v1 : Value} (hf : P.funcs[f]? = some fn) (hb : fn.body = some c) (hn : fn.ntmps = n) (h2 : 2 ≤ n) (k : ∀ a, Env n [(0, v0), (1, v1)] a → c.wp P (bodyPostM Fence.wide 0 P fn R) a w) : Calls P f #[v0, v1] w R := by
  refine (callsIn_wide (n := 0)).1 (callsIn_of_wp_marks hf hb trivial ((wpIn_wide (n := 0)).2 (k _ ⟨?_, ?_, rfl⟩)))
  · simp [hn]; omega
  · intro x hx
    simp only [List.mem_cons, List.not_mem_nil, or_false] at hx
    rcases hx with rfl | rfl
    · show (#[v0, v1] ++ Array.replicate (fn.ntmps - 2) undef).getD 0 undef = v0
      rw [Array.getD_eq_getD_getElem?, Array.getElem?_append_left (by simp)]; rfl
    · show (#[v0, v1] ++ Array.replicate (fn.ntmps - 2) undef).getD 1 undef = v1
      rw [Array.getD_eq_getD_getElem?, Array.getElem?_append_left (by simp)]; rfl
theorem retM_ {fn : Func} {R : Ending → World → Prop} {n : Nat} {L : List (Nat × Value)} {a : Act} {v : Value} (E : EnvD ds n L a) (hm : MarksOk w ds) (h : ∀ w', Fr (isMark ds) w w' → (results fn a.tmps).run P w' = .ok v w' ∧ R (.returned v) w') : bodyPostM Fence.wide 0 P fn R .ret a w := by
  show LeavesInM Fence.wide 0 P fn a.tmps R a.defers .returning w
  rw [E.df]
  exact leavesM ds w hm fun w' hf => ⟨v, h w' hf⟩
end Go.Pl
