/- The pieces of spans: the iterator. -/
import Derived.Test.YtjaffpnegdcjnaaGreatDoorSE1
set_option linter.unusedVariables false
set_option linter.unusedSimpArgs false
namespace Go.Proofs.YtjaffpnegdcjnaaGreatDoor
open Go.RowKit Go.Pl
/-- An iterator whose own memory lives across rounds: the rounds write to blocks of H alone, and to new ones. -/
def IterOf3 (P : Program) (gf : Nat) (lb : Array Value) (vs : List (Array Value)) (Kp : World → Prop) : Prop :=
 ∀ (l : Nat) (J : Nat → (Nat → Prop) → World → Prop) (S : World → Prop) (W0 : World), (∀ k H W W' (F : Nat → Prop), J k H W' → Fr F W' W → (∀ b, F b → W0.heap.size ≤ b ∧ ¬ H b) → J k H W) → (∀ W W', S W → Fr (fun _ => False) W W' → S W') → (∀ k H W, J k H W → Kp W ∧ ∀ b, H b → b < W.heap.size) →
  (∀ k H v W, J k H W → vs[k]? = some v → RoundOf P l v W (fun W' => ∃ H', J (k + 1) H' W' ∧ (∀ b, H' b → H b ∨ W.heap.size ≤ b) ∧ Fr H W W') S) → (∃ H, J 0 H W0) →
  Calls P gf (#[.func (.yield l) #[] #[]] ++ lb) W0 fun e W' => (∃ v, e = .returned v) ∧ ((∃ H, J vs.length H W') ∨ S W')
section
variable {P : Program} {Q : Exit → Act → World → Prop} {a : Act} {w : World}
theorem wp_rangeF3 {g : Operand} {ps : Array Tmp} {assign body : Code} {gf : Nat} {lb : Array Value} {vs : List (Array Value)} {Kp : World → Prop}
  (I : Nat → (Nat → Prop) → World → Prop) (St : World → Prop) (A : Array Value → Act → World → Prop)
  (hg : a.eval g = .func (.func gf) #[] lb) (eg : ∀ args w, (callFunc gf args).run P w = .ok (.enter gf args) w)
  (hY : IterOf3 P gf lb vs Kp) (hps : ∀ v ∈ vs, v.size = ps.size)
  (hI : ∀ k H W W' (F : Nat → Prop), I k H W' → Fr F W' W → (∀ b, F b → w.heap.size ≤ b ∧ ¬ H b) → I k H W) (hS : ∀ W W', St W → Fr (fun b => b = w.heap.size ∨ b = w.heap.size + 1) W W' → St W') (hK : ∀ k H W, I k H W → Kp W ∧ ∀ b, H b → b < W.heap.size ∧ b ≠ w.heap.size ∧ b ≠ w.heap.size + 1) (h0 : ∀ W, Fr (fun _ => False) w W → w.heap.size + 2 ≤ W.heap.size → ∃ H, I 0 H W)
  (hAf : ∀ v a1 W W', A v a1 W → Fr (fun b => b = w.heap.size ∨ b = w.heap.size + 1) W W' → A v a1 W')
  (hassign : ∀ (l : Nat) (v : Array Value) (W : World) (K : Act → World → Prop), v ∈ vs → w.heap.size + 2 ≤ W.heap.size → (∀ a1 W1, A v a1 W1 → Fr (fun _ => False) W W1 → K a1 W1) → assign.wpIn (FR l) 0 P (Exit.then K (fun _ _ _ => False)) { tmps := (ps.zip v).foldl (fun t (p, v) => t.setIfInBounds p v) a.tmps, defers := [] } W)
  (hbody : ∀ (k : Nat) (H : Nat → Prop) (v : Array Value) (a1 : Act) (W : World), vs[k]? = some v → I k H W → A v a1 W → w.heap.size + 2 ≤ W.heap.size → (∃ r, W.heap[w.heap.size + 1]? = some (.loop r)) →
   body.wpIn (FR (w.heap.size + 1)) 0 P (rndP (fun W' => (∃ H', I (k + 1) H' W' ∧ (∀ b, H' b → H b ∨ W.heap.size ≤ b) ∧ Fr H W W') ∧ W'.heap[w.heap.size]? = W.heap[w.heap.size]? ∧ W'.heap[w.heap.size + 1]? = W.heap[w.heap.size + 1]?) (fun W' => St W' ∧ W'.heap[w.heap.size]? = W.heap[w.heap.size]? ∧ W'.heap[w.heap.size + 1]? = W.heap[w.heap.size + 1]?)) a1 W)
  (hdone : ∀ H W, I vs.length H W → W.heap[w.heap.size]? = some (.deferred (some [])) → Q .normal { a with defers := { target := .collected w.heap.size, args := #[] } :: a.defers } W)
  (hstop : ∀ W, St W → W.heap[w.heap.size]? = some (.deferred (some [])) → Q .ret { a with defers := { target := .collected w.heap.size, args := #[] } :: a.defers } W) :
  (Code.rangeFunc g ps assign body).wp P Q a w := by
 have hI0 : ∀ k H W W', I k H W → Fr (fun _ => False) W W' → I k H W' := fun k H W W' h f => hI k H W' W _ h f fun _ e => e.elim
 have hIp : ∀ k H W o, I k H W → I k H (W.putObj (w.heap.size + 1) o) := fun k H W o h => hI k H _ W (fun b => b = w.heap.size + 1) h (Fr.putObj W _ o) fun b e => ⟨by omega, fun hH => ((hK k H W h).2 b hH).2.2 e⟩
 refine (wpIn_wide (n := 0)).1 (wpIn_rangeFunc ?_)
 intro fn hfn
 obtain ⟨rec, hrec⟩ : ∃ rec : LoopState → Option Code → Loop, rec = fun st pe => { state := st, pending := pe, fn, tmps := a.tmps, params := ps, assign, body, defers := w.heap.size } := ⟨_, rfl⟩
 obtain ⟨W1, hW1⟩ : ∃ W1, (w.alloc (.deferred (some []))).alloc (.loop (rec .ready none)) = W1 := ⟨_, rfl⟩
 have hL1 : W1.heap[w.heap.size + 1]? = some (.loop (rec .ready none)) := by
  rw [← hW1]; exact blk_alloc_at (by simp) _
 have hK1 : W1.heap[w.heap.size]? = some (.deferred (some [])) := by
  rw [← hW1]; exact (blk_alloc (by simp) _).trans (blk_alloc_new _ _)
 have hf1 : Fr (fun _ => False) w W1 := by rw [← hW1]; exact ((Fr.refl _ _).alloc _).alloc _
 have hsz1 : w.heap.size + 2 ≤ W1.heap.size := by have := lt_of_blk hL1; omega
 refine ⟨w.heap.size + 1, [{ target := .collected w.heap.size, args := #[] }], W1, { target := .fn (.func gf) lb, args := #[.func (.yield (w.heap.size + 1)) #[] #[]] }, W1, gf,
  #[.func (.yield (w.heap.size + 1)) #[] #[]] ++ lb, W1, ?_, ?_, fun _ _ => trivial, ?_, fun h => (by cases h), ?_⟩
 ·rw [← hW1, hrec]; exact run_enterLoop_outer _ _ _ _ _
 ·simp only [resolve, hg]
  simp [go_sem]
 ·simp [invoke, go_sem, eg]
 ·obtain ⟨H0, hI9⟩ := h0 _ hf1 hsz1
  refine callsIn_wide.2 ((hY (w.heap.size + 1) (fun k H W => (∃ G, I k G W ∧ H = fun b => G b ∨ b = w.heap.size + 1) ∧ W.heap[w.heap.size + 1]? = some (.loop (rec .ready none)) ∧ W.heap[w.heap.size]? = some (.deferred (some [])) ∧ w.heap.size + 2 ≤ W.heap.size)
   (fun W => St W ∧ W.heap[w.heap.size + 1]? = some (.loop (rec .done (some .ret))) ∧ W.heap[w.heap.size]? = some (.deferred (some []))) W1
   (fun k H W W' F hh f hF => ⟨hh.1.imp fun G hG => ⟨hI k G W W' F hG.1 f fun b hb => ⟨by have := (hF b hb).1; omega, fun hG2 => (hF b hb).2 (by rw [hG.2]; exact .inl hG2)⟩, hG.2⟩, f.obj hh.2.1 (fun hb => by have := (hF _ hb).1; omega), f.obj hh.2.2.1 (fun hb => by have := (hF _ hb).1; omega), Nat.le_trans hh.2.2.2 f.size⟩) (fun W W' h f => ⟨hS W W' h.1 (f.mono fun _ _ h => h.elim), f.obj h.2.1 id, f.obj h.2.2 id⟩) (fun k H W hh => by
    obtain ⟨⟨G, hG, rfl⟩, _, _, hs⟩ := hh
    exact ⟨(hK k G W hG).1, fun b hb => hb.elim (fun h => ((hK k G W hG).2 b h).1) fun h => by omega⟩) ?_ ⟨_, ⟨H0, hI9, rfl⟩, hL1, hK1, hsz1⟩).mono ?_)
  ·rintro k H v W ⟨⟨G, hi, rfl⟩, hl, hk, hhW⟩ hv
   have hvm : v ∈ vs := List.mem_of_getElem? hv
   have hlt := lt_of_blk hl
   have hy := run_yield (P := P) (args := v) hl (by rw [hrec]; exact hps v hvm)
   rw [hrec] at hy
   refine ⟨0, fn, _, assign, body, hy, roundIn_of_wpIn hfn (hassign _ v W _ hvm (by omega) ?_)⟩
   clear hy
   intro a1 W1 hA hfa
   have hGb := (hK _ _ _ hi).2
   replace hi := hI0 _ _ _ _ hi hfa
   replace hl := hfa.obj hl id
   replace hk := hfa.obj hk id
   have hlt := lt_of_blk hl
   refine ⟨_, run_beginRound hl (by rw [hrec]), ?_⟩
   have f2 := Fr.putObj W1 (w.heap.size + 1) (.loop { rec .ready none with state := .busy })
   have hl2 : (W1.putObj (w.heap.size + 1) (.loop { rec .ready none with state := .busy })).heap[w.heap.size + 1]? = some (.loop { rec .ready none with state := .busy }) := World.putObj_heap_same hlt
   have hk2 := f2.obj hk (by omega)
   have hs1 := hfa.size
   have hs2 := f2.size
   have f02 : Fr (fun b => G b ∨ b = w.heap.size + 1) W (W1.putObj (w.heap.size + 1) (.loop { rec .ready none with state := .busy })) := (hfa.mono (G := fun b => G b ∨ b = w.heap.size + 1) fun _ _ h => h.elim).trans' f2 fun r _ e => .inr e
   refine wpIn_mono (hbody k G v a1 _ hv (hIp _ _ _ _ hi) (hAf _ _ _ _ hA (f2.mono fun _ _ h => .inr h)) (Nat.le_trans hhW (Nat.le_trans hs1 hs2)) ⟨_, hl2⟩) ?_
   rintro e a3 W3 hp
   cases e with
   | normal =>
    obtain ⟨⟨G', hi3, hh3, f3⟩, h3, h4⟩ := hp
    rw [hl2] at h4
    rw [hk2] at h3
    have hr := run_endRound (P := P) none h4
    have hs3 := f3.size
    refine ⟨_, _, hr, .inl ⟨rfl, ⟨_, ⟨⟨G', hIp _ _ _ _ hi3, rfl⟩, ?_, (World.putObj_heap_other (by omega)).trans h3, Nat.le_trans hhW (Nat.le_trans hs1 (Nat.le_trans hs2 (Nat.le_trans hs3 (Fr.putObj W3 _ _).size)))⟩, fun b hb => ?_, (f02.trans' f3 fun r _ e => .inl e).trans' (Fr.putObj _ _ _) fun r _ e => .inr e⟩⟩⟩
    ·refine (World.putObj_heap_same (lt_of_blk h4)).trans ?_
     rw [hrec]; rfl
    ·rcases hb with hb | hb
     ·rcases hh3 b hb with h | h
      ·exact .inl (.inl h)
      ·exact .inr (Nat.le_trans hs1 (Nat.le_trans hs2 h))
     ·exact .inl (.inr hb)
   | ret =>
    obtain ⟨hi3, h3, h4⟩ := hp
    rw [hl2] at h4
    rw [hk2] at h3
    have hr := run_endRound (P := P) (some .ret) h4
    refine ⟨_, _, hr, .inr ⟨rfl, hS _ _ hi3 ((Fr.putObj _ _ _).mono fun _ _ h => .inr h), ?_, (World.putObj_heap_other (by omega)).trans h3⟩⟩
    refine (World.putObj_heap_same (lt_of_blk h4)).trans ?_
    rw [hrec]; rfl
   | exit id => exact hp.elim
   | goto t => exact hp.elim
   | panic ch => exact hp.elim
   | outgrown => exact hp.elim
  ·rintro e W2 ⟨⟨v, rfl⟩, ⟨H, ⟨G, hi, _⟩, hl, hk, _⟩ | ⟨hi, hl, hk⟩⟩
   ·refine ⟨none, _, by have := run_endLoop (P := P) hl (by rw [hrec]; simp); rw [hrec] at this; exact this, hdone G _ (hIp _ _ _ _ hi) ((World.putObj_heap_other (by omega)).trans hk)⟩
   ·refine ⟨some .ret, _, by have := run_endLoop (P := P) hl (by rw [hrec]; simp); rw [hrec] at this; exact this, ?_⟩
    exact wpIn_ret (hstop _ (hS _ _ hi ((Fr.putObj _ _ _).mono fun _ _ h => .inr h)) ((World.putObj_heap_other (by omega)).trans hk))
end
def pcv (L : List Sp) : List (Array Value) := (L.flatMap pcs).map fun p => #[.int .i64 p.1, .agg (spA (p.2.1, p.2.2))]
def msr (w : World) (b : Nat) : Nat := match w.cell? ⟨b, 0, none⟩, w.cell? ⟨b, 1, none⟩ with | some (.int _ f), some (.int _ t) => (t - f).toNat | _, _ => 0
theorem msr_eq {w : World} {b : Nat} {f t : Int} (h : w.heap[b]? = some (.cells #[.int .i64 f, .int .i64 t] 48 (0, 0))) : msr w b = (t - f).toNat := by
 have h0 : w.cell? ⟨b, 0, none⟩ = some (.int .i64 f) := bx h 0 rfl
 have h1 : w.cell? ⟨b, 1, none⟩ = some (.int .i64 t) := bx h 1 rfl
 unfold msr; rw [h0, h1]
theorem pcs_at {L : List Sp} {q : Nat} {p : Int × Int × Int} {r : List (Int × Int × Int)} (h : (L.flatMap pcs).drop q = p :: r) : (pcv L)[q]? = some #[.int .i64 p.1, .agg (spA (p.2.1, p.2.2))] ∧ (L.flatMap pcs).drop (q + 1) = r ∧ q + 1 ≤ (L.flatMap pcs).length := by
 have h1 : (L.flatMap pcs)[q]? = some p := by
  have := congrArg (fun l => l[0]?) h
  simpa using this
 refine ⟨by unfold pcv; rw [List.getElem?_map, h1]; rfl, ?_⟩
 have h2 := congrArg (List.drop 1) h
 exact ⟨by simpa [List.drop_drop] using h2, (List.getElem?_eq_some_iff.1 h1).1⟩
theorem pcsF_step {n : Nat} {f t : Int} (hlt : f < t) (h0 : 0 ≤ f) (h1 : t ≤ 10080) (hn : 10080 - f / 1440 * 1440 ≤ 1440 * n) : ∃ m, n = m + 1 ∧ pcsF n f t = (f / 1440, f - f / 1440 * 1440, min t ((f / 1440 + 1) * 1440) - f / 1440 * 1440) :: pcsF m (min t ((f / 1440 + 1) * 1440)) t ∧ (f < min t ((f / 1440 + 1) * 1440)) ∧ 0 ≤ min t ((f / 1440 + 1) * 1440) ∧ (min t ((f / 1440 + 1) * 1440) < t → 10080 - min t ((f / 1440 + 1) * 1440) / 1440 * 1440 ≤ 1440 * m) := by
 cases n with
 | zero => omega
 | succ m =>
  refine ⟨m, rfl, ?_, by omega, by omega, fun h => by omega⟩
  show (if f < t then _ else _) = _
  rw [if_pos hlt]
theorem pcsF_nil {n : Nat} {f t : Int} (h : ¬ f < t) : pcsF n f t = [] := by
 cases n with
 | zero => rfl
 | succ n => show (if f < t then _ else _) = _; rw [if_neg h]
set_option maxRecDepth 100000 in
set_option maxHeartbeats 4000000 in
theorem pieces_yields {c1 G cap : Nat} {p : Option Addr} {L : List Sp} (hl : L.length ≤ 400000000) (hwk : wk L) : IterOf3 Tryz.prog 66 #[.pointer (some ⟨c1, 0, none⟩)] (pcv L) (ValK c1 G p cap L) := by
 intro l J S w hJF hSF hKp hround ⟨H0, hJ⟩
 refine wp_start2 Tryz.func66 rfl rfl (n := 44) (by decide) fun a E => ?_
 obtain ⟨hc1, hsp, hG⟩ := (hKp _ _ _ hJ).1
 have hcl := lt_of_blk hc1
 refine wp_seq ?_
 refine wp_region_lit ?_
 refine ep (v := .slice (p) L.length cap) E (run_ld22 rfl (E.get 1 rfl) (bx hc1 0 rfl)) fun a E => ?_
 refine ep (v := .int .i64 (L.length : Int)) E (run_len22 rfl (E.get 0 rfl)) fun a E => ?_
 refine ep (v := .int .i64 0) E (run_move rfl rfl) fun a E => ?_
 refine wpList_nil ?_
 refine then_n ?_
 refine wp_block ?_
 refine wp_loop (fun a w2 => ∃ (k : Nat) (q : Nat) (H : Nat → Prop), Env 44 [(0, .func (.yield l) #[] #[]), (1, .pointer (some ⟨c1, 0, none⟩)), (7, .slice (p) L.length cap), (8, .int .i64 (L.length : Int)), (9, .int .i64 (k : Int))] a ∧ k ≤ L.length ∧ J q H w2 ∧ (L.flatMap pcs).drop q = (L.drop k).flatMap pcs ∧ w.heap.size ≤ w2.heap.size ∧ q ≤ (L.flatMap pcs).length) (fun a _ => L.length - (intOf (a.eval (.tmp 9))).toNat) ?_ ?_
 ·exact ⟨0, 0, H0, E.of ⟨E.get 3 rfl, E.get 4 rfl, E.get 2 rfl, E.get 1 rfl, E.get 0 rfl, trivial⟩, Nat.zero_le _, hJ, rfl, Nat.le_refl _, Nat.zero_le _⟩
 clear E
 rintro a w2 ⟨k, q, H, E, hk, hJ, hq, hsz, hql⟩
 have hmu : L.length - (intOf (a.eval (.tmp 9))).toNat = L.length - k := by rw [E.get 4 rfl]; first | rfl | (simp [intOf]; done) | (simp only [intOf]; omega)
 rw [hmu]
 clear hmu
 have hf : Fr (fun _ => False) w2 w2 := Fr.refl _ _
 obtain ⟨⟨hc1, hsp, hG⟩, hHb⟩ := hKp _ _ _ hJ
 refine wp_seq ?_
 refine wp_region_lit ?_
 refine ep (v := .bool (decide ((k : Int) < (L.length : Int)))) E (run_ilss (E.get 4 rfl) (E.get 3 rfl) Tryz.underlying3 rfl) fun a E => ?_
 refine wpList_nil ?_
 refine then_n ?_
 refine wp_seq ?_
 cases hq147 : (decide ((k : Int) < (L.length : Int))) with
 | false =>
  rw [hq147] at E
  have hie : k = L.length := by have := of_decide_eq_false hq147; omega
  refine wp_cond_false (E.get 0 rfl) ?_
  refine wp_exit ?_
  refine then_e ?_
  refine then_e ?_
  refine blk_e ?_
  refine (ret_nil rfl E ⟨⟨_, rfl⟩, .inl ?_⟩).1
  have hq9 : q = (L.flatMap pcs).length ∨ (L.flatMap pcs).length < q := by
   have h9 := congrArg List.length hq
   rw [hie, List.drop_length] at h9
   simp only [List.length_drop, List.flatMap_nil, List.length_nil] at h9
   omega
  unfold pcv; rw [List.length_map]
  exact ⟨_, (hq9.resolve_right (by omega)) ▸ hJ⟩
 | true =>
  rw [hq147] at E
  have hlt : k < L.length := by have := of_decide_eq_true hq147; omega
  obtain ⟨y, hy⟩ : ∃ y, L[k]? = some y := ⟨_, List.getElem?_eq_getElem hlt⟩
  obtain ⟨g148, off148, hpe148, hgl148, hrow148⟩ := hsp.at hlt
  replace hrow148 := hrow148 k y hy
  refine wp_cond_true (E.get 0 rfl) ?_
  refine wp_skip ?_
  refine then_n ?_
  refine wp_seq ?_
  refine wp_block ?_
  refine wp_seq ?_
  refine wp_region_lit ?_
  refine ep (v := .pointer (some ⟨g148, (off148 + k * 2), none⟩)) E (run_index22 (i := k) rfl ((E.get 3 rfl).trans (by rw [hpe148])) (E.get 5 rfl) hlt) fun a E => ?_
  refine ep (v := .agg (spA y)) E (run_ld48 rfl (E.get 0 rfl) hrow148) fun a E => ?_
  refine env_new (d := 4) E rfl (by decide) rfl (wanted_none rfl _) (run_alloc48 rfl) fun a w1 b149 eb149 hb149 f1 E => ?_
  have hnb149 : w2.heap.size ≤ b149 := by have := hf.size; omega
  have hlc1b149 : c1 < b149 := by have := lt_of_blk hc1; omega
  have hsp := srcAt.fr hsp f1 (fun r hr => id)
  have hc1 := f1.obj hc1 id
  have hsz := Nat.le_trans hsz f1.size
  have hrow148 := fun j u hu => f1.cell (hrow148 j u hu) id
  have hf := hf.trans' f1 (fun _ _ h => h.elim)
  clear f1
  refine env_st48 E rfl (wanted_none rfl _) rfl (E.get 0 rfl) (E.get 1 rfl) hb149 fun w1 hb149n f1 E => ?_
  have hsp := srcAt.fr hsp f1 (fun r hr => (fun e => by (try simp only at e); omega))
  have hc1 := f1.obj hc1 (fun e => by (try simp only at e); omega)
  have hsz := Nat.le_trans hsz f1.size
  have hrow148 := fun j u hu => f1.cell (hrow148 j u hu) (fun e => by (try simp only at e); omega)
  have hf := hf.trans' f1 (fun r hr => (fun e => by (try simp only at e); omega))
  clear f1
  replace hb149 := hb149n
  refine wpList_nil ?_
  refine then_n ?_
  refine wp_block ?_
  have hJ4 := hJF _ _ _ _ _ hJ hf (fun _ e => e.elim)
  have hHn : ∀ b, H b → b ≠ b149 := fun b hb => by have := hHb b hb; omega
  have hb4s : w.heap.size ≤ b149 := by omega
  have hy2 := hwk y (List.mem_of_getElem? hy)
  have hq0 : (L.flatMap pcs).drop q = pcsF 8 y.1 y.2 ++ (L.drop (k + 1)).flatMap pcs := by
   rw [hq, List.drop_eq_getElem_cons hlt, show L[k] = y from Option.some.inj ((List.getElem?_eq_getElem hlt).symm.trans hy)]; rfl
  refine wp_loop (fun a w2 => ∃ (f : Int) (n q : Nat) (H : Nat → Prop), Env 44 [(0, .func (.yield l) #[] #[]), (1, .pointer (some ⟨c1, 0, none⟩)), (7, .slice (p) L.length cap), (8, .int .i64 (L.length : Int)), (9, .int .i64 (k : Int)), (4, .pointer (some ⟨b149, 0, none⟩))] a ∧ w2.heap[b149]? = some (.cells #[.int .i64 f, .int .i64 y.2] 48 (0, 0)) ∧ J q H w2 ∧ (∀ b, H b → b ≠ b149) ∧ (L.flatMap pcs).drop q = pcsF n f y.2 ++ (L.drop (k + 1)).flatMap pcs ∧ 0 ≤ f ∧ (f < y.2 → 10080 - f / 1440 * 1440 ≤ 1440 * n) ∧ w.heap.size ≤ w2.heap.size ∧ q ≤ (L.flatMap pcs).length) (fun a w2 => msr w2 b149) ?_ ?_
  ·exact ⟨y.1, 8, q, H, E.of ⟨E.get 4 rfl, E.get 5 rfl, E.get 6 rfl, E.get 7 rfl, E.get 8 rfl, E.get 0 rfl, trivial⟩, hb149, hJ4, hHn, hq0, by omega, fun _ => by omega, hsz, hql⟩
  clear E
  rintro a w2 ⟨f, n, q, H, E, hb149, hJ, hHn, hq, hf0, hfn, hsz, hql⟩
  rw [msr_eq hb149]
  refine wp_seq ?_
  refine wp_seq ?_
  refine wp_region_lit ?_
  refine ep (v := .pointer (some ⟨b149, 0, none⟩)) E (fa48_0 rfl (E.get 5 rfl)) fun a E => ?_
  refine ep (v := .int .i64 f) E (run_ldi rfl (E.get 0 rfl) (bx hb149 0 rfl)) fun a E => ?_
  refine ep (v := .pointer (some ⟨b149, 1, none⟩)) E (fa48_1 rfl (E.get 7 rfl)) fun a E => ?_
  refine ep (v := .int .i64 y.2) E (run_ldi rfl (E.get 0 rfl) (bx hb149 1 rfl)) fun a E => ?_
  refine ep (v := .bool (decide (f < y.2))) E (run_ilss (E.get 2 rfl) (E.get 0 rfl) Tryz.underlying3 rfl) fun a E => ?_
  refine wpList_nil ?_
  refine then_n ?_
  cases hq150 : (decide (f < y.2)) with
  | false =>
   rw [hq150] at E
   refine wp_cond_false (E.get 0 rfl) ?_
   refine wp_exit ?_
   refine then_e ?_
   refine then_e ?_
   refine blk_e ?_
   refine blk_n ?_
   refine then_n ?_
   refine wp_region_lit ?_
   refine ep (v := .int .i64 ((k : Int) + 1)) E (run_iadd Tryz.underlying3 (E.get 9 rfl) rfl (by omega) (by omega) rfl) fun a E => ?_
   refine env_set (d := 9) (v := .int .i64 ((k : Int) + 1)) E rfl (by decide) (wanted_none rfl _) (run_move rfl (E.get 0 rfl)) fun a E => ?_
   refine wpList_nil ?_
   refine then_n ?_
   refine ⟨⟨k + 1, q, H, E.of ⟨E.get 7 rfl, E.get 8 rfl, E.get 9 rfl, E.get 10 rfl, E.get 0 rfl, trivial⟩, hlt, hJ, ?_, hsz, hql⟩, ?_⟩
   ·rw [hq, pcsF_nil (of_decide_eq_false hq150)]; rfl
   ·rw [E.get 0 rfl]; simp only [intOf]; omega
  | true =>
   rw [hq150] at E
   have hft : f < y.2 := of_decide_eq_true hq150
   obtain ⟨m9, hnm, hpc, hmm1, hmm3, hmm4⟩ := pcsF_step hft hf0 (by omega) (hfn hft)
   rw [hpc, List.cons_append] at hq
   obtain ⟨hv9, hq9, hql9⟩ := pcs_at hq
   refine wp_cond_true (E.get 0 rfl) ?_
   refine wp_skip ?_
   refine then_n ?_
   refine wp_block ?_
   refine wp_seq ?_
   refine wp_region_lit ?_
   refine ep (v := .pointer (some ⟨b149, 0, none⟩)) E (fa48_0 rfl (E.get 10 rfl)) fun a E => ?_
   refine ep (v := .int .i64 f) E (run_ldi rfl (E.get 0 rfl) (bx hb149 0 rfl)) fun a E => ?_
   refine ep (v := .int .i64 (f / 1440)) E (run_iquo (E.get 0 rfl) rfl (by omega) (by omega) (by omega) (by omega) rfl) fun a E => ?_
   refine ep (v := .int .i64 (f / 1440)) E (run_assign rfl (E.get 0 rfl)) fun a E => ?_
   refine wpList_nil ?_
   refine then_n ?_
   refine wp_seq ?_
   refine wp_region_lit ?_
   refine ep (v := .pointer (some ⟨b149, 1, none⟩)) E (fa48_1 rfl (E.get 14 rfl)) fun a E => ?_
   refine ep (v := .int .i64 y.2) E (run_ldi rfl (E.get 0 rfl) (bx hb149 1 rfl)) fun a E => ?_
   refine ep (v := .int .i64 (f / 1440)) E (run_move rfl (E.get 2 rfl)) fun a E => ?_
   refine ep (v := .int .i64 ((f / 1440) + 1)) E (run_iadd Tryz.underlying3 (E.get 0 rfl) rfl (by omega) (by omega) rfl) fun a E => ?_
   refine ep (v := .int .i64 (((f / 1440) + 1) * 1440)) E (run_imul Tryz.underlying3 (E.get 0 rfl) rfl (by omega) (by omega) rfl) fun a E => ?_
   refine ep (v := .int .i64 (min y.2 (((f / 1440) + 1) * 1440))) E (run_min rfl (E.get 3 rfl) (E.get 0 rfl)) fun a E => ?_
   refine ep (v := .int .i64 (min y.2 (((f / 1440) + 1) * 1440))) E (run_assign rfl (E.get 0 rfl)) fun a E => ?_
   refine wpList_nil ?_
   refine then_n ?_
   refine wp_seq ?_
   refine wp_seq ?_
   refine envI_region ?_
   refine envI_put (d := 27) (v := .func (.yield l) #[] #[]) E rfl (by decide) rfl (wanted_none rfl _) (run_move rfl (E.get 16 rfl)) fun a E => ?_
   refine envI_put (d := 28) (v := .int .i64 (f / 1440)) E rfl (by decide) rfl (wanted_none rfl _) (run_move rfl (E.get 8 rfl)) fun a E => ?_
   refine envI_put (d := 29) (v := .pointer (some ⟨b149, 0, none⟩)) E rfl (by decide) rfl (wanted_none rfl _) (fa48_0 rfl (E.get 23 rfl)) fun a E => ?_
   refine envI_put (d := 30) (v := .int .i64 f) E rfl (by decide) rfl (wanted_none rfl _) (run_ldi rfl (E.get 0 rfl) (bx hb149 0 rfl)) fun a E => ?_
   refine envI_put (d := 31) (v := .int .i64 (f / 1440)) E rfl (by decide) rfl (wanted_none rfl _) (run_move rfl (E.get 11 rfl)) fun a E => ?_
   refine envI_put (d := 32) (v := .int .i64 ((f / 1440) * 1440)) E rfl (by decide) rfl (wanted_none rfl _) (run_imul Tryz.underlying3 (E.get 0 rfl) rfl (by omega) (by omega) rfl) fun a E => ?_
   refine envI_put (d := 33) (v := .int .i64 (f - ((f / 1440) * 1440))) E rfl (by decide) rfl (wanted_none rfl _) (run_isub Tryz.underlying3 (E.get 2 rfl) (E.get 0 rfl) (by omega) (by omega) rfl) fun a E => ?_
   refine envI_put (d := 34) (v := .int .i64 (min y.2 (((f / 1440) + 1) * 1440))) E rfl (by decide) rfl (wanted_none rfl _) (run_move rfl (E.get 7 rfl)) fun a E => ?_
   refine envI_put (d := 35) (v := .int .i64 (f / 1440)) E rfl (by decide) rfl (wanted_none rfl _) (run_move rfl (E.get 15 rfl)) fun a E => ?_
   refine envI_put (d := 36) (v := .int .i64 ((f / 1440) * 1440)) E rfl (by decide) rfl (wanted_none rfl _) (run_imul Tryz.underlying3 (E.get 0 rfl) rfl (by omega) (by omega) rfl) fun a E => ?_
   refine envI_put (d := 37) (v := .int .i64 ((min y.2 (((f / 1440) + 1) * 1440)) - ((f / 1440) * 1440))) E rfl (by decide) rfl (wanted_none rfl _) (run_isub Tryz.underlying3 (E.get 2 rfl) (E.get 0 rfl) (by omega) (by omega) rfl) fun a E => ?_
   refine envI_put (d := 38) (v := .agg (spA ((f - ((f / 1440) * 1440)), ((min y.2 (((f / 1440) + 1) * 1440)) - ((f / 1440) * 1440))))) E rfl (by decide) rfl (wanted_none rfl _) (run_of48 rfl (E.get 4 rfl) (E.get 0 rfl)) fun a E => ?_
   refine envI_yield2 (d := 39) E rfl (by decide) rfl (wanted_none rfl _) rfl (E.get 11 rfl) (E.get 10 rfl) (E.get 0 rfl) (hround q H _ _ hJ hv9) fun a w3 bb hbb E => ?_
   refine envI_put (d := 40) (v := .bool (!bb)) E rfl (by decide) rfl (wanted_none rfl _) (run_not rfl (E.get 0 rfl)) fun a E => ?_
   refine envI_nil ?_
   refine then_n ?_
   cases hq151 : bb with
   | false =>
    rw [hq151] at E
    have hS : S w3 := hbb.elim (fun h9 => by rw [hq151] at h9; cases h9.1) (fun h9 => h9.2)
    refine wp_cond_true (E.get 0 rfl) ?_
    refine wp_ret ?_
    refine then_r ?_
    refine blk_r ?_
    refine then_r ?_
    refine blk_r ?_
    refine blk_r ?_
    refine then_r ?_
    refine then_r ?_
    refine blk_r ?_
    refine (ret_nil rfl E ⟨⟨_, rfl⟩, .inr hS⟩).2
   | true =>
    rw [hq151] at E
    obtain ⟨H9, hJ9, hH9, fy⟩ : ∃ H9, J (q + 1) H9 w3 ∧ (∀ b, H9 b → H b ∨ w2.heap.size ≤ b) ∧ Fr H w2 w3 := hbb.elim (fun h9 => h9.2) (fun h9 => by rw [hq151] at h9; cases h9.1)
    refine wp_cond_false (E.get 0 rfl) ?_
    refine wp_skip ?_
    refine then_n ?_
    have hl4 := lt_of_blk hb149
    have hb149 := fy.obj hb149 (fun e => hHn _ e rfl)
    have hHn9 : ∀ b, H9 b → b ≠ b149 := fun b hb9 e => by subst e; rcases hH9 _ hb9 with h9 | h9; exact hHn _ h9 rfl; omega
    have hsz := Nat.le_trans hsz fy.size
    refine wp_region_lit ?_
    refine ep (v := .int .i64 (min y.2 (((f / 1440) + 1) * 1440))) E (run_move rfl (E.get 14 rfl)) fun a E => ?_
    refine ep (v := .pointer (some ⟨b149, 0, none⟩)) E (fa48_0 rfl (E.get 36 rfl)) fun a E => ?_
    refine env_st1 (j := 0) E rfl (wanted_none rfl _) hb149 (run_st3 rfl (E.get 0 rfl) (E.get 1 rfl) (bx hb149 0 rfl) (free_of_blk hb149 0)) fun w1 hb149n f1 E => ?_
    replace hb149n : w1.heap[b149]? = some (.cells #[.int .i64 (min y.2 (((f / 1440) + 1) * 1440)), .int .i64 y.2] 48 (0, 0)) := hb149n
    have hsz := Nat.le_trans hsz f1.size
    have hJ9 := hJF _ _ _ _ _ hJ9 f1 (fun b e => ⟨by (try simp only at e); omega, fun e9 => hHn9 b e9 (by (try simp only at e); omega)⟩)
    clear f1
    replace hb149 := hb149n
    refine wpList_nil ?_
    refine blk_n ?_
    refine then_n ?_
    refine ⟨⟨_, m9, q + 1, H9, E.of ⟨E.get 32 rfl, E.get 33 rfl, E.get 34 rfl, E.get 35 rfl, E.get 36 rfl, E.get 37 rfl, trivial⟩, hb149, hJ9, hHn9, hq9, hmm3, hmm4, hsz, hql9⟩, ?_⟩
    rw [msr_eq hb149]; omega
end Go.Proofs.YtjaffpnegdcjnaaGreatDoor
