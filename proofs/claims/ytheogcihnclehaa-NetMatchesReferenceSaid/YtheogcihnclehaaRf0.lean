/- The reference network: its state, its representation, and the functions that only read it. -/
import Derived.Test.YtheogcihnclehaaTwo
namespace Go.Proofs.Ytheogcihnclehaa
open Go.RowKit Go.Pl Go.WideMaps

/-! ### rows of cells -/
theorem flat_len {α : Type} {f : α → List Value} {c : Nat} (hf : ∀ x, (f x).length = c) (l : List α) : (l.flatMap f).length = l.length * c := by
  induction l with
  | nil => simp
  | cons y l ih => rw [List.flatMap_cons, List.length_append, ih, hf, List.length_cons, Nat.succ_mul, Nat.add_comm]
theorem flat_at {α : Type} {f : α → List Value} {c : Nat} (hf : ∀ x, (f x).length = c) (l : List α) : ∀ (i : Nat) (x : α), l[i]? = some x → ∀ j, j < c → (l.flatMap f)[i * c + j]? = (f x)[j]? := by
  induction l with
  | nil => intro i x h; simp at h
  | cons y l ih =>
    intro i x h j hj
    rw [List.flatMap_cons]
    cases i with
    | zero => simp at h; subst h; rw [Nat.zero_mul, Nat.zero_add, List.getElem?_append_left (by rw [hf]; exact hj)]
    | succ i =>
      simp at h
      rw [List.getElem?_append_right (by rw [hf, Nat.succ_mul]; omega), hf, show (i + 1) * c + j - c = i * c + j by rw [Nat.succ_mul]; omega]
      exact ih i x h j hj
theorem flat_take {α : Type} {f : α → List Value} {c : Nat} (hf : ∀ x, (f x).length = c) (l : List α) : ∀ i : Nat, (l.flatMap f).take (i * c) = (l.take i).flatMap f := by
  induction l with
  | nil => simp
  | cons y l ih =>
    intro i
    cases i with
    | zero => simp
    | succ i =>
      rw [List.flatMap_cons, List.take_append, hf, show (i + 1) * c - c = i * c by rw [Nat.succ_mul]; omega, ih, List.take_of_length_le (by rw [hf, Nat.succ_mul]; omega), List.take_succ_cons, List.flatMap_cons]
theorem flat_drop {α : Type} {f : α → List Value} {c : Nat} (hf : ∀ x, (f x).length = c) (l : List α) : ∀ i : Nat, (l.flatMap f).drop (i * c) = (l.drop i).flatMap f := by
  induction l with
  | nil => simp
  | cons y l ih =>
    intro i
    cases i with
    | zero => simp
    | succ i =>
      rw [List.flatMap_cons, List.drop_append, hf, show (i + 1) * c - c = i * c by rw [Nat.succ_mul]; omega, ih, List.drop_of_length_le (by rw [hf, Nat.succ_mul]; omega), List.nil_append, List.drop_succ_cons]

/-- What a slice of one's own says of its elements, row by row. -/
theorem own_rows {α : Type} {f : α → List Value} {c : Nat} (hf : ∀ x, (f x).length = c) {w : World} {B : Nat} {E : TypeId} {v : Value} {l : List α} (h : w.ownsRow B E c v l.length (l.flatMap f)) :
    ∃ sa g cap, v = .slice sa l.length cap ∧ l.length ≤ cap ∧ cap ≤ 9223372036854775807 ∧ ∀ i x, l[i]? = some x → sa = some ⟨g, 0, none⟩ ∧ g < w.heap.size ∧ ∀ j u, (f x)[j]? = some u → w.cell? ⟨g, i * c + j, none⟩ = some u := by
  have h0 := h
  rcases h.2 with ⟨h1, h2⟩ | ⟨g, cap, cur, h1, _, h3, h4, h5, _⟩
  · have hl : l = [] := List.eq_nil_of_length_eq_zero h2
    subst hl
    exact ⟨none, 0, 0, h1, Nat.le_refl _, by omega, fun i x hx => by simp at hx⟩
  · subst h1
    refine ⟨_, g, cap, rfl, h4, by unfold maxLen at h5; omega, fun i x hx => ⟨rfl, lt_of_blk h3, fun j u hu => ?_⟩⟩
    have hj : j < c := by rw [← hf x]; exact (List.getElem?_eq_some_iff.1 hu).1
    have := h0.cells (g := g) rfl (i * c + j) u (by rw [flat_at hf l i x hx j hj]; exact hu)
    rwa [Addr.add_lit, Nat.zero_add] at this

/-! ### the state -/
abbrev Msg := Int × Int × ByteArray
def mcells (m : Msg) : List Value := [.int .i64 m.1, .int .i64 m.2.1, .string m.2.2]
def pcells (c : Int × Int) : List Value := [.int .i64 c.1, .int .i64 c.2]
structure RefS where
  nodes : Int
  ms : List Msg
  cut : List (Int × Int)
def mt (a b : Int) (m : Msg) : Bool := m.1 == a && m.2.1 == b

/-- The reference network in memory; σ are its blocks. -/
structure RefAt (w : World) (r : Nat) (σ : Nat → Prop) (R : RefS) (mv cv : Value) : Prop where
  hp : w.heap[r]? = some (.cells #[.int .i64 R.nodes, mv, cv] 64 (0, 0))
  own : σ r
  hm : w.ownsRow 0 77 3 mv R.ms.length (R.ms.flatMap mcells)
  hc : w.ownsRow 0 45 2 cv R.cut.length (R.cut.flatMap pcells)
  om : ∀ k, mv.ownBlock = some k → σ k
  oc : ∀ k, cv.ownBlock = some k → σ k
  lt : ∀ k, σ k → k < w.heap.size
  nn : 1 ≤ R.nodes ∧ R.nodes ≤ 8

def rightN (n a b : Int) : Prop := 0 ≤ a ∧ 0 ≤ b ∧ a < n ∧ b < n ∧ a ≠ b
instance (n a b : Int) : Decidable (rightN n a b) := by unfold rightN; infer_instance

theorem right_nil (a b : Int) (w : World) : Calls Try.prog 34 #[.pointer none, .int .i64 a, .int .i64 b] w fun e w' => e = .returned (.bool false) ∧ w = w' := by
  go_enter Try.func34, Try.ntmps34
  go_wp2
  go_ret
  exact ⟨rfl, rfl⟩

theorem right_calls (r : Nat) (n a b : Int) (w : World) (c0 : w.cell? ⟨r, 0, none⟩ = some (.int .i64 n)) :
    Calls Try.prog 34 #[.pointer (some ⟨r, 0, none⟩), .int .i64 a, .int .i64 b] w fun e w' => e = .returned (.bool (decide (rightN n a b))) ∧ w = w' := by
  go_enter Try.func34, Try.ntmps34
  by_cases h1 : 0 ≤ a
  · by_cases h2 : a < n
    · by_cases h3 : 0 ≤ b
      · by_cases h4 : b < n
        · by_cases h5 : a = b
          · have h5' : (a == b) = true := by simpa using h5
            go_wp2
            go_ret
            exact ⟨by simp [rightN, h5], rfl⟩
          · have h5' : (a == b) = false := by simpa using h5
            go_wp2
            go_ret
            exact ⟨by simp [rightN, h1, h2, h3, h4, h5], rfl⟩
        · have h4' : decide (b < n) = false := by simpa using h4
          go_wp2
          go_ret
          exact ⟨by rw [decide_eq_false (show ¬ rightN n a b from fun h => by obtain ⟨x1, x2, x3, x4, x5⟩ := h; omega)]; rfl, rfl⟩
      · have h3' : decide (0 ≤ b) = false := by simpa using h3
        go_wp2
        go_ret
        exact ⟨by rw [decide_eq_false (show ¬ rightN n a b from fun h => by obtain ⟨x1, x2, x3, x4, x5⟩ := h; omega)]; rfl, rfl⟩
    · have h2' : decide (a < n) = false := by simpa using h2
      go_wp2
      go_ret
      exact ⟨by rw [decide_eq_false (show ¬ rightN n a b from fun h => by obtain ⟨x1, x2, x3, x4, x5⟩ := h; omega)]; rfl, rfl⟩
  · have h1' : decide (0 ≤ a) = false := by simpa using h1
    go_wp2
    go_ret
    exact ⟨by rw [decide_eq_false (show ¬ rightN n a b from fun h => by obtain ⟨x1, x2, x3, x4, x5⟩ := h; omega)]; rfl, rfl⟩

def FindV (ms : List Msg) (a b idx v : Int) : Prop :=
  (v = -1 ∧ ¬ (0 ≤ idx ∧ idx < ((ms.filter (mt a b)).length : Int))) ∨
  ∃ l1 m l2, ms = l1 ++ m :: l2 ∧ mt a b m = true ∧ idx = (l1.filter (mt a b)).length ∧ v = l1.length

theorem filter_take_succ {ms : List Msg} {p : Msg → Bool} {k : Nat} {x : Msg} (hx : ms[k]? = some x) : (ms.take (k + 1)).filter p = (ms.take k).filter p ++ (if p x = true then [x] else []) := by
  rw [List.take_add_one, hx, List.filter_append]
  simp only [Option.toList, List.filter_cons, List.filter_nil]
def FindI (ms : List Msg) (a b idx : Int) (k q : Nat) : Prop := q = ((ms.take k).filter (mt a b)).length ∧ ¬ (0 ≤ idx ∧ idx < (q : Int))
theorem find_no {ms : List Msg} {a b idx : Int} {k q : Nat} {x : Msg} (hx : ms[k]? = some x) (hp : mt a b x = false) (h : FindI ms a b idx k q) : FindI ms a b idx (k + 1) q := by
  refine ⟨?_, h.2⟩
  rw [filter_take_succ hx, hp, h.1]; simp
theorem find_yes {ms : List Msg} {a b idx : Int} {k q : Nat} {x : Msg} (hx : ms[k]? = some x) (hp : mt a b x = true) (h : FindI ms a b idx k q) (hne : (q : Int) ≠ idx) : FindI ms a b idx (k + 1) (q + 1) := by
  refine ⟨?_, ?_⟩
  · rw [filter_take_succ hx, hp, h.1]; simp
  · have := h.2; omega
theorem find_hit {ms : List Msg} {a b idx : Int} {k q : Nat} {x : Msg} (hx : ms[k]? = some x) (hp : mt a b x = true) (h : FindI ms a b idx k q) (he : (q : Int) = idx) : FindV ms a b idx k := by
  obtain ⟨hk, hx'⟩ := List.getElem?_eq_some_iff.1 hx
  refine .inr ⟨ms.take k, x, ms.drop (k + 1), ?_, hp, by rw [← h.1, he], by rw [List.length_take]; omega⟩
  rw [← hx', List.getElem_cons_drop, List.take_append_drop]
theorem find_end {ms : List Msg} {a b idx : Int} {k q : Nat} (hk : ms.length ≤ k) (h : FindI ms a b idx k q) : FindV ms a b idx (-1) := by
  obtain ⟨h1, h2⟩ := h
  rw [List.take_of_length_le hk] at h1
  exact .inl ⟨rfl, by rw [← h1]; exact h2⟩

theorem size77 (w : World) : (Go.sizeOf 77).run Try.prog w = .ok 3 w := by kernel_rfl
theorem size45 (w : World) : (Go.sizeOf 45).run Try.prog w = .ok 2 w := by kernel_rfl

set_option maxHeartbeats 1000000 in
theorem find_calls (r : Nat) (sa : Option Addr) (g cap : Nat) (ms : List Msg) (a b idx : Int) (w : World) (c1 : w.cell? ⟨r, 1, none⟩ = some (.slice sa ms.length cap)) (hl : ms.length ≤ 9223372036854775807)
    (hm : ∀ i x, ms[i]? = some x → sa = some ⟨g, 0, none⟩ ∧ g < w.heap.size ∧ ∀ j u, (mcells x)[j]? = some u → w.cell? ⟨g, i * 3 + j, none⟩ = some u) :
    Calls Try.prog 36 #[.pointer (some ⟨r, 0, none⟩), .int .i64 a, .int .i64 b, .int .i64 idx] w fun e w' => w = w' ∧ ∃ v : Int, e = .returned (.int .i64 v) ∧ FindV ms a b idx v := by
  obtain ⟨n, hn⟩ : ∃ n, n = ms.length := ⟨_, rfl⟩
  have hN := Lib.hid hn
  rw [← hn] at c1 hl
  have H := Lib.hid hm
  clear hn hm
  go_enter Try.func36, Try.ntmps36
  go_wp2
  go_loop [9, 10] (fun c i => ∃ k : Nat, k ≤ n ∧ i = .int .i64 k ∧ ∃ q : Nat, q ≤ k ∧ c = .int .i64 q ∧ Hid (FindI ms a b idx k q)) (fun _ i => n - (intOf i).toNat)
  case atStart => exact ⟨0, Nat.zero_le _, rfl, 0, Nat.le_refl _, rfl, ⟨by simp, by omega⟩⟩
  case round =>
    obtain ⟨k, hk, rfl, q, hq, rfl, hrel⟩ := hrel
    by_cases hlt : k < n
    · obtain ⟨⟨xa, xb, xt⟩, hx⟩ : ∃ x, ms[k]? = some x := ⟨_, List.getElem?_eq_getElem (by rw [← hN.out]; exact hlt)⟩
      obtain ⟨hs, _, hc⟩ := H.out k _ hx
      have hsa := fun w => index_run (P := Try.prog) Try.underlying61 size77 (cap := cap) hs hlt w
      have d0 : w.cell? ⟨g, k * 3, none⟩ = some (.int .i64 xa) := hc 0 _ rfl
      have d1 : w.cell? ⟨g, k * 3 + 1, none⟩ = some (.int .i64 xb) := hc 1 _ rfl
      have hx' := Lib.hid hx
      clear hs hc hx
      by_cases hA : xa = a
      · subst hA
        by_cases hB : xb = b
        · subst hB
          have hp : Hid (mt xa xb (xa, xb, xt) = true) := by simp [Hid, mt]
          by_cases hI : (q : Int) = idx
          · subst hI
            have hfin := Lib.hid (find_hit hx'.out hp.out hrel.out rfl)
            go_wp2
            go_ret
            exact ⟨rfl, _, rfl, hfin.out⟩
          · have hI' : ((q : Int) == idx) = false := by simpa using hI
            have hnx := Lib.hid (find_yes hx'.out hp.out hrel.out hI)
            clear hI
            go_wp2
            go_round
            case rel => exact ⟨k + 1, by omega, by go_num, q + 1, by omega, by go_num, hnx⟩
            case measure => simp [intOf]; omega
        · have hB' : (xb == b) = false := by simpa using hB
          have hnx := Lib.hid (find_no hx'.out (by simp [mt, hB]) hrel.out)
          go_wp2
          go_round
          case rel => exact ⟨k + 1, by omega, by go_num, q, by omega, rfl, hnx⟩
          case measure => simp [intOf]; omega
      · have hA' : (xa == a) = false := by simpa using hA
        have hnx := Lib.hid (find_no hx'.out (by simp [mt, hA]) hrel.out)
        clear hA
        go_wp2
        go_round
        case rel => exact ⟨k + 1, by omega, by go_num, q, by omega, rfl, hnx⟩
        case measure => simp [intOf]; omega
    · have hfin := Lib.hid (find_end (by rw [← hN.out]; omega) hrel.out)
      have hnlt : ¬ (k : Int) < n := by omega
      clear hrel
      go_wp2
      go_ret
      exact ⟨rfl, _, rfl, hfin.out⟩
end Go.Proofs.Ytheogcihnclehaa
