/- The reference lineage: how it lies in memory; pair. -/
import Derived.Test.YtcolfgnjmnapkaaTwo
namespace Go.Proofs.Ytcolfgnjmnapkaa
open Go.RowKit Go.Pl

theorem flat_len {α : Type} {f : α → List Value} {c : Nat} (hf : ∀ x, (f x).length = c) (l : List α) : (l.flatMap f).length = l.length * c := by
  induction l with
  | nil => simp
  | cons y l ih => rw [List.flatMap_cons, List.length_append, ih, hf, List.length_cons, Nat.succ_mul, Nat.add_comm]
theorem flat_at {α : Type} {f : α → List Value} {c : Nat} (hf : ∀ x, (f x).length = c) (l : List α) : ∀ (i : Nat) (x : α), l[i]? = some x → ∀ j, j < c → (l.flatMap f)[i * c + j]? = (f x)[j]? := by
  induction l with
  | nil => intro i x h; simp at h
  | cons y l ih =>
    intro i x h j hj
    rw [List.flatMap_cons]
    cases i with
    | zero => simp at h; subst h; rw [Nat.zero_mul, Nat.zero_add, List.getElem?_append_left (by rw [hf]; exact hj)]
    | succ i =>
      simp at h
      rw [List.getElem?_append_right (by rw [hf, Nat.succ_mul]; omega), hf, show (i + 1) * c + j - c = i * c + j by rw [Nat.succ_mul]; omega]
      exact ih i x h j hj
theorem flat_take {α : Type} {f : α → List Value} {c : Nat} (hf : ∀ x, (f x).length = c) (l : List α) : ∀ i : Nat, (l.flatMap f).take (i * c) = (l.take i).flatMap f := by
  induction l with
  | nil => simp
  | cons y l ih =>
    intro i
    cases i with
    | zero => simp
    | succ i =>
      rw [List.flatMap_cons, List.take_append, hf, show (i + 1) * c - c = i * c by rw [Nat.succ_mul]; omega, ih, List.take_of_length_le (by rw [hf, Nat.succ_mul]; omega), List.take_succ_cons, List.flatMap_cons]
theorem flat_drop {α : Type} {f : α → List Value} {c : Nat} (hf : ∀ x, (f x).length = c) (l : List α) : ∀ i : Nat, (l.flatMap f).drop (i * c) = (l.drop i).flatMap f := by
  induction l with
  | nil => simp
  | cons y l ih =>
    intro i
    cases i with
    | zero => simp
    | succ i =>
      rw [List.flatMap_cons, List.drop_append, hf, show (i + 1) * c - c = i * c by rw [Nat.succ_mul]; omega, ih, List.drop_of_length_le (by rw [hf, Nat.succ_mul]; omega), List.nil_append, List.drop_succ_cons]

/-- What a slice of one's own says of its elements, row by row. -/
theorem own_rows {α : Type} {f : α → List Value} {c : Nat} (hf : ∀ x, (f x).length = c) {w : World} {B : Nat} {E : TypeId} {v : Value} {l : List α} (h : w.ownsRow B E c v l.length (l.flatMap f)) :
    ∃ sa g cap, v = .slice sa l.length cap ∧ l.length ≤ cap ∧ cap ≤ 9223372036854775807 ∧ ∀ i x, l[i]? = some x → sa = some ⟨g, 0, none⟩ ∧ g < w.heap.size ∧ ∀ j u, (f x)[j]? = some u → w.cell? ⟨g, i * c + j, none⟩ = some u := by
  have h0 := h
  rcases h.2 with ⟨h1, h2⟩ | ⟨g, cap, cur, h1, _, h3, h4, h5, _⟩
  · have hl : l = [] := List.eq_nil_of_length_eq_zero h2
    subst hl
    exact ⟨none, 0, 0, h1, Nat.le_refl _, by omega, fun i x hx => by simp at hx⟩
  · subst h1
    refine ⟨_, g, cap, rfl, h4, by unfold maxLen at h5; omega, fun i x hx => ⟨rfl, lt_of_blk h3, fun j u hu => ?_⟩⟩
    have hj : j < c := by rw [← hf x]; exact (List.getElem?_eq_some_iff.1 hu).1
    have := h0.cells (g := g) rfl (i * c + j) u (by rw [flat_at hf l i x hx j hj]; exact hu)
    rwa [Addr.add_lit, Nat.zero_add] at this

/-! ### the state -/
abbrev Msg := Int × Int × ByteArray
def mcells (m : Msg) : List Value := [.int .i64 m.1, .int .i64 m.2.1, .string m.2.2]
def pcells (c : Int × Int) : List Value := [.int .i64 c.1, .int .i64 c.2]

/-- The reference's state: its pairs and the Ids that are mentioned. -/
structure RefS where
  ps : List (ByteArray × ByteArray)
  ms : List ByteArray
abbrev scells (x : ByteArray × ByteArray) : List Value := [.string x.1, .string x.2]
theorem scells_len : ∀ x : ByteArray × ByteArray, (scells x).length = 2 := fun _ => rfl
theorem size70 (w : World) : (Go.sizeOf 70).run Try.prog w = .ok 2 w := by kernel_rfl

structure RefAt (w : World) (r : Nat) (σ : Nat → Prop) (R : RefS) (pv mv : Value) : Prop where
  hp : w.heap[r]? = some (.cells #[pv, mv] 58 (0, 0))
  own : σ r
  hps : w.ownsRow 0 70 2 pv R.ps.length (R.ps.flatMap scells)
  hms : w.ownsRow 0 9 1 mv R.ms.length (R.ms.map .string)
  op : ∀ k, pv.ownBlock = some k → σ k
  om : ∀ k, mv.ownBlock = some k → σ k
  lt : ∀ k, σ k → k < w.heap.size
open Classical in
noncomputable def inP (ps : List (ByteArray × ByteArray)) (x : ByteArray × ByteArray) : Bool := decide (x ∈ ps)
theorem inP_iff {ps : List (ByteArray × ByteArray)} {x : ByteArray × ByteArray} : inP ps x = true ↔ x ∈ ps := by simp [inP]
noncomputable def pairB (R : RefS) (a b : ByteArray) : Bool := if inB R.ms a = true then inP R.ps (a, b) else decide (a = b)

set_option maxHeartbeats 2000000 in
theorem pair_calls {w : World} {r : Nat} {σ : Nat → Prop} {R : RefS} {pv mv : Value} (h : RefAt w r σ R pv mv) (a b : ByteArray) :
    Calls Try.prog 32 #[.pointer (some ⟨r, 0, none⟩), .string a, .string b] w fun e w' => e = .returned (.bool (pairB R a b)) ∧ w = w' := by
  have c0 : w.cell? ⟨r, 0, none⟩ = some pv := by rw [cell_of_blk h.hp]; rfl
  have c1 : w.cell? ⟨r, 1, none⟩ = some mv := by rw [cell_of_blk h.hp]; rfl
  obtain ⟨sm, gm, cm, km⟩ := strs_of h.hms
  have hin := Lib.hid (in_calls km a)
  obtain rfl := km.val
  obtain ⟨sa, g, cap, rfl, hle, hcap, hrows⟩ := own_rows scells_len h.hps
  have hrows := Lib.hid hrows
  obtain ⟨n, hn⟩ : ∃ n, n = R.ps.length := ⟨_, rfl⟩
  have hN := Lib.hid hn
  rw [← hn] at c0 hle
  clear hn h km
  cases hi : inB R.ms a with
  | false =>
    rw [hi] at hin
    have hfin : Hid (pairB R a b = decide (a = b)) := by rw [Hid, pairB, if_neg (by rw [hi]; simp)]
    have t := beq_str a b
    clear hi
    go_enter Try.func32, Try.ntmps32
    go_wp2_with (go_at_call 24; refine hin.out.mono ?_; rintro e w1 ⟨rfl, rfl⟩)
    go_ret
    exact ⟨by rw [hfin.out]; first | rfl | (rw [t]; rfl) | simp, rfl⟩
  | true =>
    rw [hi] at hin
    have hfin : Hid (pairB R a b = inP R.ps (a, b)) := by rw [Hid, pairB, if_pos hi]
    clear hi
    go_enter Try.func32, Try.ntmps32
    go_wp2_with (go_at_call 24; refine hin.out.mono ?_; rintro e w1 ⟨rfl, rfl⟩)
    go_loop [7] (fun i => ∃ k : Nat, k ≤ n ∧ i = .int .i64 k ∧ Hid ((a, b) ∉ R.ps.take k)) (fun i => n - (intOf i).toNat)
    case atStart => exact ⟨0, Nat.zero_le _, rfl, by simp [Hid]⟩
    case round =>
      obtain ⟨k, hk, rfl, hno⟩ := hrel
      by_cases hlt : k < n
      · obtain ⟨x, hx⟩ : ∃ o, R.ps[k]? = some o := ⟨_, List.getElem?_eq_getElem (by rw [← hN.out]; exact hlt)⟩
        obtain ⟨hs, _, hc⟩ := hrows.out k x hx
        have d0 : w.cell? ⟨g, k * 2, none⟩ = some (.string x.1) := hc 0 _ rfl
        have d1 : w.cell? ⟨g, k * 2 + 1, none⟩ = some (.string x.2) := hc 1 _ rfl
        have hsa := fun w => index_run (P := Try.prog) (cap := cap) Try.underlying56 size70 hs hlt w
        have hxH := Lib.hid hx
        have hstep : Hid ((a, b) ≠ x → (a, b) ∉ R.ps.take (k + 1)) := fun hne => by
          rw [List.take_add_one, hxH.out]
          simp only [Option.toList_some, List.mem_append, List.mem_singleton, not_or]
          exact ⟨hno.out, hne⟩
        have hhit : Hid ((a, b) = x → inP R.ps (a, b) = true) := fun he => inP_iff.2 (he ▸ List.mem_of_getElem? hxH.out)
        obtain ⟨x1, x2⟩ := x
        clear hx hs hc hrows
        by_cases h1 : x1 = a
        · have t1 : (x1.toList == a.toList) = true := by rw [beq_str]; simpa using h1
          by_cases h2 : x2 = b
          · have t2 : (x2.toList == b.toList) = true := by rw [beq_str]; simpa using h2
            have hf := Lib.hid (hhit.out (by rw [h1, h2]))
            clear h1 h2 hstep hhit
            go_wp2
            go_ret
            exact ⟨by rw [hfin.out, hf.out]; rfl, rfl⟩
          · have t2 : (x2.toList == b.toList) = false := by rw [beq_str]; simpa using h2
            have hnx := Lib.hid (hstep.out (fun e => h2 (by cases e; rfl)))
            clear h1 h2 hstep hhit
            go_wp2
            go_round
            case rel => exact ⟨k + 1, by omega, by go_num, hnx⟩
            case measure => simp [intOf]; omega
        · have t1 : (x1.toList == a.toList) = false := by rw [beq_str]; simpa using h1
          have hnx := Lib.hid (hstep.out (fun e => h1 (by cases e; rfl)))
          clear h1 hstep hhit
          go_wp2
          go_round
          case rel => exact ⟨k + 1, by omega, by go_num, hnx⟩
          case measure => simp [intOf]; omega
      · have hf : Hid (inP R.ps (a, b) = false) := by
          have := hno.out
          rw [List.take_of_length_le (by rw [← hN.out]; omega)] at this
          rw [Hid, Bool.eq_false_iff, ne_eq, inP_iff]; exact this
        go_wp2
        go_ret
        exact ⟨by rw [hfin.out, hf.out]; rfl, rfl⟩
end Go.Proofs.Ytcolfgnjmnapkaa
