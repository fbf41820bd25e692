/- Sweep's items and meetings as they lie; cmp.Or; worlds that only grow. -/
import Derived.Test.YtiainjcimmeedaaMts
import Derived.Sort.Grow
set_option linter.unusedVariables false
set_option linter.unusedSimpArgs false
namespace Go.Proofs.Ytiainjcimmeedaa
open Go.RowKit Go.Pl Go.Geo Go.Sort

/-- An item: a segment with its index. -/
structure It where
  i : Fin 20000
  s : Sg
instance : Inhabited It := ⟨⟨0, ((0, 0), (0, 0))⟩⟩
def It.xl (a : It) : Int := min a.s.1.1 a.s.2.1
def It.xh (a : It) : Int := max a.s.1.1 a.s.2.1
def It.yl (a : It) : Int := min a.s.1.2 a.s.2.2
def It.yh (a : It) : Int := max a.s.1.2 a.s.2.2
abbrev It.n (a : It) : Int := (a.i.val : Int)
abbrev itC (a : It) : List Value := [.int .i64 a.n, .int .i64 a.s.1.1, .int .i64 a.s.1.2, .int .i64 a.s.2.1, .int .i64 a.s.2.2, .int .i64 a.xl, .int .i64 a.xh, .int .i64 a.yl, .int .i64 a.yh]
/-- A meeting. -/
structure Mt where
  a : Fin 20000
  b : Fin 20000
  k : Int
instance : Inhabited Mt := ⟨⟨0, 0, 0⟩⟩
abbrev mtC (m : Mt) : List Value := [.int .i64 (m.a.val : Int), .int .i64 (m.b.val : Int), .int .i64 m.k]
def orI (x y : Int) : Int := if x ≠ 0 then x else y
def cfI (a b : It) : Int := orI (cmpI a.xl b.xl) (a.n - b.n)
def cfM (a b : Mt) : Int := orI ((a.a.val : Int) - b.a.val) ((a.b.val : Int) - b.b.val)

/-- w' is w with draws and new blocks behind it. -/
def Gw (w w' : World) : Prop := ∃ q os, w' = grow (w.drewN q) os
theorem grow_nil (w : World) : grow w #[] = w := by simp [grow]
theorem Gw.refl (w : World) : Gw w w := ⟨0, #[], by rw [grow_nil]; rfl⟩
theorem Gw.drew {w w' : World} (h : Gw w w') : Gw w w'.drew := by
  obtain ⟨q, os, rfl⟩ := h
  exact ⟨q + 1, os, rfl⟩
theorem Gw.alloc {w w' : World} (h : Gw w w') (o : Obj) : Gw w (w'.alloc o) := by
  obtain ⟨q, os, rfl⟩ := h
  refine ⟨q, os ++ #[o], ?_⟩
  simp [World.alloc, grow]
theorem Gw.trans {a b c : World} (h : Gw a b) (k : Gw b c) : Gw a c := by
  obtain ⟨q, os, rfl⟩ := h
  obtain ⟨q2, os2, rfl⟩ := k
  refine ⟨q + q2, os ++ os2, ?_⟩
  simp [grow, World.drewN, Nat.add_assoc]
theorem Gw.fr {w w' : World} (h : Gw w w') : Fr (fun _ => False) w w' := by
  obtain ⟨q, os, rfl⟩ := h
  refine ⟨rfl, rfl, rfl, ?_, fun r hr _ => ?_⟩
  · simp [grow, World.drewN]
  · simp only [grow, World.drewN]
    rw [Array.getElem?_append_left hr]

set_option maxHeartbeats 1000000 in
theorem or_calls (x y : Int) (g : Nat) (w : World) (h0 : w.cell? ⟨g, 0, none⟩ = some (.int .i64 x)) (h1 : w.cell? ⟨g, 1, none⟩ = some (.int .i64 y)) :
    Calls Try.prog 21 #[.slice (some ⟨g, 0, none⟩) 2 2] w fun e w' => e = .returned (.int .i64 (orI x y)) ∧ w = w' := by
  have H0 := Lib.hid h0
  have H1 := Lib.hid h1
  clear h0 h1
  go_enter Try.func21, Try.ntmps21
  go_wp2
  go_loop [8] (fun i => ∃ k : Nat, k ≤ 2 ∧ i = .int .i64 k ∧ Hid (0 < k → x = 0) ∧ Hid (1 < k → y = 0)) (fun i => 2 - (intOf i).toNat)
  case atStart => exact ⟨0, by omega, rfl, fun h => by omega, fun h => by omega⟩
  case round =>
    obtain ⟨k, hk, rfl, h1, h2⟩ := hrel
    have hcase : k = 0 ∨ k = 1 ∨ k = 2 := by omega
    rcases hcase with rfl | rfl | rfl
    · have d0 := H0.out
      by_cases hz : x = 0
      · have hE : Hid (0 < 1 → x = 0) := fun _ => hz
        subst hz
        go_wp2
        go_round
        case rel => exact ⟨1, by omega, by go_num, fun _ => trivial, fun h => by omega⟩
        case measure => simp [intOf]
      · have t1 : (x != 0) = true := by simpa using hz
        have hE : Hid (orI x y = x) := by unfold orI; rw [Hid, if_pos hz]
        clear hz
        go_wp2
        go_ret
        exact ⟨by rw [hE.out]; rfl, rfl⟩
    · have d1 := H1.out
      have hx := h1.out (by omega)
      by_cases hz : y = 0
      · have hE : Hid (1 < 2 → y = 0) := fun _ => hz
        have hE1 : Hid (0 < 2 → x = 0) := fun _ => hx
        subst hz
        go_wp2
        go_round
        case rel => exact ⟨2, by omega, by go_num, hE1, fun _ => trivial⟩
        case measure => simp [intOf]
      · have t1 : (y != 0) = true := by simpa using hz
        have hE : Hid (orI x y = y) := by unfold orI; rw [Hid, if_neg (by simpa using hx)]
        clear hz hx
        go_wp2
        go_ret
        exact ⟨by rw [hE.out]; rfl, rfl⟩
    · have hE : Hid (orI x y = 0) := by
        have hx := h1.out (by omega)
        have hy := h2.out (by omega)
        unfold orI; rw [Hid, if_neg (by simpa using hx)]; exact hy
      go_wp2
      go_ret
      exact ⟨by rw [hE.out]; rfl, rfl⟩

def itB (w : World) (g : Nat) (x : It) : Prop := w.heap[g]? = some (.cells (itC x).toArray 49 (0, 0))
def mtB (w : World) (g : Nat) (x : Mt) : Prop := w.heap[g]? = some (.cells (mtC x).toArray 36 (0, 0))
def bdB (w : World) (g : Nat) (x : Pt) : Prop := w.heap[g]? = some (.cells #[.int .i64 x.1, .int .i64 x.2] 46 (0, 0))
theorem itB.fr {w w' : World} {g p} (h : itB w g p) {F : Nat → Prop} (hf : Fr F w w') (hg : ¬ F g) : itB w' g p := hf.obj h hg
theorem mtB.fr {w w' : World} {g p} (h : mtB w g p) {F : Nat → Prop} (hf : Fr F w w') (hg : ¬ F g) : mtB w' g p := hf.obj h hg
theorem bdB.fr {w w' : World} {g p} (h : bdB w g p) {F : Nat → Prop} (hf : Fr F w w') (hg : ¬ F g) : bdB w' g p := hf.obj h hg

section
variable {o : Oper} {w : World} {ρ : Operand → Value} {x y : Operand} {b off : Nat}
theorem run_box49 {s : It} (ho : o.op = .box 49 x) (hx : ρ x = .agg (itC s).toArray) : (execOp ρ o).run Try.prog w = .ok (.value (.pointer (some ⟨w.heap.size, 0, none⟩))) (w.alloc (.cells (itC s).toArray 49)) := by
  simp [execOp, ho, hx, go_sem]
theorem run_box36 {s : Mt} (ho : o.op = .box 36 x) (hx : ρ x = .agg (mtC s).toArray) : (execOp ρ o).run Try.prog w = .ok (.value (.pointer (some ⟨w.heap.size, 0, none⟩))) (w.alloc (.cells (mtC s).toArray 36)) := by
  simp [execOp, ho, hx, go_sem]
theorem fa49_0 (ho : o.op = .fieldAddr 49 x 0) (hx : ρ x = .pointer (some ⟨b, 0, none⟩)) : (execOp ρ o).run Try.prog w = .ok (.value (.pointer (some ⟨b, 0, none⟩))) w := by simp [execOp, ho, hx, go_sem]
theorem fa49_1 (ho : o.op = .fieldAddr 49 x 1) (hx : ρ x = .pointer (some ⟨b, 0, none⟩)) : (execOp ρ o).run Try.prog w = .ok (.value (.pointer (some ⟨b, 1, none⟩))) w := by simp [execOp, ho, hx, go_sem]
theorem fa49_2 (ho : o.op = .fieldAddr 49 x 2) (hx : ρ x = .pointer (some ⟨b, 0, none⟩)) : (execOp ρ o).run Try.prog w = .ok (.value (.pointer (some ⟨b, 5, none⟩))) w := by simp [execOp, ho, hx, go_sem]
theorem fa49_3 (ho : o.op = .fieldAddr 49 x 3) (hx : ρ x = .pointer (some ⟨b, 0, none⟩)) : (execOp ρ o).run Try.prog w = .ok (.value (.pointer (some ⟨b, 7, none⟩))) w := by simp [execOp, ho, hx, go_sem]
theorem fa46_0 (ho : o.op = .fieldAddr 46 x 0) (hx : ρ x = .pointer (some ⟨b, off, none⟩)) : (execOp ρ o).run Try.prog w = .ok (.value (.pointer (some ⟨b, off, none⟩))) w := by simp [execOp, ho, hx, go_sem]
theorem fa46_1 (ho : o.op = .fieldAddr 46 x 1) (hx : ρ x = .pointer (some ⟨b, off, none⟩)) : (execOp ρ o).run Try.prog w = .ok (.value (.pointer (some ⟨b, off + 1, none⟩))) w := by simp [execOp, ho, hx, go_sem]
theorem fa36_0 (ho : o.op = .fieldAddr 36 x 0) (hx : ρ x = .pointer (some ⟨b, 0, none⟩)) : (execOp ρ o).run Try.prog w = .ok (.value (.pointer (some ⟨b, 0, none⟩))) w := by simp [execOp, ho, hx, go_sem]
theorem fa36_1 (ho : o.op = .fieldAddr 36 x 1) (hx : ρ x = .pointer (some ⟨b, 0, none⟩)) : (execOp ρ o).run Try.prog w = .ok (.value (.pointer (some ⟨b, 1, none⟩))) w := by simp [execOp, ho, hx, go_sem]
/-- A cell of a block that is known whole. -/
theorem ld_int {n : Int} {cs : Array Value} {T : TypeId} (ho : o.op = .load 3 x) (hx : ρ x = .pointer (some ⟨b, off, none⟩)) (h : w.heap[b]? = some (.cells cs T (0, 0))) (hc : cs[off]? = some (.int .i64 n)) : (execOp ρ o).run Try.prog w = .ok (.value (.int .i64 n)) w := by
  have : w.cell? ⟨b, off, none⟩ = some (.int .i64 n) := by rw [cell_of_blk h]; exact hc
  simp [execOp, ho, hx, go_sem, this]
theorem run_isub {m n : Int} (hx : ρ x = .int .i64 m) (hy : ρ y = .int .i64 n) (h1 : -9223372036854775808 ≤ m - n) (h2 : m - n ≤ 9223372036854775807) (ho : o.op = .binOp .sub 3 x y 3) : (execOp ρ o).run Try.prog w = .ok (.value (.int .i64 (m - n))) w := by
  simp [execOp, ho, hx, hy, go_sem, IntWalk.i64_in _ ⟨h1, h2⟩]
theorem run_ints2 {x1 x2 : Operand} {m n : Int} (ho : o.op = .buildSlice 65 2 #[(0, x1), (1, x2)]) (h1 : ρ x1 = .int .i64 m) (h2 : ρ x2 = .int .i64 n) : (execOp ρ o).run Try.prog w = .ok (.value (.slice (some ⟨w.heap.size, 0, none⟩) 2 2)) (w.alloc (.cells #[.int .i64 m, .int .i64 n] 3)) := by
  simp [execOp, ho, h1, h2, go_sem]
end

theorem of_calls (a b : Int) (w : World) : Calls Try.prog 18 #[.int .i64 a, .int .i64 b] w fun e w' => e = .returned (.agg #[.int .i64 (min a b), .int .i64 (max a b)]) ∧ Fr (fun _ => False) w w' := by
  obtain ⟨m, hm⟩ : ∃ m, m = min a b := ⟨_, rfl⟩
  obtain ⟨x, hx⟩ : ∃ x, x = max a b := ⟨_, rfl⟩
  rw [← hm, ← hx]
  rcases Int.lt_trichotomy a b with h | h | h
  · have e1 : m = a := by omega
    have e2 : x = b := by omega
    subst e1 e2
    clear hm hx
    go_enter Try.func18, Try.ntmps18
    go_wp2
    all_goals
      refine bodyPost_ret (v := .agg #[.int .i64 m, .int .i64 x]) (by simp [results, Try.results18, go_sem]) rfl ⟨rfl, ?_⟩
      exact (Fr.refl _ _).alloc _
  · have e1 : m = a := by omega
    have e2 : x = b := by omega
    subst e1 e2
    obtain rfl : m = x := h
    clear hm hx
    go_enter Try.func18, Try.ntmps18
    go_wp2
    all_goals
      refine bodyPost_ret (v := .agg #[.int .i64 m, .int .i64 m]) (by simp [results, Try.results18, go_sem]) rfl ⟨rfl, ?_⟩
      exact (Fr.refl _ _).alloc _
  · have e1 : m = b := by omega
    have e2 : x = a := by omega
    subst e1 e2
    clear hm hx
    go_enter Try.func18, Try.ntmps18
    go_wp2
    all_goals
      refine bodyPost_ret (v := .agg #[.int .i64 m, .int .i64 x]) (by simp [results, Try.results18, go_sem]) rfl ⟨rfl, ?_⟩
      exact (Fr.refl _ _).alloc _

/-- The closure of DeleteFunc: what ends ahead of the item a goes. -/
theorem del_calls (x a : It) (ga : Nat) (w : World) (h : itB w ga a) : Calls Try.prog 24 #[.agg (itC x).toArray, .pointer (some ⟨ga, 0, none⟩)] w fun e w' => e = .returned (.bool (decide (x.xh < a.xl))) ∧ Fr (fun _ => False) w w' := by
  have c : w.cell? ⟨ga, 5, none⟩ = some (.int .i64 a.xl) := by rw [cell_of_blk h]; rfl
  have hlt := lt_of_blk h
  clear h
  obtain ⟨r, hr⟩ : ∃ r, r = decide (x.xh < a.xl) := ⟨_, rfl⟩
  rw [← hr]
  have hrH := Lib.hid hr
  clear hr
  go_enter Try.func24, Try.ntmps24
  go_wp2
  go_ret
  exact ⟨by rw [hrH.out]; rfl, by simp⟩

def bdM (p q : Pt) : Bool := decide (p.1 ≤ q.2) && decide (q.1 ≤ p.2)
theorem bmeets_calls (p q : Pt) (w : World) : Calls Try.prog 25 #[.agg (ptC p), .agg (ptC q)] w fun e w' => e = .returned (.bool (bdM p q)) ∧ Fr (fun _ => False) w w' := by
  obtain ⟨a, b⟩ := p
  obtain ⟨c, d⟩ := q
  obtain ⟨r, hr⟩ : ∃ r, r = bdM (a, b) (c, d) := ⟨_, rfl⟩
  rw [← hr]
  by_cases h1 : a ≤ d
  · by_cases h2 : c ≤ b
    · have e : Hid (r = true) := by rw [Hid, hr]; unfold bdM; simp [h1, h2]
      clear hr
      go_enter Try.func25, Try.ntmps25
      go_wp2
      go_ret
      exact ⟨by rw [e.out]; rfl, by simp⟩
    · have e : Hid (r = false) := by rw [Hid, hr]; unfold bdM; simp [h1, h2]
      clear hr
      go_enter Try.func25, Try.ntmps25
      go_wp2
      go_ret
      exact ⟨by rw [e.out]; rfl, by simp⟩
  · have e : Hid (r = false) := by rw [Hid, hr]; unfold bdM; simp [h1]
    clear hr
    go_enter Try.func25, Try.ntmps25
    go_wp2
    go_ret
    exact ⟨by rw [e.out]; rfl, by simp⟩
end Go.Proofs.Ytiainjcimmeedaa
