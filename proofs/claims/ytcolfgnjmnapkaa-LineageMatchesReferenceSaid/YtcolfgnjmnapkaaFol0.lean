/- The lineage: Follow, where an argument is wrong. -/
import Derived.Test.YtcolfgnjmnapkaaThen
namespace Go.Proofs.Ytcolfgnjmnapkaa
open Go.RowKit Go.Pl Go.WideMaps

/-- An edit: what Follow reads of it, and its other cells. -/
structure Edt where
  op : Int
  id : ByteArray
  other : ByteArray
  oid : ByteArray
  v3 : Value
  v4 : Value
  v5 : Value
  v6 : Value
  v7 : Value
  v8 : Value
  v10 : Value
  v11 : Value
  v12 : Value
  v13 : Value
  v14 : Value
abbrev Edt.cells (e : Edt) : Array Value := #[.int .i64 e.op, .string e.id, .string e.other, e.v3, e.v4, e.v5, e.v6, e.v7, e.v8, .string e.oid, e.v10, e.v11, e.v12, e.v13, e.v14]

def Edt.two (e : Edt) : Prop := e.op = 6 ∨ e.op = 7
instance (e : Edt) : Decidable e.two := by unfold Edt.two; infer_instance
def Edt.fresh (e : Edt) : ByteArray := if e.op = 1 then e.oid else e.other
def Edt.idd (e : Edt) : ByteArray := if e.op = 1 then e.oid else e.id
def Edt.bad (e : Edt) : Prop := e.op < 1 ∨ 7 < e.op ∨ (e.two ∧ e.id = e.other)
instance (e : Edt) : Decidable e.bad := by unfold Edt.bad; infer_instance
def followE (S : LinS) (e : Edt) : Int :=
  if e.bad then 1 else if (e.op ≠ 1 ∧ S.pt e.id e.id = false) ∨ (e.op = 7 ∧ S.pt e.other e.other = false) then 11
  else if S.men e.fresh = true ∧ (e.op = 1 ∨ e.op = 6) then 9 else 0
def turn (e : Edt) (s : ByteArray → Bool) : ByteArray → Bool := fun x =>
  if e.op = 5 then s x && !decide (x = e.id) else if e.op = 6 then s x || (decide (x = e.other) && s e.id)
  else if e.op = 7 then (s x && !decide (x = e.other)) || (decide (x = e.id) && s e.other) else s x
def followS (S : LinS) (e : Edt) : LinS :=
  if followE S e ≠ 0 then S else { men := fun x => S.men x || decide (x = e.idd) || (decide e.two && decide (x = e.other)), pt := fun a => turn e (S.pt a) }

theorem bytes_inj {s t : ByteArray} (h : s.toList = t.toList) : s = t := by
  rw [ByteArray.toList_eq, ByteArray.toList_eq] at h
  exact ByteArray.ext (Array.toList_inj.1 h)
theorem beq_str (a b : ByteArray) : (a.toList == b.toList) = decide (a = b) := by
  rw [Bool.eq_iff_iff, beq_iff_eq, decide_eq_true_eq]
  exact ⟨bytes_inj, fun h => by rw [h]⟩

set_option maxRecDepth 100000 in
set_option maxHeartbeats 2000000 in
theorem follow_nil (e : Edt) (w : World) : Calls Try.prog 14 #[.pointer none, .agg e.cells] w fun x w' => x = .returned (.int .i64 1) ∧ Fr (fun _ => False) w w' := by
  obtain ⟨op, id, other, oid, v3, v4, v5, v6, v7, v8, v10, v11, v12, v13, v14⟩ := e
  by_cases h1 : op = 1
  · subst h1
    go_enter Try.func14, Try.ntmps14
    go_wp2
    go_quiet (fail)
    go_wp2
    go_quiet (fail)
    go_wp2
    go_ret
    exact ⟨rfl, by simp⟩
  · have t1 : (op == 1) = false := by simpa using h1
    go_enter Try.func14, Try.ntmps14
    go_wp2
    all_goals
      go_quiet (fail)
      go_wp2
      go_ret
      exact ⟨rfl, by simp⟩

set_option maxRecDepth 100000 in
set_option maxHeartbeats 2000000 in
theorem follow_bad (p : Nat) (e : Edt) (w : World) (h : e.bad) : Calls Try.prog 14 #[.pointer (some ⟨p, 0, none⟩), .agg e.cells] w fun x w' => x = .returned (.int .i64 1) ∧ Fr (fun _ => False) w w' := by
  obtain ⟨op, id, other, oid, v3, v4, v5, v6, v7, v8, v10, v11, v12, v13, v14⟩ := e
  unfold Edt.bad Edt.two at h
  simp only at h
  rcases h with h | h | ⟨h, rfl⟩
  · have t1 : (op == 1) = false := by simp; omega
    have t6 : (op == 6) = false := by simp; omega
    have t7 : (op == 7) = false := by simp; omega
    have t0 : decide (op < 1) = true := by simpa using h
    clear h
    go_enter Try.func14, Try.ntmps14
    go_wp2
    go_quiet (fail)
    go_wp2
    go_ret
    exact ⟨rfl, by simp⟩
  · have t1 : (op == 1) = false := by simp; omega
    have t6 : (op == 6) = false := by simp; omega
    have t7 : (op == 7) = false := by simp; omega
    have t0 : decide (op < 1) = false := by simp; omega
    have t8 : decide (7 < op) = true := by simpa using h
    clear h
    go_enter Try.func14, Try.ntmps14
    go_wp2
    go_quiet (fail)
    go_wp2
    go_ret
    exact ⟨rfl, by simp⟩
  · have t : (id.toList == id.toList) = true := by simp
    rcases h with rfl | rfl
    · go_enter Try.func14, Try.ntmps14
      go_wp2
      go_quiet (fail)
      go_wp2
      go_ret
      exact ⟨rfl, by simp⟩
    · go_enter Try.func14, Try.ntmps14
      go_wp2
      go_quiet (fail)
      go_wp2
      go_ret
      exact ⟨rfl, by simp⟩
end Go.Proofs.Ytcolfgnjmnapkaa
