/- The laws of the sets: the plain side. -/
import Derived.Test.YtjaffpnegdcjnaaGreatDoorQF1
set_option linter.unusedVariables false
set_option linter.unusedSimpArgs false
namespace Go.Proofs.YtjaffpnegdcjnaaGreatDoor
open Go.RowKit Go.Pl
section
variable {o : Oper} {w : World} {ρ : Operand → Value} {x y : Operand}
theorem run_beql {a b : Bool} (hx : ρ x = .bool a) (hy : ρ y = .bool b) (ho : o.op = .binOp .eql 4 x y 4) : (execOp ρ o).run Tryz.prog w = .ok (.value (.bool (a == b))) w := by
 cases a <;> cases b <;> simp [execOp, ho, hx, hy, go_sem]
theorem run_tou3 {n : Int} (ho : o.op = .convert 50 3 x) (hx : ρ x = .int .u32 n) (h0 : 0 ≤ n) (h1 : n < 4294967296) : (execOp ρ o).run Tryz.prog w = .ok (.value (.int .i64 n)) w := by
 simp [execOp, ho, hx, go_sem, IntWalk.i64_in n ⟨by omega, by omega⟩]
end
theorem few2 {a b : Slv} (h : fewB [a, b] = true) : a.2.1 ≤ 150 ∧ b.2.1 ≤ 150 := by simpa [fewB] using h
theorem open_mn {l : List Sp} {m : Int} (hv : vl (-1) l = true) (hm : minuteB m = true) : openB l m = true ↔ mn l (m % 10080) := by
 unfold openB
 rw [hv, hm]
 simp only [Bool.true_and, List.any_eq_true, mn, inB, Bool.and_eq_true, decide_eq_true_eq]
theorem open_both {a b : List Sp} {m : Int} (ha : vl (-1) a = true) (hb : vl (-1) b = true) (hm : minuteB m = true) : openB (bothQ a b) m = (openB a m && openB b m) := by
 rw [Bool.eq_iff_iff, Bool.and_eq_true, open_mn ha hm, open_mn hb hm, open_mn (bothQ_vl a b) hm]
 unfold bothQ
 rw [ha, hb]
 exact (bothL_un ha hb).2 _
theorem open_either {a b : List Sp} {m : Int} (ha : vl (-1) a = true) (hb : vl (-1) b = true) (hm : minuteB m = true) : openB (eitherQ a b) m = (openB a m || openB b m) := by
 rw [Bool.eq_iff_iff, Bool.or_eq_true, open_mn ha hm, open_mn hb hm, open_mn (eitherQ_vl a b) hm]
 unfold eitherQ
 rw [ha, hb]
 exact (eitherL_un ha hb).2 _
theorem open_not {a : List Sp} {m : Int} (ha : vl (-1) a = true) (hm : minuteB m = true) : openB (notQ a) m = !openB a m := by
 have h : openB (notQ a) m = true ↔ ¬ openB a m = true := by
  rw [open_mn ha hm, open_mn (notQ_vl a) hm]
  unfold notQ
  rw [if_pos ha]
  have h9 := (notL_un ha).2 (m % 10080)
  have : m % 10080 < 10080 := Int.emod_lt_of_pos m (by omega)
  have := Int.emod_nonneg m (b := 10080) (by omega)
  rw [h9]
  constructor
  ·exact fun h => h.2.2
  ·exact fun h => ⟨by omega, by omega, h⟩
 cases h1 : openB a m with
 | true => rw [h1] at h; simpa using h
 | false => rw [h1] at h; simpa using h
theorem notQ_un {a : List Sp} (ha : vl (-1) a = true) (m : Int) : mn (notQ a) m ↔ 0 ≤ m ∧ m < 10080 ∧ ¬ mn a m := by
 unfold notQ; rw [if_pos ha]; exact (notL_un ha).2 m
theorem bothQ_un {a b : List Sp} (ha : vl (-1) a = true) (hb : vl (-1) b = true) (m : Int) : mn (bothQ a b) m ↔ mn a m ∧ mn b m := by
 unfold bothQ; rw [ha, hb]; exact (bothL_un ha hb).2 m
theorem eitherQ_un {a b : List Sp} (ha : vl (-1) a = true) (hb : vl (-1) b = true) (m : Int) : mn (eitherQ a b) m ↔ mn a m ∨ mn b m := by
 unfold eitherQ; rw [ha, hb]; exact (eitherL_un ha hb).2 m
theorem law_nn {a : List Sp} (ha : vl (-1) a = true) : notQ (notQ a) = a :=
 vl_uniq (notQ_vl _) ha fun m => by
  rw [notQ_un (notQ_vl a), notQ_un ha]
  constructor
  ·rintro ⟨h1, h2, h3⟩; exact Classical.byContradiction fun h => h3 ⟨h1, h2, h⟩
  ·intro h; have := mn_rng ha h; exact ⟨this.1, this.2, fun k => k.2.2 h⟩
theorem law_nb {a b : List Sp} (ha : vl (-1) a = true) (hb : vl (-1) b = true) : notQ (bothQ a b) = eitherQ (notQ a) (notQ b) :=
 vl_uniq (notQ_vl _) (eitherQ_vl _ _) fun m => by
  rw [notQ_un (bothQ_vl a b), bothQ_un ha hb, eitherQ_un (notQ_vl a) (notQ_vl b), notQ_un ha, notQ_un hb]
  constructor
  ·rintro ⟨h1, h2, h3⟩
   by_cases h : mn a m
   ·exact .inr ⟨h1, h2, fun k => h3 ⟨h, k⟩⟩
   ·exact .inl ⟨h1, h2, h⟩
  ·rintro (⟨h1, h2, h3⟩ | ⟨h1, h2, h3⟩)
   ·exact ⟨h1, h2, fun k => h3 k.1⟩
   ·exact ⟨h1, h2, fun k => h3 k.2⟩
theorem law_ne {a b : List Sp} (ha : vl (-1) a = true) (hb : vl (-1) b = true) : notQ (eitherQ a b) = bothQ (notQ a) (notQ b) :=
 vl_uniq (notQ_vl _) (bothQ_vl _ _) fun m => by
  rw [notQ_un (eitherQ_vl a b), eitherQ_un ha hb, bothQ_un (notQ_vl a) (notQ_vl b), notQ_un ha, notQ_un hb]
  constructor
  ·rintro ⟨h1, h2, h3⟩; exact ⟨⟨h1, h2, fun k => h3 (.inl k)⟩, h1, h2, fun k => h3 (.inr k)⟩
  ·rintro ⟨⟨h1, h2, h3⟩, _, _, h6⟩; exact ⟨h1, h2, fun k => k.elim h3 h6⟩
theorem law_empty {a : List Sp} (ha : vl (-1) a = true) : bothQ a (notQ a) = [] :=
 vl_uniq (bothQ_vl _ _) (by rfl : vl (-1) [] = true) fun m => by
  rw [bothQ_un ha (notQ_vl a), notQ_un ha]
  exact ⟨fun h => absurd h.1 h.2.2.2, fun h => absurd h (mn_nil m)⟩
theorem law_all {a : List Sp} (ha : vl (-1) a = true) : eitherQ a (notQ a) = [(0, 10080)] :=
 vl_uniq (eitherQ_vl _ _) (by rfl : vl (-1) [((0 : Int), (10080 : Int))] = true) fun m => by
  rw [eitherQ_un ha (notQ_vl a), notQ_un ha, mn_cons]
  constructor
  ·rintro (h | h)
   ·have := mn_rng ha h; exact .inl ⟨this.1, this.2⟩
   ·exact .inl ⟨h.1, h.2.1⟩
  ·rintro (h | h)
   ·by_cases k : mn a m
    ·exact .inl k
    ·exact .inr ⟨h.1, h.2, k⟩
   ·exact absurd h (mn_nil m)
theorem law_bc {a b : List Sp} (ha : vl (-1) a = true) (hb : vl (-1) b = true) : bothQ a b = bothQ b a :=
 vl_uniq (bothQ_vl _ _) (bothQ_vl _ _) fun m => by rw [bothQ_un ha hb, bothQ_un hb ha]; exact ⟨fun h => ⟨h.2, h.1⟩, fun h => ⟨h.2, h.1⟩⟩
theorem law_ec {a b : List Sp} (ha : vl (-1) a = true) (hb : vl (-1) b = true) : eitherQ a b = eitherQ b a :=
 vl_uniq (eitherQ_vl _ _) (eitherQ_vl _ _) fun m => by rw [eitherQ_un ha hb, eitherQ_un hb ha]; exact Or.comm
theorem bothQ_len (a b : List Sp) : (bothQ a b).length ≤ a.length + b.length + 3 := by
 by_cases h : (vl (-1) a && vl (-1) b) = true
 ·obtain ⟨ha, hb⟩ := (Bool.and_eq_true _ _).mp h
  rw [← bothQ_eq ha hb]
  have h1 := notQ_len (eitherQ (notQ a) (notQ b))
  have h2 := eitherQ_len (notQ a) (notQ b)
  have h3 := notQ_len a
  have h4 := notQ_len b
  omega
 ·unfold bothQ; rw [if_neg h]; simp
theorem beq_of {a b : List Sp} (h : a = b) : (a == b) = true := by rw [h]; exact beq_self_eq_true b
end Go.Proofs.YtjaffpnegdcjnaaGreatDoor
