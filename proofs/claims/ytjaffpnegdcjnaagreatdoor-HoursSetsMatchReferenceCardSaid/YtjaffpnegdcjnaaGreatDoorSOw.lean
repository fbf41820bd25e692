/- Rows of one's own at this program's types; a week's block. -/
import Derived.Test.YtjaffpnegdcjnaaGreatDoorSA4
import Derived.Laws.MakeOwn
set_option linter.unusedVariables false
set_option linter.unusedSimpArgs false
namespace Go.Proofs.YtjaffpnegdcjnaaGreatDoor
open Go.RowKit Go.Pl
theorem info_parts4 {t : TypeId} {z : Value} {n m : Nat} (h : (Tryz.prog.info? t).map (fun i => (i.zero, i.size, i.bytes)) = some (some z, n, m)) : ∃ i, Tryz.prog.info? t = some i ∧ i.zero = some z ∧ i.size = n ∧ i.bytes = m := by
 cases hi : Tryz.prog.info? t with
 | none => rw [hi] at h; cases h
 | some i =>
  rw [hi] at h
  simp only [Option.map_some, Option.some.injEq, Prod.mk.injEq] at h
  exact ⟨i, rfl, h.1, h.2.1, h.2.2⟩
abbrev oSp := ow spL 2 48
abbrev oTk := ow tkL 3 38
abbrev oSt := ow stL 1 9
theorem info48z : (Tryz.prog.info? 48).map (fun i => (i.zero, i.size, i.bytes)) = some (some (.agg (spA (0, 0))), 2, 16) := by kernel_rfl
theorem info38z : (Tryz.prog.info? 38).map (fun i => (i.zero, i.size, i.bytes)) = some (some (.agg (tkA (0, [], 0))), 3, 32) := by kernel_rfl
theorem info9z : (Tryz.prog.info? 9).map (fun i => (i.zero, i.size, i.bytes)) = some (some (.string (ofL [])), 1, 16) := by kernel_rfl
theorem ow.Src {α : Type} {f : α → List Value} {c : Nat} {E : TypeId} (hf : ∀ x, (f x).length = c) {w : World} {B : Nat} {v : Value} {L : List α} (h : ow f c E w B v L) : Src f c w v L := ow.src hf h
section
variable {O : Array Oper} {Q : Exit → Act → World → Prop} {rest : List Oper} {o : Oper} {a : Act} {w : World} {n d : Nat} {L : List (Nat × Value)} {x y : Operand} {b : Nat} {ds : List Deferred}
theorem env_app22 {B G : Nat} {v : Value} {A S : List (Sp)} {p : Option Addr} {cap : Nat} (En : EnvD ds n L a) (hd : o.dst = some d) (hn : d < n) (hfr : (L.map (·.1)).contains d = false) (hg : o.guard = none) (ho : o.op = .call { callee := .builtin .append, args := #[x, y], argTypes := #[22, 22] }) (hx : a.eval x = v) (hv : oSp w B v A) (hy : a.eval y = .slice p S.length cap) (hsrc : srcAt spL 2 w G p S) (hcp : p = none → cap = 0) (hl : A.length + S.length ≤ 400000000) (hB : B ≤ w.heap.size)
  (k : ∀ a' w' v', oSp w' B v' (A ++ S) → Fr (fun k => v.ownBlock = some k) w w' → (v'.ownBlock = v.ownBlock ∨ v'.ownBlock = some w.heap.size) → EnvD ds n ((d, v') :: L) a' → wpList Tryz.prog O Q rest a' w') : wpList Tryz.prog O Q (o :: rest) a w := by
 obtain ⟨i0, hi0, hz0, hz1, hz2⟩ := info_parts4 info48z
 exact env_appR spL_len (by omega) spL_one Tryz.underlying22 hi0 hz0 hz1 hz2 rfl (by decide) En hd hn hfr hg ho hx hv hy hsrc hcp hl hB k
theorem run_one22 {ρ : Operand → Value} {s : Sp} (ho : o.op = .buildSlice 22 1 #[(0, x)]) (hx : ρ x = .agg (spA s)) : (execOp ρ o).run Tryz.prog w = .ok (.value (.slice (some ⟨w.heap.size, 0, none⟩) 1 1)) (w.alloc (.cells (spL s).toArray 48)) := by
 simp [execOp, ho, hx, go_sem, spL]
theorem env_one22 {s : Sp} (En : EnvD ds n L a) (hd : o.dst = some d) (hn : d < n) (hf : (L.map (·.1)).contains d = false) (hw : Region.wanted o (yielded O a.tmps) = true) (ho : o.op = .buildSlice 22 1 #[(0, x)]) (hx : a.eval x = .agg (spA s))
  (k : ∀ a' w' b, w.heap.size = b → w'.heap[b]? = some (.cells (spL s).toArray 48 (0, 0)) → Fr (fun _ => False) w w' → EnvD ds n ((d, .slice (some ⟨b, 0, none⟩) 1 1) :: L) a' → wpList Tryz.prog O Q rest a' w') : wpList Tryz.prog O Q (o :: rest) a w :=
 env_put En hd hn hf hw (run_one22 ho hx) fun a' E' => k a' _ _ rfl (blk_alloc_new _ _) ((Fr.refl _ _).alloc _) E'
theorem env_app34 {B G : Nat} {v : Value} {A S : List (Tok Int)} {p : Option Addr} {cap : Nat} (En : EnvD ds n L a) (hd : o.dst = some d) (hn : d < n) (hfr : (L.map (·.1)).contains d = false) (hg : o.guard = none) (ho : o.op = .call { callee := .builtin .append, args := #[x, y], argTypes := #[34, 34] }) (hx : a.eval x = v) (hv : oTk w B v A) (hy : a.eval y = .slice p S.length cap) (hsrc : srcAt tkL 3 w G p S) (hcp : p = none → cap = 0) (hl : A.length + S.length ≤ 400000000) (hB : B ≤ w.heap.size)
  (k : ∀ a' w' v', oTk w' B v' (A ++ S) → Fr (fun k => v.ownBlock = some k) w w' → (v'.ownBlock = v.ownBlock ∨ v'.ownBlock = some w.heap.size) → EnvD ds n ((d, v') :: L) a' → wpList Tryz.prog O Q rest a' w') : wpList Tryz.prog O Q (o :: rest) a w := by
 obtain ⟨i0, hi0, hz0, hz1, hz2⟩ := info_parts4 info38z
 exact env_appR tkL_len (by omega) tkL_one Tryz.underlying34 hi0 hz0 hz1 hz2 rfl (by decide) En hd hn hfr hg ho hx hv hy hsrc hcp hl hB k
theorem run_one34 {ρ : Operand → Value} {s : Tok Int} (ho : o.op = .buildSlice 34 1 #[(0, x)]) (hx : ρ x = .agg (tkA s)) : (execOp ρ o).run Tryz.prog w = .ok (.value (.slice (some ⟨w.heap.size, 0, none⟩) 1 1)) (w.alloc (.cells (tkL s).toArray 38)) := by
 simp [execOp, ho, hx, go_sem, tkL]
theorem env_one34 {s : Tok Int} (En : EnvD ds n L a) (hd : o.dst = some d) (hn : d < n) (hf : (L.map (·.1)).contains d = false) (hw : Region.wanted o (yielded O a.tmps) = true) (ho : o.op = .buildSlice 34 1 #[(0, x)]) (hx : a.eval x = .agg (tkA s))
  (k : ∀ a' w' b, w.heap.size = b → w'.heap[b]? = some (.cells (tkL s).toArray 38 (0, 0)) → Fr (fun _ => False) w w' → EnvD ds n ((d, .slice (some ⟨b, 0, none⟩) 1 1) :: L) a' → wpList Tryz.prog O Q rest a' w') : wpList Tryz.prog O Q (o :: rest) a w :=
 env_put En hd hn hf hw (run_one34 ho hx) fun a' E' => k a' _ _ rfl (blk_alloc_new _ _) ((Fr.refl _ _).alloc _) E'
theorem run_one70 {ρ : Operand → Value} {s : Bys} (ho : o.op = .buildSlice 70 1 #[(0, x)]) (hx : ρ x = .string (ofL s)) : (execOp ρ o).run Tryz.prog w = .ok (.value (.slice (some ⟨w.heap.size, 0, none⟩) 1 1)) (w.alloc (.cells (stL s).toArray 9)) := by
 simp [execOp, ho, hx, go_sem, stL]
theorem env_one70 {s : Bys} (En : EnvD ds n L a) (hd : o.dst = some d) (hn : d < n) (hf : (L.map (·.1)).contains d = false) (hw : Region.wanted o (yielded O a.tmps) = true) (ho : o.op = .buildSlice 70 1 #[(0, x)]) (hx : a.eval x = .string (ofL s))
  (k : ∀ a' w' b, w.heap.size = b → w'.heap[b]? = some (.cells (stL s).toArray 9 (0, 0)) → Fr (fun _ => False) w w' → EnvD ds n ((d, .slice (some ⟨b, 0, none⟩) 1 1) :: L) a' → wpList Tryz.prog O Q rest a' w') : wpList Tryz.prog O Q (o :: rest) a w :=
 env_put En hd hn hf hw (run_one70 ho hx) fun a' E' => k a' _ _ rfl (blk_alloc_new _ _) ((Fr.refl _ _).alloc _) E'
end
theorem list_sets {α : Type} (l : List α) : ∀ (i : Nat) (x : α), (l.set i x).take (i + 1) = if i < l.length then l.take i ++ [x] else l.take (i + 1) := by
 induction l with
 | nil => intro i x; simp
 | cons y l ih =>
  intro i x
  cases i with
  | zero => simp
  | succ i =>
   rw [List.set_cons_succ, List.take_succ_cons, ih]
   simp only [List.length_cons, Nat.add_lt_add_iff_right, List.take_succ_cons]
   split <;> rfl
/-- The last span of a row of one's own gets another end. -/
theorem oSp.setTo {w : World} {B : Nat} {v : Value} {A : List Sp} {s : Sp} (h : oSp w B v (A ++ [s])) (e : Int) : ∃ g cap, v = .slice (some ⟨g, 0, none⟩) (A ++ [s]).length cap ∧ v.ownBlock = some g ∧
  (w.cell? ⟨g, 0 + A.length * 2 + 1, none⟩ = some (.int .i64 s.2) ∧ w.frozen? ⟨g, 0 + A.length * 2 + 1, none⟩ = false) ∧ w.rangeAt g (0 + A.length * 2) (spL s) ∧
  oSp (w.setCell ⟨g, 0 + A.length * 2 + 1, none⟩ (.int .i64 e)) B v (A ++ [(s.1, e)]) ∧ Fr (fun k => v.ownBlock = some k) w (w.setCell ⟨g, 0 + A.length * 2 + 1, none⟩ (.int .i64 e)) := by
 have h0 := h
 rcases h.2 with ⟨_, h2⟩ | ⟨g, cap, cur, h1, hB, h3, h4, h5, h6, h7⟩
 ·simp at h2
 have hfl : (A.flatMap spL).length = A.length * 2 := flat_len spL_len A
 rw [List.flatMap_append, List.length_append] at h7
 simp only [List.flatMap_cons, List.flatMap_nil, List.append_nil, List.length_singleton] at h7
 have hsz : A.length * 2 + 2 ≤ cur.size := by rw [h6]; simp only [List.length_append, List.length_singleton] at h4; omega
 have hat : ∀ j u, (spL s)[j]? = some u → cur[A.length * 2 + j]? = some u := by
  intro j u hu
  have hj : j < 2 := (List.getElem?_eq_some_iff.1 hu).1
  have := congrArg (fun l => l[A.length * 2 + j]?) h7
  rw [List.getElem?_take_of_lt (by omega), List.getElem?_append_right (by omega), hfl, show A.length * 2 + j - A.length * 2 = j by omega, hu, Array.getElem?_toList] at this
  exact this
 have hrow : w.rangeAt g (0 + A.length * 2) (spL s) := by
  intro j u hu
  rw [cell_of_blk h3, Nat.zero_add]; exact hat j u hu
 have hob : v.ownBlock = some g := by rw [h1]; rfl
 refine ⟨g, cap, h1, hob, ⟨hrow 1 _ rfl, free_of_blk h3 _⟩, hrow, ⟨flat_len spL_len _, .inr ⟨g, cap, _, by rw [h1]; simp, hB, blk_setCell_same h3 _, by simpa using h4, h5, by simpa using h6, ?_⟩⟩, (Fr.refl (fun k => v.ownBlock = some k) w).setCell (p := ⟨g, _, none⟩) (fun _ => hob) _⟩
 rw [List.flatMap_append]
 simp only [List.flatMap_cons, List.flatMap_nil, List.append_nil, List.length_append, List.length_singleton]
 rw [show (A.length + 1) * 2 = 0 + A.length * 2 + 1 + 1 by omega, Array.toList_setIfInBounds, list_sets, if_pos (by have := Array.length_toList (xs := cur); omega)]
 have h8 := congrArg (List.take (0 + A.length * 2 + 1)) h7
 rw [List.take_take, Nat.min_eq_left (by omega), List.take_append, hfl, List.take_of_length_le (l := A.flatMap spL) (by omega), show 0 + A.length * 2 + 1 - A.length * 2 = 1 by omega] at h8
 rw [h8, List.append_assoc]
 rfl
/-! ### weeks -/
def isF : Value → Bool | .bool b => !b | _ => false
def chkF : List Value → Nat → Bool
 | [], n => n == 0
 | v :: l, n => match n with | 0 => false | n + 1 => isF v && chkF l n
theorem chkF_of : ∀ (l : List Value) (n : Nat), chkF l n = true → l.length = n ∧ ∀ i, i < n → l[i]? = some (.bool false) := by
 intro l
 induction l with
 | nil => intro n h; simp [chkF] at h; subst h; exact ⟨rfl, fun i hi => by omega⟩
 | cons v l ih =>
  intro n h
  cases n with
  | zero => simp [chkF] at h
  | succ n =>
   simp only [chkF, Bool.and_eq_true] at h
   obtain ⟨h1, h2⟩ := ih n h.2
   refine ⟨by simp [h1], fun i hi => ?_⟩
   cases i with
   | zero =>
    have := h.1
    cases v <;> simp [isF] at this
    subst this; rfl
   | succ i => simpa using h2 i (by omega)
theorem zero65 : chkF Tryz.zeroCells65.toList 10080 = true := by kernel_rfl
/-- A week of Bools. -/
def wkB (w : World) (b : Nat) (t : Nat → Bool) : Prop := ∃ cs, w.heap[b]? = some (.cells cs 65 (0, 0)) ∧ cs.size = 10080 ∧ ∀ i, i < 10080 → cs[i]? = some (.bool (t i))
theorem wkB.fr {w w' : World} {b : Nat} {t : Nat → Bool} (h : wkB w b t) {F : Nat → Prop} (hf : Fr F w w') (hb : ¬ F b) : wkB w' b t := by
 obtain ⟨cs, h1, h2, h3⟩ := h
 exact ⟨cs, hf.obj h1 hb, h2, h3⟩
theorem wkB.lt {w : World} {b : Nat} {t : Nat → Bool} (h : wkB w b t) : b < w.heap.size := by
 obtain ⟨cs, h1, _⟩ := h
 exact lt_of_blk h1
theorem wkB.at {w : World} {b : Nat} {t : Nat → Bool} (h : wkB w b t) {i : Nat} (hi : i < 10080) : w.cell? ⟨b, 0 + i, none⟩ = some (.bool (t i)) := by
 obtain ⟨cs, h1, _, h3⟩ := h
 rw [cell_of_blk h1, Nat.zero_add]; exact h3 i hi
theorem wkB.ext {w : World} {b : Nat} {t t' : Nat → Bool} (h : wkB w b t) (he : ∀ i, i < 10080 → t i = t' i) : wkB w b t' := by
 obtain ⟨cs, h1, h2, h3⟩ := h
 exact ⟨cs, h1, h2, fun i hi => by rw [h3 i hi, he i hi]⟩
theorem wkB.set {w : World} {b : Nat} {t : Nat → Bool} (h : wkB w b t) {k : Nat} (hk : k < 10080) (v : Bool) : (w.cell? ⟨b, 0 + k, none⟩ = some (.bool (t k)) ∧ w.frozen? ⟨b, 0 + k, none⟩ = false) ∧ wkB (w.setCell ⟨b, 0 + k, none⟩ (.bool v)) b (fun i => if i = k then v else t i) ∧ Fr (fun r => r = b) w (w.setCell ⟨b, 0 + k, none⟩ (.bool v)) := by
 have h0 := h.at hk
 obtain ⟨cs, h1, h2, h3⟩ := h
 refine ⟨⟨h0, free_of_blk h1 _⟩, ⟨_, blk_setCell_same h1 _, by simp [h2], fun i hi => ?_⟩, (Fr.refl (fun r => r = b) w).setCell (p := ⟨b, 0 + k, none⟩) (fun _ => rfl) _⟩
 rw [Array.getElem?_setIfInBounds, Nat.zero_add]
 by_cases e : k = i
 ·subst e; simp [h2, hk]
 ·rw [if_neg e, h3 i hi]; simp only [if_neg (Ne.symm e)]
section
variable {o : Oper} {w : World} {ρ : Operand → Value} {x y z : Operand} {g off k n cap i : Nat} {p : Option Addr}
theorem run_build65 (ho : o.op = .build 65 #[]) : (execOp ρ o).run Tryz.prog w = .ok (.value (.agg Tryz.zeroCells65)) w := by
 simp [execOp, ho, go_sem]
theorem run_box65 {cs : Array Value} (ho : o.op = .box 65 x) (hx : ρ x = .agg cs) : (execOp ρ o).run Tryz.prog w = .ok (.value (.pointer (some ⟨w.heap.size, 0, none⟩))) (w.alloc (.cells cs 65)) := by
 simp [execOp, ho, hx, go_sem]
theorem run_index65 (ho : o.op = .indexAddr 65 x y) (hx : ρ x = .pointer (some ⟨g, off, none⟩)) (hy : ρ y = .int .i64 i) (hi : i < 10080) : (execOp ρ o).run Tryz.prog w = .ok (.value (.pointer (some ⟨g, off + i, none⟩))) w := by
 have h1 : (i : Int) < 10080 := by omega
 simp [execOp, ho, hx, hy, go_sem, h1]
end
theorem env_box65 {O : Array Oper} {Q : Exit → Act → World → Prop} {rest : List Oper} {o : Oper} {a : Act} {w : World} {n d : Nat} {L : List (Nat × Value)} {x : Operand} {ds : List Deferred} (En : EnvD ds n L a) (hd : o.dst = some d) (hn : d < n) (hf : (L.map (·.1)).contains d = false) (hw : Region.wanted o (yielded O a.tmps) = true) (ho : o.op = .box 65 x) (hx : a.eval x = .agg Tryz.zeroCells65)
  (k : ∀ a' w' b, w.heap.size = b → wkB w' b (fun _ => false) → Fr (fun _ => False) w w' → EnvD ds n ((d, .pointer (some ⟨b, 0, none⟩)) :: L) a' → wpList Tryz.prog O Q rest a' w') : wpList Tryz.prog O Q (o :: rest) a w := by
 obtain ⟨h1, h2⟩ := chkF_of _ _ zero65
 exact env_put En hd hn hf hw (run_box65 ho hx) fun a' E' => k a' _ _ rfl ⟨_, blk_alloc_new _ _, by rw [← Array.length_toList]; exact h1, fun i hi => by rw [← Array.getElem?_toList]; exact h2 i hi⟩ ((Fr.refl _ _).alloc _) E'
theorem env_stw {O : Array Oper} {Q : Exit → Act → World → Prop} {rest : List Oper} {o : Oper} {a : Act} {w : World} {n b k : Nat} {L : List (Nat × Value)} {x y : Operand} {ds : List Deferred} {t : Nat → Bool} {v : Bool} (E : EnvD ds n L a) (hd : o.dst = none) (hw : Region.wanted o (yielded O a.tmps) = true) (ho : o.op = .store 4 x y) (hx : a.eval x = .pointer (some ⟨b, 0 + k, none⟩)) (hy : a.eval y = .bool v) (h : wkB w b t) (hk : k < 10080)
  (kk : ∀ w', wkB w' b (fun i => if i = k then v else t i) → Fr (fun r => r = b) w w' → EnvD ds n L a → wpList Tryz.prog O Q rest a w') : wpList Tryz.prog O Q (o :: rest) a w := by
 obtain ⟨⟨h1, h2⟩, h3, h4⟩ := h.set hk v
 exact env_store E hd hw (run_st4 ho hx hy h1 h2) (kk _ h3 h4)
/-- A minute of a list. -/
def mnB (l : List Sp) (m : Int) : Bool := l.any fun s => decide (s.1 ≤ m) && decide (m < s.2)
theorem mnB_iff {l : List Sp} {m : Int} : mnB l m = true ↔ mn l m := by
 unfold mnB mn
 rw [List.any_eq_true]
 constructor
 ·rintro ⟨s, hs, h⟩; simp only [Bool.and_eq_true, decide_eq_true_eq] at h; exact ⟨s, hs, h⟩
 ·rintro ⟨s, hs, h⟩; exact ⟨s, hs, by simp only [Bool.and_eq_true, decide_eq_true_eq]; exact h⟩
/-- The list of the first minutes of a week. -/
def runs (t : Nat → Bool) : Nat → List Sp
 | 0 => []
 | n + 1 => if t n then (if (n == 0 || !t (n - 1)) then runs t n ++ [((n : Int), (n : Int) + 1)] else (runs t n).dropLast ++ [(((runs t n).getLast?.getD (0, 0)).1, (n : Int) + 1)]) else runs t n
structure RunsAt (t : Nat → Bool) (n : Nat) (l : List Sp) : Prop where
 ok : vl (-1) l = true
 at_ : ∀ m, mn l m ↔ 0 ≤ m ∧ m < n ∧ t m.toNat = true
 last : ∀ q, l.getLast? = some q → q.2 ≤ n ∧ (0 < n → t (n - 1) = true → q.2 = n) ∧ (0 < n → t (n - 1) = false → q.2 < n)
 ne : 0 < n → t (n - 1) = true → l ≠ []
theorem runs_at (t : Nat → Bool) : ∀ n, n ≤ 10080 → RunsAt t n (runs t n) := by
 intro n
 induction n with
 | zero => intro _; exact ⟨rfl, fun m => ⟨fun h => absurd h (mn_nil m), fun h => by omega⟩, fun q h => by simp [runs] at h, fun h => by omega⟩
 | succ n ih =>
  intro hn
  obtain ⟨h1, h2, h3, h4⟩ := ih (by omega)
  unfold runs
  cases ht : t n with
  | false =>
   rw [if_neg (by simp)]
   refine ⟨h1, fun m => ?_, fun q hq => ?_, fun _ h => ?_⟩
   ·rw [h2]
    constructor
    ·rintro ⟨a, b, c⟩; exact ⟨a, by omega, c⟩
    ·rintro ⟨a, b, c⟩
     refine ⟨a, ?_, c⟩
     rcases Int.lt_or_le m n with h | h
     ·exact h
     ·have : m.toNat = n := by omega
      rw [this, ht] at c; cases c
   ·have := (h3 q hq).1
    refine ⟨by omega, fun _ h => ?_, fun _ _ => by omega⟩
    rw [Nat.add_sub_cancel, ht] at h; cases h
   ·rw [Nat.add_sub_cancel, ht] at h; cases h
  | true =>
   rw [if_pos rfl]
   have hmm : ∀ m : Int, (0 ≤ m ∧ m < ((n + 1 : Nat) : Int) ∧ t m.toNat = true) ↔ (0 ≤ m ∧ m < n ∧ t m.toNat = true) ∨ m = n := by
    intro m
    constructor
    ·rintro ⟨a, b, c⟩
     rcases Int.lt_or_le m n with h | h
     ·exact .inl ⟨a, h, c⟩
     ·exact .inr (by omega)
    ·rintro (⟨a, b, c⟩ | rfl)
     ·exact ⟨a, by omega, c⟩
     ·exact ⟨by omega, by omega, by simpa using ht⟩
   by_cases hc : (n == 0 || !t (n - 1)) = true
   ·rw [if_pos hc]
    have hlt : ∀ q, (runs t n).getLast? = some q → q.2 < (n : Int) := by
     intro q hq
     rcases Nat.eq_zero_or_pos n with rfl | hp
     ·simp [runs] at hq
     ·have h9 : t (n - 1) = false := by simpa [Nat.ne_of_gt hp] using hc
      exact (h3 q hq).2.2 hp h9
    refine ⟨vl_snoc.2 ⟨h1, by simp only; omega, hlt, by simp only; omega, by simp only; omega⟩, fun m => ?_, fun q hq => ?_, fun _ _ => by simp⟩
    ·rw [mn_append, h2, hmm]
     refine or_congr Iff.rfl ?_
     rw [mn_cons]
     simp only [mn_nil, or_false]; omega
    ·rw [List.getLast?_concat] at hq
     cases hq
     exact ⟨by simp only; omega, fun _ _ => by simp only; omega, fun _ h => by rw [Nat.add_sub_cancel, ht] at h; cases h⟩
   ·rw [if_neg hc]
    have hp : 0 < n := by
     rcases Nat.eq_zero_or_pos n with rfl | hp
     ·simp at hc
     ·exact hp
    have h9 : t (n - 1) = true := by
     cases h : t (n - 1) with
     | true => rfl
     | false => rw [h] at hc; simp at hc
    have hne := h4 hp h9
    obtain ⟨A, q, hA⟩ : ∃ A q, runs t n = A ++ [q] := ⟨_, _, (List.dropLast_concat_getLast hne).symm⟩
    have hq : (runs t n).getLast? = some q := by rw [hA, List.getLast?_concat]
    have hq2 := (h3 q hq).2.1 hp h9
    rw [hq, hA, List.dropLast_concat]
    rw [hA] at h1 h2
    obtain ⟨k1, k2, k3, k4, k5⟩ := vl_snoc.1 h1
    refine ⟨vl_snoc.2 ⟨k1, k2, k3, by simp only [Option.getD_some]; omega, by simp only; omega⟩, fun m => ?_, fun r hr => ?_, fun _ _ => by simp⟩
    ·rw [hmm, ← h2, mn_append, mn_append, mn_cons, mn_cons]
     simp only [mn_nil, or_false, Option.getD_some]
     have e : ((q.1 ≤ m ∧ m < (n : Int) + 1) ↔ ((q.1 ≤ m ∧ m < q.2) ∨ m = n)) := by omega
     rw [e, or_assoc]
    ·rw [List.getLast?_concat] at hr
     cases hr
     exact ⟨by simp only; omega, fun _ _ => by simp only; omega, fun _ h => by rw [Nat.add_sub_cancel, ht] at h; cases h⟩
theorem runs_uniq {t : Nat → Bool} {l : List Sp} (h : vl (-1) l = true) (k : ∀ m : Nat, m < 10080 → (t m = true ↔ mn l m)) : runs t 10080 = l := by
 obtain ⟨h1, h2, _, _⟩ := runs_at t 10080 (Nat.le_refl _)
 refine vl_uniq h1 h fun m => ?_
 rw [h2]
 constructor
 ·rintro ⟨a, b, c⟩
  have := (k m.toNat (by omega)).1 c
  rwa [Int.toNat_of_nonneg a] at this
 ·intro hm
  obtain ⟨a, b⟩ := mn_rng h hm
  exact ⟨a, b, (k m.toNat (by omega)).2 (by rwa [Int.toNat_of_nonneg a])⟩
end Go.Proofs.YtjaffpnegdcjnaaGreatDoor
