/- The lexer: plain laws of its loops. -/
import Derived.Test.YtjaffpnegdcjnaaGreatDoorSD3
import Derived.Scope
set_option linter.unusedVariables false
set_option linter.unusedSimpArgs false
namespace Go.Proofs.YtjaffpnegdcjnaaGreatDoor
open Go.RowKit Go.Pl
theorem ng_n {Q : Exit → Act → World → Prop} {a : Act} {w : World} (h : Q .normal a w) : Exit.noGoto Q .normal a w := h
theorem ng_r {Q : Exit → Act → World → Prop} {a : Act} {w : World} (h : Q .ret a w) : Exit.noGoto Q .ret a w := h
abbrev fdA (x : Tok Int × Int) : Array Value := #[.int .i64 x.1.1, .string (ofL x.1.2.1), .int .i64 x.1.2.2, .int .i64 x.2]
def fdL (x : Tok Int × Int) : List Value := [.int .i64 x.1.1, .string (ofL x.1.2.1), .int .i64 x.1.2.2, .int .i64 x.2]
def lexV (s : Bys) : List (Array Value) := (lexL s 0).map fun x => #[.agg (fdA x)]
/-- What the iterator over a text's tokens needs. -/
def TokK (c1 c2 c3 : Nat) (s : Bys) (W : World) : Prop := LexK W c1 c3 s ∧ W.heap[c2]? = some (.cells #[.func (.func 73) #[] #[.pointer (some ⟨c1, 0, none⟩), .pointer (some ⟨c3, 0, none⟩)]] 113 (0, 0))
section
variable {o : Oper} {w : World} {ρ : Operand → Value} {x y z : Operand} {g off : Nat}
theorem run_of81 {t : Tok Int} {e : Int} (ho : o.op = .build 81 #[(0, x), (1, y)]) (hx : ρ x = .agg (tkA t)) (hy : ρ y = .int .i64 e) : (execOp ρ o).run Tryz.prog w = .ok (.value (.agg (fdA (t, e)))) w := by
 simp [execOp, ho, hx, hy, go_sem]
theorem info81 : (Tryz.prog.info? 81).map (·.size) = some 4 := by kernel_rfl
theorem run_ld81 {t : Tok Int × Int} (ho : o.op = .load 81 x) (hx : ρ x = .pointer (some ⟨g, off, none⟩)) (h : w.rangeAt g off (fdL t)) : (execOp ρ o).run Tryz.prog w = .ok (.value (.agg (fdA t))) w := by
 have := run_loadAt_mid (P := Tryz.prog) w g off 81 (fdA t).toList _ h Tryz.underlying81 rfl info81
 simp only [execOp, ho, hx, Sem.run_bind, this, Result.andThen_ok, Sem.run_pure]
theorem rng4 {b : Nat} {cs : Array Value} {T : TypeId} (h : w.heap[b]? = some (.cells cs T (0, 0))) (k : Nat) {p : Tok Int × Int} (h0 : cs[k]? = some (.int .i64 p.1.1)) (h1 : cs[k + 1]? = some (.string (ofL p.1.2.1))) (h2 : cs[k + 2]? = some (.int .i64 p.1.2.2)) (h3 : cs[k + 3]? = some (.int .i64 p.2)) : w.rangeAt b k (fdL p) := by
 intro j u hu
 rw [cell_of_blk h]
 match j, hu with
 | 0, hu => simp [fdL] at hu; subst hu; exact h0
 | 1, hu => simp [fdL] at hu; subst hu; exact h1
 | 2, hu => simp [fdL] at hu; subst hu; exact h2
 | 3, hu => simp [fdL] at hu; subst hu; exact h3
 | j + 4, hu => simp [fdL] at hu
theorem run_st81 {b : Nat} {s t : Tok Int × Int} {T : TypeId} (ho : o.op = .store 81 x y) (hx : ρ x = .pointer (some ⟨b, 0, none⟩)) (hy : ρ y = .agg (fdA t)) (h : w.heap[b]? = some (.cells (fdA s) T (0, 0))) :
  ∃ w', (execOp ρ o).run Tryz.prog w = .ok .skip w' ∧ w'.heap[b]? = some (.cells (fdA t) T (0, 0)) ∧ Fr (fun r => r = b) w w' := by
 have := run_storeVar_row (P := Tryz.prog) w b T 81 (fdA s) (fdA t) h (by rw [info81]; rfl) rfl (by simp [Value.oneCell'])
 refine ⟨w.setRow b (fdA t), ?_, setRow_same h, setRow_fr⟩
 simp only [execOp, ho, hx, hy, Instr.storeAt, Instr.sureAddr, Sem.run_bind, Sem.run_pure, Result.andThen, this]
end
theorem env_st81 {O : Array Oper} {Q : Exit → Act → World → Prop} {rest : List Oper} {o : Oper} {a : Act} {w : World} {n b : Nat} {L : List (Nat × Value)} {ds : List Deferred} {x y : Operand} {s t : Tok Int × Int} {T : TypeId} (E : EnvD ds n L a) (hd : o.dst = none) (hw : Region.wanted o (yielded O a.tmps) = true) (ho : o.op = .store 81 x y) (hx : a.eval x = .pointer (some ⟨b, 0, none⟩)) (hy : a.eval y = .agg (fdA t)) (h : w.heap[b]? = some (.cells (fdA s) T (0, 0)))
  (k : ∀ w', w'.heap[b]? = some (.cells (fdA t) T (0, 0)) → Fr (fun r => r = b) w w' → EnvD ds n L a → wpList Tryz.prog O Q rest a w') : wpList Tryz.prog O Q (o :: rest) a w := by
 obtain ⟨w', hr, h1, h2⟩ := run_st81 ho hx hy h
 exact env_store E hd hw hr fun E' => k w' h1 h2 E'
-- ---- what is seen at an offset
theorem clsAt_len {s : Bys} {i : Nat} (h : s.length ≤ i) : clsAt s i = 0 := by unfold clsAt; rw [List.getElem?_eq_none h]
theorem clsAt_is {s : Bys} {i : Nat} {c : UInt8} (h : s[i]? = some c) : clsAt s i = cl8 c := by unfold clsAt; rw [h]
theorem cl8_q (c : UInt8) : (((cl8 c == 1) == isBlk c) && ((cl8 c == 2) == (c == 35)) && ((cl8 c == 3) == isLet c) && ((cl8 c == 4) == isDig c) && ((cl8 c == 7) == (c == 34)) && ((cl8 c == 6) == isSym c) && ((cl8 c == 3 || cl8 c == 4 || cl8 c == 5) == isWrd c)) = true :=
 u8_all (p := fun c => ((cl8 c == 1) == isBlk c) && ((cl8 c == 2) == (c == 35)) && ((cl8 c == 3) == isLet c) && ((cl8 c == 4) == isDig c) && ((cl8 c == 7) == (c == 34)) && ((cl8 c == 6) == isSym c) && ((cl8 c == 3 || cl8 c == 4 || cl8 c == 5) == isWrd c)) (by decide +kernel) c
theorem cl8_qs (c : UInt8) : (cl8 c == 1) = isBlk c ∧ (cl8 c == 2) = (c == 35) ∧ (cl8 c == 3) = isLet c ∧ (cl8 c == 4) = isDig c ∧ (cl8 c == 7) = (c == 34) ∧ (cl8 c == 6) = isSym c ∧ (cl8 c == 3 || cl8 c == 4 || cl8 c == 5) = isWrd c := by
 have := cl8_q c
 simp only [Bool.and_eq_true, beq_iff_eq] at this
 obtain ⟨⟨⟨⟨⟨⟨h1, h2⟩, h3⟩, h4⟩, h5⟩, h6⟩, h7⟩ := this
 exact ⟨h1, h2, h3, h4, h5, h6, h7⟩
theorem natq (a : Nat) (b : Nat) : (((a : Nat) : Int) == (b : Int)) = (a == b) := by
 by_cases h : a = b
 ·subst h; simp
 ·rw [beq_eq_false_iff_ne.2 h, beq_eq_false_iff_ne.2 (by omega)]
/-- A word goes on. -/
def wrdAt (s : Bys) (i : Nat) : Bool := clsAt s i == 3 || clsAt s i == 4 || clsAt s i == 5
theorem wrdAt_is {s : Bys} {i : Nat} {c : UInt8} (h : s[i]? = some c) : wrdAt s i = isWrd c := by
 unfold wrdAt; rw [clsAt_is h]; exact (cl8_qs c).2.2.2.2.2.2
theorem wrdAt_no {s : Bys} {i : Nat} (h : s.length ≤ i) : wrdAt s i = false := by unfold wrdAt; rw [clsAt_len h]; rfl
def digAt (s : Bys) (i : Nat) : Bool := clsAt s i == 4
theorem digAt_is {s : Bys} {i : Nat} {c : UInt8} (h : s[i]? = some c) : digAt s i = isDig c := by
 unfold digAt; rw [clsAt_is h]; exact (cl8_qs c).2.2.2.1
theorem digAt_no {s : Bys} {i : Nat} (h : s.length ≤ i) : digAt s i = false := by unfold digAt; rw [clsAt_len h]; rfl
/-- Where a run of bytes ends. -/
structure RunTo (p : UInt8 → Bool) (s : Bys) (f j : Nat) : Prop where
 le : f ≤ j
 hi : j ≤ s.length
 all : (s.drop f).takeWhile p = (s.drop f).take (j - f) ++ (s.drop j).takeWhile p
theorem RunTo.start {p : UInt8 → Bool} {s : Bys} {f : Nat} (h : f ≤ s.length) : RunTo p s f f := ⟨Nat.le_refl _, h, by simp⟩
theorem RunTo.step {p : UInt8 → Bool} {s : Bys} {f j : Nat} {c : UInt8} (h : RunTo p s f j) (hc : s[j]? = some c) (hp : p c = true) : RunTo p s f (j + 1) := by
 have hj := (List.getElem?_eq_some_iff.1 hc).1
 refine ⟨by have := h.le; omega, by omega, ?_⟩
 rw [h.all, drop_at hc, List.takeWhile_cons, if_pos hp]
 have hle := h.le
 have : (s.drop f).take (j + 1 - f) = (s.drop f).take (j - f) ++ [c] := by
  rw [show j + 1 - f = (j - f) + 1 by omega, List.take_add_one, List.getElem?_drop, show f + (j - f) = j by omega, hc]; rfl
 rw [this, List.append_assoc]; rfl
theorem RunTo.stop {p : UInt8 → Bool} {s : Bys} {f j : Nat} (h : RunTo p s f j) (hs : ∀ c, s[j]? = some c → p c = false) : (s.drop f).takeWhile p = (s.drop f).take (j - f) ∧ ((s.drop f).takeWhile p).length = j - f := by
 have e : (s.drop j).takeWhile p = [] := by
  cases hq : s.drop j with
  | nil => rfl
  | cons c r =>
   have : s[j]? = some c := by
    have := congrArg (fun l => l[0]?) hq
    simpa [List.getElem?_drop] using this
   rw [List.takeWhile_cons, hs c this]; rfl
 have := h.all
 rw [e, List.append_nil] at this
 refine ⟨this, ?_⟩
 rw [this, List.length_take, List.length_drop]
 have := h.le; have := h.hi; omega
theorem take_cons_sub {s : Bys} {i j : Nat} {c : UInt8} (hc : s[i]? = some c) (h : i + 1 ≤ j) : (s.take j).drop i = c :: (s.drop (i + 1)).take (j - (i + 1)) := by
 rw [List.drop_take, drop_at hc, show j - i = (j - (i + 1)) + 1 by omega, List.take_succ_cons]
/-- The tokens behind k of them begin at i. -/
def LexAt (s : Bys) (k i : Nat) : Prop := i ≤ s.length ∧ k ≤ (lexL s 0).length ∧ (lexL s 0).drop k = lexL (s.drop i) i
theorem LexAt.zero (s : Bys) : LexAt s 0 0 := ⟨Nat.zero_le _, Nat.zero_le _, rfl⟩
theorem LexAt.done {s : Bys} {k : Nat} (h : LexAt s k s.length) : k = (lexL s 0).length := by
 obtain ⟨_, h1, h2⟩ := h
 rw [List.drop_length, lexL_nil] at h2
 have := congrArg List.length h2
 simp at this; omega
theorem LexAt.gap {s : Bys} {k i : Nat} {c : UInt8} (h : LexAt s k i) (hc : s[i]? = some c) {m : Nat} (ho : one c (s.drop (i + 1)) = (0, [], m, 0)) (hm : i + 1 + m ≤ s.length) : LexAt s k (i + 1 + m) := by
 obtain ⟨_, h1, h2⟩ := h
 refine ⟨hm, h1, ?_⟩
 rw [h2, drop_at hc, lexL_cons, ho]
 simp only [bne_self_eq_false, Bool.false_eq_true, if_false, beq_self_eq_true, if_true, List.drop_drop]
 rw [show (i : Int) + 1 + (m : Int) = ((i + 1 + m : Nat) : Int) by omega]
theorem LexAt.tok {s : Bys} {k i : Nat} {c : UInt8} {kd : Int} {tx : Bys} {m : Nat} (h : LexAt s k i) (hc : s[i]? = some c) (ho : one c (s.drop (i + 1)) = (kd, tx, m, 0)) (hk : kd ≠ 0) (hm : i + 1 + m ≤ s.length) : (lexL s 0)[k]? = some ((kd, tx, (i : Int)), 0) ∧ LexAt s (k + 1) (i + 1 + m) := by
 obtain ⟨_, h1, h2⟩ := h
 rw [drop_at hc, lexL_cons, ho] at h2
 simp only [bne_self_eq_false, Bool.false_eq_true, if_false, List.drop_drop] at h2
 rw [if_neg (by simpa using hk)] at h2
 have h3 : (lexL s 0)[k]? = some ((kd, tx, (i : Int)), 0) := by
  have := congrArg (fun l => l[0]?) h2
  simpa [List.getElem?_drop] using this
 refine ⟨h3, hm, (List.getElem?_eq_some_iff.1 h3).1, ?_⟩
 have := congrArg (List.drop 1) h2
 rw [List.drop_drop] at this
 rw [this]
 simp only [List.drop_succ_cons, List.drop_zero]
 rw [show (i : Int) + 1 + (m : Int) = ((i + 1 + m : Nat) : Int) by omega]
theorem LexAt.err {s : Bys} {k i : Nat} {c : UInt8} {kd : Int} {tx : Bys} {m : Nat} {e : Int} (h : LexAt s k i) (hc : s[i]? = some c) (ho : one c (s.drop (i + 1)) = (kd, tx, m, e)) (he : e ≠ 0) : (lexL s 0)[k]? = some ((kd, tx, (i : Int)), e) ∧ k + 1 = (lexL s 0).length := by
 obtain ⟨_, h1, h2⟩ := h
 rw [drop_at hc, lexL_cons, ho] at h2
 simp only at h2
 rw [if_pos (by simpa using he)] at h2
 have h3 : (lexL s 0)[k]? = some ((kd, tx, (i : Int)), e) := by
  have := congrArg (fun l => l[0]?) h2
  simpa [List.getElem?_drop] using this
 refine ⟨h3, ?_⟩
 have := congrArg List.length h2
 rw [List.length_drop] at this
 simp at this
 have := (List.getElem?_eq_some_iff.1 h3).1
 omega
-- ---- the kinds
theorem one_hash {c : UInt8} {l : Bys} (hb : isBlk c = false) (h : (c == 35) = true) : one c l = (0, [], (l.takeWhile (· != 10)).length, 0) := by
 unfold one; simp only [hb, h, Bool.false_eq_true, if_false, if_true]
theorem one_letq {c : UInt8} {l : Bys} (h : isLet c = true) : one c l = (1, c :: l.takeWhile isWrd, (l.takeWhile isWrd).length, if (l.takeWhile isWrd).length + 1 > 24 then 2 else 0) := by
 obtain ⟨h1, h2, _, _⟩ := isLet_cls h
 unfold one; simp only [h1, h2, h, Bool.false_eq_true, if_false, if_true]
def hdW : Bys → Bool
 | d :: _ => isWrd d
 | [] => false
theorem one_digq {c : UInt8} {l : Bys} (h : isDig c = true) : one c l = ((2 : Int), c :: l.takeWhile isDig, (l.takeWhile isDig).length, if ((l.takeWhile isDig).length + 1 > 7 || hdW (l.dropWhile isDig)) = true then (4 : Int) else 0) := by
 obtain ⟨h1, h2, h3, _⟩ := isDig_cls h
 unfold one; simp only [h1, h2, h3, h, Bool.false_eq_true, if_false, if_true]
 cases l.dropWhile isDig <;> rfl
theorem q34_cls {c : UInt8} (h : (c == 34) = true) : isBlk c = false ∧ (c == 35) = false ∧ isLet c = false ∧ isDig c = false := by
 rw [beq_iff_eq] at h; subst h; decide
theorem one_strq {c : UInt8} {l : Bys} (h : (c == 34) = true) : one c l = (match strL l with | some (s, k) => (3, s, k, 0) | none => (0, [], 0, 3)) := by
 obtain ⟨h1, h2, h3, h4⟩ := q34_cls h
 unfold one; simp only [h1, h2, h3, h4, h, Bool.false_eq_true, if_false, if_true]
 cases strL l <;> rfl
theorem one_oth {c : UInt8} {l : Bys} (h1 : isBlk c = false) (h2 : (c == 35) = false) (h3 : isLet c = false) (h4 : isDig c = false) (h5 : (c == 34) = false) (h6 : isSym c = false) : one c l = (0, [], 0, 3) := by
 unfold one; simp only [h1, h2, h3, h4, h5, h6, Bool.false_eq_true, if_false]
theorem dropWhile_take {p : UInt8 → Bool} (l : Bys) : l.dropWhile p = l.drop (l.takeWhile p).length := by
 induction l with
 | nil => rfl
 | cons c l ih =>
  rw [List.dropWhile_cons, List.takeWhile_cons]
  split
  ·simp [ih]
  ·rfl
theorem strL_len : ∀ (n : Nat) (l : Bys), l.length ≤ n → ∀ {s : Bys} {k : Nat}, strL l = some (s, k) → k ≤ l.length := fun n l h s k hs => (strL_app n l [] h hs).2
theorem run_word {p : UInt8 → Bool} {s : Bys} {i j : Nat} {c : UInt8} (hc : s[i]? = some c) (hp : p c = true) (hr : RunTo p s i j) (hs : ∀ c, s[j]? = some c → p c = false) : i + 1 ≤ j ∧ c :: (s.drop (i + 1)).takeWhile p = (s.take j).drop i ∧ ((s.drop (i + 1)).takeWhile p).length = j - (i + 1) := by
 obtain ⟨h1, h2⟩ := hr.stop hs
 rw [drop_at hc, List.takeWhile_cons, if_pos hp] at h1 h2
 have h3 := hr.hi
 have h4 := hr.le
 simp only [List.length_cons] at h2
 refine ⟨by omega, ?_, by omega⟩
 rw [h1, ← drop_at hc, List.drop_take]
theorem let_one {s : Bys} {i j : Nat} {c : UInt8} (hc : s[i]? = some c) (h : isLet c = true) (hr : RunTo isWrd s i j) (hs : wrdAt s j = false) : one c (s.drop (i + 1)) = (1, (s.take j).drop i, j - (i + 1), if (24 : Int) < (j : Int) - (i : Int) then 2 else 0) ∧ i + 1 ≤ j := by
 obtain ⟨h1, h2, h3⟩ := run_word hc (isLet_cls h).2.2.2 hr (fun c hc => by rw [← wrdAt_is hc]; exact hs)
 refine ⟨?_, h1⟩
 rw [one_letq h, h2, h3]
 have : (j - (i + 1) + 1 > 24) ↔ ((24 : Int) < (j : Int) - (i : Int)) := by omega
 simp only [this]
theorem hdW_at {s : Bys} {j : Nat} : hdW (s.drop j) = wrdAt s j := by
 cases hq : s[j]? with
 | none =>
  have hj : s.length ≤ j := List.getElem?_eq_none_iff.1 hq
  rw [List.drop_of_length_le hj, wrdAt_no hj]; rfl
 | some c => rw [drop_at hq, wrdAt_is hq]; rfl
theorem dig_one {s : Bys} {i j : Nat} {c : UInt8} (hc : s[i]? = some c) (h : isDig c = true) (hr : RunTo isDig s i j) (hs : digAt s j = false) : one c (s.drop (i + 1)) = (2, (s.take j).drop i, j - (i + 1), if (decide ((7 : Int) < (j : Int) - (i : Int)) || wrdAt s j) = true then 4 else 0) ∧ i + 1 ≤ j := by
 obtain ⟨h1, h2, h3⟩ := run_word hc h hr (fun c hc => by rw [← digAt_is hc]; exact hs)
 refine ⟨?_, h1⟩
 have hdd : (s.drop (i + 1)).dropWhile isDig = s.drop j := by
  rw [dropWhile_take, h3, List.drop_drop, show i + 1 + (j - (i + 1)) = j by omega]
 rw [one_digq h, h2, h3, hdd, hdW_at]
 have : decide (j - (i + 1) + 1 > 7) = decide ((7 : Int) < (j : Int) - (i : Int)) := by rw [decide_eq_decide]; omega
 rw [this]
theorem hash_one {s : Bys} {i j : Nat} {c : UInt8} (hc : s[i]? = some c) (hb : isBlk c = false) (h : (c == 35) = true) (hr : RunTo (· != 10) s i j) (hs : ∀ c, s[j]? = some c → (c != 10) = false) : one c (s.drop (i + 1)) = (0, [], j - (i + 1), 0) ∧ i + 1 ≤ j := by
 have hp : (c != 10) = true := by rw [beq_iff_eq] at h; subst h; decide
 obtain ⟨h1, h2, h3⟩ := run_word hc hp hr hs
 exact ⟨by rw [one_hash hb h, h3], h1⟩
theorem str_one {s : Bys} {i : Nat} {c : UInt8} (hc : s[i]? = some c) (h : (c == 34) = true) : s.drop i = 34 :: s.drop (i + 1) ∧ ((∃ st m, unqR (s.drop (i + 1)) = (st, ((m + 1 : Nat) : Int)) ∧ one c (s.drop (i + 1)) = (3, st, m, 0) ∧ i + 1 + m ≤ s.length) ∨ (unqR (s.drop (i + 1)) = ([], 0) ∧ one c (s.drop (i + 1)) = (0, [], 0, 3))) := by
 refine ⟨by rw [drop_at hc]; rw [beq_iff_eq] at h; rw [h], ?_⟩
 have hi := (List.getElem?_eq_some_iff.1 hc).1
 rw [one_strq h]
 cases hq : strL (s.drop (i + 1)) with
 | none => exact .inr ⟨unq_no hq, rfl⟩
 | some x =>
  obtain ⟨st, m⟩ := x
  have := strL_len _ _ (Nat.le_refl _) hq
  rw [List.length_drop] at this
  exact .inl ⟨st, m, by rw [unq_is hq]; rfl, rfl, by omega⟩
theorem wrd_35 {s : Bys} {j : Nat} (h : digAt s j = false) : wrdAt s j = (clsAt s j == 3 || clsAt s j == 5) := by
 unfold digAt at h
 unfold wrdAt
 rw [h]; simp
theorem u10 (c : UInt8) : (c != 10) = ((c.toNat : Int) != 10) := by
 have := q10 c
 unfold bne
 rw [this]
section
variable {P : Program} {O : Array Oper} {Q : Exit → Act → World → Prop} {rest : List Oper} {o : Oper} {a : Act} {w : World} {n d m : Nat} {L : List (Nat × Value)} {ds : List Deferred}
theorem envI_skip {g s : Nat} {b : Bool} (E : EnvD ds n L a) (hd : o.dst = some d) (hn : d < n) (hf : (L.map (·.1)).contains d = false) (hgd : o.guard = some (g, b)) (hg : (O[g]?).bind (·.dst) = some s) (hs : s < n) (hv : a.eval (.tmp s) = .bool (!b)) (k : ∀ a', EnvD ds n ((d, undef) :: L) a' → wpListIn Fence.wide m P O Q rest a' w) : wpListIn Fence.wide m P O Q (o :: rest) a w := by
 simp only [wpListIn, w_no E hgd hg hs hv, Bool.false_eq_true, if_false]
 refine ⟨fun _ _ => trivial, ?_⟩
 rw [hd]
 exact k _ (E.put hn hf)
end
end Go.Proofs.YtjaffpnegdcjnaaGreatDoor
