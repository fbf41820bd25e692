/- Steps at this program's types: spans, tokens, texts, rows. -/
import Derived.Test.YtjaffpnegdcjnaaGreatDoorSWa
import Derived.Test.YtjaffpnegdcjnaaGreatDoorRows
import Derived.Test.YtjaffpnegdcjnaaGreatDoorSPd
import Derived.WalkLawsBesides
import Derived.Shelf.Abstract
set_option linter.unusedVariables false
set_option linter.unusedSimpArgs false
namespace Go.Proofs.YtjaffpnegdcjnaaGreatDoor
open Go.RowKit Go.Pl
/-- A text's bytes. -/
def ofL (l : Bys) : ByteArray := ⟨l.toArray⟩
theorem ofL_inj {a b : Bys} : ofL a = ofL b ↔ a = b := by
  unfold ofL
  constructor
  · intro h
    have := congrArg (fun x : ByteArray => x.data.toList) h
    simpa using this
  · rintro rfl; rfl
theorem ofL_size (a : Bys) : (ofL a).size = a.length := by unfold ofL; simp [ByteArray.size]
theorem ofL_eq (a b : Bys) : (decide (ofL a = ofL b)) = (a == b) := by
  rw [Bool.eq_iff_iff, beq_iff_eq, decide_eq_true_eq, ofL_inj]
/-- Cells. -/
abbrev spA (s : Sp) : Array Value := #[.int .i64 s.1, .int .i64 s.2]
abbrev tkA (t : Tok Int) : Array Value := #[.int .i64 t.1, .string (ofL t.2.1), .int .i64 t.2.2]
def spL (s : Sp) : List Value := [.int .i64 s.1, .int .i64 s.2]
def tkL (t : Tok Int) : List Value := [.int .i64 t.1, .string (ofL t.2.1), .int .i64 t.2.2]
def stL (l : Bys) : List Value := [.string (ofL l)]
def vaL (v : Value) : List Value := [v]
theorem spL_len (s : Sp) : (spL s).length = 2 := rfl
theorem tkL_len (t : Tok Int) : (tkL t).length = 3 := rfl
theorem stL_len (l : Bys) : (stL l).length = 1 := rfl
theorem spL_one (s : Sp) : ∀ u ∈ spL s, u.oneCell' = true := by unfold spL; simp [Value.oneCell']
theorem tkL_one (t : Tok Int) : ∀ u ∈ tkL t, u.oneCell' = true := by unfold tkL; simp [Value.oneCell']
theorem stL_one (l : Bys) : ∀ u ∈ stL l, u.oneCell' = true := by unfold stL; simp [Value.oneCell']
/-- v is a slice that holds L. -/
def Src {α : Type} (f : α → List Value) (c : Nat) (w : World) (v : Value) (L : List α) : Prop := ∃ p cap, v = .slice p L.length cap ∧ L.length ≤ cap ∧ cap ≤ 9223372036854775807 ∧ srcAt f c w w.heap.size p L ∧ (p = none → cap = 0)
abbrev SpV := Src spL 2
abbrev StV := Src stL 1
theorem Src.fr {α : Type} {f : α → List Value} {c : Nat} {w w' : World} {v : Value} {L : List α} (h : Src f c w v L) (k : Fr (fun _ => False) w w') : Src f c w' v L := by
  obtain ⟨p, cap, h1, h2, h3, h4, h5⟩ := h
  exact ⟨p, cap, h1, h2, h3, (h4.fr k fun _ _ h => h).mono k.size, h5⟩
theorem Src.nil {α : Type} {f : α → List Value} {c : Nat} (w : World) : Src f c w (.slice none 0 0) ([] : List α) := ⟨none, 0, rfl, Nat.le_refl _, by omega, .inl rfl, fun _ => rfl⟩
section
variable {o : Oper} {w : World} {ρ : Operand → Value} {x y z : Operand} {g off k n cap i : Nat} {p : Option Addr}
theorem fa48_0 (ho : o.op = .fieldAddr 48 x 0) (hx : ρ x = .pointer (some ⟨g, off, none⟩)) : (execOp ρ o).run Tryz.prog w = .ok (.value (.pointer (some ⟨g, off + 0, none⟩))) w := by simp [execOp, ho, hx, go_sem]
theorem fa48_1 (ho : o.op = .fieldAddr 48 x 1) (hx : ρ x = .pointer (some ⟨g, off, none⟩)) : (execOp ρ o).run Tryz.prog w = .ok (.value (.pointer (some ⟨g, off + 1, none⟩))) w := by simp [execOp, ho, hx, go_sem]
theorem fa38_0 (ho : o.op = .fieldAddr 38 x 0) (hx : ρ x = .pointer (some ⟨g, off, none⟩)) : (execOp ρ o).run Tryz.prog w = .ok (.value (.pointer (some ⟨g, off + 0, none⟩))) w := by simp [execOp, ho, hx, go_sem]
theorem fa38_1 (ho : o.op = .fieldAddr 38 x 1) (hx : ρ x = .pointer (some ⟨g, off, none⟩)) : (execOp ρ o).run Tryz.prog w = .ok (.value (.pointer (some ⟨g, off + 1, none⟩))) w := by simp [execOp, ho, hx, go_sem]
theorem fa38_2 (ho : o.op = .fieldAddr 38 x 2) (hx : ρ x = .pointer (some ⟨g, off, none⟩)) : (execOp ρ o).run Tryz.prog w = .ok (.value (.pointer (some ⟨g, off + 2, none⟩))) w := by simp [execOp, ho, hx, go_sem]
theorem fa54_0 (ho : o.op = .fieldAddr 54 x 0) (hx : ρ x = .pointer (some ⟨g, off, none⟩)) : (execOp ρ o).run Tryz.prog w = .ok (.value (.pointer (some ⟨g, off + 0, none⟩))) w := by simp [execOp, ho, hx, go_sem]
theorem fa54_1 (ho : o.op = .fieldAddr 54 x 1) (hx : ρ x = .pointer (some ⟨g, off, none⟩)) : (execOp ρ o).run Tryz.prog w = .ok (.value (.pointer (some ⟨g, off + 1, none⟩))) w := by simp [execOp, ho, hx, go_sem]
theorem fa57_0 (ho : o.op = .fieldAddr 57 x 0) (hx : ρ x = .pointer (some ⟨g, off, none⟩)) : (execOp ρ o).run Tryz.prog w = .ok (.value (.pointer (some ⟨g, off + 0, none⟩))) w := by simp [execOp, ho, hx, go_sem]
theorem fa57_1 (ho : o.op = .fieldAddr 57 x 1) (hx : ρ x = .pointer (some ⟨g, off, none⟩)) : (execOp ρ o).run Tryz.prog w = .ok (.value (.pointer (some ⟨g, off + 1, none⟩))) w := by simp [execOp, ho, hx, go_sem]
theorem fa59_0 (ho : o.op = .fieldAddr 59 x 0) (hx : ρ x = .pointer (some ⟨g, off, none⟩)) : (execOp ρ o).run Tryz.prog w = .ok (.value (.pointer (some ⟨g, off + 0, none⟩))) w := by simp [execOp, ho, hx, go_sem]
theorem fa59_1 (ho : o.op = .fieldAddr 59 x 1) (hx : ρ x = .pointer (some ⟨g, off, none⟩)) : (execOp ρ o).run Tryz.prog w = .ok (.value (.pointer (some ⟨g, off + 2, none⟩))) w := by simp [execOp, ho, hx, go_sem]
theorem fa81_0 (ho : o.op = .fieldAddr 81 x 0) (hx : ρ x = .pointer (some ⟨g, off, none⟩)) : (execOp ρ o).run Tryz.prog w = .ok (.value (.pointer (some ⟨g, off + 0, none⟩))) w := by simp [execOp, ho, hx, go_sem]
theorem fa81_1 (ho : o.op = .fieldAddr 81 x 1) (hx : ρ x = .pointer (some ⟨g, off, none⟩)) : (execOp ρ o).run Tryz.prog w = .ok (.value (.pointer (some ⟨g, off + 3, none⟩))) w := by simp [execOp, ho, hx, go_sem]
theorem info48 : (Tryz.prog.info? 48).map (·.size) = some 2 := by kernel_rfl
theorem run_ld48 {s : Sp} (ho : o.op = .load 48 x) (hx : ρ x = .pointer (some ⟨g, off, none⟩)) (h : w.rangeAt g off (spL s)) : (execOp ρ o).run Tryz.prog w = .ok (.value (.agg (spA s))) w := by
  have := run_loadAt_mid (P := Tryz.prog) w g off 48 (spA s).toList _ h Tryz.underlying48 rfl info48
  simp only [execOp, ho, hx, Sem.run_bind, this, Result.andThen_ok, Sem.run_pure]
theorem run_box48 {s : Sp} (ho : o.op = .box 48 x) (hx : ρ x = .agg (spA s)) : (execOp ρ o).run Tryz.prog w = .ok (.value (.pointer (some ⟨w.heap.size, 0, none⟩))) (w.alloc (.cells (spA s) 48)) := by
  simp [execOp, ho, hx, go_sem]
theorem info38 : (Tryz.prog.info? 38).map (·.size) = some 3 := by kernel_rfl
theorem run_ld38 {s : Tok Int} (ho : o.op = .load 38 x) (hx : ρ x = .pointer (some ⟨g, off, none⟩)) (h : w.rangeAt g off (tkL s)) : (execOp ρ o).run Tryz.prog w = .ok (.value (.agg (tkA s))) w := by
  have := run_loadAt_mid (P := Tryz.prog) w g off 38 (tkA s).toList _ h Tryz.underlying38 rfl info38
  simp only [execOp, ho, hx, Sem.run_bind, this, Result.andThen_ok, Sem.run_pure]
theorem run_box38 {s : Tok Int} (ho : o.op = .box 38 x) (hx : ρ x = .agg (tkA s)) : (execOp ρ o).run Tryz.prog w = .ok (.value (.pointer (some ⟨w.heap.size, 0, none⟩))) (w.alloc (.cells (tkA s) 38)) := by
  simp [execOp, ho, hx, go_sem]
theorem run_of48 {a b : Int} (ho : o.op = .build 48 #[(0, x), (1, y)]) (hx : ρ x = .int .i64 a) (hy : ρ y = .int .i64 b) : (execOp ρ o).run Tryz.prog w = .ok (.value (.agg (spA (a, b)))) w := by
  simp [execOp, ho, hx, hy, go_sem]
theorem run_of48_0 {a : Int} (ho : o.op = .build 48 #[(0, x)]) (hx : ρ x = .int .i64 a) : (execOp ρ o).run Tryz.prog w = .ok (.value (.agg (spA (a, 0)))) w := by
  simp [execOp, ho, hx, go_sem]
theorem run_of38_2 {c : Int} (ho : o.op = .build 38 #[(2, z)]) (hz : ρ z = .int .i64 c) : (execOp ρ o).run Tryz.prog w = .ok (.value (.agg (tkA (0, [], c)))) w := by
  simp [execOp, ho, hz, go_sem]; rfl
theorem run_of54 {a b : Int} (ho : o.op = .build 54 #[(0, x), (1, y)]) (hx : ρ x = .int .i64 a) (hy : ρ y = .int .i64 b) : (execOp ρ o).run Tryz.prog w = .ok (.value (.agg #[.int .i64 a, .int .i64 b])) w := by
  simp [execOp, ho, hx, hy, go_sem]
theorem run_ldi {n : Int} (ho : o.op = .load 3 x) (hx : ρ x = .pointer (some ⟨g, off, none⟩)) (hc : w.cell? ⟨g, off, none⟩ = some (.int .i64 n)) : (execOp ρ o).run Tryz.prog w = .ok (.value (.int .i64 n)) w := by
  simp [execOp, ho, hx, go_sem, hc]
theorem run_lde {n : Int} (ho : o.op = .load 25 x) (hx : ρ x = .pointer (some ⟨g, off, none⟩)) (hc : w.cell? ⟨g, off, none⟩ = some (.int .i64 n)) : (execOp ρ o).run Tryz.prog w = .ok (.value (.int .i64 n)) w := by
  simp [execOp, ho, hx, go_sem, hc]
theorem run_lds {s : Bys} (ho : o.op = .load 9 x) (hx : ρ x = .pointer (some ⟨g, off, none⟩)) (hc : w.cell? ⟨g, off, none⟩ = some (.string (ofL s))) : (execOp ρ o).run Tryz.prog w = .ok (.value (.string (ofL s))) w := by
  simp [execOp, ho, hx, go_sem, hc]
theorem run_ldb {b : Bool} (ho : o.op = .load 4 x) (hx : ρ x = .pointer (some ⟨g, off, none⟩)) (hc : w.cell? ⟨g, off, none⟩ = some (.bool b)) : (execOp ρ o).run Tryz.prog w = .ok (.value (.bool b)) w := by
  simp [execOp, ho, hx, go_sem, hc]
theorem run_ld22 {v : Value} (ho : o.op = .load 22 x) (hx : ρ x = .pointer (some ⟨g, off, none⟩)) (hc : w.cell? ⟨g, off, none⟩ = some v) : (execOp ρ o).run Tryz.prog w = .ok (.value v) w := by
  simp [execOp, ho, hx, go_sem, hc]
theorem run_ld34 {v : Value} (ho : o.op = .load 34 x) (hx : ρ x = .pointer (some ⟨g, off, none⟩)) (hc : w.cell? ⟨g, off, none⟩ = some v) : (execOp ρ o).run Tryz.prog w = .ok (.value v) w := by
  simp [execOp, ho, hx, go_sem, hc]
theorem run_ld70 {v : Value} (ho : o.op = .load 70 x) (hx : ρ x = .pointer (some ⟨g, off, none⟩)) (hc : w.cell? ⟨g, off, none⟩ = some v) : (execOp ρ o).run Tryz.prog w = .ok (.value v) w := by
  simp [execOp, ho, hx, go_sem, hc]
theorem run_len22 (ho : o.op = .call ⟨.builtin .len, #[x], #[22]⟩) (hx : ρ x = .slice p n cap) : (execOp ρ o).run Tryz.prog w = .ok (.value (.int .i64 n)) w := by
  simp [execOp, ho, hx, resolve, invoke, go_sem]
theorem run_index22 (ho : o.op = .indexAddr 22 x y) (hx : ρ x = .slice (some ⟨g, off, none⟩) n cap) (hy : ρ y = .int .i64 i) (hi : i < n) : (execOp ρ o).run Tryz.prog w = .ok (.value (.pointer (some ⟨g, off + i * 2, none⟩))) w := by
  have h1 : (i : Int) < n := by omega
  simp [execOp, ho, hx, hy, go_sem, h1]
theorem run_len34 (ho : o.op = .call ⟨.builtin .len, #[x], #[34]⟩) (hx : ρ x = .slice p n cap) : (execOp ρ o).run Tryz.prog w = .ok (.value (.int .i64 n)) w := by
  simp [execOp, ho, hx, resolve, invoke, go_sem]
theorem run_index34 (ho : o.op = .indexAddr 34 x y) (hx : ρ x = .slice (some ⟨g, off, none⟩) n cap) (hy : ρ y = .int .i64 i) (hi : i < n) : (execOp ρ o).run Tryz.prog w = .ok (.value (.pointer (some ⟨g, off + i * 3, none⟩))) w := by
  have h1 : (i : Int) < n := by omega
  simp [execOp, ho, hx, hy, go_sem, h1]
theorem run_len52 (ho : o.op = .call ⟨.builtin .len, #[x], #[52]⟩) (hx : ρ x = .slice p n cap) : (execOp ρ o).run Tryz.prog w = .ok (.value (.int .i64 n)) w := by
  simp [execOp, ho, hx, resolve, invoke, go_sem]
theorem run_index52 (ho : o.op = .indexAddr 52 x y) (hx : ρ x = .slice (some ⟨g, off, none⟩) n cap) (hy : ρ y = .int .i64 i) (hi : i < n) : (execOp ρ o).run Tryz.prog w = .ok (.value (.pointer (some ⟨g, off + i, none⟩))) w := by
  have h1 : (i : Int) < n := by omega
  simp [execOp, ho, hx, hy, go_sem, h1]
theorem run_len70 (ho : o.op = .call ⟨.builtin .len, #[x], #[70]⟩) (hx : ρ x = .slice p n cap) : (execOp ρ o).run Tryz.prog w = .ok (.value (.int .i64 n)) w := by
  simp [execOp, ho, hx, resolve, invoke, go_sem]
theorem run_index70 (ho : o.op = .indexAddr 70 x y) (hx : ρ x = .slice (some ⟨g, off, none⟩) n cap) (hy : ρ y = .int .i64 i) (hi : i < n) : (execOp ρ o).run Tryz.prog w = .ok (.value (.pointer (some ⟨g, off + i, none⟩))) w := by
  have h1 : (i : Int) < n := by omega
  simp [execOp, ho, hx, hy, go_sem, h1]
theorem run_slen {s : Bys} (ho : o.op = .call ⟨.builtin .len, #[x], #[9]⟩) (hx : ρ x = .string (ofL s)) : (execOp ρ o).run Tryz.prog w = .ok (.value (.int .i64 s.length)) w := by
  have := ofL_size s
  simp [execOp, ho, hx, resolve, invoke, go_sem, this]
theorem run_byte {s : Bys} {b : UInt8} (ho : o.op = .index 9 x y) (hx : ρ x = .string (ofL s)) (hy : ρ y = .int .i64 i) (hb : s[i]? = some b) : (execOp ρ o).run Tryz.prog w = .ok (.value (.int .u8 b.toNat)) w := by
  have hi : i < s.length := (List.getElem?_eq_some_iff.1 hb).1
  have h1 : (i : Int) < s.length := by omega
  have h2 := ofL_size s
  have h3 : (ofL s)[i]'(by rw [h2]; exact hi) = b := by
    have := (List.getElem?_eq_some_iff.1 hb).2
    unfold ofL; simpa [ByteArray.getElem_eq_getElem_data] using this
  simp [execOp, ho, hx, hy, go_sem, h1, h2, hi, h3]
theorem run_sub {s : Bys} {a b : Nat} (ho : o.op = .slice 9 x (some y) (some z) none) (hx : ρ x = .string (ofL s)) (hy : ρ y = .int .i64 a) (hz : ρ z = .int .i64 b) (hab : a ≤ b) (hb : b ≤ s.length) : (execOp ρ o).run Tryz.prog w = .ok (.value (.string (ofL ((s.take b).drop a)))) w := by
  have h1 : (b : Int) ≤ s.length := by omega
  have h0 : (a : Int) ≤ b := by omega
  have h2 := ofL_size s
  have h3 : (ofL s).extract a b = ofL ((s.take b).drop a) := by
    unfold ofL; apply ByteArray.ext; simp [List.drop_take]
  simp [execOp, ho, hx, hy, hz, go_sem, h0, h1, h2, h3]
theorem run_subl {s : Bys} {a : Nat} (ho : o.op = .slice 9 x (some y) none none) (hx : ρ x = .string (ofL s)) (hy : ρ y = .int .i64 a) (ha : a ≤ s.length) : (execOp ρ o).run Tryz.prog w = .ok (.value (.string (ofL (s.drop a)))) w := by
  have h1 : (a : Int) ≤ s.length := by omega
  have h2 := ofL_size s
  have h3 : (ofL s).extract a s.length = ofL (s.drop a) := by
    unfold ofL; apply ByteArray.ext; simp [List.take_of_length_le]
  have h4 : List.take (s.length - a) (s.drop a) = s.drop a := List.take_of_length_le (by simp)
  simp [execOp, ho, hx, hy, go_sem, h1, h2, h3, h4]
theorem run_seq {s u : Bys} (hx : ρ x = .string (ofL s)) (hy : ρ y = .string (ofL u)) (ho : o.op = .binOp .eql 9 x y 9) : (execOp ρ o).run Tryz.prog w = .ok (.value (.bool (s == u))) w := by
  rw [← ofL_eq]; exact run_seql hx hy ho
theorem run_sadd {s u : Bys} (hx : ρ x = .string (ofL s)) (hy : ρ y = .string (ofL u)) (ho : o.op = .binOp .add 9 x y 9) (hl : s.length + u.length ≤ 9223372036854775807) : (execOp ρ o).run Tryz.prog w = .ok (.value (.string (ofL (s ++ u)))) w := by
  have h3 : ofL s ++ ofL u = ofL (s ++ u) := by
    unfold ofL; apply ByteArray.ext; simp
  have h4 : (ofL s).size + (ofL u).size ≤ 9223372036854775807 := by rw [ofL_size, ofL_size]; exact hl
  simp [execOp, ho, hx, hy, go_sem, h3, h4]
theorem run_speq {s u : Sp} (hx : ρ x = .agg (spA s)) (hy : ρ y = .agg (spA u)) (ho : o.op = .binOp .eql 48 x y 48) : (execOp ρ o).run Tryz.prog w = .ok (.value (.bool (s == u))) w := by
  have e : (s == u) = (s.1 == u.1 && s.2 == u.2) := rfl
  simp [execOp, ho, hx, hy, go_sem, e]
  by_cases h1 : s.1 = u.1 <;> by_cases h2 : s.2 = u.2 <;> simp [h1, h2]
theorem run_spne {s u : Sp} (hx : ρ x = .agg (spA s)) (hy : ρ y = .agg (spA u)) (ho : o.op = .binOp .neq 48 x y 48) : (execOp ρ o).run Tryz.prog w = .ok (.value (.bool (!(s == u)))) w := by
  have e : (s == u) = (s.1 == u.1 && s.2 == u.2) := rfl
  simp [execOp, ho, hx, hy, go_sem, e]
  by_cases h1 : s.1 = u.1 <;> by_cases h2 : s.2 = u.2 <;> simp [h1, h2]
theorem run_irem {m n : Int} (hx : ρ x = .int .i64 m) (hy : ρ y = .int .i64 n) (hm : 0 ≤ m) (hm2 : m ≤ 9223372036854775807) (hn : 0 < n) (hn2 : n ≤ 9223372036854775807) (ho : o.op = .binOp .rem 3 x y 3) : (execOp ρ o).run Tryz.prog w = .ok (.value (.int .i64 (m % n))) w := by
  have h1 := Int.emod_nonneg m (show n ≠ 0 by omega)
  have h2 := Int.emod_lt_of_pos m hn
  have h3 : ¬ n = 0 := by omega
  have h4 := IntWalk.i64_in (m % n) ⟨by omega, by omega⟩
  have h5 : m.tmod n = m % n := Int.tmod_eq_emod_of_nonneg hm
  simp [execOp, ho, hx, hy, go_sem, h3, h5, h4]
theorem run_iquo {m n : Int} (hx : ρ x = .int .i64 m) (hy : ρ y = .int .i64 n) (hm : 0 ≤ m) (hm2 : m ≤ 9223372036854775807) (hn : 0 < n) (hn2 : n ≤ 9223372036854775807) (ho : o.op = .binOp .quo 3 x y 3) : (execOp ρ o).run Tryz.prog w = .ok (.value (.int .i64 (m / n))) w := by
  have h1 := Int.ediv_nonneg hm (show 0 ≤ n by omega)
  have h2 := Int.ediv_le_self n hm
  have h3 : ¬ n = 0 := by omega
  have h4 := IntWalk.i64_in (m / n) ⟨by omega, by omega⟩
  have h5 : m.tdiv n = m / n := Int.tdiv_eq_ediv_of_nonneg hm
  simp [execOp, ho, hx, hy, go_sem, h3, h5, h4]
theorem run_min {m n : Int} (ho : o.op = .call ⟨.builtin .min, #[x, y], #[3, 3]⟩) (hx : ρ x = .int .i64 m) (hy : ρ y = .int .i64 n) : (execOp ρ o).run Tryz.prog w = .ok (.value (.int .i64 (min m n))) w := by
  simp [execOp, ho, hx, hy, resolve, invoke, go_sem]
  try omega
theorem run_max {m n : Int} (ho : o.op = .call ⟨.builtin .max, #[x, y], #[3, 3]⟩) (hx : ρ x = .int .i64 m) (hy : ρ y = .int .i64 n) : (execOp ρ o).run Tryz.prog w = .ok (.value (.int .i64 (max m n))) w := by
  simp [execOp, ho, hx, hy, resolve, invoke, go_sem]
  try omega
end
section
variable {w : World} {b k : Nat} {cs : Array Value} {T : TypeId}
theorem rng2 (h : w.heap[b]? = some (.cells cs T (0, 0))) (k : Nat) {p : Sp} (h0 : cs[k]? = some (.int .i64 p.1)) (h1 : cs[k + 1]? = some (.int .i64 p.2)) : w.rangeAt b k (spL p) := by
  intro j v hv
  rw [cell_of_blk h]
  match j, hv with
  | 0, hv => rw [← Option.some.inj hv]; exact h0
  | 1, hv => rw [← Option.some.inj hv]; exact h1
  | j + 2, hv => simp [spL] at hv
theorem rng3 (h : w.heap[b]? = some (.cells cs T (0, 0))) (k : Nat) {p : Tok Int} (h0 : cs[k]? = some (.int .i64 p.1)) (h1 : cs[k + 1]? = some (.string (ofL p.2.1))) (h2 : cs[k + 2]? = some (.int .i64 p.2.2)) : w.rangeAt b k (tkL p) := by
  intro j v hv
  rw [cell_of_blk h]
  match j, hv with
  | 0, hv => rw [← Option.some.inj hv]; exact h0
  | 1, hv => rw [← Option.some.inj hv]; exact h1
  | 2, hv => rw [← Option.some.inj hv]; exact h2
  | j + 3, hv => simp [tkL] at hv
end
section
variable {P : Program} {O : Array Oper} {Q : Exit → Act → World → Prop} {rest : List Oper} {o : Oper} {a : Act} {w : World} {n d : Nat} {L : List (Nat × Value)} {x y : Operand} {b : Nat} {ds : List Deferred}
/-- A step that makes a block. -/
theorem env_new {T : TypeId} {cs : Array Value} (E : EnvD ds n L a) (hd : o.dst = some d) (hn : d < n) (hf : (L.map (·.1)).contains d = false) (hw : Region.wanted o (yielded O a.tmps) = true) (hr : (execOp a.eval o).run P w = .ok (.value (.pointer (some ⟨w.heap.size, 0, none⟩))) (w.alloc (.cells cs T)))
    (k : ∀ a' w' b, w.heap.size = b → w'.heap[b]? = some (.cells cs T (0, 0)) → Fr (fun _ => False) w w' → EnvD ds n ((d, .pointer (some ⟨b, 0, none⟩)) :: L) a' → wpList P O Q rest a' w') : wpList P O Q (o :: rest) a w :=
  env_put E hd hn hf hw hr fun a' E' => k a' _ _ rfl (blk_alloc_new _ _) ((Fr.refl _ _).alloc _) E'
/-- A store of one cell into a block that is known whole. -/
theorem env_st1 {T : TypeId} {cs : Array Value} {j : Nat} {v : Value} (E : EnvD ds n L a) (hd : o.dst = none) (hw : Region.wanted o (yielded O a.tmps) = true) (hb : w.heap[b]? = some (.cells cs T (0, 0))) (hr : (execOp a.eval o).run P w = .ok .skip (w.setCell ⟨b, j, none⟩ v))
    (k : ∀ w', w'.heap[b]? = some (.cells (cs.setIfInBounds j v) T (0, 0)) → Fr (fun r => r = b) w w' → EnvD ds n L a → wpList P O Q rest a w') : wpList P O Q (o :: rest) a w :=
  env_store E hd hw hr (k _ (blk_setCell_same hb v) ((Fr.refl (fun r => r = b) _).setCell (p := ⟨b, j, none⟩) (fun _ => rfl) v))
end
section
variable {o : Oper} {w : World} {ρ : Operand → Value} {x y z : Operand} {b off : Nat} {u : Value}
theorem run_st3 {m : Int} (ho : o.op = .store 3 x y) (hx : ρ x = .pointer (some ⟨b, off, none⟩)) (hy : ρ y = .int .i64 m) (hc : w.cell? ⟨b, off, none⟩ = some u) (hz : w.frozen? ⟨b, off, none⟩ = false) : (execOp ρ o).run Tryz.prog w = .ok .skip (w.setCell ⟨b, off, none⟩ (.int .i64 m)) := by
  simp [execOp, ho, hx, hy, go_sem, hc, hz]
theorem run_st25 {m : Int} (ho : o.op = .store 25 x y) (hx : ρ x = .pointer (some ⟨b, off, none⟩)) (hy : ρ y = .int .i64 m) (hc : w.cell? ⟨b, off, none⟩ = some u) (hz : w.frozen? ⟨b, off, none⟩ = false) : (execOp ρ o).run Tryz.prog w = .ok .skip (w.setCell ⟨b, off, none⟩ (.int .i64 m)) := by
  simp [execOp, ho, hx, hy, go_sem, hc, hz]
theorem run_st9 {s : ByteArray} (ho : o.op = .store 9 x y) (hx : ρ x = .pointer (some ⟨b, off, none⟩)) (hy : ρ y = .string s) (hc : w.cell? ⟨b, off, none⟩ = some u) (hz : w.frozen? ⟨b, off, none⟩ = false) : (execOp ρ o).run Tryz.prog w = .ok .skip (w.setCell ⟨b, off, none⟩ (.string s)) := by
  simp [execOp, ho, hx, hy, go_sem, hc, hz]
theorem run_st4 {t : Bool} (ho : o.op = .store 4 x y) (hx : ρ x = .pointer (some ⟨b, off, none⟩)) (hy : ρ y = .bool t) (hc : w.cell? ⟨b, off, none⟩ = some u) (hz : w.frozen? ⟨b, off, none⟩ = false) : (execOp ρ o).run Tryz.prog w = .ok .skip (w.setCell ⟨b, off, none⟩ (.bool t)) := by
  simp [execOp, ho, hx, hy, go_sem, hc, hz]
theorem run_st22 {p : Option Addr} {n c : Nat} (ho : o.op = .store 22 x y) (hx : ρ x = .pointer (some ⟨b, off, none⟩)) (hy : ρ y = .slice p n c) (hc : w.cell? ⟨b, off, none⟩ = some u) (hz : w.frozen? ⟨b, off, none⟩ = false) : (execOp ρ o).run Tryz.prog w = .ok .skip (w.setCell ⟨b, off, none⟩ (.slice p n c)) := by
  simp [execOp, ho, hx, hy, go_sem, hc, hz]
theorem run_st34 {p : Option Addr} {n c : Nat} (ho : o.op = .store 34 x y) (hx : ρ x = .pointer (some ⟨b, off, none⟩)) (hy : ρ y = .slice p n c) (hc : w.cell? ⟨b, off, none⟩ = some u) (hz : w.frozen? ⟨b, off, none⟩ = false) : (execOp ρ o).run Tryz.prog w = .ok .skip (w.setCell ⟨b, off, none⟩ (.slice p n c)) := by
  simp [execOp, ho, hx, hy, go_sem, hc, hz]
theorem run_st70 {p : Option Addr} {n c : Nat} (ho : o.op = .store 70 x y) (hx : ρ x = .pointer (some ⟨b, off, none⟩)) (hy : ρ y = .slice p n c) (hc : w.cell? ⟨b, off, none⟩ = some u) (hz : w.frozen? ⟨b, off, none⟩ = false) : (execOp ρ o).run Tryz.prog w = .ok .skip (w.setCell ⟨b, off, none⟩ (.slice p n c)) := by
  simp [execOp, ho, hx, hy, go_sem, hc, hz]
theorem run_alloc48 (ho : o.op = .alloc 48) : (execOp ρ o).run Tryz.prog w = .ok (.value (.pointer (some ⟨w.heap.size, 0, none⟩))) (w.alloc (.cells (spA (0, 0)) 48)) := by
  simp [execOp, ho, go_sem]
theorem run_alloc38 (ho : o.op = .alloc 38) : (execOp ρ o).run Tryz.prog w = .ok (.value (.pointer (some ⟨w.heap.size, 0, none⟩))) (w.alloc (.cells (tkA (0, [], 0)) 38)) := by
  simp [execOp, ho, go_sem]; rfl
theorem run_alloc22 (ho : o.op = .alloc 22) : (execOp ρ o).run Tryz.prog w = .ok (.value (.pointer (some ⟨w.heap.size, 0, none⟩))) (w.alloc (.cells (#[.slice none 0 0]) 22)) := by
  simp [execOp, ho, go_sem]
theorem run_alloc34 (ho : o.op = .alloc 34) : (execOp ρ o).run Tryz.prog w = .ok (.value (.pointer (some ⟨w.heap.size, 0, none⟩))) (w.alloc (.cells (#[.slice none 0 0]) 34)) := by
  simp [execOp, ho, go_sem]
theorem run_alloc70 (ho : o.op = .alloc 70) : (execOp ρ o).run Tryz.prog w = .ok (.value (.pointer (some ⟨w.heap.size, 0, none⟩))) (w.alloc (.cells (#[.slice none 0 0]) 70)) := by
  simp [execOp, ho, go_sem]
theorem run_alloc25 (ho : o.op = .alloc 25) : (execOp ρ o).run Tryz.prog w = .ok (.value (.pointer (some ⟨w.heap.size, 0, none⟩))) (w.alloc (.cells (#[.int .i64 0]) 25)) := by
  simp [execOp, ho, go_sem]
theorem run_alloc3 (ho : o.op = .alloc 3) : (execOp ρ o).run Tryz.prog w = .ok (.value (.pointer (some ⟨w.heap.size, 0, none⟩))) (w.alloc (.cells (#[.int .i64 0]) 3)) := by
  simp [execOp, ho, go_sem]
theorem run_alloc54 (ho : o.op = .alloc 54) : (execOp ρ o).run Tryz.prog w = .ok (.value (.pointer (some ⟨w.heap.size, 0, none⟩))) (w.alloc (.cells (#[.int .i64 0, .int .i64 0]) 54)) := by
  simp [execOp, ho, go_sem]
theorem run_alloc81 (ho : o.op = .alloc 81) : (execOp ρ o).run Tryz.prog w = .ok (.value (.pointer (some ⟨w.heap.size, 0, none⟩))) (w.alloc (.cells (#[.int .i64 0, .string (ofL []), .int .i64 0, .int .i64 0]) 81)) := by
  simp [execOp, ho, go_sem]; rfl
end
section
variable {O : Array Oper} {Q : Exit → Act → World → Prop} {rest : List Oper} {o : Oper} {a : Act} {w : World} {n d : Nat} {L : List (Nat × Value)} {x y : Operand} {b : Nat} {ds : List Deferred}
theorem run_st48 {ρ : Operand → Value} {s t : Sp} {T : TypeId} (ho : o.op = .store 48 x y) (hx : ρ x = .pointer (some ⟨b, 0, none⟩)) (hy : ρ y = .agg (spA t)) (h : w.heap[b]? = some (.cells (spA s) T (0, 0))) :
    (execOp ρ o).run Tryz.prog w = .ok .skip ((w.setCell ⟨b, 0, none⟩ (.int .i64 t.1)).setCell ⟨b, 1, none⟩ (.int .i64 t.2)) := by
  have h1 := blk_setCell_same h (off := 0) (.int .i64 t.1)
  have c0 : w.cell? ⟨b, 0, none⟩ = some (.int .i64 s.1) := cell_of_blk h 0
  have c1 : (w.setCell ⟨b, 0, none⟩ (.int .i64 t.1)).cell? ⟨b, 1, none⟩ = some (.int .i64 s.2) := cell_of_blk h1 1
  have f0 := free_of_blk h 0; have f1 := free_of_blk h1 1
  simp [execOp, ho, hx, hy, go_sem, storeCells, c0, c1, f0, f1]
theorem run_st38 {ρ : Operand → Value} {s t : Tok Int} {T : TypeId} (ho : o.op = .store 38 x y) (hx : ρ x = .pointer (some ⟨b, 0, none⟩)) (hy : ρ y = .agg (tkA t)) (h : w.heap[b]? = some (.cells (tkA s) T (0, 0))) :
    (execOp ρ o).run Tryz.prog w = .ok .skip (((w.setCell ⟨b, 0, none⟩ (.int .i64 t.1)).setCell ⟨b, 1, none⟩ (.string (ofL t.2.1))).setCell ⟨b, 2, none⟩ (.int .i64 t.2.2)) := by
  have h1 := blk_setCell_same h (off := 0) (.int .i64 t.1)
  have h2 := blk_setCell_same h1 (off := 1) (.string (ofL t.2.1))
  have c0 : w.cell? ⟨b, 0, none⟩ = some (.int .i64 s.1) := cell_of_blk h 0
  have c1 : (w.setCell ⟨b, 0, none⟩ (.int .i64 t.1)).cell? ⟨b, 1, none⟩ = some (.string (ofL s.2.1)) := cell_of_blk h1 1
  have c2 : ((w.setCell ⟨b, 0, none⟩ (.int .i64 t.1)).setCell ⟨b, 1, none⟩ (.string (ofL t.2.1))).cell? ⟨b, 2, none⟩ = some (.int .i64 s.2.2) := cell_of_blk h2 2
  have f0 := free_of_blk h 0; have f1 := free_of_blk h1 1; have f2 := free_of_blk h2 2
  simp [execOp, ho, hx, hy, go_sem, storeCells, c0, c1, c2, f0, f1, f2]
theorem env_st48 {s t : Sp} {T : TypeId} (E : EnvD ds n L a) (hd : o.dst = none) (hw : Region.wanted o (yielded O a.tmps) = true) (ho : o.op = .store 48 x y) (hx : a.eval x = .pointer (some ⟨b, 0, none⟩)) (hy : a.eval y = .agg (spA t)) (h : w.heap[b]? = some (.cells (spA s) T (0, 0)))
    (k : ∀ w', w'.heap[b]? = some (.cells (spA t) T (0, 0)) → Fr (fun r => r = b) w w' → EnvD ds n L a → wpList Tryz.prog O Q rest a w') : wpList Tryz.prog O Q (o :: rest) a w :=
  env_store E hd hw (run_st48 ho hx hy h) (k _ (blk_setCell_same (blk_setCell_same h _) _) (((Fr.refl (fun r => r = b) _).setCell (p := ⟨b, 0, none⟩) (fun _ => rfl) _).setCell (p := ⟨b, 1, none⟩) (fun _ => rfl) _))
theorem env_st38 {s t : Tok Int} {T : TypeId} (E : EnvD ds n L a) (hd : o.dst = none) (hw : Region.wanted o (yielded O a.tmps) = true) (ho : o.op = .store 38 x y) (hx : a.eval x = .pointer (some ⟨b, 0, none⟩)) (hy : a.eval y = .agg (tkA t)) (h : w.heap[b]? = some (.cells (tkA s) T (0, 0)))
    (k : ∀ w', w'.heap[b]? = some (.cells (tkA t) T (0, 0)) → Fr (fun r => r = b) w w' → EnvD ds n L a → wpList Tryz.prog O Q rest a w') : wpList Tryz.prog O Q (o :: rest) a w :=
  env_store E hd hw (run_st38 ho hx hy h) (k _ (blk_setCell_same (blk_setCell_same (blk_setCell_same h _) _) _) ((((Fr.refl (fun r => r = b) _).setCell (p := ⟨b, 0, none⟩) (fun _ => rfl) _).setCell (p := ⟨b, 1, none⟩) (fun _ => rfl) _).setCell (p := ⟨b, 2, none⟩) (fun _ => rfl) _))
end
end Go.Proofs.YtjaffpnegdcjnaaGreatDoor
