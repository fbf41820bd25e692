/- Both lineages side by side: the program's and the reference's. -/
import Derived.Test.YtcolfgnjmnapkaaRu
import Derived.Test.YtcolfgnjmnapkaaRv
import Derived.Test.YtcolfgnjmnapkaaHead
import Derived.Test.YtcolfgnjmnapkaaJoin
set_option linter.unusedVariables false
set_option linter.unusedSimpArgs false
namespace Go.Proofs.Ytcolfgnjmnapkaa
open Go.RowKit Go.Pl

theorem rfollow_calls {w : World} {r : Nat} {σ : Nat → Prop} {R : RefS} {pv mv : Value} (h : RefAt w r σ R pv mv) (hb1 : R.ms.length ≤ 40000) (hb2 : R.ps.length ≤ 40000) (e : Edt) : Calls Try.prog 15 #[.pointer (some ⟨r, 0, none⟩), .agg e.cells] w (RPost r σ (refN R e) (.int .i64 (refE R e)) w) := by
  unfold refN
  by_cases c1 : e.op < 1
  · exact rfol_lo h hb1 hb2 e c1
  by_cases c2 : 7 < e.op
  · exact rfol_hi h hb1 hb2 e c2
  by_cases c3 : e.op = 1
  · exact rfol_1 h hb1 hb2 e c3
  by_cases c4 : e.op = 5
  · exact rfol_5 h hb1 hb2 e c4
  by_cases c5 : e.op = 6
  · exact rfol_6 h hb1 hb2 e c5
  by_cases c6 : e.op = 7
  · exact rfol_7 h hb1 hb2 e c6
  exact rfol_m h hb1 hb2 e ⟨by omega, by omega⟩

/-- The program's lineage at p, the reference's at r, both made since w0, apart. -/
def Pr (w0 w : World) (p N : Nat) (S : LinS) (r : Nat) (R : RefS) : Prop :=
  ∃ ρ σ pv mv, Mine w0 w p N ρ S ∧ RefAt w r σ R pv mv ∧ (∀ k, σ k → w0.heap.size ≤ k) ∧ ∀ k, σ k → ρ k = none
section
variable {w0 w w' : World} {p N r : Nat} {S : LinS} {R : RefS}
theorem Pr.fr (h : Pr w0 w p N S r R) : Fr (fun _ => False) w0 w := by obtain ⟨ρ, σ, pv, mv, m, _⟩ := h; exact m.fr
theorem Pr.quiet (h : Pr w0 w p N S r R) (hf : Fr (fun _ => False) w w') : Pr w0 w' p N S r R := by
  obtain ⟨ρ, σ, pv, mv, m, h, h1, h2⟩ := h
  exact ⟨ρ, σ, pv, mv, m.quiet hf, h.fr hf (fun _ _ h => h), h1, h2⟩
theorem Pr.new {ρ : Roles} (m : Mine w0 w p N ρ S) {r : Nat} {σ : Nat → Prop} (hf : Fr (fun _ => False) w w') (h : RefA w' r σ R) (hs : ∀ k, σ k → w.heap.size ≤ k) : Pr w0 w' p N S r R := by
  obtain ⟨pv, mv, h⟩ := h
  refine ⟨ρ, σ, pv, mv, m.quiet hf, h, fun k hk => Nat.le_trans m.fr.size (hs k hk), fun k hk => ?_⟩
  cases e : ρ k with
  | none => rfl
  | some x => have h1 := m.lin.lt k (by rw [e]; simp); have h2 := hs k hk; omega
theorem Pr.follow (h : Pr w0 w p N S r R) (e : Edt) (hs : e.Sz) : Calls Try.prog 14 #[.pointer (some ⟨p, 0, none⟩), .agg e.cells] w fun x w' => x = .returned (.int .i64 (followE S e)) ∧ Pr w0 w' p (N + 3) (followS S e) r R := by
  obtain ⟨ρ, σ, pv, mv, m, h, h1, h2⟩ := h
  refine (m.follow e hs).mono ?_
  rintro x w' ⟨hx, ρ', m', f, g⟩
  refine ⟨hx, ρ', σ, pv, mv, m', h.fr f (fun k hk hne => hne (h2 k hk)), h1, fun k hk => ?_⟩
  cases e : ρ' k with
  | none => rfl
  | some x => exact absurd (h2 k hk) (g k (h.lt k hk) (by rw [e]; simp))
theorem Pr.rfollow (h : Pr w0 w p N S r R) (hb1 : R.ms.length ≤ 40000) (hb2 : R.ps.length ≤ 40000) (e : Edt) : Calls Try.prog 15 #[.pointer (some ⟨r, 0, none⟩), .agg e.cells] w fun x w' => x = .returned (.int .i64 (refE R e)) ∧ Pr w0 w' p N S r (refN R e) := by
  obtain ⟨ρ, σ, pv, mv, m, h, h1, h2⟩ := h
  refine (rfollow_calls h hb1 hb2 e).mono ?_
  rintro x w' ⟨hx, σ', ⟨pv', mv', h'⟩, f, g⟩
  refine ⟨hx, ρ, σ', pv', mv', ⟨m.lin.fr f (fun k hk hσ => hk (h2 k hσ)), m.fr.trans' f (fun k hk hσ => by have := h1 k hσ; omega), m.fresh⟩, h', fun k hk => ?_, fun k hk => ?_⟩
  · by_cases hlt : k < w.heap.size
    · exact h1 k (g k hlt hk)
    · have := m.fr.size; omega
  · by_cases hlt : k < w.heap.size
    · exact h2 k (g k hlt hk)
    · cases e : ρ k with
      | none => rfl
      | some x => have := m.lin.lt k (by rw [e]; simp); omega
theorem Pr.now (h : Pr w0 w p N (linR R) r R) (hI : Inv R) (hN : N ≤ 1000000) {a : ByteArray} (ha : a.size ≤ maxLen) : Calls Try.prog 17 #[.pointer (some ⟨p, 0, none⟩), .string a] w fun e w' => ∃ v, e = .returned v ∧ oStr w' 0 v (nowR R a) ∧ Fr (fun _ => False) w w' := by
  obtain ⟨ρ, σ, pv, mv, m, h, h1, h2⟩ := h
  refine (m.now hN ha (now_ok hI a).1 (now_ok hI a).2).mono ?_
  rintro e w' ⟨v, h3, h4, h5, _⟩
  exact ⟨v, h3, by unfold oStr ow; rw [flat_str]; exact h4.own, h5⟩
theorem Pr.then_ (h : Pr w0 w p N (linR R) r R) (hI : Inv R) (hF : Fine (linR R)) (hN : N ≤ 1000000) {a : ByteArray} (ha : a.size ≤ maxLen) : Calls Try.prog 19 #[.pointer (some ⟨p, 0, none⟩), .string a] w fun e w' => ∃ v, e = .returned v ∧ oStr w' 0 v (thenR R a) ∧ Fr (fun _ => False) w w' := by
  obtain ⟨ρ, σ, pv, mv, m, h, h1, h2⟩ := h
  refine (m.then_ hN ha (then_ok hI hF a).1 (then_ok hI hF a).2).mono ?_
  rintro e w' ⟨v, h3, h4, h5, _⟩
  exact ⟨v, h3, by unfold oStr ow; rw [flat_str]; exact h4.own, h5⟩
theorem Pr.gone (h : Pr w0 w p N (linR R) r R) (hI : Inv R) {a : ByteArray} (ha : a.size ≤ maxLen) : Calls Try.prog 21 #[.pointer (some ⟨p, 0, none⟩), .string a] w fun e w' => e = .returned (.bool (((nowR R a).length : Int) == 0)) ∧ Fr (fun _ => False) w w' := by
  obtain ⟨ρ, σ, pv, mv, m, h, h1, h2⟩ := h
  exact m.gone ha (gone_ok hI a)
theorem Pr.rnow (h : Pr w0 w p N S r R) (hb2 : R.ps.length ≤ 100000) (a : ByteArray) : Calls Try.prog 18 #[.pointer (some ⟨r, 0, none⟩), .string a] w fun e w' => ∃ v, e = .returned v ∧ oStr w' 0 v (nowR R a) ∧ Fr (fun _ => False) w w' := by
  obtain ⟨ρ, σ, pv, mv, m, h, h1, h2⟩ := h
  exact (rnow_calls h hb2 a).mono fun e w' ⟨v, h3, h4, h5⟩ => ⟨v, h3, h4.base (Nat.zero_le _), h5⟩
theorem Pr.rthen (h : Pr w0 w p N S r R) (hb2 : R.ps.length ≤ 100000) (a : ByteArray) : Calls Try.prog 20 #[.pointer (some ⟨r, 0, none⟩), .string a] w fun e w' => ∃ v, e = .returned v ∧ oStr w' 0 v (thenR R a) ∧ Fr (fun _ => False) w w' := by
  obtain ⟨ρ, σ, pv, mv, m, h, h1, h2⟩ := h
  exact (rthen_calls h hb2 a).mono fun e w' ⟨v, h3, h4, h5⟩ => ⟨v, h3, h4.base (Nat.zero_le _), h5⟩
theorem Pr.rgone (h : Pr w0 w p N S r R) (hb2 : R.ps.length ≤ 100000) (a : ByteArray) : Calls Try.prog 22 #[.pointer (some ⟨r, 0, none⟩), .string a] w fun e w' => e = .returned (.bool (((nowR R a).length : Int) == 0)) ∧ Fr (fun _ => False) w w' := by
  obtain ⟨ρ, σ, pv, mv, m, h, h1, h2⟩ := h
  exact rgone_calls h hb2 a
end
theorem same_ok {w : World} {v1 v2 : Value} {L : List ByteArray} (h1 : oStr w 0 v1 L) (h2 : oStr w 0 v2 L) : Calls Try.prog 16 #[v1, v2] w fun e w' => e = .returned (.bool true) ∧ Fr (fun _ => False) w w' := by
  have k1 : w.ownsRow 0 9 1 v1 L.length (L.map .string) := by rw [← flat_str]; exact h1
  have k2 : w.ownsRow 0 9 1 v2 L.length (L.map .string) := by rw [← flat_str]; exact h2
  obtain ⟨sa, g, cap, s1⟩ := strs_of k1
  obtain ⟨sa2, g2, cap2, s2⟩ := strs_of k2
  refine (same_calls s1 s2).mono ?_
  rintro e w' ⟨he, hf⟩
  exact ⟨by rw [he, decide_eq_true rfl], hf⟩
section
variable {o : Oper} {w : World} {ρ : Operand → Value} {x y : Operand} {g off k : Nat}
theorem info38 : (Try.prog.info? 38).map (·.size) = some 15 := by kernel_rfl
theorem run_ld38 {e : Edt} (ho : o.op = .load 38 x) (hx : ρ x = .pointer (some ⟨g, off, none⟩)) (h : w.rangeAt g off e.cells.toList) : (execOp ρ o).run Try.prog w = .ok (.value (.agg e.cells)) w := by
  have := run_loadAt_mid (P := Try.prog) w g off 38 e.cells.toList _ h Try.underlying38 rfl info38
  simp only [execOp, ho, hx, Sem.run_bind, this, Result.andThen_ok, Sem.run_pure]
theorem run_index22 {i n cap : Nat} (ho : o.op = .indexAddr 22 x y) (hx : ρ x = .slice (some ⟨g, off, none⟩) n cap) (hy : ρ y = .int .i64 i) (hi : i < n) : (execOp ρ o).run Try.prog w = .ok (.value (.pointer (some ⟨g, off + i * 15, none⟩))) w := by
  have h1 : (i : Int) < n := by omega
  simp [execOp, ho, hx, hy, go_sem, h1]
theorem run_len22 {n cap : Nat} {p : Option Addr} (ho : o.op = .call ⟨.builtin .len, #[x], #[22]⟩) (hx : ρ x = .slice p n cap) : (execOp ρ o).run Try.prog w = .ok (.value (.int .i64 n)) w := by
  simp [execOp, ho, hx, resolve, invoke, go_sem]
theorem fa38_at (hk : k = 1 ∨ k = 2) (ho : o.op = .fieldAddr 38 x k) (hx : ρ x = .pointer (some ⟨g, off, none⟩)) : (execOp ρ o).run Try.prog w = .ok (.value (.pointer (some ⟨g, off + k, none⟩))) w := by
  rcases hk with rfl | rfl <;> simp [execOp, ho, hx, go_sem]
theorem run_three33 {a b c : ByteArray} {z : Operand} (ho : o.op = .buildSlice 33 3 #[(0, x), (1, y), (2, z)]) (hx : ρ x = .string a) (hy : ρ y = .string b) (hz : ρ z = .string c) : (execOp ρ o).run Try.prog w = .ok (.value (.slice (some ⟨w.heap.size, 0, none⟩) 3 3)) (w.alloc (.cells #[.string a, .string b, .string c] 9)) := by
  simp [execOp, ho, hx, hy, hz, go_sem]
theorem run_bneq {b c : Bool} (hx : ρ x = .bool b) (hy : ρ y = .bool c) (ho : o.op = .binOp .neq 4 x y 4) : (execOp ρ o).run Try.prog w = .ok (.value (.bool (b != c))) w := by
  cases b <;> cases c <;> simp [execOp, ho, hx, hy, go_sem]
theorem EdtsAt.rng {b off : Nat} {es : List Edt} (h : EdtsAt w b off es) {i : Nat} {e : Edt} (he : es[i]? = some e) : w.rangeAt b (off + i * 15) e.cells.toList := fun j v hv => h i e he j v (by simpa using hv)
end
end Go.Proofs.Ytcolfgnjmnapkaa
