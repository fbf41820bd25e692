/- Rows of one's own at this program's types: steps of plain and drawn regions. -/
import Derived.Test.YtcafnanbdmapgaaI4
set_option linter.unusedVariables false
set_option linter.unusedSimpArgs false
namespace Go.Proofs.Ytcafnanbdmapgaa
open Go.RowKit Go.Pl
theorem ow_one42 {w : World} {b B : Nat} {s : ByteArray} (hb : w.heap[b]? = some (.cells #[.string s] 9 (0, 0))) (hB : B ≤ b) : oStr w B (.slice (some ⟨b, 0, none⟩) 1 1) [s] :=
  ⟨rfl, .inr ⟨b, 1, _, rfl, hB, hb, Nat.le_refl _, by unfold maxLen; omega, rfl, rfl⟩⟩
theorem ow_one62 {w : World} {b B : Nat} {s : Bx} (hb : w.heap[b]? = some (.cells (bxC s) 26 (0, 0))) (hB : B ≤ b) : oBx w B (.slice (some ⟨b, 0, none⟩) 1 1) [s] :=
  ⟨rfl, .inr ⟨b, 1, _, rfl, hB, hb, Nat.le_refl _, by unfold maxLen; omega, rfl, rfl⟩⟩
section
variable {O : Array Oper} {Q : Exit → Act → World → Prop} {rest : List Oper} {o : Oper} {a : Act} {w : World} {n d : Nat} {L : List (Nat × Value)} {x y : Operand}
theorem env_app42 {B G : Nat} {v : Value} {A S : List ByteArray} {p : Option Addr} {cap : Nat} (En : Env n L a) (hd : o.dst = some d) (hn : d < n) (hfr : (L.map (·.1)).contains d = false) (hg : o.guard = none) (ho : o.op = .call { callee := .builtin .append, args := #[x, y], argTypes := #[42, 42] }) (hx : a.eval x = v) (hv : oStr w B v A) (hy : a.eval y = .slice p S.length cap) (hsrc : srcAt strC 1 w G p S) (hcp : p = none → cap = 0) (hl : A.length + S.length ≤ 400000000) (hB : B ≤ w.heap.size)
    (k : ∀ a' w' v', oStr w' B v' (A ++ S) → Fr (fun k => v.ownBlock = some k) w w' → (v'.ownBlock = v.ownBlock ∨ v'.ownBlock = some w.heap.size) → Env n ((d, v') :: L) a' → wpList Try.prog O Q rest a' w') : wpList Try.prog O Q (o :: rest) a w := by
  obtain ⟨i0, hi0, hz0, hz1, hz2⟩ := info_parts info9
  exact env_appR strC_len (by omega) (fun s u hu => by simp at hu; subst hu; rfl) Try.underlying42 hi0 hz0 hz1 hz2 rfl (by decide) En hd hn hfr hg ho hx hv hy hsrc hcp hl hB k
theorem env_emp42 {B : Nat} (En : Env n L a) (hd : o.dst = some d) (hn : d < n) (hf : (L.map (·.1)).contains d = false) (hw : Region.wanted o (yielded O a.tmps) = true) (ho : o.op = .buildSlice 42 0 #[]) (hB : B ≤ w.heap.size)
    (k : ∀ a' w' b, w.heap.size = b → oStr w' B (.slice (some ⟨b, 0, none⟩) 0 0) [] → Fr (fun _ => False) w w' → Env n ((d, .slice (some ⟨b, 0, none⟩) 0 0) :: L) a' → wpList Try.prog O Q rest a' w') : wpList Try.prog O Q (o :: rest) a w :=
  env_put En hd hn hf hw (run_emp42 ho) fun a' E' => k a' _ _ rfl (ow_empty w hB) ((Fr.refl _ _).alloc _) E'
theorem env_one42 {s : ByteArray} {B : Nat} (En : Env n L a) (hd : o.dst = some d) (hn : d < n) (hf : (L.map (·.1)).contains d = false) (hw : Region.wanted o (yielded O a.tmps) = true) (ho : o.op = .buildSlice 42 1 #[(0, x)]) (hx : a.eval x = .string s) (hB : B ≤ w.heap.size)
    (k : ∀ a' w' b, w.heap.size = b → oStr w' B (.slice (some ⟨b, 0, none⟩) 1 1) [s] → Fr (fun _ => False) w w' → Env n ((d, .slice (some ⟨b, 0, none⟩) 1 1) :: L) a' → wpList Try.prog O Q rest a' w') : wpList Try.prog O Q (o :: rest) a w :=
  env_put En hd hn hf hw (run_one42 ho hx) fun a' E' => k a' _ _ rfl (ow_one42 (blk_alloc_new _ _) hB) ((Fr.refl _ _).alloc _) E'
theorem run_sto42 {ρ : Operand → Value} {S : List ByteArray} {p : Option Addr} {cap i : Nat} (ho : o.op = .slice 42 x none (some y) none) (hx : ρ x = .slice p S.length cap) (hy : ρ y = .int .i64 i) (hle : S.length ≤ cap) (hi : i ≤ S.length) : (execOp ρ o).run Try.prog w = .ok (.value (.slice p (S.take i).length cap)) w := by
  have h1 : (i : Int) ≤ cap := by omega
  rw [List.length_take, Nat.min_eq_left hi]
  have h0 : (0 : Int) ≤ i := by omega
  rcases p with _ | ad
  · simp [execOp, ho, hx, hy, go_sem, h1, h0]
  · by_cases h3 : cap = 0
    · have h4 : i = 0 := by omega
      simp [execOp, ho, hx, hy, go_sem, h1, h0, h3, h4]
    · simp [execOp, ho, hx, hy, go_sem, h1, h0, h3]
theorem src_drop42 {G : Nat} {p : Option Addr} {S : List ByteArray} {cap i : Nat} (hs : srcAt strC 1 w G p S) (hz : p = none → cap = 0) (hle : S.length ≤ cap) (hi : i ≤ S.length) :
    ∃ p' c', (∀ (o : Oper) (ρ : Operand → Value) (x y : Operand) (w2 : World), o.op = .slice 42 x (some y) none none → ρ x = .slice p S.length cap → ρ y = .int .i64 i → (execOp ρ o).run Try.prog w2 = .ok (.value (.slice p' (S.drop i).length c')) w2) ∧ srcAt strC 1 w G p' (S.drop i) ∧ (p' = none → c' = 0) := by
  have h1 : (i : Int) ≤ S.length := by omega
  have h2 : (S.length : Int) ≤ cap := by omega
  rcases p with _ | ad
  · obtain rfl := hz rfl
    have hL : S = [] := List.eq_nil_of_length_eq_zero (by omega)
    subst hL
    obtain rfl : i = 0 := by simpa using hi
    exact ⟨none, 0, fun o ρ x y w2 ho hx hy => by simp [execOp, ho, hx, hy, go_sem], .inl rfl, fun _ => rfl⟩
  · have hrun : ∃ ad', (∀ (o : Oper) (ρ : Operand → Value) (x y : Operand) (w2 : World), o.op = .slice 42 x (some y) none none → ρ x = .slice (some ad) S.length cap → ρ y = .int .i64 i → (execOp ρ o).run Try.prog w2 = .ok (.value (.slice (some ad') (S.length - i) (cap - i))) w2) ∧ (i < S.length → ad' = ad.add (i * 1)) := by
      by_cases h3 : cap = i
      · refine ⟨ad, fun o ρ x y w2 ho hx hy => ?_, fun h => by omega⟩
        simp [execOp, ho, hx, hy, go_sem, h1, h2, h3]
      · refine ⟨ad.add (i * 1), fun o ρ x y w2 ho hx hy => ?_, fun _ => rfl⟩
        simp [execOp, ho, hx, hy, go_sem, h1, h2, h3]
    obtain ⟨ad', hr, ha⟩ := hrun
    refine ⟨some ad', cap - i, fun o ρ x y w2 ho hx hy => by rw [hr o ρ x y w2 ho hx hy, List.length_drop], ?_, fun h => by cases h⟩
    by_cases hlt : i < S.length
    · rcases hs with h | ⟨g, off, h3, h4, h5⟩
      · subst h; simp at hlt
      · obtain rfl := Option.some.inj h3
        refine .inr ⟨g, off + i * 1, by rw [ha hlt, Addr.add_mid], h4, fun k z hk => ?_⟩
        rw [List.getElem?_drop] at hk
        have := h5 _ z hk
        rw [show off + i * 1 + k * 1 = off + (i + k) * 1 by rw [Nat.add_mul]; omega]; exact this
    · exact .inl (List.drop_eq_nil_of_le (by omega))
theorem env_app62 {B G : Nat} {v : Value} {A S : List Bx} {p : Option Addr} {cap : Nat} (En : Env n L a) (hd : o.dst = some d) (hn : d < n) (hfr : (L.map (·.1)).contains d = false) (hg : o.guard = none) (ho : o.op = .call { callee := .builtin .append, args := #[x, y], argTypes := #[62, 62] }) (hx : a.eval x = v) (hv : oBx w B v A) (hy : a.eval y = .slice p S.length cap) (hsrc : srcAt bxL 4 w G p S) (hcp : p = none → cap = 0) (hl : A.length + S.length ≤ 400000000) (hB : B ≤ w.heap.size)
    (k : ∀ a' w' v', oBx w' B v' (A ++ S) → Fr (fun k => v.ownBlock = some k) w w' → (v'.ownBlock = v.ownBlock ∨ v'.ownBlock = some w.heap.size) → Env n ((d, v') :: L) a' → wpList Try.prog O Q rest a' w') : wpList Try.prog O Q (o :: rest) a w := by
  obtain ⟨i0, hi0, hz0, hz1, hz2⟩ := info_parts info26z
  exact env_appR bxL_len (by omega) (fun s u hu => by simp at hu; rcases hu with rfl | rfl | rfl | rfl <;> rfl) Try.underlying62 hi0 hz0 hz1 hz2 rfl (by decide) En hd hn hfr hg ho hx hv hy hsrc hcp hl hB k
theorem env_emp62 {B : Nat} (En : Env n L a) (hd : o.dst = some d) (hn : d < n) (hf : (L.map (·.1)).contains d = false) (hw : Region.wanted o (yielded O a.tmps) = true) (ho : o.op = .buildSlice 62 0 #[]) (hB : B ≤ w.heap.size)
    (k : ∀ a' w' b, w.heap.size = b → oBx w' B (.slice (some ⟨b, 0, none⟩) 0 0) [] → Fr (fun _ => False) w w' → Env n ((d, .slice (some ⟨b, 0, none⟩) 0 0) :: L) a' → wpList Try.prog O Q rest a' w') : wpList Try.prog O Q (o :: rest) a w :=
  env_put En hd hn hf hw (run_emp62 ho) fun a' E' => k a' _ _ rfl (ow_empty w hB) ((Fr.refl _ _).alloc _) E'
theorem env_one62 {s : Bx} {B : Nat} (En : Env n L a) (hd : o.dst = some d) (hn : d < n) (hf : (L.map (·.1)).contains d = false) (hw : Region.wanted o (yielded O a.tmps) = true) (ho : o.op = .buildSlice 62 1 #[(0, x)]) (hx : a.eval x = .agg (bxC s)) (hB : B ≤ w.heap.size)
    (k : ∀ a' w' b, w.heap.size = b → oBx w' B (.slice (some ⟨b, 0, none⟩) 1 1) [s] → Fr (fun _ => False) w w' → Env n ((d, .slice (some ⟨b, 0, none⟩) 1 1) :: L) a' → wpList Try.prog O Q rest a' w') : wpList Try.prog O Q (o :: rest) a w :=
  env_put En hd hn hf hw (run_one62 ho hx) fun a' E' => k a' _ _ rfl (ow_one62 (blk_alloc_new _ _) hB) ((Fr.refl _ _).alloc _) E'
theorem run_sto62 {ρ : Operand → Value} {S : List Bx} {p : Option Addr} {cap i : Nat} (ho : o.op = .slice 62 x none (some y) none) (hx : ρ x = .slice p S.length cap) (hy : ρ y = .int .i64 i) (hle : S.length ≤ cap) (hi : i ≤ S.length) : (execOp ρ o).run Try.prog w = .ok (.value (.slice p (S.take i).length cap)) w := by
  have h1 : (i : Int) ≤ cap := by omega
  rw [List.length_take, Nat.min_eq_left hi]
  have h0 : (0 : Int) ≤ i := by omega
  rcases p with _ | ad
  · simp [execOp, ho, hx, hy, go_sem, h1, h0]
  · by_cases h3 : cap = 0
    · have h4 : i = 0 := by omega
      simp [execOp, ho, hx, hy, go_sem, h1, h0, h3, h4]
    · simp [execOp, ho, hx, hy, go_sem, h1, h0, h3]
theorem src_drop62 {G : Nat} {p : Option Addr} {S : List Bx} {cap i : Nat} (hs : srcAt bxL 4 w G p S) (hz : p = none → cap = 0) (hle : S.length ≤ cap) (hi : i ≤ S.length) :
    ∃ p' c', (∀ (o : Oper) (ρ : Operand → Value) (x y : Operand) (w2 : World), o.op = .slice 62 x (some y) none none → ρ x = .slice p S.length cap → ρ y = .int .i64 i → (execOp ρ o).run Try.prog w2 = .ok (.value (.slice p' (S.drop i).length c')) w2) ∧ srcAt bxL 4 w G p' (S.drop i) ∧ (p' = none → c' = 0) := by
  have h1 : (i : Int) ≤ S.length := by omega
  have h2 : (S.length : Int) ≤ cap := by omega
  rcases p with _ | ad
  · obtain rfl := hz rfl
    have hL : S = [] := List.eq_nil_of_length_eq_zero (by omega)
    subst hL
    obtain rfl : i = 0 := by simpa using hi
    exact ⟨none, 0, fun o ρ x y w2 ho hx hy => by simp [execOp, ho, hx, hy, go_sem], .inl rfl, fun _ => rfl⟩
  · have hrun : ∃ ad', (∀ (o : Oper) (ρ : Operand → Value) (x y : Operand) (w2 : World), o.op = .slice 62 x (some y) none none → ρ x = .slice (some ad) S.length cap → ρ y = .int .i64 i → (execOp ρ o).run Try.prog w2 = .ok (.value (.slice (some ad') (S.length - i) (cap - i))) w2) ∧ (i < S.length → ad' = ad.add (i * 4)) := by
      by_cases h3 : cap = i
      · refine ⟨ad, fun o ρ x y w2 ho hx hy => ?_, fun h => by omega⟩
        simp [execOp, ho, hx, hy, go_sem, h1, h2, h3]
      · refine ⟨ad.add (i * 4), fun o ρ x y w2 ho hx hy => ?_, fun _ => rfl⟩
        simp [execOp, ho, hx, hy, go_sem, h1, h2, h3]
    obtain ⟨ad', hr, ha⟩ := hrun
    refine ⟨some ad', cap - i, fun o ρ x y w2 ho hx hy => by rw [hr o ρ x y w2 ho hx hy, List.length_drop], ?_, fun h => by cases h⟩
    by_cases hlt : i < S.length
    · rcases hs with h | ⟨g, off, h3, h4, h5⟩
      · subst h; simp at hlt
      · obtain rfl := Option.some.inj h3
        refine .inr ⟨g, off + i * 4, by rw [ha hlt, Addr.add_mid], h4, fun k z hk => ?_⟩
        rw [List.getElem?_drop] at hk
        have := h5 _ z hk
        rw [show off + i * 4 + k * 4 = off + (i + k) * 4 by rw [Nat.add_mul]; omega]; exact this
    · exact .inl (List.drop_eq_nil_of_le (by omega))
end
end Go.Proofs.Ytcafnanbdmapgaa
