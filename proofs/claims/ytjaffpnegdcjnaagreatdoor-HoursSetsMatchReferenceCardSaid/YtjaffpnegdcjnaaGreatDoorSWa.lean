/- What printed walks use, over whatever program: steps, rows of one's own. -/
import Derived.Test.YtjaffpnegdcjnaaGreatDoorSBase
import Derived.Test.YtjaffpnegdcjnaaGreatDoorSDrx
import Derived.Deep.MidRow
import Derived.Maps.AppendAt
import Derived.Laws.AppendOwnNone
set_option linter.unusedVariables false
set_option linter.unusedSimpArgs false
namespace Go.Pl
open Go.RowKit
variable {ds : List Deferred}
theorem wp_start1 {P : Program} {f : FuncId} {fn : Func} {c : Code} {R : Ending → World → Prop} {n : Nat} {w : World} {v0 : Value} (hf : P.funcs[f]? = some fn) (hb : fn.body = some c) (hn : fn.ntmps = n) (h2 : 1 ≤ n) (k : ∀ a, Env n [(0, v0)] a → c.wp P (bodyPost P fn R) a w) : Calls P f #[v0] w R := by
  refine calls_of_wp hf hb (k _ ⟨?_, ?_, rfl⟩)
  · simp [hn]; omega
  · intro x hx
    simp only [List.mem_cons, List.not_mem_nil, or_false] at hx
    subst hx
    show (#[v0] ++ Array.replicate (fn.ntmps - 1) undef).getD 0 undef = v0
    rw [Array.getD_eq_getD_getElem?, Array.getElem?_append_left (by simp)]; rfl
theorem wp_start3 {P : Program} {f : FuncId} {fn : Func} {c : Code} {R : Ending → World → Prop} {n : Nat} {w : World} {v0 v1 v2 : Value} (hf : P.funcs[f]? = some fn) (hb : fn.body = some c) (hn : fn.ntmps = n) (h2 : 3 ≤ n) (k : ∀ a, Env n [(0, v0), (1, v1), (2, v2)] a → c.wp P (bodyPost P fn R) a w) : Calls P f #[v0, v1, v2] w R := by
  refine calls_of_wp hf hb (k _ ⟨?_, ?_, rfl⟩)
  · simp [hn]; omega
  · intro x hx
    simp only [List.mem_cons, List.not_mem_nil, or_false] at hx
    rcases hx with rfl | rfl | rfl
    · show (#[v0, v1, v2] ++ Array.replicate (fn.ntmps - 3) undef).getD 0 undef = v0
      rw [Array.getD_eq_getD_getElem?, Array.getElem?_append_left (by simp)]; rfl
    · show (#[v0, v1, v2] ++ Array.replicate (fn.ntmps - 3) undef).getD 1 undef = v1
      rw [Array.getD_eq_getD_getElem?, Array.getElem?_append_left (by simp)]; rfl
    · show (#[v0, v1, v2] ++ Array.replicate (fn.ntmps - 3) undef).getD 2 undef = v2
      rw [Array.getD_eq_getD_getElem?, Array.getElem?_append_left (by simp)]; rfl
section
variable {P : Program} {o : Oper} {w : World} {ρ : Operand → Value} {x y : Operand} {m n : Int} {t t2 : TypeId} {k : IntKind}
theorem run_ineq (hx : ρ x = .int k m) (hy : ρ y = .int k n) (ht : P.underlying t = some (.int k)) (ho : o.op = .binOp .neq t x y t2) : (execOp ρ o).run P w = .ok (.value (.bool (m != n))) w := by
  simp [execOp, ho, hx, hy, go_sem, ht]
end
theorem run_igeq {P : Program} {o : Oper} {w : World} {ρ : Operand → Value} {t t2 : TypeId} {k : IntKind} {x y : Operand} {m n : Int} (hx : ρ x = .int k m) (hy : ρ y = .int k n) (ht : P.underlying t = some (.int k)) (ho : o.op = .binOp .geq t x y t2) : (execOp ρ o).run P w = .ok (.value (.bool (decide (n ≤ m)))) w := by
  simp [execOp, ho, hx, hy, go_sem, ht]
section
variable {P : Program} {o : Oper} {w : World} {ρ : Operand → Value}
theorem run_ext0 {x : Operand} {v u : Value} (ho : o.op = .extract x 0) (hx : ρ x = .tuple #[v, u]) : (execOp ρ o).run P w = .ok (.value v) w := by simp [execOp, ho, hx, go_sem]
theorem run_ext1 {x : Operand} {v u : Value} (ho : o.op = .extract x 1) (hx : ρ x = .tuple #[v, u]) : (execOp ρ o).run P w = .ok (.value u) w := by simp [execOp, ho, hx, go_sem]
end
section
variable {P : Program} {O : Array Oper} {o : Oper} {a : Act} {w : World} {n d g s : Nat} {b : Bool} {L : List (Nat × Value)} {v : Value} {ρ : Operand → Value}
theorem EnvD.add (E : EnvD ds n L a) (h : a.eval (.tmp s) = v) : EnvD ds n ((s, v) :: L) a := ⟨E.size, fun x hx => by
  rcases List.mem_cons.1 hx with rfl | hx
  · exact h
  · exact E.at_ x hx, E.df⟩
theorem w_no (E : EnvD ds n L a) (hgd : o.guard = some (g, b)) (hg : (O[g]?).bind (·.dst) = some s) (hs : s < n) (hv : a.eval (.tmp s) = .bool (!b)) : Region.wanted o (yielded O a.tmps) = false := by
  rw [wanted_some hgd, yield_eq hg (by rw [E.size]; exact hs), hv]; cases b <;> rfl
theorem w_nou (E : EnvD ds n L a) (hgd : o.guard = some (g, b)) (hg : (O[g]?).bind (·.dst) = some s) (hs : s < n) (hv : a.eval (.tmp s) = undef) : Region.wanted o (yielded O a.tmps) = false := by
  rw [wanted_some hgd, yield_eq hg (by rw [E.size]; exact hs), hv]; cases b <;> rfl
theorem run_call0 {f : FuncId} {ts : Array TypeId} (eg : ∀ args w, (callFunc f args).run P w = .ok (.enter f args) w) (ho : o.op = .call ⟨.value (.func f), #[], ts⟩) (hf : ρ (.func f) = .func (.func f) #[] #[]) : (execOp ρ o).run P w = .ok (.enter f #[]) w := by
  simp [execOp, ho, hf, eg, resolve, Deferred.ofValue, invoke, go_sem]
end
theorem env_callv {P : Program} {O : Array Oper} {Q : Exit → Act → World → Prop} {rest : List Oper} {o : Oper} {a : Act} {w : World} {n d : Nat} {L : List (Nat × Value)} {f : FuncId} {args : Array Value} {R : Value → World → Prop} (E : EnvD ds n L a) (hd : o.dst = some d) (hn : d < n) (hf : (L.map (·.1)).contains d = false) (hw : Region.wanted o (yielded O a.tmps) = true) (hr : (execOp a.eval o).run P w = .ok (.enter f args) w)
    (hc : Calls P f args w fun e w' => ∃ v, e = .returned v ∧ R v w') (k : ∀ a' w' v, R v w' → EnvD ds n ((d, v) :: L) a' → wpList P O Q rest a' w') : wpList P O Q (o :: rest) a w := by
  refine st_call (R := R) hw hr hc ?_
  intro v w' hR
  rw [hd]
  exact k _ w' v hR (E.put hn hf)
theorem flat_len {α : Type} {f : α → List Value} {c : Nat} (hf : ∀ x, (f x).length = c) (l : List α) : (l.flatMap f).length = l.length * c := by
  induction l with
  | nil => simp
  | cons y l ih => rw [List.flatMap_cons, List.length_append, ih, hf, List.length_cons, Nat.succ_mul, Nat.add_comm]
theorem flat_at {α : Type} {f : α → List Value} {c : Nat} (hf : ∀ x, (f x).length = c) (l : List α) : ∀ (i : Nat) (x : α), l[i]? = some x → ∀ j, j < c → (l.flatMap f)[i * c + j]? = (f x)[j]? := by
  induction l with
  | nil => intro i x h; simp at h
  | cons y l ih =>
    intro i x h j hj
    rw [List.flatMap_cons]
    cases i with
    | zero => simp at h; subst h; rw [Nat.zero_mul, Nat.zero_add, List.getElem?_append_left (by rw [hf]; exact hj)]
    | succ i =>
      simp at h
      rw [List.getElem?_append_right (by rw [hf, Nat.succ_mul]; omega), hf, show (i + 1) * c + j - c = i * c + j by rw [Nat.succ_mul]; omega]
      exact ih i x h j hj
theorem own_empty (w : World) (E c : Nat) : (w.alloc (.cells #[] E)).ownsRow w.heap.size E c (.slice (some ⟨w.heap.size, 0, none⟩) 0 0) 0 [] :=
  ⟨by simp, .inr ⟨w.heap.size, 0, #[], rfl, Nat.le_refl _, blk_alloc_new _ _, Nat.le_refl _, by unfold maxLen; omega, by simp, by simp⟩⟩
section
variable {P : Program} {o : Oper} {w : World} {ρ : Operand → Value} {x y : Operand} {t : TypeId} {m n : Int}
theorem run_iadd (ht : P.underlying t = some (.int .i64)) (hx : ρ x = .int .i64 m) (hy : ρ y = .int .i64 n) (h1 : -9223372036854775808 ≤ m + n) (h2 : m + n ≤ 9223372036854775807) (ho : o.op = .binOp .add t x y t) : (execOp ρ o).run P w = .ok (.value (.int .i64 (m + n))) w := by
  simp [execOp, ho, hx, hy, go_sem, ht, IntWalk.i64_in _ ⟨h1, h2⟩]
theorem run_isub (ht : P.underlying t = some (.int .i64)) (hx : ρ x = .int .i64 m) (hy : ρ y = .int .i64 n) (h1 : -9223372036854775808 ≤ m - n) (h2 : m - n ≤ 9223372036854775807) (ho : o.op = .binOp .sub t x y t) : (execOp ρ o).run P w = .ok (.value (.int .i64 (m - n))) w := by
  simp [execOp, ho, hx, hy, go_sem, ht, IntWalk.i64_in _ ⟨h1, h2⟩]
theorem run_imul (ht : P.underlying t = some (.int .i64)) (hx : ρ x = .int .i64 m) (hy : ρ y = .int .i64 n) (h1 : -9223372036854775808 ≤ m * n) (h2 : m * n ≤ 9223372036854775807) (ho : o.op = .binOp .mul t x y t) : (execOp ρ o).run P w = .ok (.value (.int .i64 (m * n))) w := by
  simp [execOp, ho, hx, hy, go_sem, ht, IntWalk.i64_in _ ⟨h1, h2⟩]
theorem beq_str (a b : ByteArray) : (a.toList == b.toList) = decide (a = b) := by
  rw [Bool.eq_iff_iff, beq_iff_eq, decide_eq_true_eq]
  refine ⟨fun h => ?_, fun h => by rw [h]⟩
  rw [ByteArray.toList_eq, ByteArray.toList_eq] at h
  exact ByteArray.ext (Array.toList_inj.1 h)
theorem run_seql {s u : ByteArray} (hx : ρ x = .string s) (hy : ρ y = .string u) (ho : o.op = .binOp .eql t x y t) : (execOp ρ o).run P w = .ok (.value (.bool (decide (s = u)))) w := by
  have e := beq_str s u
  simp [execOp, ho, hx, hy, go_sem, e]
theorem run_nilchk {a : Addr} (ho : o.op = .nilCheck x) (hx : ρ x = .pointer (some a)) : (execOp ρ o).run P w = .ok (.value (.pointer (some a))) w := by
  simp [execOp, ho, hx, go_sem]
theorem bx {w : World} {b : Nat} {cs : Array Value} {T : TypeId} (h : w.heap[b]? = some (.cells cs T (0, 0))) (k : Nat) {v : Value} (hv : cs[k]? = some v) : w.cell? ⟨b, k, none⟩ = some v := by rw [cell_of_blk h]; exact hv
end
section
variable {α : Type} (f : α → List Value) (c : Nat)
/-- v is a row of one's own, in a block from B on, that holds L. -/
def ow (E : TypeId) (w : World) (B : Nat) (v : Value) (L : List α) : Prop := w.ownsRow B E c v L.length (L.flatMap f)
/-- The slice at p holds L, in a block below G. -/
def srcAt (w : World) (G : Nat) (p : Option Addr) (L : List α) : Prop := L = [] ∨ ∃ g off, p = some ⟨g, off, none⟩ ∧ g < G ∧ ∀ i x, L[i]? = some x → w.rangeAt g (off + i * c) (f x)
variable {f c}
theorem srcAt.fr {w w' : World} {G : Nat} {p : Option Addr} {L : List α} (h : srcAt f c w G p L) {F : Nat → Prop} (hf : Fr F w w') (hF : ∀ r, r < G → ¬ F r) : srcAt f c w' G p L := by
  rcases h with h | ⟨g, off, h1, h2, h3⟩
  · exact .inl h
  · exact .inr ⟨g, off, h1, h2, fun i x hx j u hu => hf.cell (h3 i x hx j u hu) (hF g h2)⟩
theorem srcAt.mono {w : World} {G G' : Nat} {p : Option Addr} {L : List α} (h : srcAt f c w G p L) (hG : G ≤ G') : srcAt f c w G' p L := by
  rcases h with h | ⟨g, off, h1, h2, h3⟩
  · exact .inl h
  · exact .inr ⟨g, off, h1, Nat.lt_of_lt_of_le h2 hG, h3⟩
theorem srcAt.at {w : World} {G : Nat} {p : Option Addr} {L : List α} (h : srcAt f c w G p L) {i : Nat} (hi : i < L.length) : ∃ g off, p = some ⟨g, off, none⟩ ∧ g < G ∧ ∀ i x, L[i]? = some x → w.rangeAt g (off + i * c) (f x) := h.resolve_left (by rintro rfl; exact absurd hi (Nat.not_lt_zero _))
theorem srcAt.take {w : World} {G : Nat} {p : Option Addr} {L : List α} (h : srcAt f c w G p L) (n : Nat) : srcAt f c w G p (L.take n) := by
  rcases h with h | ⟨g, off, h1, h2, h3⟩
  · exact .inl (by rw [h]; simp)
  · refine .inr ⟨g, off, h1, h2, fun i x hx => h3 i x ?_⟩
    rw [List.getElem?_take] at hx
    split at hx
    · exact hx
    · cases hx
theorem ow.lt {E : TypeId} {w : World} {B : Nat} {v : Value} {L : List α} (h : ow f c E w B v L) {k : Nat} (hk : v.ownBlock = some k) : B ≤ k ∧ k < w.heap.size := by
  rcases h.2 with ⟨rfl, _⟩ | ⟨g, cap, cur, rfl, h1, h2, _⟩
  · cases hk
  · cases hk; exact ⟨h1, lt_of_blk h2⟩
theorem ow.fr {E : TypeId} {w w' : World} {B : Nat} {v : Value} {L : List α} (h : ow f c E w B v L) {F : Nat → Prop} (hf : Fr F w w') (hn : ∀ k, v.ownBlock = some k → ¬ F k) : ow f c E w' B v L := by
  refine ⟨h.1, ?_⟩
  rcases h.2 with h1 | ⟨g, cap, cur, h1, h2, h3, h4⟩
  · exact .inl h1
  · exact .inr ⟨g, cap, cur, h1, h2, hf.obj h3 (hn g (by rw [h1]; rfl)), h4⟩
theorem ow.base {E : TypeId} {w : World} {B C : Nat} {v : Value} {L : List α} (h : ow f c E w B v L) (hC : C ≤ B) : ow f c E w C v L := by
  refine ⟨h.1, ?_⟩
  rcases h.2 with h1 | ⟨g, cap, cur, h1, h2, h3⟩
  · exact .inl h1
  · exact .inr ⟨g, cap, cur, h1, Nat.le_trans hC h2, h3⟩
theorem ow.src {E : TypeId} (hf : ∀ x, (f x).length = c) {w : World} {B : Nat} {v : Value} {L : List α} (h : ow f c E w B v L) : ∃ p cap, v = .slice p L.length cap ∧ L.length ≤ cap ∧ cap ≤ 9223372036854775807 ∧ srcAt f c w w.heap.size p L ∧ (p = none → cap = 0) := by
  have h0 := h
  rcases h.2 with ⟨h1, h2⟩ | ⟨g, cap, cur, h1, hB, h3, h4, h5, h6, h7⟩
  · have hl : L = [] := List.eq_nil_of_length_eq_zero h2
    subst hl
    exact ⟨none, 0, h1, Nat.le_refl _, by omega, .inl rfl, fun _ => rfl⟩
  · refine ⟨_, cap, h1, h4, by unfold maxLen at h5; omega, .inr ⟨g, 0, rfl, lt_of_blk h3, fun i x hx j u hu => ?_⟩, fun h => by cases h⟩
    have hi := (List.getElem?_eq_some_iff.1 hx).1
    have hj : j < c := by rw [← hf x]; exact (List.getElem?_eq_some_iff.1 hu).1
    have := flat_at hf L i x hx j hj
    have hlt : i * c + j < L.length * c := by
      have := Nat.mul_le_mul_right c (Nat.succ_le_of_lt hi)
      rw [Nat.succ_mul] at this; omega
    rw [hu, ← h7, List.getElem?_take_of_lt hlt, Array.getElem?_toList] at this
    rw [cell_of_blk h3, Nat.zero_add]; exact this
theorem ow_empty {E : TypeId} (w : World) {B : Nat} (hB : B ≤ w.heap.size) : ow f c E (w.alloc (.cells #[] E)) B (.slice (some ⟨w.heap.size, 0, none⟩) 0 0) ([] : List α) := by
  have h := own_empty w E c
  exact ow.base (f := f) (L := []) h hB
theorem ow_nil {E : TypeId} (w : World) {B : Nat} : ow f c E w B (.slice none 0 0) ([] : List α) := World.ownsRow_nil _ _ _ _
theorem src_one {w : World} {b G : Nat} {x : α} {T : TypeId} (hb : w.heap[b]? = some (.cells (f x).toArray T (0, 0))) (hG : b < G) : srcAt f c w G (some ⟨b, 0, none⟩) [x] := .inr ⟨b, 0, rfl, hG, fun i y hy j u hu => by
  match i, hy with
  | 0, hy =>
    simp at hy; subst hy
    rw [cell_of_blk hb]; simpa using hu
  | i + 1, hy => simp at hy⟩
end
section
variable {P : Program} {O : Array Oper} {Q : Exit → Act → World → Prop} {rest : List Oper} {o : Oper} {a : Act} {w : World} {n d : Nat} {L : List (Nat × Value)} {x y : Operand} {b : Nat}
theorem env_appR {α : Type} {f : α → List Value} {c : Nat} {E T : TypeId} {bytes : Nat} {z : Value} (hf : ∀ x, (f x).length = c) (hc : 0 < c) (h1 : ∀ x, ∀ u ∈ f x, u.oneCell' = true) (hT : P.underlying T = some (.slice E)) {i : TypeInfo} (hi : P.info? E = some i) (hz : i.zero = some z) (hs : i.size = c) (hb : i.bytes = bytes) (hzs : z.cells.size = c) (hby : bytes ≤ 64)
    {B G : Nat} {v : Value} {A S : List α} {p : Option Addr} {cap : Nat} (En : EnvD ds n L a) (hd : o.dst = some d) (hn : d < n) (hfr : (L.map (·.1)).contains d = false) (hg : o.guard = none) (ho : o.op = .call { callee := .builtin .append, args := #[x, y], argTypes := #[T, T] }) (hx : a.eval x = v) (hv : ow f c E w B v A) (hy : a.eval y = .slice p S.length cap) (hsrc : srcAt f c w G p S) (hcp : p = none → cap = 0) (hl : A.length + S.length ≤ 400000000) (hB : B ≤ w.heap.size)
    (k : ∀ a' w' v', ow f c E w' B v' (A ++ S) → Fr (fun k => v.ownBlock = some k) w w' → (v'.ownBlock = v.ownBlock ∨ v'.ownBlock = some w.heap.size) → EnvD ds n ((d, v') :: L) a' → wpList P O Q rest a' w') : wpList P O Q (o :: rest) a w := by
  rcases p with _ | ad
  · have hS : S = [] := by
      rcases hsrc with h | ⟨g, off, h, _⟩
      · exact h
      · cases h
    subst hS
    obtain rfl := hcp rfl
    refine wpList_append_own_none hg _ _ T ho B E i c hT hi v A.length _ hx hv hy ?_
    rw [hd]
    refine k _ w v (by rw [List.append_nil]; exact hv) (Fr.refl _ _) (.inl rfl) (En.put hn hfr)
  · refine wpList_append_own_at w hg _ _ T ho B E i z c bytes hT hi hz hs hb hzs hc v A.length _ hx hv ad S.length cap (S.flatMap f) hy (flat_len hf S) (fun j u hu => ?_) (fun u hu => ?_) (by unfold maxLen; omega) ?_ hB fun v' w' c1 c2 c3 c4 => ?_
    · have hj := (List.getElem?_eq_some_iff.1 hu).1
      rw [flat_len hf] at hj
      rcases hsrc with rfl | ⟨g, off, h2, _, h3⟩
      · simp at hj
      · obtain rfl := Option.some.inj h2
        have hm : j % c < c := Nat.mod_lt _ hc
        have hdv : j / c < S.length := (Nat.div_lt_iff_lt_mul hc).2 hj
        have e : j / c * c + j % c = j := by rw [Nat.mul_comm]; exact Nat.div_add_mod j c
        obtain ⟨s, hs⟩ : ∃ s, S[j / c]? = some s := ⟨_, List.getElem?_eq_getElem hdv⟩
        have hfl := flat_at hf S (j / c) s hs (j % c) hm
        rw [e, hu] at hfl
        have := h3 _ s hs (j % c) u hfl.symm
        rw [Addr.add_mid, ← e, ← Nat.add_assoc]; exact this
    · obtain ⟨s, _, hs⟩ := List.mem_flatMap.1 hu
      exact h1 s u hs
    · have := Nat.mul_le_mul (Nat.le_refl (A.length + S.length)) hby
      omega
    · rw [hd]
      refine k _ w' v' ?_ ((Fr.refl _ _).grown c2 fun k hk _ => hk) c4 (En.put hn hfr)
      unfold ow
      rw [List.length_append, List.flatMap_append]
      exact c1
end
theorem ret_nil {P : Program} {fn : Func} {R : Ending → World → Prop} {n : Nat} {L : List (Nat × Value)} {a : Act} {w : World} (hr : fn.results = #[]) (E : Env n L a) (h : R (.returned (.tuple #[])) w) : bodyPost P fn R .normal a w ∧ bodyPost P fn R .ret a w := by
  have : bodyPost P fn R .ret a w := by
    refine ⟨E.df, .tuple #[], ?_, h⟩
    unfold results
    rw [hr]
    simp
  exact ⟨this, this⟩
end Go.Pl
