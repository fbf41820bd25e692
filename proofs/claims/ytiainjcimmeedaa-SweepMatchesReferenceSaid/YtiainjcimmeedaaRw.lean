/- Rows of items in memory. -/
import Derived.Test.YtiainjcimmeedaaCm
import Derived.Test.YtiainjcimmeedaaDrw
import Derived.Deep.MidRow
import Derived.Maps.AppendAt
set_option linter.unusedVariables false
set_option linter.unusedSimpArgs false
namespace Go.Proofs.Ytiainjcimmeedaa
open Go.RowKit Go.Pl Go.Geo

theorem flat_len {α : Type} {f : α → List Value} {c : Nat} (hf : ∀ x, (f x).length = c) (l : List α) : (l.flatMap f).length = l.length * c := by
  induction l with
  | nil => simp
  | cons y l ih => rw [List.flatMap_cons, List.length_append, ih, hf, List.length_cons, Nat.succ_mul, Nat.add_comm]
theorem flat_at {α : Type} {f : α → List Value} {c : Nat} (hf : ∀ x, (f x).length = c) (l : List α) : ∀ (i : Nat) (x : α), l[i]? = some x → ∀ j, j < c → (l.flatMap f)[i * c + j]? = (f x)[j]? := by
  induction l with
  | nil => intro i x h; simp at h
  | cons y l ih =>
    intro i x h j hj
    rw [List.flatMap_cons]
    cases i with
    | zero => simp at h; subst h; rw [Nat.zero_mul, Nat.zero_add, List.getElem?_append_left (by rw [hf]; exact hj)]
    | succ i =>
      simp at h
      rw [List.getElem?_append_right (by rw [hf, Nat.succ_mul]; omega), hf, show (i + 1) * c + j - c = i * c + j by rw [Nat.succ_mul]; omega]
      exact ih i x h j hj

/-- A run of stores into an array. -/
def putM (F : Array Value) : Nat → List Value → Array Value
  | _, [] => F
  | s, v :: r => putM (F.setIfInBounds s v) (s + 1) r
theorem putM_size : ∀ (vs : List Value) (s : Nat) (F : Array Value), (putM F s vs).size = F.size
  | [], _, _ => rfl
  | v :: r, s, F => by rw [putM, putM_size r]; simp
theorem putM_get : ∀ (vs : List Value) (s : Nat) (F : Array Value) (t : Nat), s + vs.length ≤ F.size → (putM F s vs)[t]? = if s ≤ t ∧ t < s + vs.length then vs[t - s]? else F[t]?
  | [], s, F, t, _ => by simp [putM]; omega
  | v :: r, s, F, t, h => by
    simp only [List.length_cons] at h
    rw [putM, putM_get r (s + 1) _ t (by simp; omega)]
    by_cases h1 : s + 1 ≤ t ∧ t < s + 1 + r.length
    · rw [if_pos h1, if_pos (by simp; omega)]
      obtain ⟨u, rfl⟩ : ∃ u, t = s + 1 + u := ⟨t - (s + 1), by omega⟩
      rw [show s + 1 + u - (s + 1) = u by omega, show s + 1 + u - s = u + 1 by omega, List.getElem?_cons_succ]
    · rw [if_neg h1]
      by_cases h2 : t = s
      · subst h2
        rw [if_pos (by simp), Nat.sub_self, List.getElem?_cons_zero, Array.getElem?_setIfInBounds, if_pos rfl, if_pos (by omega)]
      · rw [if_neg (by simp; omega), Array.getElem?_setIfInBounds, if_neg (by omega)]
theorem putM_all (F : Array Value) (vs : List Value) (h : F.size = vs.length) : putM F 0 vs = vs.toArray := by
  apply Array.ext_getElem?
  intro t
  rw [putM_get _ _ _ _ (by omega)]
  by_cases ht : t < vs.length
  · rw [if_pos (by omega)]; simp
  · rw [if_neg (by omega), Array.getElem?_eq_none (by omega), Array.getElem?_eq_none (by simpa using ht)]
theorem blk_setCells {T : TypeId} {g : Nat} : ∀ (vs : List Value) (o : Nat) (w : World) (cur : Array Value), w.heap[g]? = some (.cells cur T (0, 0)) → (w.setCells g o vs).heap[g]? = some (.cells (putM cur o vs) T (0, 0))
  | [], _, _, _, h => h
  | v :: r, o, w, cur, h => by
    rw [World.setCells, putM]
    exact blk_setCells r (o + 1) _ _ (blk_setCell_same h v)
theorem Fr.setCells {a : World} {F : Nat → Prop} {g : Nat} (hg : g < a.heap.size → F g) : ∀ (vs : List Value) (o : Nat) (w : World), Fr F a w → Fr F a (w.setCells g o vs)
  | [], _, _, h => h
  | v :: r, o, w, h => by
    rw [World.setCells]
    exact Fr.setCells hg r (o + 1) _ (h.setCell (p := ⟨g, o, none⟩) hg v)

/-- Block g is a row of items: the first ones are L. -/
def rowB (w : World) (g cap : Nat) (L : List It) : Prop := ∃ cur, w.heap[g]? = some (.cells cur 49 (0, 0)) ∧ cur.size = cap * 9 ∧ L.length ≤ cap ∧ cap ≤ maxLen ∧ ∀ t x, L[t]? = some x → ∀ c u, (itC x)[c]? = some u → cur[t * 9 + c]? = some u
theorem itC_len (x : It) : (itC x).length = 9 := rfl
theorem rowB.lt {w : World} {g cap L} (h : rowB w g cap L) : g < w.heap.size := by obtain ⟨cur, h1, _⟩ := h; exact lt_of_blk h1
theorem rowB.le {w : World} {g cap L} (h : rowB w g cap L) : L.length ≤ cap := by obtain ⟨_, _, _, h3, _⟩ := h; exact h3
theorem rowB.fr {w w' : World} {g cap L} (h : rowB w g cap L) {F : Nat → Prop} (hf : Fr F w w') (hg : ¬ F g) : rowB w' g cap L := by
  obtain ⟨cur, h1, h2⟩ := h; exact ⟨cur, hf.obj h1 hg, h2⟩
theorem rowB.range {w : World} {g cap L} (h : rowB w g cap L) {t : Nat} {x : It} (hx : L[t]? = some x) : w.rangeAt g (t * 9) (itC x) := by
  obtain ⟨cur, h1, _, _, _, h5⟩ := h
  intro j v hv
  rw [cell_of_blk h1]; exact h5 t x hx j v hv
theorem rowB.there {w : World} {g cap L} (h : rowB w g cap L) {t : Nat} (ht : t < cap) : w.there g (t * 9) 9 := by
  obtain ⟨cur, h1, h2, _⟩ := h
  intro j hj
  refine ⟨?_, free_of_blk h1 _⟩
  rw [cell_of_blk h1, Array.getElem?_eq_getElem (by rw [h2]; omega)]; rfl
theorem rowB.set {w : World} {g cap L} (h : rowB w g cap L) {t : Nat} (ht : t < L.length) (x : It) : rowB (w.setCells g (t * 9) (itC x)) g cap (L.set t x) := by
  obtain ⟨cur, h1, h2, h3, h4, h5⟩ := h
  refine ⟨_, blk_setCells _ _ _ _ h1, by rw [putM_size]; exact h2, by simpa using h3, h4, fun q y hy c u hu => ?_⟩
  have hc : c < 9 := by rw [← itC_len y]; exact (List.getElem?_eq_some_iff.1 hu).1
  rw [putM_get _ _ _ _ (by rw [h2, itC_len]; omega), itC_len]
  rw [List.getElem?_set] at hy
  by_cases e : t = q
  · subst e
    rw [if_pos rfl, if_pos ht] at hy
    cases hy
    rw [if_pos (by omega), show t * 9 + c - t * 9 = c by omega]; exact hu
  · rw [if_neg e] at hy
    rw [if_neg (by omega)]
    exact h5 q y hy c u hu
theorem rowB.cut {w : World} {g cap L} (h : rowB w g cap L) (m : Nat) : rowB w g cap (L.take m) := by
  obtain ⟨cur, h1, h2, h3, h4, h5⟩ := h
  refine ⟨cur, h1, h2, by simp; omega, h4, fun t x hx => h5 t x ?_⟩
  rw [List.getElem?_take] at hx
  split at hx
  · exact hx
  · cases hx
theorem rowB.own {w : World} {g cap L} (h : rowB w g cap L) {B : Nat} (hB : B ≤ g) : w.ownsRow B 49 9 (.slice (some ⟨g, 0, none⟩) L.length cap) L.length (L.flatMap itC) := by
  obtain ⟨cur, h1, h2, h3, h4, h5⟩ := h
  refine ⟨flat_len itC_len L, .inr ⟨g, cap, cur, rfl, hB, h1, h3, h4, h2, ?_⟩⟩
  apply List.ext_getElem?
  intro k
  by_cases hk : k < L.length * 9
  · rw [List.getElem?_take_of_lt hk, Array.getElem?_toList]
    obtain ⟨x, hx⟩ : ∃ x, L[k / 9]? = some x := ⟨_, List.getElem?_eq_getElem (by omega)⟩
    have e : k = k / 9 * 9 + k % 9 := by omega
    have hm : k % 9 < 9 := Nat.mod_lt _ (by omega)
    have := flat_at itC_len L (k / 9) x hx (k % 9) hm
    rw [← e] at this
    rw [this]
    obtain ⟨u, hu⟩ : ∃ u, (itC x)[k % 9]? = some u := ⟨_, List.getElem?_eq_getElem (by rw [itC_len]; exact hm)⟩
    rw [hu]
    have := h5 (k / 9) x hx (k % 9) u hu
    rwa [← e] at this
  · rw [List.getElem?_eq_none (by simp; omega), List.getElem?_eq_none (by rw [flat_len itC_len]; omega)]
theorem rowB_of {w : World} {B : Nat} {v : Value} {L : List It} (h : w.ownsRow B 49 9 v L.length (L.flatMap itC)) : (v = .slice none 0 0 ∧ L = []) ∨ ∃ g cap, v = .slice (some ⟨g, 0, none⟩) L.length cap ∧ B ≤ g ∧ rowB w g cap L := by
  rcases h.2 with ⟨h1, h2⟩ | ⟨g, cap, cur, h1, hB, h2, h3, h4, h5, h6⟩
  · exact .inl ⟨h1, List.eq_nil_of_length_eq_zero h2⟩
  · refine .inr ⟨g, cap, h1, hB, cur, h2, h5, h3, h4, fun t x hx c u hu => ?_⟩
    have ht := (List.getElem?_eq_some_iff.1 hx).1
    have hc : c < 9 := by rw [← itC_len x]; exact (List.getElem?_eq_some_iff.1 hu).1
    have := flat_at itC_len L t x hx c hc
    rw [hu, ← h6, List.getElem?_take_of_lt (by omega), Array.getElem?_toList] at this
    exact this

section
variable {o : Oper} {w : World} {ρ : Operand → Value} {x y : Operand} {g off : Nat}
theorem info49 : (Try.prog.info? 49).map (·.size) = some 9 := by kernel_rfl
theorem run_ld49 {s : It} (ho : o.op = .load 49 x) (hx : ρ x = .pointer (some ⟨g, off, none⟩)) (h : w.rangeAt g off (itC s)) : (execOp ρ o).run Try.prog w = .ok (.value (.agg (itC s).toArray)) w := by
  have := run_loadAt_mid (P := Try.prog) w g off 49 (itC s) _ h Try.underlying49 rfl info49
  simp only [execOp, ho, hx, Sem.run_bind, this, Result.andThen_ok, Sem.run_pure]
theorem run_st49 {s : It} (ho : o.op = .store 49 x y) (hx : ρ x = .pointer (some ⟨g, off, none⟩)) (hy : ρ y = .agg (itC s).toArray) (h : w.there g off 9) : (execOp ρ o).run Try.prog w = .ok .skip (w.setCells g off (itC s)) := by
  have := run_storeAt_mid (P := Try.prog) w g off 49 (itC s).toArray (by exact h) info49 (by simp [Value.oneCell'])
  simp only [execOp, ho, hx, hy, Sem.run_bind, this, Result.andThen_ok, Sem.run_pure]
theorem run_alloc49 (ho : o.op = .alloc 49) : (execOp ρ o).run Try.prog w = .ok (.value (.pointer (some ⟨w.heap.size, 0, none⟩))) (w.alloc (.cells (itC default).toArray 49)) := by
  simp [execOp, ho, go_sem]
  rfl
theorem run_index44 {i : Nat} {n cap : Nat} (ho : o.op = .indexAddr 44 x y) (hx : ρ x = .slice (some ⟨g, 0, none⟩) n cap) (hy : ρ y = .int .i64 i) (hi : i < n) : (execOp ρ o).run Try.prog w = .ok (.value (.pointer (some ⟨g, i * 9, none⟩))) w := by
  have h1 : (i : Int) < n := by omega
  simp [execOp, ho, hx, hy, go_sem, h1]
theorem run_len44 {n cap : Nat} {p : Option Addr} (ho : o.op = .call ⟨.builtin .len, #[x], #[44]⟩) (hx : ρ x = .slice p n cap) : (execOp ρ o).run Try.prog w = .ok (.value (.int .i64 n)) w := by
  simp [execOp, ho, hx, resolve, invoke, go_sem]
theorem run_callv {v c : Value} {f : FuncId} {ts : Array TypeId} (eg : ∀ args w, (callFunc f args).run Try.prog w = .ok (.enter f args) w) (ho : o.op = .call ⟨.value x, #[y], ts⟩) (hx : ρ x = .func (.func f) #[] #[c]) (hy : ρ y = v) : (execOp ρ o).run Try.prog w = .ok (.enter f #[v, c]) w := by
  simp [execOp, ho, hx, hy, eg, resolve, Deferred.ofValue, invoke, go_sem]
theorem run_iadd {m n : Int} (hx : ρ x = .int .i64 m) (hy : ρ y = .int .i64 n) (h1 : -9223372036854775808 ≤ m + n) (h2 : m + n ≤ 9223372036854775807) (ho : o.op = .binOp .add 3 x y 3) : (execOp ρ o).run Try.prog w = .ok (.value (.int .i64 (m + n))) w := by
  simp [execOp, ho, hx, hy, go_sem, IntWalk.i64_in _ ⟨h1, h2⟩]
end
end Go.Proofs.Ytiainjcimmeedaa
namespace Go.Proofs.Ytiainjcimmeedaa
open Go.RowKit Go.Pl Go.Geo
section
variable {o : Oper} {w : World} {ρ : Operand → Value} {x y : Operand} {g : Nat}
theorem run_slo {i n cap : Nat} (ho : o.op = .slice 44 x (some y) none none) (hx : ρ x = .slice (some ⟨g, 0, none⟩) n cap) (hy : ρ y = .int .i64 i) (hi : i < n) (hn : n ≤ cap) : (execOp ρ o).run Try.prog w = .ok (.value (.slice (some ⟨g, i * 9, none⟩) (n - i) (cap - i))) w := by
  have h1 : (i : Int) ≤ n := by omega
  have h2 : (n : Int) ≤ cap := by omega
  have h3 : ¬ cap = i := by omega
  simp [execOp, ho, hx, hy, go_sem, h1, h2, h3]
theorem run_shi {i n cap : Nat} (ho : o.op = .slice 44 x none (some y) none) (hx : ρ x = .slice (some ⟨g, 0, none⟩) n cap) (hy : ρ y = .int .i64 i) (hi : i ≤ cap) : (execOp ρ o).run Try.prog w = .ok (.value (.slice (some ⟨g, 0, none⟩) i cap)) w := by
  have h1 : (i : Int) ≤ cap := by omega
  simp [execOp, ho, hx, hy, go_sem, h1]
theorem run_clear44 {off n c : Nat} (ho : o.op = .call ⟨.builtin .clear, #[x], #[44]⟩) (hx : ρ x = .slice (some ⟨g, off, none⟩) n c) (hn : 0 < n) (ht : w.there g off (n * 9)) : ∃ zs : List Value, zs.length = n * 9 ∧ (execOp ρ o).run Try.prog w = .ok (.value (.tuple #[])) (w.setCells g off zs) := by
  refine ⟨(Builtin.zeroCells (itC default).toArray n).toList, ?_, ?_⟩
  · simp [Builtin.zeroCells]
  · obtain ⟨m, rfl⟩ : ∃ m, n = m + 1 := ⟨n - 1, by omega⟩
    have hst := run_storeCells_cells (P := Try.prog) g off (Builtin.zeroCells (itC default).toArray (m + 1)).toList 0 w (by intro j hj; exact (ht j (by simpa [Builtin.zeroCells] using hj)).1) (by intro j hj; exact (ht j (by simpa [Builtin.zeroCells] using hj)).2) (by
      intro v hv
      simp [Builtin.zeroCells] at hv
      obtain ⟨a, _, rfl⟩ := hv
      have hq : a % 9 < 9 := Nat.mod_lt _ (by omega)
      generalize a % 9 = q at *
      match q, hq with
      | 0, _ => rfl
      | 1, _ => rfl
      | 2, _ => rfl
      | 3, _ => rfl
      | 4, _ => rfl
      | 5, _ => rfl
      | 6, _ => rfl
      | 7, _ => rfl
      | 8, _ => rfl)
    simp only [Nat.add_zero] at hst
    simp [execOp, ho, hx, resolve, invoke, go_sem, Builtin.clear_]
    rw [show (#[Value.int .i64 0, Value.int .i64 0, Value.int .i64 0, Value.int .i64 0, Value.int .i64 0, Value.int .i64 0, Value.int .i64 0, Value.int .i64 0, Value.int .i64 0] : Array Value) = (itC default).toArray from rfl, hst]
    rfl
/-- A row keeps its first items if what lies behind them is written. -/
theorem rowB.tail {w : World} {g cap L} (h : rowB w g cap L) {i : Nat} (zs : List Value) (hz : i * 9 + zs.length ≤ cap * 9) : rowB (w.setCells g (i * 9) zs) g cap (L.take i) := by
  obtain ⟨cur, h1, h2, h3, h4, h5⟩ := h
  refine ⟨_, blk_setCells _ _ _ _ h1, by rw [putM_size]; exact h2, by simp; omega, h4, fun q y hy c u hu => ?_⟩
  have hc : c < 9 := by rw [← itC_len y]; exact (List.getElem?_eq_some_iff.1 hu).1
  rw [List.getElem?_take] at hy
  split at hy
  · rename_i hq
    rw [putM_get _ _ _ _ (by rw [h2]; omega), if_neg (by omega)]
    exact h5 q y hy c u hu
  · cases hy
theorem itB.range {w : World} {b : Nat} {x : It} (h : itB w b x) : w.rangeAt b 0 (itC x) := by
  intro j v hv
  rw [cell_of_blk h, Nat.zero_add]; simpa using hv
theorem itB.there {w : World} {b : Nat} {x : It} (h : itB w b x) : w.there b 0 9 := by
  intro j hj
  refine ⟨?_, free_of_blk h _⟩
  rw [cell_of_blk h, Nat.zero_add, Array.getElem?_eq_getElem (by simpa using hj)]; rfl
theorem itB.set {w : World} {b : Nat} {x : It} (h : itB w b x) (y : It) : itB (w.setCells b 0 (itC y)) b y := by
  have := blk_setCells (itC y) 0 w _ h
  rw [putM_all (itC x).toArray (itC y) (by simp)] at this
  exact this
section
variable {O : Array Oper} {Q : Exit → Act → World → Prop} {rest : List Oper} {o : Oper} {a : Act} {w : World} {n d : Nat} {L : List (Nat × Value)} {x y : Operand} {b : Nat}
theorem env_alloc49 (E : Env n L a) (hd : o.dst = some d) (hn : d < n) (hf : (L.map (·.1)).contains d = false) (hw : Region.wanted o (yielded O a.tmps) = true) (ho : o.op = .alloc 49)
    (k : ∀ a' w' b, w.heap.size = b → itB w' b default → Fr (fun _ => False) w w' → Env n ((d, .pointer (some ⟨b, 0, none⟩)) :: L) a' → wpList Try.prog O Q rest a' w') : wpList Try.prog O Q (o :: rest) a w :=
  env_put E hd hn hf hw (run_alloc49 ho) fun a' E' => k a' _ _ rfl (blk_alloc_new _ _) ((Fr.refl _ _).alloc _) E'
theorem env_st49 {s t : It} (E : Env n L a) (hd : o.dst = none) (hw : Region.wanted o (yielded O a.tmps) = true) (ho : o.op = .store 49 x y) (hx : a.eval x = .pointer (some ⟨b, 0, none⟩)) (hy : a.eval y = .agg (itC t).toArray) (h : itB w b s)
    (k : ∀ w', itB w' b t → Fr (fun k => k = b) w w' → Env n L a → wpList Try.prog O Q rest a w') : wpList Try.prog O Q (o :: rest) a w :=
  env_store E hd hw (run_st49 ho hx hy (itB.there h)) fun E => k _ (itB.set h t) (Fr.setCells (F := fun k => k = b) (fun _ => rfl) _ _ _ (Fr.refl _ _)) E
theorem env_strow {i cap : Nat} {t : It} {R : List It} (E : Env n L a) (hd : o.dst = none) (hw : Region.wanted o (yielded O a.tmps) = true) (ho : o.op = .store 49 x y) (hx : a.eval x = .pointer (some ⟨b, i * 9, none⟩)) (hy : a.eval y = .agg (itC t).toArray) (h : rowB w b cap R) (hi : i < R.length)
    (k : ∀ w', rowB w' b cap (R.set i t) → Fr (fun k => k = b) w w' → Env n L a → wpList Try.prog O Q rest a w') : wpList Try.prog O Q (o :: rest) a w :=
  env_store E hd hw (run_st49 ho hx hy (h.there (by have := h.le; omega))) fun E => k _ (h.set hi t) (Fr.setCells (F := fun k => k = b) (fun _ => rfl) _ _ _ (Fr.refl _ _)) E
end
end
end Go.Proofs.Ytiainjcimmeedaa
