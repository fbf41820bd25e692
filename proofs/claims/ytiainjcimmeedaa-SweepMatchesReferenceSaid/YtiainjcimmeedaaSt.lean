/- Steps of sweep.All in the frame's terms. -/
import Derived.Test.YtiainjcimmeedaaSq
set_option linter.unusedVariables false
set_option linter.unusedSimpArgs false
namespace Go.Pl
theorem wp_start1 {P : Program} {f : FuncId} {fn : Func} {c : Code} {R : Ending → World → Prop} {n : Nat} {w : World} {v0 : Value} (hf : P.funcs[f]? = some fn) (hb : fn.body = some c) (hn : fn.ntmps = n) (h2 : 1 ≤ n) (k : ∀ a, Env n [(0, v0)] a → c.wp P (bodyPost P fn R) a w) : Calls P f #[v0] w R := by
  refine calls_of_wp hf hb (k _ ⟨?_, ?_, rfl⟩)
  · simp [hn]; omega
  · intro x hx
    simp only [List.mem_cons, List.not_mem_nil, or_false] at hx
    subst hx
    show (#[v0] ++ Array.replicate (fn.ntmps - 1) undef).getD 0 undef = v0
    rw [Array.getD_eq_getD_getElem?, Array.getElem?_append_left (by simp)]; rfl
theorem ret_two {P : Program} {fn : Func} {R : Ending → World → Prop} {n : Nat} {L : List (Nat × Value)} {a : Act} {w : World} {t u : Tmp} {v x : Value} (hr : fn.results = #[.tmp t, .tmp u]) (E : Env n L a) (hv : a.eval (.tmp t) = v) (hu : a.eval (.tmp u) = x) (h : R (.returned (.tuple #[v, x])) w) : bodyPost P fn R .ret a w := by
  refine ⟨E.df, .tuple #[v, x], ?_, h⟩
  unfold results
  rw [hr]
  have h1 : a.tmps.getD t undef = v := hv
  have h2 : a.tmps.getD u undef = x := hu
  rw [Array.getD_eq_getD_getElem?] at h1 h2
  simp [h1, h2]
section
variable {P : Program} {o : Oper} {w : World} {ρ : Operand → Value} {x y : Operand} {m n : Int} {t t2 : TypeId} {k : IntKind}
theorem run_ineq (hx : ρ x = .int k m) (hy : ρ y = .int k n) (ht : P.underlying t = some (.int k)) (ho : o.op = .binOp .neq t x y t2) : (execOp ρ o).run P w = .ok (.value (.bool (m != n))) w := by
  simp [execOp, ho, hx, hy, go_sem, ht]
end
end Go.Pl
namespace Go.Proofs.Ytiainjcimmeedaa
open Go.RowKit Go.Pl Go.Geo

section
variable {w w' : World} {B e s n : Nat} {v : Value} {xs : List Value}
theorem own_lt (h : w.ownsRow B e s v n xs) {k : Nat} (hk : v.ownBlock = some k) : B ≤ k ∧ k < w.heap.size := by
  rcases h.2 with ⟨rfl, _⟩ | ⟨g, cap, cur, rfl, h1, h2, _⟩
  · cases hk
  · cases hk; exact ⟨h1, lt_of_blk h2⟩
theorem own_fr (h : w.ownsRow B e s v n xs) {F : Nat → Prop} (hf : Fr F w w') (hn : ∀ k, v.ownBlock = some k → ¬ F k) : w'.ownsRow B e s v n xs := by
  refine ⟨h.1, ?_⟩
  rcases h.2 with h1 | ⟨g, cap, cur, h1, h2, h3, h4⟩
  · exact .inl h1
  · exact .inr ⟨g, cap, cur, h1, h2, hf.obj h3 (hn g (by rw [h1]; rfl)), h4⟩
theorem own_base (h : w.ownsRow B e s v n xs) {C : Nat} (hC : C ≤ B) : w.ownsRow C e s v n xs := by
  refine ⟨h.1, ?_⟩
  rcases h.2 with h1 | ⟨g, cap, cur, h1, h2, h3⟩
  · exact .inl h1
  · exact .inr ⟨g, cap, cur, h1, Nat.le_trans hC h2, h3⟩
theorem own_slice (h : w.ownsRow B e s v n xs) : ∃ p c, v = .slice p n c := by
  rcases h.2 with ⟨h1, h2⟩ | ⟨g, cap, cur, h1, _⟩
  · subst h2; exact ⟨_, _, h1⟩
  · exact ⟨_, _, h1⟩
end

/-- Rows of items and of meetings of the call's own. -/
def oI (w : World) (B : Nat) (v : Value) (L : List It) : Prop := w.ownsRow B 49 9 v L.length (L.flatMap itC)
def oM (w : World) (B : Nat) (v : Value) (L : List Mt) : Prop := w.ownsRow B 36 3 v L.length (L.flatMap mtC)

section
variable {o : Oper} {w : World} {ρ : Operand → Value} {x y : Operand} {b off : Nat}
theorem itB.bd {a : It} (h : itB w b a) : w.rangeAt b 7 [.int .i64 a.yl, .int .i64 a.yh] := by
  intro j v hv
  rw [cell_of_blk h]
  match j, hv with
  | 0, hv => exact hv
  | 1, hv => exact hv
  | j + 2, hv => cases hv
theorem itB.sg {a : It} (h : itB w b a) : w.rangeAt b 1 (sgC a.s).toList := by
  intro j v hv
  rw [cell_of_blk h]
  match j, hv with
  | 0, hv => exact hv
  | 1, hv => exact hv
  | 2, hv => exact hv
  | 3, hv => exact hv
  | j + 4, hv => cases hv
theorem info46 : (Try.prog.info? 46).map (·.size) = some 2 := by kernel_rfl
theorem run_ld46 {m n : Int} (ho : o.op = .load 46 x) (hx : ρ x = .pointer (some ⟨b, off, none⟩)) (h : w.rangeAt b off [.int .i64 m, .int .i64 n]) : (execOp ρ o).run Try.prog w = .ok (.value (.agg (ptC (m, n)))) w := by
  have := run_loadAt_mid (P := Try.prog) w b off 46 [.int .i64 m, .int .i64 n] _ h Try.underlying46 rfl info46
  simp only [execOp, ho, hx, Sem.run_bind, this, Result.andThen_ok, Sem.run_pure]
theorem run_fn24 (ho : o.op = .makeFunc (.func 24) #[] #[x]) (hx : ρ x = .pointer (some ⟨b, 0, none⟩)) : (execOp ρ o).run Try.prog w = .ok (.value (.func (.func 24) #[] #[.pointer (some ⟨b, 0, none⟩)])) w := by
  simp [execOp, ho, hx, go_sem]
theorem fa32_0 (ho : o.op = .fieldAddr 32 x 0) (hx : ρ x = .pointer (some ⟨b, off, none⟩)) : (execOp ρ o).run Try.prog w = .ok (.value (.pointer (some ⟨b, off, none⟩))) w := by simp [execOp, ho, hx, go_sem]
theorem fa32_1 (ho : o.op = .fieldAddr 32 x 1) (hx : ρ x = .pointer (some ⟨b, off, none⟩)) : (execOp ρ o).run Try.prog w = .ok (.value (.pointer (some ⟨b, off + 1, none⟩))) w := by simp [execOp, ho, hx, go_sem]
end

section
variable {O : Array Oper} {Q : Exit → Act → World → Prop} {rest : List Oper} {o : Oper} {a : Act} {w : World} {n d : Nat} {L : List (Nat × Value)} {x y : Operand} {b : Nat}
theorem env_make44 {m : Nat} (E : Env n L a) (hd : o.dst = some d) (hn : d < n) (hf : (L.map (·.1)).contains d = false) (hw : Region.wanted o (yielded O a.tmps) = true) (ho : o.op = .makeSlice 44 x x) (hx : a.eval x = .int .i64 m) (hm : m ≤ 20000)
    (k : ∀ a' w' b, w.heap.size = b → rowB w' b m (List.replicate m default) → Fr (fun _ => False) w w' → Env n ((d, .slice (some ⟨b, 0, none⟩) m m) :: L) a' → wpList Try.prog O Q rest a' w') : wpList Try.prog O Q (o :: rest) a w := by
  obtain ⟨w', h1, h2, h3⟩ := run_make44 (w := w) ho hx hm
  exact env_put E hd hn hf hw h1 fun a' E' => k a' _ _ rfl h2 h3 E'
theorem env_alloc34 (E : Env n L a) (hd : o.dst = some d) (hn : d < n) (hf : (L.map (·.1)).contains d = false) (hw : Region.wanted o (yielded O a.tmps) = true) (ho : o.op = .alloc 34)
    (k : ∀ a' w' b, w.heap.size = b → sgB w' b ((0, 0), (0, 0)) → Fr (fun _ => False) w w' → Env n ((d, .pointer (some ⟨b, 0, none⟩)) :: L) a' → wpList Try.prog O Q rest a' w') : wpList Try.prog O Q (o :: rest) a w :=
  env_put E hd hn hf hw (run_alloc34 ho) fun a' E' => k a' _ _ rfl (blk_alloc_new _ _) ((Fr.refl _ _).alloc _) E'
theorem env_one36 {m : Mt} (E : Env n L a) (hd : o.dst = some d) (hn : d < n) (hf : (L.map (·.1)).contains d = false) (hw : Region.wanted o (yielded O a.tmps) = true) (ho : o.op = .buildSlice 24 1 #[(0, x)]) (hx : a.eval x = .agg (mtC m).toArray)
    (k : ∀ a' w' b, w.heap.size = b → mtB w' b m → Fr (fun _ => False) w w' → Env n ((d, .slice (some ⟨b, 0, none⟩) 1 1) :: L) a' → wpList Try.prog O Q rest a' w') : wpList Try.prog O Q (o :: rest) a w :=
  env_put E hd hn hf hw (run_one36 ho hx) fun a' E' => k a' _ _ rfl (blk_alloc_new _ _) ((Fr.refl _ _).alloc _) E'
theorem env_one49 {m : It} (E : Env n L a) (hd : o.dst = some d) (hn : d < n) (hf : (L.map (·.1)).contains d = false) (hw : Region.wanted o (yielded O a.tmps) = true) (ho : o.op = .buildSlice 44 1 #[(0, x)]) (hx : a.eval x = .agg (itC m).toArray)
    (k : ∀ a' w' b, w.heap.size = b → itB w' b m → Fr (fun _ => False) w w' → Env n ((d, .slice (some ⟨b, 0, none⟩) 1 1) :: L) a' → wpList Try.prog O Q rest a' w') : wpList Try.prog O Q (o :: rest) a w :=
  env_put E hd hn hf hw (run_one49 ho hx) fun a' E' => k a' _ _ rfl (blk_alloc_new _ _) ((Fr.refl _ _).alloc _) E'
theorem env_app36 {B : Nat} {v : Value} {A : List Mt} {m : Mt} (E : Env n L a) (hd : o.dst = some d) (hn : d < n) (hf : (L.map (·.1)).contains d = false) (hg : o.guard = none) (ho : o.op = .call { callee := .builtin .append, args := #[x, y], argTypes := #[24, 24] }) (hx : a.eval x = v) (hv : oM w B v A) (hy : a.eval y = .slice (some ⟨b, 0, none⟩) 1 1) (hb : mtB w b m) (hl : A.length ≤ 400000000) (hB : B ≤ w.heap.size)
    (k : ∀ a' w' v', oM w' B v' (A ++ [m]) → Fr (fun k => v.ownBlock = some k) w w' → (v'.ownBlock = v.ownBlock ∨ v'.ownBlock = some w.heap.size) → Env n ((d, v') :: L) a' → wpList Try.prog O Q rest a' w') : wpList Try.prog O Q (o :: rest) a w := by
  obtain ⟨i, hi, hz, h1, h2⟩ := parts_of inf36
  refine wpList_append_own_at w hg _ _ 24 ho B 36 i _ 3 24 Try.underlying24 hi hz h1 h2 rfl (by decide) v A.length _ hx hv ⟨b, 0, none⟩ 1 1 (mtC m) hy rfl (fun j u hu => ?_) (fun u hu => ?_) (by unfold maxLen; omega) (by omega) hB fun v' w' c1 c2 c3 c4 => ?_
  · rw [show (⟨b, 0, none⟩ : Addr).add j = ⟨b, j, none⟩ by simp [Addr.add]; exact fun h => h.symm, cell_of_blk hb]; simpa using hu
  · simp only [mtC, List.mem_cons, List.not_mem_nil, or_false] at hu
    rcases hu with rfl | rfl | rfl <;> rfl
  · rw [hd]
    refine k _ w' v' ?_ ((Fr.refl _ _).grown c2 fun k hk _ => hk) c4 (E.put hn hf)
    unfold oM
    rw [List.length_append, List.flatMap_append]
    simpa using c1
theorem env_app49 {B : Nat} {v : Value} {A : List It} {m : It} (E : Env n L a) (hd : o.dst = some d) (hn : d < n) (hf : (L.map (·.1)).contains d = false) (hg : o.guard = none) (ho : o.op = .call { callee := .builtin .append, args := #[x, y], argTypes := #[44, 44] }) (hx : a.eval x = v) (hv : oI w B v A) (hy : a.eval y = .slice (some ⟨b, 0, none⟩) 1 1) (hb : itB w b m) (hl : A.length ≤ 400000000) (hB : B ≤ w.heap.size)
    (k : ∀ a' w' v', oI w' B v' (A ++ [m]) → Fr (fun k => v.ownBlock = some k) w w' → (v'.ownBlock = v.ownBlock ∨ v'.ownBlock = some w.heap.size) → Env n ((d, v') :: L) a' → wpList Try.prog O Q rest a' w') : wpList Try.prog O Q (o :: rest) a w := by
  obtain ⟨i, hi, hz, h1, h2⟩ := parts_of inf49
  refine wpList_append_own_at w hg _ _ 44 ho B 49 i _ 9 72 Try.underlying44 hi hz h1 h2 rfl (by decide) v A.length _ hx hv ⟨b, 0, none⟩ 1 1 (itC m) hy rfl (fun j u hu => ?_) (fun u hu => ?_) (by unfold maxLen; omega) (by omega) hB fun v' w' c1 c2 c3 c4 => ?_
  · rw [show (⟨b, 0, none⟩ : Addr).add j = ⟨b, j, none⟩ by simp [Addr.add]; exact fun h => h.symm, cell_of_blk hb]; simpa using hu
  · simp only [itC, List.mem_cons, List.not_mem_nil, or_false] at hu
    rcases hu with rfl | rfl | rfl | rfl | rfl | rfl | rfl | rfl | rfl <;> rfl
  · rw [hd]
    refine k _ w' v' ?_ ((Fr.refl _ _).grown c2 fun k hk _ => hk) c4 (E.put hn hf)
    unfold oI
    rw [List.length_append, List.flatMap_append]
    simpa using c1
end

/-! ### the plain side -/
section
variable (l : List Sg)
theorem near_eq (s t : Sg) : (∀ p ∈ [s.1, s.2, t.1, t.2], nearP p) ↔ (∀ p ∈ [t.1, t.2, s.1, s.2], nearP p) := by
  constructor <;> (intro h p hp; simp only [List.mem_cons, List.not_mem_nil, or_false] at hp; apply h; rcases hp with hp | hp | hp | hp <;> simp [hp])
theorem meetsN_comm (s t : Sg) : meetsN s t = meetsN t s := by
  unfold meetsN
  rw [meetsF_eq, meetsF_eq, kindR_comm]
  by_cases h : ∀ p ∈ [s.1, s.2, t.1, t.2], nearP p
  · rw [if_pos h, if_pos ((near_eq s t).1 h)]
  · rw [if_neg h, if_neg (fun h2 => h ((near_eq s t).2 h2))]
theorem kAt_comm (a b : Fin l.length) : kAt l a b = kAt l b a := meetsN_comm _ _
theorem kAt_x (a b : Fin l.length) (h : (itAt l b).xh < (itAt l a).xl) : kAt l a b = 0 := by
  rw [kAt_comm]
  have h0 : kindR l[b] l[a] = 0 := apart_x h
  unfold kAt meetsN
  rw [meetsF_eq, h0]
  split <;> rfl
theorem kAt_y (a b : Fin l.length) (h : yAt l a b = false) : kAt l a b = 0 := by
  unfold yAt bdM at h
  rw [Bool.and_eq_false_iff, decide_eq_false_iff_not, decide_eq_false_iff_not] at h
  simp only [Int.not_le] at h
  rcases h with h | h
  · have h0 : kindR l[b] l[a] = 0 := apart_y h
    rw [kAt_comm]; unfold kAt meetsN; rw [meetsF_eq, h0]; split <;> rfl
  · have h0 : kindR l[a] l[b] = 0 := apart_y h
    unfold kAt meetsN; rw [meetsF_eq, h0]; split <;> rfl
abbrev runL (I : List (Fin l.length)) : List (Fin l.length) × List (Fin l.length × Fin l.length) := Swp.runS (fun i => (itAt l i).xl) (fun i => (itAt l i).xh) (kAt l) (yAt l) I
abbrev stayL (A : List (Fin l.length)) (a : Fin l.length) : List (Fin l.length) := Swp.stay (fun i => (itAt l i).xl) (fun i => (itAt l i).xh) A a
abbrev hitL (a b : Fin l.length) : Option (Fin l.length × Fin l.length) := Swp.hit (kAt l) (yAt l) a b
theorem run_len (I : List (Fin l.length)) : (runL l I).1.length ≤ I.length ∧ (runL l I).2.length ≤ I.length * I.length := by
  induction I using Swp.snoc_ind with
  | nil => exact ⟨Nat.le_refl _, Nat.le_refl _⟩
  | snoc I a ih =>
    unfold runL at ih ⊢
    rw [Swp.runS_snoc]
    unfold Swp.stepS
    simp only [List.length_append, List.length_singleton]
    have h1 : (Swp.stay (fun i => (itAt l i).xl) (fun i => (itAt l i).xh) (Swp.runS (fun i => (itAt l i).xl) (fun i => (itAt l i).xh) (kAt l) (yAt l) I).1 a).length ≤ (Swp.runS (fun i => (itAt l i).xl) (fun i => (itAt l i).xh) (kAt l) (yAt l) I).1.length := List.length_filter_le _ _
    have h2 := List.length_filterMap_le (Swp.hit (kAt l) (yAt l) a) (Swp.stay (fun i => (itAt l i).xl) (fun i => (itAt l i).xh) (Swp.runS (fun i => (itAt l i).xl) (fun i => (itAt l i).xh) (kAt l) (yAt l) I).1 a)
    refine ⟨by omega, ?_⟩
    have e : (I.length + 1) * (I.length + 1) = I.length * I.length + I.length + I.length + 1 := by rw [Nat.mul_succ, Nat.succ_mul]; omega
    omega
theorem out_spec (hn : l.length ≤ 20000) {I : List (Fin l.length)} (hp : I.Perm (List.finRange l.length)) (hs : I.Pairwise fun x y => (itAt l x).xl ≤ (itAt l y).xl) {O : List (Fin l.length × Fin l.length)} (ho : O.Perm (runL l I).2) (hso : O.Pairwise fun x y => ¬ cfM (mtAt l y) (mtAt l x) < 0) : O.map (mtAt l) = outL l := by
  unfold outL
  congr 1
  refine Swp.sweep_spec (xl := fun i => (itAt l i).xl) (xh := fun i => (itAt l i).xh) (K := kAt l) (Y := yAt l) (kAt_x l) (kAt_y l) (kAt_comm l) hp hs ho (hso.imp fun {x y} h => ?_)
  rw [cfM_neg] at h
  have v : ∀ i : Fin l.length, (Fin.ofNat 20000 i.val).val = i.val := fun i => Nat.mod_eq_of_lt (by have := i.isLt; omega)
  have e1 : (mtAt l x).a.val = x.1.val := v _
  have e2 : (mtAt l x).b.val = x.2.val := v _
  have e3 : (mtAt l y).a.val = y.1.val := v _
  have e4 : (mtAt l y).b.val = y.2.val := v _
  rw [e1, e2, e3, e4] at h
  unfold Swp.lt2
  simp only [Bool.or_eq_false_iff, Bool.and_eq_false_iff, decide_eq_false_iff_not]
  refine ⟨fun h2 => h (.inl h2), ?_⟩
  by_cases h3 : y.1 = x.1
  · exact .inr fun h4 => h (.inr ⟨by rw [h3], h4⟩)
  · exact .inl h3
theorem pair_min (hn : l.length ≤ 20000) (a b : Fin l.length) : min (itAt l a).n (itAt l b).n = ((mtAt l (Swp.pairOf a b)).a.val : Int) ∧ max (itAt l a).n (itAt l b).n = ((mtAt l (Swp.pairOf a b)).b.val : Int) ∧ kAt l a b = (mtAt l (Swp.pairOf a b)).k := by
  have v : ∀ i : Fin l.length, ((Fin.ofNat 20000 i.val).val : Int) = i.val := fun i => by rw [show (Fin.ofNat 20000 i.val).val = i.val from Nat.mod_eq_of_lt (by have := i.isLt; omega)]
  rw [itAt_n hn, itAt_n hn]
  unfold Swp.pairOf mtAt
  split
  · rename_i h
    have h : a.val ≤ b.val := h
    refine ⟨?_, ?_, rfl⟩
    · simp only; rw [v]; omega
    · simp only; rw [v]; omega
  · rename_i h
    have h : ¬ a.val ≤ b.val := h
    refine ⟨?_, ?_, kAt_comm l a b⟩
    · simp only; rw [v]; omega
    · simp only; rw [v]; omega
end
end Go.Proofs.Ytiainjcimmeedaa
