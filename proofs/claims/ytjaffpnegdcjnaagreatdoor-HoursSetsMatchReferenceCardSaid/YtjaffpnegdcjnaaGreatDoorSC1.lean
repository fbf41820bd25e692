/- The reader: names, numbers; panics. -/
import Derived.Test.YtjaffpnegdcjnaaGreatDoorSB4
import Derived.Test.YtjaffpnegdcjnaaGreatDoorSLib
set_option linter.unusedVariables false
set_option linter.unusedSimpArgs false
namespace Go.Proofs.YtjaffpnegdcjnaaGreatDoor
open Go.RowKit Go.Pl Go.Sort Go.Shelf
section
variable {P : Program} {O : Array Oper} {Q Q1 : Exit → Act → World → Prop} {rest : List Oper} {o : Oper} {a : Act} {w : World} {n : Nat} {L : List (Nat × Value)} {ds : List Deferred} {next : Act → World → Prop} {ch : List PanicEntry} {id : Nat}
/-- A call that panics. -/
theorem env_callp {f : FuncId} {args : Array Value} {R : World → Prop} (hw : Region.wanted o (yielded O a.tmps) = true) (hr : (execOp a.eval o).run P w = .ok (.enter f args) w) (hc : Calls P f args w fun e w' => e = .panicked ch ∧ R w') (k : ∀ w', R w' → Q (.panic ch) a w') : wpList P O Q (o :: rest) a w := by
 simp only [wpList, hw, if_true]
 left
 unfold Oper.wp
 rw [hr, Oper.upon_enter]
 refine hc.mono ?_
 rintro e w' ⟨rfl, hR⟩
 exact k w' hR
theorem env_panic {v : Value} (hw : Region.wanted o (yielded O a.tmps) = true) (hr : (execOp a.eval o).run P w = .halt (.panic v) w) (h : Q (.panic [{ v := v, recovered := false }]) a w) : wpList P O Q (o :: rest) a w := by
 simp only [wpList, hw, if_true]
 left
 unfold Oper.wp
 rw [hr, Oper.upon_panic]
 exact h
theorem then_p (h : Q1 (.panic ch) a w) : Exit.then next Q1 (.panic ch) a w := h
theorem blk_p (h : Q1 (.panic ch) a w) : Exit.inBlock id Q1 (.panic ch) a w := h
theorem pan_end {fn : Func} {R : Ending → World → Prop} (E : Env n L a) (h : R (.panicked ch) w) : bodyPost P fn R (.panic ch) a w := ⟨E.df, h⟩
end
/-- The problem that is raised. -/
abbrev prob (c x : Int) : Value := .iface 54 (.agg #[.int .i64 c, .int .i64 x])
abbrev pn (c x : Int) : List PanicEntry := [{ v := prob c x, recovered := false }]
section
variable {o : Oper} {w : World} {ρ : Operand → Value} {x y z : Operand}
theorem run_mkif54 {v : Value} (ho : o.op = .makeInterface 54 x) (hx : ρ x = v) : (execOp ρ o).run Tryz.prog w = .ok (.value (.iface 54 v)) w := by
 simp [execOp, ho, hx, go_sem]
theorem run_panic {v : Value} {T : TypeId} (ho : o.op = .panic x) (hx : ρ x = .iface T v) : (execOp ρ o).run Tryz.prog w = .halt (.panic (.iface T v)) w := by
 simp [execOp, ho, hx, go_sem]
theorem run_tail34 {g off n c : Nat} (ho : o.op = .slice 34 x (some y) none none) (hx : ρ x = .slice (some ⟨g, off, none⟩) n c) (hy : ρ y = .int .i64 1) (hn : 1 ≤ n) (hc : n ≤ c) :
  ∃ q, (execOp ρ o).run Tryz.prog w = .ok (.value (.slice q (n - 1) (c - 1))) w ∧ q ≠ none ∧ ∀ {G : Nat} {L : List (Tok Int)}, L.length = n → srcAt tkL 3 w G (some ⟨g, off, none⟩) L → srcAt tkL 3 w G q (L.drop 1) := by
 have h1 : (1 : Int) ≤ n := by omega
 have h2 : (n : Int) ≤ c := by omega
 by_cases h3 : c = 1
 ·subst h3
  obtain rfl : n = 1 := by omega
  refine ⟨some ⟨g, off, none⟩, by simp [execOp, ho, hx, hy, go_sem, Addr.add], by simp, fun {G L} hl hs => .inl ?_⟩
  exact List.eq_nil_of_length_eq_zero (by simp [hl])
 ·refine ⟨some ⟨g, off + 3, none⟩, by simp [execOp, ho, hx, hy, go_sem, h1, h2, h3, Addr.add], by simp, fun {G L} hl hs => ?_⟩
  rcases hs with rfl | ⟨g', off', he, hg, hs⟩
  ·simp at hl; omega
  ·cases he
   refine .inr ⟨g, off + 3, rfl, hg, fun i t ht => ?_⟩
   rw [List.getElem?_drop] at ht
   have := hs (1 + i) t ht
   rwa [show off + (1 + i) * 3 = off + 3 + i * 3 by omega] at this
theorem run_fd38_1 {t : Tok Int} (ho : o.op = .field 38 x 1) (hx : ρ x = .agg (tkA t)) : (execOp ρ o).run Tryz.prog w = .ok (.value (.string (ofL t.2.1))) w := by
 have hu := fun w => run_underlying Tryz.underlying38 (w := w)
 simp [execOp, ho, hx, go_sem, Instr.field, hu, asAgg]
end
theorem bytesW_fr (w : World) (e : TypeId) (s : ByteArray) : Fr (fun _ => False) w (Lib.bytesWorld w e s) := by
 refine ⟨rfl, rfl, rfl, ?_, fun r hr _ => ?_⟩
 ·simp [Lib.bytesWorld, World.freeze]
 ·have hne : w.heap.size ≠ r := by omega
  show ((w.drew.alloc _).heap.modify w.heap.size _)[r]? = _
  rw [Array.getElem?_modify, if_neg hne]
  exact (blk_alloc (by simpa using hr) _)
theorem wp_start0 {P : Program} {f : FuncId} {fn : Func} {c : Code} {R : Ending → World → Prop} {n : Nat} {w : World} (hf : P.funcs[f]? = some fn) (hb : fn.body = some c) (hn : fn.ntmps = n) (h2 : 0 ≤ n) (k : ∀ a, Env n [] a → c.wp P (bodyPost P fn R) a w) : Calls P f #[] w R := by
 refine calls_of_wp hf hb (k _ ⟨?_, ?_, rfl⟩)
 ·simp [hn]
 ·intro x hx; cases hx
theorem idx_go : ∀ (xs : List Bys) (y : Bys) (i : Nat), Lib.idxFromS (xs.map ofL) (ofL y) i = if xs.contains y then ((i + xs.findIdx (· == y) : Nat) : Int) else -1 := by
 intro xs y
 induction xs with
 | nil => intro i; rfl
 | cons x xs ih =>
  intro i
  simp only [List.map_cons, Lib.idxFromS, ofL_inj, List.contains_cons, List.findIdx_cons]
  by_cases h : x = y
  ·subst h; simp
  ·rw [if_neg h, ih]
   have e : (y == x) = false := by simpa using fun e => h e.symm
   have e2 : (x == y) = false := by simpa using h
   rw [e, e2]
   simp only [Bool.false_or, cond_false]
   split
   ·omega
   ·rfl
theorem idxS_eq (xs : List Bys) (y : Bys) : Lib.idxOfS (xs.map ofL) (ofL y) = if xs.contains y then ((xs.findIdx (· == y) : Nat) : Int) else -1 := by
 have := idx_go xs y 0
 rwa [Nat.zero_add] at this
theorem containsS_eq (xs : List Bys) (y : Bys) : Lib.containsS (xs.map ofL) (ofL y) = xs.contains y := by
 unfold Lib.containsS
 rw [idxS_eq]
 cases h : xs.contains y
 ·simp
 ·rw [if_pos rfl, decide_eq_true (by omega)]
theorem src_cells {w : World} {G : Nat} {p : Option Addr} {g off : Nat} {xs : List Bys} (h : srcAt stL 1 w G p xs) (hp : p = some ⟨g, off, none⟩) : ∀ j, j < (xs.map ofL).length → w.cell? ⟨g, off + j, none⟩ = some (.string ((xs.map ofL).getD j ByteArray.empty)) := by
 intro j hj
 rw [List.length_map] at hj
 obtain ⟨g', off', he, _, hs⟩ := h.at hj
 rw [hp] at he
 cases he
 have := hs j xs[j] (List.getElem?_eq_getElem hj) 0 _ rfl
 rw [Nat.mul_one, Nat.add_zero] at this
 rw [this]
 simp [List.getD, List.getElem?_eq_getElem hj]
theorem contains_calls {w : World} {v : Value} {xs : List Bys} {y : Bys} (h : StV w v xs) : Calls Tryz.prog 78 #[v, .string (ofL y)] w fun e w' => e = .returned (.bool (xs.contains y)) ∧ Fr (fun _ => False) w w' := by
 obtain ⟨p, c, rfl, h1, h2, h3, h4⟩ := h
 by_cases hx : xs = []
 ·subst hx
  exact (Tryz.slices_Contains_string_empty p c (ofL y) w).mono fun e w' h => ⟨h.1, by rw [h.2]; exact Fr.refl _ _⟩
 ·obtain ⟨g, off, rfl, _, _⟩ := h3.resolve_left hx
  refine (Tryz.slices_Contains_string g off xs.length c (xs.map ofL) (ofL y) w (by simp) (by omega) (src_cells h3 rfl)).mono fun e w' h => ⟨?_, by rw [h.2]; exact Fr.refl _ _⟩
  rw [h.1, List.take_of_length_le (by simp), containsS_eq]
theorem index_calls {w : World} {v : Value} {xs : List Bys} {y : Bys} (h : StV w v xs) (hy : y ∈ xs) : Calls Tryz.prog 79 #[v, .string (ofL y)] w fun e w' => e = .returned (.int .i64 ((xs.findIdx (· == y) : Nat) : Int)) ∧ Fr (fun _ => False) w w' := by
 obtain ⟨p, c, rfl, h1, h2, h3, h4⟩ := h
 have hx : xs ≠ [] := List.ne_nil_of_mem hy
 obtain ⟨g, off, rfl, _, _⟩ := h3.resolve_left hx
 refine (Tryz.slices_Index_string g off xs.length c (xs.map ofL) (ofL y) w (by simp) (by omega) (src_cells h3 rfl)).mono fun e w' h => ⟨?_, by rw [h.2]; exact Fr.refl _ _⟩
 rw [h.1, List.take_of_length_le (by simp), idxS_eq, if_pos (by simpa using hy)]
/-- The tables of the library. -/
def Tb (w : World) : Prop := Lib.TabIs Tryz.prog w "internal/strconv.uint64pow10" .u64 Lib.pow10Tab ∧ Lib.TabIs Tryz.prog w "strings.asciiSpace" .u8 Lib.asciiSpaceTab
theorem var_fr {w w' : World} {F : Nat → Prop} {n : String} {cs : Array Value} {g : Nat} (hg : Tryz.prog.globalNamed n = some g) (h : w.var? Tryz.prog n = some cs) (f : Fr F w w') (hF : ¬ F g) : w'.var? Tryz.prog n = some cs := by
 unfold World.var? at h ⊢
 rw [hg] at h ⊢
 simp only [Option.bind_some] at h ⊢
 cases hb : w.heap[g]? with
 | none => rw [hb] at h; cases h
 | some ob => rw [f.obj hb hF, ← hb]; exact h
theorem Tb.fr {w w' : World} {F : Nat → Prop} (h : Tb w) (f : Fr F w w') (hF : ∀ r, r < 4 → ¬ F r) : Tb w' :=
 ⟨var_fr (g := 3) (by kernel_rfl) h.1 f (hF _ (by decide)), var_fr (g := 0) (by kernel_rfl) h.2 f (hF _ (by decide))⟩
theorem dec_go : ∀ (l : Bys) (acc : Nat), (∀ b ∈ l, isDig b = true) → ∃ n : Nat, Lib.decFrom acc l = some n ∧ (n : Int) = l.foldl (fun n b => 10 * n + ((b.toNat : Int) - 48)) (acc : Int) := by
 intro l
 induction l with
 | nil => intro acc _; exact ⟨acc, rfl, rfl⟩
 | cons c l ih =>
  intro acc h
  have hc := h c List.mem_cons_self
  have h1 : 48 ≤ c.toNat ∧ c.toNat ≤ 57 := by
   unfold isDig at hc
   rw [Bool.and_eq_true] at hc
   exact ⟨UInt8.le_iff_toNat_le.1 (of_decide_eq_true hc.1), UInt8.le_iff_toNat_le.1 (of_decide_eq_true hc.2)⟩
  obtain ⟨n, h2, h3⟩ := ih (acc * 10 + (c.toNat - 48)) fun b hb => h b (List.mem_cons_of_mem _ hb)
  refine ⟨n, ?_, ?_⟩
  ·simp only [Lib.decFrom, Lib.digitVal, h1, and_self, if_true]; exact h2
  ·rw [h3, List.foldl_cons]
   congr 1
   omega
theorem atoi_num {l : Bys} (h0 : l ≠ []) (h : ∀ b ∈ l, isDig b = true) : Lib.atoi l = some (numT l) := by
 obtain ⟨c, r, rfl⟩ := List.exists_cons_of_ne_nil h0
 have hc := h c List.mem_cons_self
 have h1 : 48 ≤ c.toNat ∧ c.toNat ≤ 57 := by
  unfold isDig at hc
  rw [Bool.and_eq_true] at hc
  exact ⟨UInt8.le_iff_toNat_le.1 (of_decide_eq_true hc.1), UInt8.le_iff_toNat_le.1 (of_decide_eq_true hc.2)⟩
 have e1 : (c == 45) = false := by
  rw [beq_eq_false_iff_ne]; rintro rfl; simp at h1
 have e2 : (c == 43) = false := by
  rw [beq_eq_false_iff_ne]; rintro rfl; simp at h1
 obtain ⟨n, h2, h3⟩ := dec_go (c :: r) 0 h
 unfold Lib.atoi
 simp only [e1, e2, Bool.false_eq_true, if_false]
 unfold Lib.decNat
 simp only [List.isEmpty_cons, Bool.false_eq_true, if_false, h2, Option.map_some, Option.some.injEq]
 rw [h3]
 rfl
theorem num_le {l : Bys} (h : ∀ b ∈ l, isDig b = true) (hl : l.length ≤ 7) : numT l ≤ 9999999 := by
 have : ∀ (l : Bys) (n : Int), 0 ≤ n → (∀ b ∈ l, isDig b = true) → l.foldl (fun n b => 10 * n + ((b.toNat : Int) - 48)) n ≤ (n + 1) * 10 ^ l.length - 1 := by
  intro l
  induction l with
  | nil => intro n _ _; simp
  | cons c l ih =>
   intro n hn hd
   have hc := hd c List.mem_cons_self
   have h1 : 48 ≤ c.toNat ∧ c.toNat ≤ 57 := by
    unfold isDig at hc
    rw [Bool.and_eq_true] at hc
    exact ⟨UInt8.le_iff_toNat_le.1 (of_decide_eq_true hc.1), UInt8.le_iff_toNat_le.1 (of_decide_eq_true hc.2)⟩
   have := ih (10 * n + ((c.toNat : Int) - 48)) (by omega) fun b hb => hd b (List.mem_cons_of_mem _ hb)
   rw [List.foldl_cons]
   refine Int.le_trans this ?_
   rw [List.length_cons, Int.pow_succ]
   have hp : (0 : Int) < 10 ^ l.length := Int.pow_pos (by omega)
   have : (10 * n + ((c.toNat : Int) - 48) + 1) * 10 ^ l.length ≤ ((n + 1) * 10) * 10 ^ l.length := Int.mul_le_mul_of_nonneg_right (by omega) (Int.le_of_lt hp)
   have e : (n + 1) * (10 ^ l.length * 10) = ((n + 1) * 10) * 10 ^ l.length := by rw [Int.mul_comm (10 ^ l.length), Int.mul_assoc]
   omega
 have h1 := this l 0 (Int.le_refl _) h
 have h2 : (10 : Int) ^ l.length ≤ 10 ^ 7 := by
  have : (10 : Nat) ^ l.length ≤ 10 ^ 7 := Nat.pow_le_pow_right (by omega) hl
  exact_mod_cast this
 simp only [Int.zero_add, Int.one_mul] at h1
 have e : (10 : Int) ^ 7 = 10000000 := by decide
 unfold numT
 omega
/-- What the reader reads: the tokens that are left lie outside it. -/
def TkS (w : World) (G : Nat) (v : Value) (ts : List (Tok Int)) : Prop := ∃ p cap, v = .slice p ts.length cap ∧ ts.length ≤ cap ∧ cap ≤ 9223372036854775807 ∧ srcAt tkL 3 w G p ts ∧ (p = none → cap = 0)
theorem TkS.fr {w w' : World} {G : Nat} {v : Value} {ts : List (Tok Int)} (h : TkS w G v ts) {F : Nat → Prop} (f : Fr F w w') (hF : ∀ r, r < G → ¬ F r) : TkS w' G v ts := by
 obtain ⟨p, c, h1, h2, h3, h4, h5⟩ := h
 exact ⟨p, c, h1, h2, h3, h4.fr f hF, h5⟩
def Rd (w : World) (rb G : Nat) (en : Int) (ts : List (Tok Int)) (sv : Value) : Prop := G ≤ rb ∧ ∃ lv, w.heap[rb]? = some (.cells #[lv, .int .i64 en, sv] 59 (0, 0)) ∧ TkS w G lv ts
theorem Rd.fr {w w' : World} {rb G : Nat} {en : Int} {ts : List (Tok Int)} {sv : Value} (h : Rd w rb G en ts sv) {F : Nat → Prop} (f : Fr F w w') (hF : ∀ r, r ≤ rb → ¬ F r) : Rd w' rb G en ts sv := by
 obtain ⟨h0, lv, h1, h2⟩ := h
 exact ⟨h0, lv, f.obj h1 (hF _ (Nat.le_refl _)), h2.fr f fun r hr => hF r (by omega)⟩
theorem Rd.lt {w : World} {rb G : Nat} {en : Int} {ts : List (Tok Int)} {sv : Value} (h : Rd w rb G en ts sv) : rb < w.heap.size := by
 obtain ⟨_, lv, h1, _⟩ := h
 exact lt_of_blk h1
/-- One string in a row. -/
theorem StV.one {w : World} {b : Nat} {s : Bys} (h : w.heap[b]? = some (.cells (stL s).toArray 9 (0, 0))) : StV w (.slice (some ⟨b, 0, none⟩) 1 1) [s] := ⟨_, 1, rfl, Nat.le_refl _, by omega, src_one (f := stL) h (lt_of_blk h), fun h => by cases h⟩
theorem info38r : (Tryz.prog.info? 38).map (·.size) = some 3 := by kernel_rfl
theorem ret_cell38 {fn : Func} {R : Ending → World → Prop} {n : Nat} {L : List (Nat × Value)} {a : Act} {w : World} {t : Tmp} {g : Nat} {s : Tok Int} (hr : fn.results = #[.cell t 38]) (E : Env n L a) (hv : a.eval (.tmp t) = .pointer (some ⟨g, 0, none⟩)) (h : w.heap[g]? = some (.cells (tkA s) 38 (0, 0))) (hR : R (.returned (.agg (tkA s))) w) : bodyPost Tryz.prog fn R .ret a w := by
 refine ⟨E.df, .agg (tkA s), ?_, hR⟩
 exact results_cell_row hr a.tmps w g 38 (tkA s) (0, 0) _ hv h Tryz.underlying38 rfl info38r
theorem env_tail34 {O : Array Oper} {Q : Exit → Act → World → Prop} {rest : List Oper} {o : Oper} {a : Act} {w : World} {m d g off n c : Nat} {L : List (Nat × Value)} {ds : List Deferred} {x y : Operand} (E : EnvD ds m L a) (hd : o.dst = some d) (hm : d < m) (hf : (L.map (·.1)).contains d = false) (hw : Region.wanted o (yielded O a.tmps) = true) (ho : o.op = .slice 34 x (some y) none none) (hx : a.eval x = .slice (some ⟨g, off, none⟩) n c) (hy : a.eval y = .int .i64 1) (hn : 1 ≤ n) (hc : n ≤ c)
  (k : ∀ a' q, q ≠ none → (∀ {G : Nat} {L : List (Tok Int)}, L.length = n → srcAt tkL 3 w G (some ⟨g, off, none⟩) L → srcAt tkL 3 w G q (L.drop 1)) → EnvD ds m ((d, .slice q (n - 1) (c - 1)) :: L) a' → wpList Tryz.prog O Q rest a' w) : wpList Tryz.prog O Q (o :: rest) a w := by
 obtain ⟨q, hr, h1, h2⟩ := run_tail34 (ρ := a.eval) (w := w) ho hx hy hn hc
 exact env_put E hd hm hf hw hr fun a' E' => k a' q h1 h2 E'
/-- The names of the days in memory. -/
def DaysAt (w : World) (b : Nat) : Prop := w.heap[b]? = some (.cells (days.map fun l => Value.string (ofL l)).toArray 9 (0, 0))
theorem DaysAt.st {w : World} {b : Nat} (h : DaysAt w b) : StV w (.slice (some ⟨b, 0, none⟩) 7 7) days := ⟨_, 7, rfl, Nat.le_refl _, by omega, .inr ⟨b, 0, rfl, lt_of_blk h, fun i z hz j u hu => by
 rw [cell_of_blk h]
 have hj : j = 0 := by
  have := (List.getElem?_eq_some_iff.1 hu).1
  simp [stL] at this; exact this
 subst hj
 simp only [stL, List.getElem?_cons_zero, Option.some.injEq] at hu
 subst hu
 simp [hz]⟩, fun h => by cases h⟩
theorem names_calls {w : World} (hT : Tb w) : Calls Tryz.prog 43 #[] w fun e w' => ∃ b, e = .returned (.slice (some ⟨b, 0, none⟩) 7 7) ∧ DaysAt w' b ∧ w.heap.size ≤ b ∧ Fr (fun _ => False) w w' := by
 have hfe : Lib.fields (ofL [109, 111, 32, 116, 117, 32, 119, 101, 32, 116, 104, 32, 102, 114, 32, 115, 97, 32, 115, 117]).data.toList = days := by decide +kernel
 have hF := Tryz.strings_Fields (ofL [109, 111, 32, 116, 117, 32, 119, 101, 32, 116, 104, 32, 102, 114, 32, 115, 97, 32, 115, 117]) w (by decide +kernel) (by
  intro j b hb
  have : ∀ b ∈ (ofL [109, 111, 32, 116, 117, 32, 119, 101, 32, 116, 104, 32, 102, 114, 32, 115, 97, 32, 115, 117]).data.toList, b.toNat < 128 := by decide +kernel
  exact this b (List.mem_of_getElem? hb)) hT.2
 rw [hfe] at hF
 refine wp_start0 Tryz.func43 rfl rfl (n := 2) (by decide) fun a E => ?_
 have hf : Fr (fun _ => False) w w := Fr.refl _ _
 refine wp_seq ?_
 refine wp_region_lit ?_
 refine ep (v := .slice none 0 0) E (run_assign rfl rfl) fun a E => ?_
 refine wpList_nil ?_
 refine then_n ?_
 refine wp_seq ?_
 refine wp_region_lit ?_
 refine env_callv (d := 1) (R := fun u w8 => ∃ b, u = .slice (some ⟨b, 0, none⟩) 7 7 ∧ DaysAt w8 b ∧ w.heap.size ≤ b ∧ Fr (fun _ => False) w w8) E rfl (by decide) rfl (wanted_none rfl _) (run_call1 (enters_of Tryz.func67 (by kernel_rfl) rfl) rfl rfl rfl) (hF.mono fun e w8 h => by obtain ⟨rfl, rfl⟩ := h; exact ⟨_, rfl, _, rfl, blk_alloc_new _ _, Nat.le_refl _, (Fr.refl _ _).alloc _⟩) fun a w1 u ⟨bd, hu, hbd, hbn, f1⟩ E => ?_
 subst hu
 have hf := hf.trans' f1 (fun _ _ h => h.elim)
 clear f1
 refine env_set (d := 0) (v := .slice (some ⟨bd, 0, none⟩) 7 7) E rfl (by decide) (wanted_none rfl _) (run_assign rfl (E.get 0 rfl)) fun a E => ?_
 refine wpList_nil ?_
 refine then_n ?_
 refine wp_ret ?_
 exact ret_tmp (t := 0) rfl E (E.get 0 rfl) ⟨_, rfl, hbd, hbn, hf⟩
set_option maxRecDepth 100000 in
set_option maxHeartbeats 4000000 in
theorem number_calls (t : Tok Int) (h0 : t.2.1 ≠ []) (hd : ∀ b ∈ t.2.1, isDig b = true) (hl : t.2.1.length ≤ 7) (w : World) : Calls Tryz.prog 99 #[.agg (tkA t)] w fun e w' => e = .returned (.int .i64 (numT t.2.1)) ∧ Fr (fun _ => False) w w' := by
 refine wp_start1 Tryz.func99 rfl rfl (n := 12) (by decide) fun a E => ?_
 have hf : Fr (fun _ => False) w w := Fr.refl _ _
 refine wp_seq ?_
 refine wp_region_lit ?_
 refine env_new (d := 1) E rfl (by decide) rfl (wanted_none rfl _) (run_box38 rfl (E.get 0 rfl)) fun a w1 b54 eb54 hb54 f1 E => ?_
 have hnb54 : w.heap.size ≤ b54 := by have := hf.size; omega
 have hf := hf.trans' f1 (fun _ _ h => h.elim)
 clear f1
 refine ep (v := .int .i64 0) E (run_assign rfl rfl) fun a E => ?_
 refine wpList_nil ?_
 refine then_n ?_
 refine wp_seq ?_
 refine wp_region_lit ?_
 refine ep (v := .pointer (some ⟨b54, 1, none⟩)) E (fa38_1 rfl (E.get 1 rfl)) fun a E => ?_
 refine ep (v := .string (ofL t.2.1)) E (run_lds rfl (E.get 0 rfl) (bx hb54 1 rfl)) fun a E => ?_
 refine env_callv (d := 8) (R := fun u w8 => u = .tuple #[.int .i64 (numT t.2.1), .nilIface] ∧ Fr (fun _ => False) w1 w8) E rfl (by decide) rfl (wanted_none rfl _) (run_call1 (enters_of Tryz.func108 (by kernel_rfl) rfl) rfl rfl (E.get 0 rfl)) ((Tryz.strconv_Atoi (ofL t.2.1) (numT t.2.1) (by rw [ofL_size]; omega) (by rw [show (ofL t.2.1).data.toList = t.2.1 from by simp [ofL]]; exact atoi_num h0 hd) _).mono fun e w8 h => by obtain ⟨rfl, t9, rfl⟩ := h; exact ⟨_, rfl, rfl, bytesW_fr _ _ _⟩) fun a w1 u ⟨hu, f1⟩ E => ?_
 subst hu
 have hb54 := f1.obj hb54 id
 have hf := hf.trans' f1 (fun _ _ h => h.elim)
 clear f1
 refine ep (v := .tuple #[.int .i64 (numT t.2.1), .nilIface]) E (run_move rfl (E.get 0 rfl)) fun a E => ?_
 refine ep (v := .int .i64 (numT t.2.1)) E (run_ext0 rfl (E.get 0 rfl)) fun a E => ?_
 refine ep (v := .nilIface) E (run_ext1 rfl (E.get 1 rfl)) fun a E => ?_
 refine ep (v := .int .i64 (numT t.2.1)) E (run_assign rfl (E.get 1 rfl)) fun a E => ?_
 refine ep (v := .nilIface) E (run_assign rfl (E.get 1 rfl)) fun a E => ?_
 refine wpList_nil ?_
 refine then_n ?_
 refine wp_seq ?_
 refine wp_region_lit ?_
 refine ep (v := .int .i64 (numT t.2.1)) E (run_move rfl (E.get 1 rfl)) fun a E => ?_
 refine env_set (d := 2) (v := .int .i64 (numT t.2.1)) E rfl (by decide) (wanted_none rfl _) (run_assign rfl (E.get 0 rfl)) fun a E => ?_
 refine wpList_nil ?_
 refine then_n ?_
 refine wp_ret ?_
 exact ret_tmp (t := 2) rfl E (E.get 0 rfl) ⟨rfl, hf⟩
theorem isEmpty_len {α : Type} (l : List α) : l.isEmpty = ((l.length : Int) == 0) := by
 cases l with
 | nil => rfl
 | cons x l =>
  have h : ¬ (((x :: l).length : Int) = 0) := by simp only [List.length_cons]; omega
  rw [beq_eq_false_iff_ne.2 h]; rfl
set_option maxRecDepth 100000 in
set_option maxHeartbeats 4000000 in
theorem sees_calls {w : World} {rb G : Nat} {en : Int} {ts : List (Tok Int)} {sv xv : Value} {xs : List Bys} (hR : Rd w rb G en ts sv) (hx : StV w xv xs) (k : Int) : Calls Tryz.prog 55 #[.pointer (some ⟨rb, 0, none⟩), .int .i64 k, xv] w fun e w' => e = .returned (.bool (sees k xs ts)) ∧ Fr (fun _ => False) w w' := by
 obtain ⟨hGr, lv, hrb, pl, cl, hlv, hlv0, hlv1, hts, hzl⟩ := hR
 subst hlv
 have hrl := lt_of_blk hrb
 obtain ⟨px, cx, hxv, hlex, hcapx, hsx, hzx⟩ := hx
 subst hxv
 refine wp_start3 Tryz.func55 rfl rfl (n := 40) (by decide) fun a E => ?_
 have hf : Fr (fun _ => False) w w := Fr.refl _ _
 refine wp_seq ?_
 refine wp_region_lit ?_
 refine ep (v := .bool false) E (run_assign rfl rfl) fun a E => ?_
 refine wpList_nil ?_
 refine then_n ?_
 refine wp_seq ?_
 refine wp_region_lit ?_
 refine ep (v := .pointer (some ⟨rb, 0, none⟩)) E (run_move rfl (E.get 1 rfl)) fun a E => ?_
 refine ep (v := .pointer (some ⟨rb, 0, none⟩)) E (run_nilchk rfl (E.get 0 rfl)) fun a E => ?_
 refine ep (v := .pointer (some ⟨rb, 0, none⟩)) E (fa57_0 rfl (E.get 0 rfl)) fun a E => ?_
 refine ep (v := .slice (pl) ts.length cl) E (run_ld34 rfl (E.get 0 rfl) (bx hrb 0 rfl)) fun a E => ?_
 refine ep (v := .int .i64 (ts.length : Int)) E (run_len34 rfl (E.get 0 rfl)) fun a E => ?_
 refine ep (v := .bool (decide (0 < (ts.length : Int)))) E (run_igtr (E.get 0 rfl) rfl Tryz.underlying3 rfl) fun a E => ?_
 refine ep (v := .bool (decide (0 < (ts.length : Int)))) E (run_move rfl (E.get 0 rfl)) fun a E => ?_
 cases hq55 : (decide (0 < (ts.length : Int))) with
 | false =>
  rw [hq55] at E
  have hnil : ts = [] := List.eq_nil_of_length_eq_zero (by have := of_decide_eq_false hq55; omega)
  refine ek E rfl (E.get 0 rfl) fun a E => ?_
  refine ek E rfl (E.get 1 rfl) fun a E => ?_
  refine ek E rfl (E.get 2 rfl) fun a E => ?_
  refine ek E rfl (E.get 3 rfl) fun a E => ?_
  refine ek E rfl (E.get 4 rfl) fun a E => ?_
  refine ek E rfl (E.get 5 rfl) fun a E => ?_
  refine ek E rfl (E.get 6 rfl) fun a E => ?_
  refine ek E rfl (E.get 7 rfl) fun a E => ?_
  refine ek E rfl (E.get 8 rfl) fun a E => ?_
  refine ep (v := .bool false) E (run_pick_f rfl (E.get 9 rfl) rfl) fun a E => ?_
  refine ep (v := .bool false) E (run_move rfl (E.get 0 rfl)) fun a E => ?_
  refine ek E rfl (E.get 0 rfl) fun a E => ?_
  refine ek E rfl (E.get 1 rfl) fun a E => ?_
  refine ek E rfl (E.get 2 rfl) fun a E => ?_
  refine ek E rfl (E.get 3 rfl) fun a E => ?_
  refine eu E rfl (E.get 0 rfl) fun a E => ?_
  refine eu E rfl (E.get 1 rfl) fun a E => ?_
  refine eu E rfl (E.get 2 rfl) fun a E => ?_
  refine eu E rfl (E.get 3 rfl) fun a E => ?_
  refine eu E rfl (E.get 4 rfl) fun a E => ?_
  refine eu E rfl (E.get 5 rfl) fun a E => ?_
  refine eu E rfl (E.get 6 rfl) fun a E => ?_
  refine eu E rfl (E.get 7 rfl) fun a E => ?_
  refine eu E rfl (E.get 8 rfl) fun a E => ?_
  refine ek E rfl (E.get 13 rfl) fun a E => ?_
  refine ep (v := .bool false) E (run_pick_f rfl (E.get 14 rfl) rfl) fun a E => ?_
  refine env_set (d := 6) (v := .bool false) E rfl (by decide) (wanted_none rfl _) (run_assign rfl (E.get 0 rfl)) fun a E => ?_
  refine wpList_nil ?_
  refine then_n ?_
  refine wp_ret ?_
  refine ret_tmp (t := 6) rfl E (E.get 0 rfl) ⟨?_, hf⟩
  rw [hnil]; rfl
 | true =>
  rw [hq55] at E
  have hlt0 : 0 < ts.length := by have := of_decide_eq_true hq55; omega
  obtain ⟨t, ht⟩ : ∃ y, ts[0]? = some y := ⟨_, List.getElem?_eq_getElem hlt0⟩
  obtain ⟨g56, off56, hpe56, hgl56, hrow56⟩ := hts.at hlt0
  replace hrow56 := hrow56 0 t ht
  refine eg (v := .pointer (some ⟨rb, 0, none⟩)) E (w_yes (g := 6) (s := 13) E rfl rfl (by decide) (E.get 0 rfl)) (run_move rfl (E.get 8 rfl)) fun a E => ?_
  refine eg (v := .pointer (some ⟨rb, 0, none⟩)) E (w_yes (g := 6) (s := 13) E rfl rfl (by decide) (E.get 1 rfl)) (run_nilchk rfl (E.get 0 rfl)) fun a E => ?_
  refine eg (v := .pointer (some ⟨rb, 0, none⟩)) E (w_yes (g := 6) (s := 13) E rfl rfl (by decide) (E.get 2 rfl)) (fa57_0 rfl (E.get 0 rfl)) fun a E => ?_
  refine eg (v := .slice (pl) ts.length cl) E (w_yes (g := 6) (s := 13) E rfl rfl (by decide) (E.get 3 rfl)) (run_ld34 rfl (E.get 0 rfl) (bx hrb 0 rfl)) fun a E => ?_
  refine eg (v := .pointer (some ⟨g56, (off56 + 0 * 3), none⟩)) E (w_yes (g := 6) (s := 13) E rfl rfl (by decide) (E.get 4 rfl)) (run_index34 (i := 0) rfl ((E.get 0 rfl).trans (by rw [hpe56])) rfl hlt0) fun a E => ?_
  refine eg (v := .pointer (some ⟨g56, ((off56 + 0 * 3) + 0), none⟩)) E (w_yes (g := 6) (s := 13) E rfl rfl (by decide) (E.get 5 rfl)) (fa38_0 rfl (E.get 0 rfl)) fun a E => ?_
  refine eg (v := .int .i64 t.1) E (w_yes (g := 6) (s := 13) E rfl rfl (by decide) (E.get 6 rfl)) (run_ldi rfl (E.get 0 rfl) (hrow56 0 _ rfl)) fun a E => ?_
  refine eg (v := .int .i64 k) E (w_yes (g := 6) (s := 13) E rfl rfl (by decide) (E.get 7 rfl)) (run_move rfl (E.get 16 rfl)) fun a E => ?_
  refine eg (v := .bool (t.1 == k)) E (w_yes (g := 6) (s := 13) E rfl rfl (by decide) (E.get 8 rfl)) (run_ieql (E.get 1 rfl) (E.get 0 rfl) Tryz.underlying3 rfl) fun a E => ?_
  refine ep (v := .bool (t.1 == k)) E (run_pick_t rfl (E.get 9 rfl) (E.get 0 rfl)) fun a E => ?_
  refine ep (v := .bool (t.1 == k)) E (run_move rfl (E.get 0 rfl)) fun a E => ?_
  cases hq57 : (t.1 == k) with
  | false =>
   rw [hq57] at E
   refine ek E rfl (E.get 0 rfl) fun a E => ?_
   refine ek E rfl (E.get 1 rfl) fun a E => ?_
   refine ek E rfl (E.get 2 rfl) fun a E => ?_
   refine ek E rfl (E.get 3 rfl) fun a E => ?_
   refine eu E rfl (E.get 0 rfl) fun a E => ?_
   refine eu E rfl (E.get 1 rfl) fun a E => ?_
   refine eu E rfl (E.get 2 rfl) fun a E => ?_
   refine eu E rfl (E.get 3 rfl) fun a E => ?_
   refine eu E rfl (E.get 4 rfl) fun a E => ?_
   refine eu E rfl (E.get 5 rfl) fun a E => ?_
   refine eu E rfl (E.get 6 rfl) fun a E => ?_
   refine eu E rfl (E.get 7 rfl) fun a E => ?_
   refine eu E rfl (E.get 8 rfl) fun a E => ?_
   refine ek E rfl (E.get 13 rfl) fun a E => ?_
   refine ep (v := .bool false) E (run_pick_f rfl (E.get 14 rfl) rfl) fun a E => ?_
   refine env_set (d := 6) (v := .bool false) E rfl (by decide) (wanted_none rfl _) (run_assign rfl (E.get 0 rfl)) fun a E => ?_
   refine wpList_nil ?_
   refine then_n ?_
   refine wp_ret ?_
   refine ret_tmp (t := 6) rfl E (E.get 0 rfl) ⟨?_, hf⟩
   obtain ⟨t9, l9, hcons⟩ := List.exists_cons_of_ne_nil (List.ne_nil_of_length_pos hlt0)
   have ht9 : t = t9 := by rw [hcons] at ht; simpa using ht.symm
   subst ht9
   rw [hcons, show sees k xs (t :: l9) = (t.1 == k && (xs.isEmpty || xs.contains t.2.1)) from rfl, isEmpty_len]
   try rw [hq57]
   first | rfl | simp
  | true =>
   rw [hq57] at E
   refine eg (v := .slice (px) xs.length cx) E (w_yes (g := 17) (s := 24) E rfl rfl (by decide) (E.get 0 rfl)) (run_move rfl (E.get 21 rfl)) fun a E => ?_
   refine eg (v := .int .i64 (xs.length : Int)) E (w_yes (g := 17) (s := 24) E rfl rfl (by decide) (E.get 1 rfl)) (run_len70 rfl (E.get 0 rfl)) fun a E => ?_
   refine eg (v := .bool ((xs.length : Int) == 0)) E (w_yes (g := 17) (s := 24) E rfl rfl (by decide) (E.get 2 rfl)) (run_ieql (E.get 0 rfl) rfl Tryz.underlying3 rfl) fun a E => ?_
   refine eg (v := .bool ((xs.length : Int) == 0)) E (w_yes (g := 17) (s := 24) E rfl rfl (by decide) (E.get 3 rfl)) (run_move rfl (E.get 0 rfl)) fun a E => ?_
   cases hq58 : ((xs.length : Int) == 0) with
   | false =>
    rw [hq58] at E
    refine eg (v := .slice (px) xs.length cx) E (w_yes (g := 21) (s := 28) E rfl rfl (by decide) (E.get 0 rfl)) (run_move rfl (E.get 25 rfl)) fun a E => ?_
    refine eg (v := .pointer (some ⟨rb, 0, none⟩)) E (w_yes (g := 21) (s := 28) E rfl rfl (by decide) (E.get 1 rfl)) (run_move rfl (E.get 24 rfl)) fun a E => ?_
    refine eg (v := .pointer (some ⟨rb, 0, none⟩)) E (w_yes (g := 21) (s := 28) E rfl rfl (by decide) (E.get 2 rfl)) (run_nilchk rfl (E.get 0 rfl)) fun a E => ?_
    refine eg (v := .pointer (some ⟨rb, 0, none⟩)) E (w_yes (g := 21) (s := 28) E rfl rfl (by decide) (E.get 3 rfl)) (fa57_0 rfl (E.get 0 rfl)) fun a E => ?_
    refine eg (v := .slice (pl) ts.length cl) E (w_yes (g := 21) (s := 28) E rfl rfl (by decide) (E.get 4 rfl)) (run_ld34 rfl (E.get 0 rfl) (bx hrb 0 rfl)) fun a E => ?_
    refine eg (v := .pointer (some ⟨g56, (off56 + 0 * 3), none⟩)) E (w_yes (g := 21) (s := 28) E rfl rfl (by decide) (E.get 5 rfl)) (run_index34 (i := 0) rfl ((E.get 0 rfl).trans (by rw [hpe56])) rfl hlt0) fun a E => ?_
    refine eg (v := .pointer (some ⟨g56, ((off56 + 0 * 3) + 1), none⟩)) E (w_yes (g := 21) (s := 28) E rfl rfl (by decide) (E.get 6 rfl)) (fa38_1 rfl (E.get 0 rfl)) fun a E => ?_
    refine eg (v := .string (ofL t.2.1)) E (w_yes (g := 21) (s := 28) E rfl rfl (by decide) (E.get 7 rfl)) (run_lds rfl (E.get 0 rfl) (hrow56 1 _ rfl)) fun a E => ?_
    refine env_call (d := 37) (v := .bool (xs.contains t.2.1)) E rfl (by decide) rfl (w_yes (g := 21) (s := 28) E rfl rfl (by decide) (E.get 8 rfl)) (run_call2 (enters_of Tryz.func78 (by kernel_rfl) rfl) rfl rfl (E.get 7 rfl) (E.get 0 rfl)) (contains_calls ⟨_, _, rfl, hlex, hcapx, hsx.mono (by first | exact hf.size | omega), hzx⟩) fun a w1 f1 E => ?_
    have hrb := f1.obj hrb id
    have hts := srcAt.fr hts f1 (fun r hr => id)
    have hsx := srcAt.fr hsx f1 (fun r hr => id)
    have hrow56 := fun j u hu => f1.cell (hrow56 j u hu) id
    have hf := hf.trans' f1 (fun _ _ h => h.elim)
    clear f1
    refine eg (v := .bool (xs.contains t.2.1)) E (w_yes (g := 17) (s := 24) E rfl rfl (by decide) (E.get 13 rfl)) (run_pick_f rfl (E.get 9 rfl) (E.get 0 rfl)) fun a E => ?_
    refine ep (v := .bool (xs.contains t.2.1)) E (run_pick_t rfl (E.get 14 rfl) (E.get 0 rfl)) fun a E => ?_
    refine env_set (d := 6) (v := .bool (xs.contains t.2.1)) E rfl (by decide) (wanted_none rfl _) (run_assign rfl (E.get 0 rfl)) fun a E => ?_
    refine wpList_nil ?_
    refine then_n ?_
    refine wp_ret ?_
    refine ret_tmp (t := 6) rfl E (E.get 0 rfl) ⟨?_, hf⟩
    obtain ⟨t9, l9, hcons⟩ := List.exists_cons_of_ne_nil (List.ne_nil_of_length_pos hlt0)
    have ht9 : t = t9 := by rw [hcons] at ht; simpa using ht.symm
    subst ht9
    rw [hcons, show sees k xs (t :: l9) = (t.1 == k && (xs.isEmpty || xs.contains t.2.1)) from rfl, isEmpty_len]
    try rw [hq57]
    try rw [hq58]
    first | rfl | simp
   | true =>
    rw [hq58] at E
    refine ek E rfl (E.get 0 rfl) fun a E => ?_
    refine ek E rfl (E.get 1 rfl) fun a E => ?_
    refine ek E rfl (E.get 2 rfl) fun a E => ?_
    refine ek E rfl (E.get 3 rfl) fun a E => ?_
    refine ek E rfl (E.get 4 rfl) fun a E => ?_
    refine ek E rfl (E.get 5 rfl) fun a E => ?_
    refine ek E rfl (E.get 6 rfl) fun a E => ?_
    refine ek E rfl (E.get 7 rfl) fun a E => ?_
    refine ek E rfl (E.get 8 rfl) fun a E => ?_
    refine eg (v := .bool true) E (w_yes (g := 17) (s := 24) E rfl rfl (by decide) (E.get 13 rfl)) (run_pick_t rfl (E.get 9 rfl) rfl) fun a E => ?_
    refine ep (v := .bool true) E (run_pick_t rfl (E.get 14 rfl) (E.get 0 rfl)) fun a E => ?_
    refine env_set (d := 6) (v := .bool true) E rfl (by decide) (wanted_none rfl _) (run_assign rfl (E.get 0 rfl)) fun a E => ?_
    refine wpList_nil ?_
    refine then_n ?_
    refine wp_ret ?_
    refine ret_tmp (t := 6) rfl E (E.get 0 rfl) ⟨?_, hf⟩
    obtain ⟨t9, l9, hcons⟩ := List.exists_cons_of_ne_nil (List.ne_nil_of_length_pos hlt0)
    have ht9 : t = t9 := by rw [hcons] at ht; simpa using ht.symm
    subst ht9
    rw [hcons, show sees k xs (t :: l9) = (t.1 == k && (xs.isEmpty || xs.contains t.2.1)) from rfl, isEmpty_len]
    try rw [hq57]
    try rw [hq58]
    first | rfl | simp
/-- What a reader's step leaves. -/
def StepP (β : Type) (w : World) (rb G : Nat) (en : Int) (sv : Value) (val : β → Value) (r : Res Int (β × List (Tok Int))) (e : Ending) (w' : World) : Prop :=
 Fr (fun r => r = rb) w w' ∧ match r with
 | .error (c, x) => e = .panicked (pn c x)
 | .ok (b, l) => e = .returned (val b) ∧ Rd w' rb G en l sv
set_option maxRecDepth 100000 in
set_option maxHeartbeats 4000000 in
theorem take_calls {w : World} {rb G : Nat} {en : Int} {ts : List (Tok Int)} {sv xv : Value} {xs : List Bys} (hR : Rd w rb G en ts sv) (hx : StV w xv xs) (k : Int) : Calls Tryz.prog 56 #[.pointer (some ⟨rb, 0, none⟩), .int .i64 k, xv] w (StepP (Tok Int) w rb G en sv (fun t => .agg (tkA t)) (take en k xs ts)) := by
 have hR0 := hR
 obtain ⟨hGr, lv, hrb, pl, cl, hlv, hlv0, hlv1, hts, hzl⟩ := hR
 subst hlv
 have hrl := lt_of_blk hrb
 have hx0 := hx
 obtain ⟨px, cx, hxv, hlex, hcapx, hsx, hzx⟩ := hx
 subst hxv
 refine wp_start3 Tryz.func56 rfl rfl (n := 44) (by decide) fun a E => ?_
 have hf : Fr (fun _ => False) w w := Fr.refl _ _
 have hRw : Rd w rb G en ts sv := hR0
 refine wp_seq ?_
 refine wp_region_lit ?_
 refine env_new (d := 6) E rfl (by decide) rfl (wanted_none rfl _) (run_alloc38 rfl) fun a w1 b59 eb59 hb59 f1 E => ?_
 have hnb59 : w.heap.size ≤ b59 := by have := hf.size; omega
 have hlrbb59 : rb < b59 := by have := lt_of_blk hrb; omega
 have hrb := f1.obj hrb id
 have hts := srcAt.fr hts f1 (fun r hr => id)
 have hsx := srcAt.fr hsx f1 (fun r hr => id)
 have hf := hf.trans' f1 (fun _ _ h => h.elim)
 clear f1
 refine wpList_nil ?_
 refine then_n ?_
 refine wp_seq ?_
 refine wp_seq ?_
 refine wp_region_lit ?_
 refine ep (v := .pointer (some ⟨rb, 0, none⟩)) E (run_move rfl (E.get 1 rfl)) fun a E => ?_
 refine ep (v := .pointer (some ⟨rb, 0, none⟩)) E (run_nilchk rfl (E.get 0 rfl)) fun a E => ?_
 refine ep (v := .pointer (some ⟨rb, 0, none⟩)) E (fa57_0 rfl (E.get 0 rfl)) fun a E => ?_
 refine ep (v := .slice (pl) ts.length cl) E (run_ld34 rfl (E.get 0 rfl) (bx hrb 0 rfl)) fun a E => ?_
 refine ep (v := .int .i64 (ts.length : Int)) E (run_len34 rfl (E.get 0 rfl)) fun a E => ?_
 refine ep (v := .bool ((ts.length : Int) == 0)) E (run_ieql (E.get 0 rfl) rfl Tryz.underlying3 rfl) fun a E => ?_
 refine wpList_nil ?_
 refine then_n ?_
 cases hq60 : ((ts.length : Int) == 0) with
 | false =>
  rw [hq60] at E
  have hlt0 : 0 < ts.length := by have := hq60; rw [beq_eq_false_iff_ne] at this; omega
  obtain ⟨t, ht⟩ : ∃ y, ts[0]? = some y := ⟨_, List.getElem?_eq_getElem hlt0⟩
  obtain ⟨g61, off61, hpe61, hgl61, hrow61⟩ := hts.at hlt0
  replace hrow61 := hrow61 0 t ht
  obtain ⟨t9, l9, hcons⟩ := List.exists_cons_of_ne_nil (List.ne_nil_of_length_pos hlt0)
  have ht9 : t = t9 := by rw [hcons] at ht; simpa using ht.symm
  subst ht9
  refine wp_cond_false (E.get 0 rfl) ?_
  refine wp_skip ?_
  refine then_n ?_
  refine wp_seq ?_
  refine wp_region_lit ?_
  refine ep (v := .pointer (some ⟨rb, 0, none⟩)) E (run_move rfl (E.get 7 rfl)) fun a E => ?_
  refine ep (v := .pointer (some ⟨rb, 0, none⟩)) E (run_nilchk rfl (E.get 0 rfl)) fun a E => ?_
  refine ep (v := .pointer (some ⟨rb, 0, none⟩)) E (fa57_0 rfl (E.get 0 rfl)) fun a E => ?_
  refine ep (v := .slice (pl) ts.length cl) E (run_ld34 rfl (E.get 0 rfl) (bx hrb 0 rfl)) fun a E => ?_
  refine ep (v := .pointer (some ⟨g61, (off61 + 0 * 3), none⟩)) E (run_index34 (i := 0) rfl ((E.get 0 rfl).trans (by rw [hpe61])) rfl hlt0) fun a E => ?_
  refine ep (v := .agg (tkA t)) E (run_ld38 rfl (E.get 0 rfl) hrow61) fun a E => ?_
  refine env_new (d := 7) E rfl (by decide) rfl (wanted_none rfl _) (run_alloc38 rfl) fun a w1 b62 eb62 hb62 f1 E => ?_
  have hnb62 : w.heap.size ≤ b62 := by have := hf.size; omega
  have hlrbb62 : rb < b62 := by have := lt_of_blk hrb; omega
  have hlb59b62 : b59 < b62 := by have := lt_of_blk hb59; omega
  have hrb := f1.obj hrb id
  have hts := srcAt.fr hts f1 (fun r hr => id)
  have hsx := srcAt.fr hsx f1 (fun r hr => id)
  have hb59 := f1.obj hb59 id
  have hrow61 := fun j u hu => f1.cell (hrow61 j u hu) id
  have hf := hf.trans' f1 (fun _ _ h => h.elim)
  clear f1
  refine env_st38 E rfl (wanted_none rfl _) rfl (E.get 0 rfl) (E.get 1 rfl) hb62 fun w1 hb62n f1 E => ?_
  have hrb := f1.obj hrb (fun e => by (try simp only at e); omega)
  have hts := srcAt.fr hts f1 (fun r hr => (fun e => by (try simp only at e); omega))
  have hsx := srcAt.fr hsx f1 (fun r hr => (fun e => by (try simp only at e); omega))
  have hb59 := f1.obj hb59 (fun e => by (try simp only at e); omega)
  have hrow61 := fun j u hu => f1.cell (hrow61 j u hu) (fun e => by (try simp only at e); omega)
  have hf := hf.trans' f1 (fun r hr => (fun e => by (try simp only at e); omega))
  clear f1
  replace hb62 := hb62n
  refine wpList_nil ?_
  refine then_n ?_
  refine wp_seq ?_
  refine wp_seq ?_
  refine wp_region_lit ?_
  refine ep (v := .pointer (some ⟨rb, 0, none⟩)) E (run_move rfl (E.get 14 rfl)) fun a E => ?_
  refine ep (v := .int .i64 k) E (run_move rfl (E.get 16 rfl)) fun a E => ?_
  refine ep (v := .slice (px) xs.length cx) E (run_move rfl (E.get 18 rfl)) fun a E => ?_
  refine env_call (d := 29) (v := .bool (sees k xs ts)) E rfl (by decide) rfl (wanted_none rfl _) (run_call3 (enters_of Tryz.func55 (by kernel_rfl) rfl) rfl rfl (E.get 2 rfl) (E.get 1 rfl) (E.get 0 rfl)) (sees_calls (hR0.fr hf (fun _ _ h => h)) (hx0.fr hf) k) fun a w1 f1 E => ?_
  have hrb := f1.obj hrb id
  have hts := srcAt.fr hts f1 (fun r hr => id)
  have hsx := srcAt.fr hsx f1 (fun r hr => id)
  have hb59 := f1.obj hb59 id
  have hrow61 := fun j u hu => f1.cell (hrow61 j u hu) id
  have hb62 := f1.obj hb62 id
  have hf := hf.trans' f1 (fun _ _ h => h.elim)
  clear f1
  refine ep (v := .bool (!(sees k xs ts))) E (run_not rfl (E.get 0 rfl)) fun a E => ?_
  refine wpList_nil ?_
  refine then_n ?_
  cases hq63 : (sees k xs ts) with
  | false =>
   rw [hq63] at E
   refine wp_cond_true (E.get 0 rfl) ?_
   refine wp_region_lit ?_
   refine ep (v := .pointer (some ⟨b62, 2, none⟩)) E (fa38_2 rfl (E.get 5 rfl)) fun a E => ?_
   refine ep (v := .int .i64 t.2.2) E (run_ldi rfl (E.get 0 rfl) (bx hb62 2 rfl)) fun a E => ?_
   refine ep (v := .agg #[.int .i64 5, .int .i64 t.2.2]) E (run_of54 rfl rfl (E.get 0 rfl)) fun a E => ?_
   refine ep (v := prob 5 t.2.2) E (run_mkif54 rfl (E.get 0 rfl)) fun a E => ?_
   refine env_panic (wanted_none rfl _) (run_panic rfl (E.get 0 rfl)) ?_
   refine then_p ?_
   refine pan_end E ⟨hf.mono (fun _ _ h => h.elim), ?_⟩
   unfold take
   rw [hcons] at hq63 ⊢
   simp only
   rw [if_neg (by rw [hq63]; simp)]
  | true =>
   rw [hq63] at E
   refine wp_cond_false (E.get 0 rfl) ?_
   refine wp_skip ?_
   refine then_n ?_
   refine wp_seq ?_
   obtain ⟨go, offo, hpl0, _, _⟩ := hts.at hlt0
   subst hpl0
   have h1n : 1 ≤ ts.length := hlt0
   have hpn : True := trivial
   refine wp_region_lit ?_
   refine ep (v := .pointer (some ⟨rb, 0, none⟩)) E (run_move rfl (E.get 19 rfl)) fun a E => ?_
   refine ep (v := .pointer (some ⟨rb, 0, none⟩)) E (run_move rfl (E.get 20 rfl)) fun a E => ?_
   refine ep (v := .pointer (some ⟨rb, 0, none⟩)) E (run_nilchk rfl (E.get 0 rfl)) fun a E => ?_
   refine ep (v := .pointer (some ⟨rb, 0, none⟩)) E (fa57_0 rfl (E.get 0 rfl)) fun a E => ?_
   refine ep (v := .slice (some ⟨go, offo, none⟩) ts.length cl) E (run_ld34 rfl (E.get 0 rfl) (bx hrb 0 rfl)) fun a E => ?_
   refine env_tail34 (d := 40) E rfl (by decide) rfl (wanted_none rfl _) rfl (E.get 0 rfl) rfl h1n hlv0 fun a pq hpq hdr E => ?_
   have hdr := hdr (G := G) rfl hts
   refine ep (v := .pointer (some ⟨rb, 0, none⟩)) E (run_nilchk rfl (E.get 5 rfl)) fun a E => ?_
   refine ep (v := .pointer (some ⟨rb, 0, none⟩)) E (fa57_0 rfl (E.get 0 rfl)) fun a E => ?_
   refine env_st1 (j := 0) E rfl (wanted_none rfl _) hrb (run_st34 rfl (E.get 0 rfl) (E.get 2 rfl) (bx hrb 0 rfl) (free_of_blk hrb 0)) fun w1 hrbn f1 E => ?_
   replace hrbn : w1.heap[rb]? = some (.cells #[.slice (pq) (ts.length - 1) (cl - 1), .int .i64 en, sv] 59 (0, 0)) := hrbn
   have hf2 := (hf.mono (G := fun r => r = rb) (fun _ _ h => h.elim)).trans' f1 (fun r hr e => e)
   have hb59 := f1.obj hb59 (fun e => by (try simp only at e); omega)
   have hb62 := f1.obj hb62 (fun e => by (try simp only at e); omega)
   have hdr := srcAt.fr hdr f1 (fun r hr => (fun e => by (try simp only at e); omega))
   clear f1
   replace hrb := hrbn
   refine wpList_nil ?_
   refine then_n ?_
   refine wp_seq ?_
   refine wp_region_lit ?_
   refine ep (v := .agg (tkA t)) E (run_ld38 rfl (E.get 13 rfl) (rng3 (p := t) hb62 0 rfl rfl rfl)) fun a E => ?_
   refine env_st38 E rfl (wanted_none rfl _) rfl (E.get 27 rfl) (E.get 0 rfl) hb59 fun w1 hb59n f1 E => ?_
   have hf2 := hf2.trans' f1 (fun r hr => (fun e => by (try simp only at e); omega))
   have hrb := f1.obj hrb (fun e => by (try simp only at e); omega)
   have hb62 := f1.obj hb62 (fun e => by (try simp only at e); omega)
   have hdr := srcAt.fr hdr f1 (fun r hr => (fun e => by (try simp only at e); omega))
   clear f1
   replace hb59 := hb59n
   refine wpList_nil ?_
   refine then_n ?_
   refine wp_ret ?_
   have hl9 : ts.drop 1 = l9 := by rw [hcons]; rfl
   have hl9l : l9.length = ts.length - 1 := by rw [hcons]; simp
   rw [hl9] at hdr
   refine ret_cell38 rfl E (E.get 27 rfl) hb59 ⟨hf2, ?_⟩
   unfold take
   rw [hcons] at hq63 ⊢
   simp only
   rw [if_pos hq63]
   rw [hcons] at hrb hlv0
   exact ⟨rfl, hGr, _, hrb, pq, cl - 1, by rw [hl9l, hcons], by rw [hl9l, hcons]; omega, by omega, hdr, fun h => absurd h hpq⟩
 | true =>
  rw [hq60] at E
  have hnil : ts = [] := List.eq_nil_of_length_eq_zero (by have := hq60; rw [beq_iff_eq] at this; omega)
  refine wp_cond_true (E.get 0 rfl) ?_
  refine wp_region_lit ?_
  refine ep (v := .pointer (some ⟨rb, 0, none⟩)) E (run_move rfl (E.get 7 rfl)) fun a E => ?_
  refine ep (v := .pointer (some ⟨rb, 0, none⟩)) E (run_nilchk rfl (E.get 0 rfl)) fun a E => ?_
  refine ep (v := .pointer (some ⟨rb, 1, none⟩)) E (fa57_1 rfl (E.get 0 rfl)) fun a E => ?_
  refine ep (v := .int .i64 en) E (run_ldi rfl (E.get 0 rfl) (bx hrb 1 rfl)) fun a E => ?_
  refine ep (v := .agg #[.int .i64 6, .int .i64 en]) E (run_of54 rfl rfl (E.get 0 rfl)) fun a E => ?_
  refine ep (v := prob 6 en) E (run_mkif54 rfl (E.get 0 rfl)) fun a E => ?_
  refine env_panic (wanted_none rfl _) (run_panic rfl (E.get 0 rfl)) ?_
  refine then_p ?_
  refine pan_end E ⟨hf.mono (fun _ _ h => h.elim), ?_⟩
  rw [hnil]
  rfl
end Go.Proofs.YtjaffpnegdcjnaaGreatDoor
