/- Part 3 of the proof: the texts C1, C2, C3, C4, D1, D2. -/
import Derived.Test.YtjaffpnegdcjnaaGreatDoorT2
/- The reader: names, numbers; panics. -/
set_option linter.unusedVariables false
set_option linter.unusedSimpArgs false
namespace Go.Proofs.YtjaffpnegdcjnaaGreatDoor
open Go.RowKit Go.Pl Go.Sort Go.Shelf
section
variable {P : Program} {O : Array Oper} {Q Q1 : Exit → Act → World → Prop} {rest : List Oper} {o : Oper} {a : Act} {w : World} {n : Nat} {L : List (Nat × Value)} {ds : List Deferred} {next : Act → World → Prop} {ch : List PanicEntry} {id : Nat}
/-- A call that panics. -/
theorem env_callp {f : FuncId} {args : Array Value} {R : World → Prop} (hw : Region.wanted o (yielded O a.tmps) = true) (hr : (execOp a.eval o).run P w = .ok (.enter f args) w) (hc : Calls P f args w fun e w' => e = .panicked ch ∧ R w') (k : ∀ w', R w' → Q (.panic ch) a w') : wpList P O Q (o :: rest) a w := by
 simp only [wpList, hw, if_true]
 left
 unfold Oper.wp
 rw [hr, Oper.upon_enter]
 refine hc.mono ?_
 rintro e w' ⟨rfl, hR⟩
 exact k w' hR
theorem env_panic {v : Value} (hw : Region.wanted o (yielded O a.tmps) = true) (hr : (execOp a.eval o).run P w = .halt (.panic v) w) (h : Q (.panic [{ v := v, recovered := false }]) a w) : wpList P O Q (o :: rest) a w := by
 simp only [wpList, hw, if_true]
 left
 unfold Oper.wp
 rw [hr, Oper.upon_panic]
 exact h
theorem then_p (h : Q1 (.panic ch) a w) : Exit.then next Q1 (.panic ch) a w := h
theorem blk_p (h : Q1 (.panic ch) a w) : Exit.inBlock id Q1 (.panic ch) a w := h
theorem pan_end {fn : Func} {R : Ending → World → Prop} (E : Env n L a) (h : R (.panicked ch) w) : bodyPost P fn R (.panic ch) a w := ⟨E.df, h⟩
end
/-- The problem that is raised. -/
abbrev prob (c x : Int) : Value := .iface 54 (.agg #[.int .i64 c, .int .i64 x])
abbrev pn (c x : Int) : List PanicEntry := [{ v := prob c x, recovered := false }]
section
variable {o : Oper} {w : World} {ρ : Operand → Value} {x y z : Operand}
theorem run_mkif54 {v : Value} (ho : o.op = .makeInterface 54 x) (hx : ρ x = v) : (execOp ρ o).run Tryz.prog w = .ok (.value (.iface 54 v)) w := by
 simp [execOp, ho, hx, go_sem]
theorem run_panic {v : Value} {T : TypeId} (ho : o.op = .panic x) (hx : ρ x = .iface T v) : (execOp ρ o).run Tryz.prog w = .halt (.panic (.iface T v)) w := by
 simp [execOp, ho, hx, go_sem]
theorem run_tail34 {g off n c : Nat} (ho : o.op = .slice 34 x (some y) none none) (hx : ρ x = .slice (some ⟨g, off, none⟩) n c) (hy : ρ y = .int .i64 1) (hn : 1 ≤ n) (hc : n ≤ c) :
  ∃ q, (execOp ρ o).run Tryz.prog w = .ok (.value (.slice q (n - 1) (c - 1))) w ∧ q ≠ none ∧ ∀ {G : Nat} {L : List (Tok Int)}, L.length = n → srcAt tkL 3 w G (some ⟨g, off, none⟩) L → srcAt tkL 3 w G q (L.drop 1) := by
 have h1 : (1 : Int) ≤ n := by omega
 have h2 : (n : Int) ≤ c := by omega
 by_cases h3 : c = 1
 ·subst h3
  obtain rfl : n = 1 := by omega
  refine ⟨some ⟨g, off, none⟩, by simp [execOp, ho, hx, hy, go_sem, Addr.add], by simp, fun {G L} hl hs => .inl ?_⟩
  exact List.eq_nil_of_length_eq_zero (by simp [hl])
 ·refine ⟨some ⟨g, off + 3, none⟩, by simp [execOp, ho, hx, hy, go_sem, h1, h2, h3, Addr.add], by simp, fun {G L} hl hs => ?_⟩
  rcases hs with rfl | ⟨g', off', he, hg, hs⟩
  ·simp at hl; omega
  ·cases he
   refine .inr ⟨g, off + 3, rfl, hg, fun i t ht => ?_⟩
   rw [List.getElem?_drop] at ht
   have := hs (1 + i) t ht
   rwa [show off + (1 + i) * 3 = off + 3 + i * 3 by omega] at this
theorem run_fd38_1 {t : Tok Int} (ho : o.op = .field 38 x 1) (hx : ρ x = .agg (tkA t)) : (execOp ρ o).run Tryz.prog w = .ok (.value (.string (ofL t.2.1))) w := by
 have hu := fun w => run_underlying Tryz.underlying38 (w := w)
 simp [execOp, ho, hx, go_sem, Instr.field, hu, asAgg]
end
theorem bytesW_fr (w : World) (e : TypeId) (s : ByteArray) : Fr (fun _ => False) w (Lib.bytesWorld w e s) := by
 refine ⟨rfl, rfl, rfl, ?_, fun r hr _ => ?_⟩
 ·simp [Lib.bytesWorld, World.freeze]
 ·have hne : w.heap.size ≠ r := by omega
  show ((w.drew.alloc _).heap.modify w.heap.size _)[r]? = _
  rw [Array.getElem?_modify, if_neg hne]
  exact (blk_alloc (by simpa using hr) _)
theorem wp_start0 {P : Program} {f : FuncId} {fn : Func} {c : Code} {R : Ending → World → Prop} {n : Nat} {w : World} (hf : P.funcs[f]? = some fn) (hb : fn.body = some c) (hn : fn.ntmps = n) (h2 : 0 ≤ n) (k : ∀ a, Env n [] a → c.wp P (bodyPost P fn R) a w) : Calls P f #[] w R := by
 refine calls_of_wp hf hb (k _ ⟨?_, ?_, rfl⟩)
 ·simp [hn]
 ·intro x hx; cases hx
theorem idx_go : ∀ (xs : List Bys) (y : Bys) (i : Nat), Lib.idxFromS (xs.map ofL) (ofL y) i = if xs.contains y then ((i + xs.findIdx (· == y) : Nat) : Int) else -1 := by
 intro xs y
 induction xs with
 | nil => intro i; rfl
 | cons x xs ih =>
  intro i
  simp only [List.map_cons, Lib.idxFromS, ofL_inj, List.contains_cons, List.findIdx_cons]
  by_cases h : x = y
  ·subst h; simp
  ·rw [if_neg h, ih]
   have e : (y == x) = false := by simpa using fun e => h e.symm
   have e2 : (x == y) = false := by simpa using h
   rw [e, e2]
   simp only [Bool.false_or, cond_false]
   split
   ·omega
   ·rfl
theorem idxS_eq (xs : List Bys) (y : Bys) : Lib.idxOfS (xs.map ofL) (ofL y) = if xs.contains y then ((xs.findIdx (· == y) : Nat) : Int) else -1 := by
 have := idx_go xs y 0
 rwa [Nat.zero_add] at this
theorem containsS_eq (xs : List Bys) (y : Bys) : Lib.containsS (xs.map ofL) (ofL y) = xs.contains y := by
 unfold Lib.containsS
 rw [idxS_eq]
 cases h : xs.contains y
 ·simp
 ·rw [if_pos rfl, decide_eq_true (by omega)]
theorem src_cells {w : World} {G : Nat} {p : Option Addr} {g off : Nat} {xs : List Bys} (h : srcAt stL 1 w G p xs) (hp : p = some ⟨g, off, none⟩) : ∀ j, j < (xs.map ofL).length → w.cell? ⟨g, off + j, none⟩ = some (.string ((xs.map ofL).getD j ByteArray.empty)) := by
 intro j hj
 rw [List.length_map] at hj
 obtain ⟨g', off', he, _, hs⟩ := h.at hj
 rw [hp] at he
 cases he
 have := hs j xs[j] (List.getElem?_eq_getElem hj) 0 _ rfl
 rw [Nat.mul_one, Nat.add_zero] at this
 rw [this]
 simp [List.getD, List.getElem?_eq_getElem hj]
theorem contains_calls {w : World} {v : Value} {xs : List Bys} {y : Bys} (h : StV w v xs) : Calls Tryz.prog 78 #[v, .string (ofL y)] w fun e w' => e = .returned (.bool (xs.contains y)) ∧ Fr (fun _ => False) w w' := by
 obtain ⟨p, c, rfl, h1, h2, h3, h4⟩ := h
 by_cases hx : xs = []
 ·subst hx
  exact (Tryz.slices_Contains_string_empty p c (ofL y) w).mono fun e w' h => ⟨h.1, by rw [h.2]; exact Fr.refl _ _⟩
 ·obtain ⟨g, off, rfl, _, _⟩ := h3.resolve_left hx
  refine (Tryz.slices_Contains_string g off xs.length c (xs.map ofL) (ofL y) w (by simp) (by omega) (src_cells h3 rfl)).mono fun e w' h => ⟨?_, by rw [h.2]; exact Fr.refl _ _⟩
  rw [h.1, List.take_of_length_le (by simp), containsS_eq]
theorem index_calls {w : World} {v : Value} {xs : List Bys} {y : Bys} (h : StV w v xs) (hy : y ∈ xs) : Calls Tryz.prog 79 #[v, .string (ofL y)] w fun e w' => e = .returned (.int .i64 ((xs.findIdx (· == y) : Nat) : Int)) ∧ Fr (fun _ => False) w w' := by
 obtain ⟨p, c, rfl, h1, h2, h3, h4⟩ := h
 have hx : xs ≠ [] := List.ne_nil_of_mem hy
 obtain ⟨g, off, rfl, _, _⟩ := h3.resolve_left hx
 refine (Tryz.slices_Index_string g off xs.length c (xs.map ofL) (ofL y) w (by simp) (by omega) (src_cells h3 rfl)).mono fun e w' h => ⟨?_, by rw [h.2]; exact Fr.refl _ _⟩
 rw [h.1, List.take_of_length_le (by simp), idxS_eq, if_pos (by simpa using hy)]
/-- The tables of the library. -/
def Tb (w : World) : Prop := Lib.TabIs Tryz.prog w "internal/strconv.uint64pow10" .u64 Lib.pow10Tab ∧ Lib.TabIs Tryz.prog w "strings.asciiSpace" .u8 Lib.asciiSpaceTab
theorem var_fr {w w' : World} {F : Nat → Prop} {n : String} {cs : Array Value} {g : Nat} (hg : Tryz.prog.globalNamed n = some g) (h : w.var? Tryz.prog n = some cs) (f : Fr F w w') (hF : ¬ F g) : w'.var? Tryz.prog n = some cs := by
 unfold World.var? at h ⊢
 rw [hg] at h ⊢
 simp only [Option.bind_some] at h ⊢
 cases hb : w.heap[g]? with
 | none => rw [hb] at h; cases h
 | some ob => rw [f.obj hb hF, ← hb]; exact h
theorem Tb.fr {w w' : World} {F : Nat → Prop} (h : Tb w) (f : Fr F w w') (hF : ∀ r, r < 4 → ¬ F r) : Tb w' :=
 ⟨var_fr (g := 3) (by kernel_rfl) h.1 f (hF _ (by decide)), var_fr (g := 0) (by kernel_rfl) h.2 f (hF _ (by decide))⟩
theorem dec_go : ∀ (l : Bys) (acc : Nat), (∀ b ∈ l, isDig b = true) → ∃ n : Nat, Lib.decFrom acc l = some n ∧ (n : Int) = l.foldl (fun n b => 10 * n + ((b.toNat : Int) - 48)) (acc : Int) := by
 intro l
 induction l with
 | nil => intro acc _; exact ⟨acc, rfl, rfl⟩
 | cons c l ih =>
  intro acc h
  have hc := h c List.mem_cons_self
  have h1 : 48 ≤ c.toNat ∧ c.toNat ≤ 57 := by
   unfold isDig at hc
   rw [Bool.and_eq_true] at hc
   exact ⟨UInt8.le_iff_toNat_le.1 (of_decide_eq_true hc.1), UInt8.le_iff_toNat_le.1 (of_decide_eq_true hc.2)⟩
  obtain ⟨n, h2, h3⟩ := ih (acc * 10 + (c.toNat - 48)) fun b hb => h b (List.mem_cons_of_mem _ hb)
  refine ⟨n, ?_, ?_⟩
  ·simp only [Lib.decFrom, Lib.digitVal, h1, and_self, if_true]; exact h2
  ·rw [h3, List.foldl_cons]
   congr 1
   omega
theorem atoi_num {l : Bys} (h0 : l ≠ []) (h : ∀ b ∈ l, isDig b = true) : Lib.atoi l = some (numT l) := by
 obtain ⟨c, r, rfl⟩ := List.exists_cons_of_ne_nil h0
 have hc := h c List.mem_cons_self
 have h1 : 48 ≤ c.toNat ∧ c.toNat ≤ 57 := by
  unfold isDig at hc
  rw [Bool.and_eq_true] at hc
  exact ⟨UInt8.le_iff_toNat_le.1 (of_decide_eq_true hc.1), UInt8.le_iff_toNat_le.1 (of_decide_eq_true hc.2)⟩
 have e1 : (c == 45) = false := by
  rw [beq_eq_false_iff_ne]; rintro rfl; simp at h1
 have e2 : (c == 43) = false := by
  rw [beq_eq_false_iff_ne]; rintro rfl; simp at h1
 obtain ⟨n, h2, h3⟩ := dec_go (c :: r) 0 h
 unfold Lib.atoi
 simp only [e1, e2, Bool.false_eq_true, if_false]
 unfold Lib.decNat
 simp only [List.isEmpty_cons, Bool.false_eq_true, if_false, h2, Option.map_some, Option.some.injEq]
 rw [h3]
 rfl
theorem num_le {l : Bys} (h : ∀ b ∈ l, isDig b = true) (hl : l.length ≤ 7) : numT l ≤ 9999999 := by
 have : ∀ (l : Bys) (n : Int), 0 ≤ n → (∀ b ∈ l, isDig b = true) → l.foldl (fun n b => 10 * n + ((b.toNat : Int) - 48)) n ≤ (n + 1) * 10 ^ l.length - 1 := by
  intro l
  induction l with
  | nil => intro n _ _; simp
  | cons c l ih =>
   intro n hn hd
   have hc := hd c List.mem_cons_self
   have h1 : 48 ≤ c.toNat ∧ c.toNat ≤ 57 := by
    unfold isDig at hc
    rw [Bool.and_eq_true] at hc
    exact ⟨UInt8.le_iff_toNat_le.1 (of_decide_eq_true hc.1), UInt8.le_iff_toNat_le.1 (of_decide_eq_true hc.2)⟩
   have := ih (10 * n + ((c.toNat : Int) - 48)) (by omega) fun b hb => hd b (List.mem_cons_of_mem _ hb)
   rw [List.foldl_cons]
   refine Int.le_trans this ?_
   rw [List.length_cons, Int.pow_succ]
   have hp : (0 : Int) < 10 ^ l.length := Int.pow_pos (by omega)
   have : (10 * n + ((c.toNat : Int) - 48) + 1) * 10 ^ l.length ≤ ((n + 1) * 10) * 10 ^ l.length := Int.mul_le_mul_of_nonneg_right (by omega) (Int.le_of_lt hp)
   have e : (n + 1) * (10 ^ l.length * 10) = ((n + 1) * 10) * 10 ^ l.length := by rw [Int.mul_comm (10 ^ l.length), Int.mul_assoc]
   omega
 have h1 := this l 0 (Int.le_refl _) h
 have h2 : (10 : Int) ^ l.length ≤ 10 ^ 7 := by
  have : (10 : Nat) ^ l.length ≤ 10 ^ 7 := Nat.pow_le_pow_right (by omega) hl
  exact_mod_cast this
 simp only [Int.zero_add, Int.one_mul] at h1
 have e : (10 : Int) ^ 7 = 10000000 := by decide
 unfold numT
 omega
/-- What the reader reads: the tokens that are left lie outside it. -/
def TkS (w : World) (G : Nat) (v : Value) (ts : List (Tok Int)) : Prop := ∃ p cap, v = .slice p ts.length cap ∧ ts.length ≤ cap ∧ cap ≤ 9223372036854775807 ∧ srcAt tkL 3 w G p ts ∧ (p = none → cap = 0)
theorem TkS.fr {w w' : World} {G : Nat} {v : Value} {ts : List (Tok Int)} (h : TkS w G v ts) {F : Nat → Prop} (f : Fr F w w') (hF : ∀ r, r < G → ¬ F r) : TkS w' G v ts := by
 obtain ⟨p, c, h1, h2, h3, h4, h5⟩ := h
 exact ⟨p, c, h1, h2, h3, h4.fr f hF, h5⟩
def Rd (w : World) (rb G : Nat) (en : Int) (ts : List (Tok Int)) (sv : Value) : Prop := G ≤ rb ∧ ∃ lv, w.heap[rb]? = some (.cells #[lv, .int .i64 en, sv] 59 (0, 0)) ∧ TkS w G lv ts
theorem Rd.fr {w w' : World} {rb G : Nat} {en : Int} {ts : List (Tok Int)} {sv : Value} (h : Rd w rb G en ts sv) {F : Nat → Prop} (f : Fr F w w') (hF : ∀ r, r ≤ rb → ¬ F r) : Rd w' rb G en ts sv := by
 obtain ⟨h0, lv, h1, h2⟩ := h
 exact ⟨h0, lv, f.obj h1 (hF _ (Nat.le_refl _)), h2.fr f fun r hr => hF r (by omega)⟩
theorem Rd.lt {w : World} {rb G : Nat} {en : Int} {ts : List (Tok Int)} {sv : Value} (h : Rd w rb G en ts sv) : rb < w.heap.size := by
 obtain ⟨_, lv, h1, _⟩ := h
 exact lt_of_blk h1
/-- One string in a row. -/
theorem StV.one {w : World} {b : Nat} {s : Bys} (h : w.heap[b]? = some (.cells (stL s).toArray 9 (0, 0))) : StV w (.slice (some ⟨b, 0, none⟩) 1 1) [s] := ⟨_, 1, rfl, Nat.le_refl _, by omega, src_one (f := stL) h (lt_of_blk h), fun h => by cases h⟩
theorem info38r : (Tryz.prog.info? 38).map (·.size) = some 3 := by kernel_rfl
theorem ret_cell38 {fn : Func} {R : Ending → World → Prop} {n : Nat} {L : List (Nat × Value)} {a : Act} {w : World} {t : Tmp} {g : Nat} {s : Tok Int} (hr : fn.results = #[.cell t 38]) (E : Env n L a) (hv : a.eval (.tmp t) = .pointer (some ⟨g, 0, none⟩)) (h : w.heap[g]? = some (.cells (tkA s) 38 (0, 0))) (hR : R (.returned (.agg (tkA s))) w) : bodyPost Tryz.prog fn R .ret a w := by
 refine ⟨E.df, .agg (tkA s), ?_, hR⟩
 exact results_cell_row hr a.tmps w g 38 (tkA s) (0, 0) _ hv h Tryz.underlying38 rfl info38r
theorem env_tail34 {O : Array Oper} {Q : Exit → Act → World → Prop} {rest : List Oper} {o : Oper} {a : Act} {w : World} {m d g off n c : Nat} {L : List (Nat × Value)} {ds : List Deferred} {x y : Operand} (E : EnvD ds m L a) (hd : o.dst = some d) (hm : d < m) (hf : (L.map (·.1)).contains d = false) (hw : Region.wanted o (yielded O a.tmps) = true) (ho : o.op = .slice 34 x (some y) none none) (hx : a.eval x = .slice (some ⟨g, off, none⟩) n c) (hy : a.eval y = .int .i64 1) (hn : 1 ≤ n) (hc : n ≤ c)
  (k : ∀ a' q, q ≠ none → (∀ {G : Nat} {L : List (Tok Int)}, L.length = n → srcAt tkL 3 w G (some ⟨g, off, none⟩) L → srcAt tkL 3 w G q (L.drop 1)) → EnvD ds m ((d, .slice q (n - 1) (c - 1)) :: L) a' → wpList Tryz.prog O Q rest a' w) : wpList Tryz.prog O Q (o :: rest) a w := by
 obtain ⟨q, hr, h1, h2⟩ := run_tail34 (ρ := a.eval) (w := w) ho hx hy hn hc
 exact env_put E hd hm hf hw hr fun a' E' => k a' q h1 h2 E'
/-- The names of the days in memory. -/
def DaysAt (w : World) (b : Nat) : Prop := w.heap[b]? = some (.cells (days.map fun l => Value.string (ofL l)).toArray 9 (0, 0))
theorem DaysAt.st {w : World} {b : Nat} (h : DaysAt w b) : StV w (.slice (some ⟨b, 0, none⟩) 7 7) days := ⟨_, 7, rfl, Nat.le_refl _, by omega, .inr ⟨b, 0, rfl, lt_of_blk h, fun i z hz j u hu => by
 rw [cell_of_blk h]
 have hj : j = 0 := by
  have := (List.getElem?_eq_some_iff.1 hu).1
  simp [stL] at this; exact this
 subst hj
 simp only [stL, List.getElem?_cons_zero, Option.some.injEq] at hu
 subst hu
 simp [hz]⟩, fun h => by cases h⟩
theorem names_calls {w : World} (hT : Tb w) : Calls Tryz.prog 43 #[] w fun e w' => ∃ b, e = .returned (.slice (some ⟨b, 0, none⟩) 7 7) ∧ DaysAt w' b ∧ w.heap.size ≤ b ∧ Fr (fun _ => False) w w' := by
 have hfe : Lib.fields (ofL [109, 111, 32, 116, 117, 32, 119, 101, 32, 116, 104, 32, 102, 114, 32, 115, 97, 32, 115, 117]).data.toList = days := by decide +kernel
 have hF := Tryz.strings_Fields (ofL [109, 111, 32, 116, 117, 32, 119, 101, 32, 116, 104, 32, 102, 114, 32, 115, 97, 32, 115, 117]) w (by decide +kernel) (by
  intro j b hb
  have : ∀ b ∈ (ofL [109, 111, 32, 116, 117, 32, 119, 101, 32, 116, 104, 32, 102, 114, 32, 115, 97, 32, 115, 117]).data.toList, b.toNat < 128 := by decide +kernel
  exact this b (List.mem_of_getElem? hb)) hT.2
 rw [hfe] at hF
 refine wp_start0 Tryz.func43 rfl rfl (n := 2) (by decide) fun a E => ?_
 have hf : Fr (fun _ => False) w w := Fr.refl _ _
 refine s_ (r_ (ep (v := .slice none 0 0) E rfl (a_ rfl rfl) fun a E => n_ (t_ (s_ (r_ (env_callv (d := 1) (R := fun u w8 => ∃ b, u = .slice (some ⟨b, 0, none⟩) 7 7 ∧ DaysAt w8 b ∧ w.heap.size ≤ b ∧ Fr (fun _ => False) w w8) E rfl (by decide) rfl (wanted_none rfl _) (run_call1 (enters_of Tryz.func67 (by kernel_rfl) rfl) rfl rfl rfl) (hF.mono fun e w8 h => by obtain ⟨rfl, rfl⟩ := h; exact ⟨_, rfl, _, rfl, blk_alloc_new _ _, Nat.le_refl _, (Fr.refl _ _).alloc _⟩) fun a w1 u ⟨bd, hu, hbd, hbn, f1⟩ E => ?_))))))
 subst hu
 have hf := hf.trans' f1 (fun _ _ h => h.elim)
 clear f1
 refine es_ E rfl (a_ rfl E.g0) fun a E => n_ (t_ (wr_ (ret_tmp (t := 0) rfl E E.g0 ⟨_, rfl, hbd, hbn, hf⟩)))
set_option maxRecDepth 100000 in
set_option maxHeartbeats 4000000 in
theorem number_calls (t : Tok Int) (h0 : t.2.1 ≠ []) (hd : ∀ b ∈ t.2.1, isDig b = true) (hl : t.2.1.length ≤ 7) (w : World) : Calls Tryz.prog 99 #[.agg (tkA t)] w fun e w' => e = .returned (.int .i64 (numT t.2.1)) ∧ Fr (fun _ => False) w w' := by
 refine wp_start1 Tryz.func99 rfl rfl (n := 12) (by decide) fun a E => ?_
 have hf : Fr (fun _ => False) w w := Fr.refl _ _
 refine s_ (r_ (env_new (d := 1) E rfl (by decide) rfl (wanted_none rfl _) (run_box38 rfl E.g0) fun a w1 b54 eb54 hb54 f1 E => ?_))
 have hnb54 : w.heap.size ≤ b54 := by have := hf.size; omega
 have hf := hf.trans' f1 (fun _ _ h => h.elim)
 clear f1
 refine ep (v := .int .i64 0) E rfl (a_ rfl rfl) fun a E => n_ (t_ (s_ (r_ (ep (v := .pointer (some ⟨b54, 1, none⟩)) E rfl (fa38_1 rfl E.g1) fun a E => ep (v := .string (ofL t.2.1)) E rfl (run_lds rfl E.g0 (bx hb54 1 rfl)) fun a E => env_callv (d := 8) (R := fun u w8 => u = .tuple #[.int .i64 (numT t.2.1), .nilIface] ∧ Fr (fun _ => False) w1 w8) E rfl (by decide) rfl (wanted_none rfl _) (run_call1 (enters_of Tryz.func108 (by kernel_rfl) rfl) rfl rfl E.g0) ((Tryz.strconv_Atoi (ofL t.2.1) (numT t.2.1) (by rw [ofL_size]; omega) (by rw [show (ofL t.2.1).data.toList = t.2.1 from by simp [ofL]]; exact atoi_num h0 hd) _).mono fun e w8 h => by obtain ⟨rfl, t9, rfl⟩ := h; exact ⟨_, rfl, rfl, bytesW_fr _ _ _⟩) fun a w1 u ⟨hu, f1⟩ E => ?_))))
 subst hu
 have hb54 := f1.obj hb54 id
 have hf := hf.trans' f1 (fun _ _ h => h.elim)
 clear f1
 refine ep E rfl (m_ rfl E.g0) fun a E => ep (v := .int .i64 (numT t.2.1)) E rfl (run_ext0 rfl E.g0) fun a E => ep (v := .nilIface) E rfl (run_ext1 rfl E.g1) fun a E => ep E rfl (a_ rfl E.g1) fun a E => ep E rfl (a_ rfl E.g1) fun a E => n_ (t_ (s_ (r_ (ep E rfl (m_ rfl E.g1) fun a E => es_ E rfl (a_ rfl E.g0) fun a E => n_ (t_ (wr_ (ret_tmp (t := 2) rfl E E.g0 ⟨rfl, hf⟩)))))))
theorem isEmpty_len {α : Type} (l : List α) : l.isEmpty = ((l.length : Int) == 0) := by
 cases l with
 | nil => rfl
 | cons x l =>
  have h : ¬ (((x :: l).length : Int) = 0) := by simp only [List.length_cons]; omega
  rw [beq_eq_false_iff_ne.2 h]; rfl
set_option maxRecDepth 100000 in
set_option maxHeartbeats 4000000 in
theorem sees_calls {w : World} {rb G : Nat} {en : Int} {ts : List (Tok Int)} {sv xv : Value} {xs : List Bys} (hR : Rd w rb G en ts sv) (hx : StV w xv xs) (k : Int) : Calls Tryz.prog 55 #[.pointer (some ⟨rb, 0, none⟩), .int .i64 k, xv] w fun e w' => e = .returned (.bool (sees k xs ts)) ∧ Fr (fun _ => False) w w' := by
 obtain ⟨hGr, lv, hrb, pl, cl, hlv, hlv0, hlv1, hts, hzl⟩ := hR
 subst hlv
 have hrl := lt_of_blk hrb
 obtain ⟨px, cx, hxv, hlex, hcapx, hsx, hzx⟩ := hx
 subst hxv
 refine wp_start3 Tryz.func55 rfl rfl (n := 40) (by decide) fun a E => ?_
 have hf : Fr (fun _ => False) w w := Fr.refl _ _
 refine s_ (r_ (ep (v := .bool false) E rfl (a_ rfl rfl) fun a E => n_ (t_ (s_ (r_ (ep E rfl (m_ rfl E.g1) fun a E => ep E rfl (i_ rfl E.g0) fun a E => ep (v := .pointer (some ⟨rb, 0, none⟩)) E rfl (fa57_0 rfl E.g0) fun a E => ep (v := .slice (pl) ts.length cl) E rfl (run_ld34 rfl E.g0 (bx hrb 0 rfl)) fun a E => ep (v := .int .i64 (ts.length : Int)) E rfl (run_len34 rfl E.g0) fun a E => ep (v := .bool (decide (0 < (ts.length : Int)))) E rfl (run_igtr E.g0 rfl Tryz.underlying3 rfl) fun a E => ep E rfl (m_ rfl E.g0) fun a E => ?_))))))
 cases hq55 : (decide (0 < (ts.length : Int))) with
 | false =>
  rw [hq55] at E
  have hnil : ts = [] := List.eq_nil_of_length_eq_zero (by have := of_decide_eq_false hq55; omega)
  refine ek E rfl rfl E.g0 fun a E => ek E rfl rfl E.g1 fun a E => ek E rfl rfl E.g2 fun a E => ek E rfl rfl E.g3 fun a E => ek E rfl rfl E.g4 fun a E => ek E rfl rfl E.g5 fun a E => ek E rfl rfl E.g6 fun a E => ek E rfl rfl E.g7 fun a E => ek E rfl rfl E.g8 fun a E => ep (v := .bool false) E rfl (run_pick_f rfl E.g9 rfl) fun a E => ep E rfl (m_ rfl E.g0) fun a E => ek E rfl rfl E.g0 fun a E => ek E rfl rfl E.g1 fun a E => ek E rfl rfl E.g2 fun a E => ek E rfl rfl E.g3 fun a E => eu E rfl rfl E.g0 fun a E => eu E rfl rfl E.g1 fun a E => eu E rfl rfl E.g2 fun a E => eu E rfl rfl E.g3 fun a E => eu E rfl rfl E.g4 fun a E => eu E rfl rfl E.g5 fun a E => eu E rfl rfl E.g6 fun a E => eu E rfl rfl E.g7 fun a E => eu E rfl rfl E.g8 fun a E => ek E rfl rfl E.g13 fun a E => ep (v := .bool false) E rfl (run_pick_f rfl E.g14 rfl) fun a E => es_ E rfl (a_ rfl E.g0) fun a E => n_ (t_ (wr_ (ret_tmp (t := 6) rfl E E.g0 ⟨?_, hf⟩)))
  rw [hnil]; rfl
 | true =>
  rw [hq55] at E
  have hlt0 : 0 < ts.length := by have := of_decide_eq_true hq55; omega
  obtain ⟨t, ht⟩ : ∃ y, ts[0]? = some y := ⟨_, List.getElem?_eq_getElem hlt0⟩
  obtain ⟨g56, off56, hpe56, hgl56, hrow56⟩ := hts.at hlt0
  replace hrow56 := hrow56 0 t ht
  refine eg E rfl (wy_ E E.g0) (m_ rfl E.g8) fun a E => eg E rfl (wy_ E E.g1) (i_ rfl E.g0) fun a E => eg (v := .pointer (some ⟨rb, 0, none⟩)) E rfl (wy_ E E.g2) (fa57_0 rfl E.g0) fun a E => eg (v := .slice (pl) ts.length cl) E rfl (wy_ E E.g3) (run_ld34 rfl E.g0 (bx hrb 0 rfl)) fun a E => eg (v := .pointer (some ⟨g56, (off56 + 0 * 3), none⟩)) E rfl (wy_ E E.g4) (run_index34 (i := 0) rfl (E.g0.trans (by rw [hpe56])) rfl hlt0) fun a E => eg (v := .pointer (some ⟨g56, ((off56 + 0 * 3) + 0), none⟩)) E rfl (wy_ E E.g5) (fa38_0 rfl E.g0) fun a E => eg (v := .int .i64 t.1) E rfl (wy_ E E.g6) (run_ldi rfl E.g0 (hrow56 0 _ rfl)) fun a E => eg E rfl (wy_ E E.g7) (m_ rfl E.g16) fun a E => eg (v := .bool (t.1 == k)) E rfl (wy_ E E.g8) (run_ieql E.g1 E.g0 Tryz.underlying3 rfl) fun a E => ep (v := .bool (t.1 == k)) E rfl (run_pick_t rfl E.g9 E.g0) fun a E => ep E rfl (m_ rfl E.g0) fun a E => ?_
  cases hq57 : (t.1 == k) with
  | false =>
   rw [hq57] at E
   refine ek E rfl rfl E.g0 fun a E => ek E rfl rfl E.g1 fun a E => ek E rfl rfl E.g2 fun a E => ek E rfl rfl E.g3 fun a E => eu E rfl rfl E.g0 fun a E => eu E rfl rfl E.g1 fun a E => eu E rfl rfl E.g2 fun a E => eu E rfl rfl E.g3 fun a E => eu E rfl rfl E.g4 fun a E => eu E rfl rfl E.g5 fun a E => eu E rfl rfl E.g6 fun a E => eu E rfl rfl E.g7 fun a E => eu E rfl rfl E.g8 fun a E => ek E rfl rfl E.g13 fun a E => ep (v := .bool false) E rfl (run_pick_f rfl E.g14 rfl) fun a E => es_ E rfl (a_ rfl E.g0) fun a E => n_ (t_ (wr_ (ret_tmp (t := 6) rfl E E.g0 ⟨?_, hf⟩)))
   obtain ⟨t9, l9, hcons⟩ := List.exists_cons_of_ne_nil (List.ne_nil_of_length_pos hlt0)
   have ht9 : t = t9 := by rw [hcons] at ht; simpa using ht.symm
   subst ht9
   rw [hcons, show sees k xs (t :: l9) = (t.1 == k && (xs.isEmpty || xs.contains t.2.1)) from rfl, isEmpty_len]
   try rw [hq57]
   first | rfl | simp
  | true =>
   rw [hq57] at E
   refine eg E rfl (wy_ E E.g0) (m_ rfl E.g21) fun a E => eg (v := .int .i64 (xs.length : Int)) E rfl (wy_ E E.g1) (run_len70 rfl E.g0) fun a E => eg (v := .bool ((xs.length : Int) == 0)) E rfl (wy_ E E.g2) (run_ieql E.g0 rfl Tryz.underlying3 rfl) fun a E => eg E rfl (wy_ E E.g3) (m_ rfl E.g0) fun a E => ?_
   cases hq58 : ((xs.length : Int) == 0) with
   | false =>
    rw [hq58] at E
    refine eg E rfl (wy_ E E.g0) (m_ rfl E.g25) fun a E => eg E rfl (wy_ E E.g1) (m_ rfl E.g24) fun a E => eg E rfl (wy_ E E.g2) (i_ rfl E.g0) fun a E => eg (v := .pointer (some ⟨rb, 0, none⟩)) E rfl (wy_ E E.g3) (fa57_0 rfl E.g0) fun a E => eg (v := .slice (pl) ts.length cl) E rfl (wy_ E E.g4) (run_ld34 rfl E.g0 (bx hrb 0 rfl)) fun a E => eg (v := .pointer (some ⟨g56, (off56 + 0 * 3), none⟩)) E rfl (wy_ E E.g5) (run_index34 (i := 0) rfl (E.g0.trans (by rw [hpe56])) rfl hlt0) fun a E => eg (v := .pointer (some ⟨g56, ((off56 + 0 * 3) + 1), none⟩)) E rfl (wy_ E E.g6) (fa38_1 rfl E.g0) fun a E => eg (v := .string (ofL t.2.1)) E rfl (wy_ E E.g7) (run_lds rfl E.g0 (hrow56 1 _ rfl)) fun a E => env_call (d := 37) (v := .bool (xs.contains t.2.1)) E rfl (by decide) rfl (wy_ E E.g8) (run_call2 (enters_of Tryz.func78 (by kernel_rfl) rfl) rfl rfl E.g7 E.g0) (contains_calls ⟨_, _, rfl, hlex, hcapx, hsx.mono (by first | exact hf.size | omega), hzx⟩) fun a w1 f1 E => ?_
    have hrb := f1.obj hrb id
    have hts := srcAt.fr hts f1 (fun r hr => id)
    have hsx := srcAt.fr hsx f1 (fun r hr => id)
    have hrow56 := fun j u hu => f1.cell (hrow56 j u hu) id
    have hf := hf.trans' f1 (fun _ _ h => h.elim)
    clear f1
    refine eg (v := .bool (xs.contains t.2.1)) E rfl (wy_ E E.g13) (run_pick_f rfl E.g9 E.g0) fun a E => ep (v := .bool (xs.contains t.2.1)) E rfl (run_pick_t rfl E.g14 E.g0) fun a E => es_ E rfl (a_ rfl E.g0) fun a E => n_ (t_ (wr_ (ret_tmp (t := 6) rfl E E.g0 ⟨?_, hf⟩)))
    obtain ⟨t9, l9, hcons⟩ := List.exists_cons_of_ne_nil (List.ne_nil_of_length_pos hlt0)
    have ht9 : t = t9 := by rw [hcons] at ht; simpa using ht.symm
    subst ht9
    rw [hcons, show sees k xs (t :: l9) = (t.1 == k && (xs.isEmpty || xs.contains t.2.1)) from rfl, isEmpty_len]
    try rw [hq57]
    try rw [hq58]
    first | rfl | simp
   | true =>
    rw [hq58] at E
    refine ek E rfl rfl E.g0 fun a E => ek E rfl rfl E.g1 fun a E => ek E rfl rfl E.g2 fun a E => ek E rfl rfl E.g3 fun a E => ek E rfl rfl E.g4 fun a E => ek E rfl rfl E.g5 fun a E => ek E rfl rfl E.g6 fun a E => ek E rfl rfl E.g7 fun a E => ek E rfl rfl E.g8 fun a E => eg (v := .bool true) E rfl (wy_ E E.g13) (run_pick_t rfl E.g9 rfl) fun a E => ep (v := .bool true) E rfl (run_pick_t rfl E.g14 E.g0) fun a E => es_ E rfl (a_ rfl E.g0) fun a E => n_ (t_ (wr_ (ret_tmp (t := 6) rfl E E.g0 ⟨?_, hf⟩)))
    obtain ⟨t9, l9, hcons⟩ := List.exists_cons_of_ne_nil (List.ne_nil_of_length_pos hlt0)
    have ht9 : t = t9 := by rw [hcons] at ht; simpa using ht.symm
    subst ht9
    rw [hcons, show sees k xs (t :: l9) = (t.1 == k && (xs.isEmpty || xs.contains t.2.1)) from rfl, isEmpty_len]
    try rw [hq57]
    try rw [hq58]
    first | rfl | simp
/-- What a reader's step leaves. -/
def StepP (β : Type) (w : World) (rb G : Nat) (en : Int) (sv : Value) (val : β → Value) (r : Res Int (β × List (Tok Int))) (e : Ending) (w' : World) : Prop :=
 Fr (fun r => r = rb) w w' ∧ match r with
 | .error (c, x) => e = .panicked (pn c x)
 | .ok (b, l) => e = .returned (val b) ∧ Rd w' rb G en l sv
set_option maxRecDepth 100000 in
set_option maxHeartbeats 4000000 in
theorem take_calls {w : World} {rb G : Nat} {en : Int} {ts : List (Tok Int)} {sv xv : Value} {xs : List Bys} (hR : Rd w rb G en ts sv) (hx : StV w xv xs) (k : Int) : Calls Tryz.prog 56 #[.pointer (some ⟨rb, 0, none⟩), .int .i64 k, xv] w (StepP (Tok Int) w rb G en sv (fun t => .agg (tkA t)) (take en k xs ts)) := by
 have hR0 := hR
 obtain ⟨hGr, lv, hrb, pl, cl, hlv, hlv0, hlv1, hts, hzl⟩ := hR
 subst hlv
 have hrl := lt_of_blk hrb
 have hx0 := hx
 obtain ⟨px, cx, hxv, hlex, hcapx, hsx, hzx⟩ := hx
 subst hxv
 refine wp_start3 Tryz.func56 rfl rfl (n := 44) (by decide) fun a E => ?_
 have hf : Fr (fun _ => False) w w := Fr.refl _ _
 have hRw : Rd w rb G en ts sv := hR0
 refine s_ (r_ (env_new (d := 6) E rfl (by decide) rfl (wanted_none rfl _) (run_alloc38 rfl) fun a w1 b59 eb59 hb59 f1 E => ?_))
 have hnb59 : w.heap.size ≤ b59 := by have := hf.size; omega
 have hlrbb59 : rb < b59 := by have := lt_of_blk hrb; omega
 have hrb := f1.obj hrb id
 have hts := srcAt.fr hts f1 (fun r hr => id)
 have hsx := srcAt.fr hsx f1 (fun r hr => id)
 have hf := hf.trans' f1 (fun _ _ h => h.elim)
 clear f1
 refine n_ (t_ (s_ (s_ (r_ (ep E rfl (m_ rfl E.g1) fun a E => ep E rfl (i_ rfl E.g0) fun a E => ep (v := .pointer (some ⟨rb, 0, none⟩)) E rfl (fa57_0 rfl E.g0) fun a E => ep (v := .slice (pl) ts.length cl) E rfl (run_ld34 rfl E.g0 (bx hrb 0 rfl)) fun a E => ep (v := .int .i64 (ts.length : Int)) E rfl (run_len34 rfl E.g0) fun a E => ep (v := .bool ((ts.length : Int) == 0)) E rfl (run_ieql E.g0 rfl Tryz.underlying3 rfl) fun a E => n_ (t_ ?_))))))
 cases hq60 : ((ts.length : Int) == 0) with
 | false =>
  rw [hq60] at E
  have hlt0 : 0 < ts.length := by have := hq60; rw [beq_eq_false_iff_ne] at this; omega
  obtain ⟨t, ht⟩ : ∃ y, ts[0]? = some y := ⟨_, List.getElem?_eq_getElem hlt0⟩
  obtain ⟨g61, off61, hpe61, hgl61, hrow61⟩ := hts.at hlt0
  replace hrow61 := hrow61 0 t ht
  obtain ⟨t9, l9, hcons⟩ := List.exists_cons_of_ne_nil (List.ne_nil_of_length_pos hlt0)
  have ht9 : t = t9 := by rw [hcons] at ht; simpa using ht.symm
  subst ht9
  refine c_f E.g0 (k_ (t_ (s_ (r_ (ep E rfl (m_ rfl E.g7) fun a E => ep E rfl (i_ rfl E.g0) fun a E => ep (v := .pointer (some ⟨rb, 0, none⟩)) E rfl (fa57_0 rfl E.g0) fun a E => ep (v := .slice (pl) ts.length cl) E rfl (run_ld34 rfl E.g0 (bx hrb 0 rfl)) fun a E => ep (v := .pointer (some ⟨g61, (off61 + 0 * 3), none⟩)) E rfl (run_index34 (i := 0) rfl (E.g0.trans (by rw [hpe61])) rfl hlt0) fun a E => ep (v := .agg (tkA t)) E rfl (run_ld38 rfl E.g0 hrow61) fun a E => env_new (d := 7) E rfl (by decide) rfl (wanted_none rfl _) (run_alloc38 rfl) fun a w1 b62 eb62 hb62 f1 E => ?_)))))
  have hnb62 : w.heap.size ≤ b62 := by have := hf.size; omega
  have hlrbb62 : rb < b62 := by have := lt_of_blk hrb; omega
  have hlb59b62 : b59 < b62 := by have := lt_of_blk hb59; omega
  have hrb := f1.obj hrb id
  have hts := srcAt.fr hts f1 (fun r hr => id)
  have hsx := srcAt.fr hsx f1 (fun r hr => id)
  have hb59 := f1.obj hb59 id
  have hrow61 := fun j u hu => f1.cell (hrow61 j u hu) id
  have hf := hf.trans' f1 (fun _ _ h => h.elim)
  clear f1
  refine env_st38 E rfl (wanted_none rfl _) rfl E.g0 E.g1 hb62 fun w1 hb62n f1 E => ?_
  have hrb := f1.obj hrb nq_
  have hts := srcAt.fr hts f1 (fun _ hr => nq_)
  have hsx := srcAt.fr hsx f1 (fun _ hr => nq_)
  have hb59 := f1.obj hb59 nq_
  have hrow61 := fun j u hu => f1.cell (hrow61 j u hu) nq_
  have hf := hf.trans' f1 (fun _ hr => nq_)
  clear f1
  replace hb62 := hb62n
  refine n_ (t_ (s_ (s_ (r_ (ep E rfl (m_ rfl E.g14) fun a E => ep E rfl (m_ rfl E.g16) fun a E => ep E rfl (m_ rfl E.g18) fun a E => ec_ (v := .bool (sees k xs ts)) E rfl (run_call3 (enters_of Tryz.func55 (by kernel_rfl) rfl) rfl rfl E.g2 E.g1 E.g0) (sees_calls (hR0.fr hf (fun _ _ h => h)) (hx0.fr hf) k) fun a w1 f1 E => ?_)))))
  have hrb := f1.obj hrb id
  have hts := srcAt.fr hts f1 (fun r hr => id)
  have hsx := srcAt.fr hsx f1 (fun r hr => id)
  have hb59 := f1.obj hb59 id
  have hrow61 := fun j u hu => f1.cell (hrow61 j u hu) id
  have hb62 := f1.obj hb62 id
  have hf := hf.trans' f1 (fun _ _ h => h.elim)
  clear f1
  refine ep (v := .bool (!(sees k xs ts))) E rfl (run_not rfl E.g0) fun a E => n_ (t_ ?_)
  cases hq63 : (sees k xs ts) with
  | false =>
   rw [hq63] at E
   refine c_t E.g0 (r_ (ep (v := .pointer (some ⟨b62, 2, none⟩)) E rfl (fa38_2 rfl E.g5) fun a E => ep (v := .int .i64 t.2.2) E rfl (run_ldi rfl E.g0 (bx hb62 2 rfl)) fun a E => ep (v := .agg #[.int .i64 5, .int .i64 t.2.2]) E rfl (run_of54 rfl rfl E.g0) fun a E => ep (v := prob 5 t.2.2) E rfl (run_mkif54 rfl E.g0) fun a E => env_panic (wanted_none rfl _) (run_panic rfl E.g0) (then_p (pan_end E ⟨hf.mono (fun _ _ h => h.elim), ?_⟩))))
   unfold take
   rw [hcons] at hq63 ⊢
   simp only
   rw [if_neg (by rw [hq63]; simp)]
  | true =>
   rw [hq63] at E
   refine c_f E.g0 (k_ (t_ (s_ ?_)))
   obtain ⟨go, offo, hpl0, _, _⟩ := hts.at hlt0
   subst hpl0
   have h1n : 1 ≤ ts.length := hlt0
   have hpn : True := trivial
   refine r_ (ep E rfl (m_ rfl E.g19) fun a E => ep E rfl (m_ rfl E.g20) fun a E => ep E rfl (i_ rfl E.g0) fun a E => ep (v := .pointer (some ⟨rb, 0, none⟩)) E rfl (fa57_0 rfl E.g0) fun a E => ep (v := .slice (some ⟨go, offo, none⟩) ts.length cl) E rfl (run_ld34 rfl E.g0 (bx hrb 0 rfl)) fun a E => env_tail34 (d := 40) E rfl (by decide) rfl (wanted_none rfl _) rfl E.g0 rfl h1n hlv0 fun a pq hpq hdr E => ?_)
   have hdr := hdr (G := G) rfl hts
   refine ep E rfl (i_ rfl E.g5) fun a E => ep (v := .pointer (some ⟨rb, 0, none⟩)) E rfl (fa57_0 rfl E.g0) fun a E => env_st1 (j := 0) E rfl (wanted_none rfl _) hrb (run_st34 rfl E.g0 E.g2 (bx hrb 0 rfl) (free_of_blk hrb 0)) fun w1 hrbn f1 E => ?_
   replace hrbn : w1.heap[rb]? = some (.cells #[.slice (pq) (ts.length - 1) (cl - 1), .int .i64 en, sv] 59 (0, 0)) := hrbn
   have hf2 := (hf.mono (G := fun r => r = rb) (fun _ _ h => h.elim)).trans' f1 (fun r hr e => e)
   have hb59 := f1.obj hb59 nq_
   have hb62 := f1.obj hb62 nq_
   have hdr := srcAt.fr hdr f1 (fun _ hr => nq_)
   clear f1
   replace hrb := hrbn
   refine n_ (t_ (s_ (r_ (ep (v := .agg (tkA t)) E rfl (run_ld38 rfl E.g13 (rng3 (p := t) hb62 0 rfl rfl rfl)) fun a E => env_st38 E rfl (wanted_none rfl _) rfl E.g27 E.g0 hb59 fun w1 hb59n f1 E => ?_))))
   have hf2 := hf2.trans' f1 (fun _ hr => nq_)
   have hrb := f1.obj hrb nq_
   have hb62 := f1.obj hb62 nq_
   have hdr := srcAt.fr hdr f1 (fun _ hr => nq_)
   clear f1
   replace hb59 := hb59n
   refine n_ (t_ (wr_ ?_))
   have hl9 : ts.drop 1 = l9 := by rw [hcons]; rfl
   have hl9l : l9.length = ts.length - 1 := by rw [hcons]; simp
   rw [hl9] at hdr
   refine ret_cell38 rfl E E.g27 hb59 ⟨hf2, ?_⟩
   unfold take
   rw [hcons] at hq63 ⊢
   simp only
   rw [if_pos hq63]
   rw [hcons] at hrb hlv0
   exact ⟨rfl, hGr, _, hrb, pq, cl - 1, by rw [hl9l, hcons], by rw [hl9l, hcons]; omega, by omega, hdr, fun h => absurd h hpq⟩
 | true =>
  rw [hq60] at E
  have hnil : ts = [] := List.eq_nil_of_length_eq_zero (by have := hq60; rw [beq_iff_eq] at this; omega)
  refine c_t E.g0 (r_ (ep E rfl (m_ rfl E.g7) fun a E => ep E rfl (i_ rfl E.g0) fun a E => ep (v := .pointer (some ⟨rb, 1, none⟩)) E rfl (fa57_1 rfl E.g0) fun a E => ep (v := .int .i64 en) E rfl (run_ldi rfl E.g0 (bx hrb 1 rfl)) fun a E => ep (v := .agg #[.int .i64 6, .int .i64 en]) E rfl (run_of54 rfl rfl E.g0) fun a E => ep (v := prob 6 en) E rfl (run_mkif54 rfl E.g0) fun a E => env_panic (wanted_none rfl _) (run_panic rfl E.g0) (then_p (pan_end E ⟨hf.mono (fun _ _ h => h.elim), ?_⟩))))
  rw [hnil]
  rfl
end Go.Proofs.YtjaffpnegdcjnaaGreatDoor
/- The reader: clock, add. -/
set_option linter.unusedVariables false
set_option linter.unusedSimpArgs false
namespace Go.Proofs.YtjaffpnegdcjnaaGreatDoor
open Go.RowKit Go.Pl
theorem num_tok {t : Tok Int} (h : tokOK t) (hk : t.1 = 2) : t.2.1 ≠ [] ∧ (∀ b ∈ t.2.1, isDig b = true) ∧ t.2.1.length ≤ 7 ∧ 0 ≤ numT t.2.1 ∧ numT t.2.1 ≤ 9999999 := by
 rcases h with ⟨h, _⟩ | ⟨h, h0, h1, h2⟩ | h | ⟨h, _⟩
 ·omega
 ·exact ⟨h0, h2, h1, numT_go _ 0 (Int.le_refl _) h2, num_le h2 h1⟩
 ·omega
 ·omega
theorem len_ne2 (l : Bys) : (l.length != 2) = ((l.length : Int) != 2) := by
 by_cases h : l.length = 2
 ·rw [h]; rfl
 ·rw [bne_iff_ne.2 h, bne_iff_ne.2 (by omega)]
set_option maxRecDepth 100000 in
set_option maxHeartbeats 4000000 in
theorem clock_calls {w : World} {rb G : Nat} {en most : Int} {ts : List (Tok Int)} {sv : Value} (hR : Rd w rb G en ts sv) (hk : Tk ts) : Calls Tryz.prog 80 #[.pointer (some ⟨rb, 0, none⟩), .int .i64 most] w (StepP (Int × Int) w rb G en sv (fun r => .tuple #[.int .i64 r.1, .int .i64 r.2]) (clock en most ts)) := by
 refine wp_start2 Tryz.func80 rfl rfl (n := 60) (by decide) fun a E => ?_
 have hf : Fr (fun r => r = rb) w w := Fr.refl _ _
 have hrl := hR.lt
 refine s_ (r_ (ep (v := .int .i64 0) E rfl (a_ rfl rfl) fun a E => ep (v := .int .i64 0) E rfl (a_ rfl rfl) fun a E => n_ (t_ (s_ (r_ (ep E rfl (m_ rfl E.g2) fun a E => ep E rfl (i_ rfl E.g0) fun a E => ep (v := .pointer (some ⟨rb, 0, none⟩)) E rfl (fa59_0 rfl E.g0) fun a E => ?_))))))
 rcases htk64 : take en 2 [] ts with ⟨c64, x64⟩ | ⟨t64, l64⟩
 ·skip
  refine env_callp (ch := pn c64 x64) (R := fun w8 => Fr (fun r => r = rb) w w8) (wanted_none rfl _) (run_call3 (enters_of Tryz.func56 (by kernel_rfl) rfl) rfl rfl E.g0 rfl rfl) ((take_calls (xs := []) hR (Src.nil _) 2).mono fun e w8 h => by unfold StepP at h; rw [htk64] at h; exact ⟨h.2, h.1⟩) fun w1 f1 => ?_
  have hf := hf.trans' f1 (fun r hr e => by (try simp only at e); first | exact e | exact .inl e)
  refine then_p (pan_end E ⟨hf, ?_⟩)
  unfold clock
  rw [htk64]
  try simp only
 refine env_callv (d := 11) (R := fun u w8 => u = .agg (tkA t64) ∧ Rd w8 rb G en l64 sv ∧ Fr (fun r => r = rb) w w8) E rfl (by decide) rfl (wanted_none rfl _) (run_call3 (enters_of Tryz.func56 (by kernel_rfl) rfl) rfl rfl E.g0 rfl rfl) ((take_calls (xs := []) hR (Src.nil _) 2).mono fun e w8 h => by unfold StepP at h; rw [htk64] at h; exact ⟨_, h.2.1, rfl, h.2.2, h.1⟩) fun a w1 u ⟨hu, hR2, f1⟩ E => ?_
 subst hu
 have hf := hf.trans' f1 (fun _ hr => nq_)
 clear f1
 have hR := hR2
 clear hR2
 obtain ⟨hto64, hkd64, hk⟩ := take_tk hk htk64
 have hin64 := (take_ok htk64).2.2
 refine env_new (d := 6) E rfl (by decide) rfl (wanted_none rfl _) (run_alloc38 rfl) fun a w1 b65 eb65 hb65 f1 E => ?_
 have hnb65 : w.heap.size ≤ b65 := by have := hf.size; omega
 have hR := Rd.fr hR f1 (fun r hr => id)
 have hf := hf.trans' f1 (fun _ _ h => h.elim)
 clear f1
 refine env_st38 E rfl (wanted_none rfl _) rfl E.g0 E.g1 hb65 fun w1 hb65n f1 E => ?_
 have hR := Rd.fr hR f1 (fun _ hr => nq_)
 have hf := hf.trans' f1 (fun _ hr => nq_)
 clear f1
 replace hb65 := hb65n
 refine n_ (t_ (s_ (s_ ?_)))
 have hntt64 := num_tok hto64 hkd64
 refine r_ (ep (v := .agg (tkA t64)) E rfl (run_ld38 rfl E.g0 (rng3 (p := t64) hb65 0 rfl rfl rfl)) fun a E => ec_ (v := .int .i64 (numT t64.2.1)) E rfl (run_call1 (enters_of Tryz.func99 (by kernel_rfl) rfl) rfl rfl E.g0) (number_calls t64 hntt64.1 hntt64.2.1 hntt64.2.2.1 _) fun a w1 f1 E => ?_)
 have hR := Rd.fr hR f1 (fun r hr => id)
 have hb65 := f1.obj hb65 id
 have hf := hf.trans' f1 (fun _ _ h => h.elim)
 clear f1
 refine ep E rfl (m_ rfl E.g10) fun a E => ep (v := .bool (decide (most < (numT t64.2.1)))) E rfl (run_igtr E.g1 E.g0 Tryz.underlying3 rfl) fun a E => n_ (t_ ?_)
 cases hq66 : (decide (most < (numT t64.2.1))) with
 | false =>
  rw [hq66] at E
  refine c_f E.g0 (k_ (t_ (s_ (r_ (ep E rfl (m_ rfl E.g11) fun a E => ep E rfl (i_ rfl E.g0) fun a E => ep (v := .pointer (some ⟨rb, 0, none⟩)) E rfl (fa59_0 rfl E.g0) fun a E => env_one70 (d := 23) E rfl (by decide) rfl (wanted_none rfl _) rfl rfl fun a w1 b67 eb67 hbb67 f1 E => ?_)))))
  have hR := Rd.fr hR f1 (fun r hr => id)
  have hb65 := f1.obj hb65 id
  have hf := hf.trans' f1 (fun _ _ h => h.elim)
  clear f1
  have hsb67 := src_one (f := stL) (c := 1) (G := w1.heap.size) hbb67 (lt_of_blk hbb67)
  clear hbb67 eb67
  rcases htk68 : take en 4 [cColon] l64 with ⟨c68, x68⟩ | ⟨t68, l68⟩
  ·skip
   refine env_callp (ch := pn c68 x68) (R := fun w8 => Fr (fun r => r = rb) w1 w8) (wanted_none rfl _) (run_call3 (enters_of Tryz.func56 (by kernel_rfl) rfl) rfl rfl E.g1 rfl E.g0) ((take_calls (xs := [cColon]) hR ⟨_, 1, rfl, Nat.le_refl _, by omega, hsb67, fun h => by cases h⟩ 4).mono fun e w8 h => by unfold StepP at h; rw [htk68] at h; exact ⟨h.2, h.1⟩) fun w1 f1 => ?_
   have hf := hf.trans' f1 (fun r hr e => by (try simp only at e); first | exact e | exact .inl e)
   refine then_p (pan_end E ⟨hf, ?_⟩)
   unfold clock
   rw [htk64]
   try simp only
   rw [if_neg (of_decide_eq_false hq66)]
   try simp only
   rw [htk68]
   try simp only
  refine env_callv (d := 24) (R := fun u w8 => u = .agg (tkA t68) ∧ Rd w8 rb G en l68 sv ∧ Fr (fun r => r = rb) w1 w8) E rfl (by decide) rfl (wanted_none rfl _) (run_call3 (enters_of Tryz.func56 (by kernel_rfl) rfl) rfl rfl E.g1 rfl E.g0) ((take_calls (xs := [cColon]) hR ⟨_, 1, rfl, Nat.le_refl _, by omega, hsb67, fun h => by cases h⟩ 4).mono fun e w8 h => by unfold StepP at h; rw [htk68] at h; exact ⟨_, h.2.1, rfl, h.2.2, h.1⟩) fun a w1 u ⟨hu, hR2, f1⟩ E => ?_
  subst hu
  have hb65 := f1.obj hb65 nq_
  have hf := hf.trans' f1 (fun _ hr => nq_)
  clear f1
  have hR := hR2
  clear hR2
  obtain ⟨hto68, hkd68, hk⟩ := take_tk hk htk68
  have hin68 := (take_ok htk68).2.2
  refine n_ (t_ (s_ (r_ (ep E rfl (m_ rfl E.g16) fun a E => ep E rfl (i_ rfl E.g0) fun a E => ep (v := .pointer (some ⟨rb, 0, none⟩)) E rfl (fa59_0 rfl E.g0) fun a E => ?_))))
  rcases htk69 : take en 2 [] l68 with ⟨c69, x69⟩ | ⟨t69, l69⟩
  ·skip
   refine env_callp (ch := pn c69 x69) (R := fun w8 => Fr (fun r => r = rb) w1 w8) (wanted_none rfl _) (run_call3 (enters_of Tryz.func56 (by kernel_rfl) rfl) rfl rfl E.g0 rfl rfl) ((take_calls (xs := []) hR (Src.nil _) 2).mono fun e w8 h => by unfold StepP at h; rw [htk69] at h; exact ⟨h.2, h.1⟩) fun w1 f1 => ?_
   have hf := hf.trans' f1 (fun r hr e => by (try simp only at e); first | exact e | exact .inl e)
   refine then_p (pan_end E ⟨hf, ?_⟩)
   unfold clock
   rw [htk64]
   try simp only
   rw [if_neg (of_decide_eq_false hq66)]
   try simp only
   rw [htk68]
   try simp only
   rw [htk69]
   try simp only
  refine env_callv (d := 28) (R := fun u w8 => u = .agg (tkA t69) ∧ Rd w8 rb G en l69 sv ∧ Fr (fun r => r = rb) w1 w8) E rfl (by decide) rfl (wanted_none rfl _) (run_call3 (enters_of Tryz.func56 (by kernel_rfl) rfl) rfl rfl E.g0 rfl rfl) ((take_calls (xs := []) hR (Src.nil _) 2).mono fun e w8 h => by unfold StepP at h; rw [htk69] at h; exact ⟨_, h.2.1, rfl, h.2.2, h.1⟩) fun a w1 u ⟨hu, hR2, f1⟩ E => ?_
  subst hu
  have hb65 := f1.obj hb65 nq_
  have hf := hf.trans' f1 (fun _ hr => nq_)
  clear f1
  have hR := hR2
  clear hR2
  obtain ⟨hto69, hkd69, hk⟩ := take_tk hk htk69
  have hin69 := (take_ok htk69).2.2
  refine env_new (d := 7) E rfl (by decide) rfl (wanted_none rfl _) (run_alloc38 rfl) fun a w1 b70 eb70 hb70 f1 E => ?_
  have hnb70 : w.heap.size ≤ b70 := by have := hf.size; omega
  have hlb65b70 : b65 < b70 := by have := lt_of_blk hb65; omega
  have hR := Rd.fr hR f1 (fun r hr => id)
  have hb65 := f1.obj hb65 id
  have hf := hf.trans' f1 (fun _ _ h => h.elim)
  clear f1
  refine env_st38 E rfl (wanted_none rfl _) rfl E.g0 E.g1 hb70 fun w1 hb70n f1 E => ?_
  have hR := Rd.fr hR f1 (fun _ hr => nq_)
  have hb65 := f1.obj hb65 nq_
  have hf := hf.trans' f1 (fun _ hr => nq_)
  clear f1
  replace hb70 := hb70n
  refine n_ (t_ (s_ (s_ ?_)))
  have hntt69 := num_tok hto69 hkd69
  refine r_ (ep (v := .pointer (some ⟨b70, 1, none⟩)) E rfl (fa38_1 rfl E.g0) fun a E => ep (v := .string (ofL t69.2.1)) E rfl (run_lds rfl E.g0 (bx hb70 1 rfl)) fun a E => ep (v := .int .i64 (t69.2.1.length : Int)) E rfl (run_slen rfl E.g0) fun a E => ep (v := .bool ((t69.2.1.length : Int) != 2)) E rfl (run_ineq E.g0 rfl Tryz.underlying3 rfl) fun a E => ep E rfl (m_ rfl E.g0) fun a E => ?_)
  cases hq71 : ((t69.2.1.length : Int) != 2) with
  | false =>
   rw [hq71] at E
   refine eg (v := .agg (tkA t69)) E rfl (wy_ E E.g0) (run_ld38 rfl E.g5 (rng3 (p := t69) hb70 0 rfl rfl rfl)) fun a E => env_call (d := 35) (v := .int .i64 (numT t69.2.1)) E rfl (by decide) rfl (wy_ E E.g1) (run_call1 (enters_of Tryz.func99 (by kernel_rfl) rfl) rfl rfl E.g0) (number_calls t69 hntt69.1 hntt69.2.1 hntt69.2.2.1 _) fun a w1 f1 E => ?_
   have hR := Rd.fr hR f1 (fun r hr => id)
   have hb65 := f1.obj hb65 id
   have hb70 := f1.obj hb70 id
   have hf := hf.trans' f1 (fun _ _ h => h.elim)
   clear f1
   refine eg (v := .bool (decide (59 < (numT t69.2.1)))) E rfl (wy_ E E.g2) (run_igtr E.g0 rfl Tryz.underlying3 rfl) fun a E => ep (v := .bool (decide (59 < (numT t69.2.1)))) E rfl (run_pick_f rfl E.g3 E.g0) fun a E => ep E rfl (m_ rfl E.g0) fun a E => ?_
   cases hq72 : (decide (59 < (numT t69.2.1))) with
   | false =>
    rw [hq72] at E
    refine eg (v := .agg (tkA t64)) E rfl (wy_ E E.g0) (run_ld38 rfl E.g24 (rng3 (p := t64) hb65 0 rfl rfl rfl)) fun a E => env_call (d := 40) (v := .int .i64 (numT t64.2.1)) E rfl (by decide) rfl (wy_ E E.g1) (run_call1 (enters_of Tryz.func99 (by kernel_rfl) rfl) rfl rfl E.g0) (number_calls t64 hntt64.1 hntt64.2.1 hntt64.2.2.1 _) fun a w1 f1 E => ?_
    have hR := Rd.fr hR f1 (fun r hr => id)
    have hb65 := f1.obj hb65 id
    have hb70 := f1.obj hb70 id
    have hf := hf.trans' f1 (fun _ _ h => h.elim)
    clear f1
    refine eg (v := .bool ((numT t64.2.1) == 24)) E rfl (wy_ E E.g2) (run_ieql E.g0 rfl Tryz.underlying3 rfl) fun a E => eg E rfl (wy_ E E.g3) (m_ rfl E.g0) fun a E => ?_
    cases hq73 : ((numT t64.2.1) == 24) with
    | false =>
     rw [hq73] at E
     refine ek E rfl rfl E.g0 fun a E => ek E rfl rfl E.g1 fun a E => ek E rfl rfl E.g2 fun a E => eg (v := .bool false) E rfl (wy_ E E.g7) (run_pick_f rfl E.g3 rfl) fun a E => ep (v := .bool false) E rfl (run_pick_f rfl E.g8 E.g0) fun a E => n_ (t_ (c_f E.g0 (k_ (t_ (s_ (wp_region_invx (G := Unit) () (n := 60) (base := [(47, .bool false), (46, .bool false), (45, undef), (44, undef), (43, undef), (42, .bool false), (41, .bool false), (40, .int .i64 (numT t64.2.1)), (39, .agg (tkA t64)), (38, .bool false), (37, .bool false), (36, .bool false), (35, .int .i64 (numT t69.2.1)), (34, .agg (tkA t69)), (33, .bool false), (32, .bool false), (31, .int .i64 (t69.2.1.length : Int)), (30, .string (ofL t69.2.1)), (29, .pointer (some ⟨b70, 1, none⟩)), (7, .pointer (some ⟨b70, 0, none⟩)), (28, .agg (tkA t69)), (27, .pointer (some ⟨rb, 0, none⟩)), (26, .pointer (some ⟨rb, 0, none⟩)), (25, .pointer (some ⟨rb, 0, none⟩)), (23, .slice (some ⟨b67, 0, none⟩) 1 1), (22, .pointer (some ⟨rb, 0, none⟩)), (21, .pointer (some ⟨rb, 0, none⟩)), (20, .pointer (some ⟨rb, 0, none⟩)), (15, .bool false), (14, .int .i64 most), (13, .int .i64 (numT t64.2.1)), (12, .agg (tkA t64)), (6, .pointer (some ⟨b65, 0, none⟩)), (11, .agg (tkA t64)), (10, .pointer (some ⟨rb, 0, none⟩)), (9, .pointer (some ⟨rb, 0, none⟩)), (8, .pointer (some ⟨rb, 0, none⟩)), (0, .pointer (some ⟨rb, 0, none⟩)), (1, .int .i64 most)]) (U := [(5, .int .i64 0, 9), (4, .int .i64 0, 8)]) (T := fun γ => [some (52, .agg (tkA t64)), some (53, .int .i64 (numT t64.2.1)), some (54, .int .i64 (60 * (numT t64.2.1))), some (55, .agg (tkA t69)), some (56, .int .i64 (numT t69.2.1)), some (57, .int .i64 ((60 * (numT t64.2.1)) + (numT t69.2.1))), some (58, .pointer (some ⟨b65, 2, none⟩)), some (59, .int .i64 t64.2.2), some (4, .int .i64 ((60 * (numT t64.2.1)) + (numT t69.2.1))), some (5, .int .i64 t64.2.2)]) (M := fun γ ls9 wm => Fr (fun _ => False) w1 wm) (by kernel_rfl) (by kernel_rfl) (fun _ => by kernel_rfl) (E.of ⟨E.g0, E.g1, E.g2, E.g3, E.g4, E.g5, E.g6, E.g7, E.g8, E.g9, E.g10, E.g11, E.g12, E.g13, E.g14, E.g15, E.g16, E.g17, E.g18, E.g19, E.g20, E.g21, E.g22, E.g23, E.g25, E.g26, E.g27, E.g28, E.g29, E.g30, E.g31, E.g32, E.g33, E.g34, E.g35, E.g36, E.g37, E.g40, E.g41, trivial⟩) (fun x hx => by simp only [List.mem_cons, List.not_mem_nil, or_false] at hx; rcases hx with rfl | rfl; exact E.g38; exact E.g39) (Fr.refl _ _).drew ?_ ?_))))))
     ·intro j9 o9 γ ls9 a w5 ho hl E D DL DL2 hB hM
      have hR := Rd.fr hR hM (fun r hr => id)
      have hb65 := hM.obj hb65 id
      have hb70 := hM.obj hb70 id
      match j9, ho, hl, D, DL, hB with
      | 0, ho, hl, D, DL, hB => exact z0_ ho (valx rfl (run_ld38 rfl E.g32 (rng3 (p := t64) hb65 0 rfl rfl rfl)) rfl hM)
      | 1, ho, hl, D, DL, hB => exact z0_ ho (callx rfl (run_call1 (enters_of Tryz.func99 (by kernel_rfl) rfl) rfl rfl (D 0 _ rfl rfl)) (number_calls t64 hntt64.1 hntt64.2.1 hntt64.2.2.1 _) rfl fun w9 f1 => hM.trans' f1 (fun _ _ h => h.elim))
      | 2, ho, hl, D, DL, hB => exact z0_ ho (valx rfl (run_imul Tryz.underlying3 rfl (D 1 _ rfl rfl) (by omega) (by omega) rfl) rfl hM)
      | 3, ho, hl, D, DL, hB => exact z0_ ho (valx rfl (run_ld38 rfl E.g19 (rng3 (p := t69) hb70 0 rfl rfl rfl)) rfl hM)
      | 4, ho, hl, D, DL, hB => exact z0_ ho (callx rfl (run_call1 (enters_of Tryz.func99 (by kernel_rfl) rfl) rfl rfl (D 3 _ rfl rfl)) (number_calls t69 hntt69.1 hntt69.2.1 hntt69.2.2.1 _) rfl fun w9 f1 => hM.trans' f1 (fun _ _ h => h.elim))
      | 5, ho, hl, D, DL, hB => exact z0_ ho (valx rfl (run_iadd Tryz.underlying3 (D 2 _ rfl rfl) (D 4 _ rfl rfl) (by omega) (by omega) rfl) rfl hM)
      | 6, ho, hl, D, DL, hB => exact z0_ ho (valx rfl (fa38_2 rfl E.g32) rfl hM)
      | 7, ho, hl, D, DL, hB => exact z0_ ho (valx rfl (run_ldi rfl (D 6 _ rfl rfl) (bx hb65 2 rfl)) rfl hM)
      | 8, ho, hl, D, DL, hB => exact z0_ ho (valx rfl (a_ rfl (D 5 _ rfl rfl)) rfl hM)
      | 9, ho, hl, D, DL, hB => exact z0_ ho (valx rfl (a_ rfl (D 7 _ rfl rfl)) rfl hM)
      | j9 + 10, ho, hl, D, DL, hB => exact absurd ho (by simp)
     ·rintro _ a w5 E V hM
      have E := E.add (v := .int .i64 ((60 * (numT t64.2.1)) + (numT t69.2.1))) (V 8 _ rfl)
      have E := E.add (v := .int .i64 t64.2.2) (V 9 _ rfl)
      clear V
      have hR := Rd.fr hR hM (fun r hr => id)
      have hb65 := hM.obj hb65 id
      have hb70 := hM.obj hb70 id
      have hf := hf.trans' hM (fun _ _ h => h.elim)
      clear hM
      refine t_ (wr_ (ret_tmp2 (t := 4) (t2 := 5) rfl E E.g1 E.g0 ⟨hf, ?_⟩))
      unfold clock
      rw [htk64]
      try simp only
      rw [if_neg (of_decide_eq_false hq66)]
      try simp only
      rw [htk68]
      try simp only
      rw [htk69]
      try simp only
      have hbb : (t69.2.1.length != 2 || decide (numT t69.2.1 > 59) || (numT t64.2.1 == 24 && decide (numT t69.2.1 > 0))) = false := by
       rw [len_ne2]
       simp only [gt_iff_lt]
       try rw [hq71]
       try rw [hq72]
       try rw [hq73]
       first | rfl | simp
      rw [hbb]
      simp only [Bool.false_eq_true, if_true, if_false]
      first | exact ⟨rfl, hR⟩ | exact ⟨trivial, hR⟩
    | true =>
     rw [hq73] at E
     refine eg (v := .agg (tkA t69)) E rfl (wy_ E E.g0) (run_ld38 rfl E.g14 (rng3 (p := t69) hb70 0 rfl rfl rfl)) fun a E => env_call (d := 44) (v := .int .i64 (numT t69.2.1)) E rfl (by decide) rfl (wy_ E E.g1) (run_call1 (enters_of Tryz.func99 (by kernel_rfl) rfl) rfl rfl E.g0) (number_calls t69 hntt69.1 hntt69.2.1 hntt69.2.2.1 _) fun a w1 f1 E => ?_
     have hR := Rd.fr hR f1 (fun r hr => id)
     have hb65 := f1.obj hb65 id
     have hb70 := f1.obj hb70 id
     have hf := hf.trans' f1 (fun _ _ h => h.elim)
     clear f1
     refine eg (v := .bool (decide (0 < (numT t69.2.1)))) E rfl (wy_ E E.g2) (run_igtr E.g0 rfl Tryz.underlying3 rfl) fun a E => eg (v := .bool (decide (0 < (numT t69.2.1)))) E rfl (wy_ E E.g7) (run_pick_t rfl E.g3 E.g0) fun a E => ep (v := .bool (decide (0 < (numT t69.2.1)))) E rfl (run_pick_f rfl E.g8 E.g0) fun a E => n_ (t_ ?_)
     cases hq75 : (decide (0 < (numT t69.2.1))) with
     | false =>
      rw [hq75] at E
      refine c_f E.g0 (k_ (t_ (s_ (wp_region_invx (G := Unit) () (n := 60) (base := [(47, .bool false), (46, .bool false), (45, .bool false), (44, .int .i64 (numT t69.2.1)), (43, .agg (tkA t69)), (42, .bool true), (41, .bool true), (40, .int .i64 (numT t64.2.1)), (39, .agg (tkA t64)), (38, .bool false), (37, .bool false), (36, .bool false), (35, .int .i64 (numT t69.2.1)), (34, .agg (tkA t69)), (33, .bool false), (32, .bool false), (31, .int .i64 (t69.2.1.length : Int)), (30, .string (ofL t69.2.1)), (29, .pointer (some ⟨b70, 1, none⟩)), (7, .pointer (some ⟨b70, 0, none⟩)), (28, .agg (tkA t69)), (27, .pointer (some ⟨rb, 0, none⟩)), (26, .pointer (some ⟨rb, 0, none⟩)), (25, .pointer (some ⟨rb, 0, none⟩)), (23, .slice (some ⟨b67, 0, none⟩) 1 1), (22, .pointer (some ⟨rb, 0, none⟩)), (21, .pointer (some ⟨rb, 0, none⟩)), (20, .pointer (some ⟨rb, 0, none⟩)), (15, .bool false), (14, .int .i64 most), (13, .int .i64 (numT t64.2.1)), (12, .agg (tkA t64)), (6, .pointer (some ⟨b65, 0, none⟩)), (11, .agg (tkA t64)), (10, .pointer (some ⟨rb, 0, none⟩)), (9, .pointer (some ⟨rb, 0, none⟩)), (8, .pointer (some ⟨rb, 0, none⟩)), (0, .pointer (some ⟨rb, 0, none⟩)), (1, .int .i64 most)]) (U := [(5, .int .i64 0, 9), (4, .int .i64 0, 8)]) (T := fun γ => [some (52, .agg (tkA t64)), some (53, .int .i64 (numT t64.2.1)), some (54, .int .i64 (60 * (numT t64.2.1))), some (55, .agg (tkA t69)), some (56, .int .i64 (numT t69.2.1)), some (57, .int .i64 ((60 * (numT t64.2.1)) + (numT t69.2.1))), some (58, .pointer (some ⟨b65, 2, none⟩)), some (59, .int .i64 t64.2.2), some (4, .int .i64 ((60 * (numT t64.2.1)) + (numT t69.2.1))), some (5, .int .i64 t64.2.2)]) (M := fun γ ls9 wm => Fr (fun _ => False) w1 wm) (by kernel_rfl) (by kernel_rfl) (fun _ => by kernel_rfl) (E.of ⟨E.g0, E.g1, E.g2, E.g3, E.g4, E.g5, E.g6, E.g7, E.g8, E.g9, E.g10, E.g11, E.g12, E.g13, E.g14, E.g15, E.g16, E.g17, E.g18, E.g19, E.g20, E.g21, E.g22, E.g23, E.g25, E.g26, E.g27, E.g28, E.g29, E.g30, E.g31, E.g32, E.g33, E.g34, E.g35, E.g36, E.g37, E.g40, E.g41, trivial⟩) (fun x hx => by simp only [List.mem_cons, List.not_mem_nil, or_false] at hx; rcases hx with rfl | rfl; exact E.g38; exact E.g39) (Fr.refl _ _).drew ?_ ?_))))
      ·intro j9 o9 γ ls9 a w5 ho hl E D DL DL2 hB hM
       have hR := Rd.fr hR hM (fun r hr => id)
       have hb65 := hM.obj hb65 id
       have hb70 := hM.obj hb70 id
       match j9, ho, hl, D, DL, hB with
       | 0, ho, hl, D, DL, hB => exact z0_ ho (valx rfl (run_ld38 rfl E.g32 (rng3 (p := t64) hb65 0 rfl rfl rfl)) rfl hM)
       | 1, ho, hl, D, DL, hB => exact z0_ ho (callx rfl (run_call1 (enters_of Tryz.func99 (by kernel_rfl) rfl) rfl rfl (D 0 _ rfl rfl)) (number_calls t64 hntt64.1 hntt64.2.1 hntt64.2.2.1 _) rfl fun w9 f1 => hM.trans' f1 (fun _ _ h => h.elim))
       | 2, ho, hl, D, DL, hB => exact z0_ ho (valx rfl (run_imul Tryz.underlying3 rfl (D 1 _ rfl rfl) (by omega) (by omega) rfl) rfl hM)
       | 3, ho, hl, D, DL, hB => exact z0_ ho (valx rfl (run_ld38 rfl E.g19 (rng3 (p := t69) hb70 0 rfl rfl rfl)) rfl hM)
       | 4, ho, hl, D, DL, hB => exact z0_ ho (callx rfl (run_call1 (enters_of Tryz.func99 (by kernel_rfl) rfl) rfl rfl (D 3 _ rfl rfl)) (number_calls t69 hntt69.1 hntt69.2.1 hntt69.2.2.1 _) rfl fun w9 f1 => hM.trans' f1 (fun _ _ h => h.elim))
       | 5, ho, hl, D, DL, hB => exact z0_ ho (valx rfl (run_iadd Tryz.underlying3 (D 2 _ rfl rfl) (D 4 _ rfl rfl) (by omega) (by omega) rfl) rfl hM)
       | 6, ho, hl, D, DL, hB => exact z0_ ho (valx rfl (fa38_2 rfl E.g32) rfl hM)
       | 7, ho, hl, D, DL, hB => exact z0_ ho (valx rfl (run_ldi rfl (D 6 _ rfl rfl) (bx hb65 2 rfl)) rfl hM)
       | 8, ho, hl, D, DL, hB => exact z0_ ho (valx rfl (a_ rfl (D 5 _ rfl rfl)) rfl hM)
       | 9, ho, hl, D, DL, hB => exact z0_ ho (valx rfl (a_ rfl (D 7 _ rfl rfl)) rfl hM)
       | j9 + 10, ho, hl, D, DL, hB => exact absurd ho (by simp)
      ·rintro _ a w5 E V hM
       have E := E.add (v := .int .i64 ((60 * (numT t64.2.1)) + (numT t69.2.1))) (V 8 _ rfl)
       have E := E.add (v := .int .i64 t64.2.2) (V 9 _ rfl)
       clear V
       have hR := Rd.fr hR hM (fun r hr => id)
       have hb65 := hM.obj hb65 id
       have hb70 := hM.obj hb70 id
       have hf := hf.trans' hM (fun _ _ h => h.elim)
       clear hM
       refine t_ (wr_ (ret_tmp2 (t := 4) (t2 := 5) rfl E E.g1 E.g0 ⟨hf, ?_⟩))
       unfold clock
       rw [htk64]
       try simp only
       rw [if_neg (of_decide_eq_false hq66)]
       try simp only
       rw [htk68]
       try simp only
       rw [htk69]
       try simp only
       have hbb : (t69.2.1.length != 2 || decide (numT t69.2.1 > 59) || (numT t64.2.1 == 24 && decide (numT t69.2.1 > 0))) = false := by
        rw [len_ne2]
        simp only [gt_iff_lt]
        try rw [hq71]
        try rw [hq72]
        try rw [hq73]
        try rw [hq75]
        first | rfl | simp
       rw [hbb]
       simp only [Bool.false_eq_true, if_true, if_false]
       first | exact ⟨rfl, hR⟩ | exact ⟨trivial, hR⟩
     | true =>
      rw [hq75] at E
      refine c_t E.g0 (r_ (ep (v := .pointer (some ⟨b70, 2, none⟩)) E rfl (fa38_2 rfl E.g19) fun a E => ep (v := .int .i64 t69.2.2) E rfl (run_ldi rfl E.g0 (bx hb70 2 rfl)) fun a E => ep (v := .agg #[.int .i64 10, .int .i64 t69.2.2]) E rfl (run_of54 rfl rfl E.g0) fun a E => ep (v := prob 10 t69.2.2) E rfl (run_mkif54 rfl E.g0) fun a E => env_panic (wanted_none rfl _) (run_panic rfl E.g0) (then_p (pan_end E ⟨hf, ?_⟩))))
      unfold clock
      rw [htk64]
      try simp only
      rw [if_neg (of_decide_eq_false hq66)]
      try simp only
      rw [htk68]
      try simp only
      rw [htk69]
      try simp only
      have hbb : (t69.2.1.length != 2 || decide (numT t69.2.1 > 59) || (numT t64.2.1 == 24 && decide (numT t69.2.1 > 0))) = true := by
       rw [len_ne2]
       simp only [gt_iff_lt]
       try rw [hq71]
       try rw [hq72]
       try rw [hq73]
       try rw [hq75]
       first | rfl | simp
      rw [hbb]
      simp only [Bool.false_eq_true, if_true, if_false]
   | true =>
    rw [hq72] at E
    refine ek E rfl rfl E.g0 fun a E => ek E rfl rfl E.g1 fun a E => ek E rfl rfl E.g2 fun a E => ek E rfl rfl E.g3 fun a E => eu E rfl rfl E.g0 fun a E => eu E rfl rfl E.g1 fun a E => eu E rfl rfl E.g2 fun a E => ek E rfl rfl E.g7 fun a E => ep (v := .bool true) E rfl (run_pick_t rfl E.g8 rfl) fun a E => n_ (t_ (c_t E.g0 (r_ (ep (v := .pointer (some ⟨b70, 2, none⟩)) E rfl (fa38_2 rfl E.g19) fun a E => ep (v := .int .i64 t69.2.2) E rfl (run_ldi rfl E.g0 (bx hb70 2 rfl)) fun a E => ep (v := .agg #[.int .i64 10, .int .i64 t69.2.2]) E rfl (run_of54 rfl rfl E.g0) fun a E => ep (v := prob 10 t69.2.2) E rfl (run_mkif54 rfl E.g0) fun a E => env_panic (wanted_none rfl _) (run_panic rfl E.g0) (then_p (pan_end E ⟨hf, ?_⟩))))))
    unfold clock
    rw [htk64]
    try simp only
    rw [if_neg (of_decide_eq_false hq66)]
    try simp only
    rw [htk68]
    try simp only
    rw [htk69]
    try simp only
    have hbb : (t69.2.1.length != 2 || decide (numT t69.2.1 > 59) || (numT t64.2.1 == 24 && decide (numT t69.2.1 > 0))) = true := by
     rw [len_ne2]
     simp only [gt_iff_lt]
     try rw [hq71]
     try rw [hq72]
     first | rfl | simp
    rw [hbb]
    simp only [Bool.false_eq_true, if_true, if_false]
  | true =>
   rw [hq71] at E
   refine ek E rfl rfl E.g0 fun a E => ek E rfl rfl E.g1 fun a E => ek E rfl rfl E.g2 fun a E => ep (v := .bool true) E rfl (run_pick_t rfl E.g3 rfl) fun a E => ep E rfl (m_ rfl E.g0) fun a E => ek E rfl rfl E.g0 fun a E => ek E rfl rfl E.g1 fun a E => ek E rfl rfl E.g2 fun a E => ek E rfl rfl E.g3 fun a E => eu E rfl rfl E.g0 fun a E => eu E rfl rfl E.g1 fun a E => eu E rfl rfl E.g2 fun a E => ek E rfl rfl E.g7 fun a E => ep (v := .bool true) E rfl (run_pick_t rfl E.g8 rfl) fun a E => n_ (t_ (c_t E.g0 (r_ (ep (v := .pointer (some ⟨b70, 2, none⟩)) E rfl (fa38_2 rfl E.g19) fun a E => ep (v := .int .i64 t69.2.2) E rfl (run_ldi rfl E.g0 (bx hb70 2 rfl)) fun a E => ep (v := .agg #[.int .i64 10, .int .i64 t69.2.2]) E rfl (run_of54 rfl rfl E.g0) fun a E => ep (v := prob 10 t69.2.2) E rfl (run_mkif54 rfl E.g0) fun a E => env_panic (wanted_none rfl _) (run_panic rfl E.g0) (then_p (pan_end E ⟨hf, ?_⟩))))))
   unfold clock
   rw [htk64]
   try simp only
   rw [if_neg (of_decide_eq_false hq66)]
   try simp only
   rw [htk68]
   try simp only
   rw [htk69]
   try simp only
   have hbb : (t69.2.1.length != 2 || decide (numT t69.2.1 > 59) || (numT t64.2.1 == 24 && decide (numT t69.2.1 > 0))) = true := by
    rw [len_ne2]
    simp only [gt_iff_lt]
    try rw [hq71]
    first | rfl | simp
   rw [hbb]
   simp only [Bool.false_eq_true, if_true, if_false]
 | true =>
  rw [hq66] at E
  refine c_t E.g0 (r_ (ep (v := .pointer (some ⟨b65, 2, none⟩)) E rfl (fa38_2 rfl E.g4) fun a E => ep (v := .int .i64 t64.2.2) E rfl (run_ldi rfl E.g0 (bx hb65 2 rfl)) fun a E => ep (v := .agg #[.int .i64 10, .int .i64 t64.2.2]) E rfl (run_of54 rfl rfl E.g0) fun a E => ep (v := prob 10 t64.2.2) E rfl (run_mkif54 rfl E.g0) fun a E => env_panic (wanted_none rfl _) (run_panic rfl E.g0) (then_p (pan_end E ⟨hf, ?_⟩))))
  unfold clock
  rw [htk64]
  try simp only
  rw [if_pos (of_decide_eq_true hq66)]
  try simp only
/-- The reader with the spans that it has. -/
def RdO (w : World) (rb G B : Nat) (en : Int) (ts : List (Tok Int)) (ss : List Sp) : Prop := rb < B ∧ B ≤ w.heap.size ∧ ∃ sv, Rd w rb G en ts sv ∧ oSp w B sv ss
theorem RdO.fr {w w' : World} {rb G B : Nat} {en : Int} {ts : List (Tok Int)} {ss : List Sp} (h : RdO w rb G B en ts ss) (f : Fr (fun _ => False) w w') : RdO w' rb G B en ts ss := by
 obtain ⟨h1, h2, sv, h3, h4⟩ := h
 exact ⟨h1, Nat.le_trans h2 f.size, sv, h3.fr f (fun _ _ => id), h4.fr f fun _ _ => id⟩
set_option maxRecDepth 100000 in
set_option maxHeartbeats 4000000 in
theorem add_calls {w : World} {rb G B : Nat} {en f t : Int} {ts : List (Tok Int)} {ss : List Sp} (hRO : RdO w rb G B en ts ss) (ht : 0 ≤ t) (ht2 : t ≤ 30000) (hl : ss.length ≤ 300000000) : Calls Tryz.prog 57 #[.pointer (some ⟨rb, 0, none⟩), .int .i64 f, .int .i64 t] w fun e w' => e = .returned (.tuple #[]) ∧ RdO w' rb G B en ts (ss ++ addL f t) ∧ Fr (fun r => r = rb ∨ B ≤ r) w w' := by
 obtain ⟨hrB, hBs, sv, hR, hO⟩ := hRO
 obtain ⟨hGr, lv, hrb, pl, cl, hlv, hlv0, hlv1, hts, hzl⟩ := hR
 subst hlv
 have hrl := lt_of_blk hrb
 refine wp_start3 Tryz.func57 rfl rfl (n := 33) (by decide) fun a E => ?_
 have hf : Fr (fun r => r = rb ∨ B ≤ r) w w := Fr.refl _ _
 refine s_ (r_ (ep E rfl (m_ rfl E.g0) fun a E => ep E rfl (m_ rfl E.g1) fun a E => ep E rfl (i_ rfl E.g0) fun a E => ep (v := .pointer (some ⟨rb, 2, none⟩)) E rfl (fa59_1 rfl E.g0) fun a E => ep (v := sv) E rfl (run_ld22 rfl E.g0 (bx hrb 2 rfl)) fun a E => ep E rfl (m_ rfl E.g6) fun a E => ep E rfl (m_ rfl E.g8) fun a E => ep (v := .int .i64 (min t 10080)) E rfl (run_min rfl E.g0 rfl) fun a E => ep (v := .agg (spA (f, (min t 10080)))) E rfl (run_of48 rfl E.g2 E.g0) fun a E => env_one22 (d := 15) E rfl (by decide) rfl (wanted_none rfl _) rfl E.g0 fun a w1 b77 eb77 hbb77 f1 E => ?_))
 have hrb := f1.obj hrb id
 have hts := srcAt.fr hts f1 (fun r hr => id)
 have hO := ow.fr hO f1 (fun _ _ => id)
 have hBs := Nat.le_trans hBs f1.size
 have hf := hf.trans' f1 (fun _ _ h => h.elim)
 clear f1
 have hsb77 := src_one (f := spL) (c := 2) (G := w1.heap.size) hbb77 (lt_of_blk hbb77)
 clear hbb77 eb77
 refine env_app22 (d := 16) E rfl (by decide) rfl rfl rfl E.g5 hO E.g0 hsb77 (fun h => by cases h) (by simp only [List.length_append, List.length_cons, List.length_nil]; omega) hBs fun a w1 ov78 hO2 f1 hloc E => ?_
 have hrb := f1.obj hrb (fun e => by (try simp only at e); have := (hO.lt e).1; omega)
 have hts := srcAt.fr hts f1 (fun r hr => (fun e => by (try simp only at e); have := (hO.lt e).1; omega))
 have hBs := Nat.le_trans hBs f1.size
 have hf := hf.trans' f1 (fun r hr => (fun e => by (try simp only at e); have := (hO.lt e).1; omega))
 clear f1
 replace hO := hO2
 clear hloc
 refine ep E rfl (i_ rfl E.g10) fun a E => ep (v := .pointer (some ⟨rb, 2, none⟩)) E rfl (fa59_1 rfl E.g0) fun a E => env_st1 (j := 2) E rfl (wanted_none rfl _) hrb (run_st22v (ow.sl spL_len hO) rfl E.g0 E.g2 (bx hrb 2 rfl) (free_of_blk hrb 2)) fun w1 hrbn f1 E => ?_
 replace hrbn : w1.heap[rb]? = some (.cells #[.slice (pl) ts.length cl, .int .i64 en, ov78] 59 (0, 0)) := hrbn
 have hts := srcAt.fr hts f1 (fun _ hr => nq_)
 have hO := ow.fr hO f1 (fun k hk e => by have := (hO.lt hk).1; (try simp only at e); omega)
 have hBs := Nat.le_trans hBs f1.size
 have hf := hf.trans' f1 (fun _ hr => nq_)
 clear f1
 replace hrb := hrbn
 refine n_ (t_ (s_ (r_ (ep E rfl (m_ rfl E.g15) fun a E => ep (v := .bool (decide (10080 < t))) E rfl (run_igtr E.g0 rfl Tryz.underlying3 rfl) fun a E => n_ (t_ ?_)))))
 cases hq79 : (decide (10080 < t)) with
 | false =>
  rw [hq79] at E
  refine c_f E.g0 (k_ ((ret_nil rfl E ⟨rfl, ⟨hrB, hBs, _, ⟨hGr, _, hrb, _, _, rfl, hlv0, hlv1, hts, hzl⟩, ?_⟩, hf⟩).1))
  unfold addL
  rw [if_neg (of_decide_eq_false hq79)]
  first | exact hO | (simp only [List.append_assoc, List.cons_append, List.nil_append] at hO; exact hO)
 | true =>
  rw [hq79] at E
  refine c_t E.g0 (r_ (ep E rfl (m_ rfl E.g15) fun a E => ep E rfl (m_ rfl E.g16) fun a E => ep E rfl (i_ rfl E.g0) fun a E => ep (v := .pointer (some ⟨rb, 2, none⟩)) E rfl (fa59_1 rfl E.g0) fun a E => ep (v := ov78) E rfl (run_ld22 rfl E.g0 (bx hrb 2 rfl)) fun a E => ep E rfl (m_ rfl E.g22) fun a E => ep (v := .int .i64 (t - 10080)) E rfl (run_isub Tryz.underlying3 E.g0 rfl (by omega) (by omega) rfl) fun a E => ep (v := .agg (spA (0, (t - 10080)))) E rfl (run_of48 rfl rfl E.g0) fun a E => env_one22 (d := 29) E rfl (by decide) rfl (wanted_none rfl _) rfl E.g0 fun a w1 b80 eb80 hbb80 f1 E => ?_))
  have hrb := f1.obj hrb id
  have hts := srcAt.fr hts f1 (fun r hr => id)
  have hO := ow.fr hO f1 (fun _ _ => id)
  have hBs := Nat.le_trans hBs f1.size
  have hf := hf.trans' f1 (fun _ _ h => h.elim)
  clear f1
  have hsb80 := src_one (f := spL) (c := 2) (G := w1.heap.size) hbb80 (lt_of_blk hbb80)
  clear hbb80 eb80
  refine env_app22 (d := 30) E rfl (by decide) rfl rfl rfl E.g4 hO E.g0 hsb80 (fun h => by cases h) (by simp only [List.length_append, List.length_cons, List.length_nil]; omega) hBs fun a w1 ov81 hO2 f1 hloc E => ?_
  have hrb := f1.obj hrb (fun e => by (try simp only at e); have := (hO.lt e).1; omega)
  have hts := srcAt.fr hts f1 (fun r hr => (fun e => by (try simp only at e); have := (hO.lt e).1; omega))
  have hBs := Nat.le_trans hBs f1.size
  have hf := hf.trans' f1 (fun r hr => (fun e => by (try simp only at e); have := (hO.lt e).1; omega))
  clear f1
  replace hO := hO2
  clear hloc
  refine ep E rfl (i_ rfl E.g9) fun a E => ep (v := .pointer (some ⟨rb, 2, none⟩)) E rfl (fa59_1 rfl E.g0) fun a E => env_st1 (j := 2) E rfl (wanted_none rfl _) hrb (run_st22v (ow.sl spL_len hO) rfl E.g0 E.g2 (bx hrb 2 rfl) (free_of_blk hrb 2)) fun w1 hrbn f1 E => ?_
  replace hrbn : w1.heap[rb]? = some (.cells #[.slice (pl) ts.length cl, .int .i64 en, ov81] 59 (0, 0)) := hrbn
  have hts := srcAt.fr hts f1 (fun _ hr => nq_)
  have hO := ow.fr hO f1 (fun k hk e => by have := (hO.lt hk).1; (try simp only at e); omega)
  have hBs := Nat.le_trans hBs f1.size
  have hf := hf.trans' f1 (fun _ hr => nq_)
  clear f1
  replace hrb := hrbn
  refine n_ ((ret_nil rfl E ⟨rfl, ⟨hrB, hBs, _, ⟨hGr, _, hrb, _, _, rfl, hlv0, hlv1, hts, hzl⟩, ?_⟩, hf⟩).1)
  unfold addL
  rw [if_pos (of_decide_eq_true hq79)]
  first | exact hO | (simp only [List.append_assoc, List.cons_append, List.nil_append] at hO; exact hO)
end Go.Proofs.YtjaffpnegdcjnaaGreatDoor
/- The reader: a part. -/
set_option linter.unusedVariables false
set_option linter.unusedSimpArgs false
namespace Go.Proofs.YtjaffpnegdcjnaaGreatDoor
open Go.RowKit Go.Pl
section
variable {α : Type} {en : α}
/-- What was read, ahead of what comes. -/
def pre (acc : List Sp) : Res α (List Sp × List (Tok α)) → Res α (List Sp × List (Tok α))
 | .error e => .error e
 | .ok (s, l) => .ok (acc ++ s, l)
theorem pre_nil (r : Res α (List Sp × List (Tok α))) : pre [] r = r := by cases r <;> rfl
def timesT (en : α) (f t : Int) (l : List (Tok α)) : Res α (List Sp × List (Tok α)) := times en f t (l.length + 1) l
theorem timesT_err {f t : Int} {l : List (Tok α)} {e : Int × α} (h : time en f t l = .error e) : timesT en f t l = .error e := by
 unfold timesT times; rw [h]
theorem timesT_end {f t : Int} {l l2 : List (Tok α)} {s : List Sp} (h : time en f t l = .ok (s, l2)) (hm : more l2 = false) : timesT en f t l = .ok (s, l2) := by
 unfold timesT times; rw [h]; simp [hm]
theorem timesT_more {f t : Int} {l l2 : List (Tok α)} {s acc : List Sp} (h : time en f t l = .ok (s, l2)) (hm : more l2 = true) : pre acc (timesT en f t l) = pre (acc ++ s) (timesT en f t (l2.drop 1)) := by
 have hl := time_ok h
 have : timesT en f t l = pre s (timesT en f t (l2.drop 1)) := by
  unfold timesT
  rw [times, h]
  simp only
  rw [if_pos hm, times_fuel l.length ((l2.drop 1).length + 1) (l2.drop 1) (by simp; omega) (by simp)]
  cases times en f t ((l2.drop 1).length + 1) (l2.drop 1) <;> rfl
 rw [this]
 cases timesT en f t (l2.drop 1) with
 | error e => rfl
 | ok r => simp [pre, List.append_assoc]
theorem part_eq {ts l : List (Tok α)} {f t : Int} (h : dys en ts = .ok ((f, t), l)) : part en ts = pre [] (timesT en f t l) := by
 unfold part; rw [h, pre_nil]; rfl
theorem part_er {ts : List (Tok α)} {e : Int × α} (h : dys en ts = .error e) : part en ts = .error e := by
 unfold part; rw [h]
theorem take_any {k : Int} {xs : List Bys} {l : List (Tok α)} (h : sees k xs l = true) : ∃ t l', take en k [] l = .ok (t, l') ∧ l = t :: l' := by
 cases l with
 | nil => cases h
 | cons t l =>
  refine ⟨t, l, ?_, rfl⟩
  unfold sees at h
  unfold take sees
  rw [Bool.and_eq_true] at h
  simp [h.1]
theorem more_eq {l : List (Tok α)} {t u : Tok α} {r : List (Tok α)} (h : l = t :: u :: r) : more l = (sees 4 [cComma] l && u.1 == 2) := by subst h; rfl
end
theorem more_short {l : List (Tok Int)} (h : l.length < 2) : more l = false := by
 rcases l with _ | ⟨t, _ | ⟨u, l⟩⟩
 ·rfl
 ·rfl
 ·simp only [List.length_cons] at h; omega
theorem more_see {l : List (Tok Int)} (h : sees 4 [cComma] l = false) : more l = false := by
 rcases l with _ | ⟨t, _ | ⟨u, r⟩⟩
 ·rfl
 ·rfl
 ·rw [more_eq rfl, h]; rfl
theorem more_at {l : List (Tok Int)} {u : Tok Int} (h : l[1]? = some u) : more l = (sees 4 [cComma] l && u.1 == 2) := by
 rcases l with _ | ⟨t, _ | ⟨v, r⟩⟩
 ·simp at h
 ·simp at h
 ·simp at h; subst h; exact more_eq rfl
def dayP (f a b : Int) (n : Nat) : List Sp := (List.range n).flatMap fun (i : Nat) => addL ((f + (i : Int)).tmod 7 * 1440 + a) ((f + (i : Int)).tmod 7 * 1440 + b)
theorem dayP_succ (f a b : Int) (n : Nat) : dayP f a b (n + 1) = dayP f a b n ++ addL ((f + (n : Int)).tmod 7 * 1440 + a) ((f + (n : Int)).tmod 7 * 1440 + b) := by
 unfold dayP; rw [List.range_succ]; simp
theorem addL_len (f t : Int) : (addL f t).length ≤ 2 := by unfold addL; split <;> simp
theorem dayP_len (f a b : Int) (n : Nat) : (dayP f a b n).length ≤ 2 * n := by
 induction n with
 | zero => simp [dayP]
 | succ n ih => rw [dayP_succ, List.length_append]; have := addL_len ((f + (n : Int)).tmod 7 * 1440 + a) ((f + (n : Int)).tmod 7 * 1440 + b); omega
theorem day_n {f t : Int} (hf : 0 ≤ f) (hf7 : f < 7) (ht : 0 ≤ t) (ht7 : t < 7) : (t - f + 7).tmod 7 = (t - f + 7) % 7 := Int.tmod_eq_emod_of_nonneg (by omega)
theorem tm7 {f : Int} (hf : 0 ≤ f) (n : Nat) : (f + (n : Int)).tmod 7 = (f + (n : Int)) % 7 := Int.tmod_eq_emod_of_nonneg (by omega)
/-- How many tokens are left. -/
def rdLen (w : World) (rb : Nat) : Nat := match w.cell? ⟨rb, 0, none⟩ with | some (.slice _ n _) => n | _ => 0
theorem Rd.len {w : World} {rb G : Nat} {en : Int} {ts : List (Tok Int)} {sv : Value} (h : Rd w rb G en ts sv) : rdLen w rb = ts.length := by
 obtain ⟨_, lv, h1, p, c, rfl, _⟩ := h
 unfold rdLen
 rw [cell_of_blk h1]; rfl
/-- What reading a part leaves. -/
def StepO (w : World) (rb G B : Nat) (en : Int) (ss : List Sp) (r : Res Int (List Sp × List (Tok Int))) (e : Ending) (w' : World) : Prop :=
 Fr (fun r => r = rb ∨ B ≤ r) w w' ∧ match r with
 | .error (c, x) => e = .panicked (pn c x)
 | .ok (s, l) => e = .returned (.tuple #[]) ∧ RdO w' rb G B en l (ss ++ s)
theorem idx_rng {d : Bys} (h : d ∈ days) : 0 ≤ idx d ∧ idx d < 7 := by
 have hidx : ∀ d ∈ days, 0 ≤ idx d ∧ idx d < 7 := by decide +kernel
 exact hidx d h
set_option maxRecDepth 100000 in
set_option maxHeartbeats 4000000 in
theorem part_calls {w : World} {rb G B : Nat} {en : Int} {ts : List (Tok Int)} {ss : List Sp} (hRO : RdO w rb G B en ts ss) (hk : Tk ts) (hT : Tb w) (hl : ss.length + 14 * ts.length ≤ 1000000) : Calls Tryz.prog 58 #[.pointer (some ⟨rb, 0, none⟩)] w (StepO w rb G B en ss (part en ts)) := by
 refine wp_start1 Tryz.func58 rfl rfl (n := 119) (by decide) fun a E => ?_
 obtain ⟨hrB, hBs, sv, hR, hO⟩ := hRO
 have hf : Fr (fun r => r = rb ∨ B ≤ r) w w := Fr.refl _ _
 have hrl := hR.lt
 refine s_ (r_ (env_callv (d := 11) (R := fun u w8 => ∃ b, u = .slice (some ⟨b, 0, none⟩) 7 7 ∧ DaysAt w8 b ∧ w.heap.size ≤ b ∧ Fr (fun _ => False) w w8) E rfl (by decide) rfl (wanted_none rfl _) (run_call0 (enters_of Tryz.func43 (by kernel_rfl) rfl) rfl rfl) ((names_calls hT).mono fun e w8 h => by obtain ⟨b, rfl, h⟩ := h; exact ⟨_, rfl, b, rfl, h⟩) fun a w1 u ⟨bd, hu, hbd, hbn, f1⟩ E => ?_))
 subst hu
 have hR := Rd.fr hR f1 (fun r hr => id)
 have hO := ow.fr hO f1 (fun _ _ h => h)
 have hBs := Nat.le_trans hBs f1.size
 have hf := hf.trans' f1 (fun _ _ h => h.elim)
 clear f1
 refine ep E rfl (a_ rfl E.g0) fun a E => n_ (t_ (s_ (r_ (ep E rfl (m_ rfl E.g0) fun a E => ep E rfl (m_ rfl E.g3) fun a E => ep E rfl (i_ rfl E.g0) fun a E => ep (v := .pointer (some ⟨rb, 0, none⟩)) E rfl (fa59_0 rfl E.g0) fun a E => ep E rfl (m_ rfl E.g4) fun a E => ?_))))
 rcases htk82 : take en 1 days ts with ⟨c82, x82⟩ | ⟨t82, l82⟩
 ·skip
  refine env_callp (ch := pn c82 x82) (R := fun w8 => Fr (fun r => r = rb) w1 w8) (wanted_none rfl _) (run_call3 (enters_of Tryz.func56 (by kernel_rfl) rfl) rfl rfl E.g1 rfl E.g0) ((take_calls (xs := days) hR (DaysAt.st hbd) 1).mono fun e w8 h => by unfold StepP at h; rw [htk82] at h; exact ⟨h.2, h.1⟩) fun w1 f1 => ?_
  have hf := hf.trans' f1 (fun r hr e => by (try simp only at e); first | exact e | exact .inl e)
  refine then_p (pan_end E ⟨hf, ?_⟩)
  rw [part_er (by
   unfold dys
   rw [htk82]
   try simp only
   )]
 refine env_callv (d := 17) (R := fun u w8 => u = .agg (tkA t82) ∧ Rd w8 rb G en l82 sv ∧ Fr (fun r => r = rb) w1 w8) E rfl (by decide) rfl (wanted_none rfl _) (run_call3 (enters_of Tryz.func56 (by kernel_rfl) rfl) rfl rfl E.g1 rfl E.g0) ((take_calls (xs := days) hR (DaysAt.st hbd) 1).mono fun e w8 h => by unfold StepP at h; rw [htk82] at h; exact ⟨_, h.2.1, rfl, h.2.2, h.1⟩) fun a w1 u ⟨hu, hR2, f1⟩ E => ?_
 subst hu
 have hO := ow.fr hO f1 (fun k hk e => by have := (hO.lt hk).1; (try simp only at e); omega)
 have hBs := Nat.le_trans hBs f1.size
 have hbd := f1.obj hbd nq_
 have hf := hf.trans' f1 (fun _ hr => nq_)
 clear f1
 have hR := hR2
 clear hR2
 obtain ⟨hto82, hkd82, hk⟩ := take_tk hk htk82
 have hin82 := (take_ok htk82).2.2
 refine ep (v := .string (ofL t82.2.1)) E rfl (run_fd38_1 rfl E.g0) fun a E => ?_
 have hid82 : t82.2.1 ∈ days := hin82.resolve_left (by decide)
 have hir82 := idx_rng hid82
 refine ec_ (v := .int .i64 (idx t82.2.1)) E rfl (run_call2 (enters_of Tryz.func79 (by kernel_rfl) rfl) rfl rfl E.g6 E.g0) (index_calls (DaysAt.st hbd) hid82) fun a w1 f1 E => ?_
 have hR := Rd.fr hR f1 (fun r hr => id)
 have hO := ow.fr hO f1 (fun _ _ h => h)
 have hBs := Nat.le_trans hBs f1.size
 have hbd := f1.obj hbd id
 have hf := hf.trans' f1 (fun _ _ h => h.elim)
 clear f1
 refine ep E rfl (a_ rfl E.g0) fun a E => n_ (t_ (s_ (r_ (ep E rfl (m_ rfl E.g0) fun a E => ep E rfl (a_ rfl E.g0) fun a E => n_ (t_ (s_ (s_ (r_ (ep E rfl (m_ rfl E.g13) fun a E => ep E rfl (i_ rfl E.g0) fun a E => ep (v := .pointer (some ⟨rb, 0, none⟩)) E rfl (fa59_0 rfl E.g0) fun a E => env_one70 (d := 24) E rfl (by decide) rfl (wanted_none rfl _) rfl rfl fun a w1 b83 eb83 hbb83 f1 E => ?_)))))))))
 have hR := Rd.fr hR f1 (fun r hr => id)
 have hO := ow.fr hO f1 (fun _ _ h => h)
 have hBs := Nat.le_trans hBs f1.size
 have hbd := f1.obj hbd id
 have hf := hf.trans' f1 (fun _ _ h => h.elim)
 clear f1
 have hsb83 := src_one (f := stL) (c := 1) (G := w1.heap.size) hbb83 (lt_of_blk hbb83)
 clear hbb83 eb83
 refine ec_ (v := .bool (sees 4 [cDash] l82)) E rfl (run_call3 (enters_of Tryz.func55 (by kernel_rfl) rfl) rfl rfl E.g1 rfl E.g0) (sees_calls (xs := [cDash]) hR ⟨_, 1, rfl, Nat.le_refl _, by omega, hsb83, fun h => by cases h⟩ 4) fun a w1 f1 E => ?_
 have hR := Rd.fr hR f1 (fun r hr => id)
 have hO := ow.fr hO f1 (fun _ _ h => h)
 have hBs := Nat.le_trans hBs f1.size
 have hbd := f1.obj hbd id
 have hf := hf.trans' f1 (fun _ _ h => h.elim)
 clear f1
 refine n_ (t_ ?_)
 cases hq84 : (sees 4 [cDash] l82) with
 | false =>
  rw [hq84] at E
  refine c_f E.g0 (k_ (t_ (bk_ ?_)))
  have hdy : dys en ts = .ok (((idx t82.2.1), (idx t82.2.1)), l82) := by
   unfold dys
   rw [htk82]
   simp only
   rw [if_neg (by rw [hq84]; simp)]
  obtain ⟨f, hfe⟩ : ∃ f, f = (idx t82.2.1) := ⟨_, rfl⟩
  obtain ⟨t, hte⟩ : ∃ t, t = (idx t82.2.1) := ⟨_, rfl⟩
  have hdy : dys en ts = .ok ((f, t), l82) := by rw [hfe, hte]; exact hdy
  have hf0 : 0 ≤ f ∧ f < 7 := by rw [hfe]; omega
  have ht0 : 0 ≤ t ∧ t < 7 := by rw [hte]; omega
  have hP := part_eq hdy
  have hlen := dys_len hdy
  have E := E.of (L' := [(0, .pointer (some ⟨rb, 0, none⟩)), (3, .int .i64 f), (4, .int .i64 t)]) ⟨E.g18, E.g7.trans (by rw [hfe]), E.g5.trans (by rw [hte]), trivial⟩
  refine wp_loop (fun a w2 => ∃ (l : List (Tok Int)) (acc : List Sp) (sv : Value), Env 119 [(0, .pointer (some ⟨rb, 0, none⟩)), (3, .int .i64 f), (4, .int .i64 t)] a ∧ Rd w2 rb G en l sv ∧ oSp w2 B sv (ss ++ acc) ∧ Tk l ∧ part en ts = pre acc (timesT en f t l) ∧ Fr (fun r => r = rb ∨ B ≤ r) w w2 ∧ B ≤ w2.heap.size ∧ acc.length + 14 * l.length ≤ 14 * ts.length) (fun _ w2 => rdLen w2 rb) ?_ ?_
  ·exact ⟨l82, [], _, E, hR, by rw [List.append_nil]; exact hO, hk, hP, hf, hBs, by simp only [List.length_nil]; omega⟩
  clear E hR hO hk hP hf hBs hdy hlen hfe hte
  rintro a w2 ⟨l, acc, sv, E, hR, hO, hk, hP, hf, hBs, hal⟩
  have hlen2 := hR.len
  refine bk_ (s_ (r_ (ep E rfl (m_ rfl E.g0) fun a E => ?_)))
  rcases hck85 : clock en 23 l with ⟨c85, x85⟩ | ⟨⟨m85, y85⟩, l85⟩
  ·skip
   refine env_callp (ch := pn c85 x85) (R := fun w8 => Fr (fun r => r = rb) w2 w8) (wanted_none rfl _) (run_call2 (enters_of Tryz.func80 (by kernel_rfl) rfl) rfl rfl E.g0 rfl) ((clock_calls (most := 23) hR hk).mono fun e w8 h => by unfold StepP at h; rw [hck85] at h; exact ⟨h.2, h.1⟩) fun w1 f1 => ?_
   have hf := hf.trans' f1 (fun r hr e => by (try simp only at e); first | exact e | exact .inl e)
   refine then_p (blk_p (then_p (blk_p (pan_end E ⟨hf, ?_⟩))))
   rw [hP, timesT_err (by
    unfold time
    rw [hck85]
    try simp only
    )]
   rfl
  refine env_callv (d := 40) (R := fun u w8 => u = .tuple #[.int .i64 m85, .int .i64 y85] ∧ Rd w8 rb G en l85 sv ∧ Fr (fun r => r = rb) w2 w8) E rfl (by decide) rfl (wanted_none rfl _) (run_call2 (enters_of Tryz.func80 (by kernel_rfl) rfl) rfl rfl E.g0 rfl) ((clock_calls (most := 23) hR hk).mono fun e w8 h => by unfold StepP at h; rw [hck85] at h; exact ⟨_, h.2.1, rfl, h.2.2, h.1⟩) fun a w1 u ⟨hu, hR2, f1⟩ E => ?_
  subst hu
  have hO := ow.fr hO f1 (fun k hk e => by have := (hO.lt hk).1; (try simp only at e); omega)
  have hBs := Nat.le_trans hBs f1.size
  have hf := hf.trans' f1 (fun _ hr => nq_)
  clear f1
  have hR := hR2
  clear hR2
  obtain ⟨hm085, hm185, hm285, hk⟩ := clock_rng hk hck85
  refine ep E rfl (m_ rfl E.g0) fun a E => ep (v := .int .i64 m85) E rfl (run_ext0 rfl E.g0) fun a E => ep (v := .int .i64 y85) E rfl (run_ext1 rfl E.g1) fun a E => ep E rfl (a_ rfl E.g1) fun a E => ep E rfl (a_ rfl E.g1) fun a E => n_ (t_ (s_ (r_ (ep E rfl (m_ rfl E.g7) fun a E => ep E rfl (i_ rfl E.g0) fun a E => ep (v := .pointer (some ⟨rb, 0, none⟩)) E rfl (fa59_0 rfl E.g0) fun a E => env_one70 (d := 46) E rfl (by decide) rfl (wanted_none rfl _) rfl rfl fun a w1 b86 eb86 hbb86 f1 E => ?_))))
  have hR := Rd.fr hR f1 (fun r hr => id)
  have hO := ow.fr hO f1 (fun _ _ h => h)
  have hBs := Nat.le_trans hBs f1.size
  have hf := hf.trans' f1 (fun _ _ h => h.elim)
  clear f1
  have hsb86 := src_one (f := stL) (c := 1) (G := w1.heap.size) hbb86 (lt_of_blk hbb86)
  clear hbb86 eb86
  rcases htk87 : take en 4 [cDash] l85 with ⟨c87, x87⟩ | ⟨t87, l87⟩
  ·skip
   refine env_callp (ch := pn c87 x87) (R := fun w8 => Fr (fun r => r = rb) w1 w8) (wanted_none rfl _) (run_call3 (enters_of Tryz.func56 (by kernel_rfl) rfl) rfl rfl E.g1 rfl E.g0) ((take_calls (xs := [cDash]) hR ⟨_, 1, rfl, Nat.le_refl _, by omega, hsb86, fun h => by cases h⟩ 4).mono fun e w8 h => by unfold StepP at h; rw [htk87] at h; exact ⟨h.2, h.1⟩) fun w1 f1 => ?_
   have hf := hf.trans' f1 (fun r hr e => by (try simp only at e); first | exact e | exact .inl e)
   refine then_p (blk_p (then_p (blk_p (pan_end E ⟨hf, ?_⟩))))
   rw [hP, timesT_err (by
    unfold time
    rw [hck85]
    try simp only
    rw [htk87]
    try simp only
    )]
   rfl
  refine env_callv (d := 47) (R := fun u w8 => u = .agg (tkA t87) ∧ Rd w8 rb G en l87 sv ∧ Fr (fun r => r = rb) w1 w8) E rfl (by decide) rfl (wanted_none rfl _) (run_call3 (enters_of Tryz.func56 (by kernel_rfl) rfl) rfl rfl E.g1 rfl E.g0) ((take_calls (xs := [cDash]) hR ⟨_, 1, rfl, Nat.le_refl _, by omega, hsb86, fun h => by cases h⟩ 4).mono fun e w8 h => by unfold StepP at h; rw [htk87] at h; exact ⟨_, h.2.1, rfl, h.2.2, h.1⟩) fun a w1 u ⟨hu, hR2, f1⟩ E => ?_
  subst hu
  have hO := ow.fr hO f1 (fun k hk e => by have := (hO.lt hk).1; (try simp only at e); omega)
  have hBs := Nat.le_trans hBs f1.size
  have hf := hf.trans' f1 (fun _ hr => nq_)
  clear f1
  have hR := hR2
  clear hR2
  obtain ⟨hto87, hkd87, hk⟩ := take_tk hk htk87
  have hin87 := (take_ok htk87).2.2
  refine n_ (t_ (s_ (r_ (ep E rfl (m_ rfl E.g12) fun a E => ?_))))
  rcases hck88 : clock en 24 l87 with ⟨c88, x88⟩ | ⟨⟨m88, y88⟩, l88⟩
  ·skip
   refine env_callp (ch := pn c88 x88) (R := fun w8 => Fr (fun r => r = rb) w1 w8) (wanted_none rfl _) (run_call2 (enters_of Tryz.func80 (by kernel_rfl) rfl) rfl rfl E.g0 rfl) ((clock_calls (most := 24) hR hk).mono fun e w8 h => by unfold StepP at h; rw [hck88] at h; exact ⟨h.2, h.1⟩) fun w1 f1 => ?_
   have hf := hf.trans' f1 (fun r hr e => by (try simp only at e); first | exact e | exact .inl e)
   refine then_p (blk_p (then_p (blk_p (pan_end E ⟨hf, ?_⟩))))
   rw [hP, timesT_err (by
    unfold time
    rw [hck85]
    try simp only
    rw [htk87]
    try simp only
    rw [hck88]
    try simp only
    )]
   rfl
  refine env_callv (d := 50) (R := fun u w8 => u = .tuple #[.int .i64 m88, .int .i64 y88] ∧ Rd w8 rb G en l88 sv ∧ Fr (fun r => r = rb) w1 w8) E rfl (by decide) rfl (wanted_none rfl _) (run_call2 (enters_of Tryz.func80 (by kernel_rfl) rfl) rfl rfl E.g0 rfl) ((clock_calls (most := 24) hR hk).mono fun e w8 h => by unfold StepP at h; rw [hck88] at h; exact ⟨_, h.2.1, rfl, h.2.2, h.1⟩) fun a w1 u ⟨hu, hR2, f1⟩ E => ?_
  subst hu
  have hO := ow.fr hO f1 (fun k hk e => by have := (hO.lt hk).1; (try simp only at e); omega)
  have hBs := Nat.le_trans hBs f1.size
  have hf := hf.trans' f1 (fun _ hr => nq_)
  clear f1
  have hR := hR2
  clear hR2
  obtain ⟨hm088, hm188, hm288, hk⟩ := clock_rng hk hck88
  refine ep E rfl (m_ rfl E.g0) fun a E => ep (v := .int .i64 m88) E rfl (run_ext0 rfl E.g0) fun a E => ep (v := .int .i64 y88) E rfl (run_ext1 rfl E.g1) fun a E => ep E rfl (a_ rfl E.g1) fun a E => ep E rfl (a_ rfl E.g1) fun a E => n_ (t_ (s_ (bk_ (s_ (r_ (ep E rfl (m_ rfl E.g13) fun a E => ep E rfl (m_ rfl E.g2) fun a E => ep (v := .bool (m85 == m88)) E rfl (run_ieql E.g1 E.g0 Tryz.underlying3 rfl) fun a E => ep E rfl (a_ rfl E.g0) fun a E => n_ (t_ ?_)))))))
  cases hq89 : (m85 == m88) with
  | false =>
   rw [hq89] at E
   refine c_f E.g0 (s_ (r_ (ep E rfl (m_ rfl E.g5) fun a E => ep E rfl (m_ rfl E.g18) fun a E => ep (v := .bool (decide (m88 < m85))) E rfl (run_ilss E.g1 E.g0 Tryz.underlying3 rfl) fun a E => ep E rfl (a_ rfl E.g0) fun a E => n_ (t_ ?_))))
   cases hq90 : (decide (m88 < m85)) with
   | false =>
    rw [hq90] at E
    refine c_f E.g0 (k_ (b_ (t_ (s_ (s_ (r_ (ep E rfl (m_ rfl E.g29) fun a E => ep E rfl (m_ rfl E.g29) fun a E => ep (v := .int .i64 (t - f)) E rfl (run_isub Tryz.underlying3 E.g1 E.g0 (by omega) (by omega) rfl) fun a E => ep (v := .int .i64 ((t - f) + 7)) E rfl (run_iadd Tryz.underlying3 E.g0 rfl (by omega) (by omega) rfl) fun a E => ep (v := .int .i64 (((t - f) + 7) % 7)) E rfl (run_irem E.g0 rfl (by omega) (by omega) (by omega) (by omega) rfl) fun a E => ep (v := .int .i64 ((((t - f) + 7) % 7) + 1)) E rfl (run_iadd Tryz.underlying3 E.g0 rfl (by omega) (by omega) rfl) fun a E => ep (v := .int .i64 0) E rfl (m_ rfl rfl) fun a E => n_ (t_ (bk_ ?_)))))))))
    obtain ⟨n, hn⟩ : ∃ n : Nat, n = ((t - f + 7) % 7 + 1).toNat := ⟨_, rfl⟩
    have hnn : (t - f + 7) % 7 + 1 = (n : Int) := by omega
    have hn7 : n ≤ 7 := by omega
    rw [hnn] at E
    refine wp_loop (fun a w2 => ∃ (i : Nat) (sv2 : Value), Env 119 [(0, .pointer (some ⟨rb, 0, none⟩)), (3, .int .i64 f), (4, .int .i64 t), (5, .int .i64 m85), (7, .int .i64 m88), (71, .int .i64 (n : Int)), (72, .int .i64 (i : Int))] a ∧ i ≤ n ∧ Rd w2 rb G en l88 sv2 ∧ oSp w2 B sv2 (ss ++ acc ++ dayP f m85 m88 i) ∧ Fr (fun r => r = rb ∨ B ≤ r) w w2 ∧ B ≤ w2.heap.size) (fun a _ => n - (intOf (a.eval (.tmp 72))).toNat) ?_ ?_
    ·exact ⟨0, _, E.of ⟨E.g34, E.g35, E.g36, E.g28, E.g16, E.g1, E.g0, trivial⟩, Nat.zero_le _, hR, by rw [show dayP f m85 m88 0 = [] from rfl, List.append_nil]; exact hO, hf, hBs⟩
    clear E
    rintro a w2 ⟨i, sv2, E, hi, hR, hO, hf, hBs⟩
    have hmu : n - (intOf (a.eval (.tmp 72))).toNat = n - i := by rw [E.g6]; first | rfl | (simp [intOf]; done) | (simp only [intOf]; omega)
    rw [hmu]
    clear hmu
    refine s_ (r_ (ep (v := .bool (decide ((i : Int) < (n : Int)))) E rfl (run_ilss E.g6 E.g5 Tryz.underlying3 rfl) fun a E => n_ (t_ (s_ ?_))))
    cases hq92 : (decide ((i : Int) < (n : Int))) with
    | false =>
     rw [hq92] at E
     have hie : i = n := by have := of_decide_eq_false hq92; omega
     refine c_f E.g0 (x_ (te_ (te_ (be_ (t_ (s_ (s_ ?_)))))))
     have hti : time en f t l = .ok ((dayP f m85 m88 n), l88) := by
      unfold time
      rw [hck85]
      simp only
      rw [htk87]
      simp only
      rw [hck88]
      simp only
      rw [if_neg (by rw [hq89]; simp), if_neg (of_decide_eq_false hq90), day_n hf0.1 hf0.2 ht0.1 ht0.2, hnn]
      rfl
     rw [hie] at hO
     have hR9 := hR
     obtain ⟨hGr, lv, hrb, pl, cl, hlv, hlv0, hlv1, hts, hzl⟩ := hR9
     subst hlv
     have hO : oSp w2 B sv2 (ss ++ acc ++ (dayP f m85 m88 n)) := hO
     refine r_ (ep E rfl (m_ rfl E.g1) fun a E => ep E rfl (i_ rfl E.g0) fun a E => ep (v := .pointer (some ⟨rb, 0, none⟩)) E rfl (fa59_0 rfl E.g0) fun a E => env_one70 (d := 92) E rfl (by decide) rfl (wanted_none rfl _) rfl rfl fun a w1 b93 eb93 hbb93 f1 E => ?_)
     have hR := Rd.fr hR f1 (fun r hr => id)
     have hO := ow.fr hO f1 (fun _ _ h => h)
     have hBs := Nat.le_trans hBs f1.size
     have hrb := f1.obj hrb id
     have hts := srcAt.fr hts f1 (fun r hr => id)
     have hf := hf.trans' f1 (fun _ _ h => h.elim)
     clear f1
     have hsb93 := src_one (f := stL) (c := 1) (G := w1.heap.size) hbb93 (lt_of_blk hbb93)
     clear hbb93 eb93
     refine ec_ (v := .bool (sees 4 [cComma] l88)) E rfl (run_call3 (enters_of Tryz.func55 (by kernel_rfl) rfl) rfl rfl E.g1 rfl E.g0) (sees_calls (xs := [cComma]) hR ⟨_, 1, rfl, Nat.le_refl _, by omega, hsb93, fun h => by cases h⟩ 4) fun a w1 f1 E => ?_
     have hR := Rd.fr hR f1 (fun r hr => id)
     have hO := ow.fr hO f1 (fun _ _ h => h)
     have hBs := Nat.le_trans hBs f1.size
     have hrb := f1.obj hrb id
     have hts := srcAt.fr hts f1 (fun r hr => id)
     have hf := hf.trans' f1 (fun _ _ h => h.elim)
     clear f1
     refine ep (v := .bool (!(sees 4 [cComma] l88))) E rfl (run_not rfl E.g0) fun a E => ep E rfl (m_ rfl E.g0) fun a E => ?_
     cases hq94 : (sees 4 [cComma] l88) with
     | false =>
      rw [hq94] at E
      refine ek E rfl rfl E.g0 fun a E => ek E rfl rfl E.g1 fun a E => ek E rfl rfl E.g2 fun a E => ek E rfl rfl E.g3 fun a E => ek E rfl rfl E.g4 fun a E => ek E rfl rfl E.g5 fun a E => ek E rfl rfl E.g6 fun a E => ep (v := .bool true) E rfl (run_pick_t rfl E.g7 rfl) fun a E => ep E rfl (m_ rfl E.g0) fun a E => ek E rfl rfl E.g0 fun a E => ek E rfl rfl E.g1 fun a E => ek E rfl rfl E.g2 fun a E => ek E rfl rfl E.g3 fun a E => ek E rfl rfl E.g4 fun a E => ek E rfl rfl E.g5 fun a E => ek E rfl rfl E.g6 fun a E => ek E rfl rfl E.g7 fun a E => ek E rfl rfl E.g8 fun a E => ep (v := .bool true) E rfl (run_pick_t rfl E.g9 rfl) fun a E => n_ (t_ (c_t E.g0 (wr_ (tr_ (br_ (tr_ (br_ ((ret_nil rfl E ⟨hf, ?_⟩).2))))))))
      rw [hP, timesT_end hti (more_see hq94)]
      exact ⟨rfl, hrB, hBs, _, hR, by rw [← List.append_assoc]; exact hO⟩
     | true =>
      rw [hq94] at E
      refine eg E rfl (wy_ E E.g0) (m_ rfl E.g8) fun a E => eg E rfl (wy_ E E.g1) (i_ rfl E.g0) fun a E => eg (v := .pointer (some ⟨rb, 0, none⟩)) E rfl (wy_ E E.g2) (fa59_0 rfl E.g0) fun a E => eg (v := .pointer (some ⟨rb, 0, none⟩)) E rfl (wy_ E E.g3) (fa57_0 rfl E.g0) fun a E => eg (v := .slice (pl) l88.length cl) E rfl (wy_ E E.g4) (run_ld34 rfl E.g0 (bx hrb 0 rfl)) fun a E => eg (v := .int .i64 (l88.length : Int)) E rfl (wy_ E E.g5) (run_len34 rfl E.g0) fun a E => eg (v := .bool (decide ((l88.length : Int) < 2))) E rfl (wy_ E E.g6) (run_ilss E.g0 rfl Tryz.underlying3 rfl) fun a E => ep (v := .bool (decide ((l88.length : Int) < 2))) E rfl (run_pick_f rfl E.g7 E.g0) fun a E => ep E rfl (m_ rfl E.g0) fun a E => ?_
      cases hq95 : (decide ((l88.length : Int) < 2)) with
      | false =>
       rw [hq95] at E
       have h1l : 1 < l88.length := by have := of_decide_eq_false hq95; omega
       obtain ⟨u, hu⟩ : ∃ y, l88[1]? = some y := ⟨_, List.getElem?_eq_getElem h1l⟩
       obtain ⟨g96, off96, hpe96, hgl96, hrow96⟩ := hts.at h1l
       replace hrow96 := hrow96 1 u hu
       refine eg E rfl (wy_ E E.g0) (m_ rfl E.g17) fun a E => eg E rfl (wy_ E E.g1) (i_ rfl E.g0) fun a E => eg (v := .pointer (some ⟨rb, 0, none⟩)) E rfl (wy_ E E.g2) (fa59_0 rfl E.g0) fun a E => eg (v := .pointer (some ⟨rb, 0, none⟩)) E rfl (wy_ E E.g3) (fa57_0 rfl E.g0) fun a E => eg (v := .slice (pl) l88.length cl) E rfl (wy_ E E.g4) (run_ld34 rfl E.g0 (bx hrb 0 rfl)) fun a E => eg (v := .pointer (some ⟨g96, (off96 + 1 * 3), none⟩)) E rfl (wy_ E E.g5) (run_index34 (i := 1) rfl (E.g0.trans (by rw [hpe96])) rfl h1l) fun a E => eg (v := .pointer (some ⟨g96, ((off96 + 1 * 3) + 0), none⟩)) E rfl (wy_ E E.g6) (fa38_0 rfl E.g0) fun a E => eg (v := .int .i64 u.1) E rfl (wy_ E E.g7) (run_ldi rfl E.g0 (hrow96 0 _ rfl)) fun a E => eg (v := .bool (u.1 != 2)) E rfl (wy_ E E.g8) (run_ineq E.g0 rfl Tryz.underlying3 rfl) fun a E => ep (v := .bool (u.1 != 2)) E rfl (run_pick_f rfl E.g9 E.g0) fun a E => n_ (t_ ?_)
       cases hq97 : (u.1 != 2) with
       | false =>
        rw [hq97] at E
        refine c_f E.g0 (k_ (t_ ?_))
        have hmo : more l88 = true := by rw [more_at hu, hq94]; have h9 := hq97; simp only [bne_eq_false_iff_eq] at h9; rw [h9]; rfl
        refine r_ (ep E rfl (m_ rfl E.g27) fun a E => ep E rfl (i_ rfl E.g0) fun a E => ep (v := .pointer (some ⟨rb, 0, none⟩)) E rfl (fa59_0 rfl E.g0) fun a E => ?_)
        rcases htk98 : take en 4 [] l88 with ⟨c98, x98⟩ | ⟨t98, l98⟩
        ·skip
         refine env_callp (ch := pn c98 x98) (R := fun w8 => Fr (fun r => r = rb) w1 w8) (wanted_none rfl _) (run_call3 (enters_of Tryz.func56 (by kernel_rfl) rfl) rfl rfl E.g0 rfl rfl) ((take_calls (xs := []) hR (Src.nil _) 4).mono fun e w8 h => by unfold StepP at h; rw [htk98] at h; exact ⟨h.2, h.1⟩) fun w1 f1 => ?_
         have hf := hf.trans' f1 (fun r hr e => by (try simp only at e); first | exact e | exact .inl e)
         obtain ⟨t9, l9, h9, _⟩ := take_any (en := en) hq94
         rw [h9] at htk98
         cases htk98
        refine env_callv (d := 118) (R := fun u w8 => u = .agg (tkA t98) ∧ Rd w8 rb G en l98 sv2 ∧ Fr (fun r => r = rb) w1 w8) E rfl (by decide) rfl (wanted_none rfl _) (run_call3 (enters_of Tryz.func56 (by kernel_rfl) rfl) rfl rfl E.g0 rfl rfl) ((take_calls (xs := []) hR (Src.nil _) 4).mono fun e w8 h => by unfold StepP at h; rw [htk98] at h; exact ⟨_, h.2.1, rfl, h.2.2, h.1⟩) fun a w1 u ⟨hu, hR2, f1⟩ E => ?_
        subst hu
        have hO := ow.fr hO f1 (fun k hk e => by have := (hO.lt hk).1; (try simp only at e); omega)
        have hBs := Nat.le_trans hBs f1.size
        have hf := hf.trans' f1 (fun _ hr => nq_)
        clear f1
        have hR := hR2
        clear hR2
        obtain ⟨hto98, hkd98, hk⟩ := take_tk hk htk98
        have hin98 := (take_ok htk98).2.2
        have htl98 : l88 = t98 :: l98 := (take_ok htk98).1
        refine n_ (b_ (t_ ?_))
        have hPn : part en ts = pre (acc ++ (dayP f m85 m88 n)) (timesT en f t l98) := by rw [hP, timesT_more hti hmo, htl98]; rfl
        have hl9 := time_ok hti
        have hl8 : l88.length = l98.length + 1 := by rw [htl98]; rfl
        refine ⟨⟨l98, acc ++ (dayP f m85 m88 n), sv2, E.of ⟨E.g31, E.g32, E.g33, trivial⟩, hR, by rw [← List.append_assoc]; exact hO, hk, hPn, hf, hBs, by have := dayP_len f m85 m88 n; simp only [List.length_append]; omega⟩, by have := hR.len; show rdLen _ rb < rdLen _ rb; omega⟩
       | true =>
        rw [hq97] at E
        refine c_t E.g0 (wr_ (tr_ (br_ (tr_ (br_ ((ret_nil rfl E ⟨hf, ?_⟩).2))))))
        rw [hP, timesT_end hti ((by rw [more_at hu]; have h9 := hq97; simp only [bne_iff_ne, ne_eq] at h9; rw [beq_eq_false_iff_ne.2 h9, Bool.and_false]))]
        exact ⟨rfl, hrB, hBs, _, hR, by rw [← List.append_assoc]; exact hO⟩
      | true =>
       rw [hq95] at E
       refine ek E rfl rfl E.g0 fun a E => ek E rfl rfl E.g1 fun a E => ek E rfl rfl E.g2 fun a E => ek E rfl rfl E.g3 fun a E => ek E rfl rfl E.g4 fun a E => ek E rfl rfl E.g5 fun a E => ek E rfl rfl E.g6 fun a E => ek E rfl rfl E.g7 fun a E => ek E rfl rfl E.g8 fun a E => ep (v := .bool true) E rfl (run_pick_t rfl E.g9 rfl) fun a E => n_ (t_ (c_t E.g0 (wr_ (tr_ (br_ (tr_ (br_ ((ret_nil rfl E ⟨hf, ?_⟩).2))))))))
       rw [hP, timesT_end hti (more_short (by have := of_decide_eq_true hq95; omega))]
       exact ⟨rfl, hrB, hBs, _, hR, by rw [← List.append_assoc]; exact hO⟩
    | true =>
     rw [hq92] at E
     have hlt : i < n := by have := of_decide_eq_true hq92; omega
     refine c_t E.g0 (k_ (t_ (s_ (bk_ (s_ (r_ (ep E rfl (m_ rfl E.g7) fun a E => ep E rfl (a_ rfl E.g0) fun a E => n_ (t_ (s_ (r_ (ep E rfl (m_ rfl E.g4) fun a E => ep E rfl (m_ rfl E.g1) fun a E => ep (v := .int .i64 (f + (i : Int))) E rfl (run_iadd Tryz.underlying3 E.g1 E.g0 (by omega) (by omega) rfl) fun a E => ep (v := .int .i64 ((f + (i : Int)) % 7)) E rfl (run_irem E.g0 rfl (by omega) (by omega) (by omega) (by omega) rfl) fun a E => ep (v := .int .i64 (((f + (i : Int)) % 7) * 1440)) E rfl (run_imul Tryz.underlying3 E.g0 rfl (by omega) (by omega) rfl) fun a E => ep E rfl (a_ rfl E.g0) fun a E => n_ (t_ (r_ (ep E rfl (m_ rfl E.g9) fun a E => ep E rfl (m_ rfl E.g1) fun a E => ep E rfl (m_ rfl E.g14) fun a E => ep (v := .int .i64 ((((f + (i : Int)) % 7) * 1440) + m85)) E rfl (run_iadd Tryz.underlying3 E.g1 E.g0 (by omega) (by omega) rfl) fun a E => ep E rfl (m_ rfl E.g4) fun a E => ep E rfl (m_ rfl E.g18) fun a E => ep (v := .int .i64 ((((f + (i : Int)) % 7) * 1440) + m88)) E rfl (run_iadd Tryz.underlying3 E.g1 E.g0 (by omega) (by omega) rfl) fun a E => env_callv (d := 87) (R := fun u w8 => u = .tuple #[] ∧ RdO w8 rb G B en l88 ((ss ++ acc ++ dayP f m85 m88 i) ++ addL ((((f + (i : Int)) % 7) * 1440) + m85) ((((f + (i : Int)) % 7) * 1440) + m88)) ∧ Fr (fun r => r = rb ∨ B ≤ r) w2 w8) E rfl (by decide) rfl (wanted_none rfl _) (run_call3 (enters_of Tryz.func57 (by kernel_rfl) rfl) rfl rfl E.g6 E.g3 E.g0) ((add_calls ⟨hrB, hBs, _, hR, hO⟩ (by omega) (by omega) (by have := dayP_len f m85 m88 i; simp only [List.length_append]; omega)).mono fun e w8 h => by obtain ⟨rfl, h⟩ := h; exact ⟨_, rfl, rfl, h⟩) fun a w1 u ⟨hu, hRO, f1⟩ E => ?_))))))))))))))
     subst hu
     have hf := hf.trans f1
     clear hR hO hBs f1
     obtain ⟨_, hBs, sv99, hR, hO⟩ := hRO
     refine n_ (b_ (t_ (r_ (ep (v := .int .i64 ((i : Int) + 1)) E rfl (run_iadd Tryz.underlying3 E.g23 rfl (by omega) (by omega) rfl) fun a E => es_ E rfl (m_ rfl E.g0) fun a E => n_ (t_ ?_)))))
     refine ⟨⟨i + 1, sv99, E.of ⟨E.g19, E.g20, E.g21, E.g22, E.g23, E.g24, E.g0, trivial⟩, hlt, hR, by rw [dayP_succ, tm7 hf0.1, ← List.append_assoc]; exact hO, hf, hBs⟩, ?_⟩
     rw [E.g0]; simp only [intOf]; omega
   | true =>
    rw [hq90] at E
    refine c_t E.g0 (r_ (ep E rfl (m_ rfl E.g9) fun a E => ep (v := .int .i64 (m88 + 1440)) E rfl (run_iadd Tryz.underlying3 E.g0 rfl (by omega) (by omega) rfl) fun a E => es_ E rfl (a_ rfl E.g0) fun a E => n_ (b_ (t_ (s_ (s_ (r_ (ep E rfl (m_ rfl E.g31) fun a E => ep E rfl (m_ rfl E.g31) fun a E => ep (v := .int .i64 (t - f)) E rfl (run_isub Tryz.underlying3 E.g1 E.g0 (by omega) (by omega) rfl) fun a E => ep (v := .int .i64 ((t - f) + 7)) E rfl (run_iadd Tryz.underlying3 E.g0 rfl (by omega) (by omega) rfl) fun a E => ep (v := .int .i64 (((t - f) + 7) % 7)) E rfl (run_irem E.g0 rfl (by omega) (by omega) (by omega) (by omega) rfl) fun a E => ep (v := .int .i64 ((((t - f) + 7) % 7) + 1)) E rfl (run_iadd Tryz.underlying3 E.g0 rfl (by omega) (by omega) rfl) fun a E => ep (v := .int .i64 0) E rfl (m_ rfl rfl) fun a E => n_ (t_ (bk_ ?_))))))))))
    obtain ⟨n, hn⟩ : ∃ n : Nat, n = ((t - f + 7) % 7 + 1).toNat := ⟨_, rfl⟩
    have hnn : (t - f + 7) % 7 + 1 = (n : Int) := by omega
    have hn7 : n ≤ 7 := by omega
    rw [hnn] at E
    refine wp_loop (fun a w2 => ∃ (i : Nat) (sv2 : Value), Env 119 [(0, .pointer (some ⟨rb, 0, none⟩)), (3, .int .i64 f), (4, .int .i64 t), (5, .int .i64 m85), (7, .int .i64 (m88 + 1440)), (71, .int .i64 (n : Int)), (72, .int .i64 (i : Int))] a ∧ i ≤ n ∧ Rd w2 rb G en l88 sv2 ∧ oSp w2 B sv2 (ss ++ acc ++ dayP f m85 (m88 + 1440) i) ∧ Fr (fun r => r = rb ∨ B ≤ r) w w2 ∧ B ≤ w2.heap.size) (fun a _ => n - (intOf (a.eval (.tmp 72))).toNat) ?_ ?_
    ·exact ⟨0, _, E.of ⟨E.g36, E.g37, E.g38, E.g30, E.g7, E.g1, E.g0, trivial⟩, Nat.zero_le _, hR, by rw [show dayP f m85 (m88 + 1440) 0 = [] from rfl, List.append_nil]; exact hO, hf, hBs⟩
    clear E
    rintro a w2 ⟨i, sv2, E, hi, hR, hO, hf, hBs⟩
    have hmu : n - (intOf (a.eval (.tmp 72))).toNat = n - i := by rw [E.g6]; first | rfl | (simp [intOf]; done) | (simp only [intOf]; omega)
    rw [hmu]
    clear hmu
    refine s_ (r_ (ep (v := .bool (decide ((i : Int) < (n : Int)))) E rfl (run_ilss E.g6 E.g5 Tryz.underlying3 rfl) fun a E => n_ (t_ (s_ ?_))))
    cases hq101 : (decide ((i : Int) < (n : Int))) with
    | false =>
     rw [hq101] at E
     have hie : i = n := by have := of_decide_eq_false hq101; omega
     refine c_f E.g0 (x_ (te_ (te_ (be_ (t_ (s_ (s_ ?_)))))))
     have hti : time en f t l = .ok ((dayP f m85 (m88 + 1440) n), l88) := by
      unfold time
      rw [hck85]
      simp only
      rw [htk87]
      simp only
      rw [hck88]
      simp only
      rw [if_neg (by rw [hq89]; simp), if_pos (of_decide_eq_true hq90), day_n hf0.1 hf0.2 ht0.1 ht0.2, hnn]
      rfl
     rw [hie] at hO
     have hR9 := hR
     obtain ⟨hGr, lv, hrb, pl, cl, hlv, hlv0, hlv1, hts, hzl⟩ := hR9
     subst hlv
     have hO : oSp w2 B sv2 (ss ++ acc ++ (dayP f m85 (m88 + 1440) n)) := hO
     refine r_ (ep E rfl (m_ rfl E.g1) fun a E => ep E rfl (i_ rfl E.g0) fun a E => ep (v := .pointer (some ⟨rb, 0, none⟩)) E rfl (fa59_0 rfl E.g0) fun a E => env_one70 (d := 92) E rfl (by decide) rfl (wanted_none rfl _) rfl rfl fun a w1 b102 eb102 hbb102 f1 E => ?_)
     have hR := Rd.fr hR f1 (fun r hr => id)
     have hO := ow.fr hO f1 (fun _ _ h => h)
     have hBs := Nat.le_trans hBs f1.size
     have hrb := f1.obj hrb id
     have hts := srcAt.fr hts f1 (fun r hr => id)
     have hf := hf.trans' f1 (fun _ _ h => h.elim)
     clear f1
     have hsb102 := src_one (f := stL) (c := 1) (G := w1.heap.size) hbb102 (lt_of_blk hbb102)
     clear hbb102 eb102
     refine ec_ (v := .bool (sees 4 [cComma] l88)) E rfl (run_call3 (enters_of Tryz.func55 (by kernel_rfl) rfl) rfl rfl E.g1 rfl E.g0) (sees_calls (xs := [cComma]) hR ⟨_, 1, rfl, Nat.le_refl _, by omega, hsb102, fun h => by cases h⟩ 4) fun a w1 f1 E => ?_
     have hR := Rd.fr hR f1 (fun r hr => id)
     have hO := ow.fr hO f1 (fun _ _ h => h)
     have hBs := Nat.le_trans hBs f1.size
     have hrb := f1.obj hrb id
     have hts := srcAt.fr hts f1 (fun r hr => id)
     have hf := hf.trans' f1 (fun _ _ h => h.elim)
     clear f1
     refine ep (v := .bool (!(sees 4 [cComma] l88))) E rfl (run_not rfl E.g0) fun a E => ep E rfl (m_ rfl E.g0) fun a E => ?_
     cases hq103 : (sees 4 [cComma] l88) with
     | false =>
      rw [hq103] at E
      refine ek E rfl rfl E.g0 fun a E => ek E rfl rfl E.g1 fun a E => ek E rfl rfl E.g2 fun a E => ek E rfl rfl E.g3 fun a E => ek E rfl rfl E.g4 fun a E => ek E rfl rfl E.g5 fun a E => ek E rfl rfl E.g6 fun a E => ep (v := .bool true) E rfl (run_pick_t rfl E.g7 rfl) fun a E => ep E rfl (m_ rfl E.g0) fun a E => ek E rfl rfl E.g0 fun a E => ek E rfl rfl E.g1 fun a E => ek E rfl rfl E.g2 fun a E => ek E rfl rfl E.g3 fun a E => ek E rfl rfl E.g4 fun a E => ek E rfl rfl E.g5 fun a E => ek E rfl rfl E.g6 fun a E => ek E rfl rfl E.g7 fun a E => ek E rfl rfl E.g8 fun a E => ep (v := .bool true) E rfl (run_pick_t rfl E.g9 rfl) fun a E => n_ (t_ (c_t E.g0 (wr_ (tr_ (br_ (tr_ (br_ ((ret_nil rfl E ⟨hf, ?_⟩).2))))))))
      rw [hP, timesT_end hti (more_see hq103)]
      exact ⟨rfl, hrB, hBs, _, hR, by rw [← List.append_assoc]; exact hO⟩
     | true =>
      rw [hq103] at E
      refine eg E rfl (wy_ E E.g0) (m_ rfl E.g8) fun a E => eg E rfl (wy_ E E.g1) (i_ rfl E.g0) fun a E => eg (v := .pointer (some ⟨rb, 0, none⟩)) E rfl (wy_ E E.g2) (fa59_0 rfl E.g0) fun a E => eg (v := .pointer (some ⟨rb, 0, none⟩)) E rfl (wy_ E E.g3) (fa57_0 rfl E.g0) fun a E => eg (v := .slice (pl) l88.length cl) E rfl (wy_ E E.g4) (run_ld34 rfl E.g0 (bx hrb 0 rfl)) fun a E => eg (v := .int .i64 (l88.length : Int)) E rfl (wy_ E E.g5) (run_len34 rfl E.g0) fun a E => eg (v := .bool (decide ((l88.length : Int) < 2))) E rfl (wy_ E E.g6) (run_ilss E.g0 rfl Tryz.underlying3 rfl) fun a E => ep (v := .bool (decide ((l88.length : Int) < 2))) E rfl (run_pick_f rfl E.g7 E.g0) fun a E => ep E rfl (m_ rfl E.g0) fun a E => ?_
      cases hq104 : (decide ((l88.length : Int) < 2)) with
      | false =>
       rw [hq104] at E
       have h1l : 1 < l88.length := by have := of_decide_eq_false hq104; omega
       obtain ⟨u, hu⟩ : ∃ y, l88[1]? = some y := ⟨_, List.getElem?_eq_getElem h1l⟩
       obtain ⟨g105, off105, hpe105, hgl105, hrow105⟩ := hts.at h1l
       replace hrow105 := hrow105 1 u hu
       refine eg E rfl (wy_ E E.g0) (m_ rfl E.g17) fun a E => eg E rfl (wy_ E E.g1) (i_ rfl E.g0) fun a E => eg (v := .pointer (some ⟨rb, 0, none⟩)) E rfl (wy_ E E.g2) (fa59_0 rfl E.g0) fun a E => eg (v := .pointer (some ⟨rb, 0, none⟩)) E rfl (wy_ E E.g3) (fa57_0 rfl E.g0) fun a E => eg (v := .slice (pl) l88.length cl) E rfl (wy_ E E.g4) (run_ld34 rfl E.g0 (bx hrb 0 rfl)) fun a E => eg (v := .pointer (some ⟨g105, (off105 + 1 * 3), none⟩)) E rfl (wy_ E E.g5) (run_index34 (i := 1) rfl (E.g0.trans (by rw [hpe105])) rfl h1l) fun a E => eg (v := .pointer (some ⟨g105, ((off105 + 1 * 3) + 0), none⟩)) E rfl (wy_ E E.g6) (fa38_0 rfl E.g0) fun a E => eg (v := .int .i64 u.1) E rfl (wy_ E E.g7) (run_ldi rfl E.g0 (hrow105 0 _ rfl)) fun a E => eg (v := .bool (u.1 != 2)) E rfl (wy_ E E.g8) (run_ineq E.g0 rfl Tryz.underlying3 rfl) fun a E => ep (v := .bool (u.1 != 2)) E rfl (run_pick_f rfl E.g9 E.g0) fun a E => n_ (t_ ?_)
       cases hq106 : (u.1 != 2) with
       | false =>
        rw [hq106] at E
        refine c_f E.g0 (k_ (t_ ?_))
        have hmo : more l88 = true := by rw [more_at hu, hq103]; have h9 := hq106; simp only [bne_eq_false_iff_eq] at h9; rw [h9]; rfl
        refine r_ (ep E rfl (m_ rfl E.g27) fun a E => ep E rfl (i_ rfl E.g0) fun a E => ep (v := .pointer (some ⟨rb, 0, none⟩)) E rfl (fa59_0 rfl E.g0) fun a E => ?_)
        rcases htk107 : take en 4 [] l88 with ⟨c107, x107⟩ | ⟨t107, l107⟩
        ·skip
         refine env_callp (ch := pn c107 x107) (R := fun w8 => Fr (fun r => r = rb) w1 w8) (wanted_none rfl _) (run_call3 (enters_of Tryz.func56 (by kernel_rfl) rfl) rfl rfl E.g0 rfl rfl) ((take_calls (xs := []) hR (Src.nil _) 4).mono fun e w8 h => by unfold StepP at h; rw [htk107] at h; exact ⟨h.2, h.1⟩) fun w1 f1 => ?_
         have hf := hf.trans' f1 (fun r hr e => by (try simp only at e); first | exact e | exact .inl e)
         obtain ⟨t9, l9, h9, _⟩ := take_any (en := en) hq103
         rw [h9] at htk107
         cases htk107
        refine env_callv (d := 118) (R := fun u w8 => u = .agg (tkA t107) ∧ Rd w8 rb G en l107 sv2 ∧ Fr (fun r => r = rb) w1 w8) E rfl (by decide) rfl (wanted_none rfl _) (run_call3 (enters_of Tryz.func56 (by kernel_rfl) rfl) rfl rfl E.g0 rfl rfl) ((take_calls (xs := []) hR (Src.nil _) 4).mono fun e w8 h => by unfold StepP at h; rw [htk107] at h; exact ⟨_, h.2.1, rfl, h.2.2, h.1⟩) fun a w1 u ⟨hu, hR2, f1⟩ E => ?_
        subst hu
        have hO := ow.fr hO f1 (fun k hk e => by have := (hO.lt hk).1; (try simp only at e); omega)
        have hBs := Nat.le_trans hBs f1.size
        have hf := hf.trans' f1 (fun _ hr => nq_)
        clear f1
        have hR := hR2
        clear hR2
        obtain ⟨hto107, hkd107, hk⟩ := take_tk hk htk107
        have hin107 := (take_ok htk107).2.2
        have htl107 : l88 = t107 :: l107 := (take_ok htk107).1
        refine n_ (b_ (t_ ?_))
        have hPn : part en ts = pre (acc ++ (dayP f m85 (m88 + 1440) n)) (timesT en f t l107) := by rw [hP, timesT_more hti hmo, htl107]; rfl
        have hl9 := time_ok hti
        have hl8 : l88.length = l107.length + 1 := by rw [htl107]; rfl
        refine ⟨⟨l107, acc ++ (dayP f m85 (m88 + 1440) n), sv2, E.of ⟨E.g31, E.g32, E.g33, trivial⟩, hR, by rw [← List.append_assoc]; exact hO, hk, hPn, hf, hBs, by have := dayP_len f m85 (m88 + 1440) n; simp only [List.length_append]; omega⟩, by have := hR.len; show rdLen _ rb < rdLen _ rb; omega⟩
       | true =>
        rw [hq106] at E
        refine c_t E.g0 (wr_ (tr_ (br_ (tr_ (br_ ((ret_nil rfl E ⟨hf, ?_⟩).2))))))
        rw [hP, timesT_end hti ((by rw [more_at hu]; have h9 := hq106; simp only [bne_iff_ne, ne_eq] at h9; rw [beq_eq_false_iff_ne.2 h9, Bool.and_false]))]
        exact ⟨rfl, hrB, hBs, _, hR, by rw [← List.append_assoc]; exact hO⟩
      | true =>
       rw [hq104] at E
       refine ek E rfl rfl E.g0 fun a E => ek E rfl rfl E.g1 fun a E => ek E rfl rfl E.g2 fun a E => ek E rfl rfl E.g3 fun a E => ek E rfl rfl E.g4 fun a E => ek E rfl rfl E.g5 fun a E => ek E rfl rfl E.g6 fun a E => ek E rfl rfl E.g7 fun a E => ek E rfl rfl E.g8 fun a E => ep (v := .bool true) E rfl (run_pick_t rfl E.g9 rfl) fun a E => n_ (t_ (c_t E.g0 (wr_ (tr_ (br_ (tr_ (br_ ((ret_nil rfl E ⟨hf, ?_⟩).2))))))))
       rw [hP, timesT_end hti (more_short (by have := of_decide_eq_true hq104; omega))]
       exact ⟨rfl, hrB, hBs, _, hR, by rw [← List.append_assoc]; exact hO⟩
    | true =>
     rw [hq101] at E
     have hlt : i < n := by have := of_decide_eq_true hq101; omega
     refine c_t E.g0 (k_ (t_ (s_ (bk_ (s_ (r_ (ep E rfl (m_ rfl E.g7) fun a E => ep E rfl (a_ rfl E.g0) fun a E => n_ (t_ (s_ (r_ (ep E rfl (m_ rfl E.g4) fun a E => ep E rfl (m_ rfl E.g1) fun a E => ep (v := .int .i64 (f + (i : Int))) E rfl (run_iadd Tryz.underlying3 E.g1 E.g0 (by omega) (by omega) rfl) fun a E => ep (v := .int .i64 ((f + (i : Int)) % 7)) E rfl (run_irem E.g0 rfl (by omega) (by omega) (by omega) (by omega) rfl) fun a E => ep (v := .int .i64 (((f + (i : Int)) % 7) * 1440)) E rfl (run_imul Tryz.underlying3 E.g0 rfl (by omega) (by omega) rfl) fun a E => ep E rfl (a_ rfl E.g0) fun a E => n_ (t_ (r_ (ep E rfl (m_ rfl E.g9) fun a E => ep E rfl (m_ rfl E.g1) fun a E => ep E rfl (m_ rfl E.g14) fun a E => ep (v := .int .i64 ((((f + (i : Int)) % 7) * 1440) + m85)) E rfl (run_iadd Tryz.underlying3 E.g1 E.g0 (by omega) (by omega) rfl) fun a E => ep E rfl (m_ rfl E.g4) fun a E => ep E rfl (m_ rfl E.g18) fun a E => ep (v := .int .i64 ((((f + (i : Int)) % 7) * 1440) + (m88 + 1440))) E rfl (run_iadd Tryz.underlying3 E.g1 E.g0 (by omega) (by omega) rfl) fun a E => env_callv (d := 87) (R := fun u w8 => u = .tuple #[] ∧ RdO w8 rb G B en l88 ((ss ++ acc ++ dayP f m85 (m88 + 1440) i) ++ addL ((((f + (i : Int)) % 7) * 1440) + m85) ((((f + (i : Int)) % 7) * 1440) + (m88 + 1440))) ∧ Fr (fun r => r = rb ∨ B ≤ r) w2 w8) E rfl (by decide) rfl (wanted_none rfl _) (run_call3 (enters_of Tryz.func57 (by kernel_rfl) rfl) rfl rfl E.g6 E.g3 E.g0) ((add_calls ⟨hrB, hBs, _, hR, hO⟩ (by omega) (by omega) (by have := dayP_len f m85 (m88 + 1440) i; simp only [List.length_append]; omega)).mono fun e w8 h => by obtain ⟨rfl, h⟩ := h; exact ⟨_, rfl, rfl, h⟩) fun a w1 u ⟨hu, hRO, f1⟩ E => ?_))))))))))))))
     subst hu
     have hf := hf.trans f1
     clear hR hO hBs f1
     obtain ⟨_, hBs, sv108, hR, hO⟩ := hRO
     refine n_ (b_ (t_ (r_ (ep (v := .int .i64 ((i : Int) + 1)) E rfl (run_iadd Tryz.underlying3 E.g23 rfl (by omega) (by omega) rfl) fun a E => es_ E rfl (m_ rfl E.g0) fun a E => n_ (t_ ?_)))))
     refine ⟨⟨i + 1, sv108, E.of ⟨E.g19, E.g20, E.g21, E.g22, E.g23, E.g24, E.g0, trivial⟩, hlt, hR, by rw [dayP_succ, tm7 hf0.1, ← List.append_assoc]; exact hO, hf, hBs⟩, ?_⟩
     rw [E.g0]; simp only [intOf]; omega
  | true =>
   rw [hq89] at E
   refine c_t E.g0 (r_ (ep E rfl (m_ rfl E.g4) fun a E => ep (v := .agg #[.int .i64 10, .int .i64 y88]) E rfl (run_of54 rfl rfl E.g0) fun a E => ep (v := prob 10 y88) E rfl (run_mkif54 rfl E.g0) fun a E => env_panic (wanted_none rfl _) (run_panic rfl E.g0) (blk_p (then_p (blk_p (then_p (blk_p (pan_end E ⟨hf, ?_⟩))))))))
   rw [hP, timesT_err (by
    unfold time
    rw [hck85]
    try simp only
    rw [htk87]
    try simp only
    rw [hck88]
    try simp only
    rw [if_pos hq89]
    )]
   rfl
 | true =>
  rw [hq84] at E
  refine c_t E.g0 (s_ (r_ (ep E rfl (m_ rfl E.g18) fun a E => ep E rfl (i_ rfl E.g0) fun a E => ep (v := .pointer (some ⟨rb, 0, none⟩)) E rfl (fa59_0 rfl E.g0) fun a E => ?_)))
  rcases htk109 : take en 4 [] l82 with ⟨c109, x109⟩ | ⟨t109, l109⟩
  ·skip
   refine env_callp (ch := pn c109 x109) (R := fun w8 => Fr (fun r => r = rb) w1 w8) (wanted_none rfl _) (run_call3 (enters_of Tryz.func56 (by kernel_rfl) rfl) rfl rfl E.g0 rfl rfl) ((take_calls (xs := []) hR (Src.nil _) 4).mono fun e w8 h => by unfold StepP at h; rw [htk109] at h; exact ⟨h.2, h.1⟩) fun w1 f1 => ?_
   have hf := hf.trans' f1 (fun r hr e => by (try simp only at e); first | exact e | exact .inl e)
   obtain ⟨t9, l9, h9, _⟩ := take_any (en := en) hq84
   rw [h9] at htk109
   cases htk109
  refine env_callv (d := 29) (R := fun u w8 => u = .agg (tkA t109) ∧ Rd w8 rb G en l109 sv ∧ Fr (fun r => r = rb) w1 w8) E rfl (by decide) rfl (wanted_none rfl _) (run_call3 (enters_of Tryz.func56 (by kernel_rfl) rfl) rfl rfl E.g0 rfl rfl) ((take_calls (xs := []) hR (Src.nil _) 4).mono fun e w8 h => by unfold StepP at h; rw [htk109] at h; exact ⟨_, h.2.1, rfl, h.2.2, h.1⟩) fun a w1 u ⟨hu, hR2, f1⟩ E => ?_
  subst hu
  have hO := ow.fr hO f1 (fun k hk e => by have := (hO.lt hk).1; (try simp only at e); omega)
  have hBs := Nat.le_trans hBs f1.size
  have hbd := f1.obj hbd nq_
  have hf := hf.trans' f1 (fun _ hr => nq_)
  clear f1
  have hR := hR2
  clear hR2
  obtain ⟨hto109, hkd109, hk⟩ := take_tk hk htk109
  have hin109 := (take_ok htk109).2.2
  have htl109 : l82 = t109 :: l109 := (take_ok htk109).1
  refine n_ (t_ (r_ (ep E rfl (m_ rfl E.g20) fun a E => ep E rfl (m_ rfl E.g23) fun a E => ep E rfl (i_ rfl E.g0) fun a E => ep (v := .pointer (some ⟨rb, 0, none⟩)) E rfl (fa59_0 rfl E.g0) fun a E => ep E rfl (m_ rfl E.g24) fun a E => ?_)))
  rcases htk110 : take en 1 days l109 with ⟨c110, x110⟩ | ⟨t110, l110⟩
  ·skip
   refine env_callp (ch := pn c110 x110) (R := fun w8 => Fr (fun r => r = rb) w1 w8) (wanted_none rfl _) (run_call3 (enters_of Tryz.func56 (by kernel_rfl) rfl) rfl rfl E.g1 rfl E.g0) ((take_calls (xs := days) hR (DaysAt.st hbd) 1).mono fun e w8 h => by unfold StepP at h; rw [htk110] at h; exact ⟨h.2, h.1⟩) fun w1 f1 => ?_
   have hf := hf.trans' f1 (fun r hr e => by (try simp only at e); first | exact e | exact .inl e)
   refine then_p (pan_end E ⟨hf, ?_⟩)
   rw [part_er (by
    unfold dys
    rw [htk82]
    try simp only
    rw [if_pos hq84, htl109]
    simp only [List.drop_succ_cons, List.drop_zero]
    rw [htk110]
    try simp only
    )]
  refine env_callv (d := 35) (R := fun u w8 => u = .agg (tkA t110) ∧ Rd w8 rb G en l110 sv ∧ Fr (fun r => r = rb) w1 w8) E rfl (by decide) rfl (wanted_none rfl _) (run_call3 (enters_of Tryz.func56 (by kernel_rfl) rfl) rfl rfl E.g1 rfl E.g0) ((take_calls (xs := days) hR (DaysAt.st hbd) 1).mono fun e w8 h => by unfold StepP at h; rw [htk110] at h; exact ⟨_, h.2.1, rfl, h.2.2, h.1⟩) fun a w1 u ⟨hu, hR2, f1⟩ E => ?_
  subst hu
  have hO := ow.fr hO f1 (fun k hk e => by have := (hO.lt hk).1; (try simp only at e); omega)
  have hBs := Nat.le_trans hBs f1.size
  have hbd := f1.obj hbd nq_
  have hf := hf.trans' f1 (fun _ hr => nq_)
  clear f1
  have hR := hR2
  clear hR2
  obtain ⟨hto110, hkd110, hk⟩ := take_tk hk htk110
  have hin110 := (take_ok htk110).2.2
  refine ep (v := .string (ofL t110.2.1)) E rfl (run_fd38_1 rfl E.g0) fun a E => ?_
  have hid110 : t110.2.1 ∈ days := hin110.resolve_left (by decide)
  have hir110 := idx_rng hid110
  refine ec_ (v := .int .i64 (idx t110.2.1)) E rfl (run_call2 (enters_of Tryz.func79 (by kernel_rfl) rfl) rfl rfl E.g6 E.g0) (index_calls (DaysAt.st hbd) hid110) fun a w1 f1 E => ?_
  have hR := Rd.fr hR f1 (fun r hr => id)
  have hO := ow.fr hO f1 (fun _ _ h => h)
  have hBs := Nat.le_trans hBs f1.size
  have hbd := f1.obj hbd id
  have hf := hf.trans' f1 (fun _ _ h => h.elim)
  clear f1
  refine es_ E rfl (a_ rfl E.g0) fun a E => n_ (t_ (bk_ ?_))
  have hdy : dys en ts = .ok (((idx t82.2.1), (idx t110.2.1)), l110) := by
   unfold dys
   rw [htk82]
   simp only
   rw [if_pos hq84, htl109]
   simp only [List.drop_succ_cons, List.drop_zero]
   rw [htk110]
  obtain ⟨f, hfe⟩ : ∃ f, f = (idx t82.2.1) := ⟨_, rfl⟩
  obtain ⟨t, hte⟩ : ∃ t, t = (idx t110.2.1) := ⟨_, rfl⟩
  have hdy : dys en ts = .ok ((f, t), l110) := by rw [hfe, hte]; exact hdy
  have hf0 : 0 ≤ f ∧ f < 7 := by rw [hfe]; omega
  have ht0 : 0 ≤ t ∧ t < 7 := by rw [hte]; omega
  have hP := part_eq hdy
  have hlen := dys_len hdy
  have E := E.of (L' := [(0, .pointer (some ⟨rb, 0, none⟩)), (3, .int .i64 f), (4, .int .i64 t)]) ⟨E.g30, E.g19.trans (by rw [hfe]), E.g0.trans (by rw [hte]), trivial⟩
  refine wp_loop (fun a w2 => ∃ (l : List (Tok Int)) (acc : List Sp) (sv : Value), Env 119 [(0, .pointer (some ⟨rb, 0, none⟩)), (3, .int .i64 f), (4, .int .i64 t)] a ∧ Rd w2 rb G en l sv ∧ oSp w2 B sv (ss ++ acc) ∧ Tk l ∧ part en ts = pre acc (timesT en f t l) ∧ Fr (fun r => r = rb ∨ B ≤ r) w w2 ∧ B ≤ w2.heap.size ∧ acc.length + 14 * l.length ≤ 14 * ts.length) (fun _ w2 => rdLen w2 rb) ?_ ?_
  ·exact ⟨l110, [], _, E, hR, by rw [List.append_nil]; exact hO, hk, hP, hf, hBs, by simp only [List.length_nil]; omega⟩
  clear E hR hO hk hP hf hBs hdy hlen hfe hte
  rintro a w2 ⟨l, acc, sv, E, hR, hO, hk, hP, hf, hBs, hal⟩
  have hlen2 := hR.len
  refine bk_ (s_ (r_ (ep E rfl (m_ rfl E.g0) fun a E => ?_)))
  rcases hck111 : clock en 23 l with ⟨c111, x111⟩ | ⟨⟨m111, y111⟩, l111⟩
  ·skip
   refine env_callp (ch := pn c111 x111) (R := fun w8 => Fr (fun r => r = rb) w2 w8) (wanted_none rfl _) (run_call2 (enters_of Tryz.func80 (by kernel_rfl) rfl) rfl rfl E.g0 rfl) ((clock_calls (most := 23) hR hk).mono fun e w8 h => by unfold StepP at h; rw [hck111] at h; exact ⟨h.2, h.1⟩) fun w1 f1 => ?_
   have hf := hf.trans' f1 (fun r hr e => by (try simp only at e); first | exact e | exact .inl e)
   refine then_p (blk_p (then_p (blk_p (pan_end E ⟨hf, ?_⟩))))
   rw [hP, timesT_err (by
    unfold time
    rw [hck111]
    try simp only
    )]
   rfl
  refine env_callv (d := 40) (R := fun u w8 => u = .tuple #[.int .i64 m111, .int .i64 y111] ∧ Rd w8 rb G en l111 sv ∧ Fr (fun r => r = rb) w2 w8) E rfl (by decide) rfl (wanted_none rfl _) (run_call2 (enters_of Tryz.func80 (by kernel_rfl) rfl) rfl rfl E.g0 rfl) ((clock_calls (most := 23) hR hk).mono fun e w8 h => by unfold StepP at h; rw [hck111] at h; exact ⟨_, h.2.1, rfl, h.2.2, h.1⟩) fun a w1 u ⟨hu, hR2, f1⟩ E => ?_
  subst hu
  have hO := ow.fr hO f1 (fun k hk e => by have := (hO.lt hk).1; (try simp only at e); omega)
  have hBs := Nat.le_trans hBs f1.size
  have hf := hf.trans' f1 (fun _ hr => nq_)
  clear f1
  have hR := hR2
  clear hR2
  obtain ⟨hm0111, hm1111, hm2111, hk⟩ := clock_rng hk hck111
  refine ep E rfl (m_ rfl E.g0) fun a E => ep (v := .int .i64 m111) E rfl (run_ext0 rfl E.g0) fun a E => ep (v := .int .i64 y111) E rfl (run_ext1 rfl E.g1) fun a E => ep E rfl (a_ rfl E.g1) fun a E => ep E rfl (a_ rfl E.g1) fun a E => n_ (t_ (s_ (r_ (ep E rfl (m_ rfl E.g7) fun a E => ep E rfl (i_ rfl E.g0) fun a E => ep (v := .pointer (some ⟨rb, 0, none⟩)) E rfl (fa59_0 rfl E.g0) fun a E => env_one70 (d := 46) E rfl (by decide) rfl (wanted_none rfl _) rfl rfl fun a w1 b112 eb112 hbb112 f1 E => ?_))))
  have hR := Rd.fr hR f1 (fun r hr => id)
  have hO := ow.fr hO f1 (fun _ _ h => h)
  have hBs := Nat.le_trans hBs f1.size
  have hf := hf.trans' f1 (fun _ _ h => h.elim)
  clear f1
  have hsb112 := src_one (f := stL) (c := 1) (G := w1.heap.size) hbb112 (lt_of_blk hbb112)
  clear hbb112 eb112
  rcases htk113 : take en 4 [cDash] l111 with ⟨c113, x113⟩ | ⟨t113, l113⟩
  ·skip
   refine env_callp (ch := pn c113 x113) (R := fun w8 => Fr (fun r => r = rb) w1 w8) (wanted_none rfl _) (run_call3 (enters_of Tryz.func56 (by kernel_rfl) rfl) rfl rfl E.g1 rfl E.g0) ((take_calls (xs := [cDash]) hR ⟨_, 1, rfl, Nat.le_refl _, by omega, hsb112, fun h => by cases h⟩ 4).mono fun e w8 h => by unfold StepP at h; rw [htk113] at h; exact ⟨h.2, h.1⟩) fun w1 f1 => ?_
   have hf := hf.trans' f1 (fun r hr e => by (try simp only at e); first | exact e | exact .inl e)
   refine then_p (blk_p (then_p (blk_p (pan_end E ⟨hf, ?_⟩))))
   rw [hP, timesT_err (by
    unfold time
    rw [hck111]
    try simp only
    rw [htk113]
    try simp only
    )]
   rfl
  refine env_callv (d := 47) (R := fun u w8 => u = .agg (tkA t113) ∧ Rd w8 rb G en l113 sv ∧ Fr (fun r => r = rb) w1 w8) E rfl (by decide) rfl (wanted_none rfl _) (run_call3 (enters_of Tryz.func56 (by kernel_rfl) rfl) rfl rfl E.g1 rfl E.g0) ((take_calls (xs := [cDash]) hR ⟨_, 1, rfl, Nat.le_refl _, by omega, hsb112, fun h => by cases h⟩ 4).mono fun e w8 h => by unfold StepP at h; rw [htk113] at h; exact ⟨_, h.2.1, rfl, h.2.2, h.1⟩) fun a w1 u ⟨hu, hR2, f1⟩ E => ?_
  subst hu
  have hO := ow.fr hO f1 (fun k hk e => by have := (hO.lt hk).1; (try simp only at e); omega)
  have hBs := Nat.le_trans hBs f1.size
  have hf := hf.trans' f1 (fun _ hr => nq_)
  clear f1
  have hR := hR2
  clear hR2
  obtain ⟨hto113, hkd113, hk⟩ := take_tk hk htk113
  have hin113 := (take_ok htk113).2.2
  refine n_ (t_ (s_ (r_ (ep E rfl (m_ rfl E.g12) fun a E => ?_))))
  rcases hck114 : clock en 24 l113 with ⟨c114, x114⟩ | ⟨⟨m114, y114⟩, l114⟩
  ·skip
   refine env_callp (ch := pn c114 x114) (R := fun w8 => Fr (fun r => r = rb) w1 w8) (wanted_none rfl _) (run_call2 (enters_of Tryz.func80 (by kernel_rfl) rfl) rfl rfl E.g0 rfl) ((clock_calls (most := 24) hR hk).mono fun e w8 h => by unfold StepP at h; rw [hck114] at h; exact ⟨h.2, h.1⟩) fun w1 f1 => ?_
   have hf := hf.trans' f1 (fun r hr e => by (try simp only at e); first | exact e | exact .inl e)
   refine then_p (blk_p (then_p (blk_p (pan_end E ⟨hf, ?_⟩))))
   rw [hP, timesT_err (by
    unfold time
    rw [hck111]
    try simp only
    rw [htk113]
    try simp only
    rw [hck114]
    try simp only
    )]
   rfl
  refine env_callv (d := 50) (R := fun u w8 => u = .tuple #[.int .i64 m114, .int .i64 y114] ∧ Rd w8 rb G en l114 sv ∧ Fr (fun r => r = rb) w1 w8) E rfl (by decide) rfl (wanted_none rfl _) (run_call2 (enters_of Tryz.func80 (by kernel_rfl) rfl) rfl rfl E.g0 rfl) ((clock_calls (most := 24) hR hk).mono fun e w8 h => by unfold StepP at h; rw [hck114] at h; exact ⟨_, h.2.1, rfl, h.2.2, h.1⟩) fun a w1 u ⟨hu, hR2, f1⟩ E => ?_
  subst hu
  have hO := ow.fr hO f1 (fun k hk e => by have := (hO.lt hk).1; (try simp only at e); omega)
  have hBs := Nat.le_trans hBs f1.size
  have hf := hf.trans' f1 (fun _ hr => nq_)
  clear f1
  have hR := hR2
  clear hR2
  obtain ⟨hm0114, hm1114, hm2114, hk⟩ := clock_rng hk hck114
  refine ep E rfl (m_ rfl E.g0) fun a E => ep (v := .int .i64 m114) E rfl (run_ext0 rfl E.g0) fun a E => ep (v := .int .i64 y114) E rfl (run_ext1 rfl E.g1) fun a E => ep E rfl (a_ rfl E.g1) fun a E => ep E rfl (a_ rfl E.g1) fun a E => n_ (t_ (s_ (bk_ (s_ (r_ (ep E rfl (m_ rfl E.g13) fun a E => ep E rfl (m_ rfl E.g2) fun a E => ep (v := .bool (m111 == m114)) E rfl (run_ieql E.g1 E.g0 Tryz.underlying3 rfl) fun a E => ep E rfl (a_ rfl E.g0) fun a E => n_ (t_ ?_)))))))
  cases hq115 : (m111 == m114) with
  | false =>
   rw [hq115] at E
   refine c_f E.g0 (s_ (r_ (ep E rfl (m_ rfl E.g5) fun a E => ep E rfl (m_ rfl E.g18) fun a E => ep (v := .bool (decide (m114 < m111))) E rfl (run_ilss E.g1 E.g0 Tryz.underlying3 rfl) fun a E => ep E rfl (a_ rfl E.g0) fun a E => n_ (t_ ?_))))
   cases hq116 : (decide (m114 < m111)) with
   | false =>
    rw [hq116] at E
    refine c_f E.g0 (k_ (b_ (t_ (s_ (s_ (r_ (ep E rfl (m_ rfl E.g29) fun a E => ep E rfl (m_ rfl E.g29) fun a E => ep (v := .int .i64 (t - f)) E rfl (run_isub Tryz.underlying3 E.g1 E.g0 (by omega) (by omega) rfl) fun a E => ep (v := .int .i64 ((t - f) + 7)) E rfl (run_iadd Tryz.underlying3 E.g0 rfl (by omega) (by omega) rfl) fun a E => ep (v := .int .i64 (((t - f) + 7) % 7)) E rfl (run_irem E.g0 rfl (by omega) (by omega) (by omega) (by omega) rfl) fun a E => ep (v := .int .i64 ((((t - f) + 7) % 7) + 1)) E rfl (run_iadd Tryz.underlying3 E.g0 rfl (by omega) (by omega) rfl) fun a E => ep (v := .int .i64 0) E rfl (m_ rfl rfl) fun a E => n_ (t_ (bk_ ?_)))))))))
    obtain ⟨n, hn⟩ : ∃ n : Nat, n = ((t - f + 7) % 7 + 1).toNat := ⟨_, rfl⟩
    have hnn : (t - f + 7) % 7 + 1 = (n : Int) := by omega
    have hn7 : n ≤ 7 := by omega
    rw [hnn] at E
    refine wp_loop (fun a w2 => ∃ (i : Nat) (sv2 : Value), Env 119 [(0, .pointer (some ⟨rb, 0, none⟩)), (3, .int .i64 f), (4, .int .i64 t), (5, .int .i64 m111), (7, .int .i64 m114), (71, .int .i64 (n : Int)), (72, .int .i64 (i : Int))] a ∧ i ≤ n ∧ Rd w2 rb G en l114 sv2 ∧ oSp w2 B sv2 (ss ++ acc ++ dayP f m111 m114 i) ∧ Fr (fun r => r = rb ∨ B ≤ r) w w2 ∧ B ≤ w2.heap.size) (fun a _ => n - (intOf (a.eval (.tmp 72))).toNat) ?_ ?_
    ·exact ⟨0, _, E.of ⟨E.g34, E.g35, E.g36, E.g28, E.g16, E.g1, E.g0, trivial⟩, Nat.zero_le _, hR, by rw [show dayP f m111 m114 0 = [] from rfl, List.append_nil]; exact hO, hf, hBs⟩
    clear E
    rintro a w2 ⟨i, sv2, E, hi, hR, hO, hf, hBs⟩
    have hmu : n - (intOf (a.eval (.tmp 72))).toNat = n - i := by rw [E.g6]; first | rfl | (simp [intOf]; done) | (simp only [intOf]; omega)
    rw [hmu]
    clear hmu
    refine s_ (r_ (ep (v := .bool (decide ((i : Int) < (n : Int)))) E rfl (run_ilss E.g6 E.g5 Tryz.underlying3 rfl) fun a E => n_ (t_ (s_ ?_))))
    cases hq118 : (decide ((i : Int) < (n : Int))) with
    | false =>
     rw [hq118] at E
     have hie : i = n := by have := of_decide_eq_false hq118; omega
     refine c_f E.g0 (x_ (te_ (te_ (be_ (t_ (s_ (s_ ?_)))))))
     have hti : time en f t l = .ok ((dayP f m111 m114 n), l114) := by
      unfold time
      rw [hck111]
      simp only
      rw [htk113]
      simp only
      rw [hck114]
      simp only
      rw [if_neg (by rw [hq115]; simp), if_neg (of_decide_eq_false hq116), day_n hf0.1 hf0.2 ht0.1 ht0.2, hnn]
      rfl
     rw [hie] at hO
     have hR9 := hR
     obtain ⟨hGr, lv, hrb, pl, cl, hlv, hlv0, hlv1, hts, hzl⟩ := hR9
     subst hlv
     have hO : oSp w2 B sv2 (ss ++ acc ++ (dayP f m111 m114 n)) := hO
     refine r_ (ep E rfl (m_ rfl E.g1) fun a E => ep E rfl (i_ rfl E.g0) fun a E => ep (v := .pointer (some ⟨rb, 0, none⟩)) E rfl (fa59_0 rfl E.g0) fun a E => env_one70 (d := 92) E rfl (by decide) rfl (wanted_none rfl _) rfl rfl fun a w1 b119 eb119 hbb119 f1 E => ?_)
     have hR := Rd.fr hR f1 (fun r hr => id)
     have hO := ow.fr hO f1 (fun _ _ h => h)
     have hBs := Nat.le_trans hBs f1.size
     have hrb := f1.obj hrb id
     have hts := srcAt.fr hts f1 (fun r hr => id)
     have hf := hf.trans' f1 (fun _ _ h => h.elim)
     clear f1
     have hsb119 := src_one (f := stL) (c := 1) (G := w1.heap.size) hbb119 (lt_of_blk hbb119)
     clear hbb119 eb119
     refine ec_ (v := .bool (sees 4 [cComma] l114)) E rfl (run_call3 (enters_of Tryz.func55 (by kernel_rfl) rfl) rfl rfl E.g1 rfl E.g0) (sees_calls (xs := [cComma]) hR ⟨_, 1, rfl, Nat.le_refl _, by omega, hsb119, fun h => by cases h⟩ 4) fun a w1 f1 E => ?_
     have hR := Rd.fr hR f1 (fun r hr => id)
     have hO := ow.fr hO f1 (fun _ _ h => h)
     have hBs := Nat.le_trans hBs f1.size
     have hrb := f1.obj hrb id
     have hts := srcAt.fr hts f1 (fun r hr => id)
     have hf := hf.trans' f1 (fun _ _ h => h.elim)
     clear f1
     refine ep (v := .bool (!(sees 4 [cComma] l114))) E rfl (run_not rfl E.g0) fun a E => ep E rfl (m_ rfl E.g0) fun a E => ?_
     cases hq120 : (sees 4 [cComma] l114) with
     | false =>
      rw [hq120] at E
      refine ek E rfl rfl E.g0 fun a E => ek E rfl rfl E.g1 fun a E => ek E rfl rfl E.g2 fun a E => ek E rfl rfl E.g3 fun a E => ek E rfl rfl E.g4 fun a E => ek E rfl rfl E.g5 fun a E => ek E rfl rfl E.g6 fun a E => ep (v := .bool true) E rfl (run_pick_t rfl E.g7 rfl) fun a E => ep E rfl (m_ rfl E.g0) fun a E => ek E rfl rfl E.g0 fun a E => ek E rfl rfl E.g1 fun a E => ek E rfl rfl E.g2 fun a E => ek E rfl rfl E.g3 fun a E => ek E rfl rfl E.g4 fun a E => ek E rfl rfl E.g5 fun a E => ek E rfl rfl E.g6 fun a E => ek E rfl rfl E.g7 fun a E => ek E rfl rfl E.g8 fun a E => ep (v := .bool true) E rfl (run_pick_t rfl E.g9 rfl) fun a E => n_ (t_ (c_t E.g0 (wr_ (tr_ (br_ (tr_ (br_ ((ret_nil rfl E ⟨hf, ?_⟩).2))))))))
      rw [hP, timesT_end hti (more_see hq120)]
      exact ⟨rfl, hrB, hBs, _, hR, by rw [← List.append_assoc]; exact hO⟩
     | true =>
      rw [hq120] at E
      refine eg E rfl (wy_ E E.g0) (m_ rfl E.g8) fun a E => eg E rfl (wy_ E E.g1) (i_ rfl E.g0) fun a E => eg (v := .pointer (some ⟨rb, 0, none⟩)) E rfl (wy_ E E.g2) (fa59_0 rfl E.g0) fun a E => eg (v := .pointer (some ⟨rb, 0, none⟩)) E rfl (wy_ E E.g3) (fa57_0 rfl E.g0) fun a E => eg (v := .slice (pl) l114.length cl) E rfl (wy_ E E.g4) (run_ld34 rfl E.g0 (bx hrb 0 rfl)) fun a E => eg (v := .int .i64 (l114.length : Int)) E rfl (wy_ E E.g5) (run_len34 rfl E.g0) fun a E => eg (v := .bool (decide ((l114.length : Int) < 2))) E rfl (wy_ E E.g6) (run_ilss E.g0 rfl Tryz.underlying3 rfl) fun a E => ep (v := .bool (decide ((l114.length : Int) < 2))) E rfl (run_pick_f rfl E.g7 E.g0) fun a E => ep E rfl (m_ rfl E.g0) fun a E => ?_
      cases hq121 : (decide ((l114.length : Int) < 2)) with
      | false =>
       rw [hq121] at E
       have h1l : 1 < l114.length := by have := of_decide_eq_false hq121; omega
       obtain ⟨u, hu⟩ : ∃ y, l114[1]? = some y := ⟨_, List.getElem?_eq_getElem h1l⟩
       obtain ⟨g122, off122, hpe122, hgl122, hrow122⟩ := hts.at h1l
       replace hrow122 := hrow122 1 u hu
       refine eg E rfl (wy_ E E.g0) (m_ rfl E.g17) fun a E => eg E rfl (wy_ E E.g1) (i_ rfl E.g0) fun a E => eg (v := .pointer (some ⟨rb, 0, none⟩)) E rfl (wy_ E E.g2) (fa59_0 rfl E.g0) fun a E => eg (v := .pointer (some ⟨rb, 0, none⟩)) E rfl (wy_ E E.g3) (fa57_0 rfl E.g0) fun a E => eg (v := .slice (pl) l114.length cl) E rfl (wy_ E E.g4) (run_ld34 rfl E.g0 (bx hrb 0 rfl)) fun a E => eg (v := .pointer (some ⟨g122, (off122 + 1 * 3), none⟩)) E rfl (wy_ E E.g5) (run_index34 (i := 1) rfl (E.g0.trans (by rw [hpe122])) rfl h1l) fun a E => eg (v := .pointer (some ⟨g122, ((off122 + 1 * 3) + 0), none⟩)) E rfl (wy_ E E.g6) (fa38_0 rfl E.g0) fun a E => eg (v := .int .i64 u.1) E rfl (wy_ E E.g7) (run_ldi rfl E.g0 (hrow122 0 _ rfl)) fun a E => eg (v := .bool (u.1 != 2)) E rfl (wy_ E E.g8) (run_ineq E.g0 rfl Tryz.underlying3 rfl) fun a E => ep (v := .bool (u.1 != 2)) E rfl (run_pick_f rfl E.g9 E.g0) fun a E => n_ (t_ ?_)
       cases hq123 : (u.1 != 2) with
       | false =>
        rw [hq123] at E
        refine c_f E.g0 (k_ (t_ ?_))
        have hmo : more l114 = true := by rw [more_at hu, hq120]; have h9 := hq123; simp only [bne_eq_false_iff_eq] at h9; rw [h9]; rfl
        refine r_ (ep E rfl (m_ rfl E.g27) fun a E => ep E rfl (i_ rfl E.g0) fun a E => ep (v := .pointer (some ⟨rb, 0, none⟩)) E rfl (fa59_0 rfl E.g0) fun a E => ?_)
        rcases htk124 : take en 4 [] l114 with ⟨c124, x124⟩ | ⟨t124, l124⟩
        ·skip
         refine env_callp (ch := pn c124 x124) (R := fun w8 => Fr (fun r => r = rb) w1 w8) (wanted_none rfl _) (run_call3 (enters_of Tryz.func56 (by kernel_rfl) rfl) rfl rfl E.g0 rfl rfl) ((take_calls (xs := []) hR (Src.nil _) 4).mono fun e w8 h => by unfold StepP at h; rw [htk124] at h; exact ⟨h.2, h.1⟩) fun w1 f1 => ?_
         have hf := hf.trans' f1 (fun r hr e => by (try simp only at e); first | exact e | exact .inl e)
         obtain ⟨t9, l9, h9, _⟩ := take_any (en := en) hq120
         rw [h9] at htk124
         cases htk124
        refine env_callv (d := 118) (R := fun u w8 => u = .agg (tkA t124) ∧ Rd w8 rb G en l124 sv2 ∧ Fr (fun r => r = rb) w1 w8) E rfl (by decide) rfl (wanted_none rfl _) (run_call3 (enters_of Tryz.func56 (by kernel_rfl) rfl) rfl rfl E.g0 rfl rfl) ((take_calls (xs := []) hR (Src.nil _) 4).mono fun e w8 h => by unfold StepP at h; rw [htk124] at h; exact ⟨_, h.2.1, rfl, h.2.2, h.1⟩) fun a w1 u ⟨hu, hR2, f1⟩ E => ?_
        subst hu
        have hO := ow.fr hO f1 (fun k hk e => by have := (hO.lt hk).1; (try simp only at e); omega)
        have hBs := Nat.le_trans hBs f1.size
        have hf := hf.trans' f1 (fun _ hr => nq_)
        clear f1
        have hR := hR2
        clear hR2
        obtain ⟨hto124, hkd124, hk⟩ := take_tk hk htk124
        have hin124 := (take_ok htk124).2.2
        have htl124 : l114 = t124 :: l124 := (take_ok htk124).1
        refine n_ (b_ (t_ ?_))
        have hPn : part en ts = pre (acc ++ (dayP f m111 m114 n)) (timesT en f t l124) := by rw [hP, timesT_more hti hmo, htl124]; rfl
        have hl9 := time_ok hti
        have hl8 : l114.length = l124.length + 1 := by rw [htl124]; rfl
        refine ⟨⟨l124, acc ++ (dayP f m111 m114 n), sv2, E.of ⟨E.g31, E.g32, E.g33, trivial⟩, hR, by rw [← List.append_assoc]; exact hO, hk, hPn, hf, hBs, by have := dayP_len f m111 m114 n; simp only [List.length_append]; omega⟩, by have := hR.len; show rdLen _ rb < rdLen _ rb; omega⟩
       | true =>
        rw [hq123] at E
        refine c_t E.g0 (wr_ (tr_ (br_ (tr_ (br_ ((ret_nil rfl E ⟨hf, ?_⟩).2))))))
        rw [hP, timesT_end hti ((by rw [more_at hu]; have h9 := hq123; simp only [bne_iff_ne, ne_eq] at h9; rw [beq_eq_false_iff_ne.2 h9, Bool.and_false]))]
        exact ⟨rfl, hrB, hBs, _, hR, by rw [← List.append_assoc]; exact hO⟩
      | true =>
       rw [hq121] at E
       refine ek E rfl rfl E.g0 fun a E => ek E rfl rfl E.g1 fun a E => ek E rfl rfl E.g2 fun a E => ek E rfl rfl E.g3 fun a E => ek E rfl rfl E.g4 fun a E => ek E rfl rfl E.g5 fun a E => ek E rfl rfl E.g6 fun a E => ek E rfl rfl E.g7 fun a E => ek E rfl rfl E.g8 fun a E => ep (v := .bool true) E rfl (run_pick_t rfl E.g9 rfl) fun a E => n_ (t_ (c_t E.g0 (wr_ (tr_ (br_ (tr_ (br_ ((ret_nil rfl E ⟨hf, ?_⟩).2))))))))
       rw [hP, timesT_end hti (more_short (by have := of_decide_eq_true hq121; omega))]
       exact ⟨rfl, hrB, hBs, _, hR, by rw [← List.append_assoc]; exact hO⟩
    | true =>
     rw [hq118] at E
     have hlt : i < n := by have := of_decide_eq_true hq118; omega
     refine c_t E.g0 (k_ (t_ (s_ (bk_ (s_ (r_ (ep E rfl (m_ rfl E.g7) fun a E => ep E rfl (a_ rfl E.g0) fun a E => n_ (t_ (s_ (r_ (ep E rfl (m_ rfl E.g4) fun a E => ep E rfl (m_ rfl E.g1) fun a E => ep (v := .int .i64 (f + (i : Int))) E rfl (run_iadd Tryz.underlying3 E.g1 E.g0 (by omega) (by omega) rfl) fun a E => ep (v := .int .i64 ((f + (i : Int)) % 7)) E rfl (run_irem E.g0 rfl (by omega) (by omega) (by omega) (by omega) rfl) fun a E => ep (v := .int .i64 (((f + (i : Int)) % 7) * 1440)) E rfl (run_imul Tryz.underlying3 E.g0 rfl (by omega) (by omega) rfl) fun a E => ep E rfl (a_ rfl E.g0) fun a E => n_ (t_ (r_ (ep E rfl (m_ rfl E.g9) fun a E => ep E rfl (m_ rfl E.g1) fun a E => ep E rfl (m_ rfl E.g14) fun a E => ep (v := .int .i64 ((((f + (i : Int)) % 7) * 1440) + m111)) E rfl (run_iadd Tryz.underlying3 E.g1 E.g0 (by omega) (by omega) rfl) fun a E => ep E rfl (m_ rfl E.g4) fun a E => ep E rfl (m_ rfl E.g18) fun a E => ep (v := .int .i64 ((((f + (i : Int)) % 7) * 1440) + m114)) E rfl (run_iadd Tryz.underlying3 E.g1 E.g0 (by omega) (by omega) rfl) fun a E => env_callv (d := 87) (R := fun u w8 => u = .tuple #[] ∧ RdO w8 rb G B en l114 ((ss ++ acc ++ dayP f m111 m114 i) ++ addL ((((f + (i : Int)) % 7) * 1440) + m111) ((((f + (i : Int)) % 7) * 1440) + m114)) ∧ Fr (fun r => r = rb ∨ B ≤ r) w2 w8) E rfl (by decide) rfl (wanted_none rfl _) (run_call3 (enters_of Tryz.func57 (by kernel_rfl) rfl) rfl rfl E.g6 E.g3 E.g0) ((add_calls ⟨hrB, hBs, _, hR, hO⟩ (by omega) (by omega) (by have := dayP_len f m111 m114 i; simp only [List.length_append]; omega)).mono fun e w8 h => by obtain ⟨rfl, h⟩ := h; exact ⟨_, rfl, rfl, h⟩) fun a w1 u ⟨hu, hRO, f1⟩ E => ?_))))))))))))))
     subst hu
     have hf := hf.trans f1
     clear hR hO hBs f1
     obtain ⟨_, hBs, sv125, hR, hO⟩ := hRO
     refine n_ (b_ (t_ (r_ (ep (v := .int .i64 ((i : Int) + 1)) E rfl (run_iadd Tryz.underlying3 E.g23 rfl (by omega) (by omega) rfl) fun a E => es_ E rfl (m_ rfl E.g0) fun a E => n_ (t_ ?_)))))
     refine ⟨⟨i + 1, sv125, E.of ⟨E.g19, E.g20, E.g21, E.g22, E.g23, E.g24, E.g0, trivial⟩, hlt, hR, by rw [dayP_succ, tm7 hf0.1, ← List.append_assoc]; exact hO, hf, hBs⟩, ?_⟩
     rw [E.g0]; simp only [intOf]; omega
   | true =>
    rw [hq116] at E
    refine c_t E.g0 (r_ (ep E rfl (m_ rfl E.g9) fun a E => ep (v := .int .i64 (m114 + 1440)) E rfl (run_iadd Tryz.underlying3 E.g0 rfl (by omega) (by omega) rfl) fun a E => es_ E rfl (a_ rfl E.g0) fun a E => n_ (b_ (t_ (s_ (s_ (r_ (ep E rfl (m_ rfl E.g31) fun a E => ep E rfl (m_ rfl E.g31) fun a E => ep (v := .int .i64 (t - f)) E rfl (run_isub Tryz.underlying3 E.g1 E.g0 (by omega) (by omega) rfl) fun a E => ep (v := .int .i64 ((t - f) + 7)) E rfl (run_iadd Tryz.underlying3 E.g0 rfl (by omega) (by omega) rfl) fun a E => ep (v := .int .i64 (((t - f) + 7) % 7)) E rfl (run_irem E.g0 rfl (by omega) (by omega) (by omega) (by omega) rfl) fun a E => ep (v := .int .i64 ((((t - f) + 7) % 7) + 1)) E rfl (run_iadd Tryz.underlying3 E.g0 rfl (by omega) (by omega) rfl) fun a E => ep (v := .int .i64 0) E rfl (m_ rfl rfl) fun a E => n_ (t_ (bk_ ?_))))))))))
    obtain ⟨n, hn⟩ : ∃ n : Nat, n = ((t - f + 7) % 7 + 1).toNat := ⟨_, rfl⟩
    have hnn : (t - f + 7) % 7 + 1 = (n : Int) := by omega
    have hn7 : n ≤ 7 := by omega
    rw [hnn] at E
    refine wp_loop (fun a w2 => ∃ (i : Nat) (sv2 : Value), Env 119 [(0, .pointer (some ⟨rb, 0, none⟩)), (3, .int .i64 f), (4, .int .i64 t), (5, .int .i64 m111), (7, .int .i64 (m114 + 1440)), (71, .int .i64 (n : Int)), (72, .int .i64 (i : Int))] a ∧ i ≤ n ∧ Rd w2 rb G en l114 sv2 ∧ oSp w2 B sv2 (ss ++ acc ++ dayP f m111 (m114 + 1440) i) ∧ Fr (fun r => r = rb ∨ B ≤ r) w w2 ∧ B ≤ w2.heap.size) (fun a _ => n - (intOf (a.eval (.tmp 72))).toNat) ?_ ?_
    ·exact ⟨0, _, E.of ⟨E.g36, E.g37, E.g38, E.g30, E.g7, E.g1, E.g0, trivial⟩, Nat.zero_le _, hR, by rw [show dayP f m111 (m114 + 1440) 0 = [] from rfl, List.append_nil]; exact hO, hf, hBs⟩
    clear E
    rintro a w2 ⟨i, sv2, E, hi, hR, hO, hf, hBs⟩
    have hmu : n - (intOf (a.eval (.tmp 72))).toNat = n - i := by rw [E.g6]; first | rfl | (simp [intOf]; done) | (simp only [intOf]; omega)
    rw [hmu]
    clear hmu
    refine s_ (r_ (ep (v := .bool (decide ((i : Int) < (n : Int)))) E rfl (run_ilss E.g6 E.g5 Tryz.underlying3 rfl) fun a E => n_ (t_ (s_ ?_))))
    cases hq127 : (decide ((i : Int) < (n : Int))) with
    | false =>
     rw [hq127] at E
     have hie : i = n := by have := of_decide_eq_false hq127; omega
     refine c_f E.g0 (x_ (te_ (te_ (be_ (t_ (s_ (s_ ?_)))))))
     have hti : time en f t l = .ok ((dayP f m111 (m114 + 1440) n), l114) := by
      unfold time
      rw [hck111]
      simp only
      rw [htk113]
      simp only
      rw [hck114]
      simp only
      rw [if_neg (by rw [hq115]; simp), if_pos (of_decide_eq_true hq116), day_n hf0.1 hf0.2 ht0.1 ht0.2, hnn]
      rfl
     rw [hie] at hO
     have hR9 := hR
     obtain ⟨hGr, lv, hrb, pl, cl, hlv, hlv0, hlv1, hts, hzl⟩ := hR9
     subst hlv
     have hO : oSp w2 B sv2 (ss ++ acc ++ (dayP f m111 (m114 + 1440) n)) := hO
     refine r_ (ep E rfl (m_ rfl E.g1) fun a E => ep E rfl (i_ rfl E.g0) fun a E => ep (v := .pointer (some ⟨rb, 0, none⟩)) E rfl (fa59_0 rfl E.g0) fun a E => env_one70 (d := 92) E rfl (by decide) rfl (wanted_none rfl _) rfl rfl fun a w1 b128 eb128 hbb128 f1 E => ?_)
     have hR := Rd.fr hR f1 (fun r hr => id)
     have hO := ow.fr hO f1 (fun _ _ h => h)
     have hBs := Nat.le_trans hBs f1.size
     have hrb := f1.obj hrb id
     have hts := srcAt.fr hts f1 (fun r hr => id)
     have hf := hf.trans' f1 (fun _ _ h => h.elim)
     clear f1
     have hsb128 := src_one (f := stL) (c := 1) (G := w1.heap.size) hbb128 (lt_of_blk hbb128)
     clear hbb128 eb128
     refine ec_ (v := .bool (sees 4 [cComma] l114)) E rfl (run_call3 (enters_of Tryz.func55 (by kernel_rfl) rfl) rfl rfl E.g1 rfl E.g0) (sees_calls (xs := [cComma]) hR ⟨_, 1, rfl, Nat.le_refl _, by omega, hsb128, fun h => by cases h⟩ 4) fun a w1 f1 E => ?_
     have hR := Rd.fr hR f1 (fun r hr => id)
     have hO := ow.fr hO f1 (fun _ _ h => h)
     have hBs := Nat.le_trans hBs f1.size
     have hrb := f1.obj hrb id
     have hts := srcAt.fr hts f1 (fun r hr => id)
     have hf := hf.trans' f1 (fun _ _ h => h.elim)
     clear f1
     refine ep (v := .bool (!(sees 4 [cComma] l114))) E rfl (run_not rfl E.g0) fun a E => ep E rfl (m_ rfl E.g0) fun a E => ?_
     cases hq129 : (sees 4 [cComma] l114) with
     | false =>
      rw [hq129] at E
      refine ek E rfl rfl E.g0 fun a E => ek E rfl rfl E.g1 fun a E => ek E rfl rfl E.g2 fun a E => ek E rfl rfl E.g3 fun a E => ek E rfl rfl E.g4 fun a E => ek E rfl rfl E.g5 fun a E => ek E rfl rfl E.g6 fun a E => ep (v := .bool true) E rfl (run_pick_t rfl E.g7 rfl) fun a E => ep E rfl (m_ rfl E.g0) fun a E => ek E rfl rfl E.g0 fun a E => ek E rfl rfl E.g1 fun a E => ek E rfl rfl E.g2 fun a E => ek E rfl rfl E.g3 fun a E => ek E rfl rfl E.g4 fun a E => ek E rfl rfl E.g5 fun a E => ek E rfl rfl E.g6 fun a E => ek E rfl rfl E.g7 fun a E => ek E rfl rfl E.g8 fun a E => ep (v := .bool true) E rfl (run_pick_t rfl E.g9 rfl) fun a E => n_ (t_ (c_t E.g0 (wr_ (tr_ (br_ (tr_ (br_ ((ret_nil rfl E ⟨hf, ?_⟩).2))))))))
      rw [hP, timesT_end hti (more_see hq129)]
      exact ⟨rfl, hrB, hBs, _, hR, by rw [← List.append_assoc]; exact hO⟩
     | true =>
      rw [hq129] at E
      refine eg E rfl (wy_ E E.g0) (m_ rfl E.g8) fun a E => eg E rfl (wy_ E E.g1) (i_ rfl E.g0) fun a E => eg (v := .pointer (some ⟨rb, 0, none⟩)) E rfl (wy_ E E.g2) (fa59_0 rfl E.g0) fun a E => eg (v := .pointer (some ⟨rb, 0, none⟩)) E rfl (wy_ E E.g3) (fa57_0 rfl E.g0) fun a E => eg (v := .slice (pl) l114.length cl) E rfl (wy_ E E.g4) (run_ld34 rfl E.g0 (bx hrb 0 rfl)) fun a E => eg (v := .int .i64 (l114.length : Int)) E rfl (wy_ E E.g5) (run_len34 rfl E.g0) fun a E => eg (v := .bool (decide ((l114.length : Int) < 2))) E rfl (wy_ E E.g6) (run_ilss E.g0 rfl Tryz.underlying3 rfl) fun a E => ep (v := .bool (decide ((l114.length : Int) < 2))) E rfl (run_pick_f rfl E.g7 E.g0) fun a E => ep E rfl (m_ rfl E.g0) fun a E => ?_
      cases hq130 : (decide ((l114.length : Int) < 2)) with
      | false =>
       rw [hq130] at E
       have h1l : 1 < l114.length := by have := of_decide_eq_false hq130; omega
       obtain ⟨u, hu⟩ : ∃ y, l114[1]? = some y := ⟨_, List.getElem?_eq_getElem h1l⟩
       obtain ⟨g131, off131, hpe131, hgl131, hrow131⟩ := hts.at h1l
       replace hrow131 := hrow131 1 u hu
       refine eg E rfl (wy_ E E.g0) (m_ rfl E.g17) fun a E => eg E rfl (wy_ E E.g1) (i_ rfl E.g0) fun a E => eg (v := .pointer (some ⟨rb, 0, none⟩)) E rfl (wy_ E E.g2) (fa59_0 rfl E.g0) fun a E => eg (v := .pointer (some ⟨rb, 0, none⟩)) E rfl (wy_ E E.g3) (fa57_0 rfl E.g0) fun a E => eg (v := .slice (pl) l114.length cl) E rfl (wy_ E E.g4) (run_ld34 rfl E.g0 (bx hrb 0 rfl)) fun a E => eg (v := .pointer (some ⟨g131, (off131 + 1 * 3), none⟩)) E rfl (wy_ E E.g5) (run_index34 (i := 1) rfl (E.g0.trans (by rw [hpe131])) rfl h1l) fun a E => eg (v := .pointer (some ⟨g131, ((off131 + 1 * 3) + 0), none⟩)) E rfl (wy_ E E.g6) (fa38_0 rfl E.g0) fun a E => eg (v := .int .i64 u.1) E rfl (wy_ E E.g7) (run_ldi rfl E.g0 (hrow131 0 _ rfl)) fun a E => eg (v := .bool (u.1 != 2)) E rfl (wy_ E E.g8) (run_ineq E.g0 rfl Tryz.underlying3 rfl) fun a E => ep (v := .bool (u.1 != 2)) E rfl (run_pick_f rfl E.g9 E.g0) fun a E => n_ (t_ ?_)
       cases hq132 : (u.1 != 2) with
       | false =>
        rw [hq132] at E
        refine c_f E.g0 (k_ (t_ ?_))
        have hmo : more l114 = true := by rw [more_at hu, hq129]; have h9 := hq132; simp only [bne_eq_false_iff_eq] at h9; rw [h9]; rfl
        refine r_ (ep E rfl (m_ rfl E.g27) fun a E => ep E rfl (i_ rfl E.g0) fun a E => ep (v := .pointer (some ⟨rb, 0, none⟩)) E rfl (fa59_0 rfl E.g0) fun a E => ?_)
        rcases htk133 : take en 4 [] l114 with ⟨c133, x133⟩ | ⟨t133, l133⟩
        ·skip
         refine env_callp (ch := pn c133 x133) (R := fun w8 => Fr (fun r => r = rb) w1 w8) (wanted_none rfl _) (run_call3 (enters_of Tryz.func56 (by kernel_rfl) rfl) rfl rfl E.g0 rfl rfl) ((take_calls (xs := []) hR (Src.nil _) 4).mono fun e w8 h => by unfold StepP at h; rw [htk133] at h; exact ⟨h.2, h.1⟩) fun w1 f1 => ?_
         have hf := hf.trans' f1 (fun r hr e => by (try simp only at e); first | exact e | exact .inl e)
         obtain ⟨t9, l9, h9, _⟩ := take_any (en := en) hq129
         rw [h9] at htk133
         cases htk133
        refine env_callv (d := 118) (R := fun u w8 => u = .agg (tkA t133) ∧ Rd w8 rb G en l133 sv2 ∧ Fr (fun r => r = rb) w1 w8) E rfl (by decide) rfl (wanted_none rfl _) (run_call3 (enters_of Tryz.func56 (by kernel_rfl) rfl) rfl rfl E.g0 rfl rfl) ((take_calls (xs := []) hR (Src.nil _) 4).mono fun e w8 h => by unfold StepP at h; rw [htk133] at h; exact ⟨_, h.2.1, rfl, h.2.2, h.1⟩) fun a w1 u ⟨hu, hR2, f1⟩ E => ?_
        subst hu
        have hO := ow.fr hO f1 (fun k hk e => by have := (hO.lt hk).1; (try simp only at e); omega)
        have hBs := Nat.le_trans hBs f1.size
        have hf := hf.trans' f1 (fun _ hr => nq_)
        clear f1
        have hR := hR2
        clear hR2
        obtain ⟨hto133, hkd133, hk⟩ := take_tk hk htk133
        have hin133 := (take_ok htk133).2.2
        have htl133 : l114 = t133 :: l133 := (take_ok htk133).1
        refine n_ (b_ (t_ ?_))
        have hPn : part en ts = pre (acc ++ (dayP f m111 (m114 + 1440) n)) (timesT en f t l133) := by rw [hP, timesT_more hti hmo, htl133]; rfl
        have hl9 := time_ok hti
        have hl8 : l114.length = l133.length + 1 := by rw [htl133]; rfl
        refine ⟨⟨l133, acc ++ (dayP f m111 (m114 + 1440) n), sv2, E.of ⟨E.g31, E.g32, E.g33, trivial⟩, hR, by rw [← List.append_assoc]; exact hO, hk, hPn, hf, hBs, by have := dayP_len f m111 (m114 + 1440) n; simp only [List.length_append]; omega⟩, by have := hR.len; show rdLen _ rb < rdLen _ rb; omega⟩
       | true =>
        rw [hq132] at E
        refine c_t E.g0 (wr_ (tr_ (br_ (tr_ (br_ ((ret_nil rfl E ⟨hf, ?_⟩).2))))))
        rw [hP, timesT_end hti ((by rw [more_at hu]; have h9 := hq132; simp only [bne_iff_ne, ne_eq] at h9; rw [beq_eq_false_iff_ne.2 h9, Bool.and_false]))]
        exact ⟨rfl, hrB, hBs, _, hR, by rw [← List.append_assoc]; exact hO⟩
      | true =>
       rw [hq130] at E
       refine ek E rfl rfl E.g0 fun a E => ek E rfl rfl E.g1 fun a E => ek E rfl rfl E.g2 fun a E => ek E rfl rfl E.g3 fun a E => ek E rfl rfl E.g4 fun a E => ek E rfl rfl E.g5 fun a E => ek E rfl rfl E.g6 fun a E => ek E rfl rfl E.g7 fun a E => ek E rfl rfl E.g8 fun a E => ep (v := .bool true) E rfl (run_pick_t rfl E.g9 rfl) fun a E => n_ (t_ (c_t E.g0 (wr_ (tr_ (br_ (tr_ (br_ ((ret_nil rfl E ⟨hf, ?_⟩).2))))))))
       rw [hP, timesT_end hti (more_short (by have := of_decide_eq_true hq130; omega))]
       exact ⟨rfl, hrB, hBs, _, hR, by rw [← List.append_assoc]; exact hO⟩
    | true =>
     rw [hq127] at E
     have hlt : i < n := by have := of_decide_eq_true hq127; omega
     refine c_t E.g0 (k_ (t_ (s_ (bk_ (s_ (r_ (ep E rfl (m_ rfl E.g7) fun a E => ep E rfl (a_ rfl E.g0) fun a E => n_ (t_ (s_ (r_ (ep E rfl (m_ rfl E.g4) fun a E => ep E rfl (m_ rfl E.g1) fun a E => ep (v := .int .i64 (f + (i : Int))) E rfl (run_iadd Tryz.underlying3 E.g1 E.g0 (by omega) (by omega) rfl) fun a E => ep (v := .int .i64 ((f + (i : Int)) % 7)) E rfl (run_irem E.g0 rfl (by omega) (by omega) (by omega) (by omega) rfl) fun a E => ep (v := .int .i64 (((f + (i : Int)) % 7) * 1440)) E rfl (run_imul Tryz.underlying3 E.g0 rfl (by omega) (by omega) rfl) fun a E => ep E rfl (a_ rfl E.g0) fun a E => n_ (t_ (r_ (ep E rfl (m_ rfl E.g9) fun a E => ep E rfl (m_ rfl E.g1) fun a E => ep E rfl (m_ rfl E.g14) fun a E => ep (v := .int .i64 ((((f + (i : Int)) % 7) * 1440) + m111)) E rfl (run_iadd Tryz.underlying3 E.g1 E.g0 (by omega) (by omega) rfl) fun a E => ep E rfl (m_ rfl E.g4) fun a E => ep E rfl (m_ rfl E.g18) fun a E => ep (v := .int .i64 ((((f + (i : Int)) % 7) * 1440) + (m114 + 1440))) E rfl (run_iadd Tryz.underlying3 E.g1 E.g0 (by omega) (by omega) rfl) fun a E => env_callv (d := 87) (R := fun u w8 => u = .tuple #[] ∧ RdO w8 rb G B en l114 ((ss ++ acc ++ dayP f m111 (m114 + 1440) i) ++ addL ((((f + (i : Int)) % 7) * 1440) + m111) ((((f + (i : Int)) % 7) * 1440) + (m114 + 1440))) ∧ Fr (fun r => r = rb ∨ B ≤ r) w2 w8) E rfl (by decide) rfl (wanted_none rfl _) (run_call3 (enters_of Tryz.func57 (by kernel_rfl) rfl) rfl rfl E.g6 E.g3 E.g0) ((add_calls ⟨hrB, hBs, _, hR, hO⟩ (by omega) (by omega) (by have := dayP_len f m111 (m114 + 1440) i; simp only [List.length_append]; omega)).mono fun e w8 h => by obtain ⟨rfl, h⟩ := h; exact ⟨_, rfl, rfl, h⟩) fun a w1 u ⟨hu, hRO, f1⟩ E => ?_))))))))))))))
     subst hu
     have hf := hf.trans f1
     clear hR hO hBs f1
     obtain ⟨_, hBs, sv134, hR, hO⟩ := hRO
     refine n_ (b_ (t_ (r_ (ep (v := .int .i64 ((i : Int) + 1)) E rfl (run_iadd Tryz.underlying3 E.g23 rfl (by omega) (by omega) rfl) fun a E => es_ E rfl (m_ rfl E.g0) fun a E => n_ (t_ ?_)))))
     refine ⟨⟨i + 1, sv134, E.of ⟨E.g19, E.g20, E.g21, E.g22, E.g23, E.g24, E.g0, trivial⟩, hlt, hR, by rw [dayP_succ, tm7 hf0.1, ← List.append_assoc]; exact hO, hf, hBs⟩, ?_⟩
     rw [E.g0]; simp only [intOf]; omega
  | true =>
   rw [hq115] at E
   refine c_t E.g0 (r_ (ep E rfl (m_ rfl E.g4) fun a E => ep (v := .agg #[.int .i64 10, .int .i64 y114]) E rfl (run_of54 rfl rfl E.g0) fun a E => ep (v := prob 10 y114) E rfl (run_mkif54 rfl E.g0) fun a E => env_panic (wanted_none rfl _) (run_panic rfl E.g0) (blk_p (then_p (blk_p (then_p (blk_p (pan_end E ⟨hf, ?_⟩))))))))
   rw [hP, timesT_err (by
    unfold time
    rw [hck111]
    try simp only
    rw [htk113]
    try simp only
    rw [hck114]
    try simp only
    rw [if_pos hq115]
    )]
   rfl
end Go.Proofs.YtjaffpnegdcjnaaGreatDoor
/- The reader: a text. -/
set_option linter.unusedVariables false
set_option linter.unusedSimpArgs false
namespace Go.Proofs.YtjaffpnegdcjnaaGreatDoor
open Go.RowKit Go.Pl
section
variable {α : Type} {en : α}
def partsT (en : α) (l : List (Tok α)) : Res α (List Sp × List (Tok α)) := parts en (l.length + 1) l
def cont (en : α) (acc : List Sp) (l : List (Tok α)) : Res α (List Sp × List (Tok α)) := if sees 4 [cComma] l = true then pre acc (partsT en (l.drop 1)) else .ok (acc, l)
theorem partsT_err {l : List (Tok α)} {e : Int × α} (h : part en l = .error e) : partsT en l = .error e := by
 unfold partsT parts; rw [h]
theorem partsT_ok {l l2 : List (Tok α)} {s : List Sp} (h : part en l = .ok (s, l2)) : partsT en l = cont en s l2 := by
 have hl := part_len h
 unfold partsT parts cont
 rw [h]
 simp only
 split
 ·rename_i hs
  have hne : l2 ≠ [] := by rintro rfl; cases hs
  have hl2 : 0 < l2.length := List.length_pos_iff.2 hne
  unfold partsT
  rw [parts_fuel l.length ((l2.drop 1).length + 1) (l2.drop 1) (by simp; omega) (by simp)]
  cases parts en ((l2.drop 1).length + 1) (l2.drop 1) <;> rfl
 ·rfl
theorem cont_err {acc : List Sp} {l : List (Tok α)} {e : Int × α} (hs : sees 4 [cComma] l = true) (h : part en (l.drop 1) = .error e) : cont en acc l = .error e := by
 unfold cont; rw [if_pos hs, partsT_err h]; rfl
theorem cont_ok {acc s : List Sp} {l l2 : List (Tok α)} (hs : sees 4 [cComma] l = true) (h : part en (l.drop 1) = .ok (s, l2)) : cont en acc l = cont en (acc ++ s) l2 := by
 unfold cont
 rw [if_pos hs, partsT_ok h]
 unfold cont
 split
 ·cases partsT en (l2.drop 1) with
  | error e => rfl
  | ok r => simp [pre, List.append_assoc]
 ·rfl
theorem cont_end {acc : List Sp} {l : List (Tok α)} (hs : sees 4 [cComma] l = false) : cont en acc l = .ok (acc, l) := by
 unfold cont; rw [if_neg (by rw [hs]; simp)]
/-- All is read, or something is left. -/
def finS : Res α (List Sp × List (Tok α)) → Res α (List Sp × List (Tok α))
 | .error e => .error e
 | .ok (s, []) => .ok (s, [])
 | .ok (_, t :: _) => .error (5, t.2.2)
def textS (en : α) (ts : List (Tok α)) : Res α (List Sp × List (Tok α)) := finS (textQ en ts)
theorem textP_S (ts : List (Tok α)) : textP en ts = match textS en ts with | .error e => .error e | .ok (s, _) => .ok s := by
 unfold textP textS
 cases textQ en ts with
 | error e => rfl
 | ok r =>
  obtain ⟨s, l⟩ := r
  cases l <;> rfl
theorem textQ_parts {ts : List (Tok α)} (h1 : sees 1 [always] ts = false) (h2 : sees 1 [never] ts = false) : textQ en ts = partsT en ts := by
 unfold textQ; rw [h1, h2]; simp [partsT]
end
theorem dayL_len {f n a b : Int} (h : n ≤ 7) : (dayL f n a b).length ≤ 14 := by
 have h6 := dayP_len f a b n.toNat
 have h7 : dayL f n a b = dayP f a b n.toNat := rfl
 rw [h7]; omega
theorem part_cnt {en : Int} {ts l : List (Tok Int)} {s : List Sp} (hk : Tk ts) (h : part en ts = .ok (s, l)) : s.length + 14 * l.length ≤ 14 * ts.length ∧ l.length < ts.length := by
 have ht : ∀ {f t : Int} {ts l : List (Tok Int)} {s : List Sp}, 0 ≤ f → f < 7 → 0 ≤ t → t < 7 → time en f t ts = .ok (s, l) → s.length + 14 * l.length ≤ 14 * ts.length := by
  intro f t ts l s h1 h2 h3 h4 h
  have hl := time_ok h
  have : s.length ≤ 14 := by
   unfold time at h
   split at h
   ·cases h
   ·split at h
    ·cases h
    ·split at h
     ·cases h
     ·split at h
      ·cases h
      ·cases h
       exact dayL_len (by rw [day_n h1 h2 h3 h4]; omega)
  omega
 have hts : ∀ {f t : Int}, 0 ≤ f → f < 7 → 0 ≤ t → t < 7 → ∀ (n : Nat) {ts l : List (Tok Int)} {s : List Sp}, times en f t n ts = .ok (s, l) → s.length + 14 * l.length ≤ 14 * ts.length := by
  intro f t h1 h2 h3 h4 n
  induction n with
  | zero => intro ts l s h; cases h
  | succ n ih =>
   intro ts l s h
   unfold times at h
   split at h
   ·cases h
   ·rename_i s1 ts1 he
    have := ht h1 h2 h3 h4 he
    split at h
    ·split at h
     ·cases h
     ·rename_i s2 ts2 he2
      have h5 := ih he2
      cases h
      simp only [List.length_append, List.length_drop] at h5 ⊢
      omega
    ·cases h; exact this
 refine ⟨?_, part_len h⟩
 unfold part at h
 split at h
 ·cases h
 ·rename_i a b ts1 he
  obtain ⟨h1, h2, h3, h4, _⟩ := dys_tk hk he
  have := dys_len he
  have := hts h1 h2 h3 h4 _ h
  omega
theorem Tb.lt {w : World} (h : Tb w) : 4 ≤ w.heap.size := by
 have h1 := h.1
 unfold Lib.TabIs World.var? at h1
 have hg : Tryz.prog.globalNamed "internal/strconv.uint64pow10" = some 3 := by kernel_rfl
 rw [hg] at h1
 simp only [Option.bind_some] at h1
 cases hb : w.heap[3]? with
 | none => rw [hb] at h1; cases h1
 | some ob => exact lt_of_blk hb
set_option maxRecDepth 100000 in
set_option maxHeartbeats 4000000 in
theorem text_calls {w : World} {rb G B : Nat} {en : Int} {ts : List (Tok Int)} (hRO : RdO w rb G B en ts []) (hk : Tk ts) (hT : Tb w) (hr4 : 4 ≤ rb) (hl : 14 * ts.length ≤ 900000) : Calls Tryz.prog 33 #[.pointer (some ⟨rb, 0, none⟩)] w (StepO w rb G B en [] (textS en ts)) := by
 refine wp_start1 Tryz.func33 rfl rfl (n := 54) (by decide) fun a E => ?_
 have hRO0 := hRO
 obtain ⟨hrB, hBs, sv, hR, hO⟩ := hRO
 have hf : Fr (fun r => r = rb ∨ B ≤ r) w w := Fr.refl _ _
 have hrl := hR.lt
 refine s_ (bk_ (s_ (r_ (ep E rfl (m_ rfl E.g0) fun a E => ep E rfl (i_ rfl E.g0) fun a E => ep (v := .pointer (some ⟨rb, 0, none⟩)) E rfl (fa59_0 rfl E.g0) fun a E => env_one70 (d := 19) E rfl (by decide) rfl (wanted_none rfl _) rfl rfl fun a w1 b82 eb82 hbb82 f1 E => ?_))))
 have hR := Rd.fr hR f1 (fun r hr => id)
 have hO := ow.fr hO f1 (fun _ _ h => h)
 have hBs := Nat.le_trans hBs f1.size
 have hT := hT.fr f1 (fun r hr => id)
 have hf := hf.trans' f1 (fun _ _ h => h.elim)
 clear f1
 have hsb82 := src_one (f := stL) (c := 1) (G := w1.heap.size) hbb82 (lt_of_blk hbb82)
 clear hbb82 eb82
 refine ec_ (v := .bool (sees 1 [always] ts)) E rfl (run_call3 (enters_of Tryz.func55 (by kernel_rfl) rfl) rfl rfl E.g1 rfl E.g0) (sees_calls (xs := [always]) hR ⟨_, 1, rfl, Nat.le_refl _, by omega, hsb82, fun h => by cases h⟩ 1) fun a w1 f1 E => ?_
 have hR := Rd.fr hR f1 (fun r hr => id)
 have hO := ow.fr hO f1 (fun _ _ h => h)
 have hBs := Nat.le_trans hBs f1.size
 have hT := hT.fr f1 (fun r hr => id)
 have hf := hf.trans' f1 (fun _ _ h => h.elim)
 clear f1
 refine ep E rfl (a_ rfl E.g0) fun a E => n_ (t_ ?_)
 cases hq83 : (sees 1 [always] ts) with
 | false =>
  rw [hq83] at E
  refine c_f E.g0 (s_ (r_ (ep E rfl (m_ rfl E.g6) fun a E => ep E rfl (i_ rfl E.g0) fun a E => ep (v := .pointer (some ⟨rb, 0, none⟩)) E rfl (fa59_0 rfl E.g0) fun a E => env_one70 (d := 31) E rfl (by decide) rfl (wanted_none rfl _) rfl rfl fun a w1 b84 eb84 hbb84 f1 E => ?_)))
  have hR := Rd.fr hR f1 (fun r hr => id)
  have hO := ow.fr hO f1 (fun _ _ h => h)
  have hBs := Nat.le_trans hBs f1.size
  have hT := hT.fr f1 (fun r hr => id)
  have hf := hf.trans' f1 (fun _ _ h => h.elim)
  clear f1
  have hsb84 := src_one (f := stL) (c := 1) (G := w1.heap.size) hbb84 (lt_of_blk hbb84)
  clear hbb84 eb84
  refine ec_ (v := .bool (sees 1 [never] ts)) E rfl (run_call3 (enters_of Tryz.func55 (by kernel_rfl) rfl) rfl rfl E.g1 rfl E.g0) (sees_calls (xs := [never]) hR ⟨_, 1, rfl, Nat.le_refl _, by omega, hsb84, fun h => by cases h⟩ 1) fun a w1 f1 E => ?_
  have hR := Rd.fr hR f1 (fun r hr => id)
  have hO := ow.fr hO f1 (fun _ _ h => h)
  have hBs := Nat.le_trans hBs f1.size
  have hT := hT.fr f1 (fun r hr => id)
  have hf := hf.trans' f1 (fun _ _ h => h.elim)
  clear f1
  refine ep E rfl (a_ rfl E.g0) fun a E => n_ (t_ ?_)
  cases hq85 : (sees 1 [never] ts) with
  | false =>
   rw [hq85] at E
   refine c_f E.g0 (s_ (r_ (ep E rfl (m_ rfl E.g12) fun a E => ?_)))
   rcases hpt86 : part en ts with ⟨c86, x86⟩ | ⟨s86, l86⟩
   ·skip
    refine env_callp (ch := pn c86 x86) (R := fun w8 => Fr (fun r => r = rb ∨ B ≤ r) w1 w8) (wanted_none rfl _) (run_call1 (enters_of Tryz.func58 (by kernel_rfl) rfl) rfl rfl E.g0) ((part_calls (ss := []) ⟨hrB, hBs, _, hR, hO⟩ hk hT (by simp only [List.length_nil]; omega)).mono fun e w8 h => by unfold StepO at h; rw [hpt86] at h; exact ⟨h.2, h.1⟩) fun w1 f1 => ?_
    have hf := hf.trans f1
    refine then_p (blk_p (then_p (pan_end E ⟨hf, ?_⟩)))
    unfold textS
    rw [textQ_parts hq83 hq85, partsT_err hpt86]
    rfl
   refine env_callv (d := 3) (R := fun u w8 => u = .tuple #[] ∧ RdO w8 rb G B en l86 ([] ++ s86) ∧ Fr (fun r => r = rb ∨ B ≤ r) w1 w8) E rfl (by decide) rfl (wanted_none rfl _) (run_call1 (enters_of Tryz.func58 (by kernel_rfl) rfl) rfl rfl E.g0) ((part_calls (ss := []) ⟨hrB, hBs, _, hR, hO⟩ hk hT (by simp only [List.length_nil]; omega)).mono fun e w8 h => by unfold StepO at h; rw [hpt86] at h; exact ⟨_, h.2.1, rfl, h.2.2, h.1⟩) fun a w1 u ⟨hu, hRO, f1⟩ E => ?_
   subst hu
   have hf := hf.trans f1
   have hT := hT.fr f1 (fun r hr e => by omega)
   clear hR hO hBs f1
   obtain ⟨_, hBs, sv86, hR, hO⟩ := hRO
   have hpc86 := part_cnt hk hpt86
   have hk := (part_wk hk hpt86).2
   refine n_ (t_ (bk_ ?_))
   have hQ : textQ en ts = cont en ([] ++ s86) l86 := by rw [textQ_parts hq83 hq85, partsT_ok hpt86, List.nil_append]
   refine wp_loop (fun a w2 => ∃ (l : List (Tok Int)) (acc : List Sp) (sv : Value), Env 54 [(0, .pointer (some ⟨rb, 0, none⟩))] a ∧ Rd w2 rb G en l sv ∧ oSp w2 B sv acc ∧ Tk l ∧ textQ en ts = cont en acc l ∧ Fr (fun r => r = rb ∨ B ≤ r) w w2 ∧ B ≤ w2.heap.size ∧ acc.length + 14 * l.length ≤ 14 * ts.length ∧ Tb w2) (fun _ w2 => rdLen w2 rb) ?_ ?_
   ·exact ⟨l86, ([] ++ s86), _, E.of ⟨E.g14, trivial⟩, hR, hO, hk, hQ, hf, hBs, by simp only [List.nil_append]; omega, hT⟩
   clear E hR hO hk hQ hf hBs hT
   rintro a w2 ⟨l, acc, sv, E, hR, hO, hk, hQ, hf, hBs, hal, hT⟩
   have hlen2 := hR.len
   refine s_ (s_ (r_ (ep E rfl (m_ rfl E.g0) fun a E => ep E rfl (i_ rfl E.g0) fun a E => ep (v := .pointer (some ⟨rb, 0, none⟩)) E rfl (fa59_0 rfl E.g0) fun a E => env_one70 (d := 7) E rfl (by decide) rfl (wanted_none rfl _) rfl rfl fun a w1 b87 eb87 hbb87 f1 E => ?_)))
   have hR := Rd.fr hR f1 (fun r hr => id)
   have hO := ow.fr hO f1 (fun _ _ h => h)
   have hBs := Nat.le_trans hBs f1.size
   have hT := hT.fr f1 (fun r hr => id)
   have hf := hf.trans' f1 (fun _ _ h => h.elim)
   clear f1
   have hsb87 := src_one (f := stL) (c := 1) (G := w1.heap.size) hbb87 (lt_of_blk hbb87)
   clear hbb87 eb87
   refine ec_ (v := .bool (sees 4 [cComma] l)) E rfl (run_call3 (enters_of Tryz.func55 (by kernel_rfl) rfl) rfl rfl E.g1 rfl E.g0) (sees_calls (xs := [cComma]) hR ⟨_, 1, rfl, Nat.le_refl _, by omega, hsb87, fun h => by cases h⟩ 4) fun a w1 f1 E => ?_
   have hR := Rd.fr hR f1 (fun r hr => id)
   have hO := ow.fr hO f1 (fun _ _ h => h)
   have hBs := Nat.le_trans hBs f1.size
   have hT := hT.fr f1 (fun r hr => id)
   have hf := hf.trans' f1 (fun _ _ h => h.elim)
   clear f1
   refine n_ (t_ ?_)
   cases hq88 : (sees 4 [cComma] l) with
   | false =>
    rw [hq88] at E
    refine c_f E.g0 (x_ (te_ (te_ (be_ (b_ (t_ (s_ ?_)))))))
    have hQ9 : textQ en ts = .ok (acc, l) := by rw [hQ]; exact cont_end hq88
    have hR9 := hR
    obtain ⟨hGr, lv, hrb, pl, cl, hlv, hlv0, hlv1, hts, hzl⟩ := hR9
    subst hlv
    refine r_ (ep E rfl (m_ rfl E.g5) fun a E => ep E rfl (i_ rfl E.g0) fun a E => ep (v := .pointer (some ⟨rb, 0, none⟩)) E rfl (fa59_0 rfl E.g0) fun a E => ep (v := .pointer (some ⟨rb, 0, none⟩)) E rfl (fa57_0 rfl E.g0) fun a E => ep (v := .slice (pl) l.length cl) E rfl (run_ld34 rfl E.g0 (bx hrb 0 rfl)) fun a E => ep (v := .int .i64 (l.length : Int)) E rfl (run_len34 rfl E.g0) fun a E => ep (v := .bool (decide (0 < (l.length : Int)))) E rfl (run_igtr E.g0 rfl Tryz.underlying3 rfl) fun a E => n_ (t_ ?_))
    cases hq89 : (decide (0 < (l.length : Int))) with
    | false =>
     rw [hq89] at E
     have hnil : l = [] := List.eq_nil_of_length_eq_zero (by have := of_decide_eq_false hq89; omega)
     refine c_f E.g0 (k_ ((ret_nil rfl E ⟨hf, ?_⟩).1))
     unfold textS
     rw [hQ9, hnil]
     refine ⟨rfl, hrB, hBs, _, by rw [← hnil]; exact hR, by simpa using hO⟩
    | true =>
     rw [hq89] at E
     have hlt0 : 0 < l.length := by have := of_decide_eq_true hq89; omega
     obtain ⟨t, ht⟩ : ∃ y, l[0]? = some y := ⟨_, List.getElem?_eq_getElem hlt0⟩
     obtain ⟨g90, off90, hpe90, hgl90, hrow90⟩ := hts.at hlt0
     replace hrow90 := hrow90 0 t ht
     obtain ⟨t9, l9, hcons⟩ := List.exists_cons_of_ne_nil (List.ne_nil_of_length_pos hlt0)
     have ht9 : t = t9 := by rw [hcons] at ht; simpa using ht.symm
     subst ht9
     refine c_t E.g0 (r_ (ep E rfl (m_ rfl E.g12) fun a E => ep E rfl (i_ rfl E.g0) fun a E => ep (v := .pointer (some ⟨rb, 0, none⟩)) E rfl (fa59_0 rfl E.g0) fun a E => ep (v := .pointer (some ⟨rb, 0, none⟩)) E rfl (fa57_0 rfl E.g0) fun a E => ep (v := .slice (pl) l.length cl) E rfl (run_ld34 rfl E.g0 (bx hrb 0 rfl)) fun a E => ep (v := .pointer (some ⟨g90, (off90 + 0 * 3), none⟩)) E rfl (run_index34 (i := 0) rfl (E.g0.trans (by rw [hpe90])) rfl hlt0) fun a E => ep (v := .pointer (some ⟨g90, ((off90 + 0 * 3) + 2), none⟩)) E rfl (fa38_2 rfl E.g0) fun a E => ep (v := .int .i64 t.2.2) E rfl (run_ldi rfl E.g0 (hrow90 2 _ rfl)) fun a E => ep (v := .agg #[.int .i64 5, .int .i64 t.2.2]) E rfl (run_of54 rfl rfl E.g0) fun a E => ep (v := prob 5 t.2.2) E rfl (run_mkif54 rfl E.g0) fun a E => env_panic (wanted_none rfl _) (run_panic rfl E.g0) (pan_end E ⟨hf, ?_⟩)))
     unfold textS
     rw [hQ9, hcons]
     rfl
   | true =>
    rw [hq88] at E
    refine c_t E.g0 (k_ (t_ (bk_ (s_ (r_ (ep E rfl (m_ rfl E.g5) fun a E => ep E rfl (i_ rfl E.g0) fun a E => ep (v := .pointer (some ⟨rb, 0, none⟩)) E rfl (fa59_0 rfl E.g0) fun a E => ?_))))))
    rcases htk91 : take en 4 [] l with ⟨c91, x91⟩ | ⟨t91, l91⟩
    ·skip
     refine env_callp (ch := pn c91 x91) (R := fun w8 => Fr (fun r => r = rb) w1 w8) (wanted_none rfl _) (run_call3 (enters_of Tryz.func56 (by kernel_rfl) rfl) rfl rfl E.g0 rfl rfl) ((take_calls (xs := []) hR (Src.nil _) 4).mono fun e w8 h => by unfold StepP at h; rw [htk91] at h; exact ⟨h.2, h.1⟩) fun w1 f1 => ?_
     have hf := hf.trans' f1 (fun r hr e => by (try simp only at e); first | exact e | exact .inl e)
     obtain ⟨t9, l9, h9, _⟩ := take_any (en := en) hq88
     rw [h9] at htk91
     cases htk91
    refine env_callv (d := 12) (R := fun u w8 => u = .agg (tkA t91) ∧ Rd w8 rb G en l91 sv ∧ Fr (fun r => r = rb) w1 w8) E rfl (by decide) rfl (wanted_none rfl _) (run_call3 (enters_of Tryz.func56 (by kernel_rfl) rfl) rfl rfl E.g0 rfl rfl) ((take_calls (xs := []) hR (Src.nil _) 4).mono fun e w8 h => by unfold StepP at h; rw [htk91] at h; exact ⟨_, h.2.1, rfl, h.2.2, h.1⟩) fun a w1 u ⟨hu, hR2, f1⟩ E => ?_
    subst hu
    have hO := ow.fr hO f1 (fun k hk e => by have := (hO.lt hk).1; (try simp only at e); omega)
    have hBs := Nat.le_trans hBs f1.size
    have hT := hT.fr f1 (fun _ hr => nq_)
    have hf := hf.trans' f1 (fun _ hr => nq_)
    clear f1
    have hR := hR2
    clear hR2
    obtain ⟨hto91, hkd91, hk⟩ := take_tk hk htk91
    have hin91 := (take_ok htk91).2.2
    have htl91 : l = t91 :: l91 := (take_ok htk91).1
    have hl6 : l.length = l91.length + 1 := by rw [htl91]; rfl
    refine n_ (t_ (r_ (ep E rfl (m_ rfl E.g9) fun a E => ?_)))
    rcases hpt92 : part en l91 with ⟨c92, x92⟩ | ⟨s92, l92⟩
    ·skip
     refine env_callp (ch := pn c92 x92) (R := fun w8 => Fr (fun r => r = rb ∨ B ≤ r) w1 w8) (wanted_none rfl _) (run_call1 (enters_of Tryz.func58 (by kernel_rfl) rfl) rfl rfl E.g0) ((part_calls (ss := acc) ⟨hrB, hBs, _, hR, hO⟩ hk hT (by omega)).mono fun e w8 h => by unfold StepO at h; rw [hpt92] at h; exact ⟨h.2, h.1⟩) fun w1 f1 => ?_
     have hf := hf.trans f1
     refine blk_p (then_p (blk_p (blk_p (then_p (pan_end E ⟨hf, ?_⟩)))))
     unfold textS
     have hd9 : l.drop 1 = l91 := by rw [htl91]; rfl
     rw [hQ, cont_err hq88 (by rw [hd9]; exact hpt92)]
     rfl
    refine env_callv (d := 14) (R := fun u w8 => u = .tuple #[] ∧ RdO w8 rb G B en l92 (acc ++ s92) ∧ Fr (fun r => r = rb ∨ B ≤ r) w1 w8) E rfl (by decide) rfl (wanted_none rfl _) (run_call1 (enters_of Tryz.func58 (by kernel_rfl) rfl) rfl rfl E.g0) ((part_calls (ss := acc) ⟨hrB, hBs, _, hR, hO⟩ hk hT (by omega)).mono fun e w8 h => by unfold StepO at h; rw [hpt92] at h; exact ⟨_, h.2.1, rfl, h.2.2, h.1⟩) fun a w1 u ⟨hu, hRO, f1⟩ E => ?_
    subst hu
    have hf := hf.trans f1
    have hT := hT.fr f1 (fun r hr e => by omega)
    clear hR hO hBs f1
    obtain ⟨_, hBs, sv92, hR, hO⟩ := hRO
    have hpc92 := part_cnt hk hpt92
    have hk := (part_wk hk hpt92).2
    refine n_ (b_ (t_ ?_))
    have hd9 : l.drop 1 = l91 := by rw [htl91]; rfl
    have hQn : textQ en ts = cont en (acc ++ s92) l92 := by rw [hQ]; exact cont_ok hq88 (by rw [hd9]; exact hpt92)
    have hl7 : l.length = l91.length + 1 := by rw [htl91]; rfl
    refine ⟨⟨l92, (acc ++ s92), sv92, E.of ⟨E.g11, trivial⟩, hR, hO, hk, hQn, hf, hBs, by simp only [List.length_append]; omega, hT⟩, by have := hR.len; show rdLen _ rb < rdLen _ rb; omega⟩
  | true =>
   rw [hq85] at E
   refine c_t E.g0 (r_ (ep E rfl (m_ rfl E.g12) fun a E => ep E rfl (i_ rfl E.g0) fun a E => ep (v := .pointer (some ⟨rb, 0, none⟩)) E rfl (fa59_0 rfl E.g0) fun a E => ?_))
   rcases htk93 : take en 1 [] ts with ⟨c93, x93⟩ | ⟨t93, l93⟩
   ·skip
    refine env_callp (ch := pn c93 x93) (R := fun w8 => Fr (fun r => r = rb) w1 w8) (wanted_none rfl _) (run_call3 (enters_of Tryz.func56 (by kernel_rfl) rfl) rfl rfl E.g0 rfl rfl) ((take_calls (xs := []) hR (Src.nil _) 1).mono fun e w8 h => by unfold StepP at h; rw [htk93] at h; exact ⟨h.2, h.1⟩) fun w1 f1 => ?_
    have hf := hf.trans' f1 (fun r hr e => by (try simp only at e); first | exact e | exact .inl e)
    obtain ⟨t9, l9, h9, _⟩ := take_any (en := en) hq85
    rw [h9] at htk93
    cases htk93
   refine env_callv (d := 36) (R := fun u w8 => u = .agg (tkA t93) ∧ Rd w8 rb G en l93 sv ∧ Fr (fun r => r = rb) w1 w8) E rfl (by decide) rfl (wanted_none rfl _) (run_call3 (enters_of Tryz.func56 (by kernel_rfl) rfl) rfl rfl E.g0 rfl rfl) ((take_calls (xs := []) hR (Src.nil _) 1).mono fun e w8 h => by unfold StepP at h; rw [htk93] at h; exact ⟨_, h.2.1, rfl, h.2.2, h.1⟩) fun a w1 u ⟨hu, hR2, f1⟩ E => ?_
   subst hu
   have hO := ow.fr hO f1 (fun k hk e => by have := (hO.lt hk).1; (try simp only at e); omega)
   have hBs := Nat.le_trans hBs f1.size
   have hT := hT.fr f1 (fun _ hr => nq_)
   have hf := hf.trans' f1 (fun _ hr => nq_)
   clear f1
   have hR := hR2
   clear hR2
   obtain ⟨hto93, hkd93, hk⟩ := take_tk hk htk93
   have hin93 := (take_ok htk93).2.2
   have htl93 : ts = t93 :: l93 := (take_ok htk93).1
   refine n_ (b_ (t_ (s_ ?_)))
   have hQ9 : textQ en ts = .ok ([], l93) := by
    unfold textQ
    rw [if_neg (by rw [hq83]; simp), if_pos hq85, htl93]; rfl
   have hR9 := hR
   obtain ⟨hGr, lv, hrb, pl, cl, hlv, hlv0, hlv1, hts, hzl⟩ := hR9
   subst hlv
   refine r_ (ep E rfl (m_ rfl E.g16) fun a E => ep E rfl (i_ rfl E.g0) fun a E => ep (v := .pointer (some ⟨rb, 0, none⟩)) E rfl (fa59_0 rfl E.g0) fun a E => ep (v := .pointer (some ⟨rb, 0, none⟩)) E rfl (fa57_0 rfl E.g0) fun a E => ep (v := .slice (pl) l93.length cl) E rfl (run_ld34 rfl E.g0 (bx hrb 0 rfl)) fun a E => ep (v := .int .i64 (l93.length : Int)) E rfl (run_len34 rfl E.g0) fun a E => ep (v := .bool (decide (0 < (l93.length : Int)))) E rfl (run_igtr E.g0 rfl Tryz.underlying3 rfl) fun a E => n_ (t_ ?_))
   cases hq94 : (decide (0 < (l93.length : Int))) with
   | false =>
    rw [hq94] at E
    have hnil : l93 = [] := List.eq_nil_of_length_eq_zero (by have := of_decide_eq_false hq94; omega)
    refine c_f E.g0 (k_ ((ret_nil rfl E ⟨hf, ?_⟩).1))
    unfold textS
    rw [hQ9, hnil]
    refine ⟨rfl, hrB, hBs, _, by rw [← hnil]; exact hR, by simpa using hO⟩
   | true =>
    rw [hq94] at E
    have hlt0 : 0 < l93.length := by have := of_decide_eq_true hq94; omega
    obtain ⟨t, ht⟩ : ∃ y, l93[0]? = some y := ⟨_, List.getElem?_eq_getElem hlt0⟩
    obtain ⟨g95, off95, hpe95, hgl95, hrow95⟩ := hts.at hlt0
    replace hrow95 := hrow95 0 t ht
    obtain ⟨t9, l9, hcons⟩ := List.exists_cons_of_ne_nil (List.ne_nil_of_length_pos hlt0)
    have ht9 : t = t9 := by rw [hcons] at ht; simpa using ht.symm
    subst ht9
    refine c_t E.g0 (r_ (ep E rfl (m_ rfl E.g23) fun a E => ep E rfl (i_ rfl E.g0) fun a E => ep (v := .pointer (some ⟨rb, 0, none⟩)) E rfl (fa59_0 rfl E.g0) fun a E => ep (v := .pointer (some ⟨rb, 0, none⟩)) E rfl (fa57_0 rfl E.g0) fun a E => ep (v := .slice (pl) l93.length cl) E rfl (run_ld34 rfl E.g0 (bx hrb 0 rfl)) fun a E => ep (v := .pointer (some ⟨g95, (off95 + 0 * 3), none⟩)) E rfl (run_index34 (i := 0) rfl (E.g0.trans (by rw [hpe95])) rfl hlt0) fun a E => ep (v := .pointer (some ⟨g95, ((off95 + 0 * 3) + 2), none⟩)) E rfl (fa38_2 rfl E.g0) fun a E => ep (v := .int .i64 t.2.2) E rfl (run_ldi rfl E.g0 (hrow95 2 _ rfl)) fun a E => ep (v := .agg #[.int .i64 5, .int .i64 t.2.2]) E rfl (run_of54 rfl rfl E.g0) fun a E => ep (v := prob 5 t.2.2) E rfl (run_mkif54 rfl E.g0) fun a E => env_panic (wanted_none rfl _) (run_panic rfl E.g0) (pan_end E ⟨hf, ?_⟩)))
    unfold textS
    rw [hQ9, hcons]
    rfl
 | true =>
  rw [hq83] at E
  refine c_t E.g0 (s_ (r_ (ep E rfl (m_ rfl E.g6) fun a E => ep E rfl (i_ rfl E.g0) fun a E => ep (v := .pointer (some ⟨rb, 0, none⟩)) E rfl (fa59_0 rfl E.g0) fun a E => ?_)))
  rcases htk96 : take en 1 [] ts with ⟨c96, x96⟩ | ⟨t96, l96⟩
  ·skip
   refine env_callp (ch := pn c96 x96) (R := fun w8 => Fr (fun r => r = rb) w1 w8) (wanted_none rfl _) (run_call3 (enters_of Tryz.func56 (by kernel_rfl) rfl) rfl rfl E.g0 rfl rfl) ((take_calls (xs := []) hR (Src.nil _) 1).mono fun e w8 h => by unfold StepP at h; rw [htk96] at h; exact ⟨h.2, h.1⟩) fun w1 f1 => ?_
   have hf := hf.trans' f1 (fun r hr e => by (try simp only at e); first | exact e | exact .inl e)
   obtain ⟨t9, l9, h9, _⟩ := take_any (en := en) hq83
   rw [h9] at htk96
   cases htk96
  refine env_callv (d := 24) (R := fun u w8 => u = .agg (tkA t96) ∧ Rd w8 rb G en l96 sv ∧ Fr (fun r => r = rb) w1 w8) E rfl (by decide) rfl (wanted_none rfl _) (run_call3 (enters_of Tryz.func56 (by kernel_rfl) rfl) rfl rfl E.g0 rfl rfl) ((take_calls (xs := []) hR (Src.nil _) 1).mono fun e w8 h => by unfold StepP at h; rw [htk96] at h; exact ⟨_, h.2.1, rfl, h.2.2, h.1⟩) fun a w1 u ⟨hu, hR2, f1⟩ E => ?_
  subst hu
  have hO := ow.fr hO f1 (fun k hk e => by have := (hO.lt hk).1; (try simp only at e); omega)
  have hBs := Nat.le_trans hBs f1.size
  have hT := hT.fr f1 (fun _ hr => nq_)
  have hf := hf.trans' f1 (fun _ hr => nq_)
  clear f1
  have hR := hR2
  clear hR2
  obtain ⟨hto96, hkd96, hk⟩ := take_tk hk htk96
  have hin96 := (take_ok htk96).2.2
  have htl96 : ts = t96 :: l96 := (take_ok htk96).1
  refine n_ (t_ (r_ (ep E rfl (m_ rfl E.g10) fun a E => ?_)))
  have hT9 := hT
  refine env_callv (d := 26) (R := fun u w8 => u = .tuple #[] ∧ RdO w8 rb G B en l96 ([] ++ addL 0 10080) ∧ Fr (fun r => r = rb ∨ B ≤ r) w1 w8) E rfl (by decide) rfl (wanted_none rfl _) (run_call3 (enters_of Tryz.func57 (by kernel_rfl) rfl) rfl rfl E.g0 rfl rfl) ((add_calls ⟨hrB, hBs, _, hR, hO⟩ (by omega) (by omega) (by simp only [List.length_nil]; omega)).mono fun e w8 h => by obtain ⟨rfl, h⟩ := h; exact ⟨_, rfl, rfl, h⟩) fun a w1 u ⟨hu, hRO, f1⟩ E => ?_
  subst hu
  have hf := hf.trans f1
  clear hR hO hBs f1
  obtain ⟨_, hBs, sv97, hR, hO⟩ := hRO
  refine n_ (b_ (t_ (s_ ?_)))
  have hQ9 : textQ en ts = .ok (([] ++ addL 0 10080), l96) := by
   unfold textQ
   rw [if_pos hq83, htl96]; rfl
  have hR9 := hR
  obtain ⟨hGr, lv, hrb, pl, cl, hlv, hlv0, hlv1, hts, hzl⟩ := hR9
  subst hlv
  refine r_ (ep E rfl (m_ rfl E.g12) fun a E => ep E rfl (i_ rfl E.g0) fun a E => ep (v := .pointer (some ⟨rb, 0, none⟩)) E rfl (fa59_0 rfl E.g0) fun a E => ep (v := .pointer (some ⟨rb, 0, none⟩)) E rfl (fa57_0 rfl E.g0) fun a E => ep (v := .slice (pl) l96.length cl) E rfl (run_ld34 rfl E.g0 (bx hrb 0 rfl)) fun a E => ep (v := .int .i64 (l96.length : Int)) E rfl (run_len34 rfl E.g0) fun a E => ep (v := .bool (decide (0 < (l96.length : Int)))) E rfl (run_igtr E.g0 rfl Tryz.underlying3 rfl) fun a E => n_ (t_ ?_))
  cases hq98 : (decide (0 < (l96.length : Int))) with
  | false =>
   rw [hq98] at E
   have hnil : l96 = [] := List.eq_nil_of_length_eq_zero (by have := of_decide_eq_false hq98; omega)
   refine c_f E.g0 (k_ ((ret_nil rfl E ⟨hf, ?_⟩).1))
   unfold textS
   rw [hQ9, hnil]
   refine ⟨rfl, hrB, hBs, _, by rw [← hnil]; exact hR, by simpa using hO⟩
  | true =>
   rw [hq98] at E
   have hlt0 : 0 < l96.length := by have := of_decide_eq_true hq98; omega
   obtain ⟨t, ht⟩ : ∃ y, l96[0]? = some y := ⟨_, List.getElem?_eq_getElem hlt0⟩
   obtain ⟨g99, off99, hpe99, hgl99, hrow99⟩ := hts.at hlt0
   replace hrow99 := hrow99 0 t ht
   obtain ⟨t9, l9, hcons⟩ := List.exists_cons_of_ne_nil (List.ne_nil_of_length_pos hlt0)
   have ht9 : t = t9 := by rw [hcons] at ht; simpa using ht.symm
   subst ht9
   refine c_t E.g0 (r_ (ep E rfl (m_ rfl E.g19) fun a E => ep E rfl (i_ rfl E.g0) fun a E => ep (v := .pointer (some ⟨rb, 0, none⟩)) E rfl (fa59_0 rfl E.g0) fun a E => ep (v := .pointer (some ⟨rb, 0, none⟩)) E rfl (fa57_0 rfl E.g0) fun a E => ep (v := .slice (pl) l96.length cl) E rfl (run_ld34 rfl E.g0 (bx hrb 0 rfl)) fun a E => ep (v := .pointer (some ⟨g99, (off99 + 0 * 3), none⟩)) E rfl (run_index34 (i := 0) rfl (E.g0.trans (by rw [hpe99])) rfl hlt0) fun a E => ep (v := .pointer (some ⟨g99, ((off99 + 0 * 3) + 2), none⟩)) E rfl (fa38_2 rfl E.g0) fun a E => ep (v := .int .i64 t.2.2) E rfl (run_ldi rfl E.g0 (hrow99 2 _ rfl)) fun a E => ep (v := .agg #[.int .i64 5, .int .i64 t.2.2]) E rfl (run_of54 rfl rfl E.g0) fun a E => ep (v := prob 5 t.2.2) E rfl (run_mkif54 rfl E.g0) fun a E => env_panic (wanted_none rfl _) (run_panic rfl E.g0) (pan_end E ⟨hf, ?_⟩)))
   unfold textS
   rw [hQ9, hcons]
   rfl
end Go.Proofs.YtjaffpnegdcjnaaGreatDoor
/- The lexer: classes of bytes. -/
set_option linter.unusedVariables false
set_option linter.unusedSimpArgs false
namespace Go.Proofs.YtjaffpnegdcjnaaGreatDoor
open Go.RowKit Go.Pl
section
variable {o : Oper} {w : World} {ρ : Operand → Value} {x y z : Operand} {b off : Nat} {u v : Value}
theorem zero111s : Tryz.zeroCells111.size = 256 ∧ ∀ i, i < 256 → Tryz.zeroCells111[i]? = some (.int .u8 0) := by
 have h : (List.range 256).all (fun i => match Tryz.zeroCells111[i]? with | some (.int .u8 n) => n == 0 | _ => false) = true := by kernel_rfl
 refine ⟨by kernel_rfl, fun i hi => ?_⟩
 have := List.all_eq_true.1 h i (List.mem_range.2 hi)
 split at this
 ·rename_i n hn; rw [hn]; rw [beq_iff_eq] at this; rw [this]
 ·cases this
theorem run_alloc111 (ho : o.op = .alloc 111) : (execOp ρ o).run Tryz.prog w = .ok (.value (.pointer (some ⟨w.heap.size, 0, none⟩))) (w.alloc (.cells Tryz.zeroCells111 111)) := by
 simp [execOp, ho, go_sem]
theorem run_alloc113 (ho : o.op = .alloc 113) : (execOp ρ o).run Tryz.prog w = .ok (.value (.pointer (some ⟨w.heap.size, 0, none⟩))) (w.alloc (.cells #[.nilFunc] 113)) := by
 simp [execOp, ho, go_sem]
theorem run_tou8 {m : Int} (ho : o.op = .convert 3 5 x) (hx : ρ x = .int .i64 m) (h0 : 0 ≤ m) (h1 : m < 256) : (execOp ρ o).run Tryz.prog w = .ok (.value (.int .u8 m)) w := by
 have : IntKind.u8.wrap m = m := by simp [IntKind.wrap, IntKind.bits, IntKind.signed]; omega
 simp [execOp, ho, hx, go_sem, this]
theorem run_uleq {m n : Int} (hx : ρ x = .int .u8 m) (hy : ρ y = .int .u8 n) (ho : o.op = .binOp .leq 5 x y 5) : (execOp ρ o).run Tryz.prog w = .ok (.value (.bool (decide (m ≤ n)))) w := by
 simp [execOp, ho, hx, hy, go_sem]
theorem run_ugeq {m n : Int} (hx : ρ x = .int .u8 m) (hy : ρ y = .int .u8 n) (ho : o.op = .binOp .geq 5 x y 5) : (execOp ρ o).run Tryz.prog w = .ok (.value (.bool (decide (n ≤ m)))) w := by
 simp [execOp, ho, hx, hy, go_sem]
theorem run_ueql {m n : Int} (hx : ρ x = .int .u8 m) (hy : ρ y = .int .u8 n) (ho : o.op = .binOp .eql 5 x y 5) : (execOp ρ o).run Tryz.prog w = .ok (.value (.bool (m == n))) w := by
 simp [execOp, ho, hx, hy, go_sem]
theorem run_uneq {m n : Int} (hx : ρ x = .int .u8 m) (hy : ρ y = .int .u8 n) (ho : o.op = .binOp .neq 5 x y 5) : (execOp ρ o).run Tryz.prog w = .ok (.value (.bool (m != n))) w := by
 simp [execOp, ho, hx, hy, go_sem]
theorem run_st5 {m : Int} (ho : o.op = .store 5 x y) (hx : ρ x = .pointer (some ⟨b, off, none⟩)) (hy : ρ y = .int .u8 m) (hc : w.cell? ⟨b, off, none⟩ = some u) (hz : w.frozen? ⟨b, off, none⟩ = false) : (execOp ρ o).run Tryz.prog w = .ok .skip (w.setCell ⟨b, off, none⟩ (.int .u8 m)) := by
 simp [execOp, ho, hx, hy, go_sem, hc, hz]
theorem run_ld5 {m : Int} (ho : o.op = .load 5 x) (hx : ρ x = .pointer (some ⟨b, off, none⟩)) (hc : w.cell? ⟨b, off, none⟩ = some (.int .u8 m)) : (execOp ρ o).run Tryz.prog w = .ok (.value (.int .u8 m)) w := by
 simp [execOp, ho, hx, go_sem, hc]
theorem run_index111 {i : Nat} (ho : o.op = .indexAddr 111 x y) (hx : ρ x = .pointer (some ⟨b, off, none⟩)) (hy : ρ y = .int .i64 i) (hi : i < 256) : (execOp ρ o).run Tryz.prog w = .ok (.value (.pointer (some ⟨b, off + i, none⟩))) w := by
 have h1 : (i : Int) < 256 := by omega
 simp [execOp, ho, hx, hy, go_sem, h1]
theorem run_index111u {i : Nat} (ho : o.op = .indexAddr 111 x y) (hx : ρ x = .pointer (some ⟨b, off, none⟩)) (hy : ρ y = .int .u8 i) (hi : i < 256) : (execOp ρ o).run Tryz.prog w = .ok (.value (.pointer (some ⟨b, off + i, none⟩))) w := by
 have h1 : (i : Int) < 256 := by omega
 simp [execOp, ho, hx, hy, go_sem, h1]
theorem run_ld113 {f : Fn} {a c : Array Value} (ho : o.op = .load 113 x) (hx : ρ x = .pointer (some ⟨b, off, none⟩)) (hc : w.cell? ⟨b, off, none⟩ = some (.func f a c)) : (execOp ρ o).run Tryz.prog w = .ok (.value (.func f a c)) w := by
 simp [execOp, ho, hx, go_sem, hc]
theorem run_st113 {f : Fn} {a c : Array Value} (ho : o.op = .store 113 x y) (hx : ρ x = .pointer (some ⟨b, off, none⟩)) (hy : ρ y = .func f a c) (hc : w.cell? ⟨b, off, none⟩ = some u) (hz : w.frozen? ⟨b, off, none⟩ = false) : (execOp ρ o).run Tryz.prog w = .ok .skip (w.setCell ⟨b, off, none⟩ (.func f a c)) := by
 simp [execOp, ho, hx, hy, go_sem, hc, hz, run_store Tryz.prog w ⟨b, off, none⟩ (.func f a c) .plain rfl]
theorem run_box9 {s : ByteArray} (ho : o.op = .box 9 x) (hx : ρ x = .string s) : (execOp ρ o).run Tryz.prog w = .ok (.value (.pointer (some ⟨w.heap.size, 0, none⟩))) (w.alloc (.cells #[.string s] 9)) := by
 simp [execOp, ho, hx, go_sem]
theorem run_mkfn2 {f : Nat} {p q : Value} (ho : o.op = .makeFunc (.func f) #[] #[x, y]) (hx : ρ x = p) (hy : ρ y = q) : (execOp ρ o).run Tryz.prog w = .ok (.value (.func (.func f) #[] #[p, q])) w := by
 simp [execOp, ho, hx, hy, go_sem]
theorem info111 : (Tryz.prog.info? 111).map (·.size) = some 256 := by kernel_rfl
theorem run_ld111 {cs : Array Value} (ho : o.op = .load 111 x) (hx : ρ x = .pointer (some ⟨b, 0, none⟩)) (h : w.heap[b]? = some (.cells cs 111 (0, 0))) (hs : cs.size = 256) : (execOp ρ o).run Tryz.prog w = .ok (.value (.agg cs)) w := by
 have := run_loadVar_row (P := Tryz.prog) w b 111 111 cs (0, 0) _ h Tryz.underlying111 rfl (by rw [info111, hs])
 simp only [execOp, ho, hx, Instr.loadAt, Instr.sureAddr, Sem.run_bind, Sem.run_pure, Result.andThen, this]
theorem run_st111 {cs old : Array Value} (ho : o.op = .store 111 x y) (hx : ρ x = .pointer (some ⟨b, 0, none⟩)) (hy : ρ y = .agg cs) (h : w.heap[b]? = some (.cells old 111 (0, 0))) (hs : cs.size = 256) (ho2 : old.size = 256) (h1 : cs.all (·.oneCell') = true) : (execOp ρ o).run Tryz.prog w = .ok .skip (w.setRow b cs) := by
 have := run_storeVar_row (P := Tryz.prog) w b 111 111 old cs h (by rw [info111, hs]) (by rw [hs, ho2]) h1
 simp only [execOp, ho, hx, hy, Instr.storeAt, Instr.sureAddr, Sem.run_bind, Sem.run_pure, Result.andThen, this]
theorem setRow_same {cs old : Array Value} {T : TypeId} (h : w.heap[b]? = some (.cells old T (0, 0))) : (w.setRow b cs).heap[b]? = some (.cells cs T (0, 0)) := by
 unfold World.setRow
 simp only [Array.getElem?_modify, if_true, h, Option.map_some]
theorem setRow_fr {cs : Array Value} : Fr (fun r => r = b) w (w.setRow b cs) := by
 refine ⟨rfl, rfl, rfl, by simp [World.setRow], fun r _ hr => ?_⟩
 unfold World.setRow
 rw [Array.getElem?_modify, if_neg (fun e => hr e.symm)]
end
/-- A table of 256 small numbers. -/
def tb8 (w : World) (b : Nat) (t : Nat → Nat) : Prop := ∃ cs, w.heap[b]? = some (.cells cs 111 (0, 0)) ∧ cs.size = 256 ∧ ∀ i, i < 256 → cs[i]? = some (.int .u8 (t i : Nat))
theorem tb8.fr {w w' : World} {b : Nat} {t : Nat → Nat} (h : tb8 w b t) {F : Nat → Prop} (hf : Fr F w w') (hb : ¬ F b) : tb8 w' b t := by
 obtain ⟨cs, h1, h2, h3⟩ := h
 exact ⟨cs, hf.obj h1 hb, h2, h3⟩
theorem tb8.lt {w : World} {b : Nat} {t : Nat → Nat} (h : tb8 w b t) : b < w.heap.size := by
 obtain ⟨cs, h1, _⟩ := h
 exact lt_of_blk h1
theorem tb8.at {w : World} {b : Nat} {t : Nat → Nat} (h : tb8 w b t) {i : Nat} (hi : i < 256) : w.cell? ⟨b, 0 + i, none⟩ = some (.int .u8 (t i : Nat)) := by
 obtain ⟨cs, h1, _, h3⟩ := h
 rw [cell_of_blk h1, Nat.zero_add]; exact h3 i hi
theorem tb8.ext {w : World} {b : Nat} {t t' : Nat → Nat} (h : tb8 w b t) (he : ∀ i, i < 256 → t i = t' i) : tb8 w b t' := by
 obtain ⟨cs, h1, h2, h3⟩ := h
 exact ⟨cs, h1, h2, fun i hi => by rw [← he i hi]; exact h3 i hi⟩
theorem tb8.set {w : World} {b : Nat} {t : Nat → Nat} (h : tb8 w b t) {k : Nat} (hk : k < 256) (v : Nat) : (w.cell? ⟨b, 0 + k, none⟩ = some (.int .u8 (t k : Nat)) ∧ w.frozen? ⟨b, 0 + k, none⟩ = false) ∧ tb8 (w.setCell ⟨b, 0 + k, none⟩ (.int .u8 (v : Nat))) b (fun i => if i = k then v else t i) ∧ Fr (fun r => r = b) w (w.setCell ⟨b, 0 + k, none⟩ (.int .u8 (v : Nat))) := by
 have hc := h.at hk
 obtain ⟨cs, h1, h2, h3⟩ := h
 refine ⟨⟨hc, free_of_blk h1 _⟩, ⟨_, blk_setCell_same h1 _, by simpa using h2, fun i hi => ?_⟩, (Fr.refl (fun r => r = b) w).setCell (p := ⟨b, _, none⟩) (fun _ => rfl) _⟩
 rw [Nat.zero_add, Array.getElem?_setIfInBounds]
 by_cases e : i = k
 ·subst e; simp [h2, hk]
 ·rw [if_neg (fun e2 => e e2.symm)]; simp only [if_neg e]; exact h3 i hi
section
variable {O : Array Oper} {Q : Exit → Act → World → Prop} {rest : List Oper} {o : Oper} {a : Act} {w : World} {n d : Nat} {L : List (Nat × Value)} {ds : List Deferred} {x y : Operand} {b : Nat}
theorem env_new111 (E : EnvD ds n L a) (hd : o.dst = some d) (hn : d < n) (hf : (L.map (·.1)).contains d = false) (hw : Region.wanted o (yielded O a.tmps) = true) (ho : o.op = .alloc 111)
  (k : ∀ a' w' b, w.heap.size = b → tb8 w' b (fun _ => 0) → Fr (fun _ => False) w w' → EnvD ds n ((d, .pointer (some ⟨b, 0, none⟩)) :: L) a' → wpList Tryz.prog O Q rest a' w') : wpList Tryz.prog O Q (o :: rest) a w :=
 env_put E hd hn hf hw (run_alloc111 ho) fun a' E' => k a' _ _ rfl ⟨_, blk_alloc_new _ _, zero111s.1, fun i hi => zero111s.2 i hi⟩ ((Fr.refl _ _).alloc _) E'
theorem env_st8 {t : Nat → Nat} {k v : Nat} (E : EnvD ds n L a) (hd : o.dst = none) (hw : Region.wanted o (yielded O a.tmps) = true) (ho : o.op = .store 5 x y) (hx : a.eval x = .pointer (some ⟨b, 0 + k, none⟩)) (hy : a.eval y = .int .u8 (v : Nat)) (h : tb8 w b t) (hk : k < 256)
  (kk : ∀ w', tb8 w' b (fun i => if i = k then v else t i) → Fr (fun r => r = b) w w' → EnvD ds n L a → wpList Tryz.prog O Q rest a w') : wpList Tryz.prog O Q (o :: rest) a w := by
 obtain ⟨⟨h1, h2⟩, h3, h4⟩ := h.set hk v
 exact env_store E hd hw (run_st5 ho hx hy h1 h2) fun E' => kk _ h3 h4 E'
end
/-- The class of a byte. -/
def cl8 (b : UInt8) : Nat := if b == 35 then 2 else if b == 95 then 5 else if b == 34 then 7 else if isLet b then 3 else if isDig b then 4 else if isBlk b then 1 else if isSym b then 6 else 0
def cls0 (i : Nat) : Nat := if isLet (UInt8.ofNat i) then 3 else if isDig (UInt8.ofNat i) then 4 else if isBlk (UInt8.ofNat i) then 1 else if isSym (UInt8.ofNat i) then 6 else 0
theorem letq (i : Nat) (hi : i < 256) : isLet (UInt8.ofNat i) = (decide ((97 : Int) ≤ (i : Int)) && decide ((i : Int) ≤ 122) || decide ((65 : Int) ≤ (i : Int)) && decide ((i : Int) ≤ 90)) := by
 have : ∀ i : Fin 256, isLet (UInt8.ofNat i.val) = (decide ((97 : Int) ≤ (i.val : Int)) && decide ((i.val : Int) ≤ 122) || decide ((65 : Int) ≤ (i.val : Int)) && decide ((i.val : Int) ≤ 90)) := by decide +kernel
 exact this ⟨i, hi⟩
theorem digq (i : Nat) (hi : i < 256) : isDig (UInt8.ofNat i) = (decide ((48 : Int) ≤ (i : Int)) && decide ((i : Int) ≤ 57)) := by
 have : ∀ i : Fin 256, isDig (UInt8.ofNat i.val) = (decide ((48 : Int) ≤ (i.val : Int)) && decide ((i.val : Int) ≤ 57)) := by decide +kernel
 exact this ⟨i, hi⟩
def ixb (s : Bys) (i : Nat) : Int := Lib.indexByte s (UInt8.ofNat i)
theorem blkq (i : Nat) (hi : i < 256) : isBlk (UInt8.ofNat i) = decide ((0 : Int) ≤ ixb [32, 9, 10] i) := by
 have : ∀ i : Fin 256, isBlk (UInt8.ofNat i.val) = decide ((0 : Int) ≤ ixb [32, 9, 10] i.val) := by decide +kernel
 exact this ⟨i, hi⟩
theorem symq (i : Nat) (hi : i < 256) : isSym (UInt8.ofNat i) = decide ((0 : Int) ≤ ixb [59, 44, 46, 58, 40, 41, 123, 125, 91, 93, 61, 60, 62, 47, 45] i) := by
 have : ∀ i : Fin 256, isSym (UInt8.ofNat i.val) = decide ((0 : Int) ≤ ixb [59, 44, 46, 58, 40, 41, 123, 125, 91, 93, 61, 60, 62, 47, 45] i.val) := by decide +kernel
 exact this ⟨i, hi⟩
theorem ixb_calls (s : Bys) (i : Nat) (hi : i < 256) (w : World) : Calls Tryz.prog 97 #[.string (ofL s), .int .u8 (i : Int)] w fun e w' => e = .returned (.int .i64 (ixb s i)) ∧ Fr (fun _ => False) w w' := by
 refine (Tryz.strings_IndexByte (ofL s) (i : Int) w).mono fun e w' h => ⟨?_, by rw [h.2]; exact Fr.refl _ _⟩
 rw [h.1]
 unfold ixb
 rw [show (ofL s).data.toList = s from by simp [ofL], show ((i : Int).toNat.toUInt8) = UInt8.ofNat i from by simp]
theorem cls_of (i : Nat) (hi : i < 256) : (if i = 34 then 7 else if i = 95 then 5 else if i = 35 then 2 else cls0 i) = cl8 (UInt8.ofNat i) := by
 have : ∀ i : Fin 256, (if i.val = 34 then 7 else if i.val = 95 then 5 else if i.val = 35 then 2 else cls0 i.val) = cl8 (UInt8.ofNat i.val) := by decide +kernel
 exact this ⟨i, hi⟩
def clsT (i : Nat) : Nat := cl8 (UInt8.ofNat i)
def clsAt (s : Bys) (i : Nat) : Nat := match s[i]? with | some b => cl8 b | none => 0
theorem tb8.one {w : World} {b : Nat} {t : Nat → Nat} {cs : Array Value} (h : w.heap[b]? = some (.cells cs 111 (0, 0))) (ht : tb8 w b t) : cs.size = 256 ∧ cs.all (·.oneCell') = true ∧ ∀ i, i < 256 → cs[i]? = some (.int .u8 (t i : Nat)) := by
 obtain ⟨cs', h1, h2, h3⟩ := ht
 rw [h] at h1
 cases h1
 refine ⟨h2, ?_, h3⟩
 rw [Array.all_eq_true]
 intro i hi
 have := h3 i (by omega)
 rw [Array.getElem?_eq_getElem hi] at this
 rw [Option.some.inj this]; rfl
theorem ret_cell111 {fn : Func} {R : Ending → World → Prop} {n : Nat} {L : List (Nat × Value)} {a : Act} {w : World} {t : Tmp} {g : Nat} {cs : Array Value} (hr : fn.results = #[.cell t 111]) (E : Env n L a) (hv : a.eval (.tmp t) = .pointer (some ⟨g, 0, none⟩)) (h : w.heap[g]? = some (.cells cs 111 (0, 0))) (hs : cs.size = 256) (hR : R (.returned (.agg cs)) w) : bodyPost Tryz.prog fn R .ret a w := by
 refine ⟨E.df, .agg cs, ?_, hR⟩
 exact results_cell_row hr a.tmps w g 111 cs (0, 0) _ hv h Tryz.underlying111 rfl (by rw [info111, hs])
set_option maxRecDepth 100000 in
set_option maxHeartbeats 4000000 in
theorem classes_calls (w : World) : Calls Tryz.prog 72 #[] w fun e w' => ∃ cs, e = .returned (.agg cs) ∧ cs.size = 256 ∧ cs.all (·.oneCell') = true ∧ (∀ i, i < 256 → cs[i]? = some (.int .u8 (clsT i : Nat))) ∧ Fr (fun _ => False) w w' := by
 refine wp_start0 Tryz.func72 rfl rfl (n := 50) (by decide) fun a E => ?_
 have hf : Fr (fun _ => False) w w := Fr.refl _ _
 refine s_ (r_ (env_new111 (d := 0) E rfl (by decide) rfl (wanted_none rfl _) rfl fun a w1 b82 eb82 htb82 f1 E => ?_))
 have hnb82 : w.heap.size ≤ b82 := by have := hf.size; omega
 have hf := hf.trans' f1 (fun _ _ h => h.elim)
 clear f1
 refine n_ (t_ (s_ (r_ (env_new111 (d := 1) E rfl (by decide) rfl (wanted_none rfl _) rfl fun a w1 b83 eb83 htb83 f1 E => ?_))))
 have hnb83 : w.heap.size ≤ b83 := by have := hf.size; omega
 have hneb82b83 : b82 < b83 := by have := htb82.lt; omega
 have htb82 := htb82.fr f1 id
 have hf := hf.trans' f1 (fun _ _ h => h.elim)
 clear f1
 refine n_ (t_ (s_ (s_ (r_ (ep (v := .int .i64 0) E rfl (m_ rfl rfl) fun a E => n_ (t_ (bk_ ?_)))))))
 replace htb83 : tb8 _ b83 (fun i => if i < 0 then cls0 i else 0) := htb83.ext fun i _ => by simp
 refine wp_loop (fun a w2 => ∃ (n : Nat), Env 50 [(4, .int .i64 (n : Int)), (0, .pointer (some ⟨b82, 0, none⟩)), (1, .pointer (some ⟨b83, 0, none⟩))] a ∧ n ≤ 256 ∧ tb8 w2 b82 (fun _ => 0) ∧ tb8 w2 b83 (fun i => if i < n then cls0 i else 0) ∧ Fr (fun _ => False) w w2) (fun a _ => 256 - (intOf (a.eval (.tmp 4))).toNat) ?_ ?_
 ·exact ⟨0, E.of ⟨E.g0, E.g2, E.g1, trivial⟩, Nat.zero_le _, htb82, htb83, hf⟩
 clear E
 rintro a w2 ⟨n, E, hn, htb82, htb83, hf⟩
 have hmu : 256 - (intOf (a.eval (.tmp 4))).toNat = 256 - n := by rw [E.g0]; first | rfl | (simp [intOf]; done) | (simp only [intOf]; omega)
 rw [hmu]
 clear hmu
 refine s_ (r_ (ep (v := .bool (decide ((n : Int) < 256))) E rfl (run_ilss E.g0 rfl Tryz.underlying3 rfl) fun a E => n_ (t_ (s_ ?_))))
 cases hq85 : (decide ((n : Int) < 256)) with
 | false =>
  rw [hq85] at E
  have hie : n = 256 := by have := of_decide_eq_false hq85; omega
  refine c_f E.g0 (x_ (te_ (te_ (be_ (t_ (s_ (r_ (ep (v := .pointer (some ⟨b83, (0 + 35), none⟩)) E rfl (run_index111 (i := 35) rfl E.g3 rfl (by omega)) fun a E => env_st8 (v := 2) E rfl (wanted_none rfl _) rfl E.g0 rfl htb83 (by omega) fun w1 htb83n f1 E => ?_))))))))
  have htb82 := htb82.fr f1 nq_
  have hf := hf.trans' f1 (fun _ hr => nq_)
  clear f1
  replace htb83 := htb83n
  refine ep (v := .pointer (some ⟨b83, (0 + 95), none⟩)) E rfl (run_index111 (i := 95) rfl E.g4 rfl (by omega)) fun a E => env_st8 (v := 5) E rfl (wanted_none rfl _) rfl E.g0 rfl htb83 (by omega) fun w1 htb83n f1 E => ?_
  have htb82 := htb82.fr f1 nq_
  have hf := hf.trans' f1 (fun _ hr => nq_)
  clear f1
  replace htb83 := htb83n
  refine ep (v := .pointer (some ⟨b83, (0 + 34), none⟩)) E rfl (run_index111 (i := 34) rfl E.g5 rfl (by omega)) fun a E => env_st8 (v := 7) E rfl (wanted_none rfl _) rfl E.g0 rfl htb83 (by omega) fun w1 htb83n f1 E => ?_
  have htb82 := htb82.fr f1 nq_
  have hf := hf.trans' f1 (fun _ hr => nq_)
  clear f1
  replace htb83 := htb83n
  refine n_ (t_ (s_ ?_))
  have htf : tb8 w1 b83 clsT := htb83.ext fun i hi => by
   rw [hie]; simp only [hi, if_true]; exact cls_of i hi
  obtain ⟨cs1, hq1, hq2, hq3⟩ := id htf
  obtain ⟨hs1, ha1, hc1⟩ := tb8.one hq1 htf
  obtain ⟨cs0, hp1, hp2, _⟩ := id htb82
  refine r_ (ep (v := .agg cs1) E rfl (run_ld111 rfl E.g6 hq1 hs1) fun a E => env_store E rfl (wanted_none rfl _) (run_st111 rfl E.g6 E.g0 hp1 hs1 hp2 ha1) fun E => ?_)
  have hz := setRow_same (cs := cs1) hp1
  have hf := hf.trans' (setRow_fr (w := w1) (b := b82) (cs := cs1)) (fun r hr e => by omega)
  refine n_ (t_ (wr_ (ret_cell111 rfl E E.g6 hz hs1 ⟨cs1, rfl, hs1, ha1, hc1, hf⟩)))
 | true =>
  rw [hq85] at E
  have hlt : n < 256 := by have := of_decide_eq_true hq85; omega
  refine c_t E.g0 (k_ (t_ (s_ (bk_ (s_ (r_ (ep E rfl (m_ rfl E.g1) fun a E => ep E rfl (a_ rfl E.g0) fun a E => n_ (t_ (s_ (r_ (ep E rfl (m_ rfl E.g0) fun a E => ep (v := .int .u8 (n : Int)) E rfl (run_tou8 rfl E.g0 (by omega) (by omega)) fun a E => ep E rfl (a_ rfl E.g0) fun a E => n_ (t_ (bk_ (s_ (s_ (r_ (ep E rfl (m_ rfl E.g0) fun a E => ep (v := .bool (decide (97 ≤ (n : Int)))) E rfl (run_uleq rfl E.g0 rfl) fun a E => ep E rfl (m_ rfl E.g0) fun a E => ?_)))))))))))))))))
  cases hq86 : (decide (97 ≤ (n : Int))) with
  | false =>
   rw [hq86] at E
   refine ek E rfl rfl E.g0 fun a E => ek E rfl rfl E.g1 fun a E => ep (v := .bool false) E rfl (run_pick_f rfl E.g2 rfl) fun a E => ep E rfl (a_ rfl E.g0) fun a E => n_ (t_ (c_f E.g0 (r_ (ep E rfl (m_ rfl E.g7) fun a E => ep (v := .bool (decide (65 ≤ (n : Int)))) E rfl (run_uleq rfl E.g0 rfl) fun a E => ep E rfl (m_ rfl E.g0) fun a E => ?_))))
   cases hq87 : (decide (65 ≤ (n : Int))) with
   | false =>
    rw [hq87] at E
    refine ek E rfl rfl E.g0 fun a E => ek E rfl rfl E.g1 fun a E => ep (v := .bool false) E rfl (run_pick_f rfl E.g2 rfl) fun a E => es_ E rfl (a_ rfl E.g0) fun a E => n_ (t_ (c_f E.g0 (s_ (r_ (ep E rfl (m_ rfl E.g13) fun a E => ep (v := .bool (decide (48 ≤ (n : Int)))) E rfl (run_uleq rfl E.g0 rfl) fun a E => ep E rfl (m_ rfl E.g0) fun a E => ?_)))))
    cases hq88 : (decide (48 ≤ (n : Int))) with
    | false =>
     rw [hq88] at E
     refine ek E rfl rfl E.g0 fun a E => ek E rfl rfl E.g1 fun a E => ep (v := .bool false) E rfl (run_pick_f rfl E.g2 rfl) fun a E => ep E rfl (a_ rfl E.g0) fun a E => n_ (t_ (c_f E.g0 (s_ (r_ (ep E rfl (m_ rfl E.g20) fun a E => ec_ (v := .int .i64 (ixb [32, 9, 10] n)) E rfl (run_call2 (enters_of Tryz.func97 (by kernel_rfl) rfl) rfl rfl rfl E.g0) (ixb_calls [32, 9, 10] n hlt _) fun a w1 f1 E => ?_)))))
     have htb82 := htb82.fr f1 id
     have htb83 := htb83.fr f1 id
     have hf := hf.trans' f1 (fun _ _ h => h.elim)
     clear f1
     refine ep (v := .bool (decide (0 ≤ (ixb [32, 9, 10] n)))) E rfl (run_igeq E.g0 rfl Tryz.underlying3 rfl) fun a E => ep E rfl (a_ rfl E.g0) fun a E => n_ (t_ ?_)
     cases hq89 : (decide (0 ≤ (ixb [32, 9, 10] n))) with
     | false =>
      rw [hq89] at E
      refine c_f E.g0 (s_ (r_ (ep E rfl (m_ rfl E.g24) fun a E => ec_ (v := .int .i64 (ixb [59, 44, 46, 58, 40, 41, 123, 125, 91, 93, 61, 60, 62, 47, 45] n)) E rfl (run_call2 (enters_of Tryz.func97 (by kernel_rfl) rfl) rfl rfl rfl E.g0) (ixb_calls [59, 44, 46, 58, 40, 41, 123, 125, 91, 93, 61, 60, 62, 47, 45] n hlt _) fun a w1 f1 E => ?_)))
      have htb82 := htb82.fr f1 id
      have htb83 := htb83.fr f1 id
      have hf := hf.trans' f1 (fun _ _ h => h.elim)
      clear f1
      refine ep (v := .bool (decide (0 ≤ (ixb [59, 44, 46, 58, 40, 41, 123, 125, 91, 93, 61, 60, 62, 47, 45] n)))) E rfl (run_igeq E.g0 rfl Tryz.underlying3 rfl) fun a E => ep E rfl (a_ rfl E.g0) fun a E => n_ (t_ ?_)
      cases hq90 : (decide (0 ≤ (ixb [59, 44, 46, 58, 40, 41, 123, 125, 91, 93, 61, 60, 62, 47, 45] n))) with
      | false =>
       rw [hq90] at E
       refine c_f E.g0 (k_ (b_ (b_ (t_ ?_))))
       replace htb83 : tb8 w1 b83 (fun i => if i = n then 0 else if i < n then cls0 i else 0) := htb83.ext fun i _ => by by_cases e : i = n <;> simp [e]
       refine r_ (ep (v := .int .i64 ((n : Int) + 1)) E rfl (run_iadd Tryz.underlying3 E.g34 rfl (by omega) (by omega) rfl) fun a E => es_ E rfl (m_ rfl E.g0) fun a E => n_ (t_ ?_))
       have hcv : cls0 n = 0 := by
        unfold cls0
        rw [letq n hlt, digq n hlt, blkq n hlt, symq n hlt]
        try rw [hq86]
        try rw [hq87]
        try rw [hq88]
        try rw [hq89]
        try rw [hq90]
        first | rfl | simp
       have htn : tb8 _ b83 (fun i => if i < n + 1 then cls0 i else 0) := htb83.ext fun i hi => by
        by_cases e : i = n
        ·subst e; simp [hcv]
        ·have : (i < n + 1) = (i < n) := by rw [eq_iff_iff]; omega
         simp [e, this]
       refine ⟨⟨n + 1, E.of ⟨E.g0, E.g36, E.g37, trivial⟩, by omega, htb82, htn, hf⟩, ?_⟩
       rw [E.g0]; simp only [intOf]; omega
      | true =>
       rw [hq90] at E
       refine c_t E.g0 (r_ (ep E rfl (m_ rfl E.g31) fun a E => ep (v := .pointer (some ⟨b83, (0 + n), none⟩)) E rfl (run_index111 (i := n) rfl E.g37 E.g0 hlt) fun a E => env_st8 (v := 6) E rfl (wanted_none rfl _) rfl E.g0 rfl htb83 (by omega) fun w1 htb83n f1 E => ?_))
       have htb82 := htb82.fr f1 nq_
       have hf := hf.trans' f1 (fun _ hr => nq_)
       clear f1
       replace htb83 := htb83n
       refine n_ (b_ (b_ (t_ (r_ (ep (v := .int .i64 ((n : Int) + 1)) E rfl (run_iadd Tryz.underlying3 E.g36 rfl (by omega) (by omega) rfl) fun a E => es_ E rfl (m_ rfl E.g0) fun a E => n_ (t_ ?_))))))
       have hcv : cls0 n = 6 := by
        unfold cls0
        rw [letq n hlt, digq n hlt, blkq n hlt, symq n hlt]
        try rw [hq86]
        try rw [hq87]
        try rw [hq88]
        try rw [hq89]
        try rw [hq90]
        first | rfl | simp
       have htn : tb8 _ b83 (fun i => if i < n + 1 then cls0 i else 0) := htb83.ext fun i hi => by
        by_cases e : i = n
        ·subst e; simp [hcv]
        ·have : (i < n + 1) = (i < n) := by rw [eq_iff_iff]; omega
         simp [e, this]
       refine ⟨⟨n + 1, E.of ⟨E.g0, E.g38, E.g39, trivial⟩, by omega, htb82, htn, hf⟩, ?_⟩
       rw [E.g0]; simp only [intOf]; omega
     | true =>
      rw [hq89] at E
      refine c_t E.g0 (r_ (ep E rfl (m_ rfl E.g27) fun a E => ep (v := .pointer (some ⟨b83, (0 + n), none⟩)) E rfl (run_index111 (i := n) rfl E.g33 E.g0 hlt) fun a E => env_st8 (v := 1) E rfl (wanted_none rfl _) rfl E.g0 rfl htb83 (by omega) fun w1 htb83n f1 E => ?_))
      have htb82 := htb82.fr f1 nq_
      have hf := hf.trans' f1 (fun _ hr => nq_)
      clear f1
      replace htb83 := htb83n
      refine n_ (b_ (b_ (t_ (r_ (ep (v := .int .i64 ((n : Int) + 1)) E rfl (run_iadd Tryz.underlying3 E.g32 rfl (by omega) (by omega) rfl) fun a E => es_ E rfl (m_ rfl E.g0) fun a E => n_ (t_ ?_))))))
      have hcv : cls0 n = 1 := by
       unfold cls0
       rw [letq n hlt, digq n hlt, blkq n hlt, symq n hlt]
       try rw [hq86]
       try rw [hq87]
       try rw [hq88]
       try rw [hq89]
       first | rfl | simp
      have htn : tb8 _ b83 (fun i => if i < n + 1 then cls0 i else 0) := htb83.ext fun i hi => by
       by_cases e : i = n
       ·subst e; simp [hcv]
       ·have : (i < n + 1) = (i < n) := by rw [eq_iff_iff]; omega
        simp [e, this]
      refine ⟨⟨n + 1, E.of ⟨E.g0, E.g34, E.g35, trivial⟩, by omega, htb82, htn, hf⟩, ?_⟩
      rw [E.g0]; simp only [intOf]; omega
    | true =>
     rw [hq88] at E
     refine eg E rfl (wy_ E E.g0) (m_ rfl E.g16) fun a E => eg (v := .bool (decide ((n : Int) ≤ 57))) E rfl (wy_ E E.g1) (run_uleq E.g0 rfl rfl) fun a E => ep (v := .bool (decide ((n : Int) ≤ 57))) E rfl (run_pick_t rfl E.g2 E.g0) fun a E => ep E rfl (a_ rfl E.g0) fun a E => n_ (t_ ?_)
     cases hq91 : (decide ((n : Int) ≤ 57)) with
     | false =>
      rw [hq91] at E
      refine c_f E.g0 (s_ (r_ (ep E rfl (m_ rfl E.g20) fun a E => ec_ (v := .int .i64 (ixb [32, 9, 10] n)) E rfl (run_call2 (enters_of Tryz.func97 (by kernel_rfl) rfl) rfl rfl rfl E.g0) (ixb_calls [32, 9, 10] n hlt _) fun a w1 f1 E => ?_)))
      have htb82 := htb82.fr f1 id
      have htb83 := htb83.fr f1 id
      have hf := hf.trans' f1 (fun _ _ h => h.elim)
      clear f1
      refine ep (v := .bool (decide (0 ≤ (ixb [32, 9, 10] n)))) E rfl (run_igeq E.g0 rfl Tryz.underlying3 rfl) fun a E => ep E rfl (a_ rfl E.g0) fun a E => n_ (t_ ?_)
      cases hq92 : (decide (0 ≤ (ixb [32, 9, 10] n))) with
      | false =>
       rw [hq92] at E
       refine c_f E.g0 (s_ (r_ (ep E rfl (m_ rfl E.g24) fun a E => ec_ (v := .int .i64 (ixb [59, 44, 46, 58, 40, 41, 123, 125, 91, 93, 61, 60, 62, 47, 45] n)) E rfl (run_call2 (enters_of Tryz.func97 (by kernel_rfl) rfl) rfl rfl rfl E.g0) (ixb_calls [59, 44, 46, 58, 40, 41, 123, 125, 91, 93, 61, 60, 62, 47, 45] n hlt _) fun a w1 f1 E => ?_)))
       have htb82 := htb82.fr f1 id
       have htb83 := htb83.fr f1 id
       have hf := hf.trans' f1 (fun _ _ h => h.elim)
       clear f1
       refine ep (v := .bool (decide (0 ≤ (ixb [59, 44, 46, 58, 40, 41, 123, 125, 91, 93, 61, 60, 62, 47, 45] n)))) E rfl (run_igeq E.g0 rfl Tryz.underlying3 rfl) fun a E => ep E rfl (a_ rfl E.g0) fun a E => n_ (t_ ?_)
       cases hq93 : (decide (0 ≤ (ixb [59, 44, 46, 58, 40, 41, 123, 125, 91, 93, 61, 60, 62, 47, 45] n))) with
       | false =>
        rw [hq93] at E
        refine c_f E.g0 (k_ (b_ (b_ (t_ ?_))))
        replace htb83 : tb8 w1 b83 (fun i => if i = n then 0 else if i < n then cls0 i else 0) := htb83.ext fun i _ => by by_cases e : i = n <;> simp [e]
        refine r_ (ep (v := .int .i64 ((n : Int) + 1)) E rfl (run_iadd Tryz.underlying3 E.g34 rfl (by omega) (by omega) rfl) fun a E => es_ E rfl (m_ rfl E.g0) fun a E => n_ (t_ ?_))
        have hcv : cls0 n = 0 := by
         unfold cls0
         rw [letq n hlt, digq n hlt, blkq n hlt, symq n hlt]
         try rw [hq86]
         try rw [hq87]
         try rw [hq88]
         try rw [hq91]
         try rw [hq92]
         try rw [hq93]
         first | rfl | simp
        have htn : tb8 _ b83 (fun i => if i < n + 1 then cls0 i else 0) := htb83.ext fun i hi => by
         by_cases e : i = n
         ·subst e; simp [hcv]
         ·have : (i < n + 1) = (i < n) := by rw [eq_iff_iff]; omega
          simp [e, this]
        refine ⟨⟨n + 1, E.of ⟨E.g0, E.g36, E.g37, trivial⟩, by omega, htb82, htn, hf⟩, ?_⟩
        rw [E.g0]; simp only [intOf]; omega
       | true =>
        rw [hq93] at E
        refine c_t E.g0 (r_ (ep E rfl (m_ rfl E.g31) fun a E => ep (v := .pointer (some ⟨b83, (0 + n), none⟩)) E rfl (run_index111 (i := n) rfl E.g37 E.g0 hlt) fun a E => env_st8 (v := 6) E rfl (wanted_none rfl _) rfl E.g0 rfl htb83 (by omega) fun w1 htb83n f1 E => ?_))
        have htb82 := htb82.fr f1 nq_
        have hf := hf.trans' f1 (fun _ hr => nq_)
        clear f1
        replace htb83 := htb83n
        refine n_ (b_ (b_ (t_ (r_ (ep (v := .int .i64 ((n : Int) + 1)) E rfl (run_iadd Tryz.underlying3 E.g36 rfl (by omega) (by omega) rfl) fun a E => es_ E rfl (m_ rfl E.g0) fun a E => n_ (t_ ?_))))))
        have hcv : cls0 n = 6 := by
         unfold cls0
         rw [letq n hlt, digq n hlt, blkq n hlt, symq n hlt]
         try rw [hq86]
         try rw [hq87]
         try rw [hq88]
         try rw [hq91]
         try rw [hq92]
         try rw [hq93]
         first | rfl | simp
        have htn : tb8 _ b83 (fun i => if i < n + 1 then cls0 i else 0) := htb83.ext fun i hi => by
         by_cases e : i = n
         ·subst e; simp [hcv]
         ·have : (i < n + 1) = (i < n) := by rw [eq_iff_iff]; omega
          simp [e, this]
        refine ⟨⟨n + 1, E.of ⟨E.g0, E.g38, E.g39, trivial⟩, by omega, htb82, htn, hf⟩, ?_⟩
        rw [E.g0]; simp only [intOf]; omega
      | true =>
       rw [hq92] at E
       refine c_t E.g0 (r_ (ep E rfl (m_ rfl E.g27) fun a E => ep (v := .pointer (some ⟨b83, (0 + n), none⟩)) E rfl (run_index111 (i := n) rfl E.g33 E.g0 hlt) fun a E => env_st8 (v := 1) E rfl (wanted_none rfl _) rfl E.g0 rfl htb83 (by omega) fun w1 htb83n f1 E => ?_))
       have htb82 := htb82.fr f1 nq_
       have hf := hf.trans' f1 (fun _ hr => nq_)
       clear f1
       replace htb83 := htb83n
       refine n_ (b_ (b_ (t_ (r_ (ep (v := .int .i64 ((n : Int) + 1)) E rfl (run_iadd Tryz.underlying3 E.g32 rfl (by omega) (by omega) rfl) fun a E => es_ E rfl (m_ rfl E.g0) fun a E => n_ (t_ ?_))))))
       have hcv : cls0 n = 1 := by
        unfold cls0
        rw [letq n hlt, digq n hlt, blkq n hlt, symq n hlt]
        try rw [hq86]
        try rw [hq87]
        try rw [hq88]
        try rw [hq91]
        try rw [hq92]
        first | rfl | simp
       have htn : tb8 _ b83 (fun i => if i < n + 1 then cls0 i else 0) := htb83.ext fun i hi => by
        by_cases e : i = n
        ·subst e; simp [hcv]
        ·have : (i < n + 1) = (i < n) := by rw [eq_iff_iff]; omega
         simp [e, this]
       refine ⟨⟨n + 1, E.of ⟨E.g0, E.g34, E.g35, trivial⟩, by omega, htb82, htn, hf⟩, ?_⟩
       rw [E.g0]; simp only [intOf]; omega
     | true =>
      rw [hq91] at E
      refine c_t E.g0 (r_ (ep E rfl (m_ rfl E.g23) fun a E => ep (v := .pointer (some ⟨b83, (0 + n), none⟩)) E rfl (run_index111 (i := n) rfl E.g29 E.g0 hlt) fun a E => env_st8 (v := 4) E rfl (wanted_none rfl _) rfl E.g0 rfl htb83 (by omega) fun w1 htb83n f1 E => ?_))
      have htb82 := htb82.fr f1 nq_
      have hf := hf.trans' f1 (fun _ hr => nq_)
      clear f1
      replace htb83 := htb83n
      refine n_ (b_ (b_ (t_ (r_ (ep (v := .int .i64 ((n : Int) + 1)) E rfl (run_iadd Tryz.underlying3 E.g28 rfl (by omega) (by omega) rfl) fun a E => es_ E rfl (m_ rfl E.g0) fun a E => n_ (t_ ?_))))))
      have hcv : cls0 n = 4 := by
       unfold cls0
       rw [letq n hlt, digq n hlt, blkq n hlt, symq n hlt]
       try rw [hq86]
       try rw [hq87]
       try rw [hq88]
       try rw [hq91]
       first | rfl | simp
      have htn : tb8 _ b83 (fun i => if i < n + 1 then cls0 i else 0) := htb83.ext fun i hi => by
       by_cases e : i = n
       ·subst e; simp [hcv]
       ·have : (i < n + 1) = (i < n) := by rw [eq_iff_iff]; omega
        simp [e, this]
      refine ⟨⟨n + 1, E.of ⟨E.g0, E.g30, E.g31, trivial⟩, by omega, htb82, htn, hf⟩, ?_⟩
      rw [E.g0]; simp only [intOf]; omega
   | true =>
    rw [hq87] at E
    refine eg E rfl (wy_ E E.g0) (m_ rfl E.g10) fun a E => eg (v := .bool (decide ((n : Int) ≤ 90))) E rfl (wy_ E E.g1) (run_uleq E.g0 rfl rfl) fun a E => ep (v := .bool (decide ((n : Int) ≤ 90))) E rfl (run_pick_t rfl E.g2 E.g0) fun a E => es_ E rfl (a_ rfl E.g0) fun a E => n_ (t_ ?_)
    cases hq94 : (decide ((n : Int) ≤ 90)) with
    | false =>
     rw [hq94] at E
     refine c_f E.g0 (s_ (r_ (ep E rfl (m_ rfl E.g13) fun a E => ep (v := .bool (decide (48 ≤ (n : Int)))) E rfl (run_uleq rfl E.g0 rfl) fun a E => ep E rfl (m_ rfl E.g0) fun a E => ?_)))
     cases hq95 : (decide (48 ≤ (n : Int))) with
     | false =>
      rw [hq95] at E
      refine ek E rfl rfl E.g0 fun a E => ek E rfl rfl E.g1 fun a E => ep (v := .bool false) E rfl (run_pick_f rfl E.g2 rfl) fun a E => ep E rfl (a_ rfl E.g0) fun a E => n_ (t_ (c_f E.g0 (s_ (r_ (ep E rfl (m_ rfl E.g20) fun a E => ec_ (v := .int .i64 (ixb [32, 9, 10] n)) E rfl (run_call2 (enters_of Tryz.func97 (by kernel_rfl) rfl) rfl rfl rfl E.g0) (ixb_calls [32, 9, 10] n hlt _) fun a w1 f1 E => ?_)))))
      have htb82 := htb82.fr f1 id
      have htb83 := htb83.fr f1 id
      have hf := hf.trans' f1 (fun _ _ h => h.elim)
      clear f1
      refine ep (v := .bool (decide (0 ≤ (ixb [32, 9, 10] n)))) E rfl (run_igeq E.g0 rfl Tryz.underlying3 rfl) fun a E => ep E rfl (a_ rfl E.g0) fun a E => n_ (t_ ?_)
      cases hq96 : (decide (0 ≤ (ixb [32, 9, 10] n))) with
      | false =>
       rw [hq96] at E
       refine c_f E.g0 (s_ (r_ (ep E rfl (m_ rfl E.g24) fun a E => ec_ (v := .int .i64 (ixb [59, 44, 46, 58, 40, 41, 123, 125, 91, 93, 61, 60, 62, 47, 45] n)) E rfl (run_call2 (enters_of Tryz.func97 (by kernel_rfl) rfl) rfl rfl rfl E.g0) (ixb_calls [59, 44, 46, 58, 40, 41, 123, 125, 91, 93, 61, 60, 62, 47, 45] n hlt _) fun a w1 f1 E => ?_)))
       have htb82 := htb82.fr f1 id
       have htb83 := htb83.fr f1 id
       have hf := hf.trans' f1 (fun _ _ h => h.elim)
       clear f1
       refine ep (v := .bool (decide (0 ≤ (ixb [59, 44, 46, 58, 40, 41, 123, 125, 91, 93, 61, 60, 62, 47, 45] n)))) E rfl (run_igeq E.g0 rfl Tryz.underlying3 rfl) fun a E => ep E rfl (a_ rfl E.g0) fun a E => n_ (t_ ?_)
       cases hq97 : (decide (0 ≤ (ixb [59, 44, 46, 58, 40, 41, 123, 125, 91, 93, 61, 60, 62, 47, 45] n))) with
       | false =>
        rw [hq97] at E
        refine c_f E.g0 (k_ (b_ (b_ (t_ ?_))))
        replace htb83 : tb8 w1 b83 (fun i => if i = n then 0 else if i < n then cls0 i else 0) := htb83.ext fun i _ => by by_cases e : i = n <;> simp [e]
        refine r_ (ep (v := .int .i64 ((n : Int) + 1)) E rfl (run_iadd Tryz.underlying3 E.g34 rfl (by omega) (by omega) rfl) fun a E => es_ E rfl (m_ rfl E.g0) fun a E => n_ (t_ ?_))
        have hcv : cls0 n = 0 := by
         unfold cls0
         rw [letq n hlt, digq n hlt, blkq n hlt, symq n hlt]
         try rw [hq86]
         try rw [hq87]
         try rw [hq94]
         try rw [hq95]
         try rw [hq96]
         try rw [hq97]
         first | rfl | simp
        have htn : tb8 _ b83 (fun i => if i < n + 1 then cls0 i else 0) := htb83.ext fun i hi => by
         by_cases e : i = n
         ·subst e; simp [hcv]
         ·have : (i < n + 1) = (i < n) := by rw [eq_iff_iff]; omega
          simp [e, this]
        refine ⟨⟨n + 1, E.of ⟨E.g0, E.g36, E.g37, trivial⟩, by omega, htb82, htn, hf⟩, ?_⟩
        rw [E.g0]; simp only [intOf]; omega
       | true =>
        rw [hq97] at E
        refine c_t E.g0 (r_ (ep E rfl (m_ rfl E.g31) fun a E => ep (v := .pointer (some ⟨b83, (0 + n), none⟩)) E rfl (run_index111 (i := n) rfl E.g37 E.g0 hlt) fun a E => env_st8 (v := 6) E rfl (wanted_none rfl _) rfl E.g0 rfl htb83 (by omega) fun w1 htb83n f1 E => ?_))
        have htb82 := htb82.fr f1 nq_
        have hf := hf.trans' f1 (fun _ hr => nq_)
        clear f1
        replace htb83 := htb83n
        refine n_ (b_ (b_ (t_ (r_ (ep (v := .int .i64 ((n : Int) + 1)) E rfl (run_iadd Tryz.underlying3 E.g36 rfl (by omega) (by omega) rfl) fun a E => es_ E rfl (m_ rfl E.g0) fun a E => n_ (t_ ?_))))))
        have hcv : cls0 n = 6 := by
         unfold cls0
         rw [letq n hlt, digq n hlt, blkq n hlt, symq n hlt]
         try rw [hq86]
         try rw [hq87]
         try rw [hq94]
         try rw [hq95]
         try rw [hq96]
         try rw [hq97]
         first | rfl | simp
        have htn : tb8 _ b83 (fun i => if i < n + 1 then cls0 i else 0) := htb83.ext fun i hi => by
         by_cases e : i = n
         ·subst e; simp [hcv]
         ·have : (i < n + 1) = (i < n) := by rw [eq_iff_iff]; omega
          simp [e, this]
        refine ⟨⟨n + 1, E.of ⟨E.g0, E.g38, E.g39, trivial⟩, by omega, htb82, htn, hf⟩, ?_⟩
        rw [E.g0]; simp only [intOf]; omega
      | true =>
       rw [hq96] at E
       refine c_t E.g0 (r_ (ep E rfl (m_ rfl E.g27) fun a E => ep (v := .pointer (some ⟨b83, (0 + n), none⟩)) E rfl (run_index111 (i := n) rfl E.g33 E.g0 hlt) fun a E => env_st8 (v := 1) E rfl (wanted_none rfl _) rfl E.g0 rfl htb83 (by omega) fun w1 htb83n f1 E => ?_))
       have htb82 := htb82.fr f1 nq_
       have hf := hf.trans' f1 (fun _ hr => nq_)
       clear f1
       replace htb83 := htb83n
       refine n_ (b_ (b_ (t_ (r_ (ep (v := .int .i64 ((n : Int) + 1)) E rfl (run_iadd Tryz.underlying3 E.g32 rfl (by omega) (by omega) rfl) fun a E => es_ E rfl (m_ rfl E.g0) fun a E => n_ (t_ ?_))))))
       have hcv : cls0 n = 1 := by
        unfold cls0
        rw [letq n hlt, digq n hlt, blkq n hlt, symq n hlt]
        try rw [hq86]
        try rw [hq87]
        try rw [hq94]
        try rw [hq95]
        try rw [hq96]
        first | rfl | simp
       have htn : tb8 _ b83 (fun i => if i < n + 1 then cls0 i else 0) := htb83.ext fun i hi => by
        by_cases e : i = n
        ·subst e; simp [hcv]
        ·have : (i < n + 1) = (i < n) := by rw [eq_iff_iff]; omega
         simp [e, this]
       refine ⟨⟨n + 1, E.of ⟨E.g0, E.g34, E.g35, trivial⟩, by omega, htb82, htn, hf⟩, ?_⟩
       rw [E.g0]; simp only [intOf]; omega
     | true =>
      rw [hq95] at E
      refine eg E rfl (wy_ E E.g0) (m_ rfl E.g16) fun a E => eg (v := .bool (decide ((n : Int) ≤ 57))) E rfl (wy_ E E.g1) (run_uleq E.g0 rfl rfl) fun a E => ep (v := .bool (decide ((n : Int) ≤ 57))) E rfl (run_pick_t rfl E.g2 E.g0) fun a E => ep E rfl (a_ rfl E.g0) fun a E => n_ (t_ ?_)
      cases hq98 : (decide ((n : Int) ≤ 57)) with
      | false =>
       rw [hq98] at E
       refine c_f E.g0 (s_ (r_ (ep E rfl (m_ rfl E.g20) fun a E => ec_ (v := .int .i64 (ixb [32, 9, 10] n)) E rfl (run_call2 (enters_of Tryz.func97 (by kernel_rfl) rfl) rfl rfl rfl E.g0) (ixb_calls [32, 9, 10] n hlt _) fun a w1 f1 E => ?_)))
       have htb82 := htb82.fr f1 id
       have htb83 := htb83.fr f1 id
       have hf := hf.trans' f1 (fun _ _ h => h.elim)
       clear f1
       refine ep (v := .bool (decide (0 ≤ (ixb [32, 9, 10] n)))) E rfl (run_igeq E.g0 rfl Tryz.underlying3 rfl) fun a E => ep E rfl (a_ rfl E.g0) fun a E => n_ (t_ ?_)
       cases hq99 : (decide (0 ≤ (ixb [32, 9, 10] n))) with
       | false =>
        rw [hq99] at E
        refine c_f E.g0 (s_ (r_ (ep E rfl (m_ rfl E.g24) fun a E => ec_ (v := .int .i64 (ixb [59, 44, 46, 58, 40, 41, 123, 125, 91, 93, 61, 60, 62, 47, 45] n)) E rfl (run_call2 (enters_of Tryz.func97 (by kernel_rfl) rfl) rfl rfl rfl E.g0) (ixb_calls [59, 44, 46, 58, 40, 41, 123, 125, 91, 93, 61, 60, 62, 47, 45] n hlt _) fun a w1 f1 E => ?_)))
        have htb82 := htb82.fr f1 id
        have htb83 := htb83.fr f1 id
        have hf := hf.trans' f1 (fun _ _ h => h.elim)
        clear f1
        refine ep (v := .bool (decide (0 ≤ (ixb [59, 44, 46, 58, 40, 41, 123, 125, 91, 93, 61, 60, 62, 47, 45] n)))) E rfl (run_igeq E.g0 rfl Tryz.underlying3 rfl) fun a E => ep E rfl (a_ rfl E.g0) fun a E => n_ (t_ ?_)
        cases hq100 : (decide (0 ≤ (ixb [59, 44, 46, 58, 40, 41, 123, 125, 91, 93, 61, 60, 62, 47, 45] n))) with
        | false =>
         rw [hq100] at E
         refine c_f E.g0 (k_ (b_ (b_ (t_ ?_))))
         replace htb83 : tb8 w1 b83 (fun i => if i = n then 0 else if i < n then cls0 i else 0) := htb83.ext fun i _ => by by_cases e : i = n <;> simp [e]
         refine r_ (ep (v := .int .i64 ((n : Int) + 1)) E rfl (run_iadd Tryz.underlying3 E.g34 rfl (by omega) (by omega) rfl) fun a E => es_ E rfl (m_ rfl E.g0) fun a E => n_ (t_ ?_))
         have hcv : cls0 n = 0 := by
          unfold cls0
          rw [letq n hlt, digq n hlt, blkq n hlt, symq n hlt]
          try rw [hq86]
          try rw [hq87]
          try rw [hq94]
          try rw [hq95]
          try rw [hq98]
          try rw [hq99]
          try rw [hq100]
          first | rfl | simp
         have htn : tb8 _ b83 (fun i => if i < n + 1 then cls0 i else 0) := htb83.ext fun i hi => by
          by_cases e : i = n
          ·subst e; simp [hcv]
          ·have : (i < n + 1) = (i < n) := by rw [eq_iff_iff]; omega
           simp [e, this]
         refine ⟨⟨n + 1, E.of ⟨E.g0, E.g36, E.g37, trivial⟩, by omega, htb82, htn, hf⟩, ?_⟩
         rw [E.g0]; simp only [intOf]; omega
        | true =>
         rw [hq100] at E
         refine c_t E.g0 (r_ (ep E rfl (m_ rfl E.g31) fun a E => ep (v := .pointer (some ⟨b83, (0 + n), none⟩)) E rfl (run_index111 (i := n) rfl E.g37 E.g0 hlt) fun a E => env_st8 (v := 6) E rfl (wanted_none rfl _) rfl E.g0 rfl htb83 (by omega) fun w1 htb83n f1 E => ?_))
         have htb82 := htb82.fr f1 nq_
         have hf := hf.trans' f1 (fun _ hr => nq_)
         clear f1
         replace htb83 := htb83n
         refine n_ (b_ (b_ (t_ (r_ (ep (v := .int .i64 ((n : Int) + 1)) E rfl (run_iadd Tryz.underlying3 E.g36 rfl (by omega) (by omega) rfl) fun a E => es_ E rfl (m_ rfl E.g0) fun a E => n_ (t_ ?_))))))
         have hcv : cls0 n = 6 := by
          unfold cls0
          rw [letq n hlt, digq n hlt, blkq n hlt, symq n hlt]
          try rw [hq86]
          try rw [hq87]
          try rw [hq94]
          try rw [hq95]
          try rw [hq98]
          try rw [hq99]
          try rw [hq100]
          first | rfl | simp
         have htn : tb8 _ b83 (fun i => if i < n + 1 then cls0 i else 0) := htb83.ext fun i hi => by
          by_cases e : i = n
          ·subst e; simp [hcv]
          ·have : (i < n + 1) = (i < n) := by rw [eq_iff_iff]; omega
           simp [e, this]
         refine ⟨⟨n + 1, E.of ⟨E.g0, E.g38, E.g39, trivial⟩, by omega, htb82, htn, hf⟩, ?_⟩
         rw [E.g0]; simp only [intOf]; omega
       | true =>
        rw [hq99] at E
        refine c_t E.g0 (r_ (ep E rfl (m_ rfl E.g27) fun a E => ep (v := .pointer (some ⟨b83, (0 + n), none⟩)) E rfl (run_index111 (i := n) rfl E.g33 E.g0 hlt) fun a E => env_st8 (v := 1) E rfl (wanted_none rfl _) rfl E.g0 rfl htb83 (by omega) fun w1 htb83n f1 E => ?_))
        have htb82 := htb82.fr f1 nq_
        have hf := hf.trans' f1 (fun _ hr => nq_)
        clear f1
        replace htb83 := htb83n
        refine n_ (b_ (b_ (t_ (r_ (ep (v := .int .i64 ((n : Int) + 1)) E rfl (run_iadd Tryz.underlying3 E.g32 rfl (by omega) (by omega) rfl) fun a E => es_ E rfl (m_ rfl E.g0) fun a E => n_ (t_ ?_))))))
        have hcv : cls0 n = 1 := by
         unfold cls0
         rw [letq n hlt, digq n hlt, blkq n hlt, symq n hlt]
         try rw [hq86]
         try rw [hq87]
         try rw [hq94]
         try rw [hq95]
         try rw [hq98]
         try rw [hq99]
         first | rfl | simp
        have htn : tb8 _ b83 (fun i => if i < n + 1 then cls0 i else 0) := htb83.ext fun i hi => by
         by_cases e : i = n
         ·subst e; simp [hcv]
         ·have : (i < n + 1) = (i < n) := by rw [eq_iff_iff]; omega
          simp [e, this]
        refine ⟨⟨n + 1, E.of ⟨E.g0, E.g34, E.g35, trivial⟩, by omega, htb82, htn, hf⟩, ?_⟩
        rw [E.g0]; simp only [intOf]; omega
      | true =>
       rw [hq98] at E
       refine c_t E.g0 (r_ (ep E rfl (m_ rfl E.g23) fun a E => ep (v := .pointer (some ⟨b83, (0 + n), none⟩)) E rfl (run_index111 (i := n) rfl E.g29 E.g0 hlt) fun a E => env_st8 (v := 4) E rfl (wanted_none rfl _) rfl E.g0 rfl htb83 (by omega) fun w1 htb83n f1 E => ?_))
       have htb82 := htb82.fr f1 nq_
       have hf := hf.trans' f1 (fun _ hr => nq_)
       clear f1
       replace htb83 := htb83n
       refine n_ (b_ (b_ (t_ (r_ (ep (v := .int .i64 ((n : Int) + 1)) E rfl (run_iadd Tryz.underlying3 E.g28 rfl (by omega) (by omega) rfl) fun a E => es_ E rfl (m_ rfl E.g0) fun a E => n_ (t_ ?_))))))
       have hcv : cls0 n = 4 := by
        unfold cls0
        rw [letq n hlt, digq n hlt, blkq n hlt, symq n hlt]
        try rw [hq86]
        try rw [hq87]
        try rw [hq94]
        try rw [hq95]
        try rw [hq98]
        first | rfl | simp
       have htn : tb8 _ b83 (fun i => if i < n + 1 then cls0 i else 0) := htb83.ext fun i hi => by
        by_cases e : i = n
        ·subst e; simp [hcv]
        ·have : (i < n + 1) = (i < n) := by rw [eq_iff_iff]; omega
         simp [e, this]
       refine ⟨⟨n + 1, E.of ⟨E.g0, E.g30, E.g31, trivial⟩, by omega, htb82, htn, hf⟩, ?_⟩
       rw [E.g0]; simp only [intOf]; omega
    | true =>
     rw [hq94] at E
     refine c_t E.g0 (r_ (ep E rfl (m_ rfl E.g16) fun a E => ep (v := .pointer (some ⟨b83, (0 + n), none⟩)) E rfl (run_index111 (i := n) rfl E.g22 E.g0 hlt) fun a E => env_st8 (v := 3) E rfl (wanted_none rfl _) rfl E.g0 rfl htb83 (by omega) fun w1 htb83n f1 E => ?_))
     have htb82 := htb82.fr f1 nq_
     have hf := hf.trans' f1 (fun _ hr => nq_)
     clear f1
     replace htb83 := htb83n
     refine n_ (b_ (b_ (t_ (r_ (ep (v := .int .i64 ((n : Int) + 1)) E rfl (run_iadd Tryz.underlying3 E.g21 rfl (by omega) (by omega) rfl) fun a E => es_ E rfl (m_ rfl E.g0) fun a E => n_ (t_ ?_))))))
     have hcv : cls0 n = 3 := by
      unfold cls0
      rw [letq n hlt, digq n hlt, blkq n hlt, symq n hlt]
      try rw [hq86]
      try rw [hq87]
      try rw [hq94]
      first | rfl | simp
     have htn : tb8 _ b83 (fun i => if i < n + 1 then cls0 i else 0) := htb83.ext fun i hi => by
      by_cases e : i = n
      ·subst e; simp [hcv]
      ·have : (i < n + 1) = (i < n) := by rw [eq_iff_iff]; omega
       simp [e, this]
     refine ⟨⟨n + 1, E.of ⟨E.g0, E.g23, E.g24, trivial⟩, by omega, htb82, htn, hf⟩, ?_⟩
     rw [E.g0]; simp only [intOf]; omega
  | true =>
   rw [hq86] at E
   refine eg E rfl (wy_ E E.g0) (m_ rfl E.g3) fun a E => eg (v := .bool (decide ((n : Int) ≤ 122))) E rfl (wy_ E E.g1) (run_uleq E.g0 rfl rfl) fun a E => ep (v := .bool (decide ((n : Int) ≤ 122))) E rfl (run_pick_t rfl E.g2 E.g0) fun a E => ep E rfl (a_ rfl E.g0) fun a E => n_ (t_ ?_)
   cases hq101 : (decide ((n : Int) ≤ 122)) with
   | false =>
    rw [hq101] at E
    refine c_f E.g0 (r_ (ep E rfl (m_ rfl E.g7) fun a E => ep (v := .bool (decide (65 ≤ (n : Int)))) E rfl (run_uleq rfl E.g0 rfl) fun a E => ep E rfl (m_ rfl E.g0) fun a E => ?_))
    cases hq102 : (decide (65 ≤ (n : Int))) with
    | false =>
     rw [hq102] at E
     refine ek E rfl rfl E.g0 fun a E => ek E rfl rfl E.g1 fun a E => ep (v := .bool false) E rfl (run_pick_f rfl E.g2 rfl) fun a E => es_ E rfl (a_ rfl E.g0) fun a E => n_ (t_ (c_f E.g0 (s_ (r_ (ep E rfl (m_ rfl E.g13) fun a E => ep (v := .bool (decide (48 ≤ (n : Int)))) E rfl (run_uleq rfl E.g0 rfl) fun a E => ep E rfl (m_ rfl E.g0) fun a E => ?_)))))
     cases hq103 : (decide (48 ≤ (n : Int))) with
     | false =>
      rw [hq103] at E
      refine ek E rfl rfl E.g0 fun a E => ek E rfl rfl E.g1 fun a E => ep (v := .bool false) E rfl (run_pick_f rfl E.g2 rfl) fun a E => ep E rfl (a_ rfl E.g0) fun a E => n_ (t_ (c_f E.g0 (s_ (r_ (ep E rfl (m_ rfl E.g20) fun a E => ec_ (v := .int .i64 (ixb [32, 9, 10] n)) E rfl (run_call2 (enters_of Tryz.func97 (by kernel_rfl) rfl) rfl rfl rfl E.g0) (ixb_calls [32, 9, 10] n hlt _) fun a w1 f1 E => ?_)))))
      have htb82 := htb82.fr f1 id
      have htb83 := htb83.fr f1 id
      have hf := hf.trans' f1 (fun _ _ h => h.elim)
      clear f1
      refine ep (v := .bool (decide (0 ≤ (ixb [32, 9, 10] n)))) E rfl (run_igeq E.g0 rfl Tryz.underlying3 rfl) fun a E => ep E rfl (a_ rfl E.g0) fun a E => n_ (t_ ?_)
      cases hq104 : (decide (0 ≤ (ixb [32, 9, 10] n))) with
      | false =>
       rw [hq104] at E
       refine c_f E.g0 (s_ (r_ (ep E rfl (m_ rfl E.g24) fun a E => ec_ (v := .int .i64 (ixb [59, 44, 46, 58, 40, 41, 123, 125, 91, 93, 61, 60, 62, 47, 45] n)) E rfl (run_call2 (enters_of Tryz.func97 (by kernel_rfl) rfl) rfl rfl rfl E.g0) (ixb_calls [59, 44, 46, 58, 40, 41, 123, 125, 91, 93, 61, 60, 62, 47, 45] n hlt _) fun a w1 f1 E => ?_)))
       have htb82 := htb82.fr f1 id
       have htb83 := htb83.fr f1 id
       have hf := hf.trans' f1 (fun _ _ h => h.elim)
       clear f1
       refine ep (v := .bool (decide (0 ≤ (ixb [59, 44, 46, 58, 40, 41, 123, 125, 91, 93, 61, 60, 62, 47, 45] n)))) E rfl (run_igeq E.g0 rfl Tryz.underlying3 rfl) fun a E => ep E rfl (a_ rfl E.g0) fun a E => n_ (t_ ?_)
       cases hq105 : (decide (0 ≤ (ixb [59, 44, 46, 58, 40, 41, 123, 125, 91, 93, 61, 60, 62, 47, 45] n))) with
       | false =>
        rw [hq105] at E
        refine c_f E.g0 (k_ (b_ (b_ (t_ ?_))))
        replace htb83 : tb8 w1 b83 (fun i => if i = n then 0 else if i < n then cls0 i else 0) := htb83.ext fun i _ => by by_cases e : i = n <;> simp [e]
        refine r_ (ep (v := .int .i64 ((n : Int) + 1)) E rfl (run_iadd Tryz.underlying3 E.g34 rfl (by omega) (by omega) rfl) fun a E => es_ E rfl (m_ rfl E.g0) fun a E => n_ (t_ ?_))
        have hcv : cls0 n = 0 := by
         unfold cls0
         rw [letq n hlt, digq n hlt, blkq n hlt, symq n hlt]
         try rw [hq86]
         try rw [hq101]
         try rw [hq102]
         try rw [hq103]
         try rw [hq104]
         try rw [hq105]
         first | rfl | simp
        have htn : tb8 _ b83 (fun i => if i < n + 1 then cls0 i else 0) := htb83.ext fun i hi => by
         by_cases e : i = n
         ·subst e; simp [hcv]
         ·have : (i < n + 1) = (i < n) := by rw [eq_iff_iff]; omega
          simp [e, this]
        refine ⟨⟨n + 1, E.of ⟨E.g0, E.g36, E.g37, trivial⟩, by omega, htb82, htn, hf⟩, ?_⟩
        rw [E.g0]; simp only [intOf]; omega
       | true =>
        rw [hq105] at E
        refine c_t E.g0 (r_ (ep E rfl (m_ rfl E.g31) fun a E => ep (v := .pointer (some ⟨b83, (0 + n), none⟩)) E rfl (run_index111 (i := n) rfl E.g37 E.g0 hlt) fun a E => env_st8 (v := 6) E rfl (wanted_none rfl _) rfl E.g0 rfl htb83 (by omega) fun w1 htb83n f1 E => ?_))
        have htb82 := htb82.fr f1 nq_
        have hf := hf.trans' f1 (fun _ hr => nq_)
        clear f1
        replace htb83 := htb83n
        refine n_ (b_ (b_ (t_ (r_ (ep (v := .int .i64 ((n : Int) + 1)) E rfl (run_iadd Tryz.underlying3 E.g36 rfl (by omega) (by omega) rfl) fun a E => es_ E rfl (m_ rfl E.g0) fun a E => n_ (t_ ?_))))))
        have hcv : cls0 n = 6 := by
         unfold cls0
         rw [letq n hlt, digq n hlt, blkq n hlt, symq n hlt]
         try rw [hq86]
         try rw [hq101]
         try rw [hq102]
         try rw [hq103]
         try rw [hq104]
         try rw [hq105]
         first | rfl | simp
        have htn : tb8 _ b83 (fun i => if i < n + 1 then cls0 i else 0) := htb83.ext fun i hi => by
         by_cases e : i = n
         ·subst e; simp [hcv]
         ·have : (i < n + 1) = (i < n) := by rw [eq_iff_iff]; omega
          simp [e, this]
        refine ⟨⟨n + 1, E.of ⟨E.g0, E.g38, E.g39, trivial⟩, by omega, htb82, htn, hf⟩, ?_⟩
        rw [E.g0]; simp only [intOf]; omega
      | true =>
       rw [hq104] at E
       refine c_t E.g0 (r_ (ep E rfl (m_ rfl E.g27) fun a E => ep (v := .pointer (some ⟨b83, (0 + n), none⟩)) E rfl (run_index111 (i := n) rfl E.g33 E.g0 hlt) fun a E => env_st8 (v := 1) E rfl (wanted_none rfl _) rfl E.g0 rfl htb83 (by omega) fun w1 htb83n f1 E => ?_))
       have htb82 := htb82.fr f1 nq_
       have hf := hf.trans' f1 (fun _ hr => nq_)
       clear f1
       replace htb83 := htb83n
       refine n_ (b_ (b_ (t_ (r_ (ep (v := .int .i64 ((n : Int) + 1)) E rfl (run_iadd Tryz.underlying3 E.g32 rfl (by omega) (by omega) rfl) fun a E => es_ E rfl (m_ rfl E.g0) fun a E => n_ (t_ ?_))))))
       have hcv : cls0 n = 1 := by
        unfold cls0
        rw [letq n hlt, digq n hlt, blkq n hlt, symq n hlt]
        try rw [hq86]
        try rw [hq101]
        try rw [hq102]
        try rw [hq103]
        try rw [hq104]
        first | rfl | simp
       have htn : tb8 _ b83 (fun i => if i < n + 1 then cls0 i else 0) := htb83.ext fun i hi => by
        by_cases e : i = n
        ·subst e; simp [hcv]
        ·have : (i < n + 1) = (i < n) := by rw [eq_iff_iff]; omega
         simp [e, this]
       refine ⟨⟨n + 1, E.of ⟨E.g0, E.g34, E.g35, trivial⟩, by omega, htb82, htn, hf⟩, ?_⟩
       rw [E.g0]; simp only [intOf]; omega
     | true =>
      rw [hq103] at E
      refine eg E rfl (wy_ E E.g0) (m_ rfl E.g16) fun a E => eg (v := .bool (decide ((n : Int) ≤ 57))) E rfl (wy_ E E.g1) (run_uleq E.g0 rfl rfl) fun a E => ep (v := .bool (decide ((n : Int) ≤ 57))) E rfl (run_pick_t rfl E.g2 E.g0) fun a E => ep E rfl (a_ rfl E.g0) fun a E => n_ (t_ ?_)
      cases hq106 : (decide ((n : Int) ≤ 57)) with
      | false =>
       rw [hq106] at E
       refine c_f E.g0 (s_ (r_ (ep E rfl (m_ rfl E.g20) fun a E => ec_ (v := .int .i64 (ixb [32, 9, 10] n)) E rfl (run_call2 (enters_of Tryz.func97 (by kernel_rfl) rfl) rfl rfl rfl E.g0) (ixb_calls [32, 9, 10] n hlt _) fun a w1 f1 E => ?_)))
       have htb82 := htb82.fr f1 id
       have htb83 := htb83.fr f1 id
       have hf := hf.trans' f1 (fun _ _ h => h.elim)
       clear f1
       refine ep (v := .bool (decide (0 ≤ (ixb [32, 9, 10] n)))) E rfl (run_igeq E.g0 rfl Tryz.underlying3 rfl) fun a E => ep E rfl (a_ rfl E.g0) fun a E => n_ (t_ ?_)
       cases hq107 : (decide (0 ≤ (ixb [32, 9, 10] n))) with
       | false =>
        rw [hq107] at E
        refine c_f E.g0 (s_ (r_ (ep E rfl (m_ rfl E.g24) fun a E => ec_ (v := .int .i64 (ixb [59, 44, 46, 58, 40, 41, 123, 125, 91, 93, 61, 60, 62, 47, 45] n)) E rfl (run_call2 (enters_of Tryz.func97 (by kernel_rfl) rfl) rfl rfl rfl E.g0) (ixb_calls [59, 44, 46, 58, 40, 41, 123, 125, 91, 93, 61, 60, 62, 47, 45] n hlt _) fun a w1 f1 E => ?_)))
        have htb82 := htb82.fr f1 id
        have htb83 := htb83.fr f1 id
        have hf := hf.trans' f1 (fun _ _ h => h.elim)
        clear f1
        refine ep (v := .bool (decide (0 ≤ (ixb [59, 44, 46, 58, 40, 41, 123, 125, 91, 93, 61, 60, 62, 47, 45] n)))) E rfl (run_igeq E.g0 rfl Tryz.underlying3 rfl) fun a E => ep E rfl (a_ rfl E.g0) fun a E => n_ (t_ ?_)
        cases hq108 : (decide (0 ≤ (ixb [59, 44, 46, 58, 40, 41, 123, 125, 91, 93, 61, 60, 62, 47, 45] n))) with
        | false =>
         rw [hq108] at E
         refine c_f E.g0 (k_ (b_ (b_ (t_ ?_))))
         replace htb83 : tb8 w1 b83 (fun i => if i = n then 0 else if i < n then cls0 i else 0) := htb83.ext fun i _ => by by_cases e : i = n <;> simp [e]
         refine r_ (ep (v := .int .i64 ((n : Int) + 1)) E rfl (run_iadd Tryz.underlying3 E.g34 rfl (by omega) (by omega) rfl) fun a E => es_ E rfl (m_ rfl E.g0) fun a E => n_ (t_ ?_))
         have hcv : cls0 n = 0 := by
          unfold cls0
          rw [letq n hlt, digq n hlt, blkq n hlt, symq n hlt]
          try rw [hq86]
          try rw [hq101]
          try rw [hq102]
          try rw [hq103]
          try rw [hq106]
          try rw [hq107]
          try rw [hq108]
          first | rfl | simp
         have htn : tb8 _ b83 (fun i => if i < n + 1 then cls0 i else 0) := htb83.ext fun i hi => by
          by_cases e : i = n
          ·subst e; simp [hcv]
          ·have : (i < n + 1) = (i < n) := by rw [eq_iff_iff]; omega
           simp [e, this]
         refine ⟨⟨n + 1, E.of ⟨E.g0, E.g36, E.g37, trivial⟩, by omega, htb82, htn, hf⟩, ?_⟩
         rw [E.g0]; simp only [intOf]; omega
        | true =>
         rw [hq108] at E
         refine c_t E.g0 (r_ (ep E rfl (m_ rfl E.g31) fun a E => ep (v := .pointer (some ⟨b83, (0 + n), none⟩)) E rfl (run_index111 (i := n) rfl E.g37 E.g0 hlt) fun a E => env_st8 (v := 6) E rfl (wanted_none rfl _) rfl E.g0 rfl htb83 (by omega) fun w1 htb83n f1 E => ?_))
         have htb82 := htb82.fr f1 nq_
         have hf := hf.trans' f1 (fun _ hr => nq_)
         clear f1
         replace htb83 := htb83n
         refine n_ (b_ (b_ (t_ (r_ (ep (v := .int .i64 ((n : Int) + 1)) E rfl (run_iadd Tryz.underlying3 E.g36 rfl (by omega) (by omega) rfl) fun a E => es_ E rfl (m_ rfl E.g0) fun a E => n_ (t_ ?_))))))
         have hcv : cls0 n = 6 := by
          unfold cls0
          rw [letq n hlt, digq n hlt, blkq n hlt, symq n hlt]
          try rw [hq86]
          try rw [hq101]
          try rw [hq102]
          try rw [hq103]
          try rw [hq106]
          try rw [hq107]
          try rw [hq108]
          first | rfl | simp
         have htn : tb8 _ b83 (fun i => if i < n + 1 then cls0 i else 0) := htb83.ext fun i hi => by
          by_cases e : i = n
          ·subst e; simp [hcv]
          ·have : (i < n + 1) = (i < n) := by rw [eq_iff_iff]; omega
           simp [e, this]
         refine ⟨⟨n + 1, E.of ⟨E.g0, E.g38, E.g39, trivial⟩, by omega, htb82, htn, hf⟩, ?_⟩
         rw [E.g0]; simp only [intOf]; omega
       | true =>
        rw [hq107] at E
        refine c_t E.g0 (r_ (ep E rfl (m_ rfl E.g27) fun a E => ep (v := .pointer (some ⟨b83, (0 + n), none⟩)) E rfl (run_index111 (i := n) rfl E.g33 E.g0 hlt) fun a E => env_st8 (v := 1) E rfl (wanted_none rfl _) rfl E.g0 rfl htb83 (by omega) fun w1 htb83n f1 E => ?_))
        have htb82 := htb82.fr f1 nq_
        have hf := hf.trans' f1 (fun _ hr => nq_)
        clear f1
        replace htb83 := htb83n
        refine n_ (b_ (b_ (t_ (r_ (ep (v := .int .i64 ((n : Int) + 1)) E rfl (run_iadd Tryz.underlying3 E.g32 rfl (by omega) (by omega) rfl) fun a E => es_ E rfl (m_ rfl E.g0) fun a E => n_ (t_ ?_))))))
        have hcv : cls0 n = 1 := by
         unfold cls0
         rw [letq n hlt, digq n hlt, blkq n hlt, symq n hlt]
         try rw [hq86]
         try rw [hq101]
         try rw [hq102]
         try rw [hq103]
         try rw [hq106]
         try rw [hq107]
         first | rfl | simp
        have htn : tb8 _ b83 (fun i => if i < n + 1 then cls0 i else 0) := htb83.ext fun i hi => by
         by_cases e : i = n
         ·subst e; simp [hcv]
         ·have : (i < n + 1) = (i < n) := by rw [eq_iff_iff]; omega
          simp [e, this]
        refine ⟨⟨n + 1, E.of ⟨E.g0, E.g34, E.g35, trivial⟩, by omega, htb82, htn, hf⟩, ?_⟩
        rw [E.g0]; simp only [intOf]; omega
      | true =>
       rw [hq106] at E
       refine c_t E.g0 (r_ (ep E rfl (m_ rfl E.g23) fun a E => ep (v := .pointer (some ⟨b83, (0 + n), none⟩)) E rfl (run_index111 (i := n) rfl E.g29 E.g0 hlt) fun a E => env_st8 (v := 4) E rfl (wanted_none rfl _) rfl E.g0 rfl htb83 (by omega) fun w1 htb83n f1 E => ?_))
       have htb82 := htb82.fr f1 nq_
       have hf := hf.trans' f1 (fun _ hr => nq_)
       clear f1
       replace htb83 := htb83n
       refine n_ (b_ (b_ (t_ (r_ (ep (v := .int .i64 ((n : Int) + 1)) E rfl (run_iadd Tryz.underlying3 E.g28 rfl (by omega) (by omega) rfl) fun a E => es_ E rfl (m_ rfl E.g0) fun a E => n_ (t_ ?_))))))
       have hcv : cls0 n = 4 := by
        unfold cls0
        rw [letq n hlt, digq n hlt, blkq n hlt, symq n hlt]
        try rw [hq86]
        try rw [hq101]
        try rw [hq102]
        try rw [hq103]
        try rw [hq106]
        first | rfl | simp
       have htn : tb8 _ b83 (fun i => if i < n + 1 then cls0 i else 0) := htb83.ext fun i hi => by
        by_cases e : i = n
        ·subst e; simp [hcv]
        ·have : (i < n + 1) = (i < n) := by rw [eq_iff_iff]; omega
         simp [e, this]
       refine ⟨⟨n + 1, E.of ⟨E.g0, E.g30, E.g31, trivial⟩, by omega, htb82, htn, hf⟩, ?_⟩
       rw [E.g0]; simp only [intOf]; omega
    | true =>
     rw [hq102] at E
     refine eg E rfl (wy_ E E.g0) (m_ rfl E.g10) fun a E => eg (v := .bool (decide ((n : Int) ≤ 90))) E rfl (wy_ E E.g1) (run_uleq E.g0 rfl rfl) fun a E => ep (v := .bool (decide ((n : Int) ≤ 90))) E rfl (run_pick_t rfl E.g2 E.g0) fun a E => es_ E rfl (a_ rfl E.g0) fun a E => n_ (t_ ?_)
     cases hq109 : (decide ((n : Int) ≤ 90)) with
     | false =>
      rw [hq109] at E
      refine c_f E.g0 (s_ (r_ (ep E rfl (m_ rfl E.g13) fun a E => ep (v := .bool (decide (48 ≤ (n : Int)))) E rfl (run_uleq rfl E.g0 rfl) fun a E => ep E rfl (m_ rfl E.g0) fun a E => ?_)))
      cases hq110 : (decide (48 ≤ (n : Int))) with
      | false =>
       rw [hq110] at E
       refine ek E rfl rfl E.g0 fun a E => ek E rfl rfl E.g1 fun a E => ep (v := .bool false) E rfl (run_pick_f rfl E.g2 rfl) fun a E => ep E rfl (a_ rfl E.g0) fun a E => n_ (t_ (c_f E.g0 (s_ (r_ (ep E rfl (m_ rfl E.g20) fun a E => ec_ (v := .int .i64 (ixb [32, 9, 10] n)) E rfl (run_call2 (enters_of Tryz.func97 (by kernel_rfl) rfl) rfl rfl rfl E.g0) (ixb_calls [32, 9, 10] n hlt _) fun a w1 f1 E => ?_)))))
       have htb82 := htb82.fr f1 id
       have htb83 := htb83.fr f1 id
       have hf := hf.trans' f1 (fun _ _ h => h.elim)
       clear f1
       refine ep (v := .bool (decide (0 ≤ (ixb [32, 9, 10] n)))) E rfl (run_igeq E.g0 rfl Tryz.underlying3 rfl) fun a E => ep E rfl (a_ rfl E.g0) fun a E => n_ (t_ ?_)
       cases hq111 : (decide (0 ≤ (ixb [32, 9, 10] n))) with
       | false =>
        rw [hq111] at E
        refine c_f E.g0 (s_ (r_ (ep E rfl (m_ rfl E.g24) fun a E => ec_ (v := .int .i64 (ixb [59, 44, 46, 58, 40, 41, 123, 125, 91, 93, 61, 60, 62, 47, 45] n)) E rfl (run_call2 (enters_of Tryz.func97 (by kernel_rfl) rfl) rfl rfl rfl E.g0) (ixb_calls [59, 44, 46, 58, 40, 41, 123, 125, 91, 93, 61, 60, 62, 47, 45] n hlt _) fun a w1 f1 E => ?_)))
        have htb82 := htb82.fr f1 id
        have htb83 := htb83.fr f1 id
        have hf := hf.trans' f1 (fun _ _ h => h.elim)
        clear f1
        refine ep (v := .bool (decide (0 ≤ (ixb [59, 44, 46, 58, 40, 41, 123, 125, 91, 93, 61, 60, 62, 47, 45] n)))) E rfl (run_igeq E.g0 rfl Tryz.underlying3 rfl) fun a E => ep E rfl (a_ rfl E.g0) fun a E => n_ (t_ ?_)
        cases hq112 : (decide (0 ≤ (ixb [59, 44, 46, 58, 40, 41, 123, 125, 91, 93, 61, 60, 62, 47, 45] n))) with
        | false =>
         rw [hq112] at E
         refine c_f E.g0 (k_ (b_ (b_ (t_ ?_))))
         replace htb83 : tb8 w1 b83 (fun i => if i = n then 0 else if i < n then cls0 i else 0) := htb83.ext fun i _ => by by_cases e : i = n <;> simp [e]
         refine r_ (ep (v := .int .i64 ((n : Int) + 1)) E rfl (run_iadd Tryz.underlying3 E.g34 rfl (by omega) (by omega) rfl) fun a E => es_ E rfl (m_ rfl E.g0) fun a E => n_ (t_ ?_))
         have hcv : cls0 n = 0 := by
          unfold cls0
          rw [letq n hlt, digq n hlt, blkq n hlt, symq n hlt]
          try rw [hq86]
          try rw [hq101]
          try rw [hq102]
          try rw [hq109]
          try rw [hq110]
          try rw [hq111]
          try rw [hq112]
          first | rfl | simp
         have htn : tb8 _ b83 (fun i => if i < n + 1 then cls0 i else 0) := htb83.ext fun i hi => by
          by_cases e : i = n
          ·subst e; simp [hcv]
          ·have : (i < n + 1) = (i < n) := by rw [eq_iff_iff]; omega
           simp [e, this]
         refine ⟨⟨n + 1, E.of ⟨E.g0, E.g36, E.g37, trivial⟩, by omega, htb82, htn, hf⟩, ?_⟩
         rw [E.g0]; simp only [intOf]; omega
        | true =>
         rw [hq112] at E
         refine c_t E.g0 (r_ (ep E rfl (m_ rfl E.g31) fun a E => ep (v := .pointer (some ⟨b83, (0 + n), none⟩)) E rfl (run_index111 (i := n) rfl E.g37 E.g0 hlt) fun a E => env_st8 (v := 6) E rfl (wanted_none rfl _) rfl E.g0 rfl htb83 (by omega) fun w1 htb83n f1 E => ?_))
         have htb82 := htb82.fr f1 nq_
         have hf := hf.trans' f1 (fun _ hr => nq_)
         clear f1
         replace htb83 := htb83n
         refine n_ (b_ (b_ (t_ (r_ (ep (v := .int .i64 ((n : Int) + 1)) E rfl (run_iadd Tryz.underlying3 E.g36 rfl (by omega) (by omega) rfl) fun a E => es_ E rfl (m_ rfl E.g0) fun a E => n_ (t_ ?_))))))
         have hcv : cls0 n = 6 := by
          unfold cls0
          rw [letq n hlt, digq n hlt, blkq n hlt, symq n hlt]
          try rw [hq86]
          try rw [hq101]
          try rw [hq102]
          try rw [hq109]
          try rw [hq110]
          try rw [hq111]
          try rw [hq112]
          first | rfl | simp
         have htn : tb8 _ b83 (fun i => if i < n + 1 then cls0 i else 0) := htb83.ext fun i hi => by
          by_cases e : i = n
          ·subst e; simp [hcv]
          ·have : (i < n + 1) = (i < n) := by rw [eq_iff_iff]; omega
           simp [e, this]
         refine ⟨⟨n + 1, E.of ⟨E.g0, E.g38, E.g39, trivial⟩, by omega, htb82, htn, hf⟩, ?_⟩
         rw [E.g0]; simp only [intOf]; omega
       | true =>
        rw [hq111] at E
        refine c_t E.g0 (r_ (ep E rfl (m_ rfl E.g27) fun a E => ep (v := .pointer (some ⟨b83, (0 + n), none⟩)) E rfl (run_index111 (i := n) rfl E.g33 E.g0 hlt) fun a E => env_st8 (v := 1) E rfl (wanted_none rfl _) rfl E.g0 rfl htb83 (by omega) fun w1 htb83n f1 E => ?_))
        have htb82 := htb82.fr f1 nq_
        have hf := hf.trans' f1 (fun _ hr => nq_)
        clear f1
        replace htb83 := htb83n
        refine n_ (b_ (b_ (t_ (r_ (ep (v := .int .i64 ((n : Int) + 1)) E rfl (run_iadd Tryz.underlying3 E.g32 rfl (by omega) (by omega) rfl) fun a E => es_ E rfl (m_ rfl E.g0) fun a E => n_ (t_ ?_))))))
        have hcv : cls0 n = 1 := by
         unfold cls0
         rw [letq n hlt, digq n hlt, blkq n hlt, symq n hlt]
         try rw [hq86]
         try rw [hq101]
         try rw [hq102]
         try rw [hq109]
         try rw [hq110]
         try rw [hq111]
         first | rfl | simp
        have htn : tb8 _ b83 (fun i => if i < n + 1 then cls0 i else 0) := htb83.ext fun i hi => by
         by_cases e : i = n
         ·subst e; simp [hcv]
         ·have : (i < n + 1) = (i < n) := by rw [eq_iff_iff]; omega
          simp [e, this]
        refine ⟨⟨n + 1, E.of ⟨E.g0, E.g34, E.g35, trivial⟩, by omega, htb82, htn, hf⟩, ?_⟩
        rw [E.g0]; simp only [intOf]; omega
      | true =>
       rw [hq110] at E
       refine eg E rfl (wy_ E E.g0) (m_ rfl E.g16) fun a E => eg (v := .bool (decide ((n : Int) ≤ 57))) E rfl (wy_ E E.g1) (run_uleq E.g0 rfl rfl) fun a E => ep (v := .bool (decide ((n : Int) ≤ 57))) E rfl (run_pick_t rfl E.g2 E.g0) fun a E => ep E rfl (a_ rfl E.g0) fun a E => n_ (t_ ?_)
       cases hq113 : (decide ((n : Int) ≤ 57)) with
       | false =>
        rw [hq113] at E
        refine c_f E.g0 (s_ (r_ (ep E rfl (m_ rfl E.g20) fun a E => ec_ (v := .int .i64 (ixb [32, 9, 10] n)) E rfl (run_call2 (enters_of Tryz.func97 (by kernel_rfl) rfl) rfl rfl rfl E.g0) (ixb_calls [32, 9, 10] n hlt _) fun a w1 f1 E => ?_)))
        have htb82 := htb82.fr f1 id
        have htb83 := htb83.fr f1 id
        have hf := hf.trans' f1 (fun _ _ h => h.elim)
        clear f1
        refine ep (v := .bool (decide (0 ≤ (ixb [32, 9, 10] n)))) E rfl (run_igeq E.g0 rfl Tryz.underlying3 rfl) fun a E => ep E rfl (a_ rfl E.g0) fun a E => n_ (t_ ?_)
        cases hq114 : (decide (0 ≤ (ixb [32, 9, 10] n))) with
        | false =>
         rw [hq114] at E
         refine c_f E.g0 (s_ (r_ (ep E rfl (m_ rfl E.g24) fun a E => ec_ (v := .int .i64 (ixb [59, 44, 46, 58, 40, 41, 123, 125, 91, 93, 61, 60, 62, 47, 45] n)) E rfl (run_call2 (enters_of Tryz.func97 (by kernel_rfl) rfl) rfl rfl rfl E.g0) (ixb_calls [59, 44, 46, 58, 40, 41, 123, 125, 91, 93, 61, 60, 62, 47, 45] n hlt _) fun a w1 f1 E => ?_)))
         have htb82 := htb82.fr f1 id
         have htb83 := htb83.fr f1 id
         have hf := hf.trans' f1 (fun _ _ h => h.elim)
         clear f1
         refine ep (v := .bool (decide (0 ≤ (ixb [59, 44, 46, 58, 40, 41, 123, 125, 91, 93, 61, 60, 62, 47, 45] n)))) E rfl (run_igeq E.g0 rfl Tryz.underlying3 rfl) fun a E => ep E rfl (a_ rfl E.g0) fun a E => n_ (t_ ?_)
         cases hq115 : (decide (0 ≤ (ixb [59, 44, 46, 58, 40, 41, 123, 125, 91, 93, 61, 60, 62, 47, 45] n))) with
         | false =>
          rw [hq115] at E
          refine c_f E.g0 (k_ (b_ (b_ (t_ ?_))))
          replace htb83 : tb8 w1 b83 (fun i => if i = n then 0 else if i < n then cls0 i else 0) := htb83.ext fun i _ => by by_cases e : i = n <;> simp [e]
          refine r_ (ep (v := .int .i64 ((n : Int) + 1)) E rfl (run_iadd Tryz.underlying3 E.g34 rfl (by omega) (by omega) rfl) fun a E => es_ E rfl (m_ rfl E.g0) fun a E => n_ (t_ ?_))
          have hcv : cls0 n = 0 := by
           unfold cls0
           rw [letq n hlt, digq n hlt, blkq n hlt, symq n hlt]
           try rw [hq86]
           try rw [hq101]
           try rw [hq102]
           try rw [hq109]
           try rw [hq110]
           try rw [hq113]
           try rw [hq114]
           try rw [hq115]
           first | rfl | simp
          have htn : tb8 _ b83 (fun i => if i < n + 1 then cls0 i else 0) := htb83.ext fun i hi => by
           by_cases e : i = n
           ·subst e; simp [hcv]
           ·have : (i < n + 1) = (i < n) := by rw [eq_iff_iff]; omega
            simp [e, this]
          refine ⟨⟨n + 1, E.of ⟨E.g0, E.g36, E.g37, trivial⟩, by omega, htb82, htn, hf⟩, ?_⟩
          rw [E.g0]; simp only [intOf]; omega
         | true =>
          rw [hq115] at E
          refine c_t E.g0 (r_ (ep E rfl (m_ rfl E.g31) fun a E => ep (v := .pointer (some ⟨b83, (0 + n), none⟩)) E rfl (run_index111 (i := n) rfl E.g37 E.g0 hlt) fun a E => env_st8 (v := 6) E rfl (wanted_none rfl _) rfl E.g0 rfl htb83 (by omega) fun w1 htb83n f1 E => ?_))
          have htb82 := htb82.fr f1 nq_
          have hf := hf.trans' f1 (fun _ hr => nq_)
          clear f1
          replace htb83 := htb83n
          refine n_ (b_ (b_ (t_ (r_ (ep (v := .int .i64 ((n : Int) + 1)) E rfl (run_iadd Tryz.underlying3 E.g36 rfl (by omega) (by omega) rfl) fun a E => es_ E rfl (m_ rfl E.g0) fun a E => n_ (t_ ?_))))))
          have hcv : cls0 n = 6 := by
           unfold cls0
           rw [letq n hlt, digq n hlt, blkq n hlt, symq n hlt]
           try rw [hq86]
           try rw [hq101]
           try rw [hq102]
           try rw [hq109]
           try rw [hq110]
           try rw [hq113]
           try rw [hq114]
           try rw [hq115]
           first | rfl | simp
          have htn : tb8 _ b83 (fun i => if i < n + 1 then cls0 i else 0) := htb83.ext fun i hi => by
           by_cases e : i = n
           ·subst e; simp [hcv]
           ·have : (i < n + 1) = (i < n) := by rw [eq_iff_iff]; omega
            simp [e, this]
          refine ⟨⟨n + 1, E.of ⟨E.g0, E.g38, E.g39, trivial⟩, by omega, htb82, htn, hf⟩, ?_⟩
          rw [E.g0]; simp only [intOf]; omega
        | true =>
         rw [hq114] at E
         refine c_t E.g0 (r_ (ep E rfl (m_ rfl E.g27) fun a E => ep (v := .pointer (some ⟨b83, (0 + n), none⟩)) E rfl (run_index111 (i := n) rfl E.g33 E.g0 hlt) fun a E => env_st8 (v := 1) E rfl (wanted_none rfl _) rfl E.g0 rfl htb83 (by omega) fun w1 htb83n f1 E => ?_))
         have htb82 := htb82.fr f1 nq_
         have hf := hf.trans' f1 (fun _ hr => nq_)
         clear f1
         replace htb83 := htb83n
         refine n_ (b_ (b_ (t_ (r_ (ep (v := .int .i64 ((n : Int) + 1)) E rfl (run_iadd Tryz.underlying3 E.g32 rfl (by omega) (by omega) rfl) fun a E => es_ E rfl (m_ rfl E.g0) fun a E => n_ (t_ ?_))))))
         have hcv : cls0 n = 1 := by
          unfold cls0
          rw [letq n hlt, digq n hlt, blkq n hlt, symq n hlt]
          try rw [hq86]
          try rw [hq101]
          try rw [hq102]
          try rw [hq109]
          try rw [hq110]
          try rw [hq113]
          try rw [hq114]
          first | rfl | simp
         have htn : tb8 _ b83 (fun i => if i < n + 1 then cls0 i else 0) := htb83.ext fun i hi => by
          by_cases e : i = n
          ·subst e; simp [hcv]
          ·have : (i < n + 1) = (i < n) := by rw [eq_iff_iff]; omega
           simp [e, this]
         refine ⟨⟨n + 1, E.of ⟨E.g0, E.g34, E.g35, trivial⟩, by omega, htb82, htn, hf⟩, ?_⟩
         rw [E.g0]; simp only [intOf]; omega
       | true =>
        rw [hq113] at E
        refine c_t E.g0 (r_ (ep E rfl (m_ rfl E.g23) fun a E => ep (v := .pointer (some ⟨b83, (0 + n), none⟩)) E rfl (run_index111 (i := n) rfl E.g29 E.g0 hlt) fun a E => env_st8 (v := 4) E rfl (wanted_none rfl _) rfl E.g0 rfl htb83 (by omega) fun w1 htb83n f1 E => ?_))
        have htb82 := htb82.fr f1 nq_
        have hf := hf.trans' f1 (fun _ hr => nq_)
        clear f1
        replace htb83 := htb83n
        refine n_ (b_ (b_ (t_ (r_ (ep (v := .int .i64 ((n : Int) + 1)) E rfl (run_iadd Tryz.underlying3 E.g28 rfl (by omega) (by omega) rfl) fun a E => es_ E rfl (m_ rfl E.g0) fun a E => n_ (t_ ?_))))))
        have hcv : cls0 n = 4 := by
         unfold cls0
         rw [letq n hlt, digq n hlt, blkq n hlt, symq n hlt]
         try rw [hq86]
         try rw [hq101]
         try rw [hq102]
         try rw [hq109]
         try rw [hq110]
         try rw [hq113]
         first | rfl | simp
        have htn : tb8 _ b83 (fun i => if i < n + 1 then cls0 i else 0) := htb83.ext fun i hi => by
         by_cases e : i = n
         ·subst e; simp [hcv]
         ·have : (i < n + 1) = (i < n) := by rw [eq_iff_iff]; omega
          simp [e, this]
        refine ⟨⟨n + 1, E.of ⟨E.g0, E.g30, E.g31, trivial⟩, by omega, htb82, htn, hf⟩, ?_⟩
        rw [E.g0]; simp only [intOf]; omega
     | true =>
      rw [hq109] at E
      refine c_t E.g0 (r_ (ep E rfl (m_ rfl E.g16) fun a E => ep (v := .pointer (some ⟨b83, (0 + n), none⟩)) E rfl (run_index111 (i := n) rfl E.g22 E.g0 hlt) fun a E => env_st8 (v := 3) E rfl (wanted_none rfl _) rfl E.g0 rfl htb83 (by omega) fun w1 htb83n f1 E => ?_))
      have htb82 := htb82.fr f1 nq_
      have hf := hf.trans' f1 (fun _ hr => nq_)
      clear f1
      replace htb83 := htb83n
      refine n_ (b_ (b_ (t_ (r_ (ep (v := .int .i64 ((n : Int) + 1)) E rfl (run_iadd Tryz.underlying3 E.g21 rfl (by omega) (by omega) rfl) fun a E => es_ E rfl (m_ rfl E.g0) fun a E => n_ (t_ ?_))))))
      have hcv : cls0 n = 3 := by
       unfold cls0
       rw [letq n hlt, digq n hlt, blkq n hlt, symq n hlt]
       try rw [hq86]
       try rw [hq101]
       try rw [hq102]
       try rw [hq109]
       first | rfl | simp
      have htn : tb8 _ b83 (fun i => if i < n + 1 then cls0 i else 0) := htb83.ext fun i hi => by
       by_cases e : i = n
       ·subst e; simp [hcv]
       ·have : (i < n + 1) = (i < n) := by rw [eq_iff_iff]; omega
        simp [e, this]
      refine ⟨⟨n + 1, E.of ⟨E.g0, E.g23, E.g24, trivial⟩, by omega, htb82, htn, hf⟩, ?_⟩
      rw [E.g0]; simp only [intOf]; omega
   | true =>
    rw [hq101] at E
    refine c_t E.g0 (k_ (t_ (c_t E.g0 (r_ (ep E rfl (m_ rfl E.g10) fun a E => ep (v := .pointer (some ⟨b83, (0 + n), none⟩)) E rfl (run_index111 (i := n) rfl E.g16 E.g0 hlt) fun a E => env_st8 (v := 3) E rfl (wanted_none rfl _) rfl E.g0 rfl htb83 (by omega) fun w1 htb83n f1 E => ?_)))))
    have htb82 := htb82.fr f1 nq_
    have hf := hf.trans' f1 (fun _ hr => nq_)
    clear f1
    replace htb83 := htb83n
    refine n_ (b_ (b_ (t_ (r_ (ep (v := .int .i64 ((n : Int) + 1)) E rfl (run_iadd Tryz.underlying3 E.g15 rfl (by omega) (by omega) rfl) fun a E => es_ E rfl (m_ rfl E.g0) fun a E => n_ (t_ ?_))))))
    have hcv : cls0 n = 3 := by
     unfold cls0
     rw [letq n hlt, digq n hlt, blkq n hlt, symq n hlt]
     try rw [hq86]
     try rw [hq101]
     first | rfl | simp
    have htn : tb8 _ b83 (fun i => if i < n + 1 then cls0 i else 0) := htb83.ext fun i hi => by
     by_cases e : i = n
     ·subst e; simp [hcv]
     ·have : (i < n + 1) = (i < n) := by rw [eq_iff_iff]; omega
      simp [e, this]
    refine ⟨⟨n + 1, E.of ⟨E.g0, E.g17, E.g18, trivial⟩, by omega, htb82, htn, hf⟩, ?_⟩
    rw [E.g0]; simp only [intOf]; omega
/-- What the lexer looks at. -/
def LexK (w : World) (c1 c3 : Nat) (s : Bys) : Prop := w.heap[c1]? = some (.cells #[.string (ofL s)] 9 (0, 0)) ∧ tb8 w c3 clsT
theorem LexK.fr {w w' : World} {c1 c3 : Nat} {s : Bys} (h : LexK w c1 c3 s) {F : Nat → Prop} (f : Fr F w w') (h1 : ¬ F c1) (h3 : ¬ F c3) : LexK w' c1 c3 s := ⟨f.obj h.1 h1, h.2.fr f h3⟩
theorem clsT_byte (b : UInt8) : clsT b.toNat = cl8 b := by
 unfold clsT
 rw [show UInt8.ofNat b.toNat = b by simp]
set_option maxRecDepth 100000 in
set_option maxHeartbeats 4000000 in
theorem at_calls {w : World} {c1 c3 : Nat} {s : Bys} (hK : LexK w c1 c3 s) (i : Nat) : Calls Tryz.prog 73 #[.int .i64 (i : Int), .pointer (some ⟨c1, 0, none⟩), .pointer (some ⟨c3, 0, none⟩)] w fun e w' => e = .returned (.int .u8 (clsAt s i : Nat)) ∧ Fr (fun _ => False) w w' := by
 refine wp_start3 Tryz.func73 rfl rfl (n := 14) (by decide) fun a E => ?_
 have hf : Fr (fun _ => False) w w := Fr.refl _ _
 obtain ⟨hc1, hc3⟩ := hK
 refine s_ (r_ (ep (v := .int .u8 0) E rfl (a_ rfl rfl) fun a E => n_ (t_ (s_ (s_ (r_ (ep E rfl (m_ rfl E.g1) fun a E => ep (v := .string (ofL s)) E rfl (run_lds rfl E.g3 (bx hc1 0 rfl)) fun a E => ep (v := .int .i64 (s.length : Int)) E rfl (run_slen rfl E.g0) fun a E => ep (v := .bool (decide ((s.length : Int) ≤ (i : Int)))) E rfl (run_igeq E.g2 E.g0 Tryz.underlying3 rfl) fun a E => n_ (t_ ?_))))))))
 cases hq116 : (decide ((s.length : Int) ≤ (i : Int))) with
 | false =>
  rw [hq116] at E
  have hlt : i < s.length := by have := of_decide_eq_false hq116; omega
  obtain ⟨b, hb⟩ : ∃ b, s[i]? = some b := ⟨_, List.getElem?_eq_getElem hlt⟩
  refine c_f E.g0 (k_ (t_ (s_ (r_ (ep (v := .string (ofL s)) E rfl (run_lds rfl E.g6 (bx hc1 0 rfl)) fun a E => ep E rfl (m_ rfl E.g6) fun a E => ep (v := .int .u8 (b.toNat : Int)) E rfl (run_byte rfl E.g1 E.g0 hb) fun a E => ep (v := .pointer (some ⟨c3, (0 + b.toNat), none⟩)) E rfl (run_index111u (i := b.toNat) rfl E.g10 E.g0 b.toNat_lt) fun a E => ep (v := .int .u8 (clsT b.toNat : Nat)) E rfl (run_ld5 rfl E.g0 (hc3.at b.toNat_lt)) fun a E => es_ E rfl (a_ rfl E.g0) fun a E => n_ (t_ (wr_ (ret_tmp (t := 4) rfl E E.g0 ⟨?_, hf⟩))))))))
  unfold clsAt
  rw [hb]; simp only [clsT_byte]
 | true =>
  rw [hq116] at E
  have hnn : s[i]? = none := List.getElem?_eq_none (by have := of_decide_eq_true hq116; omega)
  refine c_t E.g0 (s_ (r_ (es_ (v := .int .u8 0) E rfl (a_ rfl rfl) fun a E => n_ (t_ (wr_ (tr_ (ret_tmp (t := 4) rfl E E.g0 ⟨?_, hf⟩)))))))
  unfold clsAt
  rw [hnn]; rfl
end Go.Proofs.YtjaffpnegdcjnaaGreatDoor
/- The lexer: a strings.Builder. -/
set_option linter.unusedVariables false
set_option linter.unusedSimpArgs false
namespace Go.Proofs.YtjaffpnegdcjnaaGreatDoor
open Go.RowKit Go.Pl Go.Sort Go.Shelf
section
variable {o : Oper} {w : World} {ρ : Operand → Value} {x y z : Operand} {b off : Nat} {u v : Value}
theorem run_ld101 {p : Option Addr} (ho : o.op = .load 101 x) (hx : ρ x = .pointer (some ⟨b, off, none⟩)) (hc : w.cell? ⟨b, off, none⟩ = some (.pointer p)) : (execOp ρ o).run Tryz.prog w = .ok (.value (.pointer p)) w := by
 simp [execOp, ho, hx, go_sem, hc]
theorem run_pnil {p : Option Addr} (hx : ρ x = .pointer p) (hy : ρ y = .pointer none) (ho : o.op = .binOp .eql 101 x y 101) : (execOp ρ o).run Tryz.prog w = .ok (.value (.bool p.isNone)) w := by
 cases p <;> simp [execOp, ho, hx, hy, go_sem]
theorem run_psame {a : Addr} (hx : ρ x = .pointer (some a)) (hy : ρ y = .pointer (some a)) (ho : o.op = .binOp .neq 101 x y 101) : (execOp ρ o).run Tryz.prog w = .ok (.value (.bool false)) w := by
 have hi : ∃ j, Tryz.prog.info? 104 = some j := by
  cases h : Tryz.prog.info? 104 with
  | none => exact absurd (show (Tryz.prog.info? 104).isSome = true by kernel_rfl) (by rw [h]; simp)
  | some j => exact ⟨j, rfl⟩
 obtain ⟨j, hj⟩ := hi
 have := Lib.run_neq_ptr_same (P := Tryz.prog) w a Tryz.underlying101 hj
 simp [execOp, ho, hx, hy, eqGuard, this]
theorem run_tounsafe (ho : o.op = .convert 101 148 x) (hx : ρ x = .pointer (some ⟨b, 0, none⟩)) (hsh : w.shape? b = some (104, 2)) : (execOp ρ o).run Tryz.prog w = .ok (.value (.pointer (some ⟨b, 0, none⟩))) w := by
 obtain ⟨j, hj, hjs⟩ := Option.map_eq_some_iff.1 (show (Tryz.prog.info? 104).map (·.size) = some 2 by kernel_rfl)
 have := Lib.run_to_unsafe (P := Tryz.prog) w (src := 101) (dst := 148) ⟨b, 0, none⟩ Tryz.underlying101 Tryz.underlying148 hj (by rw [hjs]; decide) hsh (Nat.zero_lt_succ 1)
 simp only [execOp, ho, hx, Sem.run_bind, this, Result.andThen_ok, Sem.run_pure]
theorem run_fromunsafe (ho : o.op = .convert 148 101 x) (hx : ρ x = .pointer (some ⟨b, 0, none⟩)) (hsh : w.shape? b = some (104, 2)) : (execOp ρ o).run Tryz.prog w = .ok (.value (.pointer (some ⟨b, 0, none⟩))) w := by
 obtain ⟨j, hj, hjs⟩ := Option.map_eq_some_iff.1 (show (Tryz.prog.info? 104).map (·.size) = some 2 by kernel_rfl)
 have := Lib.run_from_unsafe (P := Tryz.prog) w (src := 148) (dst := 101) ⟨b, 0, none⟩ Tryz.underlying148 Tryz.underlying101 hj hsh (by kernel_rfl)
 simp only [execOp, ho, hx, Sem.run_bind, this, Result.andThen_ok, Sem.run_pure]
theorem run_noesc {ts : Array TypeId} (ho : o.op = .call ⟨.value (.func 105), #[x], ts⟩) (hf : ρ (.func 105) = .func (.func 105) #[] #[]) (hx : ρ x = v) : (execOp ρ o).run Tryz.prog w = .ok (.value v) w := by
 have := fun args w => run_callFunc_extern (P := Tryz.prog) Tryz.func105 (by kernel_rfl) (by kernel_rfl) (by kernel_rfl) (e := Extern.AbiNoEscape.same) (by kernel_rfl) args w
 simp [execOp, ho, hf, hx, resolve, Deferred.ofValue, invoke, go_sem, this, Lib.run_noEscape]
theorem run_st101 {p : Option Addr} (ho : o.op = .store 101 x y) (hx : ρ x = .pointer (some ⟨b, off, none⟩)) (hy : ρ y = .pointer p) (hc : w.cell? ⟨b, off, none⟩ = some u) (hz : w.frozen? ⟨b, off, none⟩ = false) : (execOp ρ o).run Tryz.prog w = .ok .skip (w.setCell ⟨b, off, none⟩ (.pointer p)) := by
 simp [execOp, ho, hx, hy, go_sem, hc, hz]
theorem run_st102 {p : Option Addr} {n c : Nat} (ho : o.op = .store 102 x y) (hx : ρ x = .pointer (some ⟨b, off, none⟩)) (hy : ρ y = .slice p n c) (hc : w.cell? ⟨b, off, none⟩ = some u) (hz : w.frozen? ⟨b, off, none⟩ = false) : (execOp ρ o).run Tryz.prog w = .ok .skip (w.setCell ⟨b, off, none⟩ (.slice p n c)) := by
 simp [execOp, ho, hx, hy, go_sem, hc, hz]
theorem run_ld102 {v : Value} (ho : o.op = .load 102 x) (hx : ρ x = .pointer (some ⟨b, off, none⟩)) (hc : w.cell? ⟨b, off, none⟩ = some v) : (execOp ρ o).run Tryz.prog w = .ok (.value v) w := by
 simp [execOp, ho, hx, go_sem, hc]
theorem run_one102 {n : Int} (ho : o.op = .buildSlice 102 1 #[(0, x)]) (hx : ρ x = .int .u8 n) : (execOp ρ o).run Tryz.prog w = .ok (.value (.slice (some ⟨w.heap.size, 0, none⟩) 1 1)) (w.alloc (.cells #[.int .u8 n] 5)) := by
 simp [execOp, ho, hx, go_sem]
theorem fa104_0 (ho : o.op = .fieldAddr 104 x 0) (hx : ρ x = .pointer (some ⟨b, off, none⟩)) : (execOp ρ o).run Tryz.prog w = .ok (.value (.pointer (some ⟨b, off + 0, none⟩))) w := by simp [execOp, ho, hx, go_sem]
theorem fa104_1 (ho : o.op = .fieldAddr 104 x 1) (hx : ρ x = .pointer (some ⟨b, off, none⟩)) : (execOp ρ o).run Tryz.prog w = .ok (.value (.pointer (some ⟨b, off + 1, none⟩))) w := by simp [execOp, ho, hx, go_sem]
theorem run_alloc104 (ho : o.op = .alloc 104) : (execOp ρ o).run Tryz.prog w = .ok (.value (.pointer (some ⟨w.heap.size, 0, none⟩))) (w.alloc (.cells #[.pointer none, .slice none 0 0] 104)) := by
 simp [execOp, ho, go_sem]
end
theorem info5z : (Tryz.prog.info? 5).map (fun i => (i.zero, i.size, i.bytes)) = some (some (.int .u8 0), 1, 1) := by kernel_rfl
def byL (b : UInt8) : List Value := [.int .u8 b.toNat]
theorem byL_len (b : UInt8) : (byL b).length = 1 := rfl
theorem byteCells_flat (l : Bys) : l.flatMap byL = Lib.byteCells l := by
 unfold Lib.byteCells byL
 induction l with
 | nil => rfl
 | cons c l ih => simp [ih]
abbrev oBy := ow byL 1 5
theorem env_app102 {O : Array Oper} {Q : Exit → Act → World → Prop} {rest : List Oper} {o : Oper} {a : Act} {w : World} {n d : Nat} {L : List (Nat × Value)} {x y : Operand} {B G : Nat} {v : Value} {A S : Bys} {p : Option Addr} {cap : Nat} (En : Env n L a) (hd : o.dst = some d) (hn : d < n) (hfr : (L.map (·.1)).contains d = false) (hg : o.guard = none) (ho : o.op = .call { callee := .builtin .append, args := #[x, y], argTypes := #[102, 102] }) (hx : a.eval x = v) (hv : oBy w B v A) (hy : a.eval y = .slice p S.length cap) (hsrc : srcAt byL 1 w G p S) (hcp : p = none → cap = 0) (hl : A.length + S.length ≤ 400000000) (hB : B ≤ w.heap.size)
  (k : ∀ a' w' v', oBy w' B v' (A ++ S) → Fr (fun k => v.ownBlock = some k) w w' → (v'.ownBlock = v.ownBlock ∨ v'.ownBlock = some w.heap.size) → Env n ((d, v') :: L) a' → wpList Tryz.prog O Q rest a' w') : wpList Tryz.prog O Q (o :: rest) a w := by
 obtain ⟨i0, hi0, hz0, hz1, hz2⟩ := info_parts4 info5z
 exact env_appR byL_len (by omega) (fun b u hu => by simp [byL] at hu; subst hu; rfl) Tryz.underlying102 hi0 hz0 hz1 hz2 rfl (by decide) En hd hn hfr hg ho hx hv hy hsrc hcp hl hB k
/-- A builder, used or fresh. -/
def Bld (w : World) (B b : Nat) (l : Bys) : Prop := B ≤ b ∧ ∃ p v, w.heap[b]? = some (.cells #[.pointer p, v] 104 (0, 0)) ∧ (p = none ∨ p = some ⟨b, 0, none⟩) ∧ oBy w B v l ∧ v.ownBlock ≠ some b
theorem Bld.lt {w : World} {B b : Nat} {l : Bys} (h : Bld w B b l) : b < w.heap.size := by
 obtain ⟨_, p, v, h1, _⟩ := h
 exact lt_of_blk h1
theorem Bld.is {w : World} {B b : Nat} {l : Bys} (h : Bld w B b l) : Lib.IsBuilder 104 5 B b (Lib.byteCells l) w := by
 obtain ⟨h0, p, v, h1, h2, h3, h4⟩ := h
 unfold oBy ow at h3
 rw [byteCells_flat] at h3
 have hl : (Lib.byteCells l).length = l.length := by simp [Lib.byteCells]
 rcases h2 with rfl | rfl
 ·exact .inl ⟨h0, v, h1, by rw [hl]; exact h3, h4⟩
 ·exact .inr ⟨h0, v, h1, by rw [hl]; exact h3, h4⟩
theorem Bld.made {w : World} {b : Nat} (h : w.heap[b]? = some (.cells #[.pointer none, .slice none 0 0] 104 (0, 0))) : Bld w b b [] := ⟨Nat.le_refl _, none, _, h, .inl rfl, ow_nil _, by simp [Value.ownBlock]⟩
theorem Bld.fr {w w' : World} {B b : Nat} {l : Bys} (h : Bld w B b l) (f : Fr (fun _ => False) w w') : Bld w' B b l := by
 obtain ⟨h0, p, v, h1, h2, h3, h4⟩ := h
 exact ⟨h0, p, v, f.obj h1 id, h2, h3.fr f (fun _ _ => id), h4⟩
theorem str_calls {w : World} {B b : Nat} {l : Bys} (h : Bld w B b l) (hB : B ≤ w.heap.size) : Calls Tryz.prog 71 #[.pointer (some ⟨b, 0, none⟩)] w fun e w' => e = .returned (.string (ofL l)) ∧ Fr (fun r => B ≤ r) w w' := by
 refine (Tryz.Builder_String_any B b l w h.is hB).mono fun e w' h => ⟨h.1, ?_⟩
 exact ⟨h.2.os, h.2.tape, h.2.output, h.2.size, fun r _ hr => h.2.block r (by omega)⟩
set_option maxRecDepth 100000 in
set_option maxHeartbeats 4000000 in
theorem check_used {w : World} {b : Nat} {v : Value} (hb : w.heap[b]? = some (.cells #[.pointer (some ⟨b, 0, none⟩), v] 104 (0, 0))) : Calls Tryz.prog 95 #[.pointer (some ⟨b, 0, none⟩)] w fun e w' => e = .returned (.tuple #[]) ∧ w'.heap[b]? = some (.cells #[.pointer (some ⟨b, 0, none⟩), v] 104 (0, 0)) ∧ Fr (fun r => r = b) w w' := by
 refine wp_start1 Tryz.func95 rfl rfl (n := 20) (by decide) fun a E => ?_
 have hf : Fr (fun r => r = b) w w := Fr.refl _ _
 have hsh : w.shape? b = some (104, 2) := by simp [World.shape?, hb]
 refine s_ (r_ (ep E rfl (m_ rfl E.g0) fun a E => ep E rfl (i_ rfl E.g0) fun a E => ep (v := .pointer (some ⟨b, 0, none⟩)) E rfl (fa104_0 rfl E.g0) fun a E => ep (v := .pointer (some ⟨b, 0, none⟩)) E rfl (run_ld101 rfl E.g0 (bx hb 0 rfl)) fun a E => ep (v := .bool false) E rfl (run_pnil E.g0 rfl rfl) fun a E => n_ (t_ (c_f E.g0 (s_ (r_ (ep E rfl (m_ rfl E.g5) fun a E => ep E rfl (i_ rfl E.g0) fun a E => ep (v := .pointer (some ⟨b, 0, none⟩)) E rfl (fa104_0 rfl E.g0) fun a E => ep (v := .pointer (some ⟨b, 0, none⟩)) E rfl (run_ld101 rfl E.g0 (bx hb 0 rfl)) fun a E => ep E rfl (m_ rfl E.g9) fun a E => ep (v := .bool false) E rfl (run_psame E.g1 E.g0 rfl) fun a E => n_ (t_ (c_f E.g0 (k_ ((ret_nil rfl E ⟨rfl, hb, hf⟩).1)))))))))))
set_option maxRecDepth 100000 in
set_option maxHeartbeats 4000000 in
theorem check_fresh {w : World} {b : Nat} {v : Value} (hb : w.heap[b]? = some (.cells #[.pointer none, v] 104 (0, 0))) : Calls Tryz.prog 95 #[.pointer (some ⟨b, 0, none⟩)] w fun e w' => e = .returned (.tuple #[]) ∧ w'.heap[b]? = some (.cells #[.pointer (some ⟨b, 0, none⟩), v] 104 (0, 0)) ∧ Fr (fun r => r = b) w w' := by
 refine wp_start1 Tryz.func95 rfl rfl (n := 20) (by decide) fun a E => ?_
 have hf : Fr (fun r => r = b) w w := Fr.refl _ _
 have hsh : w.shape? b = some (104, 2) := by simp [World.shape?, hb]
 refine s_ (r_ (ep E rfl (m_ rfl E.g0) fun a E => ep E rfl (i_ rfl E.g0) fun a E => ep (v := .pointer (some ⟨b, 0, none⟩)) E rfl (fa104_0 rfl E.g0) fun a E => ep (v := .pointer none) E rfl (run_ld101 rfl E.g0 (bx hb 0 rfl)) fun a E => ep (v := .bool true) E rfl (run_pnil E.g0 rfl rfl) fun a E => n_ (t_ (c_t E.g0 (r_ (ep E rfl (m_ rfl E.g5) fun a E => ep E rfl (m_ rfl E.g6) fun a E => ep (v := .pointer (some ⟨b, 0, none⟩)) E rfl (run_tounsafe rfl E.g0 hsh) fun a E => ep (v := .pointer (some ⟨b, 0, none⟩)) E rfl (run_noesc rfl rfl E.g0) fun a E => ep (v := .pointer (some ⟨b, 0, none⟩)) E rfl (run_fromunsafe rfl E.g0 hsh) fun a E => ep E rfl (i_ rfl E.g4) fun a E => ep (v := .pointer (some ⟨b, 0, none⟩)) E rfl (fa104_0 rfl E.g0) fun a E => env_st1 (j := 0) E rfl (wanted_none rfl _) hb (run_st101 rfl E.g0 E.g2 (bx hb 0 rfl) (free_of_blk hb 0)) fun w1 hbn f1 E => ?_))))))
 replace hbn : w1.heap[b]? = some (.cells #[.pointer (some ⟨b, 0, none⟩), v] 104 (0, 0)) := hbn
 have hf := hf.trans' f1 (fun _ hr => nq_)
 clear f1
 replace hb := hbn
 refine n_ ((ret_nil rfl E ⟨rfl, hb, hf⟩).1)
theorem check_calls {w : World} {b : Nat} {p : Option Addr} {v : Value} (hp : p = none ∨ p = some ⟨b, 0, none⟩) (hb : w.heap[b]? = some (.cells #[.pointer p, v] 104 (0, 0))) : Calls Tryz.prog 95 #[.pointer (some ⟨b, 0, none⟩)] w fun e w' => e = .returned (.tuple #[]) ∧ w'.heap[b]? = some (.cells #[.pointer (some ⟨b, 0, none⟩), v] 104 (0, 0)) ∧ Fr (fun r => r = b) w w' := by
 rcases hp with rfl | rfl
 ·exact check_fresh hb
 ·exact check_used hb
set_option maxRecDepth 100000 in
set_option maxHeartbeats 4000000 in
theorem wbyte_calls {w : World} {B b : Nat} {l : Bys} (hB : Bld w B b l) (c : UInt8) (hl : l.length ≤ 300000000) : Calls Tryz.prog 98 #[.pointer (some ⟨b, 0, none⟩), .int .u8 (c.toNat : Int)] w fun e w' => e = .returned .nilIface ∧ Bld w' B b (l ++ [c]) ∧ Fr (fun r => B ≤ r) w w' := by
 obtain ⟨h0, p, v, hb, hp, hO, hne⟩ := hB
 refine wp_start2 Tryz.func98 rfl rfl (n := 17) (by decide) fun a E => ?_
 have hf : Fr (fun r => B ≤ r) w w := Fr.refl _ _
 have hBs : B ≤ w.heap.size := by have := lt_of_blk hb; omega
 have hbl := lt_of_blk hb
 refine s_ (r_ (ep (v := Value.nilIface) E rfl (a_ rfl rfl) fun a E => n_ (t_ (s_ (r_ (ep E rfl (m_ rfl E.g1) fun a E => env_callv (d := 6) (R := fun u w8 => u = .tuple #[] ∧ w8.heap[b]? = some (.cells #[.pointer (some ⟨b, 0, none⟩), v] 104 (0, 0)) ∧ Fr (fun r => r = b) w w8) E rfl (by decide) rfl (wanted_none rfl _) (run_call1 (enters_of Tryz.func95 (by kernel_rfl) rfl) rfl rfl E.g0) ((check_calls hp hb).mono fun e w8 h => by obtain ⟨rfl, h⟩ := h; exact ⟨_, rfl, rfl, h⟩) fun a w1 u ⟨hu, hb2, f1⟩ E => ?_))))))
 subst hu
 have hO := hO.fr f1 (fun k hk e => hne (by rw [hk, (e : k = b)]))
 have hf := hf.trans' f1 (fun r hr e => by omega)
 have hBs := Nat.le_trans hBs f1.size
 have hb := hb2
 clear f1 hb2
 refine n_ (t_ (s_ ?_))
 have hbl2 := lt_of_blk hb
 refine r_ (ep E rfl (m_ rfl E.g3) fun a E => ep E rfl (m_ rfl E.g4) fun a E => ep E rfl (i_ rfl E.g0) fun a E => ep (v := .pointer (some ⟨b, 1, none⟩)) E rfl (fa104_1 rfl E.g0) fun a E => ep (v := v) E rfl (run_ld102 rfl E.g0 (bx hb 1 rfl)) fun a E => ep E rfl (m_ rfl E.g9) fun a E => ep E rfl (run_one102 rfl E.g0) fun a E => ?_)
 obtain ⟨bn, hbn⟩ : ∃ bn, bn = w1.heap.size := ⟨_, rfl⟩
 obtain ⟨w2, hw2⟩ : ∃ w2, w2 = w1.alloc (.cells #[.int .u8 (c.toNat : Int)] 5) := ⟨_, rfl⟩
 rw [← hbn] at E
 rw [← hw2]
 have hbb : w2.heap[bn]? = some (.cells (byL c).toArray 5 (0, 0)) := by rw [hw2, hbn]; exact blk_alloc_new _ _
 have f1 : Fr (fun _ => False) w1 w2 := by rw [hw2]; exact (Fr.refl _ _).alloc _
 have hs9 := src_one (f := byL) (c := 1) (G := w2.heap.size) hbb (lt_of_blk hbb)
 have hb := f1.obj hb id
 have hO := hO.fr f1 (fun _ _ => id)
 have hf := hf.trans' f1 (fun _ _ h => h.elim)
 have hBs := Nat.le_trans hBs f1.size
 have hbl3 := lt_of_blk hb
 refine env_app102 (S := [c]) (d := 14) E rfl (by decide) rfl rfl rfl E.g2 hO E.g0 hs9 (fun h => by cases h) (by simp only [List.length_cons, List.length_nil]; omega) hBs fun a w3 vo hO2 f1 hloc E => ?_
 have hb := f1.obj hb (fun e => hne e)
 have hf := hf.trans' f1 (fun r hr e => (hO.lt e).1)
 have hBs := Nat.le_trans hBs f1.size
 have hne2 : vo.ownBlock ≠ some b := by
  rcases hloc with h9 | h9
  ·rw [h9]; exact hne
  ·rw [h9]; intro e; injection e with e; omega
 have hO := hO2
 clear f1 hO2
 refine ep E rfl (i_ rfl E.g7) fun a E => ep (v := .pointer (some ⟨b, 1, none⟩)) E rfl (fa104_1 rfl E.g0) fun a E => ?_
 obtain ⟨ps9, cs9, hvs, _⟩ := ow.src byL_len hO
 subst hvs
 refine env_st1 (j := 1) E rfl (wanted_none rfl _) hb (run_st102 rfl E.g0 E.g2 (bx hb 1 rfl) (free_of_blk hb 1)) fun w1 hbn f1 E => ?_
 replace hbn : w1.heap[b]? = some (.cells #[.pointer (some ⟨b, 0, none⟩), .slice ps9 (l ++ [c]).length cs9] 104 (0, 0)) := hbn
 have hO := ow.fr hO f1 (fun k hk e => hne2 (by rw [hk, (e : k = b)]))
 have hf := hf.trans' f1 (fun _ hr => nq_)
 clear f1
 replace hb := hbn
 refine n_ (t_ (s_ (r_ (es_ (v := Value.nilIface) E rfl (a_ rfl rfl) fun a E => n_ (t_ (wr_ (ret_tmp (t := 4) rfl E E.g0 ⟨rfl, ⟨h0, _, _, hb, .inr rfl, hO, hne2⟩, hf⟩)))))))
end Go.Proofs.YtjaffpnegdcjnaaGreatDoor
