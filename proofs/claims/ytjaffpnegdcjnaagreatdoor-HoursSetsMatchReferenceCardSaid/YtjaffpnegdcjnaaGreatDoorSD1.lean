/- The lexer: classes of bytes. -/
import Derived.Test.YtjaffpnegdcjnaaGreatDoorSC4
set_option linter.unusedVariables false
set_option linter.unusedSimpArgs false
namespace Go.Proofs.YtjaffpnegdcjnaaGreatDoor
open Go.RowKit Go.Pl
section
variable {o : Oper} {w : World} {ρ : Operand → Value} {x y z : Operand} {b off : Nat} {u v : Value}
theorem zero111s : Tryz.zeroCells111.size = 256 ∧ ∀ i, i < 256 → Tryz.zeroCells111[i]? = some (.int .u8 0) := by
 have h : (List.range 256).all (fun i => match Tryz.zeroCells111[i]? with | some (.int .u8 n) => n == 0 | _ => false) = true := by kernel_rfl
 refine ⟨by kernel_rfl, fun i hi => ?_⟩
 have := List.all_eq_true.1 h i (List.mem_range.2 hi)
 split at this
 ·rename_i n hn; rw [hn]; rw [beq_iff_eq] at this; rw [this]
 ·cases this
theorem run_alloc111 (ho : o.op = .alloc 111) : (execOp ρ o).run Tryz.prog w = .ok (.value (.pointer (some ⟨w.heap.size, 0, none⟩))) (w.alloc (.cells Tryz.zeroCells111 111)) := by
 simp [execOp, ho, go_sem]
theorem run_alloc113 (ho : o.op = .alloc 113) : (execOp ρ o).run Tryz.prog w = .ok (.value (.pointer (some ⟨w.heap.size, 0, none⟩))) (w.alloc (.cells #[.nilFunc] 113)) := by
 simp [execOp, ho, go_sem]
theorem run_tou8 {m : Int} (ho : o.op = .convert 3 5 x) (hx : ρ x = .int .i64 m) (h0 : 0 ≤ m) (h1 : m < 256) : (execOp ρ o).run Tryz.prog w = .ok (.value (.int .u8 m)) w := by
 have : IntKind.u8.wrap m = m := by simp [IntKind.wrap, IntKind.bits, IntKind.signed]; omega
 simp [execOp, ho, hx, go_sem, this]
theorem run_uleq {m n : Int} (hx : ρ x = .int .u8 m) (hy : ρ y = .int .u8 n) (ho : o.op = .binOp .leq 5 x y 5) : (execOp ρ o).run Tryz.prog w = .ok (.value (.bool (decide (m ≤ n)))) w := by
 simp [execOp, ho, hx, hy, go_sem]
theorem run_ueql {m n : Int} (hx : ρ x = .int .u8 m) (hy : ρ y = .int .u8 n) (ho : o.op = .binOp .eql 5 x y 5) : (execOp ρ o).run Tryz.prog w = .ok (.value (.bool (m == n))) w := by
 simp [execOp, ho, hx, hy, go_sem]
theorem run_uneq {m n : Int} (hx : ρ x = .int .u8 m) (hy : ρ y = .int .u8 n) (ho : o.op = .binOp .neq 5 x y 5) : (execOp ρ o).run Tryz.prog w = .ok (.value (.bool (m != n))) w := by
 simp [execOp, ho, hx, hy, go_sem]
theorem run_st5 {m : Int} (ho : o.op = .store 5 x y) (hx : ρ x = .pointer (some ⟨b, off, none⟩)) (hy : ρ y = .int .u8 m) (hc : w.cell? ⟨b, off, none⟩ = some u) (hz : w.frozen? ⟨b, off, none⟩ = false) : (execOp ρ o).run Tryz.prog w = .ok .skip (w.setCell ⟨b, off, none⟩ (.int .u8 m)) := by
 simp [execOp, ho, hx, hy, go_sem, hc, hz]
theorem run_ld5 {m : Int} (ho : o.op = .load 5 x) (hx : ρ x = .pointer (some ⟨b, off, none⟩)) (hc : w.cell? ⟨b, off, none⟩ = some (.int .u8 m)) : (execOp ρ o).run Tryz.prog w = .ok (.value (.int .u8 m)) w := by
 simp [execOp, ho, hx, go_sem, hc]
theorem run_index111 {i : Nat} (ho : o.op = .indexAddr 111 x y) (hx : ρ x = .pointer (some ⟨b, off, none⟩)) (hy : ρ y = .int .i64 i) (hi : i < 256) : (execOp ρ o).run Tryz.prog w = .ok (.value (.pointer (some ⟨b, off + i, none⟩))) w := by
 have h1 : (i : Int) < 256 := by omega
 simp [execOp, ho, hx, hy, go_sem, h1]
theorem run_index111u {i : Nat} (ho : o.op = .indexAddr 111 x y) (hx : ρ x = .pointer (some ⟨b, off, none⟩)) (hy : ρ y = .int .u8 i) (hi : i < 256) : (execOp ρ o).run Tryz.prog w = .ok (.value (.pointer (some ⟨b, off + i, none⟩))) w := by
 have h1 : (i : Int) < 256 := by omega
 simp [execOp, ho, hx, hy, go_sem, h1]
theorem run_ld113 {f : Fn} {a c : Array Value} (ho : o.op = .load 113 x) (hx : ρ x = .pointer (some ⟨b, off, none⟩)) (hc : w.cell? ⟨b, off, none⟩ = some (.func f a c)) : (execOp ρ o).run Tryz.prog w = .ok (.value (.func f a c)) w := by
 simp [execOp, ho, hx, go_sem, hc]
theorem run_st113 {f : Fn} {a c : Array Value} (ho : o.op = .store 113 x y) (hx : ρ x = .pointer (some ⟨b, off, none⟩)) (hy : ρ y = .func f a c) (hc : w.cell? ⟨b, off, none⟩ = some u) (hz : w.frozen? ⟨b, off, none⟩ = false) : (execOp ρ o).run Tryz.prog w = .ok .skip (w.setCell ⟨b, off, none⟩ (.func f a c)) := by
 simp [execOp, ho, hx, hy, go_sem, hc, hz, run_store Tryz.prog w ⟨b, off, none⟩ (.func f a c) .plain rfl]
theorem run_box9 {s : ByteArray} (ho : o.op = .box 9 x) (hx : ρ x = .string s) : (execOp ρ o).run Tryz.prog w = .ok (.value (.pointer (some ⟨w.heap.size, 0, none⟩))) (w.alloc (.cells #[.string s] 9)) := by
 simp [execOp, ho, hx, go_sem]
theorem run_mkfn2 {f : Nat} {p q : Value} (ho : o.op = .makeFunc (.func f) #[] #[x, y]) (hx : ρ x = p) (hy : ρ y = q) : (execOp ρ o).run Tryz.prog w = .ok (.value (.func (.func f) #[] #[p, q])) w := by
 simp [execOp, ho, hx, hy, go_sem]
theorem info111 : (Tryz.prog.info? 111).map (·.size) = some 256 := by kernel_rfl
theorem run_ld111 {cs : Array Value} (ho : o.op = .load 111 x) (hx : ρ x = .pointer (some ⟨b, 0, none⟩)) (h : w.heap[b]? = some (.cells cs 111 (0, 0))) (hs : cs.size = 256) : (execOp ρ o).run Tryz.prog w = .ok (.value (.agg cs)) w := by
 have := run_loadVar_row (P := Tryz.prog) w b 111 111 cs (0, 0) _ h Tryz.underlying111 rfl (by rw [info111, hs])
 simp only [execOp, ho, hx, Instr.loadAt, Instr.sureAddr, Sem.run_bind, Sem.run_pure, Result.andThen, this]
theorem run_st111 {cs old : Array Value} (ho : o.op = .store 111 x y) (hx : ρ x = .pointer (some ⟨b, 0, none⟩)) (hy : ρ y = .agg cs) (h : w.heap[b]? = some (.cells old 111 (0, 0))) (hs : cs.size = 256) (ho2 : old.size = 256) (h1 : cs.all (·.oneCell') = true) : (execOp ρ o).run Tryz.prog w = .ok .skip (w.setRow b cs) := by
 have := run_storeVar_row (P := Tryz.prog) w b 111 111 old cs h (by rw [info111, hs]) (by rw [hs, ho2]) h1
 simp only [execOp, ho, hx, hy, Instr.storeAt, Instr.sureAddr, Sem.run_bind, Sem.run_pure, Result.andThen, this]
theorem setRow_same {cs old : Array Value} {T : TypeId} (h : w.heap[b]? = some (.cells old T (0, 0))) : (w.setRow b cs).heap[b]? = some (.cells cs T (0, 0)) := by
 unfold World.setRow
 simp only [Array.getElem?_modify, if_true, h, Option.map_some]
theorem setRow_fr {cs : Array Value} : Fr (fun r => r = b) w (w.setRow b cs) := by
 refine ⟨rfl, rfl, rfl, by simp [World.setRow], fun r _ hr => ?_⟩
 unfold World.setRow
 rw [Array.getElem?_modify, if_neg (fun e => hr e.symm)]
end
/-- A table of 256 small numbers. -/
def tb8 (w : World) (b : Nat) (t : Nat → Nat) : Prop := ∃ cs, w.heap[b]? = some (.cells cs 111 (0, 0)) ∧ cs.size = 256 ∧ ∀ i, i < 256 → cs[i]? = some (.int .u8 (t i : Nat))
theorem tb8.fr {w w' : World} {b : Nat} {t : Nat → Nat} (h : tb8 w b t) {F : Nat → Prop} (hf : Fr F w w') (hb : ¬ F b) : tb8 w' b t := by
 obtain ⟨cs, h1, h2, h3⟩ := h
 exact ⟨cs, hf.obj h1 hb, h2, h3⟩
theorem tb8.lt {w : World} {b : Nat} {t : Nat → Nat} (h : tb8 w b t) : b < w.heap.size := by
 obtain ⟨cs, h1, _⟩ := h
 exact lt_of_blk h1
theorem tb8.at {w : World} {b : Nat} {t : Nat → Nat} (h : tb8 w b t) {i : Nat} (hi : i < 256) : w.cell? ⟨b, 0 + i, none⟩ = some (.int .u8 (t i : Nat)) := by
 obtain ⟨cs, h1, _, h3⟩ := h
 rw [cell_of_blk h1, Nat.zero_add]; exact h3 i hi
theorem tb8.ext {w : World} {b : Nat} {t t' : Nat → Nat} (h : tb8 w b t) (he : ∀ i, i < 256 → t i = t' i) : tb8 w b t' := by
 obtain ⟨cs, h1, h2, h3⟩ := h
 exact ⟨cs, h1, h2, fun i hi => by rw [← he i hi]; exact h3 i hi⟩
theorem tb8.set {w : World} {b : Nat} {t : Nat → Nat} (h : tb8 w b t) {k : Nat} (hk : k < 256) (v : Nat) : (w.cell? ⟨b, 0 + k, none⟩ = some (.int .u8 (t k : Nat)) ∧ w.frozen? ⟨b, 0 + k, none⟩ = false) ∧ tb8 (w.setCell ⟨b, 0 + k, none⟩ (.int .u8 (v : Nat))) b (fun i => if i = k then v else t i) ∧ Fr (fun r => r = b) w (w.setCell ⟨b, 0 + k, none⟩ (.int .u8 (v : Nat))) := by
 have hc := h.at hk
 obtain ⟨cs, h1, h2, h3⟩ := h
 refine ⟨⟨hc, free_of_blk h1 _⟩, ⟨_, blk_setCell_same h1 _, by simpa using h2, fun i hi => ?_⟩, (Fr.refl (fun r => r = b) w).setCell (p := ⟨b, _, none⟩) (fun _ => rfl) _⟩
 rw [Nat.zero_add, Array.getElem?_setIfInBounds]
 by_cases e : i = k
 ·subst e; simp [h2, hk]
 ·rw [if_neg (fun e2 => e e2.symm)]; simp only [if_neg e]; exact h3 i hi
section
variable {O : Array Oper} {Q : Exit → Act → World → Prop} {rest : List Oper} {o : Oper} {a : Act} {w : World} {n d : Nat} {L : List (Nat × Value)} {ds : List Deferred} {x y : Operand} {b : Nat}
theorem env_new111 (E : EnvD ds n L a) (hd : o.dst = some d) (hn : d < n) (hf : (L.map (·.1)).contains d = false) (hw : Region.wanted o (yielded O a.tmps) = true) (ho : o.op = .alloc 111)
  (k : ∀ a' w' b, w.heap.size = b → tb8 w' b (fun _ => 0) → Fr (fun _ => False) w w' → EnvD ds n ((d, .pointer (some ⟨b, 0, none⟩)) :: L) a' → wpList Tryz.prog O Q rest a' w') : wpList Tryz.prog O Q (o :: rest) a w :=
 env_put E hd hn hf hw (run_alloc111 ho) fun a' E' => k a' _ _ rfl ⟨_, blk_alloc_new _ _, zero111s.1, fun i hi => zero111s.2 i hi⟩ ((Fr.refl _ _).alloc _) E'
theorem env_st8 {t : Nat → Nat} {k v : Nat} (E : EnvD ds n L a) (hd : o.dst = none) (hw : Region.wanted o (yielded O a.tmps) = true) (ho : o.op = .store 5 x y) (hx : a.eval x = .pointer (some ⟨b, 0 + k, none⟩)) (hy : a.eval y = .int .u8 (v : Nat)) (h : tb8 w b t) (hk : k < 256)
  (kk : ∀ w', tb8 w' b (fun i => if i = k then v else t i) → Fr (fun r => r = b) w w' → EnvD ds n L a → wpList Tryz.prog O Q rest a w') : wpList Tryz.prog O Q (o :: rest) a w := by
 obtain ⟨⟨h1, h2⟩, h3, h4⟩ := h.set hk v
 exact env_store E hd hw (run_st5 ho hx hy h1 h2) fun E' => kk _ h3 h4 E'
end
/-- The class of a byte. -/
def cl8 (b : UInt8) : Nat := if b == 35 then 2 else if b == 95 then 5 else if b == 34 then 7 else if isLet b then 3 else if isDig b then 4 else if isBlk b then 1 else if isSym b then 6 else 0
def cls0 (i : Nat) : Nat := if isLet (UInt8.ofNat i) then 3 else if isDig (UInt8.ofNat i) then 4 else if isBlk (UInt8.ofNat i) then 1 else if isSym (UInt8.ofNat i) then 6 else 0
theorem letq (i : Nat) (hi : i < 256) : isLet (UInt8.ofNat i) = (decide ((97 : Int) ≤ (i : Int)) && decide ((i : Int) ≤ 122) || decide ((65 : Int) ≤ (i : Int)) && decide ((i : Int) ≤ 90)) := by
 have : ∀ i : Fin 256, isLet (UInt8.ofNat i.val) = (decide ((97 : Int) ≤ (i.val : Int)) && decide ((i.val : Int) ≤ 122) || decide ((65 : Int) ≤ (i.val : Int)) && decide ((i.val : Int) ≤ 90)) := by decide +kernel
 exact this ⟨i, hi⟩
theorem digq (i : Nat) (hi : i < 256) : isDig (UInt8.ofNat i) = (decide ((48 : Int) ≤ (i : Int)) && decide ((i : Int) ≤ 57)) := by
 have : ∀ i : Fin 256, isDig (UInt8.ofNat i.val) = (decide ((48 : Int) ≤ (i.val : Int)) && decide ((i.val : Int) ≤ 57)) := by decide +kernel
 exact this ⟨i, hi⟩
def ixb (s : Bys) (i : Nat) : Int := Lib.indexByte s (UInt8.ofNat i)
theorem blkq (i : Nat) (hi : i < 256) : isBlk (UInt8.ofNat i) = decide ((0 : Int) ≤ ixb [32, 9, 10] i) := by
 have : ∀ i : Fin 256, isBlk (UInt8.ofNat i.val) = decide ((0 : Int) ≤ ixb [32, 9, 10] i.val) := by decide +kernel
 exact this ⟨i, hi⟩
theorem symq (i : Nat) (hi : i < 256) : isSym (UInt8.ofNat i) = decide ((0 : Int) ≤ ixb [59, 44, 46, 58, 40, 41, 123, 125, 91, 93, 61, 60, 62, 47, 45] i) := by
 have : ∀ i : Fin 256, isSym (UInt8.ofNat i.val) = decide ((0 : Int) ≤ ixb [59, 44, 46, 58, 40, 41, 123, 125, 91, 93, 61, 60, 62, 47, 45] i.val) := by decide +kernel
 exact this ⟨i, hi⟩
theorem ixb_calls (s : Bys) (i : Nat) (hi : i < 256) (w : World) : Calls Tryz.prog 97 #[.string (ofL s), .int .u8 (i : Int)] w fun e w' => e = .returned (.int .i64 (ixb s i)) ∧ Fr (fun _ => False) w w' := by
 refine (Tryz.strings_IndexByte (ofL s) (i : Int) w).mono fun e w' h => ⟨?_, by rw [h.2]; exact Fr.refl _ _⟩
 rw [h.1]
 unfold ixb
 rw [show (ofL s).data.toList = s from by simp [ofL], show ((i : Int).toNat.toUInt8) = UInt8.ofNat i from by simp]
theorem cls_of (i : Nat) (hi : i < 256) : (if i = 34 then 7 else if i = 95 then 5 else if i = 35 then 2 else cls0 i) = cl8 (UInt8.ofNat i) := by
 have : ∀ i : Fin 256, (if i.val = 34 then 7 else if i.val = 95 then 5 else if i.val = 35 then 2 else cls0 i.val) = cl8 (UInt8.ofNat i.val) := by decide +kernel
 exact this ⟨i, hi⟩
def clsT (i : Nat) : Nat := cl8 (UInt8.ofNat i)
def clsAt (s : Bys) (i : Nat) : Nat := match s[i]? with | some b => cl8 b | none => 0
theorem tb8.one {w : World} {b : Nat} {t : Nat → Nat} {cs : Array Value} (h : w.heap[b]? = some (.cells cs 111 (0, 0))) (ht : tb8 w b t) : cs.size = 256 ∧ cs.all (·.oneCell') = true ∧ ∀ i, i < 256 → cs[i]? = some (.int .u8 (t i : Nat)) := by
 obtain ⟨cs', h1, h2, h3⟩ := ht
 rw [h] at h1
 cases h1
 refine ⟨h2, ?_, h3⟩
 rw [Array.all_eq_true]
 intro i hi
 have := h3 i (by omega)
 rw [Array.getElem?_eq_getElem hi] at this
 rw [Option.some.inj this]; rfl
theorem ret_cell111 {fn : Func} {R : Ending → World → Prop} {n : Nat} {L : List (Nat × Value)} {a : Act} {w : World} {t : Tmp} {g : Nat} {cs : Array Value} (hr : fn.results = #[.cell t 111]) (E : Env n L a) (hv : a.eval (.tmp t) = .pointer (some ⟨g, 0, none⟩)) (h : w.heap[g]? = some (.cells cs 111 (0, 0))) (hs : cs.size = 256) (hR : R (.returned (.agg cs)) w) : bodyPost Tryz.prog fn R .ret a w := by
 refine ⟨E.df, .agg cs, ?_, hR⟩
 exact results_cell_row hr a.tmps w g 111 cs (0, 0) _ hv h Tryz.underlying111 rfl (by rw [info111, hs])
set_option maxRecDepth 100000 in
set_option maxHeartbeats 4000000 in
theorem classes_calls (w : World) : Calls Tryz.prog 72 #[] w fun e w' => ∃ cs, e = .returned (.agg cs) ∧ cs.size = 256 ∧ cs.all (·.oneCell') = true ∧ (∀ i, i < 256 → cs[i]? = some (.int .u8 (clsT i : Nat))) ∧ Fr (fun _ => False) w w' := by
 refine wp_start0 Tryz.func72 rfl rfl (n := 50) (by decide) fun a E => ?_
 have hf : Fr (fun _ => False) w w := Fr.refl _ _
 refine wp_seq ?_
 refine wp_region_lit ?_
 refine env_new111 (d := 0) E rfl (by decide) rfl (wanted_none rfl _) rfl fun a w1 b82 eb82 htb82 f1 E => ?_
 have hnb82 : w.heap.size ≤ b82 := by have := hf.size; omega
 have hf := hf.trans' f1 (fun _ _ h => h.elim)
 clear f1
 refine wpList_nil ?_
 refine then_n ?_
 refine wp_seq ?_
 refine wp_region_lit ?_
 refine env_new111 (d := 1) E rfl (by decide) rfl (wanted_none rfl _) rfl fun a w1 b83 eb83 htb83 f1 E => ?_
 have hnb83 : w.heap.size ≤ b83 := by have := hf.size; omega
 have hneb82b83 : b82 < b83 := by have := htb82.lt; omega
 have htb82 := htb82.fr f1 id
 have hf := hf.trans' f1 (fun _ _ h => h.elim)
 clear f1
 refine wpList_nil ?_
 refine then_n ?_
 refine wp_seq ?_
 refine wp_seq ?_
 refine wp_region_lit ?_
 refine ep (v := .int .i64 0) E (run_move rfl rfl) fun a E => ?_
 refine wpList_nil ?_
 refine then_n ?_
 refine wp_block ?_
 replace htb83 : tb8 _ b83 (fun i => if i < 0 then cls0 i else 0) := htb83.ext fun i _ => by simp
 refine wp_loop (fun a w2 => ∃ (n : Nat), Env 50 [(4, .int .i64 (n : Int)), (0, .pointer (some ⟨b82, 0, none⟩)), (1, .pointer (some ⟨b83, 0, none⟩))] a ∧ n ≤ 256 ∧ tb8 w2 b82 (fun _ => 0) ∧ tb8 w2 b83 (fun i => if i < n then cls0 i else 0) ∧ Fr (fun _ => False) w w2) (fun a _ => 256 - (intOf (a.eval (.tmp 4))).toNat) ?_ ?_
 ·exact ⟨0, E.of ⟨E.get 0 rfl, E.get 2 rfl, E.get 1 rfl, trivial⟩, Nat.zero_le _, htb82, htb83, hf⟩
 clear E
 rintro a w2 ⟨n, E, hn, htb82, htb83, hf⟩
 have hmu : 256 - (intOf (a.eval (.tmp 4))).toNat = 256 - n := by rw [E.get 0 rfl]; first | rfl | (simp [intOf]; done) | (simp only [intOf]; omega)
 rw [hmu]
 clear hmu
 refine wp_seq ?_
 refine wp_region_lit ?_
 refine ep (v := .bool (decide ((n : Int) < 256))) E (run_ilss (E.get 0 rfl) rfl Tryz.underlying3 rfl) fun a E => ?_
 refine wpList_nil ?_
 refine then_n ?_
 refine wp_seq ?_
 cases hq85 : (decide ((n : Int) < 256)) with
 | false =>
  rw [hq85] at E
  have hie : n = 256 := by have := of_decide_eq_false hq85; omega
  refine wp_cond_false (E.get 0 rfl) ?_
  refine wp_exit ?_
  refine then_e ?_
  refine then_e ?_
  refine blk_e ?_
  refine then_n ?_
  refine wp_seq ?_
  refine wp_region_lit ?_
  refine ep (v := .pointer (some ⟨b83, (0 + 35), none⟩)) E (run_index111 (i := 35) rfl (E.get 3 rfl) rfl (by omega)) fun a E => ?_
  refine env_st8 (v := 2) E rfl (wanted_none rfl _) rfl (E.get 0 rfl) rfl htb83 (by omega) fun w1 htb83n f1 E => ?_
  have htb82 := htb82.fr f1 (fun e => by (try simp only at e); omega)
  have hf := hf.trans' f1 (fun r hr => (fun e => by (try simp only at e); omega))
  clear f1
  replace htb83 := htb83n
  refine ep (v := .pointer (some ⟨b83, (0 + 95), none⟩)) E (run_index111 (i := 95) rfl (E.get 4 rfl) rfl (by omega)) fun a E => ?_
  refine env_st8 (v := 5) E rfl (wanted_none rfl _) rfl (E.get 0 rfl) rfl htb83 (by omega) fun w1 htb83n f1 E => ?_
  have htb82 := htb82.fr f1 (fun e => by (try simp only at e); omega)
  have hf := hf.trans' f1 (fun r hr => (fun e => by (try simp only at e); omega))
  clear f1
  replace htb83 := htb83n
  refine ep (v := .pointer (some ⟨b83, (0 + 34), none⟩)) E (run_index111 (i := 34) rfl (E.get 5 rfl) rfl (by omega)) fun a E => ?_
  refine env_st8 (v := 7) E rfl (wanted_none rfl _) rfl (E.get 0 rfl) rfl htb83 (by omega) fun w1 htb83n f1 E => ?_
  have htb82 := htb82.fr f1 (fun e => by (try simp only at e); omega)
  have hf := hf.trans' f1 (fun r hr => (fun e => by (try simp only at e); omega))
  clear f1
  replace htb83 := htb83n
  refine wpList_nil ?_
  refine then_n ?_
  refine wp_seq ?_
  have htf : tb8 w1 b83 clsT := htb83.ext fun i hi => by
   rw [hie]; simp only [hi, if_true]; exact cls_of i hi
  obtain ⟨cs1, hq1, hq2, hq3⟩ := id htf
  obtain ⟨hs1, ha1, hc1⟩ := tb8.one hq1 htf
  obtain ⟨cs0, hp1, hp2, _⟩ := id htb82
  refine wp_region_lit ?_
  refine ep (v := .agg cs1) E (run_ld111 rfl (E.get 6 rfl) hq1 hs1) fun a E => ?_
  refine env_store E rfl (wanted_none rfl _) (run_st111 rfl (E.get 6 rfl) (E.get 0 rfl) hp1 hs1 hp2 ha1) fun E => ?_
  have hz := setRow_same (cs := cs1) hp1
  have hf := hf.trans' (setRow_fr (w := w1) (b := b82) (cs := cs1)) (fun r hr e => by omega)
  refine wpList_nil ?_
  refine then_n ?_
  refine wp_ret ?_
  exact ret_cell111 rfl E (E.get 6 rfl) hz hs1 ⟨cs1, rfl, hs1, ha1, hc1, hf⟩
 | true =>
  rw [hq85] at E
  have hlt : n < 256 := by have := of_decide_eq_true hq85; omega
  refine wp_cond_true (E.get 0 rfl) ?_
  refine wp_skip ?_
  refine then_n ?_
  refine wp_seq ?_
  refine wp_block ?_
  refine wp_seq ?_
  refine wp_region_lit ?_
  refine ep (v := .int .i64 (n : Int)) E (run_move rfl (E.get 1 rfl)) fun a E => ?_
  refine ep (v := .int .i64 (n : Int)) E (run_assign rfl (E.get 0 rfl)) fun a E => ?_
  refine wpList_nil ?_
  refine then_n ?_
  refine wp_seq ?_
  refine wp_region_lit ?_
  refine ep (v := .int .i64 (n : Int)) E (run_move rfl (E.get 0 rfl)) fun a E => ?_
  refine ep (v := .int .u8 (n : Int)) E (run_tou8 rfl (E.get 0 rfl) (by omega) (by omega)) fun a E => ?_
  refine ep (v := .int .u8 (n : Int)) E (run_assign rfl (E.get 0 rfl)) fun a E => ?_
  refine wpList_nil ?_
  refine then_n ?_
  refine wp_block ?_
  refine wp_seq ?_
  refine wp_seq ?_
  refine wp_region_lit ?_
  refine ep (v := .int .u8 (n : Int)) E (run_move rfl (E.get 0 rfl)) fun a E => ?_
  refine ep (v := .bool (decide (97 ≤ (n : Int)))) E (run_uleq rfl (E.get 0 rfl) rfl) fun a E => ?_
  refine ep (v := .bool (decide (97 ≤ (n : Int)))) E (run_move rfl (E.get 0 rfl)) fun a E => ?_
  cases hq86 : (decide (97 ≤ (n : Int))) with
  | false =>
   rw [hq86] at E
   refine ek E rfl (E.get 0 rfl) fun a E => ?_
   refine ek E rfl (E.get 1 rfl) fun a E => ?_
   refine ep (v := .bool false) E (run_pick_f rfl (E.get 2 rfl) rfl) fun a E => ?_
   refine ep (v := .bool false) E (run_assign rfl (E.get 0 rfl)) fun a E => ?_
   refine wpList_nil ?_
   refine then_n ?_
   refine wp_cond_false (E.get 0 rfl) ?_
   refine wp_region_lit ?_
   refine ep (v := .int .u8 (n : Int)) E (run_move rfl (E.get 7 rfl)) fun a E => ?_
   refine ep (v := .bool (decide (65 ≤ (n : Int)))) E (run_uleq rfl (E.get 0 rfl) rfl) fun a E => ?_
   refine ep (v := .bool (decide (65 ≤ (n : Int)))) E (run_move rfl (E.get 0 rfl)) fun a E => ?_
   cases hq87 : (decide (65 ≤ (n : Int))) with
   | false =>
    rw [hq87] at E
    refine ek E rfl (E.get 0 rfl) fun a E => ?_
    refine ek E rfl (E.get 1 rfl) fun a E => ?_
    refine ep (v := .bool false) E (run_pick_f rfl (E.get 2 rfl) rfl) fun a E => ?_
    refine env_set (d := 9) (v := .bool false) E rfl (by decide) (wanted_none rfl _) (run_assign rfl (E.get 0 rfl)) fun a E => ?_
    refine wpList_nil ?_
    refine then_n ?_
    refine wp_cond_false (E.get 0 rfl) ?_
    refine wp_seq ?_
    refine wp_region_lit ?_
    refine ep (v := .int .u8 (n : Int)) E (run_move rfl (E.get 13 rfl)) fun a E => ?_
    refine ep (v := .bool (decide (48 ≤ (n : Int)))) E (run_uleq rfl (E.get 0 rfl) rfl) fun a E => ?_
    refine ep (v := .bool (decide (48 ≤ (n : Int)))) E (run_move rfl (E.get 0 rfl)) fun a E => ?_
    cases hq88 : (decide (48 ≤ (n : Int))) with
    | false =>
     rw [hq88] at E
     refine ek E rfl (E.get 0 rfl) fun a E => ?_
     refine ek E rfl (E.get 1 rfl) fun a E => ?_
     refine ep (v := .bool false) E (run_pick_f rfl (E.get 2 rfl) rfl) fun a E => ?_
     refine ep (v := .bool false) E (run_assign rfl (E.get 0 rfl)) fun a E => ?_
     refine wpList_nil ?_
     refine then_n ?_
     refine wp_cond_false (E.get 0 rfl) ?_
     refine wp_seq ?_
     refine wp_region_lit ?_
     refine ep (v := .int .u8 (n : Int)) E (run_move rfl (E.get 20 rfl)) fun a E => ?_
     refine env_call (d := 35) (v := .int .i64 (ixb [32, 9, 10] n)) E rfl (by decide) rfl (wanted_none rfl _) (run_call2 (enters_of Tryz.func97 (by kernel_rfl) rfl) rfl rfl rfl (E.get 0 rfl)) (ixb_calls [32, 9, 10] n hlt _) fun a w1 f1 E => ?_
     have htb82 := htb82.fr f1 id
     have htb83 := htb83.fr f1 id
     have hf := hf.trans' f1 (fun _ _ h => h.elim)
     clear f1
     refine ep (v := .bool (decide (0 ≤ (ixb [32, 9, 10] n)))) E (run_igeq (E.get 0 rfl) rfl Tryz.underlying3 rfl) fun a E => ?_
     refine ep (v := .bool (decide (0 ≤ (ixb [32, 9, 10] n)))) E (run_assign rfl (E.get 0 rfl)) fun a E => ?_
     refine wpList_nil ?_
     refine then_n ?_
     cases hq89 : (decide (0 ≤ (ixb [32, 9, 10] n))) with
     | false =>
      rw [hq89] at E
      refine wp_cond_false (E.get 0 rfl) ?_
      refine wp_seq ?_
      refine wp_region_lit ?_
      refine ep (v := .int .u8 (n : Int)) E (run_move rfl (E.get 24 rfl)) fun a E => ?_
      refine env_call (d := 41) (v := .int .i64 (ixb [59, 44, 46, 58, 40, 41, 123, 125, 91, 93, 61, 60, 62, 47, 45] n)) E rfl (by decide) rfl (wanted_none rfl _) (run_call2 (enters_of Tryz.func97 (by kernel_rfl) rfl) rfl rfl rfl (E.get 0 rfl)) (ixb_calls [59, 44, 46, 58, 40, 41, 123, 125, 91, 93, 61, 60, 62, 47, 45] n hlt _) fun a w1 f1 E => ?_
      have htb82 := htb82.fr f1 id
      have htb83 := htb83.fr f1 id
      have hf := hf.trans' f1 (fun _ _ h => h.elim)
      clear f1
      refine ep (v := .bool (decide (0 ≤ (ixb [59, 44, 46, 58, 40, 41, 123, 125, 91, 93, 61, 60, 62, 47, 45] n)))) E (run_igeq (E.get 0 rfl) rfl Tryz.underlying3 rfl) fun a E => ?_
      refine ep (v := .bool (decide (0 ≤ (ixb [59, 44, 46, 58, 40, 41, 123, 125, 91, 93, 61, 60, 62, 47, 45] n)))) E (run_assign rfl (E.get 0 rfl)) fun a E => ?_
      refine wpList_nil ?_
      refine then_n ?_
      cases hq90 : (decide (0 ≤ (ixb [59, 44, 46, 58, 40, 41, 123, 125, 91, 93, 61, 60, 62, 47, 45] n))) with
      | false =>
       rw [hq90] at E
       refine wp_cond_false (E.get 0 rfl) ?_
       refine wp_skip ?_
       refine blk_n ?_
       refine blk_n ?_
       refine then_n ?_
       replace htb83 : tb8 w1 b83 (fun i => if i = n then 0 else if i < n then cls0 i else 0) := htb83.ext fun i _ => by by_cases e : i = n <;> simp [e]
       refine wp_region_lit ?_
       refine ep (v := .int .i64 ((n : Int) + 1)) E (run_iadd Tryz.underlying3 (E.get 34 rfl) rfl (by omega) (by omega) rfl) fun a E => ?_
       refine env_set (d := 4) (v := .int .i64 ((n : Int) + 1)) E rfl (by decide) (wanted_none rfl _) (run_move rfl (E.get 0 rfl)) fun a E => ?_
       refine wpList_nil ?_
       refine then_n ?_
       have hcv : cls0 n = 0 := by
        unfold cls0
        rw [letq n hlt, digq n hlt, blkq n hlt, symq n hlt]
        try rw [hq86]
        try rw [hq87]
        try rw [hq88]
        try rw [hq89]
        try rw [hq90]
        first | rfl | simp
       have htn : tb8 _ b83 (fun i => if i < n + 1 then cls0 i else 0) := htb83.ext fun i hi => by
        by_cases e : i = n
        ·subst e; simp [hcv]
        ·have : (i < n + 1) = (i < n) := by rw [eq_iff_iff]; omega
         simp [e, this]
       refine ⟨⟨n + 1, E.of ⟨E.get 0 rfl, E.get 36 rfl, E.get 37 rfl, trivial⟩, by omega, htb82, htn, hf⟩, ?_⟩
       rw [E.get 0 rfl]; simp only [intOf]; omega
      | true =>
       rw [hq90] at E
       refine wp_cond_true (E.get 0 rfl) ?_
       refine wp_region_lit ?_
       refine ep (v := .int .i64 (n : Int)) E (run_move rfl (E.get 31 rfl)) fun a E => ?_
       refine ep (v := .pointer (some ⟨b83, (0 + n), none⟩)) E (run_index111 (i := n) rfl (E.get 37 rfl) (E.get 0 rfl) hlt) fun a E => ?_
       refine env_st8 (v := 6) E rfl (wanted_none rfl _) rfl (E.get 0 rfl) rfl htb83 (by omega) fun w1 htb83n f1 E => ?_
       have htb82 := htb82.fr f1 (fun e => by (try simp only at e); omega)
       have hf := hf.trans' f1 (fun r hr => (fun e => by (try simp only at e); omega))
       clear f1
       replace htb83 := htb83n
       refine wpList_nil ?_
       refine blk_n ?_
       refine blk_n ?_
       refine then_n ?_
       refine wp_region_lit ?_
       refine ep (v := .int .i64 ((n : Int) + 1)) E (run_iadd Tryz.underlying3 (E.get 36 rfl) rfl (by omega) (by omega) rfl) fun a E => ?_
       refine env_set (d := 4) (v := .int .i64 ((n : Int) + 1)) E rfl (by decide) (wanted_none rfl _) (run_move rfl (E.get 0 rfl)) fun a E => ?_
       refine wpList_nil ?_
       refine then_n ?_
       have hcv : cls0 n = 6 := by
        unfold cls0
        rw [letq n hlt, digq n hlt, blkq n hlt, symq n hlt]
        try rw [hq86]
        try rw [hq87]
        try rw [hq88]
        try rw [hq89]
        try rw [hq90]
        first | rfl | simp
       have htn : tb8 _ b83 (fun i => if i < n + 1 then cls0 i else 0) := htb83.ext fun i hi => by
        by_cases e : i = n
        ·subst e; simp [hcv]
        ·have : (i < n + 1) = (i < n) := by rw [eq_iff_iff]; omega
         simp [e, this]
       refine ⟨⟨n + 1, E.of ⟨E.get 0 rfl, E.get 38 rfl, E.get 39 rfl, trivial⟩, by omega, htb82, htn, hf⟩, ?_⟩
       rw [E.get 0 rfl]; simp only [intOf]; omega
     | true =>
      rw [hq89] at E
      refine wp_cond_true (E.get 0 rfl) ?_
      refine wp_region_lit ?_
      refine ep (v := .int .i64 (n : Int)) E (run_move rfl (E.get 27 rfl)) fun a E => ?_
      refine ep (v := .pointer (some ⟨b83, (0 + n), none⟩)) E (run_index111 (i := n) rfl (E.get 33 rfl) (E.get 0 rfl) hlt) fun a E => ?_
      refine env_st8 (v := 1) E rfl (wanted_none rfl _) rfl (E.get 0 rfl) rfl htb83 (by omega) fun w1 htb83n f1 E => ?_
      have htb82 := htb82.fr f1 (fun e => by (try simp only at e); omega)
      have hf := hf.trans' f1 (fun r hr => (fun e => by (try simp only at e); omega))
      clear f1
      replace htb83 := htb83n
      refine wpList_nil ?_
      refine blk_n ?_
      refine blk_n ?_
      refine then_n ?_
      refine wp_region_lit ?_
      refine ep (v := .int .i64 ((n : Int) + 1)) E (run_iadd Tryz.underlying3 (E.get 32 rfl) rfl (by omega) (by omega) rfl) fun a E => ?_
      refine env_set (d := 4) (v := .int .i64 ((n : Int) + 1)) E rfl (by decide) (wanted_none rfl _) (run_move rfl (E.get 0 rfl)) fun a E => ?_
      refine wpList_nil ?_
      refine then_n ?_
      have hcv : cls0 n = 1 := by
       unfold cls0
       rw [letq n hlt, digq n hlt, blkq n hlt, symq n hlt]
       try rw [hq86]
       try rw [hq87]
       try rw [hq88]
       try rw [hq89]
       first | rfl | simp
      have htn : tb8 _ b83 (fun i => if i < n + 1 then cls0 i else 0) := htb83.ext fun i hi => by
       by_cases e : i = n
       ·subst e; simp [hcv]
       ·have : (i < n + 1) = (i < n) := by rw [eq_iff_iff]; omega
        simp [e, this]
      refine ⟨⟨n + 1, E.of ⟨E.get 0 rfl, E.get 34 rfl, E.get 35 rfl, trivial⟩, by omega, htb82, htn, hf⟩, ?_⟩
      rw [E.get 0 rfl]; simp only [intOf]; omega
    | true =>
     rw [hq88] at E
     refine eg (v := .int .u8 (n : Int)) E (w_yes (g := 2) (s := 27) E rfl rfl (by decide) (E.get 0 rfl)) (run_move rfl (E.get 16 rfl)) fun a E => ?_
     refine eg (v := .bool (decide ((n : Int) ≤ 57))) E (w_yes (g := 2) (s := 27) E rfl rfl (by decide) (E.get 1 rfl)) (run_uleq (E.get 0 rfl) rfl rfl) fun a E => ?_
     refine ep (v := .bool (decide ((n : Int) ≤ 57))) E (run_pick_t rfl (E.get 2 rfl) (E.get 0 rfl)) fun a E => ?_
     refine ep (v := .bool (decide ((n : Int) ≤ 57))) E (run_assign rfl (E.get 0 rfl)) fun a E => ?_
     refine wpList_nil ?_
     refine then_n ?_
     cases hq91 : (decide ((n : Int) ≤ 57)) with
     | false =>
      rw [hq91] at E
      refine wp_cond_false (E.get 0 rfl) ?_
      refine wp_seq ?_
      refine wp_region_lit ?_
      refine ep (v := .int .u8 (n : Int)) E (run_move rfl (E.get 20 rfl)) fun a E => ?_
      refine env_call (d := 35) (v := .int .i64 (ixb [32, 9, 10] n)) E rfl (by decide) rfl (wanted_none rfl _) (run_call2 (enters_of Tryz.func97 (by kernel_rfl) rfl) rfl rfl rfl (E.get 0 rfl)) (ixb_calls [32, 9, 10] n hlt _) fun a w1 f1 E => ?_
      have htb82 := htb82.fr f1 id
      have htb83 := htb83.fr f1 id
      have hf := hf.trans' f1 (fun _ _ h => h.elim)
      clear f1
      refine ep (v := .bool (decide (0 ≤ (ixb [32, 9, 10] n)))) E (run_igeq (E.get 0 rfl) rfl Tryz.underlying3 rfl) fun a E => ?_
      refine ep (v := .bool (decide (0 ≤ (ixb [32, 9, 10] n)))) E (run_assign rfl (E.get 0 rfl)) fun a E => ?_
      refine wpList_nil ?_
      refine then_n ?_
      cases hq92 : (decide (0 ≤ (ixb [32, 9, 10] n))) with
      | false =>
       rw [hq92] at E
       refine wp_cond_false (E.get 0 rfl) ?_
       refine wp_seq ?_
       refine wp_region_lit ?_
       refine ep (v := .int .u8 (n : Int)) E (run_move rfl (E.get 24 rfl)) fun a E => ?_
       refine env_call (d := 41) (v := .int .i64 (ixb [59, 44, 46, 58, 40, 41, 123, 125, 91, 93, 61, 60, 62, 47, 45] n)) E rfl (by decide) rfl (wanted_none rfl _) (run_call2 (enters_of Tryz.func97 (by kernel_rfl) rfl) rfl rfl rfl (E.get 0 rfl)) (ixb_calls [59, 44, 46, 58, 40, 41, 123, 125, 91, 93, 61, 60, 62, 47, 45] n hlt _) fun a w1 f1 E => ?_
       have htb82 := htb82.fr f1 id
       have htb83 := htb83.fr f1 id
       have hf := hf.trans' f1 (fun _ _ h => h.elim)
       clear f1
       refine ep (v := .bool (decide (0 ≤ (ixb [59, 44, 46, 58, 40, 41, 123, 125, 91, 93, 61, 60, 62, 47, 45] n)))) E (run_igeq (E.get 0 rfl) rfl Tryz.underlying3 rfl) fun a E => ?_
       refine ep (v := .bool (decide (0 ≤ (ixb [59, 44, 46, 58, 40, 41, 123, 125, 91, 93, 61, 60, 62, 47, 45] n)))) E (run_assign rfl (E.get 0 rfl)) fun a E => ?_
       refine wpList_nil ?_
       refine then_n ?_
       cases hq93 : (decide (0 ≤ (ixb [59, 44, 46, 58, 40, 41, 123, 125, 91, 93, 61, 60, 62, 47, 45] n))) with
       | false =>
        rw [hq93] at E
        refine wp_cond_false (E.get 0 rfl) ?_
        refine wp_skip ?_
        refine blk_n ?_
        refine blk_n ?_
        refine then_n ?_
        replace htb83 : tb8 w1 b83 (fun i => if i = n then 0 else if i < n then cls0 i else 0) := htb83.ext fun i _ => by by_cases e : i = n <;> simp [e]
        refine wp_region_lit ?_
        refine ep (v := .int .i64 ((n : Int) + 1)) E (run_iadd Tryz.underlying3 (E.get 34 rfl) rfl (by omega) (by omega) rfl) fun a E => ?_
        refine env_set (d := 4) (v := .int .i64 ((n : Int) + 1)) E rfl (by decide) (wanted_none rfl _) (run_move rfl (E.get 0 rfl)) fun a E => ?_
        refine wpList_nil ?_
        refine then_n ?_
        have hcv : cls0 n = 0 := by
         unfold cls0
         rw [letq n hlt, digq n hlt, blkq n hlt, symq n hlt]
         try rw [hq86]
         try rw [hq87]
         try rw [hq88]
         try rw [hq91]
         try rw [hq92]
         try rw [hq93]
         first | rfl | simp
        have htn : tb8 _ b83 (fun i => if i < n + 1 then cls0 i else 0) := htb83.ext fun i hi => by
         by_cases e : i = n
         ·subst e; simp [hcv]
         ·have : (i < n + 1) = (i < n) := by rw [eq_iff_iff]; omega
          simp [e, this]
        refine ⟨⟨n + 1, E.of ⟨E.get 0 rfl, E.get 36 rfl, E.get 37 rfl, trivial⟩, by omega, htb82, htn, hf⟩, ?_⟩
        rw [E.get 0 rfl]; simp only [intOf]; omega
       | true =>
        rw [hq93] at E
        refine wp_cond_true (E.get 0 rfl) ?_
        refine wp_region_lit ?_
        refine ep (v := .int .i64 (n : Int)) E (run_move rfl (E.get 31 rfl)) fun a E => ?_
        refine ep (v := .pointer (some ⟨b83, (0 + n), none⟩)) E (run_index111 (i := n) rfl (E.get 37 rfl) (E.get 0 rfl) hlt) fun a E => ?_
        refine env_st8 (v := 6) E rfl (wanted_none rfl _) rfl (E.get 0 rfl) rfl htb83 (by omega) fun w1 htb83n f1 E => ?_
        have htb82 := htb82.fr f1 (fun e => by (try simp only at e); omega)
        have hf := hf.trans' f1 (fun r hr => (fun e => by (try simp only at e); omega))
        clear f1
        replace htb83 := htb83n
        refine wpList_nil ?_
        refine blk_n ?_
        refine blk_n ?_
        refine then_n ?_
        refine wp_region_lit ?_
        refine ep (v := .int .i64 ((n : Int) + 1)) E (run_iadd Tryz.underlying3 (E.get 36 rfl) rfl (by omega) (by omega) rfl) fun a E => ?_
        refine env_set (d := 4) (v := .int .i64 ((n : Int) + 1)) E rfl (by decide) (wanted_none rfl _) (run_move rfl (E.get 0 rfl)) fun a E => ?_
        refine wpList_nil ?_
        refine then_n ?_
        have hcv : cls0 n = 6 := by
         unfold cls0
         rw [letq n hlt, digq n hlt, blkq n hlt, symq n hlt]
         try rw [hq86]
         try rw [hq87]
         try rw [hq88]
         try rw [hq91]
         try rw [hq92]
         try rw [hq93]
         first | rfl | simp
        have htn : tb8 _ b83 (fun i => if i < n + 1 then cls0 i else 0) := htb83.ext fun i hi => by
         by_cases e : i = n
         ·subst e; simp [hcv]
         ·have : (i < n + 1) = (i < n) := by rw [eq_iff_iff]; omega
          simp [e, this]
        refine ⟨⟨n + 1, E.of ⟨E.get 0 rfl, E.get 38 rfl, E.get 39 rfl, trivial⟩, by omega, htb82, htn, hf⟩, ?_⟩
        rw [E.get 0 rfl]; simp only [intOf]; omega
      | true =>
       rw [hq92] at E
       refine wp_cond_true (E.get 0 rfl) ?_
       refine wp_region_lit ?_
       refine ep (v := .int .i64 (n : Int)) E (run_move rfl (E.get 27 rfl)) fun a E => ?_
       refine ep (v := .pointer (some ⟨b83, (0 + n), none⟩)) E (run_index111 (i := n) rfl (E.get 33 rfl) (E.get 0 rfl) hlt) fun a E => ?_
       refine env_st8 (v := 1) E rfl (wanted_none rfl _) rfl (E.get 0 rfl) rfl htb83 (by omega) fun w1 htb83n f1 E => ?_
       have htb82 := htb82.fr f1 (fun e => by (try simp only at e); omega)
       have hf := hf.trans' f1 (fun r hr => (fun e => by (try simp only at e); omega))
       clear f1
       replace htb83 := htb83n
       refine wpList_nil ?_
       refine blk_n ?_
       refine blk_n ?_
       refine then_n ?_
       refine wp_region_lit ?_
       refine ep (v := .int .i64 ((n : Int) + 1)) E (run_iadd Tryz.underlying3 (E.get 32 rfl) rfl (by omega) (by omega) rfl) fun a E => ?_
       refine env_set (d := 4) (v := .int .i64 ((n : Int) + 1)) E rfl (by decide) (wanted_none rfl _) (run_move rfl (E.get 0 rfl)) fun a E => ?_
       refine wpList_nil ?_
       refine then_n ?_
       have hcv : cls0 n = 1 := by
        unfold cls0
        rw [letq n hlt, digq n hlt, blkq n hlt, symq n hlt]
        try rw [hq86]
        try rw [hq87]
        try rw [hq88]
        try rw [hq91]
        try rw [hq92]
        first | rfl | simp
       have htn : tb8 _ b83 (fun i => if i < n + 1 then cls0 i else 0) := htb83.ext fun i hi => by
        by_cases e : i = n
        ·subst e; simp [hcv]
        ·have : (i < n + 1) = (i < n) := by rw [eq_iff_iff]; omega
         simp [e, this]
       refine ⟨⟨n + 1, E.of ⟨E.get 0 rfl, E.get 34 rfl, E.get 35 rfl, trivial⟩, by omega, htb82, htn, hf⟩, ?_⟩
       rw [E.get 0 rfl]; simp only [intOf]; omega
     | true =>
      rw [hq91] at E
      refine wp_cond_true (E.get 0 rfl) ?_
      refine wp_region_lit ?_
      refine ep (v := .int .i64 (n : Int)) E (run_move rfl (E.get 23 rfl)) fun a E => ?_
      refine ep (v := .pointer (some ⟨b83, (0 + n), none⟩)) E (run_index111 (i := n) rfl (E.get 29 rfl) (E.get 0 rfl) hlt) fun a E => ?_
      refine env_st8 (v := 4) E rfl (wanted_none rfl _) rfl (E.get 0 rfl) rfl htb83 (by omega) fun w1 htb83n f1 E => ?_
      have htb82 := htb82.fr f1 (fun e => by (try simp only at e); omega)
      have hf := hf.trans' f1 (fun r hr => (fun e => by (try simp only at e); omega))
      clear f1
      replace htb83 := htb83n
      refine wpList_nil ?_
      refine blk_n ?_
      refine blk_n ?_
      refine then_n ?_
      refine wp_region_lit ?_
      refine ep (v := .int .i64 ((n : Int) + 1)) E (run_iadd Tryz.underlying3 (E.get 28 rfl) rfl (by omega) (by omega) rfl) fun a E => ?_
      refine env_set (d := 4) (v := .int .i64 ((n : Int) + 1)) E rfl (by decide) (wanted_none rfl _) (run_move rfl (E.get 0 rfl)) fun a E => ?_
      refine wpList_nil ?_
      refine then_n ?_
      have hcv : cls0 n = 4 := by
       unfold cls0
       rw [letq n hlt, digq n hlt, blkq n hlt, symq n hlt]
       try rw [hq86]
       try rw [hq87]
       try rw [hq88]
       try rw [hq91]
       first | rfl | simp
      have htn : tb8 _ b83 (fun i => if i < n + 1 then cls0 i else 0) := htb83.ext fun i hi => by
       by_cases e : i = n
       ·subst e; simp [hcv]
       ·have : (i < n + 1) = (i < n) := by rw [eq_iff_iff]; omega
        simp [e, this]
      refine ⟨⟨n + 1, E.of ⟨E.get 0 rfl, E.get 30 rfl, E.get 31 rfl, trivial⟩, by omega, htb82, htn, hf⟩, ?_⟩
      rw [E.get 0 rfl]; simp only [intOf]; omega
   | true =>
    rw [hq87] at E
    refine eg (v := .int .u8 (n : Int)) E (w_yes (g := 2) (s := 18) E rfl rfl (by decide) (E.get 0 rfl)) (run_move rfl (E.get 10 rfl)) fun a E => ?_
    refine eg (v := .bool (decide ((n : Int) ≤ 90))) E (w_yes (g := 2) (s := 18) E rfl rfl (by decide) (E.get 1 rfl)) (run_uleq (E.get 0 rfl) rfl rfl) fun a E => ?_
    refine ep (v := .bool (decide ((n : Int) ≤ 90))) E (run_pick_t rfl (E.get 2 rfl) (E.get 0 rfl)) fun a E => ?_
    refine env_set (d := 9) (v := .bool (decide ((n : Int) ≤ 90))) E rfl (by decide) (wanted_none rfl _) (run_assign rfl (E.get 0 rfl)) fun a E => ?_
    refine wpList_nil ?_
    refine then_n ?_
    cases hq94 : (decide ((n : Int) ≤ 90)) with
    | false =>
     rw [hq94] at E
     refine wp_cond_false (E.get 0 rfl) ?_
     refine wp_seq ?_
     refine wp_region_lit ?_
     refine ep (v := .int .u8 (n : Int)) E (run_move rfl (E.get 13 rfl)) fun a E => ?_
     refine ep (v := .bool (decide (48 ≤ (n : Int)))) E (run_uleq rfl (E.get 0 rfl) rfl) fun a E => ?_
     refine ep (v := .bool (decide (48 ≤ (n : Int)))) E (run_move rfl (E.get 0 rfl)) fun a E => ?_
     cases hq95 : (decide (48 ≤ (n : Int))) with
     | false =>
      rw [hq95] at E
      refine ek E rfl (E.get 0 rfl) fun a E => ?_
      refine ek E rfl (E.get 1 rfl) fun a E => ?_
      refine ep (v := .bool false) E (run_pick_f rfl (E.get 2 rfl) rfl) fun a E => ?_
      refine ep (v := .bool false) E (run_assign rfl (E.get 0 rfl)) fun a E => ?_
      refine wpList_nil ?_
      refine then_n ?_
      refine wp_cond_false (E.get 0 rfl) ?_
      refine wp_seq ?_
      refine wp_region_lit ?_
      refine ep (v := .int .u8 (n : Int)) E (run_move rfl (E.get 20 rfl)) fun a E => ?_
      refine env_call (d := 35) (v := .int .i64 (ixb [32, 9, 10] n)) E rfl (by decide) rfl (wanted_none rfl _) (run_call2 (enters_of Tryz.func97 (by kernel_rfl) rfl) rfl rfl rfl (E.get 0 rfl)) (ixb_calls [32, 9, 10] n hlt _) fun a w1 f1 E => ?_
      have htb82 := htb82.fr f1 id
      have htb83 := htb83.fr f1 id
      have hf := hf.trans' f1 (fun _ _ h => h.elim)
      clear f1
      refine ep (v := .bool (decide (0 ≤ (ixb [32, 9, 10] n)))) E (run_igeq (E.get 0 rfl) rfl Tryz.underlying3 rfl) fun a E => ?_
      refine ep (v := .bool (decide (0 ≤ (ixb [32, 9, 10] n)))) E (run_assign rfl (E.get 0 rfl)) fun a E => ?_
      refine wpList_nil ?_
      refine then_n ?_
      cases hq96 : (decide (0 ≤ (ixb [32, 9, 10] n))) with
      | false =>
       rw [hq96] at E
       refine wp_cond_false (E.get 0 rfl) ?_
       refine wp_seq ?_
       refine wp_region_lit ?_
       refine ep (v := .int .u8 (n : Int)) E (run_move rfl (E.get 24 rfl)) fun a E => ?_
       refine env_call (d := 41) (v := .int .i64 (ixb [59, 44, 46, 58, 40, 41, 123, 125, 91, 93, 61, 60, 62, 47, 45] n)) E rfl (by decide) rfl (wanted_none rfl _) (run_call2 (enters_of Tryz.func97 (by kernel_rfl) rfl) rfl rfl rfl (E.get 0 rfl)) (ixb_calls [59, 44, 46, 58, 40, 41, 123, 125, 91, 93, 61, 60, 62, 47, 45] n hlt _) fun a w1 f1 E => ?_
       have htb82 := htb82.fr f1 id
       have htb83 := htb83.fr f1 id
       have hf := hf.trans' f1 (fun _ _ h => h.elim)
       clear f1
       refine ep (v := .bool (decide (0 ≤ (ixb [59, 44, 46, 58, 40, 41, 123, 125, 91, 93, 61, 60, 62, 47, 45] n)))) E (run_igeq (E.get 0 rfl) rfl Tryz.underlying3 rfl) fun a E => ?_
       refine ep (v := .bool (decide (0 ≤ (ixb [59, 44, 46, 58, 40, 41, 123, 125, 91, 93, 61, 60, 62, 47, 45] n)))) E (run_assign rfl (E.get 0 rfl)) fun a E => ?_
       refine wpList_nil ?_
       refine then_n ?_
       cases hq97 : (decide (0 ≤ (ixb [59, 44, 46, 58, 40, 41, 123, 125, 91, 93, 61, 60, 62, 47, 45] n))) with
       | false =>
        rw [hq97] at E
        refine wp_cond_false (E.get 0 rfl) ?_
        refine wp_skip ?_
        refine blk_n ?_
        refine blk_n ?_
        refine then_n ?_
        replace htb83 : tb8 w1 b83 (fun i => if i = n then 0 else if i < n then cls0 i else 0) := htb83.ext fun i _ => by by_cases e : i = n <;> simp [e]
        refine wp_region_lit ?_
        refine ep (v := .int .i64 ((n : Int) + 1)) E (run_iadd Tryz.underlying3 (E.get 34 rfl) rfl (by omega) (by omega) rfl) fun a E => ?_
        refine env_set (d := 4) (v := .int .i64 ((n : Int) + 1)) E rfl (by decide) (wanted_none rfl _) (run_move rfl (E.get 0 rfl)) fun a E => ?_
        refine wpList_nil ?_
        refine then_n ?_
        have hcv : cls0 n = 0 := by
         unfold cls0
         rw [letq n hlt, digq n hlt, blkq n hlt, symq n hlt]
         try rw [hq86]
         try rw [hq87]
         try rw [hq94]
         try rw [hq95]
         try rw [hq96]
         try rw [hq97]
         first | rfl | simp
        have htn : tb8 _ b83 (fun i => if i < n + 1 then cls0 i else 0) := htb83.ext fun i hi => by
         by_cases e : i = n
         ·subst e; simp [hcv]
         ·have : (i < n + 1) = (i < n) := by rw [eq_iff_iff]; omega
          simp [e, this]
        refine ⟨⟨n + 1, E.of ⟨E.get 0 rfl, E.get 36 rfl, E.get 37 rfl, trivial⟩, by omega, htb82, htn, hf⟩, ?_⟩
        rw [E.get 0 rfl]; simp only [intOf]; omega
       | true =>
        rw [hq97] at E
        refine wp_cond_true (E.get 0 rfl) ?_
        refine wp_region_lit ?_
        refine ep (v := .int .i64 (n : Int)) E (run_move rfl (E.get 31 rfl)) fun a E => ?_
        refine ep (v := .pointer (some ⟨b83, (0 + n), none⟩)) E (run_index111 (i := n) rfl (E.get 37 rfl) (E.get 0 rfl) hlt) fun a E => ?_
        refine env_st8 (v := 6) E rfl (wanted_none rfl _) rfl (E.get 0 rfl) rfl htb83 (by omega) fun w1 htb83n f1 E => ?_
        have htb82 := htb82.fr f1 (fun e => by (try simp only at e); omega)
        have hf := hf.trans' f1 (fun r hr => (fun e => by (try simp only at e); omega))
        clear f1
        replace htb83 := htb83n
        refine wpList_nil ?_
        refine blk_n ?_
        refine blk_n ?_
        refine then_n ?_
        refine wp_region_lit ?_
        refine ep (v := .int .i64 ((n : Int) + 1)) E (run_iadd Tryz.underlying3 (E.get 36 rfl) rfl (by omega) (by omega) rfl) fun a E => ?_
        refine env_set (d := 4) (v := .int .i64 ((n : Int) + 1)) E rfl (by decide) (wanted_none rfl _) (run_move rfl (E.get 0 rfl)) fun a E => ?_
        refine wpList_nil ?_
        refine then_n ?_
        have hcv : cls0 n = 6 := by
         unfold cls0
         rw [letq n hlt, digq n hlt, blkq n hlt, symq n hlt]
         try rw [hq86]
         try rw [hq87]
         try rw [hq94]
         try rw [hq95]
         try rw [hq96]
         try rw [hq97]
         first | rfl | simp
        have htn : tb8 _ b83 (fun i => if i < n + 1 then cls0 i else 0) := htb83.ext fun i hi => by
         by_cases e : i = n
         ·subst e; simp [hcv]
         ·have : (i < n + 1) = (i < n) := by rw [eq_iff_iff]; omega
          simp [e, this]
        refine ⟨⟨n + 1, E.of ⟨E.get 0 rfl, E.get 38 rfl, E.get 39 rfl, trivial⟩, by omega, htb82, htn, hf⟩, ?_⟩
        rw [E.get 0 rfl]; simp only [intOf]; omega
      | true =>
       rw [hq96] at E
       refine wp_cond_true (E.get 0 rfl) ?_
       refine wp_region_lit ?_
       refine ep (v := .int .i64 (n : Int)) E (run_move rfl (E.get 27 rfl)) fun a E => ?_
       refine ep (v := .pointer (some ⟨b83, (0 + n), none⟩)) E (run_index111 (i := n) rfl (E.get 33 rfl) (E.get 0 rfl) hlt) fun a E => ?_
       refine env_st8 (v := 1) E rfl (wanted_none rfl _) rfl (E.get 0 rfl) rfl htb83 (by omega) fun w1 htb83n f1 E => ?_
       have htb82 := htb82.fr f1 (fun e => by (try simp only at e); omega)
       have hf := hf.trans' f1 (fun r hr => (fun e => by (try simp only at e); omega))
       clear f1
       replace htb83 := htb83n
       refine wpList_nil ?_
       refine blk_n ?_
       refine blk_n ?_
       refine then_n ?_
       refine wp_region_lit ?_
       refine ep (v := .int .i64 ((n : Int) + 1)) E (run_iadd Tryz.underlying3 (E.get 32 rfl) rfl (by omega) (by omega) rfl) fun a E => ?_
       refine env_set (d := 4) (v := .int .i64 ((n : Int) + 1)) E rfl (by decide) (wanted_none rfl _) (run_move rfl (E.get 0 rfl)) fun a E => ?_
       refine wpList_nil ?_
       refine then_n ?_
       have hcv : cls0 n = 1 := by
        unfold cls0
        rw [letq n hlt, digq n hlt, blkq n hlt, symq n hlt]
        try rw [hq86]
        try rw [hq87]
        try rw [hq94]
        try rw [hq95]
        try rw [hq96]
        first | rfl | simp
       have htn : tb8 _ b83 (fun i => if i < n + 1 then cls0 i else 0) := htb83.ext fun i hi => by
        by_cases e : i = n
        ·subst e; simp [hcv]
        ·have : (i < n + 1) = (i < n) := by rw [eq_iff_iff]; omega
         simp [e, this]
       refine ⟨⟨n + 1, E.of ⟨E.get 0 rfl, E.get 34 rfl, E.get 35 rfl, trivial⟩, by omega, htb82, htn, hf⟩, ?_⟩
       rw [E.get 0 rfl]; simp only [intOf]; omega
     | true =>
      rw [hq95] at E
      refine eg (v := .int .u8 (n : Int)) E (w_yes (g := 2) (s := 27) E rfl rfl (by decide) (E.get 0 rfl)) (run_move rfl (E.get 16 rfl)) fun a E => ?_
      refine eg (v := .bool (decide ((n : Int) ≤ 57))) E (w_yes (g := 2) (s := 27) E rfl rfl (by decide) (E.get 1 rfl)) (run_uleq (E.get 0 rfl) rfl rfl) fun a E => ?_
      refine ep (v := .bool (decide ((n : Int) ≤ 57))) E (run_pick_t rfl (E.get 2 rfl) (E.get 0 rfl)) fun a E => ?_
      refine ep (v := .bool (decide ((n : Int) ≤ 57))) E (run_assign rfl (E.get 0 rfl)) fun a E => ?_
      refine wpList_nil ?_
      refine then_n ?_
      cases hq98 : (decide ((n : Int) ≤ 57)) with
      | false =>
       rw [hq98] at E
       refine wp_cond_false (E.get 0 rfl) ?_
       refine wp_seq ?_
       refine wp_region_lit ?_
       refine ep (v := .int .u8 (n : Int)) E (run_move rfl (E.get 20 rfl)) fun a E => ?_
       refine env_call (d := 35) (v := .int .i64 (ixb [32, 9, 10] n)) E rfl (by decide) rfl (wanted_none rfl _) (run_call2 (enters_of Tryz.func97 (by kernel_rfl) rfl) rfl rfl rfl (E.get 0 rfl)) (ixb_calls [32, 9, 10] n hlt _) fun a w1 f1 E => ?_
       have htb82 := htb82.fr f1 id
       have htb83 := htb83.fr f1 id
       have hf := hf.trans' f1 (fun _ _ h => h.elim)
       clear f1
       refine ep (v := .bool (decide (0 ≤ (ixb [32, 9, 10] n)))) E (run_igeq (E.get 0 rfl) rfl Tryz.underlying3 rfl) fun a E => ?_
       refine ep (v := .bool (decide (0 ≤ (ixb [32, 9, 10] n)))) E (run_assign rfl (E.get 0 rfl)) fun a E => ?_
       refine wpList_nil ?_
       refine then_n ?_
       cases hq99 : (decide (0 ≤ (ixb [32, 9, 10] n))) with
       | false =>
        rw [hq99] at E
        refine wp_cond_false (E.get 0 rfl) ?_
        refine wp_seq ?_
        refine wp_region_lit ?_
        refine ep (v := .int .u8 (n : Int)) E (run_move rfl (E.get 24 rfl)) fun a E => ?_
        refine env_call (d := 41) (v := .int .i64 (ixb [59, 44, 46, 58, 40, 41, 123, 125, 91, 93, 61, 60, 62, 47, 45] n)) E rfl (by decide) rfl (wanted_none rfl _) (run_call2 (enters_of Tryz.func97 (by kernel_rfl) rfl) rfl rfl rfl (E.get 0 rfl)) (ixb_calls [59, 44, 46, 58, 40, 41, 123, 125, 91, 93, 61, 60, 62, 47, 45] n hlt _) fun a w1 f1 E => ?_
        have htb82 := htb82.fr f1 id
        have htb83 := htb83.fr f1 id
        have hf := hf.trans' f1 (fun _ _ h => h.elim)
        clear f1
        refine ep (v := .bool (decide (0 ≤ (ixb [59, 44, 46, 58, 40, 41, 123, 125, 91, 93, 61, 60, 62, 47, 45] n)))) E (run_igeq (E.get 0 rfl) rfl Tryz.underlying3 rfl) fun a E => ?_
        refine ep (v := .bool (decide (0 ≤ (ixb [59, 44, 46, 58, 40, 41, 123, 125, 91, 93, 61, 60, 62, 47, 45] n)))) E (run_assign rfl (E.get 0 rfl)) fun a E => ?_
        refine wpList_nil ?_
        refine then_n ?_
        cases hq100 : (decide (0 ≤ (ixb [59, 44, 46, 58, 40, 41, 123, 125, 91, 93, 61, 60, 62, 47, 45] n))) with
        | false =>
         rw [hq100] at E
         refine wp_cond_false (E.get 0 rfl) ?_
         refine wp_skip ?_
         refine blk_n ?_
         refine blk_n ?_
         refine then_n ?_
         replace htb83 : tb8 w1 b83 (fun i => if i = n then 0 else if i < n then cls0 i else 0) := htb83.ext fun i _ => by by_cases e : i = n <;> simp [e]
         refine wp_region_lit ?_
         refine ep (v := .int .i64 ((n : Int) + 1)) E (run_iadd Tryz.underlying3 (E.get 34 rfl) rfl (by omega) (by omega) rfl) fun a E => ?_
         refine env_set (d := 4) (v := .int .i64 ((n : Int) + 1)) E rfl (by decide) (wanted_none rfl _) (run_move rfl (E.get 0 rfl)) fun a E => ?_
         refine wpList_nil ?_
         refine then_n ?_
         have hcv : cls0 n = 0 := by
          unfold cls0
          rw [letq n hlt, digq n hlt, blkq n hlt, symq n hlt]
          try rw [hq86]
          try rw [hq87]
          try rw [hq94]
          try rw [hq95]
          try rw [hq98]
          try rw [hq99]
          try rw [hq100]
          first | rfl | simp
         have htn : tb8 _ b83 (fun i => if i < n + 1 then cls0 i else 0) := htb83.ext fun i hi => by
          by_cases e : i = n
          ·subst e; simp [hcv]
          ·have : (i < n + 1) = (i < n) := by rw [eq_iff_iff]; omega
           simp [e, this]
         refine ⟨⟨n + 1, E.of ⟨E.get 0 rfl, E.get 36 rfl, E.get 37 rfl, trivial⟩, by omega, htb82, htn, hf⟩, ?_⟩
         rw [E.get 0 rfl]; simp only [intOf]; omega
        | true =>
         rw [hq100] at E
         refine wp_cond_true (E.get 0 rfl) ?_
         refine wp_region_lit ?_
         refine ep (v := .int .i64 (n : Int)) E (run_move rfl (E.get 31 rfl)) fun a E => ?_
         refine ep (v := .pointer (some ⟨b83, (0 + n), none⟩)) E (run_index111 (i := n) rfl (E.get 37 rfl) (E.get 0 rfl) hlt) fun a E => ?_
         refine env_st8 (v := 6) E rfl (wanted_none rfl _) rfl (E.get 0 rfl) rfl htb83 (by omega) fun w1 htb83n f1 E => ?_
         have htb82 := htb82.fr f1 (fun e => by (try simp only at e); omega)
         have hf := hf.trans' f1 (fun r hr => (fun e => by (try simp only at e); omega))
         clear f1
         replace htb83 := htb83n
         refine wpList_nil ?_
         refine blk_n ?_
         refine blk_n ?_
         refine then_n ?_
         refine wp_region_lit ?_
         refine ep (v := .int .i64 ((n : Int) + 1)) E (run_iadd Tryz.underlying3 (E.get 36 rfl) rfl (by omega) (by omega) rfl) fun a E => ?_
         refine env_set (d := 4) (v := .int .i64 ((n : Int) + 1)) E rfl (by decide) (wanted_none rfl _) (run_move rfl (E.get 0 rfl)) fun a E => ?_
         refine wpList_nil ?_
         refine then_n ?_
         have hcv : cls0 n = 6 := by
          unfold cls0
          rw [letq n hlt, digq n hlt, blkq n hlt, symq n hlt]
          try rw [hq86]
          try rw [hq87]
          try rw [hq94]
          try rw [hq95]
          try rw [hq98]
          try rw [hq99]
          try rw [hq100]
          first | rfl | simp
         have htn : tb8 _ b83 (fun i => if i < n + 1 then cls0 i else 0) := htb83.ext fun i hi => by
          by_cases e : i = n
          ·subst e; simp [hcv]
          ·have : (i < n + 1) = (i < n) := by rw [eq_iff_iff]; omega
           simp [e, this]
         refine ⟨⟨n + 1, E.of ⟨E.get 0 rfl, E.get 38 rfl, E.get 39 rfl, trivial⟩, by omega, htb82, htn, hf⟩, ?_⟩
         rw [E.get 0 rfl]; simp only [intOf]; omega
       | true =>
        rw [hq99] at E
        refine wp_cond_true (E.get 0 rfl) ?_
        refine wp_region_lit ?_
        refine ep (v := .int .i64 (n : Int)) E (run_move rfl (E.get 27 rfl)) fun a E => ?_
        refine ep (v := .pointer (some ⟨b83, (0 + n), none⟩)) E (run_index111 (i := n) rfl (E.get 33 rfl) (E.get 0 rfl) hlt) fun a E => ?_
        refine env_st8 (v := 1) E rfl (wanted_none rfl _) rfl (E.get 0 rfl) rfl htb83 (by omega) fun w1 htb83n f1 E => ?_
        have htb82 := htb82.fr f1 (fun e => by (try simp only at e); omega)
        have hf := hf.trans' f1 (fun r hr => (fun e => by (try simp only at e); omega))
        clear f1
        replace htb83 := htb83n
        refine wpList_nil ?_
        refine blk_n ?_
        refine blk_n ?_
        refine then_n ?_
        refine wp_region_lit ?_
        refine ep (v := .int .i64 ((n : Int) + 1)) E (run_iadd Tryz.underlying3 (E.get 32 rfl) rfl (by omega) (by omega) rfl) fun a E => ?_
        refine env_set (d := 4) (v := .int .i64 ((n : Int) + 1)) E rfl (by decide) (wanted_none rfl _) (run_move rfl (E.get 0 rfl)) fun a E => ?_
        refine wpList_nil ?_
        refine then_n ?_
        have hcv : cls0 n = 1 := by
         unfold cls0
         rw [letq n hlt, digq n hlt, blkq n hlt, symq n hlt]
         try rw [hq86]
         try rw [hq87]
         try rw [hq94]
         try rw [hq95]
         try rw [hq98]
         try rw [hq99]
         first | rfl | simp
        have htn : tb8 _ b83 (fun i => if i < n + 1 then cls0 i else 0) := htb83.ext fun i hi => by
         by_cases e : i = n
         ·subst e; simp [hcv]
         ·have : (i < n + 1) = (i < n) := by rw [eq_iff_iff]; omega
          simp [e, this]
        refine ⟨⟨n + 1, E.of ⟨E.get 0 rfl, E.get 34 rfl, E.get 35 rfl, trivial⟩, by omega, htb82, htn, hf⟩, ?_⟩
        rw [E.get 0 rfl]; simp only [intOf]; omega
      | true =>
       rw [hq98] at E
       refine wp_cond_true (E.get 0 rfl) ?_
       refine wp_region_lit ?_
       refine ep (v := .int .i64 (n : Int)) E (run_move rfl (E.get 23 rfl)) fun a E => ?_
       refine ep (v := .pointer (some ⟨b83, (0 + n), none⟩)) E (run_index111 (i := n) rfl (E.get 29 rfl) (E.get 0 rfl) hlt) fun a E => ?_
       refine env_st8 (v := 4) E rfl (wanted_none rfl _) rfl (E.get 0 rfl) rfl htb83 (by omega) fun w1 htb83n f1 E => ?_
       have htb82 := htb82.fr f1 (fun e => by (try simp only at e); omega)
       have hf := hf.trans' f1 (fun r hr => (fun e => by (try simp only at e); omega))
       clear f1
       replace htb83 := htb83n
       refine wpList_nil ?_
       refine blk_n ?_
       refine blk_n ?_
       refine then_n ?_
       refine wp_region_lit ?_
       refine ep (v := .int .i64 ((n : Int) + 1)) E (run_iadd Tryz.underlying3 (E.get 28 rfl) rfl (by omega) (by omega) rfl) fun a E => ?_
       refine env_set (d := 4) (v := .int .i64 ((n : Int) + 1)) E rfl (by decide) (wanted_none rfl _) (run_move rfl (E.get 0 rfl)) fun a E => ?_
       refine wpList_nil ?_
       refine then_n ?_
       have hcv : cls0 n = 4 := by
        unfold cls0
        rw [letq n hlt, digq n hlt, blkq n hlt, symq n hlt]
        try rw [hq86]
        try rw [hq87]
        try rw [hq94]
        try rw [hq95]
        try rw [hq98]
        first | rfl | simp
       have htn : tb8 _ b83 (fun i => if i < n + 1 then cls0 i else 0) := htb83.ext fun i hi => by
        by_cases e : i = n
        ·subst e; simp [hcv]
        ·have : (i < n + 1) = (i < n) := by rw [eq_iff_iff]; omega
         simp [e, this]
       refine ⟨⟨n + 1, E.of ⟨E.get 0 rfl, E.get 30 rfl, E.get 31 rfl, trivial⟩, by omega, htb82, htn, hf⟩, ?_⟩
       rw [E.get 0 rfl]; simp only [intOf]; omega
    | true =>
     rw [hq94] at E
     refine wp_cond_true (E.get 0 rfl) ?_
     refine wp_region_lit ?_
     refine ep (v := .int .i64 (n : Int)) E (run_move rfl (E.get 16 rfl)) fun a E => ?_
     refine ep (v := .pointer (some ⟨b83, (0 + n), none⟩)) E (run_index111 (i := n) rfl (E.get 22 rfl) (E.get 0 rfl) hlt) fun a E => ?_
     refine env_st8 (v := 3) E rfl (wanted_none rfl _) rfl (E.get 0 rfl) rfl htb83 (by omega) fun w1 htb83n f1 E => ?_
     have htb82 := htb82.fr f1 (fun e => by (try simp only at e); omega)
     have hf := hf.trans' f1 (fun r hr => (fun e => by (try simp only at e); omega))
     clear f1
     replace htb83 := htb83n
     refine wpList_nil ?_
     refine blk_n ?_
     refine blk_n ?_
     refine then_n ?_
     refine wp_region_lit ?_
     refine ep (v := .int .i64 ((n : Int) + 1)) E (run_iadd Tryz.underlying3 (E.get 21 rfl) rfl (by omega) (by omega) rfl) fun a E => ?_
     refine env_set (d := 4) (v := .int .i64 ((n : Int) + 1)) E rfl (by decide) (wanted_none rfl _) (run_move rfl (E.get 0 rfl)) fun a E => ?_
     refine wpList_nil ?_
     refine then_n ?_
     have hcv : cls0 n = 3 := by
      unfold cls0
      rw [letq n hlt, digq n hlt, blkq n hlt, symq n hlt]
      try rw [hq86]
      try rw [hq87]
      try rw [hq94]
      first | rfl | simp
     have htn : tb8 _ b83 (fun i => if i < n + 1 then cls0 i else 0) := htb83.ext fun i hi => by
      by_cases e : i = n
      ·subst e; simp [hcv]
      ·have : (i < n + 1) = (i < n) := by rw [eq_iff_iff]; omega
       simp [e, this]
     refine ⟨⟨n + 1, E.of ⟨E.get 0 rfl, E.get 23 rfl, E.get 24 rfl, trivial⟩, by omega, htb82, htn, hf⟩, ?_⟩
     rw [E.get 0 rfl]; simp only [intOf]; omega
  | true =>
   rw [hq86] at E
   refine eg (v := .int .u8 (n : Int)) E (w_yes (g := 2) (s := 12) E rfl rfl (by decide) (E.get 0 rfl)) (run_move rfl (E.get 3 rfl)) fun a E => ?_
   refine eg (v := .bool (decide ((n : Int) ≤ 122))) E (w_yes (g := 2) (s := 12) E rfl rfl (by decide) (E.get 1 rfl)) (run_uleq (E.get 0 rfl) rfl rfl) fun a E => ?_
   refine ep (v := .bool (decide ((n : Int) ≤ 122))) E (run_pick_t rfl (E.get 2 rfl) (E.get 0 rfl)) fun a E => ?_
   refine ep (v := .bool (decide ((n : Int) ≤ 122))) E (run_assign rfl (E.get 0 rfl)) fun a E => ?_
   refine wpList_nil ?_
   refine then_n ?_
   cases hq101 : (decide ((n : Int) ≤ 122)) with
   | false =>
    rw [hq101] at E
    refine wp_cond_false (E.get 0 rfl) ?_
    refine wp_region_lit ?_
    refine ep (v := .int .u8 (n : Int)) E (run_move rfl (E.get 7 rfl)) fun a E => ?_
    refine ep (v := .bool (decide (65 ≤ (n : Int)))) E (run_uleq rfl (E.get 0 rfl) rfl) fun a E => ?_
    refine ep (v := .bool (decide (65 ≤ (n : Int)))) E (run_move rfl (E.get 0 rfl)) fun a E => ?_
    cases hq102 : (decide (65 ≤ (n : Int))) with
    | false =>
     rw [hq102] at E
     refine ek E rfl (E.get 0 rfl) fun a E => ?_
     refine ek E rfl (E.get 1 rfl) fun a E => ?_
     refine ep (v := .bool false) E (run_pick_f rfl (E.get 2 rfl) rfl) fun a E => ?_
     refine env_set (d := 9) (v := .bool false) E rfl (by decide) (wanted_none rfl _) (run_assign rfl (E.get 0 rfl)) fun a E => ?_
     refine wpList_nil ?_
     refine then_n ?_
     refine wp_cond_false (E.get 0 rfl) ?_
     refine wp_seq ?_
     refine wp_region_lit ?_
     refine ep (v := .int .u8 (n : Int)) E (run_move rfl (E.get 13 rfl)) fun a E => ?_
     refine ep (v := .bool (decide (48 ≤ (n : Int)))) E (run_uleq rfl (E.get 0 rfl) rfl) fun a E => ?_
     refine ep (v := .bool (decide (48 ≤ (n : Int)))) E (run_move rfl (E.get 0 rfl)) fun a E => ?_
     cases hq103 : (decide (48 ≤ (n : Int))) with
     | false =>
      rw [hq103] at E
      refine ek E rfl (E.get 0 rfl) fun a E => ?_
      refine ek E rfl (E.get 1 rfl) fun a E => ?_
      refine ep (v := .bool false) E (run_pick_f rfl (E.get 2 rfl) rfl) fun a E => ?_
      refine ep (v := .bool false) E (run_assign rfl (E.get 0 rfl)) fun a E => ?_
      refine wpList_nil ?_
      refine then_n ?_
      refine wp_cond_false (E.get 0 rfl) ?_
      refine wp_seq ?_
      refine wp_region_lit ?_
      refine ep (v := .int .u8 (n : Int)) E (run_move rfl (E.get 20 rfl)) fun a E => ?_
      refine env_call (d := 35) (v := .int .i64 (ixb [32, 9, 10] n)) E rfl (by decide) rfl (wanted_none rfl _) (run_call2 (enters_of Tryz.func97 (by kernel_rfl) rfl) rfl rfl rfl (E.get 0 rfl)) (ixb_calls [32, 9, 10] n hlt _) fun a w1 f1 E => ?_
      have htb82 := htb82.fr f1 id
      have htb83 := htb83.fr f1 id
      have hf := hf.trans' f1 (fun _ _ h => h.elim)
      clear f1
      refine ep (v := .bool (decide (0 ≤ (ixb [32, 9, 10] n)))) E (run_igeq (E.get 0 rfl) rfl Tryz.underlying3 rfl) fun a E => ?_
      refine ep (v := .bool (decide (0 ≤ (ixb [32, 9, 10] n)))) E (run_assign rfl (E.get 0 rfl)) fun a E => ?_
      refine wpList_nil ?_
      refine then_n ?_
      cases hq104 : (decide (0 ≤ (ixb [32, 9, 10] n))) with
      | false =>
       rw [hq104] at E
       refine wp_cond_false (E.get 0 rfl) ?_
       refine wp_seq ?_
       refine wp_region_lit ?_
       refine ep (v := .int .u8 (n : Int)) E (run_move rfl (E.get 24 rfl)) fun a E => ?_
       refine env_call (d := 41) (v := .int .i64 (ixb [59, 44, 46, 58, 40, 41, 123, 125, 91, 93, 61, 60, 62, 47, 45] n)) E rfl (by decide) rfl (wanted_none rfl _) (run_call2 (enters_of Tryz.func97 (by kernel_rfl) rfl) rfl rfl rfl (E.get 0 rfl)) (ixb_calls [59, 44, 46, 58, 40, 41, 123, 125, 91, 93, 61, 60, 62, 47, 45] n hlt _) fun a w1 f1 E => ?_
       have htb82 := htb82.fr f1 id
       have htb83 := htb83.fr f1 id
       have hf := hf.trans' f1 (fun _ _ h => h.elim)
       clear f1
       refine ep (v := .bool (decide (0 ≤ (ixb [59, 44, 46, 58, 40, 41, 123, 125, 91, 93, 61, 60, 62, 47, 45] n)))) E (run_igeq (E.get 0 rfl) rfl Tryz.underlying3 rfl) fun a E => ?_
       refine ep (v := .bool (decide (0 ≤ (ixb [59, 44, 46, 58, 40, 41, 123, 125, 91, 93, 61, 60, 62, 47, 45] n)))) E (run_assign rfl (E.get 0 rfl)) fun a E => ?_
       refine wpList_nil ?_
       refine then_n ?_
       cases hq105 : (decide (0 ≤ (ixb [59, 44, 46, 58, 40, 41, 123, 125, 91, 93, 61, 60, 62, 47, 45] n))) with
       | false =>
        rw [hq105] at E
        refine wp_cond_false (E.get 0 rfl) ?_
        refine wp_skip ?_
        refine blk_n ?_
        refine blk_n ?_
        refine then_n ?_
        replace htb83 : tb8 w1 b83 (fun i => if i = n then 0 else if i < n then cls0 i else 0) := htb83.ext fun i _ => by by_cases e : i = n <;> simp [e]
        refine wp_region_lit ?_
        refine ep (v := .int .i64 ((n : Int) + 1)) E (run_iadd Tryz.underlying3 (E.get 34 rfl) rfl (by omega) (by omega) rfl) fun a E => ?_
        refine env_set (d := 4) (v := .int .i64 ((n : Int) + 1)) E rfl (by decide) (wanted_none rfl _) (run_move rfl (E.get 0 rfl)) fun a E => ?_
        refine wpList_nil ?_
        refine then_n ?_
        have hcv : cls0 n = 0 := by
         unfold cls0
         rw [letq n hlt, digq n hlt, blkq n hlt, symq n hlt]
         try rw [hq86]
         try rw [hq101]
         try rw [hq102]
         try rw [hq103]
         try rw [hq104]
         try rw [hq105]
         first | rfl | simp
        have htn : tb8 _ b83 (fun i => if i < n + 1 then cls0 i else 0) := htb83.ext fun i hi => by
         by_cases e : i = n
         ·subst e; simp [hcv]
         ·have : (i < n + 1) = (i < n) := by rw [eq_iff_iff]; omega
          simp [e, this]
        refine ⟨⟨n + 1, E.of ⟨E.get 0 rfl, E.get 36 rfl, E.get 37 rfl, trivial⟩, by omega, htb82, htn, hf⟩, ?_⟩
        rw [E.get 0 rfl]; simp only [intOf]; omega
       | true =>
        rw [hq105] at E
        refine wp_cond_true (E.get 0 rfl) ?_
        refine wp_region_lit ?_
        refine ep (v := .int .i64 (n : Int)) E (run_move rfl (E.get 31 rfl)) fun a E => ?_
        refine ep (v := .pointer (some ⟨b83, (0 + n), none⟩)) E (run_index111 (i := n) rfl (E.get 37 rfl) (E.get 0 rfl) hlt) fun a E => ?_
        refine env_st8 (v := 6) E rfl (wanted_none rfl _) rfl (E.get 0 rfl) rfl htb83 (by omega) fun w1 htb83n f1 E => ?_
        have htb82 := htb82.fr f1 (fun e => by (try simp only at e); omega)
        have hf := hf.trans' f1 (fun r hr => (fun e => by (try simp only at e); omega))
        clear f1
        replace htb83 := htb83n
        refine wpList_nil ?_
        refine blk_n ?_
        refine blk_n ?_
        refine then_n ?_
        refine wp_region_lit ?_
        refine ep (v := .int .i64 ((n : Int) + 1)) E (run_iadd Tryz.underlying3 (E.get 36 rfl) rfl (by omega) (by omega) rfl) fun a E => ?_
        refine env_set (d := 4) (v := .int .i64 ((n : Int) + 1)) E rfl (by decide) (wanted_none rfl _) (run_move rfl (E.get 0 rfl)) fun a E => ?_
        refine wpList_nil ?_
        refine then_n ?_
        have hcv : cls0 n = 6 := by
         unfold cls0
         rw [letq n hlt, digq n hlt, blkq n hlt, symq n hlt]
         try rw [hq86]
         try rw [hq101]
         try rw [hq102]
         try rw [hq103]
         try rw [hq104]
         try rw [hq105]
         first | rfl | simp
        have htn : tb8 _ b83 (fun i => if i < n + 1 then cls0 i else 0) := htb83.ext fun i hi => by
         by_cases e : i = n
         ·subst e; simp [hcv]
         ·have : (i < n + 1) = (i < n) := by rw [eq_iff_iff]; omega
          simp [e, this]
        refine ⟨⟨n + 1, E.of ⟨E.get 0 rfl, E.get 38 rfl, E.get 39 rfl, trivial⟩, by omega, htb82, htn, hf⟩, ?_⟩
        rw [E.get 0 rfl]; simp only [intOf]; omega
      | true =>
       rw [hq104] at E
       refine wp_cond_true (E.get 0 rfl) ?_
       refine wp_region_lit ?_
       refine ep (v := .int .i64 (n : Int)) E (run_move rfl (E.get 27 rfl)) fun a E => ?_
       refine ep (v := .pointer (some ⟨b83, (0 + n), none⟩)) E (run_index111 (i := n) rfl (E.get 33 rfl) (E.get 0 rfl) hlt) fun a E => ?_
       refine env_st8 (v := 1) E rfl (wanted_none rfl _) rfl (E.get 0 rfl) rfl htb83 (by omega) fun w1 htb83n f1 E => ?_
       have htb82 := htb82.fr f1 (fun e => by (try simp only at e); omega)
       have hf := hf.trans' f1 (fun r hr => (fun e => by (try simp only at e); omega))
       clear f1
       replace htb83 := htb83n
       refine wpList_nil ?_
       refine blk_n ?_
       refine blk_n ?_
       refine then_n ?_
       refine wp_region_lit ?_
       refine ep (v := .int .i64 ((n : Int) + 1)) E (run_iadd Tryz.underlying3 (E.get 32 rfl) rfl (by omega) (by omega) rfl) fun a E => ?_
       refine env_set (d := 4) (v := .int .i64 ((n : Int) + 1)) E rfl (by decide) (wanted_none rfl _) (run_move rfl (E.get 0 rfl)) fun a E => ?_
       refine wpList_nil ?_
       refine then_n ?_
       have hcv : cls0 n = 1 := by
        unfold cls0
        rw [letq n hlt, digq n hlt, blkq n hlt, symq n hlt]
        try rw [hq86]
        try rw [hq101]
        try rw [hq102]
        try rw [hq103]
        try rw [hq104]
        first | rfl | simp
       have htn : tb8 _ b83 (fun i => if i < n + 1 then cls0 i else 0) := htb83.ext fun i hi => by
        by_cases e : i = n
        ·subst e; simp [hcv]
        ·have : (i < n + 1) = (i < n) := by rw [eq_iff_iff]; omega
         simp [e, this]
       refine ⟨⟨n + 1, E.of ⟨E.get 0 rfl, E.get 34 rfl, E.get 35 rfl, trivial⟩, by omega, htb82, htn, hf⟩, ?_⟩
       rw [E.get 0 rfl]; simp only [intOf]; omega
     | true =>
      rw [hq103] at E
      refine eg (v := .int .u8 (n : Int)) E (w_yes (g := 2) (s := 27) E rfl rfl (by decide) (E.get 0 rfl)) (run_move rfl (E.get 16 rfl)) fun a E => ?_
      refine eg (v := .bool (decide ((n : Int) ≤ 57))) E (w_yes (g := 2) (s := 27) E rfl rfl (by decide) (E.get 1 rfl)) (run_uleq (E.get 0 rfl) rfl rfl) fun a E => ?_
      refine ep (v := .bool (decide ((n : Int) ≤ 57))) E (run_pick_t rfl (E.get 2 rfl) (E.get 0 rfl)) fun a E => ?_
      refine ep (v := .bool (decide ((n : Int) ≤ 57))) E (run_assign rfl (E.get 0 rfl)) fun a E => ?_
      refine wpList_nil ?_
      refine then_n ?_
      cases hq106 : (decide ((n : Int) ≤ 57)) with
      | false =>
       rw [hq106] at E
       refine wp_cond_false (E.get 0 rfl) ?_
       refine wp_seq ?_
       refine wp_region_lit ?_
       refine ep (v := .int .u8 (n : Int)) E (run_move rfl (E.get 20 rfl)) fun a E => ?_
       refine env_call (d := 35) (v := .int .i64 (ixb [32, 9, 10] n)) E rfl (by decide) rfl (wanted_none rfl _) (run_call2 (enters_of Tryz.func97 (by kernel_rfl) rfl) rfl rfl rfl (E.get 0 rfl)) (ixb_calls [32, 9, 10] n hlt _) fun a w1 f1 E => ?_
       have htb82 := htb82.fr f1 id
       have htb83 := htb83.fr f1 id
       have hf := hf.trans' f1 (fun _ _ h => h.elim)
       clear f1
       refine ep (v := .bool (decide (0 ≤ (ixb [32, 9, 10] n)))) E (run_igeq (E.get 0 rfl) rfl Tryz.underlying3 rfl) fun a E => ?_
       refine ep (v := .bool (decide (0 ≤ (ixb [32, 9, 10] n)))) E (run_assign rfl (E.get 0 rfl)) fun a E => ?_
       refine wpList_nil ?_
       refine then_n ?_
       cases hq107 : (decide (0 ≤ (ixb [32, 9, 10] n))) with
       | false =>
        rw [hq107] at E
        refine wp_cond_false (E.get 0 rfl) ?_
        refine wp_seq ?_
        refine wp_region_lit ?_
        refine ep (v := .int .u8 (n : Int)) E (run_move rfl (E.get 24 rfl)) fun a E => ?_
        refine env_call (d := 41) (v := .int .i64 (ixb [59, 44, 46, 58, 40, 41, 123, 125, 91, 93, 61, 60, 62, 47, 45] n)) E rfl (by decide) rfl (wanted_none rfl _) (run_call2 (enters_of Tryz.func97 (by kernel_rfl) rfl) rfl rfl rfl (E.get 0 rfl)) (ixb_calls [59, 44, 46, 58, 40, 41, 123, 125, 91, 93, 61, 60, 62, 47, 45] n hlt _) fun a w1 f1 E => ?_
        have htb82 := htb82.fr f1 id
        have htb83 := htb83.fr f1 id
        have hf := hf.trans' f1 (fun _ _ h => h.elim)
        clear f1
        refine ep (v := .bool (decide (0 ≤ (ixb [59, 44, 46, 58, 40, 41, 123, 125, 91, 93, 61, 60, 62, 47, 45] n)))) E (run_igeq (E.get 0 rfl) rfl Tryz.underlying3 rfl) fun a E => ?_
        refine ep (v := .bool (decide (0 ≤ (ixb [59, 44, 46, 58, 40, 41, 123, 125, 91, 93, 61, 60, 62, 47, 45] n)))) E (run_assign rfl (E.get 0 rfl)) fun a E => ?_
        refine wpList_nil ?_
        refine then_n ?_
        cases hq108 : (decide (0 ≤ (ixb [59, 44, 46, 58, 40, 41, 123, 125, 91, 93, 61, 60, 62, 47, 45] n))) with
        | false =>
         rw [hq108] at E
         refine wp_cond_false (E.get 0 rfl) ?_
         refine wp_skip ?_
         refine blk_n ?_
         refine blk_n ?_
         refine then_n ?_
         replace htb83 : tb8 w1 b83 (fun i => if i = n then 0 else if i < n then cls0 i else 0) := htb83.ext fun i _ => by by_cases e : i = n <;> simp [e]
         refine wp_region_lit ?_
         refine ep (v := .int .i64 ((n : Int) + 1)) E (run_iadd Tryz.underlying3 (E.get 34 rfl) rfl (by omega) (by omega) rfl) fun a E => ?_
         refine env_set (d := 4) (v := .int .i64 ((n : Int) + 1)) E rfl (by decide) (wanted_none rfl _) (run_move rfl (E.get 0 rfl)) fun a E => ?_
         refine wpList_nil ?_
         refine then_n ?_
         have hcv : cls0 n = 0 := by
          unfold cls0
          rw [letq n hlt, digq n hlt, blkq n hlt, symq n hlt]
          try rw [hq86]
          try rw [hq101]
          try rw [hq102]
          try rw [hq103]
          try rw [hq106]
          try rw [hq107]
          try rw [hq108]
          first | rfl | simp
         have htn : tb8 _ b83 (fun i => if i < n + 1 then cls0 i else 0) := htb83.ext fun i hi => by
          by_cases e : i = n
          ·subst e; simp [hcv]
          ·have : (i < n + 1) = (i < n) := by rw [eq_iff_iff]; omega
           simp [e, this]
         refine ⟨⟨n + 1, E.of ⟨E.get 0 rfl, E.get 36 rfl, E.get 37 rfl, trivial⟩, by omega, htb82, htn, hf⟩, ?_⟩
         rw [E.get 0 rfl]; simp only [intOf]; omega
        | true =>
         rw [hq108] at E
         refine wp_cond_true (E.get 0 rfl) ?_
         refine wp_region_lit ?_
         refine ep (v := .int .i64 (n : Int)) E (run_move rfl (E.get 31 rfl)) fun a E => ?_
         refine ep (v := .pointer (some ⟨b83, (0 + n), none⟩)) E (run_index111 (i := n) rfl (E.get 37 rfl) (E.get 0 rfl) hlt) fun a E => ?_
         refine env_st8 (v := 6) E rfl (wanted_none rfl _) rfl (E.get 0 rfl) rfl htb83 (by omega) fun w1 htb83n f1 E => ?_
         have htb82 := htb82.fr f1 (fun e => by (try simp only at e); omega)
         have hf := hf.trans' f1 (fun r hr => (fun e => by (try simp only at e); omega))
         clear f1
         replace htb83 := htb83n
         refine wpList_nil ?_
         refine blk_n ?_
         refine blk_n ?_
         refine then_n ?_
         refine wp_region_lit ?_
         refine ep (v := .int .i64 ((n : Int) + 1)) E (run_iadd Tryz.underlying3 (E.get 36 rfl) rfl (by omega) (by omega) rfl) fun a E => ?_
         refine env_set (d := 4) (v := .int .i64 ((n : Int) + 1)) E rfl (by decide) (wanted_none rfl _) (run_move rfl (E.get 0 rfl)) fun a E => ?_
         refine wpList_nil ?_
         refine then_n ?_
         have hcv : cls0 n = 6 := by
          unfold cls0
          rw [letq n hlt, digq n hlt, blkq n hlt, symq n hlt]
          try rw [hq86]
          try rw [hq101]
          try rw [hq102]
          try rw [hq103]
          try rw [hq106]
          try rw [hq107]
          try rw [hq108]
          first | rfl | simp
         have htn : tb8 _ b83 (fun i => if i < n + 1 then cls0 i else 0) := htb83.ext fun i hi => by
          by_cases e : i = n
          ·subst e; simp [hcv]
          ·have : (i < n + 1) = (i < n) := by rw [eq_iff_iff]; omega
           simp [e, this]
         refine ⟨⟨n + 1, E.of ⟨E.get 0 rfl, E.get 38 rfl, E.get 39 rfl, trivial⟩, by omega, htb82, htn, hf⟩, ?_⟩
         rw [E.get 0 rfl]; simp only [intOf]; omega
       | true =>
        rw [hq107] at E
        refine wp_cond_true (E.get 0 rfl) ?_
        refine wp_region_lit ?_
        refine ep (v := .int .i64 (n : Int)) E (run_move rfl (E.get 27 rfl)) fun a E => ?_
        refine ep (v := .pointer (some ⟨b83, (0 + n), none⟩)) E (run_index111 (i := n) rfl (E.get 33 rfl) (E.get 0 rfl) hlt) fun a E => ?_
        refine env_st8 (v := 1) E rfl (wanted_none rfl _) rfl (E.get 0 rfl) rfl htb83 (by omega) fun w1 htb83n f1 E => ?_
        have htb82 := htb82.fr f1 (fun e => by (try simp only at e); omega)
        have hf := hf.trans' f1 (fun r hr => (fun e => by (try simp only at e); omega))
        clear f1
        replace htb83 := htb83n
        refine wpList_nil ?_
        refine blk_n ?_
        refine blk_n ?_
        refine then_n ?_
        refine wp_region_lit ?_
        refine ep (v := .int .i64 ((n : Int) + 1)) E (run_iadd Tryz.underlying3 (E.get 32 rfl) rfl (by omega) (by omega) rfl) fun a E => ?_
        refine env_set (d := 4) (v := .int .i64 ((n : Int) + 1)) E rfl (by decide) (wanted_none rfl _) (run_move rfl (E.get 0 rfl)) fun a E => ?_
        refine wpList_nil ?_
        refine then_n ?_
        have hcv : cls0 n = 1 := by
         unfold cls0
         rw [letq n hlt, digq n hlt, blkq n hlt, symq n hlt]
         try rw [hq86]
         try rw [hq101]
         try rw [hq102]
         try rw [hq103]
         try rw [hq106]
         try rw [hq107]
         first | rfl | simp
        have htn : tb8 _ b83 (fun i => if i < n + 1 then cls0 i else 0) := htb83.ext fun i hi => by
         by_cases e : i = n
         ·subst e; simp [hcv]
         ·have : (i < n + 1) = (i < n) := by rw [eq_iff_iff]; omega
          simp [e, this]
        refine ⟨⟨n + 1, E.of ⟨E.get 0 rfl, E.get 34 rfl, E.get 35 rfl, trivial⟩, by omega, htb82, htn, hf⟩, ?_⟩
        rw [E.get 0 rfl]; simp only [intOf]; omega
      | true =>
       rw [hq106] at E
       refine wp_cond_true (E.get 0 rfl) ?_
       refine wp_region_lit ?_
       refine ep (v := .int .i64 (n : Int)) E (run_move rfl (E.get 23 rfl)) fun a E => ?_
       refine ep (v := .pointer (some ⟨b83, (0 + n), none⟩)) E (run_index111 (i := n) rfl (E.get 29 rfl) (E.get 0 rfl) hlt) fun a E => ?_
       refine env_st8 (v := 4) E rfl (wanted_none rfl _) rfl (E.get 0 rfl) rfl htb83 (by omega) fun w1 htb83n f1 E => ?_
       have htb82 := htb82.fr f1 (fun e => by (try simp only at e); omega)
       have hf := hf.trans' f1 (fun r hr => (fun e => by (try simp only at e); omega))
       clear f1
       replace htb83 := htb83n
       refine wpList_nil ?_
       refine blk_n ?_
       refine blk_n ?_
       refine then_n ?_
       refine wp_region_lit ?_
       refine ep (v := .int .i64 ((n : Int) + 1)) E (run_iadd Tryz.underlying3 (E.get 28 rfl) rfl (by omega) (by omega) rfl) fun a E => ?_
       refine env_set (d := 4) (v := .int .i64 ((n : Int) + 1)) E rfl (by decide) (wanted_none rfl _) (run_move rfl (E.get 0 rfl)) fun a E => ?_
       refine wpList_nil ?_
       refine then_n ?_
       have hcv : cls0 n = 4 := by
        unfold cls0
        rw [letq n hlt, digq n hlt, blkq n hlt, symq n hlt]
        try rw [hq86]
        try rw [hq101]
        try rw [hq102]
        try rw [hq103]
        try rw [hq106]
        first | rfl | simp
       have htn : tb8 _ b83 (fun i => if i < n + 1 then cls0 i else 0) := htb83.ext fun i hi => by
        by_cases e : i = n
        ·subst e; simp [hcv]
        ·have : (i < n + 1) = (i < n) := by rw [eq_iff_iff]; omega
         simp [e, this]
       refine ⟨⟨n + 1, E.of ⟨E.get 0 rfl, E.get 30 rfl, E.get 31 rfl, trivial⟩, by omega, htb82, htn, hf⟩, ?_⟩
       rw [E.get 0 rfl]; simp only [intOf]; omega
    | true =>
     rw [hq102] at E
     refine eg (v := .int .u8 (n : Int)) E (w_yes (g := 2) (s := 18) E rfl rfl (by decide) (E.get 0 rfl)) (run_move rfl (E.get 10 rfl)) fun a E => ?_
     refine eg (v := .bool (decide ((n : Int) ≤ 90))) E (w_yes (g := 2) (s := 18) E rfl rfl (by decide) (E.get 1 rfl)) (run_uleq (E.get 0 rfl) rfl rfl) fun a E => ?_
     refine ep (v := .bool (decide ((n : Int) ≤ 90))) E (run_pick_t rfl (E.get 2 rfl) (E.get 0 rfl)) fun a E => ?_
     refine env_set (d := 9) (v := .bool (decide ((n : Int) ≤ 90))) E rfl (by decide) (wanted_none rfl _) (run_assign rfl (E.get 0 rfl)) fun a E => ?_
     refine wpList_nil ?_
     refine then_n ?_
     cases hq109 : (decide ((n : Int) ≤ 90)) with
     | false =>
      rw [hq109] at E
      refine wp_cond_false (E.get 0 rfl) ?_
      refine wp_seq ?_
      refine wp_region_lit ?_
      refine ep (v := .int .u8 (n : Int)) E (run_move rfl (E.get 13 rfl)) fun a E => ?_
      refine ep (v := .bool (decide (48 ≤ (n : Int)))) E (run_uleq rfl (E.get 0 rfl) rfl) fun a E => ?_
      refine ep (v := .bool (decide (48 ≤ (n : Int)))) E (run_move rfl (E.get 0 rfl)) fun a E => ?_
      cases hq110 : (decide (48 ≤ (n : Int))) with
      | false =>
       rw [hq110] at E
       refine ek E rfl (E.get 0 rfl) fun a E => ?_
       refine ek E rfl (E.get 1 rfl) fun a E => ?_
       refine ep (v := .bool false) E (run_pick_f rfl (E.get 2 rfl) rfl) fun a E => ?_
       refine ep (v := .bool false) E (run_assign rfl (E.get 0 rfl)) fun a E => ?_
       refine wpList_nil ?_
       refine then_n ?_
       refine wp_cond_false (E.get 0 rfl) ?_
       refine wp_seq ?_
       refine wp_region_lit ?_
       refine ep (v := .int .u8 (n : Int)) E (run_move rfl (E.get 20 rfl)) fun a E => ?_
       refine env_call (d := 35) (v := .int .i64 (ixb [32, 9, 10] n)) E rfl (by decide) rfl (wanted_none rfl _) (run_call2 (enters_of Tryz.func97 (by kernel_rfl) rfl) rfl rfl rfl (E.get 0 rfl)) (ixb_calls [32, 9, 10] n hlt _) fun a w1 f1 E => ?_
       have htb82 := htb82.fr f1 id
       have htb83 := htb83.fr f1 id
       have hf := hf.trans' f1 (fun _ _ h => h.elim)
       clear f1
       refine ep (v := .bool (decide (0 ≤ (ixb [32, 9, 10] n)))) E (run_igeq (E.get 0 rfl) rfl Tryz.underlying3 rfl) fun a E => ?_
       refine ep (v := .bool (decide (0 ≤ (ixb [32, 9, 10] n)))) E (run_assign rfl (E.get 0 rfl)) fun a E => ?_
       refine wpList_nil ?_
       refine then_n ?_
       cases hq111 : (decide (0 ≤ (ixb [32, 9, 10] n))) with
       | false =>
        rw [hq111] at E
        refine wp_cond_false (E.get 0 rfl) ?_
        refine wp_seq ?_
        refine wp_region_lit ?_
        refine ep (v := .int .u8 (n : Int)) E (run_move rfl (E.get 24 rfl)) fun a E => ?_
        refine env_call (d := 41) (v := .int .i64 (ixb [59, 44, 46, 58, 40, 41, 123, 125, 91, 93, 61, 60, 62, 47, 45] n)) E rfl (by decide) rfl (wanted_none rfl _) (run_call2 (enters_of Tryz.func97 (by kernel_rfl) rfl) rfl rfl rfl (E.get 0 rfl)) (ixb_calls [59, 44, 46, 58, 40, 41, 123, 125, 91, 93, 61, 60, 62, 47, 45] n hlt _) fun a w1 f1 E => ?_
        have htb82 := htb82.fr f1 id
        have htb83 := htb83.fr f1 id
        have hf := hf.trans' f1 (fun _ _ h => h.elim)
        clear f1
        refine ep (v := .bool (decide (0 ≤ (ixb [59, 44, 46, 58, 40, 41, 123, 125, 91, 93, 61, 60, 62, 47, 45] n)))) E (run_igeq (E.get 0 rfl) rfl Tryz.underlying3 rfl) fun a E => ?_
        refine ep (v := .bool (decide (0 ≤ (ixb [59, 44, 46, 58, 40, 41, 123, 125, 91, 93, 61, 60, 62, 47, 45] n)))) E (run_assign rfl (E.get 0 rfl)) fun a E => ?_
        refine wpList_nil ?_
        refine then_n ?_
        cases hq112 : (decide (0 ≤ (ixb [59, 44, 46, 58, 40, 41, 123, 125, 91, 93, 61, 60, 62, 47, 45] n))) with
        | false =>
         rw [hq112] at E
         refine wp_cond_false (E.get 0 rfl) ?_
         refine wp_skip ?_
         refine blk_n ?_
         refine blk_n ?_
         refine then_n ?_
         replace htb83 : tb8 w1 b83 (fun i => if i = n then 0 else if i < n then cls0 i else 0) := htb83.ext fun i _ => by by_cases e : i = n <;> simp [e]
         refine wp_region_lit ?_
         refine ep (v := .int .i64 ((n : Int) + 1)) E (run_iadd Tryz.underlying3 (E.get 34 rfl) rfl (by omega) (by omega) rfl) fun a E => ?_
         refine env_set (d := 4) (v := .int .i64 ((n : Int) + 1)) E rfl (by decide) (wanted_none rfl _) (run_move rfl (E.get 0 rfl)) fun a E => ?_
         refine wpList_nil ?_
         refine then_n ?_
         have hcv : cls0 n = 0 := by
          unfold cls0
          rw [letq n hlt, digq n hlt, blkq n hlt, symq n hlt]
          try rw [hq86]
          try rw [hq101]
          try rw [hq102]
          try rw [hq109]
          try rw [hq110]
          try rw [hq111]
          try rw [hq112]
          first | rfl | simp
         have htn : tb8 _ b83 (fun i => if i < n + 1 then cls0 i else 0) := htb83.ext fun i hi => by
          by_cases e : i = n
          ·subst e; simp [hcv]
          ·have : (i < n + 1) = (i < n) := by rw [eq_iff_iff]; omega
           simp [e, this]
         refine ⟨⟨n + 1, E.of ⟨E.get 0 rfl, E.get 36 rfl, E.get 37 rfl, trivial⟩, by omega, htb82, htn, hf⟩, ?_⟩
         rw [E.get 0 rfl]; simp only [intOf]; omega
        | true =>
         rw [hq112] at E
         refine wp_cond_true (E.get 0 rfl) ?_
         refine wp_region_lit ?_
         refine ep (v := .int .i64 (n : Int)) E (run_move rfl (E.get 31 rfl)) fun a E => ?_
         refine ep (v := .pointer (some ⟨b83, (0 + n), none⟩)) E (run_index111 (i := n) rfl (E.get 37 rfl) (E.get 0 rfl) hlt) fun a E => ?_
         refine env_st8 (v := 6) E rfl (wanted_none rfl _) rfl (E.get 0 rfl) rfl htb83 (by omega) fun w1 htb83n f1 E => ?_
         have htb82 := htb82.fr f1 (fun e => by (try simp only at e); omega)
         have hf := hf.trans' f1 (fun r hr => (fun e => by (try simp only at e); omega))
         clear f1
         replace htb83 := htb83n
         refine wpList_nil ?_
         refine blk_n ?_
         refine blk_n ?_
         refine then_n ?_
         refine wp_region_lit ?_
         refine ep (v := .int .i64 ((n : Int) + 1)) E (run_iadd Tryz.underlying3 (E.get 36 rfl) rfl (by omega) (by omega) rfl) fun a E => ?_
         refine env_set (d := 4) (v := .int .i64 ((n : Int) + 1)) E rfl (by decide) (wanted_none rfl _) (run_move rfl (E.get 0 rfl)) fun a E => ?_
         refine wpList_nil ?_
         refine then_n ?_
         have hcv : cls0 n = 6 := by
          unfold cls0
          rw [letq n hlt, digq n hlt, blkq n hlt, symq n hlt]
          try rw [hq86]
          try rw [hq101]
          try rw [hq102]
          try rw [hq109]
          try rw [hq110]
          try rw [hq111]
          try rw [hq112]
          first | rfl | simp
         have htn : tb8 _ b83 (fun i => if i < n + 1 then cls0 i else 0) := htb83.ext fun i hi => by
          by_cases e : i = n
          ·subst e; simp [hcv]
          ·have : (i < n + 1) = (i < n) := by rw [eq_iff_iff]; omega
           simp [e, this]
         refine ⟨⟨n + 1, E.of ⟨E.get 0 rfl, E.get 38 rfl, E.get 39 rfl, trivial⟩, by omega, htb82, htn, hf⟩, ?_⟩
         rw [E.get 0 rfl]; simp only [intOf]; omega
       | true =>
        rw [hq111] at E
        refine wp_cond_true (E.get 0 rfl) ?_
        refine wp_region_lit ?_
        refine ep (v := .int .i64 (n : Int)) E (run_move rfl (E.get 27 rfl)) fun a E => ?_
        refine ep (v := .pointer (some ⟨b83, (0 + n), none⟩)) E (run_index111 (i := n) rfl (E.get 33 rfl) (E.get 0 rfl) hlt) fun a E => ?_
        refine env_st8 (v := 1) E rfl (wanted_none rfl _) rfl (E.get 0 rfl) rfl htb83 (by omega) fun w1 htb83n f1 E => ?_
        have htb82 := htb82.fr f1 (fun e => by (try simp only at e); omega)
        have hf := hf.trans' f1 (fun r hr => (fun e => by (try simp only at e); omega))
        clear f1
        replace htb83 := htb83n
        refine wpList_nil ?_
        refine blk_n ?_
        refine blk_n ?_
        refine then_n ?_
        refine wp_region_lit ?_
        refine ep (v := .int .i64 ((n : Int) + 1)) E (run_iadd Tryz.underlying3 (E.get 32 rfl) rfl (by omega) (by omega) rfl) fun a E => ?_
        refine env_set (d := 4) (v := .int .i64 ((n : Int) + 1)) E rfl (by decide) (wanted_none rfl _) (run_move rfl (E.get 0 rfl)) fun a E => ?_
        refine wpList_nil ?_
        refine then_n ?_
        have hcv : cls0 n = 1 := by
         unfold cls0
         rw [letq n hlt, digq n hlt, blkq n hlt, symq n hlt]
         try rw [hq86]
         try rw [hq101]
         try rw [hq102]
         try rw [hq109]
         try rw [hq110]
         try rw [hq111]
         first | rfl | simp
        have htn : tb8 _ b83 (fun i => if i < n + 1 then cls0 i else 0) := htb83.ext fun i hi => by
         by_cases e : i = n
         ·subst e; simp [hcv]
         ·have : (i < n + 1) = (i < n) := by rw [eq_iff_iff]; omega
          simp [e, this]
        refine ⟨⟨n + 1, E.of ⟨E.get 0 rfl, E.get 34 rfl, E.get 35 rfl, trivial⟩, by omega, htb82, htn, hf⟩, ?_⟩
        rw [E.get 0 rfl]; simp only [intOf]; omega
      | true =>
       rw [hq110] at E
       refine eg (v := .int .u8 (n : Int)) E (w_yes (g := 2) (s := 27) E rfl rfl (by decide) (E.get 0 rfl)) (run_move rfl (E.get 16 rfl)) fun a E => ?_
       refine eg (v := .bool (decide ((n : Int) ≤ 57))) E (w_yes (g := 2) (s := 27) E rfl rfl (by decide) (E.get 1 rfl)) (run_uleq (E.get 0 rfl) rfl rfl) fun a E => ?_
       refine ep (v := .bool (decide ((n : Int) ≤ 57))) E (run_pick_t rfl (E.get 2 rfl) (E.get 0 rfl)) fun a E => ?_
       refine ep (v := .bool (decide ((n : Int) ≤ 57))) E (run_assign rfl (E.get 0 rfl)) fun a E => ?_
       refine wpList_nil ?_
       refine then_n ?_
       cases hq113 : (decide ((n : Int) ≤ 57)) with
       | false =>
        rw [hq113] at E
        refine wp_cond_false (E.get 0 rfl) ?_
        refine wp_seq ?_
        refine wp_region_lit ?_
        refine ep (v := .int .u8 (n : Int)) E (run_move rfl (E.get 20 rfl)) fun a E => ?_
        refine env_call (d := 35) (v := .int .i64 (ixb [32, 9, 10] n)) E rfl (by decide) rfl (wanted_none rfl _) (run_call2 (enters_of Tryz.func97 (by kernel_rfl) rfl) rfl rfl rfl (E.get 0 rfl)) (ixb_calls [32, 9, 10] n hlt _) fun a w1 f1 E => ?_
        have htb82 := htb82.fr f1 id
        have htb83 := htb83.fr f1 id
        have hf := hf.trans' f1 (fun _ _ h => h.elim)
        clear f1
        refine ep (v := .bool (decide (0 ≤ (ixb [32, 9, 10] n)))) E (run_igeq (E.get 0 rfl) rfl Tryz.underlying3 rfl) fun a E => ?_
        refine ep (v := .bool (decide (0 ≤ (ixb [32, 9, 10] n)))) E (run_assign rfl (E.get 0 rfl)) fun a E => ?_
        refine wpList_nil ?_
        refine then_n ?_
        cases hq114 : (decide (0 ≤ (ixb [32, 9, 10] n))) with
        | false =>
         rw [hq114] at E
         refine wp_cond_false (E.get 0 rfl) ?_
         refine wp_seq ?_
         refine wp_region_lit ?_
         refine ep (v := .int .u8 (n : Int)) E (run_move rfl (E.get 24 rfl)) fun a E => ?_
         refine env_call (d := 41) (v := .int .i64 (ixb [59, 44, 46, 58, 40, 41, 123, 125, 91, 93, 61, 60, 62, 47, 45] n)) E rfl (by decide) rfl (wanted_none rfl _) (run_call2 (enters_of Tryz.func97 (by kernel_rfl) rfl) rfl rfl rfl (E.get 0 rfl)) (ixb_calls [59, 44, 46, 58, 40, 41, 123, 125, 91, 93, 61, 60, 62, 47, 45] n hlt _) fun a w1 f1 E => ?_
         have htb82 := htb82.fr f1 id
         have htb83 := htb83.fr f1 id
         have hf := hf.trans' f1 (fun _ _ h => h.elim)
         clear f1
         refine ep (v := .bool (decide (0 ≤ (ixb [59, 44, 46, 58, 40, 41, 123, 125, 91, 93, 61, 60, 62, 47, 45] n)))) E (run_igeq (E.get 0 rfl) rfl Tryz.underlying3 rfl) fun a E => ?_
         refine ep (v := .bool (decide (0 ≤ (ixb [59, 44, 46, 58, 40, 41, 123, 125, 91, 93, 61, 60, 62, 47, 45] n)))) E (run_assign rfl (E.get 0 rfl)) fun a E => ?_
         refine wpList_nil ?_
         refine then_n ?_
         cases hq115 : (decide (0 ≤ (ixb [59, 44, 46, 58, 40, 41, 123, 125, 91, 93, 61, 60, 62, 47, 45] n))) with
         | false =>
          rw [hq115] at E
          refine wp_cond_false (E.get 0 rfl) ?_
          refine wp_skip ?_
          refine blk_n ?_
          refine blk_n ?_
          refine then_n ?_
          replace htb83 : tb8 w1 b83 (fun i => if i = n then 0 else if i < n then cls0 i else 0) := htb83.ext fun i _ => by by_cases e : i = n <;> simp [e]
          refine wp_region_lit ?_
          refine ep (v := .int .i64 ((n : Int) + 1)) E (run_iadd Tryz.underlying3 (E.get 34 rfl) rfl (by omega) (by omega) rfl) fun a E => ?_
          refine env_set (d := 4) (v := .int .i64 ((n : Int) + 1)) E rfl (by decide) (wanted_none rfl _) (run_move rfl (E.get 0 rfl)) fun a E => ?_
          refine wpList_nil ?_
          refine then_n ?_
          have hcv : cls0 n = 0 := by
           unfold cls0
           rw [letq n hlt, digq n hlt, blkq n hlt, symq n hlt]
           try rw [hq86]
           try rw [hq101]
           try rw [hq102]
           try rw [hq109]
           try rw [hq110]
           try rw [hq113]
           try rw [hq114]
           try rw [hq115]
           first | rfl | simp
          have htn : tb8 _ b83 (fun i => if i < n + 1 then cls0 i else 0) := htb83.ext fun i hi => by
           by_cases e : i = n
           ·subst e; simp [hcv]
           ·have : (i < n + 1) = (i < n) := by rw [eq_iff_iff]; omega
            simp [e, this]
          refine ⟨⟨n + 1, E.of ⟨E.get 0 rfl, E.get 36 rfl, E.get 37 rfl, trivial⟩, by omega, htb82, htn, hf⟩, ?_⟩
          rw [E.get 0 rfl]; simp only [intOf]; omega
         | true =>
          rw [hq115] at E
          refine wp_cond_true (E.get 0 rfl) ?_
          refine wp_region_lit ?_
          refine ep (v := .int .i64 (n : Int)) E (run_move rfl (E.get 31 rfl)) fun a E => ?_
          refine ep (v := .pointer (some ⟨b83, (0 + n), none⟩)) E (run_index111 (i := n) rfl (E.get 37 rfl) (E.get 0 rfl) hlt) fun a E => ?_
          refine env_st8 (v := 6) E rfl (wanted_none rfl _) rfl (E.get 0 rfl) rfl htb83 (by omega) fun w1 htb83n f1 E => ?_
          have htb82 := htb82.fr f1 (fun e => by (try simp only at e); omega)
          have hf := hf.trans' f1 (fun r hr => (fun e => by (try simp only at e); omega))
          clear f1
          replace htb83 := htb83n
          refine wpList_nil ?_
          refine blk_n ?_
          refine blk_n ?_
          refine then_n ?_
          refine wp_region_lit ?_
          refine ep (v := .int .i64 ((n : Int) + 1)) E (run_iadd Tryz.underlying3 (E.get 36 rfl) rfl (by omega) (by omega) rfl) fun a E => ?_
          refine env_set (d := 4) (v := .int .i64 ((n : Int) + 1)) E rfl (by decide) (wanted_none rfl _) (run_move rfl (E.get 0 rfl)) fun a E => ?_
          refine wpList_nil ?_
          refine then_n ?_
          have hcv : cls0 n = 6 := by
           unfold cls0
           rw [letq n hlt, digq n hlt, blkq n hlt, symq n hlt]
           try rw [hq86]
           try rw [hq101]
           try rw [hq102]
           try rw [hq109]
           try rw [hq110]
           try rw [hq113]
           try rw [hq114]
           try rw [hq115]
           first | rfl | simp
          have htn : tb8 _ b83 (fun i => if i < n + 1 then cls0 i else 0) := htb83.ext fun i hi => by
           by_cases e : i = n
           ·subst e; simp [hcv]
           ·have : (i < n + 1) = (i < n) := by rw [eq_iff_iff]; omega
            simp [e, this]
          refine ⟨⟨n + 1, E.of ⟨E.get 0 rfl, E.get 38 rfl, E.get 39 rfl, trivial⟩, by omega, htb82, htn, hf⟩, ?_⟩
          rw [E.get 0 rfl]; simp only [intOf]; omega
        | true =>
         rw [hq114] at E
         refine wp_cond_true (E.get 0 rfl) ?_
         refine wp_region_lit ?_
         refine ep (v := .int .i64 (n : Int)) E (run_move rfl (E.get 27 rfl)) fun a E => ?_
         refine ep (v := .pointer (some ⟨b83, (0 + n), none⟩)) E (run_index111 (i := n) rfl (E.get 33 rfl) (E.get 0 rfl) hlt) fun a E => ?_
         refine env_st8 (v := 1) E rfl (wanted_none rfl _) rfl (E.get 0 rfl) rfl htb83 (by omega) fun w1 htb83n f1 E => ?_
         have htb82 := htb82.fr f1 (fun e => by (try simp only at e); omega)
         have hf := hf.trans' f1 (fun r hr => (fun e => by (try simp only at e); omega))
         clear f1
         replace htb83 := htb83n
         refine wpList_nil ?_
         refine blk_n ?_
         refine blk_n ?_
         refine then_n ?_
         refine wp_region_lit ?_
         refine ep (v := .int .i64 ((n : Int) + 1)) E (run_iadd Tryz.underlying3 (E.get 32 rfl) rfl (by omega) (by omega) rfl) fun a E => ?_
         refine env_set (d := 4) (v := .int .i64 ((n : Int) + 1)) E rfl (by decide) (wanted_none rfl _) (run_move rfl (E.get 0 rfl)) fun a E => ?_
         refine wpList_nil ?_
         refine then_n ?_
         have hcv : cls0 n = 1 := by
          unfold cls0
          rw [letq n hlt, digq n hlt, blkq n hlt, symq n hlt]
          try rw [hq86]
          try rw [hq101]
          try rw [hq102]
          try rw [hq109]
          try rw [hq110]
          try rw [hq113]
          try rw [hq114]
          first | rfl | simp
         have htn : tb8 _ b83 (fun i => if i < n + 1 then cls0 i else 0) := htb83.ext fun i hi => by
          by_cases e : i = n
          ·subst e; simp [hcv]
          ·have : (i < n + 1) = (i < n) := by rw [eq_iff_iff]; omega
           simp [e, this]
         refine ⟨⟨n + 1, E.of ⟨E.get 0 rfl, E.get 34 rfl, E.get 35 rfl, trivial⟩, by omega, htb82, htn, hf⟩, ?_⟩
         rw [E.get 0 rfl]; simp only [intOf]; omega
       | true =>
        rw [hq113] at E
        refine wp_cond_true (E.get 0 rfl) ?_
        refine wp_region_lit ?_
        refine ep (v := .int .i64 (n : Int)) E (run_move rfl (E.get 23 rfl)) fun a E => ?_
        refine ep (v := .pointer (some ⟨b83, (0 + n), none⟩)) E (run_index111 (i := n) rfl (E.get 29 rfl) (E.get 0 rfl) hlt) fun a E => ?_
        refine env_st8 (v := 4) E rfl (wanted_none rfl _) rfl (E.get 0 rfl) rfl htb83 (by omega) fun w1 htb83n f1 E => ?_
        have htb82 := htb82.fr f1 (fun e => by (try simp only at e); omega)
        have hf := hf.trans' f1 (fun r hr => (fun e => by (try simp only at e); omega))
        clear f1
        replace htb83 := htb83n
        refine wpList_nil ?_
        refine blk_n ?_
        refine blk_n ?_
        refine then_n ?_
        refine wp_region_lit ?_
        refine ep (v := .int .i64 ((n : Int) + 1)) E (run_iadd Tryz.underlying3 (E.get 28 rfl) rfl (by omega) (by omega) rfl) fun a E => ?_
        refine env_set (d := 4) (v := .int .i64 ((n : Int) + 1)) E rfl (by decide) (wanted_none rfl _) (run_move rfl (E.get 0 rfl)) fun a E => ?_
        refine wpList_nil ?_
        refine then_n ?_
        have hcv : cls0 n = 4 := by
         unfold cls0
         rw [letq n hlt, digq n hlt, blkq n hlt, symq n hlt]
         try rw [hq86]
         try rw [hq101]
         try rw [hq102]
         try rw [hq109]
         try rw [hq110]
         try rw [hq113]
         first | rfl | simp
        have htn : tb8 _ b83 (fun i => if i < n + 1 then cls0 i else 0) := htb83.ext fun i hi => by
         by_cases e : i = n
         ·subst e; simp [hcv]
         ·have : (i < n + 1) = (i < n) := by rw [eq_iff_iff]; omega
          simp [e, this]
        refine ⟨⟨n + 1, E.of ⟨E.get 0 rfl, E.get 30 rfl, E.get 31 rfl, trivial⟩, by omega, htb82, htn, hf⟩, ?_⟩
        rw [E.get 0 rfl]; simp only [intOf]; omega
     | true =>
      rw [hq109] at E
      refine wp_cond_true (E.get 0 rfl) ?_
      refine wp_region_lit ?_
      refine ep (v := .int .i64 (n : Int)) E (run_move rfl (E.get 16 rfl)) fun a E => ?_
      refine ep (v := .pointer (some ⟨b83, (0 + n), none⟩)) E (run_index111 (i := n) rfl (E.get 22 rfl) (E.get 0 rfl) hlt) fun a E => ?_
      refine env_st8 (v := 3) E rfl (wanted_none rfl _) rfl (E.get 0 rfl) rfl htb83 (by omega) fun w1 htb83n f1 E => ?_
      have htb82 := htb82.fr f1 (fun e => by (try simp only at e); omega)
      have hf := hf.trans' f1 (fun r hr => (fun e => by (try simp only at e); omega))
      clear f1
      replace htb83 := htb83n
      refine wpList_nil ?_
      refine blk_n ?_
      refine blk_n ?_
      refine then_n ?_
      refine wp_region_lit ?_
      refine ep (v := .int .i64 ((n : Int) + 1)) E (run_iadd Tryz.underlying3 (E.get 21 rfl) rfl (by omega) (by omega) rfl) fun a E => ?_
      refine env_set (d := 4) (v := .int .i64 ((n : Int) + 1)) E rfl (by decide) (wanted_none rfl _) (run_move rfl (E.get 0 rfl)) fun a E => ?_
      refine wpList_nil ?_
      refine then_n ?_
      have hcv : cls0 n = 3 := by
       unfold cls0
       rw [letq n hlt, digq n hlt, blkq n hlt, symq n hlt]
       try rw [hq86]
       try rw [hq101]
       try rw [hq102]
       try rw [hq109]
       first | rfl | simp
      have htn : tb8 _ b83 (fun i => if i < n + 1 then cls0 i else 0) := htb83.ext fun i hi => by
       by_cases e : i = n
       ·subst e; simp [hcv]
       ·have : (i < n + 1) = (i < n) := by rw [eq_iff_iff]; omega
        simp [e, this]
      refine ⟨⟨n + 1, E.of ⟨E.get 0 rfl, E.get 23 rfl, E.get 24 rfl, trivial⟩, by omega, htb82, htn, hf⟩, ?_⟩
      rw [E.get 0 rfl]; simp only [intOf]; omega
   | true =>
    rw [hq101] at E
    refine wp_cond_true (E.get 0 rfl) ?_
    refine wp_skip ?_
    refine then_n ?_
    refine wp_cond_true (E.get 0 rfl) ?_
    refine wp_region_lit ?_
    refine ep (v := .int .i64 (n : Int)) E (run_move rfl (E.get 10 rfl)) fun a E => ?_
    refine ep (v := .pointer (some ⟨b83, (0 + n), none⟩)) E (run_index111 (i := n) rfl (E.get 16 rfl) (E.get 0 rfl) hlt) fun a E => ?_
    refine env_st8 (v := 3) E rfl (wanted_none rfl _) rfl (E.get 0 rfl) rfl htb83 (by omega) fun w1 htb83n f1 E => ?_
    have htb82 := htb82.fr f1 (fun e => by (try simp only at e); omega)
    have hf := hf.trans' f1 (fun r hr => (fun e => by (try simp only at e); omega))
    clear f1
    replace htb83 := htb83n
    refine wpList_nil ?_
    refine blk_n ?_
    refine blk_n ?_
    refine then_n ?_
    refine wp_region_lit ?_
    refine ep (v := .int .i64 ((n : Int) + 1)) E (run_iadd Tryz.underlying3 (E.get 15 rfl) rfl (by omega) (by omega) rfl) fun a E => ?_
    refine env_set (d := 4) (v := .int .i64 ((n : Int) + 1)) E rfl (by decide) (wanted_none rfl _) (run_move rfl (E.get 0 rfl)) fun a E => ?_
    refine wpList_nil ?_
    refine then_n ?_
    have hcv : cls0 n = 3 := by
     unfold cls0
     rw [letq n hlt, digq n hlt, blkq n hlt, symq n hlt]
     try rw [hq86]
     try rw [hq101]
     first | rfl | simp
    have htn : tb8 _ b83 (fun i => if i < n + 1 then cls0 i else 0) := htb83.ext fun i hi => by
     by_cases e : i = n
     ·subst e; simp [hcv]
     ·have : (i < n + 1) = (i < n) := by rw [eq_iff_iff]; omega
      simp [e, this]
    refine ⟨⟨n + 1, E.of ⟨E.get 0 rfl, E.get 17 rfl, E.get 18 rfl, trivial⟩, by omega, htb82, htn, hf⟩, ?_⟩
    rw [E.get 0 rfl]; simp only [intOf]; omega
/-- What the lexer looks at. -/
def LexK (w : World) (c1 c3 : Nat) (s : Bys) : Prop := w.heap[c1]? = some (.cells #[.string (ofL s)] 9 (0, 0)) ∧ tb8 w c3 clsT
theorem LexK.fr {w w' : World} {c1 c3 : Nat} {s : Bys} (h : LexK w c1 c3 s) {F : Nat → Prop} (f : Fr F w w') (h1 : ¬ F c1) (h3 : ¬ F c3) : LexK w' c1 c3 s := ⟨f.obj h.1 h1, h.2.fr f h3⟩
theorem clsT_byte (b : UInt8) : clsT b.toNat = cl8 b := by
 unfold clsT
 rw [show UInt8.ofNat b.toNat = b by simp]
set_option maxRecDepth 100000 in
set_option maxHeartbeats 4000000 in
theorem at_calls {w : World} {c1 c3 : Nat} {s : Bys} (hK : LexK w c1 c3 s) (i : Nat) : Calls Tryz.prog 73 #[.int .i64 (i : Int), .pointer (some ⟨c1, 0, none⟩), .pointer (some ⟨c3, 0, none⟩)] w fun e w' => e = .returned (.int .u8 (clsAt s i : Nat)) ∧ Fr (fun _ => False) w w' := by
 refine wp_start3 Tryz.func73 rfl rfl (n := 14) (by decide) fun a E => ?_
 have hf : Fr (fun _ => False) w w := Fr.refl _ _
 obtain ⟨hc1, hc3⟩ := hK
 refine wp_seq ?_
 refine wp_region_lit ?_
 refine ep (v := .int .u8 0) E (run_assign rfl rfl) fun a E => ?_
 refine wpList_nil ?_
 refine then_n ?_
 refine wp_seq ?_
 refine wp_seq ?_
 refine wp_region_lit ?_
 refine ep (v := .int .i64 (i : Int)) E (run_move rfl (E.get 1 rfl)) fun a E => ?_
 refine ep (v := .string (ofL s)) E (run_lds rfl (E.get 3 rfl) (bx hc1 0 rfl)) fun a E => ?_
 refine ep (v := .int .i64 (s.length : Int)) E (run_slen rfl (E.get 0 rfl)) fun a E => ?_
 refine ep (v := .bool (decide ((s.length : Int) ≤ (i : Int)))) E (run_igeq (E.get 2 rfl) (E.get 0 rfl) Tryz.underlying3 rfl) fun a E => ?_
 refine wpList_nil ?_
 refine then_n ?_
 cases hq116 : (decide ((s.length : Int) ≤ (i : Int))) with
 | false =>
  rw [hq116] at E
  have hlt : i < s.length := by have := of_decide_eq_false hq116; omega
  obtain ⟨b, hb⟩ : ∃ b, s[i]? = some b := ⟨_, List.getElem?_eq_getElem hlt⟩
  refine wp_cond_false (E.get 0 rfl) ?_
  refine wp_skip ?_
  refine then_n ?_
  refine wp_seq ?_
  refine wp_region_lit ?_
  refine ep (v := .string (ofL s)) E (run_lds rfl (E.get 6 rfl) (bx hc1 0 rfl)) fun a E => ?_
  refine ep (v := .int .i64 (i : Int)) E (run_move rfl (E.get 6 rfl)) fun a E => ?_
  refine ep (v := .int .u8 (b.toNat : Int)) E (run_byte rfl (E.get 1 rfl) (E.get 0 rfl) hb) fun a E => ?_
  refine ep (v := .pointer (some ⟨c3, (0 + b.toNat), none⟩)) E (run_index111u (i := b.toNat) rfl (E.get 10 rfl) (E.get 0 rfl) b.toNat_lt) fun a E => ?_
  refine ep (v := .int .u8 (clsT b.toNat : Nat)) E (run_ld5 rfl (E.get 0 rfl) (hc3.at b.toNat_lt)) fun a E => ?_
  refine env_set (d := 4) (v := .int .u8 (clsT b.toNat : Nat)) E rfl (by decide) (wanted_none rfl _) (run_assign rfl (E.get 0 rfl)) fun a E => ?_
  refine wpList_nil ?_
  refine then_n ?_
  refine wp_ret ?_
  refine ret_tmp (t := 4) rfl E (E.get 0 rfl) ⟨?_, hf⟩
  unfold clsAt
  rw [hb]; simp only [clsT_byte]
 | true =>
  rw [hq116] at E
  have hnn : s[i]? = none := List.getElem?_eq_none (by have := of_decide_eq_true hq116; omega)
  refine wp_cond_true (E.get 0 rfl) ?_
  refine wp_seq ?_
  refine wp_region_lit ?_
  refine env_set (d := 4) (v := .int .u8 0) E rfl (by decide) (wanted_none rfl _) (run_assign rfl rfl) fun a E => ?_
  refine wpList_nil ?_
  refine then_n ?_
  refine wp_ret ?_
  refine then_r ?_
  refine ret_tmp (t := 4) rfl E (E.get 0 rfl) ⟨?_, hf⟩
  unfold clsAt
  rw [hnn]; rfl
end Go.Proofs.YtjaffpnegdcjnaaGreatDoor
