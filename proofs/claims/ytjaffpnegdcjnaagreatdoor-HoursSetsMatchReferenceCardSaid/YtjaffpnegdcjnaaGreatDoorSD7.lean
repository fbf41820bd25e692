/- Parse: the deferred call. -/
import Derived.Recover
import Derived.Defers
import Derived.Test.YtjaffpnegdcjnaaGreatDoorSD6
set_option linter.unusedVariables false
set_option linter.unusedSimpArgs false
namespace Go.Proofs.YtjaffpnegdcjnaaGreatDoor
open Go.RowKit Go.Pl
theorem text_cnt {en : Int} {ts l : List (Tok Int)} {s : List Sp} (hk : Tk ts) (h : textS en ts = .ok (s, l)) : s.length ≤ 2 * ts.length + 2 := by
 have ht : ∀ {f t : Int} {ts l : List (Tok Int)} {s : List Sp}, 0 ≤ f → f < 7 → 0 ≤ t → t < 7 → time en f t ts = .ok (s, l) → s.length + 2 * l.length ≤ 2 * ts.length := by
  intro f t ts l s h1 h2 h3 h4 h
  have hl := time_ok h
  have : s.length ≤ 14 := by
   unfold time at h
   split at h
   ·cases h
   ·split at h
    ·cases h
    ·split at h
     ·cases h
     ·split at h
      ·cases h
      ·cases h
       exact dayL_len (by rw [day_n h1 h2 h3 h4]; omega)
  omega
 have hts : ∀ {f t : Int}, 0 ≤ f → f < 7 → 0 ≤ t → t < 7 → ∀ (n : Nat) {ts l : List (Tok Int)} {s : List Sp}, times en f t n ts = .ok (s, l) → s.length + 2 * l.length ≤ 2 * ts.length := by
  intro f t h1 h2 h3 h4 n
  induction n with
  | zero => intro ts l s h; cases h
  | succ n ih =>
   intro ts l s h
   unfold times at h
   split at h
   ·cases h
   ·rename_i s1 ts1 he
    have := ht h1 h2 h3 h4 he
    split at h
    ·split at h
     ·cases h
     ·rename_i s2 ts2 he2
      have h5 := ih he2
      cases h
      simp only [List.length_append, List.length_drop] at h5 ⊢
      omega
    ·cases h; exact this
 have hp : ∀ {ts l : List (Tok Int)} {s : List Sp}, Tk ts → part en ts = .ok (s, l) → s.length + 2 * l.length ≤ 2 * ts.length := by
  intro ts l s hk h
  unfold part at h
  split at h
  ·cases h
  ·rename_i a b ts1 he
   obtain ⟨h1, h2, h3, h4, _⟩ := dys_tk hk he
   have := dys_len he
   have := hts h1 h2 h3 h4 _ h
   omega
 have hps : ∀ (n : Nat) {ts l : List (Tok Int)} {s : List Sp}, Tk ts → parts en n ts = .ok (s, l) → s.length + 2 * l.length ≤ 2 * ts.length := by
  intro n
  induction n with
  | zero => intro ts l s _ h; cases h
  | succ n ih =>
   intro ts l s hk h
   unfold parts at h
   split at h
   ·cases h
   ·rename_i s1 ts1 he
    have h1 := hp hk he
    have k1 := (part_wk hk he).2
    split at h
    ·split at h
     ·cases h
     ·rename_i s2 ts2 he2
      have h5 := ih (k1.drop 1) he2
      cases h
      simp only [List.length_append, List.length_drop] at h5 ⊢
      omega
    ·cases h; exact h1
 have hq : ∀ {l : List (Tok Int)} {s : List Sp}, textQ en ts = .ok (s, l) → s.length ≤ 2 * ts.length + 2 := by
  intro l s h
  unfold textQ at h
  split at h
  ·cases h; unfold addL; split <;> simp
  ·split at h
   ·cases h; simp
   ·have := hps _ hk h; omega
 unfold textS at h
 cases hqq : textQ en ts with
 | error e => rw [hqq] at h; cases h
 | ok r =>
  obtain ⟨s1, l1⟩ := r
  rw [hqq] at h
  have := hq hqq
  cases l1 with
  | nil => cases h; exact this
  | cons t l1 => cases h
/-- A deferred call is laid by. -/
theorem env_defer {P : Program} {O : Array Oper} {Q : Exit → Act → World → Prop} {rest : List Oper} {o : Oper} {a : Act} {w : World} {ds : List Deferred} {n : Nat} {L : List (Nat × Value)} {d : Deferred} (E : EnvD ds n L a) (hd : o.dst = none) (hw : Region.wanted o (yielded O a.tmps) = true) (hr : (execOp a.eval o).run P w = .ok (.defer d) w) (k : ∀ a', EnvD (d :: ds) n L a' → wpList P O Q rest a' w) : wpList P O Q (o :: rest) a w := by
 simp only [wpList, hw, if_true]
 left
 unfold Oper.wp
 rw [hr, Oper.upon_defer, hd]
 refine k _ ⟨E.size, fun x hx => E.at_ x hx, ?_⟩
 show d :: a.defers = d :: ds
 rw [E.df]
theorem run_mkfn3 {o : Oper} {w : World} {ρ : Operand → Value} {x y z : Operand} {f : Nat} {p q r : Value} (ho : o.op = .makeFunc (.func f) #[] #[x, y, z]) (hx : ρ x = p) (hy : ρ y = q) (hz : ρ z = r) : (execOp ρ o).run Tryz.prog w = .ok (.value (.func (.func f) #[] #[p, q, r])) w := by
 simp [execOp, ho, hx, hy, hz, go_sem]
theorem run_defer {o : Oper} {w : World} {ρ : Operand → Value} {x : Operand} {f : Nat} {cs : Array Value} (ho : o.op = .defer ⟨.value x, #[], #[]⟩) (hx : ρ x = .func (.func f) #[] cs) : (execOp ρ o).run Tryz.prog w = .ok (.defer { target := .fn (.func f) cs, args := #[] }) w := by
 simp [execOp, ho, hx, go_sem]
theorem run_b57 {o : Oper} {w : World} {ρ : Operand → Value} {x y : Operand} {p : Option Addr} {m c : Nat} {e : Int} (ho : o.op = .build 57 #[(0, x), (1, y)]) (hx : ρ x = .slice p m c) (hy : ρ y = .int .i64 e) : (execOp ρ o).run Tryz.prog w = .ok (.value (.agg #[.slice p m c, .int .i64 e])) w := by
 simp [execOp, ho, hx, hy, go_sem]
theorem run_b59 {o : Oper} {w : World} {ρ : Operand → Value} {x : Operand} {p : Option Addr} {m c : Nat} {e : Int} (ho : o.op = .build 59 #[(0, x)]) (hx : ρ x = .agg #[.slice p m c, .int .i64 e]) : (execOp ρ o).run Tryz.prog w = .ok (.value (.agg #[.slice p m c, .int .i64 e, .slice none 0 0])) w := by
 simp [execOp, ho, hx, go_sem]
theorem run_box59 {o : Oper} {w : World} {ρ : Operand → Value} {x : Operand} {p : Option Addr} {m c : Nat} {e : Int} (ho : o.op = .box 59 x) (hx : ρ x = .agg #[.slice p m c, .int .i64 e, .slice none 0 0]) : (execOp ρ o).run Tryz.prog w = .ok (.value (.pointer (some ⟨w.heap.size, 0, none⟩))) (w.alloc (.cells #[.slice p m c, .int .i64 e, .slice none 0 0] 59)) := by
 simp [execOp, ho, hx, go_sem]
theorem run_ta54 {o : Oper} {w : World} {ρ : Operand → Value} {x : Operand} {c e : Int} (ho : o.op = .typeAssert x 20 54 false) (hx : ρ x = prob c e) : (execOp ρ o).run Tryz.prog w = .ok (.value (.agg #[.int .i64 c, .int .i64 e])) w := by
 simp [execOp, ho, hx, prob, go_sem, Instr.typeAssert, Tryz.underlying54]
theorem run_nenil {o : Oper} {w : World} {ρ : Operand → Value} {x y : Operand} {c e : Int} (ho : o.op = .binOp .neq 20 x y 20) (hx : ρ x = prob c e) (hy : ρ y = .nilIface) : (execOp ρ o).run Tryz.prog w = .ok (.value (.bool true)) w := by
 simp [execOp, ho, hx, hy, prob, go_sem]
theorem run_st54 {o : Oper} {w : World} {ρ : Operand → Value} {x y : Operand} {b : Nat} {c0 e0 c e : Int} (ho : o.op = .store 54 x y) (hx : ρ x = .pointer (some ⟨b, 0, none⟩)) (hy : ρ y = .agg #[.int .i64 c, .int .i64 e]) (h : w.heap[b]? = some (.cells #[.int .i64 c0, .int .i64 e0] 54 (0, 0))) : (execOp ρ o).run Tryz.prog w = .ok .skip ((w.setCell ⟨b, 0, none⟩ (.int .i64 c)).setCell ⟨b, 1, none⟩ (.int .i64 e)) := by
 have h1 := blk_setCell_same h (off := 0) (.int .i64 c)
 have q0 : w.cell? ⟨b, 0, none⟩ = some (.int .i64 c0) := cell_of_blk h 0
 have q1 : (w.setCell ⟨b, 0, none⟩ (.int .i64 c)).cell? ⟨b, 1, none⟩ = some (.int .i64 e0) := cell_of_blk h1 1
 have f0 := free_of_blk h 0; have f1 := free_of_blk h1 1
 simp [execOp, ho, hx, hy, go_sem, storeCells, q0, q1, f0, f1]
theorem env_st54 {O : Array Oper} {Q : Exit → Act → World → Prop} {rest : List Oper} {o : Oper} {a : Act} {w : World} {n : Nat} {L : List (Nat × Value)} {x y : Operand} {b : Nat} {ds : List Deferred} {c0 e0 c e : Int} (E : EnvD ds n L a) (hd : o.dst = none) (hw : Region.wanted o (yielded O a.tmps) = true) (ho : o.op = .store 54 x y) (hx : a.eval x = .pointer (some ⟨b, 0, none⟩)) (hy : a.eval y = .agg #[.int .i64 c, .int .i64 e]) (h : w.heap[b]? = some (.cells #[.int .i64 c0, .int .i64 e0] 54 (0, 0)))
  (k : ∀ w', w'.heap[b]? = some (.cells #[.int .i64 c, .int .i64 e] 54 (0, 0)) → Fr (fun r => r = b) w w' → EnvD ds n L a → wpList Tryz.prog O Q rest a w') : wpList Tryz.prog O Q (o :: rest) a w := by
 exact env_store E hd hw (run_st54 ho hx hy h) (k _ (blk_setCell_same (blk_setCell_same h _) _) (((Fr.refl (fun r => r = b) _).setCell (p := ⟨b, 0, none⟩) (fun _ => rfl) _).setCell (p := ⟨b, 1, none⟩) (fun _ => rfl) _))
theorem run_ex0of3 {o : Oper} {w : World} {ρ : Operand → Value} {x : Operand} {p q r : Value} (ho : o.op = .extract x 0) (hx : ρ x = .tuple #[p, q, r]) : (execOp ρ o).run Tryz.prog w = .ok (.value p) w := by simp [execOp, ho, hx, go_sem]
theorem run_ex1of3 {o : Oper} {w : World} {ρ : Operand → Value} {x : Operand} {p q r : Value} (ho : o.op = .extract x 1) (hx : ρ x = .tuple #[p, q, r]) : (execOp ρ o).run Tryz.prog w = .ok (.value q) w := by simp [execOp, ho, hx, go_sem]
theorem run_ex2of3 {o : Oper} {w : World} {ρ : Operand → Value} {x : Operand} {p q r : Value} (ho : o.op = .extract x 2) (hx : ρ x = .tuple #[p, q, r]) : (execOp ρ o).run Tryz.prog w = .ok (.value r) w := by simp [execOp, ho, hx, go_sem]
theorem wp_startD1 {f : FuncId} {fn : Func} {c : Code} {R : Ending → World → Prop} {n : Nat} {w : World} {v0 : Value} (hf : Tryz.prog.funcs[f]? = some fn) (hb : fn.body = some c) (hn : fn.ntmps = n) (h2 : 1 ≤ n) (k : ∀ a, Env n [(0, v0)] a → c.wp Tryz.prog (bodyPostD Tryz.prog fn R) a w) : Calls Tryz.prog f #[v0] w R := by
 refine calls_of_wp_defers hf hb (k _ ⟨?_, ?_, rfl⟩)
 ·simp [hn]; omega
 ·intro x hx
  simp only [List.mem_cons, List.not_mem_nil, or_false] at hx
  subst hx
  show (#[v0] ++ Array.replicate (fn.ntmps - 1) undef).getD 0 undef = v0
  rw [Array.getD_eq_getD_getElem?, Array.getElem?_append_left (by simp)]; rfl
theorem catch_idle (b2 b3 b4 : Nat) (w : World) : CallsD Tryz.prog 32 #[.pointer (some ⟨b2, 0, none⟩), .pointer (some ⟨b3, 0, none⟩), .pointer (some ⟨b4, 0, none⟩)] .returning w fun e u w' => e = .returned (.tuple #[]) ∧ u = .returning ∧ w' = w := by
 refine callsD_of_wpS Tryz.func32 rfl fun c₀ cs hu => ?_
 apply wpS_seq
 apply wpS_region
 simp [wpOpsS, go_sem, recoverD, hu, Tryz.ntmps32, Exit.thenS]
 apply wpS_seq
 apply wpS_region
 simp [wpOpsS, go_sem, Exit.thenS]
 refine wpS_cond (t := false) (by simp [Act.eval, Array.replicate]) ?_
 simp only [Bool.false_eq_true, if_false]
 refine wpS_of_wp (wp_skip ?_)
 cases c₀
 simp_all [bodyPostS, results, Tryz.results32]
set_option maxRecDepth 100000 in
set_option maxHeartbeats 4000000 in
theorem catch_panic {b2 b3 b4 : Nat} {p : Option Addr} {m k : Nat} {e0 x0 : Int} (c x : Int) {w : World} (h2 : w.heap[b2]? = some (.cells #[.slice p m k] 22 (0, 0))) (h3 : w.heap[b3]? = some (.cells #[.int .i64 e0] 25 (0, 0))) (h4 : w.heap[b4]? = some (.cells #[.int .i64 x0] 3 (0, 0))) (n23 : b2 < b3) (n34 : b3 < b4) :
  CallsD Tryz.prog 32 #[.pointer (some ⟨b2, 0, none⟩), .pointer (some ⟨b3, 0, none⟩), .pointer (some ⟨b4, 0, none⟩)] (.panicking (pn c x)) w fun e u w' => e = .returned (.tuple #[]) ∧ u = .panicking [{ v := prob c x, recovered := true }] ∧ w'.heap[b2]? = some (.cells #[.slice none 0 0] 22 (0, 0)) ∧ w'.heap[b3]? = some (.cells #[.int .i64 c] 25 (0, 0)) ∧ w'.heap[b4]? = some (.cells #[.int .i64 x] 3 (0, 0)) ∧ Fr (fun r => r = b2 ∨ r = b3 ∨ r = b4) w w' := by
 refine callsD_of_wpS Tryz.func32 rfl fun c₀ cs hu => ?_
 apply wpS_seq
 apply wpS_region
 simp [wpOpsS, go_sem, recoverD, hu, Tryz.ntmps32, Exit.thenS]
 refine wpS_of_wp ?_
 refine (fun (H : ∀ a, Env 14 [(0, .pointer (some ⟨b2, 0, none⟩)), (1, .pointer (some ⟨b3, 0, none⟩)), (2, .pointer (some ⟨b4, 0, none⟩)), (3, prob c x)] a → Code.wp Tryz.prog _ _ a w) => H _ ⟨by rfl, by intro z hz; simp at hz; rcases hz with rfl | rfl | rfl | rfl <;> rfl, rfl⟩) fun a E => ?_
 have hl2 := lt_of_blk h2
 have hl3 := lt_of_blk h3
 have hl4 := lt_of_blk h4
 have hf : Fr (fun r => r = b2 ∨ r = b3 ∨ r = b4) w w := Fr.refl _ _
 refine wp_seq ?_
 refine wp_region_lit ?_
 refine ep (v := prob c x) E (run_move rfl (E.get 3 rfl)) fun a E => ?_
 refine ep (v := .bool true) E (run_nenil rfl (E.get 0 rfl) rfl) fun a E => ?_
 refine wpList_nil ?_
 refine then_n ?_
 refine wp_cond_true (E.get 0 rfl) ?_
 refine wp_seq ?_
 refine wp_region_lit ?_
 refine ep (v := prob c x) E (run_move rfl (E.get 5 rfl)) fun a E => ?_
 refine ep (v := .agg #[.int .i64 c, .int .i64 x]) E (run_ta54 rfl (E.get 0 rfl)) fun a E => ?_
 refine env_new (d := 4) E rfl (by decide) rfl (wanted_none rfl _) (run_alloc54 rfl) fun a w1 b137 eb137 hb137 f1 E => ?_
 have hnb137 : w.heap.size ≤ b137 := by have := hf.size; omega
 have hlb2b137 : b2 < b137 := by have := lt_of_blk h2; omega
 have hlb3b137 : b3 < b137 := by have := lt_of_blk h3; omega
 have hlb4b137 : b4 < b137 := by have := lt_of_blk h4; omega
 have h2 := f1.obj h2 id
 have h3 := f1.obj h3 id
 have h4 := f1.obj h4 id
 have hf := hf.trans' f1 (fun _ _ h => h.elim)
 clear f1
 refine env_st54 E rfl (wanted_none rfl _) rfl (E.get 0 rfl) (E.get 1 rfl) hb137 fun w1 hb137n f1 E => ?_
 have h2 := f1.obj h2 (fun e => by (try simp only at e); omega)
 have h3 := f1.obj h3 (fun e => by (try simp only at e); omega)
 have h4 := f1.obj h4 (fun e => by (try simp only at e); omega)
 have hf := hf.trans' f1 (fun r hr => (fun e => by (try simp only at e); omega))
 clear f1
 replace hb137 := hb137n
 refine wpList_nil ?_
 refine then_n ?_
 refine wp_region_invx (G := Unit) () (n := 14) (base := [(4, .pointer (some ⟨b137, 0, none⟩)), (9, .agg #[.int .i64 c, .int .i64 x]), (8, prob c x), (7, .bool true), (6, prob c x), (0, .pointer (some ⟨b2, 0, none⟩)), (1, .pointer (some ⟨b3, 0, none⟩)), (2, .pointer (some ⟨b4, 0, none⟩)), (3, prob c x)]) (U := []) (T := fun γ => [some (10, .pointer (some ⟨b137, 0, none⟩)), some (11, .int .i64 c), some (12, .pointer (some ⟨b137, 1, none⟩)), some (13, .int .i64 x), none, none, none]) (M := fun γ ls9 wm => Fr (fun r => r = b2 ∨ r = b3 ∨ r = b4) w1 wm ∧ wm.heap[b2]? = some (.cells #[(bif ls9 4 then .slice none 0 0 else .slice (p) m k)] 22 (0, 0)) ∧ wm.heap[b3]? = some (.cells #[(bif ls9 5 then .int .i64 c else .int .i64 e0)] 25 (0, 0)) ∧ wm.heap[b4]? = some (.cells #[(bif ls9 6 then .int .i64 x else .int .i64 x0)] 3 (0, 0))) (by kernel_rfl) (by kernel_rfl) (fun _ => by kernel_rfl) (E.of ⟨E.get 0 rfl, E.get 1 rfl, E.get 2 rfl, E.get 3 rfl, E.get 4 rfl, E.get 5 rfl, E.get 6 rfl, E.get 7 rfl, E.get 8 rfl, trivial⟩) (fun x hx => by cases hx) ⟨(Fr.refl _ _).drew, h2, h3, h4⟩ ?_ ?_
 ·intro j9 o9 γ ls9 a w5 ho hl E D DL DL2 hB hM
  have hb137 := hM.1.obj hb137 (fun e => by (try simp only at e); omega)
  have h2 := hM.2.1
  have h3 := hM.2.2.1
  have h4 := hM.2.2.2
  match j9, ho, hl, D, DL, hB with
  | 0, ho, hl, D, DL, hB =>
   obtain rfl := Option.some.inj ho
   clear ho
   exact ⟨fun _ => valx rfl (fa54_0 rfl (E.get 0 rfl)) rfl hM, fun h => by rw [wanted_none rfl] at h; cases h⟩
  | 1, ho, hl, D, DL, hB =>
   obtain rfl := Option.some.inj ho
   clear ho
   exact ⟨fun _ => valx rfl (run_lde rfl (D 0 _ rfl rfl) (bx hb137 0 rfl)) rfl hM, fun h => by rw [wanted_none rfl] at h; cases h⟩
  | 2, ho, hl, D, DL, hB =>
   obtain rfl := Option.some.inj ho
   clear ho
   exact ⟨fun _ => valx rfl (fa54_1 rfl (E.get 0 rfl)) rfl hM, fun h => by rw [wanted_none rfl] at h; cases h⟩
  | 3, ho, hl, D, DL, hB =>
   obtain rfl := Option.some.inj ho
   clear ho
   exact ⟨fun _ => valx rfl (run_ldi rfl (D 2 _ rfl rfl) (bx hb137 1 rfl)) rfl hM, fun h => by rw [wanted_none rfl] at h; cases h⟩
  | 4, ho, hl, D, DL, hB =>
   obtain rfl := Option.some.inj ho
   clear ho
   exact ⟨fun _ => storex rfl (run_st22 rfl (E.get 5 rfl) rfl (bx h2 0 rfl) (free_of_blk h2 0)) rfl ⟨hM.1.trans (((Fr.refl (fun r => r = b2) w5).setCell (p := ⟨b2, 0, none⟩) (fun _ => rfl) _).mono (fun r _ e => by first | exact e | exact .inl e | exact .inr e | exact .inr (.inl e) | exact .inr (.inr e))), blk_setCell_same (off := 0) h2 _, (blk_setCell (p := ⟨b2, 0, none⟩) (by show b3 ≠ b2; omega) _).trans h3, (blk_setCell (p := ⟨b2, 0, none⟩) (by show b4 ≠ b2; omega) _).trans h4⟩, fun h => by rw [wanted_none rfl] at h; cases h⟩
  | 5, ho, hl, D, DL, hB =>
   obtain rfl := Option.some.inj ho
   clear ho
   exact ⟨fun _ => storex rfl (run_st25 rfl (E.get 6 rfl) (D 1 _ rfl rfl) (bx h3 0 rfl) (free_of_blk h3 0)) rfl ⟨hM.1.trans (((Fr.refl (fun r => r = b3) w5).setCell (p := ⟨b3, 0, none⟩) (fun _ => rfl) _).mono (fun r _ e => by first | exact e | exact .inl e | exact .inr e | exact .inr (.inl e) | exact .inr (.inr e))), (blk_setCell (p := ⟨b3, 0, none⟩) (by show b2 ≠ b3; omega) _).trans h2, blk_setCell_same (off := 0) h3 _, (blk_setCell (p := ⟨b3, 0, none⟩) (by show b4 ≠ b3; omega) _).trans h4⟩, fun h => by rw [wanted_none rfl] at h; cases h⟩
  | 6, ho, hl, D, DL, hB =>
   obtain rfl := Option.some.inj ho
   clear ho
   exact ⟨fun _ => storex rfl (run_st3 rfl (E.get 7 rfl) (D 3 _ rfl rfl) (bx h4 0 rfl) (free_of_blk h4 0)) rfl ⟨hM.1.trans (((Fr.refl (fun r => r = b4) w5).setCell (p := ⟨b4, 0, none⟩) (fun _ => rfl) _).mono (fun r _ e => by first | exact e | exact .inl e | exact .inr e | exact .inr (.inl e) | exact .inr (.inr e))), (blk_setCell (p := ⟨b4, 0, none⟩) (by show b2 ≠ b4; omega) _).trans h2, (blk_setCell (p := ⟨b4, 0, none⟩) (by show b3 ≠ b4; omega) _).trans h3, blk_setCell_same (off := 0) h4 _⟩, fun h => by rw [wanted_none rfl] at h; cases h⟩
  | j9 + 7, ho, hl, D, DL, hB => exact absurd ho (by simp)
 ·rintro _ a w5 E V hM
  clear V
  have f1 := hM.1
  have h2n : w5.heap[b2]? = some (.cells #[.slice none 0 0] 22 (0, 0)) := hM.2.1
  have h3n : w5.heap[b3]? = some (.cells #[.int .i64 c] 25 (0, 0)) := hM.2.2.1
  have h4n : w5.heap[b4]? = some (.cells #[.int .i64 x] 3 (0, 0)) := hM.2.2.2
  clear hM
  have hb137 := f1.obj hb137 (fun e => by (try simp only at e); omega)
  have hf := hf.trans' f1 (fun r hr => (fun e => by (try simp only at e); omega))
  clear f1
  replace h2 := h2n
  replace h3 := h3n
  replace h4 := h4n
  exact ⟨E.df, _, rfl, .tuple #[], by simp [results, Tryz.results32], rfl, rfl, h2, h3, h4, hf⟩
end Go.Proofs.YtjaffpnegdcjnaaGreatDoor
