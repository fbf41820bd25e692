/- The comparisons of the packing. -/
import Derived.Test.YtcafnanbdmapgaaK8
import Derived.Sort.Grow
set_option linter.unusedVariables false
set_option linter.unusedSimpArgs false
namespace Go.Proofs.Ytcafnanbdmapgaa
open Go.RowKit Go.Pl Go.Sort

def cmpI (a b : Int) : Int := if a < b then -1 else if b < a then 1 else 0
def orI (x y : Int) : Int := if x ≠ 0 then x else y
def cfB (x y : Bx) : Int := cmpI (x.1.2 + x.2.2) (y.1.2 + y.2.2)
def cfA (x y : Bx) : Int := orI (cmpI (x.1.1 + x.2.1) (y.1.1 + y.2.1)) (cfB x y)
/-- w' is w with draws and new blocks behind it. -/
def Gw (w w' : World) : Prop := ∃ q os, w' = grow (w.drewN q) os
theorem grow_nil (w : World) : grow w #[] = w := by simp [grow]
theorem Gw.refl (w : World) : Gw w w := ⟨0, #[], by rw [grow_nil]; rfl⟩
theorem Gw.drew {w w' : World} (h : Gw w w') : Gw w w'.drew := by
  obtain ⟨q, os, rfl⟩ := h
  exact ⟨q + 1, os, rfl⟩
theorem Gw.alloc {w w' : World} (h : Gw w w') (o : Obj) : Gw w (w'.alloc o) := by
  obtain ⟨q, os, rfl⟩ := h
  refine ⟨q, os ++ #[o], ?_⟩
  simp [World.alloc, grow]
theorem Gw.trans {a b c : World} (h : Gw a b) (k : Gw b c) : Gw a c := by
  obtain ⟨q, os, rfl⟩ := h
  obtain ⟨q2, os2, rfl⟩ := k
  refine ⟨q + q2, os ++ os2, ?_⟩
  simp [grow, World.drewN, Nat.add_assoc]
theorem Gw.fr {w w' : World} (h : Gw w w') : Fr (fun _ => False) w w' := by
  obtain ⟨q, os, rfl⟩ := h
  refine ⟨rfl, rfl, rfl, ?_, fun r hr _ => ?_⟩
  · simp [grow, World.drewN]
  · simp only [grow, World.drewN]
    rw [Array.getElem?_append_left hr]


set_option maxHeartbeats 1000000 in
theorem nan_calls (x : Int) (w : World) : Calls Try.prog 73 #[.int .i64 x] w fun e w' => e = .returned (.bool false) ∧ w = w' := by
  have hb : (x != x) = false := by simp
  go_enter Try.func73, Try.ntmps73
  go_wp2
  go_ret
  exact ⟨rfl, rfl⟩
set_option maxHeartbeats 1000000 in
theorem cmp_calls (x y : Int) (w : World) : Calls Try.prog 56 #[.int .i64 x, .int .i64 y] w fun e w' => e = .returned (.int .i64 (cmpI x y)) ∧ w = w' := by
  have n1 := nan_calls x w
  have n2 := nan_calls y w
  by_cases h1 : x < y
  · have hE : Hid (cmpI x y = -1) := by unfold cmpI; rw [Hid, if_pos h1]
    have t1 : decide (x < y) = true := decide_eq_true h1
    clear h1
    go_enter Try.func56, Try.ntmps56
    go_wp2_with fail
    refine n1.mono ?_
    rintro e w' ⟨rfl, rfl⟩
    go_wp2_with fail
    refine n2.mono ?_
    rintro e w' ⟨rfl, rfl⟩
    go_wp2
    go_ret
    exact ⟨by rw [hE.out]; rfl, rfl⟩
  · by_cases h2 : y < x
    · have hE : Hid (cmpI x y = 1) := by unfold cmpI; rw [Hid, if_neg h1, if_pos h2]
      have t1 : decide (x < y) = false := decide_eq_false h1
      have t2 : decide (y < x) = true := decide_eq_true h2
      clear h1 h2
      go_enter Try.func56, Try.ntmps56
      go_wp2_with fail
      refine n1.mono ?_
      rintro e w' ⟨rfl, rfl⟩
      go_wp2_with fail
      refine n2.mono ?_
      rintro e w' ⟨rfl, rfl⟩
      go_wp2
      go_ret
      exact ⟨by rw [hE.out]; rfl, rfl⟩
    · have hE : Hid (cmpI x y = 0) := by unfold cmpI; rw [Hid, if_neg h1, if_neg h2]
      have t1 : decide (x < y) = false := decide_eq_false h1
      have t2 : decide (y < x) = false := decide_eq_false h2
      clear h1 h2
      go_enter Try.func56, Try.ntmps56
      go_wp2_with fail
      refine n1.mono ?_
      rintro e w' ⟨rfl, rfl⟩
      go_wp2_with fail
      refine n2.mono ?_
      rintro e w' ⟨rfl, rfl⟩
      go_wp2
      go_ret
      exact ⟨by rw [hE.out]; rfl, rfl⟩
set_option maxHeartbeats 1000000 in
theorem or_calls (x y : Int) (g : Nat) (w : World) (h0 : w.cell? ⟨g, 0, none⟩ = some (.int .i64 x)) (h1 : w.cell? ⟨g, 1, none⟩ = some (.int .i64 y)) :
    Calls Try.prog 55 #[.slice (some ⟨g, 0, none⟩) 2 2] w fun e w' => e = .returned (.int .i64 (orI x y)) ∧ w = w' := by
  have H0 := Lib.hid h0
  have H1 := Lib.hid h1
  clear h0 h1
  go_enter Try.func55, Try.ntmps55
  go_wp2
  go_loop [8] (fun i => ∃ k : Nat, k ≤ 2 ∧ i = .int .i64 k ∧ Hid (0 < k → x = 0) ∧ Hid (1 < k → y = 0)) (fun i => 2 - (intOf i).toNat)
  case atStart => exact ⟨0, by omega, rfl, fun h => by omega, fun h => by omega⟩
  case round =>
    obtain ⟨k, hk, rfl, h1, h2⟩ := hrel
    have hcase : k = 0 ∨ k = 1 ∨ k = 2 := by omega
    rcases hcase with rfl | rfl | rfl
    · have d0 := H0.out
      by_cases hz : x = 0
      · have hE : Hid (0 < 1 → x = 0) := fun _ => hz
        subst hz
        go_wp2
        go_round
        case rel => exact ⟨1, by omega, by go_num, fun _ => trivial, fun h => by omega⟩
        case measure => simp [intOf]
      · have t1 : (x != 0) = true := by simpa using hz
        have hE : Hid (orI x y = x) := by unfold orI; rw [Hid, if_pos hz]
        clear hz
        go_wp2
        go_ret
        exact ⟨by rw [hE.out]; rfl, rfl⟩
    · have d1 := H1.out
      have hx := h1.out (by omega)
      by_cases hz : y = 0
      · have hE : Hid (1 < 2 → y = 0) := fun _ => hz
        have hE1 : Hid (0 < 2 → x = 0) := fun _ => hx
        subst hz
        go_wp2
        go_round
        case rel => exact ⟨2, by omega, by go_num, hE1, fun _ => trivial⟩
        case measure => simp [intOf]
      · have t1 : (y != 0) = true := by simpa using hz
        have hE : Hid (orI x y = y) := by unfold orI; rw [Hid, if_neg (by simpa using hx)]
        clear hz hx
        go_wp2
        go_ret
        exact ⟨by rw [hE.out]; rfl, rfl⟩
    · have hE : Hid (orI x y = 0) := by
        have hx := h1.out (by omega)
        have hy := h2.out (by omega)
        unfold orI; rw [Hid, if_neg (by simpa using hx)]; exact hy
      go_wp2
      go_ret
      exact ⟨by rw [hE.out]; rfl, rfl⟩


/-- A node's box, at the block's first four cells. -/
def nb (w : World) (p : Nat) (b : Bx) : Prop := w.rangeAt p 0 (bxL b)
theorem nb.fr {w w' : World} {p : Nat} {b : Bx} (h : nb w p b) {F : Nat → Prop} (hf : Fr F w w') (hp : ¬ F p) : nb w' p b := fun j u hu => hf.cell (h j u hu) hp
theorem nb.gw {w w' : World} {p : Nat} {b : Bx} (h : nb w p b) (hg : Gw w w') : nb w' p b := h.fr hg.fr id
theorem run_two87 {o : Oper} {w : World} {ρ : Operand → Value} {x y : Operand} {n0 n1 : Int} (ho : o.op = .buildSlice 87 2 #[(0, x), (1, y)]) (h0 : ρ x = .int .i64 n0) (h1 : ρ y = .int .i64 n1) : (execOp ρ o).run Try.prog w = .ok (.value (.slice (some ⟨w.heap.size, 0, none⟩) 2 2)) (w.alloc (.cells #[.int .i64 n0, .int .i64 n1] 3)) := by
  simp [execOp, ho, h0, h1, go_sem]
set_option maxRecDepth 100000 in
set_option maxHeartbeats 4000000 in
theorem cmpA_calls {p q : Nat} {x y : Bx} {w : World} (hX : nb w p x) (hY : nb w q y) (hx : okB x) (hy : okB y) : Calls Try.prog 54 #[.pointer (some ⟨p, 0, none⟩), .pointer (some ⟨q, 0, none⟩)] w fun e w' => e = .returned (.int .i64 (cfA x y)) ∧ Gw w w' := by
  obtain ⟨⟨⟨x1, x2⟩, x3, x4⟩, ⟨⟨x5, x6⟩, x7, x8⟩, x9, x10⟩ := hx
  obtain ⟨⟨⟨y1, y2⟩, y3, y4⟩, ⟨⟨y5, y6⟩, y7, y8⟩, y9, y10⟩ := hy
  refine wp_start2 Try.func54 rfl rfl (n := 61) (by decide) fun a E => ?_
  refine wp_seq ?_
  refine wp_region_lit ?_
  refine env_put (d := 4) (v := .int .i64 0) E rfl (by decide) rfl (wanted_none rfl _) (run_assign rfl rfl) fun a E => ?_
  refine wpList_nil ?_
  refine then_n ?_
  refine wp_seq ?_
  obtain ⟨G, hG⟩ : ∃ G, w.heap.size = G := ⟨_, rfl⟩
  refine wp_region_inv (n := 61) (base := [(1, .pointer (some ⟨q, 0, none⟩)), (0, .pointer (some ⟨p, 0, none⟩))]) (T := [some (5, .pointer (some ⟨p, 0, none⟩)), some (6, .pointer (some ⟨p, 0, none⟩)), some (7, .pointer (some ⟨p, 0, none⟩)), some (8, .pointer (some ⟨p, 0, none⟩)), some (9, .pointer (some ⟨p, 0, none⟩)), some (10, .int .i64 (x.1.1)), some (11, .pointer (some ⟨p, 0, none⟩)), some (12, .pointer (some ⟨p, 0, none⟩)), some (13, .pointer (some ⟨p, 0, none⟩)), some (14, .pointer (some ⟨p, 2, none⟩)), some (15, .pointer (some ⟨p, 2, none⟩)), some (16, .int .i64 (x.2.1)), some (17, .int .i64 ((x.1.1) + (x.2.1))), some (18, .pointer (some ⟨q, 0, none⟩)), some (19, .pointer (some ⟨q, 0, none⟩)), some (20, .pointer (some ⟨q, 0, none⟩)), some (21, .pointer (some ⟨q, 0, none⟩)), some (22, .pointer (some ⟨q, 0, none⟩)), some (23, .int .i64 (y.1.1)), some (24, .pointer (some ⟨q, 0, none⟩)), some (25, .pointer (some ⟨q, 0, none⟩)), some (26, .pointer (some ⟨q, 0, none⟩)), some (27, .pointer (some ⟨q, 2, none⟩)), some (28, .pointer (some ⟨q, 2, none⟩)), some (29, .int .i64 (y.2.1)), some (30, .int .i64 ((y.1.1) + (y.2.1))), some (31, .int .i64 (cmpI ((x.1.1) + (x.2.1)) ((y.1.1) + (y.2.1)))), some (32, .pointer (some ⟨p, 0, none⟩)), some (33, .pointer (some ⟨p, 0, none⟩)), some (34, .pointer (some ⟨p, 0, none⟩)), some (35, .pointer (some ⟨p, 0, none⟩)), some (36, .pointer (some ⟨p, 1, none⟩)), some (37, .int .i64 (x.1.2)), some (38, .pointer (some ⟨p, 0, none⟩)), some (39, .pointer (some ⟨p, 0, none⟩)), some (40, .pointer (some ⟨p, 0, none⟩)), some (41, .pointer (some ⟨p, 2, none⟩)), some (42, .pointer (some ⟨p, 3, none⟩)), some (43, .int .i64 (x.2.2)), some (44, .int .i64 ((x.1.2) + (x.2.2))), some (45, .pointer (some ⟨q, 0, none⟩)), some (46, .pointer (some ⟨q, 0, none⟩)), some (47, .pointer (some ⟨q, 0, none⟩)), some (48, .pointer (some ⟨q, 0, none⟩)), some (49, .pointer (some ⟨q, 1, none⟩)), some (50, .int .i64 (y.1.2)), some (51, .pointer (some ⟨q, 0, none⟩)), some (52, .pointer (some ⟨q, 0, none⟩)), some (53, .pointer (some ⟨q, 0, none⟩)), some (54, .pointer (some ⟨q, 2, none⟩)), some (55, .pointer (some ⟨q, 3, none⟩)), some (56, .int .i64 (y.2.2)), some (57, .int .i64 ((y.1.2) + (y.2.2))), some (58, .int .i64 (cmpI ((x.1.2) + (x.2.2)) ((y.1.2) + (y.2.2)))), some (59, .slice (some ⟨G, 0, none⟩) 2 2), some (60, .int .i64 (cfA x y)), some (4, .int .i64 (cfA x y))]) (M := fun lst w' => Gw w w' ∧ (lst 54 = false → w'.heap.size = G) ∧ (lst 54 = true → w'.heap[G]? = some (.cells #[.int .i64 (cmpI ((x.1.1) + (x.2.1)) ((y.1.1) + (y.2.1))), .int .i64 (cmpI ((x.1.2) + (x.2.2)) ((y.1.2) + (y.2.2)))] 3 (0, 0)))) (by kernel_rfl) (by kernel_rfl) (by kernel_rfl) (E.of ⟨E.get 2 rfl, E.get 1 rfl, trivial⟩) ⟨(Gw.refl w).drew, fun _ => hG, fun h => by cases h⟩ ?_ ?_
  · intro i o tt lst a w2 ho hT0 hl E D DL hM
    match i, ho, hT0, hl, D, DL with
    | 0, ho, hT0, hl, D, DL =>
      obtain rfl := Option.some.inj ho
      obtain rfl := Option.some.inj hT0
      clear ho hT0
      exact val_wp (run_move rfl (E.get 1 rfl)) rfl hM
    | 1, ho, hT0, hl, D, DL =>
      obtain rfl := Option.some.inj ho
      obtain rfl := Option.some.inj hT0
      clear ho hT0
      exact val_wp (run_nilchk rfl (D 0 _ rfl rfl)) rfl hM
    | 2, ho, hT0, hl, D, DL =>
      obtain rfl := Option.some.inj ho
      obtain rfl := Option.some.inj hT0
      clear ho hT0
      exact val_wp (fa71_0 rfl (D 1 _ rfl rfl)) rfl hM
    | 3, ho, hT0, hl, D, DL =>
      obtain rfl := Option.some.inj ho
      obtain rfl := Option.some.inj hT0
      clear ho hT0
      exact val_wp (fa26_0 rfl (D 2 _ rfl rfl)) rfl hM
    | 4, ho, hT0, hl, D, DL =>
      obtain rfl := Option.some.inj ho
      obtain rfl := Option.some.inj hT0
      clear ho hT0
      exact val_wp (fa24_0 rfl (D 3 _ rfl rfl)) rfl hM
    | 5, ho, hT0, hl, D, DL =>
      obtain rfl := Option.some.inj ho
      obtain rfl := Option.some.inj hT0
      clear ho hT0
      exact val_wp (run_ldi rfl (D 4 _ rfl rfl) ((nb.gw hX hM.1) 0 _ rfl)) rfl hM
    | 6, ho, hT0, hl, D, DL =>
      obtain rfl := Option.some.inj ho
      obtain rfl := Option.some.inj hT0
      clear ho hT0
      exact val_wp (run_move rfl (E.get 1 rfl)) rfl hM
    | 7, ho, hT0, hl, D, DL =>
      obtain rfl := Option.some.inj ho
      obtain rfl := Option.some.inj hT0
      clear ho hT0
      exact val_wp (run_nilchk rfl (D 6 _ rfl rfl)) rfl hM
    | 8, ho, hT0, hl, D, DL =>
      obtain rfl := Option.some.inj ho
      obtain rfl := Option.some.inj hT0
      clear ho hT0
      exact val_wp (fa71_0 rfl (D 7 _ rfl rfl)) rfl hM
    | 9, ho, hT0, hl, D, DL =>
      obtain rfl := Option.some.inj ho
      obtain rfl := Option.some.inj hT0
      clear ho hT0
      exact val_wp (fa26_1 rfl (D 8 _ rfl rfl)) rfl hM
    | 10, ho, hT0, hl, D, DL =>
      obtain rfl := Option.some.inj ho
      obtain rfl := Option.some.inj hT0
      clear ho hT0
      exact val_wp (fa24_0 rfl (D 9 _ rfl rfl)) rfl hM
    | 11, ho, hT0, hl, D, DL =>
      obtain rfl := Option.some.inj ho
      obtain rfl := Option.some.inj hT0
      clear ho hT0
      exact val_wp (run_ldi rfl (D 10 _ rfl rfl) ((nb.gw hX hM.1) 2 _ rfl)) rfl hM
    | 12, ho, hT0, hl, D, DL =>
      obtain rfl := Option.some.inj ho
      obtain rfl := Option.some.inj hT0
      clear ho hT0
      exact val_wp (run_iadd Try.underlying3 (D 5 _ rfl rfl) (D 11 _ rfl rfl) (by omega) (by omega) rfl) rfl hM
    | 13, ho, hT0, hl, D, DL =>
      obtain rfl := Option.some.inj ho
      obtain rfl := Option.some.inj hT0
      clear ho hT0
      exact val_wp (run_move rfl (E.get 0 rfl)) rfl hM
    | 14, ho, hT0, hl, D, DL =>
      obtain rfl := Option.some.inj ho
      obtain rfl := Option.some.inj hT0
      clear ho hT0
      exact val_wp (run_nilchk rfl (D 13 _ rfl rfl)) rfl hM
    | 15, ho, hT0, hl, D, DL =>
      obtain rfl := Option.some.inj ho
      obtain rfl := Option.some.inj hT0
      clear ho hT0
      exact val_wp (fa71_0 rfl (D 14 _ rfl rfl)) rfl hM
    | 16, ho, hT0, hl, D, DL =>
      obtain rfl := Option.some.inj ho
      obtain rfl := Option.some.inj hT0
      clear ho hT0
      exact val_wp (fa26_0 rfl (D 15 _ rfl rfl)) rfl hM
    | 17, ho, hT0, hl, D, DL =>
      obtain rfl := Option.some.inj ho
      obtain rfl := Option.some.inj hT0
      clear ho hT0
      exact val_wp (fa24_0 rfl (D 16 _ rfl rfl)) rfl hM
    | 18, ho, hT0, hl, D, DL =>
      obtain rfl := Option.some.inj ho
      obtain rfl := Option.some.inj hT0
      clear ho hT0
      exact val_wp (run_ldi rfl (D 17 _ rfl rfl) ((nb.gw hY hM.1) 0 _ rfl)) rfl hM
    | 19, ho, hT0, hl, D, DL =>
      obtain rfl := Option.some.inj ho
      obtain rfl := Option.some.inj hT0
      clear ho hT0
      exact val_wp (run_move rfl (E.get 0 rfl)) rfl hM
    | 20, ho, hT0, hl, D, DL =>
      obtain rfl := Option.some.inj ho
      obtain rfl := Option.some.inj hT0
      clear ho hT0
      exact val_wp (run_nilchk rfl (D 19 _ rfl rfl)) rfl hM
    | 21, ho, hT0, hl, D, DL =>
      obtain rfl := Option.some.inj ho
      obtain rfl := Option.some.inj hT0
      clear ho hT0
      exact val_wp (fa71_0 rfl (D 20 _ rfl rfl)) rfl hM
    | 22, ho, hT0, hl, D, DL =>
      obtain rfl := Option.some.inj ho
      obtain rfl := Option.some.inj hT0
      clear ho hT0
      exact val_wp (fa26_1 rfl (D 21 _ rfl rfl)) rfl hM
    | 23, ho, hT0, hl, D, DL =>
      obtain rfl := Option.some.inj ho
      obtain rfl := Option.some.inj hT0
      clear ho hT0
      exact val_wp (fa24_0 rfl (D 22 _ rfl rfl)) rfl hM
    | 24, ho, hT0, hl, D, DL =>
      obtain rfl := Option.some.inj ho
      obtain rfl := Option.some.inj hT0
      clear ho hT0
      exact val_wp (run_ldi rfl (D 23 _ rfl rfl) ((nb.gw hY hM.1) 2 _ rfl)) rfl hM
    | 25, ho, hT0, hl, D, DL =>
      obtain rfl := Option.some.inj ho
      obtain rfl := Option.some.inj hT0
      clear ho hT0
      exact val_wp (run_iadd Try.underlying3 (D 18 _ rfl rfl) (D 24 _ rfl rfl) (by omega) (by omega) rfl) rfl hM
    | 26, ho, hT0, hl, D, DL =>
      obtain rfl := Option.some.inj ho
      obtain rfl := Option.some.inj hT0
      clear ho hT0
      exact call_wp (F := fun w' => w2 = w') (run_call2 (enters_of Try.func56 (by kernel_rfl) rfl) rfl rfl (D 12 _ rfl rfl) (D 25 _ rfl rfl)) (cmp_calls _ _ _) rfl fun w3 f => by subst f; exact ⟨hM.1, hM.2.1, hM.2.2⟩
    | 27, ho, hT0, hl, D, DL =>
      obtain rfl := Option.some.inj ho
      obtain rfl := Option.some.inj hT0
      clear ho hT0
      exact val_wp (run_move rfl (E.get 1 rfl)) rfl hM
    | 28, ho, hT0, hl, D, DL =>
      obtain rfl := Option.some.inj ho
      obtain rfl := Option.some.inj hT0
      clear ho hT0
      exact val_wp (run_nilchk rfl (D 27 _ rfl rfl)) rfl hM
    | 29, ho, hT0, hl, D, DL =>
      obtain rfl := Option.some.inj ho
      obtain rfl := Option.some.inj hT0
      clear ho hT0
      exact val_wp (fa71_0 rfl (D 28 _ rfl rfl)) rfl hM
    | 30, ho, hT0, hl, D, DL =>
      obtain rfl := Option.some.inj ho
      obtain rfl := Option.some.inj hT0
      clear ho hT0
      exact val_wp (fa26_0 rfl (D 29 _ rfl rfl)) rfl hM
    | 31, ho, hT0, hl, D, DL =>
      obtain rfl := Option.some.inj ho
      obtain rfl := Option.some.inj hT0
      clear ho hT0
      exact val_wp (fa24_1 rfl (D 30 _ rfl rfl)) rfl hM
    | 32, ho, hT0, hl, D, DL =>
      obtain rfl := Option.some.inj ho
      obtain rfl := Option.some.inj hT0
      clear ho hT0
      exact val_wp (run_ldi rfl (D 31 _ rfl rfl) ((nb.gw hX hM.1) 1 _ rfl)) rfl hM
    | 33, ho, hT0, hl, D, DL =>
      obtain rfl := Option.some.inj ho
      obtain rfl := Option.some.inj hT0
      clear ho hT0
      exact val_wp (run_move rfl (E.get 1 rfl)) rfl hM
    | 34, ho, hT0, hl, D, DL =>
      obtain rfl := Option.some.inj ho
      obtain rfl := Option.some.inj hT0
      clear ho hT0
      exact val_wp (run_nilchk rfl (D 33 _ rfl rfl)) rfl hM
    | 35, ho, hT0, hl, D, DL =>
      obtain rfl := Option.some.inj ho
      obtain rfl := Option.some.inj hT0
      clear ho hT0
      exact val_wp (fa71_0 rfl (D 34 _ rfl rfl)) rfl hM
    | 36, ho, hT0, hl, D, DL =>
      obtain rfl := Option.some.inj ho
      obtain rfl := Option.some.inj hT0
      clear ho hT0
      exact val_wp (fa26_1 rfl (D 35 _ rfl rfl)) rfl hM
    | 37, ho, hT0, hl, D, DL =>
      obtain rfl := Option.some.inj ho
      obtain rfl := Option.some.inj hT0
      clear ho hT0
      exact val_wp (fa24_1 rfl (D 36 _ rfl rfl)) rfl hM
    | 38, ho, hT0, hl, D, DL =>
      obtain rfl := Option.some.inj ho
      obtain rfl := Option.some.inj hT0
      clear ho hT0
      exact val_wp (run_ldi rfl (D 37 _ rfl rfl) ((nb.gw hX hM.1) 3 _ rfl)) rfl hM
    | 39, ho, hT0, hl, D, DL =>
      obtain rfl := Option.some.inj ho
      obtain rfl := Option.some.inj hT0
      clear ho hT0
      exact val_wp (run_iadd Try.underlying3 (D 32 _ rfl rfl) (D 38 _ rfl rfl) (by omega) (by omega) rfl) rfl hM
    | 40, ho, hT0, hl, D, DL =>
      obtain rfl := Option.some.inj ho
      obtain rfl := Option.some.inj hT0
      clear ho hT0
      exact val_wp (run_move rfl (E.get 0 rfl)) rfl hM
    | 41, ho, hT0, hl, D, DL =>
      obtain rfl := Option.some.inj ho
      obtain rfl := Option.some.inj hT0
      clear ho hT0
      exact val_wp (run_nilchk rfl (D 40 _ rfl rfl)) rfl hM
    | 42, ho, hT0, hl, D, DL =>
      obtain rfl := Option.some.inj ho
      obtain rfl := Option.some.inj hT0
      clear ho hT0
      exact val_wp (fa71_0 rfl (D 41 _ rfl rfl)) rfl hM
    | 43, ho, hT0, hl, D, DL =>
      obtain rfl := Option.some.inj ho
      obtain rfl := Option.some.inj hT0
      clear ho hT0
      exact val_wp (fa26_0 rfl (D 42 _ rfl rfl)) rfl hM
    | 44, ho, hT0, hl, D, DL =>
      obtain rfl := Option.some.inj ho
      obtain rfl := Option.some.inj hT0
      clear ho hT0
      exact val_wp (fa24_1 rfl (D 43 _ rfl rfl)) rfl hM
    | 45, ho, hT0, hl, D, DL =>
      obtain rfl := Option.some.inj ho
      obtain rfl := Option.some.inj hT0
      clear ho hT0
      exact val_wp (run_ldi rfl (D 44 _ rfl rfl) ((nb.gw hY hM.1) 1 _ rfl)) rfl hM
    | 46, ho, hT0, hl, D, DL =>
      obtain rfl := Option.some.inj ho
      obtain rfl := Option.some.inj hT0
      clear ho hT0
      exact val_wp (run_move rfl (E.get 0 rfl)) rfl hM
    | 47, ho, hT0, hl, D, DL =>
      obtain rfl := Option.some.inj ho
      obtain rfl := Option.some.inj hT0
      clear ho hT0
      exact val_wp (run_nilchk rfl (D 46 _ rfl rfl)) rfl hM
    | 48, ho, hT0, hl, D, DL =>
      obtain rfl := Option.some.inj ho
      obtain rfl := Option.some.inj hT0
      clear ho hT0
      exact val_wp (fa71_0 rfl (D 47 _ rfl rfl)) rfl hM
    | 49, ho, hT0, hl, D, DL =>
      obtain rfl := Option.some.inj ho
      obtain rfl := Option.some.inj hT0
      clear ho hT0
      exact val_wp (fa26_1 rfl (D 48 _ rfl rfl)) rfl hM
    | 50, ho, hT0, hl, D, DL =>
      obtain rfl := Option.some.inj ho
      obtain rfl := Option.some.inj hT0
      clear ho hT0
      exact val_wp (fa24_1 rfl (D 49 _ rfl rfl)) rfl hM
    | 51, ho, hT0, hl, D, DL =>
      obtain rfl := Option.some.inj ho
      obtain rfl := Option.some.inj hT0
      clear ho hT0
      exact val_wp (run_ldi rfl (D 50 _ rfl rfl) ((nb.gw hY hM.1) 3 _ rfl)) rfl hM
    | 52, ho, hT0, hl, D, DL =>
      obtain rfl := Option.some.inj ho
      obtain rfl := Option.some.inj hT0
      clear ho hT0
      exact val_wp (run_iadd Try.underlying3 (D 45 _ rfl rfl) (D 51 _ rfl rfl) (by omega) (by omega) rfl) rfl hM
    | 53, ho, hT0, hl, D, DL =>
      obtain rfl := Option.some.inj ho
      obtain rfl := Option.some.inj hT0
      clear ho hT0
      exact call_wp (F := fun w' => w2 = w') (run_call2 (enters_of Try.func56 (by kernel_rfl) rfl) rfl rfl (D 39 _ rfl rfl) (D 52 _ rfl rfl)) (cmp_calls _ _ _) rfl fun w3 f => by subst f; exact ⟨hM.1, hM.2.1, hM.2.2⟩
    | 54, ho, hT0, hl, D, DL =>
      obtain rfl := Option.some.inj ho
      obtain rfl := Option.some.inj hT0
      clear ho hT0
      exact val_wpw ((run_two87 rfl (D 26 _ rfl rfl) (D 53 _ rfl rfl)).trans (by rw [hM.2.1 hl])) rfl ⟨hM.1.alloc _, fun h => (by simp at h), fun _ => blk_alloc_at (hM.2.1 hl).symm _⟩
    | 55, ho, hT0, hl, D, DL =>
      obtain rfl := Option.some.inj ho
      obtain rfl := Option.some.inj hT0
      clear ho hT0
      have hd := DL 54 rfl
      have hb := hM.2.2 hd
      exact call_wp (F := fun w' => w2 = w') (run_call1 (enters_of Try.func55 (by kernel_rfl) rfl) rfl rfl (D 54 _ rfl rfl)) (or_calls (cmpI ((x.1.1) + (x.2.1)) ((y.1.1) + (y.2.1))) (cmpI ((x.1.2) + (x.2.2)) ((y.1.2) + (y.2.2))) G w2 (by rw [cell_of_blk hb]; rfl) (by rw [cell_of_blk hb]; rfl)) rfl fun w3 f => by subst f; exact ⟨hM.1, hM.2.1, hM.2.2⟩
    | 56, ho, hT0, hl, D, DL =>
      obtain rfl := Option.some.inj ho
      obtain rfl := Option.some.inj hT0
      clear ho hT0
      exact val_wp (run_assign rfl (D 55 _ rfl rfl)) rfl hM
    | i + 57, ho, hT0, hl, D, DL => exact absurd hT0 (by simp)
  · intro a w2 E V hM
    refine then_n ?_
    refine wp_ret ?_
    exact ret_tmp (E := ⟨E.size, AllAt.mem (L := []) trivial, E.df⟩) (t := 4) rfl (V 56 _ rfl) ⟨rfl, hM.1⟩

set_option maxRecDepth 100000 in
set_option maxHeartbeats 4000000 in
theorem cmpB_calls {p q : Nat} {x y : Bx} {w : World} (hX : nb w p x) (hY : nb w q y) (hx : okB x) (hy : okB y) : Calls Try.prog 58 #[.pointer (some ⟨p, 0, none⟩), .pointer (some ⟨q, 0, none⟩)] w fun e w' => e = .returned (.int .i64 (cfB x y)) ∧ Gw w w' := by
  obtain ⟨⟨⟨x1, x2⟩, x3, x4⟩, ⟨⟨x5, x6⟩, x7, x8⟩, x9, x10⟩ := hx
  obtain ⟨⟨⟨y1, y2⟩, y3, y4⟩, ⟨⟨y5, y6⟩, y7, y8⟩, y9, y10⟩ := hy
  refine wp_start2 Try.func58 rfl rfl (n := 32) (by decide) fun a E => ?_
  refine wp_seq ?_
  refine wp_region_lit ?_
  refine env_put (d := 4) (v := .int .i64 0) E rfl (by decide) rfl (wanted_none rfl _) (run_assign rfl rfl) fun a E => ?_
  refine wpList_nil ?_
  refine then_n ?_
  refine wp_seq ?_
  refine wp_region_inv (n := 32) (base := [(1, .pointer (some ⟨q, 0, none⟩)), (0, .pointer (some ⟨p, 0, none⟩))]) (T := [some (5, .pointer (some ⟨p, 0, none⟩)), some (6, .pointer (some ⟨p, 0, none⟩)), some (7, .pointer (some ⟨p, 0, none⟩)), some (8, .pointer (some ⟨p, 0, none⟩)), some (9, .pointer (some ⟨p, 1, none⟩)), some (10, .int .i64 (x.1.2)), some (11, .pointer (some ⟨p, 0, none⟩)), some (12, .pointer (some ⟨p, 0, none⟩)), some (13, .pointer (some ⟨p, 0, none⟩)), some (14, .pointer (some ⟨p, 2, none⟩)), some (15, .pointer (some ⟨p, 3, none⟩)), some (16, .int .i64 (x.2.2)), some (17, .int .i64 ((x.1.2) + (x.2.2))), some (18, .pointer (some ⟨q, 0, none⟩)), some (19, .pointer (some ⟨q, 0, none⟩)), some (20, .pointer (some ⟨q, 0, none⟩)), some (21, .pointer (some ⟨q, 0, none⟩)), some (22, .pointer (some ⟨q, 1, none⟩)), some (23, .int .i64 (y.1.2)), some (24, .pointer (some ⟨q, 0, none⟩)), some (25, .pointer (some ⟨q, 0, none⟩)), some (26, .pointer (some ⟨q, 0, none⟩)), some (27, .pointer (some ⟨q, 2, none⟩)), some (28, .pointer (some ⟨q, 3, none⟩)), some (29, .int .i64 (y.2.2)), some (30, .int .i64 ((y.1.2) + (y.2.2))), some (31, .int .i64 (cmpI ((x.1.2) + (x.2.2)) ((y.1.2) + (y.2.2)))), some (4, .int .i64 (cmpI ((x.1.2) + (x.2.2)) ((y.1.2) + (y.2.2))))]) (M := fun _ w' => Gw w w' ∧ True) (by kernel_rfl) (by kernel_rfl) (by kernel_rfl) (E.of ⟨E.get 2 rfl, E.get 1 rfl, trivial⟩) ⟨(Gw.refl w).drew, trivial⟩ ?_ ?_
  · intro i o tt lst a w2 ho hT0 hl E D DL hM
    match i, ho, hT0, hl, D, DL with
    | 0, ho, hT0, hl, D, DL =>
      obtain rfl := Option.some.inj ho
      obtain rfl := Option.some.inj hT0
      clear ho hT0
      exact val_wp (run_move rfl (E.get 1 rfl)) rfl hM
    | 1, ho, hT0, hl, D, DL =>
      obtain rfl := Option.some.inj ho
      obtain rfl := Option.some.inj hT0
      clear ho hT0
      exact val_wp (run_nilchk rfl (D 0 _ rfl rfl)) rfl hM
    | 2, ho, hT0, hl, D, DL =>
      obtain rfl := Option.some.inj ho
      obtain rfl := Option.some.inj hT0
      clear ho hT0
      exact val_wp (fa71_0 rfl (D 1 _ rfl rfl)) rfl hM
    | 3, ho, hT0, hl, D, DL =>
      obtain rfl := Option.some.inj ho
      obtain rfl := Option.some.inj hT0
      clear ho hT0
      exact val_wp (fa26_0 rfl (D 2 _ rfl rfl)) rfl hM
    | 4, ho, hT0, hl, D, DL =>
      obtain rfl := Option.some.inj ho
      obtain rfl := Option.some.inj hT0
      clear ho hT0
      exact val_wp (fa24_1 rfl (D 3 _ rfl rfl)) rfl hM
    | 5, ho, hT0, hl, D, DL =>
      obtain rfl := Option.some.inj ho
      obtain rfl := Option.some.inj hT0
      clear ho hT0
      exact val_wp (run_ldi rfl (D 4 _ rfl rfl) ((nb.gw hX hM.1) 1 _ rfl)) rfl hM
    | 6, ho, hT0, hl, D, DL =>
      obtain rfl := Option.some.inj ho
      obtain rfl := Option.some.inj hT0
      clear ho hT0
      exact val_wp (run_move rfl (E.get 1 rfl)) rfl hM
    | 7, ho, hT0, hl, D, DL =>
      obtain rfl := Option.some.inj ho
      obtain rfl := Option.some.inj hT0
      clear ho hT0
      exact val_wp (run_nilchk rfl (D 6 _ rfl rfl)) rfl hM
    | 8, ho, hT0, hl, D, DL =>
      obtain rfl := Option.some.inj ho
      obtain rfl := Option.some.inj hT0
      clear ho hT0
      exact val_wp (fa71_0 rfl (D 7 _ rfl rfl)) rfl hM
    | 9, ho, hT0, hl, D, DL =>
      obtain rfl := Option.some.inj ho
      obtain rfl := Option.some.inj hT0
      clear ho hT0
      exact val_wp (fa26_1 rfl (D 8 _ rfl rfl)) rfl hM
    | 10, ho, hT0, hl, D, DL =>
      obtain rfl := Option.some.inj ho
      obtain rfl := Option.some.inj hT0
      clear ho hT0
      exact val_wp (fa24_1 rfl (D 9 _ rfl rfl)) rfl hM
    | 11, ho, hT0, hl, D, DL =>
      obtain rfl := Option.some.inj ho
      obtain rfl := Option.some.inj hT0
      clear ho hT0
      exact val_wp (run_ldi rfl (D 10 _ rfl rfl) ((nb.gw hX hM.1) 3 _ rfl)) rfl hM
    | 12, ho, hT0, hl, D, DL =>
      obtain rfl := Option.some.inj ho
      obtain rfl := Option.some.inj hT0
      clear ho hT0
      exact val_wp (run_iadd Try.underlying3 (D 5 _ rfl rfl) (D 11 _ rfl rfl) (by omega) (by omega) rfl) rfl hM
    | 13, ho, hT0, hl, D, DL =>
      obtain rfl := Option.some.inj ho
      obtain rfl := Option.some.inj hT0
      clear ho hT0
      exact val_wp (run_move rfl (E.get 0 rfl)) rfl hM
    | 14, ho, hT0, hl, D, DL =>
      obtain rfl := Option.some.inj ho
      obtain rfl := Option.some.inj hT0
      clear ho hT0
      exact val_wp (run_nilchk rfl (D 13 _ rfl rfl)) rfl hM
    | 15, ho, hT0, hl, D, DL =>
      obtain rfl := Option.some.inj ho
      obtain rfl := Option.some.inj hT0
      clear ho hT0
      exact val_wp (fa71_0 rfl (D 14 _ rfl rfl)) rfl hM
    | 16, ho, hT0, hl, D, DL =>
      obtain rfl := Option.some.inj ho
      obtain rfl := Option.some.inj hT0
      clear ho hT0
      exact val_wp (fa26_0 rfl (D 15 _ rfl rfl)) rfl hM
    | 17, ho, hT0, hl, D, DL =>
      obtain rfl := Option.some.inj ho
      obtain rfl := Option.some.inj hT0
      clear ho hT0
      exact val_wp (fa24_1 rfl (D 16 _ rfl rfl)) rfl hM
    | 18, ho, hT0, hl, D, DL =>
      obtain rfl := Option.some.inj ho
      obtain rfl := Option.some.inj hT0
      clear ho hT0
      exact val_wp (run_ldi rfl (D 17 _ rfl rfl) ((nb.gw hY hM.1) 1 _ rfl)) rfl hM
    | 19, ho, hT0, hl, D, DL =>
      obtain rfl := Option.some.inj ho
      obtain rfl := Option.some.inj hT0
      clear ho hT0
      exact val_wp (run_move rfl (E.get 0 rfl)) rfl hM
    | 20, ho, hT0, hl, D, DL =>
      obtain rfl := Option.some.inj ho
      obtain rfl := Option.some.inj hT0
      clear ho hT0
      exact val_wp (run_nilchk rfl (D 19 _ rfl rfl)) rfl hM
    | 21, ho, hT0, hl, D, DL =>
      obtain rfl := Option.some.inj ho
      obtain rfl := Option.some.inj hT0
      clear ho hT0
      exact val_wp (fa71_0 rfl (D 20 _ rfl rfl)) rfl hM
    | 22, ho, hT0, hl, D, DL =>
      obtain rfl := Option.some.inj ho
      obtain rfl := Option.some.inj hT0
      clear ho hT0
      exact val_wp (fa26_1 rfl (D 21 _ rfl rfl)) rfl hM
    | 23, ho, hT0, hl, D, DL =>
      obtain rfl := Option.some.inj ho
      obtain rfl := Option.some.inj hT0
      clear ho hT0
      exact val_wp (fa24_1 rfl (D 22 _ rfl rfl)) rfl hM
    | 24, ho, hT0, hl, D, DL =>
      obtain rfl := Option.some.inj ho
      obtain rfl := Option.some.inj hT0
      clear ho hT0
      exact val_wp (run_ldi rfl (D 23 _ rfl rfl) ((nb.gw hY hM.1) 3 _ rfl)) rfl hM
    | 25, ho, hT0, hl, D, DL =>
      obtain rfl := Option.some.inj ho
      obtain rfl := Option.some.inj hT0
      clear ho hT0
      exact val_wp (run_iadd Try.underlying3 (D 18 _ rfl rfl) (D 24 _ rfl rfl) (by omega) (by omega) rfl) rfl hM
    | 26, ho, hT0, hl, D, DL =>
      obtain rfl := Option.some.inj ho
      obtain rfl := Option.some.inj hT0
      clear ho hT0
      exact call_wp (F := fun w' => w2 = w') (run_call2 (enters_of Try.func56 (by kernel_rfl) rfl) rfl rfl (D 12 _ rfl rfl) (D 25 _ rfl rfl)) (cmp_calls _ _ _) rfl fun w3 f => by subst f; exact ⟨hM.1, trivial⟩
    | 27, ho, hT0, hl, D, DL =>
      obtain rfl := Option.some.inj ho
      obtain rfl := Option.some.inj hT0
      clear ho hT0
      exact val_wp (run_assign rfl (D 26 _ rfl rfl)) rfl hM
    | i + 28, ho, hT0, hl, D, DL => exact absurd hT0 (by simp)
  · intro a w2 E V hM
    refine then_n ?_
    refine wp_ret ?_
    exact ret_tmp (E := ⟨E.size, AllAt.mem (L := []) trivial, E.df⟩) (t := 4) rfl (V 27 _ rfl) ⟨rfl, hM.1⟩
end Go.Proofs.Ytcafnanbdmapgaa
