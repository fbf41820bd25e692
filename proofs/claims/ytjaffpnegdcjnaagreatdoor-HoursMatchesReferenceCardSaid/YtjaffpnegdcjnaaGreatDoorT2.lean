/- Part 2 of the proof: the texts A1, A2, Lib, A3, A4, Ow, A5, Rn, B1, Srt0, Sr, B2, B3, Pe, Pf, Pg, B4. -/
import Derived.Test.YtjaffpnegdcjnaaGreatDoorT1
import Derived.Shelf.Strings.Builder1
import Derived.Shelf.Strings.Builder2
import Derived.Shelf.Strings.OnBuilder
import Derived.Shelf.Small.Bits
import Derived.Shelf.Small.Strs
import Derived.Shelf.Small.Wraps
import Derived.Shelf.Strconv.Atoi
import Derived.Shelf.Strconv.Itoa0
import Derived.Shelf.Strconv.Itoa1
import Derived.Shelf.LaysM
import Derived.Shelf.Strconv.Itoa2
import Derived.Shelf.Strconv.Itoa3
import Derived.Shelf.Strings.Search1
import Derived.Shelf.Strings.Fields
import Derived.Shelf.Unicode.Latin
import Derived.Shelf.Unicode.Is16White
import Derived.Shelf.Unicode.IsSpaceAny
import Derived.Shelf.Unicode.Is16Any
import Derived.Shelf.Unicode.Is32Any
import Derived.Shelf.Unicode.ExclAny
import Derived.Shelf.Slices.Turned
import Derived.Test.YtjaffpnegdcjnaaGreatDoorProg
import Derived.Laws.MakeOwn
import Derived.RangeFuncNested
import Derived.TacticsIn
import Derived.OrdersIn
import Derived.Shelf.SlSortCmp.NoneTotal
import Derived.Ground.SlsfProg
import Derived.Shelf.SlGeneric
import Derived.Lib.AppendZerosOnto
/- Valid, few, Same. -/
set_option linter.unusedVariables false
set_option linter.unusedSimpArgs false
namespace Go.Proofs.YtjaffpnegdcjnaaGreatDoor
open Go.RowKit Go.Pl
theorem vl_go {l : List Sp} {i : Nat} {y : Sp} (hy : l[i]? = some y) {lo : Int} : vl lo (l.drop i) = (decide (lo < y.1) && decide (y.1 < y.2) && decide (y.2 ≤ 10080) && vl y.2 (l.drop (i + 1))) := by
 have hi := (List.getElem?_eq_some_iff.1 hy).1
 rw [List.drop_eq_getElem_cons hi, (List.getElem?_eq_some_iff.1 hy).2]; rfl
set_option maxRecDepth 100000 in
set_option maxHeartbeats 4000000 in
theorem valid_calls {w : World} {v : Value} {l : List Sp} (hl : SpV w v l) : Calls Tryz.prog 18 #[v] w fun e w' => e = .returned (.bool (vl (-1) l)) ∧ Fr (fun _ => False) w w' := by
 obtain ⟨p0, cp0, hvp0, hlep0, hcapp0, hsp0, hzp0⟩ := hl
 subst hvp0
 refine wp_start1 Tryz.func18 rfl rfl (n := 31) (by decide) fun a E => ?_
 have hf : Fr (fun _ => False) w w := Fr.refl _ _
 refine s_ (r_ (ep (v := .bool false) E rfl (a_ rfl rfl) fun a E => n_ (t_ (s_ (r_ (ep (v := .int .i64 (-1)) E rfl (a_ rfl rfl) fun a E => n_ (t_ (s_ (s_ (r_ (ep E rfl (m_ rfl E.g2) fun a E => ep (v := .int .i64 (l.length : Int)) E rfl (run_len22 rfl E.g0) fun a E => ep (v := .int .i64 0) E rfl (m_ rfl rfl) fun a E => n_ (t_ (bk_ (wp_loop (fun a w2 => ∃ (i : Nat) (lo : Int), Env 31 [(8, .int .i64 (i : Int)), (7, .int .i64 (l.length : Int)), (6, .slice (p0) l.length cp0), (3, .int .i64 lo)] a ∧ i ≤ l.length ∧ vl (-1) l = vl lo (l.drop i) ∧ srcAt spL 2 w2 w.heap.size p0 l ∧ Fr (fun _ => False) w w2) (fun a _ => l.length - (intOf (a.eval (.tmp 8))).toNat) ?_ ?_))))))))))))))
 ·exact ⟨0, -1, E.of ⟨E.g0, E.g1, E.g2, E.g3, trivial⟩, Nat.zero_le _, rfl, hsp0, hf⟩
 clear E
 rintro a w2 ⟨i, lo, E, hi, hv, hsp0, hf⟩
 have hmu : l.length - (intOf (a.eval (.tmp 8))).toNat = l.length - i := by rw [E.g0]; first | rfl | (simp [intOf]; done) | (simp only [intOf]; omega)
 rw [hmu]
 clear hmu
 refine s_ (r_ (ep (v := .bool (decide ((i : Int) < (l.length : Int)))) E rfl (run_ilss E.g0 E.g1 Tryz.underlying3 rfl) fun a E => n_ (t_ (s_ ?_))))
 cases hq2 : (decide ((i : Int) < (l.length : Int))) with
 | false =>
  rw [hq2] at E
  have hie : i = l.length := by have := of_decide_eq_false hq2; omega
  refine c_f E.g0 (x_ (te_ (te_ (be_ (t_ (s_ (r_ (ep (v := .bool true) E rfl (a_ rfl rfl) fun a E => n_ (t_ (wr_ (ret_tmp (t := 2) rfl E E.g0 ⟨?_, hf⟩)))))))))))
  rw [hv, hie, List.drop_length]; rfl
 | true =>
  rw [hq2] at E
  have hlt : i < l.length := by have := of_decide_eq_true hq2; omega
  obtain ⟨y, hy⟩ : ∃ y, l[i]? = some y := ⟨_, List.getElem?_eq_getElem hlt⟩
  obtain ⟨g3, off3, hpe3, hgl3, hrow3⟩ := hsp0.at hlt
  replace hrow3 := hrow3 i y hy
  refine c_t E.g0 (k_ (t_ (s_ (bk_ (s_ (r_ (ep (v := .pointer (some ⟨g3, (off3 + i * 2), none⟩)) E rfl (run_index22 (i := i) rfl (E.g3.trans (by rw [hpe3])) E.g1 hlt) fun a E => ep (v := .agg (spA y)) E rfl (run_ld48 rfl E.g0 hrow3) fun a E => env_new (d := 5) E rfl (by decide) rfl (wanted_none rfl _) (run_alloc48 rfl) fun a w1 b4 eb4 hb4 f1 E => ?_)))))))
  have hnb4 : w.heap.size ≤ b4 := by have := hf.size; omega
  have hsp0 := srcAt.fr hsp0 f1 (fun r hr => id)
  have hrow3 := fun j u hu => f1.cell (hrow3 j u hu) id
  have hf := hf.trans f1
  clear f1
  refine env_st48 E rfl (wanted_none rfl _) rfl E.g0 E.g1 hb4 fun w1 hb4n f1 E => ?_
  have hsp0 := srcAt.fr hsp0 f1 (fun _ hr => nq_)
  have hrow3 := fun j u hu => f1.cell (hrow3 j u hu) nq_
  have hf := hf.trans' f1 (fun _ hr => nq_)
  clear f1
  replace hb4 := hb4n
  refine n_ (t_ (s_ (s_ (r_ (ep (v := .pointer (some ⟨b4, 0, none⟩)) E rfl (fa48_0 rfl E.g0) fun a E => ep (v := .int .i64 y.1) E rfl (run_ldi rfl E.g0 (bx hb4 0 rfl)) fun a E => ep E rfl (m_ rfl E.g9) fun a E => ep (v := .bool (decide (y.1 ≤ lo))) E rfl (run_ileq E.g1 E.g0 Tryz.underlying3 rfl) fun a E => ep E rfl (m_ rfl E.g0) fun a E => ?_)))))
  cases hq5 : (decide (y.1 ≤ lo)) with
  | false =>
   rw [hq5] at E
   refine eg (v := .pointer (some ⟨b4, 0, none⟩)) E rfl (wy_ E E.g0) (fa48_0 rfl E.g5) fun a E => eg (v := .int .i64 y.1) E rfl (wy_ E E.g1) (run_ldi rfl E.g0 (bx hb4 0 rfl)) fun a E => eg (v := .pointer (some ⟨b4, 1, none⟩)) E rfl (wy_ E E.g2) (fa48_1 rfl E.g7) fun a E => eg (v := .int .i64 y.2) E rfl (wy_ E E.g3) (run_ldi rfl E.g0 (bx hb4 1 rfl)) fun a E => eg (v := .bool (decide (y.2 ≤ y.1))) E rfl (wy_ E E.g4) (run_igeq E.g2 E.g0 Tryz.underlying3 rfl) fun a E => ep (v := .bool (decide (y.2 ≤ y.1))) E rfl (run_pick_f rfl E.g5 E.g0) fun a E => ep E rfl (m_ rfl E.g0) fun a E => ?_
   cases hq6 : (decide (y.2 ≤ y.1)) with
   | false =>
    rw [hq6] at E
    refine eg (v := .pointer (some ⟨b4, 1, none⟩)) E rfl (wy_ E E.g0) (fa48_1 rfl E.g12) fun a E => eg (v := .int .i64 y.2) E rfl (wy_ E E.g1) (run_ldi rfl E.g0 (bx hb4 1 rfl)) fun a E => eg (v := .bool (decide (10080 < y.2))) E rfl (wy_ E E.g2) (run_igtr E.g0 rfl Tryz.underlying3 rfl) fun a E => ep (v := .bool (decide (10080 < y.2))) E rfl (run_pick_f rfl E.g3 E.g0) fun a E => n_ (t_ ?_)
    cases hq7 : (decide (10080 < y.2)) with
    | false =>
     rw [hq7] at E
     refine c_f E.g0 (k_ (t_ (r_ (ep (v := .pointer (some ⟨b4, 1, none⟩)) E rfl (fa48_1 rfl E.g16) fun a E => ep (v := .int .i64 y.2) E rfl (run_ldi rfl E.g0 (bx hb4 1 rfl)) fun a E => es_ E rfl (a_ rfl E.g0) fun a E => n_ (b_ (t_ (r_ (ep (v := .int .i64 ((i : Int) + 1)) E rfl (run_iadd Tryz.underlying3 E.g23 rfl (by omega) (by omega) rfl) fun a E => es_ E rfl (m_ rfl E.g0) fun a E => n_ (t_ ?_)))))))))
     have qhq2 := of_decide_eq_true hq2
     have qhq5 := of_decide_eq_false hq5
     have qhq6 := of_decide_eq_false hq6
     have qhq7 := of_decide_eq_false hq7
     refine ⟨⟨i + 1, y.2, E.of ⟨E.g0, E.g25, E.g26, E.g2, trivial⟩, hlt, ?_, hsp0, hf⟩, ?_⟩
     ·rw [hv, vl_go hy, decide_eq_true (show lo < y.1 by omega), decide_eq_true (show y.1 < y.2 by omega), decide_eq_true (show y.2 ≤ 10080 by omega)]; rfl
     ·rw [E.g0]; simp only [intOf]; omega
    | true =>
     rw [hq7] at E
     refine c_t E.g0 (s_ (r_ (ep (v := .bool false) E rfl (a_ rfl rfl) fun a E => n_ (t_ (wr_ (tr_ (br_ (tr_ (tr_ (br_ (tr_ (ret_tmp (t := 2) rfl E E.g0 ⟨?_, hf⟩))))))))))))
     have qhq2 := of_decide_eq_true hq2
     have qhq5 := of_decide_eq_false hq5
     have qhq6 := of_decide_eq_false hq6
     have qhq7 := of_decide_eq_true hq7
     rw [hv, vl_go hy]
     have h9 : (decide (lo < y.1) && decide (y.1 < y.2) && decide (y.2 ≤ 10080)) = false := by
      rw [Bool.eq_false_iff]; intro h
      simp only [Bool.and_eq_true, decide_eq_true_eq] at h; omega
     rw [h9]; rfl
   | true =>
    rw [hq6] at E
    refine ek E rfl rfl E.g0 fun a E => ek E rfl rfl E.g1 fun a E => ek E rfl rfl E.g2 fun a E => ep (v := .bool true) E rfl (run_pick_t rfl E.g3 rfl) fun a E => n_ (t_ (c_t E.g0 (s_ (r_ (ep (v := .bool false) E rfl (a_ rfl rfl) fun a E => n_ (t_ (wr_ (tr_ (br_ (tr_ (tr_ (br_ (tr_ (ret_tmp (t := 2) rfl E E.g0 ⟨?_, hf⟩))))))))))))))
    have qhq2 := of_decide_eq_true hq2
    have qhq5 := of_decide_eq_false hq5
    have qhq6 := of_decide_eq_true hq6
    rw [hv, vl_go hy]
    have h9 : (decide (lo < y.1) && decide (y.1 < y.2) && decide (y.2 ≤ 10080)) = false := by
     rw [Bool.eq_false_iff]; intro h
     simp only [Bool.and_eq_true, decide_eq_true_eq] at h; omega
    rw [h9]; rfl
  | true =>
   rw [hq5] at E
   refine ek E rfl rfl E.g0 fun a E => ek E rfl rfl E.g1 fun a E => ek E rfl rfl E.g2 fun a E => ek E rfl rfl E.g3 fun a E => ek E rfl rfl E.g4 fun a E => ep (v := .bool true) E rfl (run_pick_t rfl E.g5 rfl) fun a E => ep E rfl (m_ rfl E.g0) fun a E => ek E rfl rfl E.g0 fun a E => ek E rfl rfl E.g1 fun a E => ek E rfl rfl E.g2 fun a E => ep (v := .bool true) E rfl (run_pick_t rfl E.g3 rfl) fun a E => n_ (t_ (c_t E.g0 (s_ (r_ (ep (v := .bool false) E rfl (a_ rfl rfl) fun a E => n_ (t_ (wr_ (tr_ (br_ (tr_ (tr_ (br_ (tr_ (ret_tmp (t := 2) rfl E E.g0 ⟨?_, hf⟩))))))))))))))
   have qhq2 := of_decide_eq_true hq2
   have qhq5 := of_decide_eq_true hq5
   rw [hv, vl_go hy]
   have h9 : (decide (lo < y.1) && decide (y.1 < y.2) && decide (y.2 ≤ 10080)) = false := by
    rw [Bool.eq_false_iff]; intro h
    simp only [Bool.and_eq_true, decide_eq_true_eq] at h; omega
   rw [h9]; rfl
/-- A slice in a cell. -/
abbrev Slv := Option Addr × Nat × Nat
def slL (x : Slv) : List Value := [.slice x.1 x.2.1 x.2.2]
abbrev SlV := Src slL 1
def fewB (l : List Slv) : Bool := l.all fun x => decide (x.2.1 ≤ 150)
theorem few_go {l : List Slv} {i : Nat} {y : Slv} (hy : l[i]? = some y) : fewB (l.drop i) = (decide (y.2.1 ≤ 150) && fewB (l.drop (i + 1))) := by
 have hi := (List.getElem?_eq_some_iff.1 hy).1
 rw [List.drop_eq_getElem_cons hi, (List.getElem?_eq_some_iff.1 hy).2]; rfl
set_option maxRecDepth 100000 in
set_option maxHeartbeats 4000000 in
theorem few_calls {w : World} {v : Value} {l : List Slv} (hl : SlV w v l) : Calls Tryz.prog 12 #[v] w fun e w' => e = .returned (.bool (fewB l)) ∧ Fr (fun _ => False) w w' := by
 obtain ⟨p0, cp0, hvp0, hlep0, hcapp0, hsp0, hzp0⟩ := hl
 subst hvp0
 refine wp_start1 Tryz.func12 rfl rfl (n := 16) (by decide) fun a E => ?_
 have hf : Fr (fun _ => False) w w := Fr.refl _ _
 refine s_ (r_ (ep (v := .bool false) E rfl (a_ rfl rfl) fun a E => n_ (t_ (s_ (s_ (r_ (ep (v := .int .i64 0) E rfl (a_ rfl rfl) fun a E => n_ (t_ (bk_ (wp_loop (fun a w2 => ∃ (i : Nat), Env 16 [(3, .int .i64 (i : Int)), (0, .slice (p0) l.length cp0)] a ∧ i ≤ l.length ∧ fewB l = fewB (l.drop i) ∧ srcAt slL 1 w2 w.heap.size p0 l ∧ Fr (fun _ => False) w w2) (fun a _ => l.length - (intOf (a.eval (.tmp 3))).toNat) ?_ ?_))))))))))
 ·exact ⟨0, E.of ⟨E.g0, E.g2, trivial⟩, Nat.zero_le _, rfl, hsp0, hf⟩
 clear E
 rintro a w2 ⟨i, E, hi, hv, hsp0, hf⟩
 have hmu : l.length - (intOf (a.eval (.tmp 3))).toNat = l.length - i := by rw [E.g0]; first | rfl | (simp [intOf]; done) | (simp only [intOf]; omega)
 rw [hmu]
 clear hmu
 refine s_ (s_ (r_ (ep E rfl (m_ rfl E.g0) fun a E => ep E rfl (m_ rfl E.g2) fun a E => ep (v := .int .i64 (l.length : Int)) E rfl (run_len52 rfl E.g0) fun a E => ep (v := .bool (decide ((i : Int) < (l.length : Int)))) E rfl (run_ilss E.g2 E.g0 Tryz.underlying3 rfl) fun a E => n_ (t_ ?_))))
 cases hq9 : (decide ((i : Int) < (l.length : Int))) with
 | false =>
  rw [hq9] at E
  have hie : i = l.length := by have := of_decide_eq_false hq9; omega
  refine c_f E.g0 (x_ (te_ (te_ (be_ (t_ (s_ (r_ (ep (v := .bool true) E rfl (a_ rfl rfl) fun a E => n_ (t_ (wr_ (ret_tmp (t := 2) rfl E E.g0 ⟨?_, hf⟩)))))))))))
  rw [hv, hie, List.drop_length]; rfl
 | true =>
  rw [hq9] at E
  have hlt : i < l.length := by have := of_decide_eq_true hq9; omega
  obtain ⟨y, hy⟩ : ∃ y, l[i]? = some y := ⟨_, List.getElem?_eq_getElem hlt⟩
  obtain ⟨g10, off10, hpe10, hgl10, hrow10⟩ := hsp0.at hlt
  replace hrow10 := hrow10 i y hy
  refine c_t E.g0 (k_ (t_ (s_ (bk_ (s_ (r_ (ep E rfl (m_ rfl E.g5) fun a E => ep E rfl (m_ rfl E.g5) fun a E => ep (v := .pointer (some ⟨g10, (off10 + i), none⟩)) E rfl (run_index52 (i := i) rfl (E.g1.trans (by rw [hpe10])) E.g0 hlt) fun a E => ep (v := .slice (y.1) y.2.1 y.2.2) E rfl (run_ld22 rfl E.g0 (by have := hrow10 0 _ rfl; rwa [Nat.mul_one] at this)) fun a E => ep (v := .int .i64 (y.2.1 : Int)) E rfl (run_len22 rfl E.g0) fun a E => ep (v := .bool (decide (150 < (y.2.1 : Int)))) E rfl (run_igtr E.g0 rfl Tryz.underlying3 rfl) fun a E => n_ (t_ ?_))))))))
  cases hq11 : (decide (150 < (y.2.1 : Int))) with
  | false =>
   rw [hq11] at E
   refine c_f E.g0 (k_ (b_ (t_ (r_ (ep E rfl (m_ rfl E.g10) fun a E => ep (v := .int .i64 ((i : Int) + 1)) E rfl (run_iadd Tryz.underlying3 E.g0 rfl (by omega) (by omega) rfl) fun a E => es_ E rfl (a_ rfl E.g0) fun a E => n_ (t_ ?_))))))
   have qhq9 := of_decide_eq_true hq9
   have qhq11 := of_decide_eq_false hq11
   refine ⟨⟨i + 1, E.of ⟨E.g0, E.g13, trivial⟩, hlt, ?_, hsp0, hf⟩, ?_⟩
   ·rw [hv, few_go hy, decide_eq_true (show y.2.1 ≤ 150 by omega)]; rfl
   ·rw [E.g0]; simp only [intOf]; omega
  | true =>
   rw [hq11] at E
   refine c_t E.g0 (s_ (r_ (ep (v := .bool false) E rfl (a_ rfl rfl) fun a E => n_ (t_ (wr_ (br_ (tr_ (tr_ (br_ (tr_ (ret_tmp (t := 2) rfl E E.g0 ⟨?_, hf⟩)))))))))))
   have qhq9 := of_decide_eq_true hq9
   have qhq11 := of_decide_eq_true hq11
   rw [hv, few_go hy, decide_eq_false (show ¬ y.2.1 ≤ 150 by omega)]; rfl
theorem same_go {l m : List Sp} {i : Nat} {y z : Sp} (hy : l[i]? = some y) (hz : m[i]? = some z) : (l.drop i == m.drop i) = ((y == z) && (l.drop (i + 1) == m.drop (i + 1))) := by
 have hi := (List.getElem?_eq_some_iff.1 hy).1
 have hj := (List.getElem?_eq_some_iff.1 hz).1
 rw [List.drop_eq_getElem_cons hi, (List.getElem?_eq_some_iff.1 hy).2, List.drop_eq_getElem_cons hj, (List.getElem?_eq_some_iff.1 hz).2]; rfl
set_option maxRecDepth 100000 in
set_option maxHeartbeats 4000000 in
theorem same_calls {w : World} {v u : Value} {l m : List Sp} (hl : SpV w v l) (hm : SpV w u m) : Calls Tryz.prog 17 #[v, u] w fun e w' => e = .returned (.bool (l == m)) ∧ Fr (fun _ => False) w w' := by
 obtain ⟨p0, cp0, hvp0, hlep0, hcapp0, hsp0, hzp0⟩ := hl
 subst hvp0
 obtain ⟨p1, cp1, hvp1, hlep1, hcapp1, hsp1, hzp1⟩ := hm
 subst hvp1
 refine wp_start2 Tryz.func17 rfl rfl (n := 26) (by decide) fun a E => ?_
 have hf : Fr (fun _ => False) w w := Fr.refl _ _
 refine s_ (r_ (ep (v := .bool false) E rfl (a_ rfl rfl) fun a E => n_ (t_ (s_ (s_ (r_ (ep E rfl (m_ rfl E.g1) fun a E => ep (v := .int .i64 (l.length : Int)) E rfl (run_len22 rfl E.g0) fun a E => ep E rfl (m_ rfl E.g4) fun a E => ep (v := .int .i64 (m.length : Int)) E rfl (run_len22 rfl E.g0) fun a E => ep (v := .bool ((l.length : Int) != (m.length : Int))) E rfl (run_ineq E.g2 E.g0 Tryz.underlying3 rfl) fun a E => n_ (t_ ?_))))))))
 cases hq12 : ((l.length : Int) != (m.length : Int)) with
 | false =>
  rw [hq12] at E
  refine c_f E.g0 (k_ (t_ (s_ (s_ (r_ (ep (v := .int .i64 0) E rfl (a_ rfl rfl) fun a E => n_ (t_ (bk_ ?_))))))))
  have hlm : l.length = m.length := by simp only [bne_eq_false_iff_eq] at hq12; omega
  refine wp_loop (fun a w2 => ∃ (i : Nat), Env 26 [(5, .int .i64 (i : Int)), (0, .slice (p0) l.length cp0), (1, .slice (p1) m.length cp1)] a ∧ i ≤ l.length ∧ (l == m) = (l.drop i == m.drop i) ∧ srcAt spL 2 w2 w.heap.size p0 l ∧ srcAt spL 2 w2 w.heap.size p1 m ∧ Fr (fun _ => False) w w2) (fun a _ => l.length - (intOf (a.eval (.tmp 5))).toNat) ?_ ?_
  ·exact ⟨0, E.of ⟨E.g0, E.g7, E.g8, trivial⟩, Nat.zero_le _, rfl, hsp0, hsp1, hf⟩
  clear E
  rintro a w2 ⟨i, E, hi, hv, hsp0, hsp1, hf⟩
  have hmu : l.length - (intOf (a.eval (.tmp 5))).toNat = l.length - i := by rw [E.g0]; first | rfl | (simp [intOf]; done) | (simp only [intOf]; omega)
  rw [hmu]
  clear hmu
  refine s_ (s_ (r_ (ep E rfl (m_ rfl E.g0) fun a E => ep E rfl (m_ rfl E.g2) fun a E => ep (v := .int .i64 (l.length : Int)) E rfl (run_len22 rfl E.g0) fun a E => ep (v := .bool (decide ((i : Int) < (l.length : Int)))) E rfl (run_ilss E.g2 E.g0 Tryz.underlying3 rfl) fun a E => n_ (t_ ?_))))
  cases hq14 : (decide ((i : Int) < (l.length : Int))) with
  | false =>
   rw [hq14] at E
   have hie : i = l.length := by have := of_decide_eq_false hq14; omega
   refine c_f E.g0 (x_ (te_ (te_ (be_ (t_ (s_ (r_ (ep (v := .bool true) E rfl (a_ rfl rfl) fun a E => n_ (t_ (wr_ (ret_tmp (t := 4) rfl E E.g0 ⟨?_, hf⟩)))))))))))
   rw [hv, hie, List.drop_length, hlm, List.drop_length]; rfl
  | true =>
   rw [hq14] at E
   have hlt : i < l.length := by have := of_decide_eq_true hq14; omega
   have hlt2 : i < m.length := by omega
   obtain ⟨y, hy⟩ : ∃ y, l[i]? = some y := ⟨_, List.getElem?_eq_getElem hlt⟩
   obtain ⟨g15, off15, hpe15, hgl15, hrow15⟩ := hsp0.at hlt
   replace hrow15 := hrow15 i y hy
   obtain ⟨z, hz⟩ : ∃ y, m[i]? = some y := ⟨_, List.getElem?_eq_getElem hlt2⟩
   obtain ⟨g16, off16, hpe16, hgl16, hrow16⟩ := hsp1.at hlt2
   replace hrow16 := hrow16 i z hz
   refine c_t E.g0 (k_ (t_ (s_ (bk_ (s_ (wp_region_inv (n := 26) (base := [(14, .bool true), (13, .int .i64 (l.length : Int)), (12, .slice (p0) l.length cp0), (11, .int .i64 (i : Int)), (5, .int .i64 (i : Int)), (0, .slice (p0) l.length cp0), (1, .slice (p1) m.length cp1)]) (T := [some (17, .slice (p0) l.length cp0), some (18, .int .i64 (i : Int)), some (19, .pointer (some ⟨g15, (off15 + i * 2), none⟩)), some (20, .agg (spA y)), some (21, .slice (p1) m.length cp1), some (22, .int .i64 (i : Int)), some (23, .pointer (some ⟨g16, (off16 + i * 2), none⟩)), some (24, .agg (spA z)), some (25, .bool (!(y == z)))]) (M := fun _ wm => Fr (fun _ => False) w2 wm) (by kernel_rfl) (by kernel_rfl) (by kernel_rfl) (E.of ⟨E.g0, E.g1, E.g2, E.g3, E.g4, E.g5, E.g6, trivial⟩) (Fr.refl _ _).drew ?_ ?_))))))
   ·intro j9 o9 t9 ls9 a w5 ho hT0 hl E D DL hM
    have hsp0 := srcAt.fr hsp0 hM (fun r hr => id)
    have hsp1 := srcAt.fr hsp1 hM (fun r hr => id)
    have hrow15 := fun j u hu => hM.cell (hrow15 j u hu) id
    have hrow16 := fun j u hu => hM.cell (hrow16 j u hu) id
    match j9, ho, hT0, hl, D, DL with
    | 0, ho, hT0, hl, D, DL => exact y9_ ho hT0 (val_wp (m_ rfl E.g5) rfl hM)
    | 1, ho, hT0, hl, D, DL => exact y9_ ho hT0 (val_wp (m_ rfl E.g4) rfl hM)
    | 2, ho, hT0, hl, D, DL => exact y9_ ho hT0 (val_wp (run_index22 (i := i) rfl ((D 0 _ rfl rfl).trans (by rw [hpe15])) (D 1 _ rfl rfl) hlt) rfl hM)
    | 3, ho, hT0, hl, D, DL => exact y9_ ho hT0 (val_wp (run_ld48 rfl (D 2 _ rfl rfl) hrow15) rfl hM)
    | 4, ho, hT0, hl, D, DL => exact y9_ ho hT0 (val_wp (m_ rfl E.g6) rfl hM)
    | 5, ho, hT0, hl, D, DL => exact y9_ ho hT0 (val_wp (m_ rfl E.g4) rfl hM)
    | 6, ho, hT0, hl, D, DL => exact y9_ ho hT0 (val_wp (run_index22 (i := i) rfl ((D 4 _ rfl rfl).trans (by rw [hpe16])) (D 5 _ rfl rfl) hlt2) rfl hM)
    | 7, ho, hT0, hl, D, DL => exact y9_ ho hT0 (val_wp (run_ld48 rfl (D 6 _ rfl rfl) hrow16) rfl hM)
    | 8, ho, hT0, hl, D, DL => exact y9_ ho hT0 (val_wp (run_spne (D 3 _ rfl rfl) (D 7 _ rfl rfl) rfl) rfl hM)
    | j9 + 9, ho, hT0, hl, D, DL => exact absurd hT0 (by simp)
   ·intro a w5 E V hM
    have E := E.add (V 8 _ rfl)
    clear V
    have hsp0 := srcAt.fr hsp0 hM (fun r hr => id)
    have hsp1 := srcAt.fr hsp1 hM (fun r hr => id)
    have hrow15 := fun j u hu => hM.cell (hrow15 j u hu) id
    have hrow16 := fun j u hu => hM.cell (hrow16 j u hu) id
    have hf := hf.trans hM
    clear hM
    refine t_ ?_
    cases hq18 : (y == z) with
    | false =>
     rw [hq18] at E
     refine c_t E.g0 (s_ (r_ (ep (v := .bool false) E rfl (a_ rfl rfl) fun a E => n_ (t_ (wr_ (br_ (tr_ (tr_ (br_ (tr_ (ret_tmp (t := 4) rfl E E.g0 ⟨?_, hf⟩)))))))))))
     rw [hv, same_go hy hz, hq18]; rfl
    | true =>
     rw [hq18] at E
     refine c_f E.g0 (k_ (b_ (t_ (r_ (ep E rfl (m_ rfl E.g5) fun a E => ep (v := .int .i64 ((i : Int) + 1)) E rfl (run_iadd Tryz.underlying3 E.g0 rfl (by omega) (by omega) rfl) fun a E => es_ E rfl (a_ rfl E.g0) fun a E => n_ (t_ ?_))))))
     refine ⟨⟨i + 1, E.of ⟨E.g0, E.g8, E.g9, trivial⟩, hlt, ?_, hsp0, hsp1, hf⟩, ?_⟩
     ·rw [hv, same_go hy hz, hq18]; rfl
     ·rw [E.g0]; simp only [intOf]; omega
 | true =>
  rw [hq12] at E
  refine c_t E.g0 (s_ (r_ (es_ (v := .bool false) E rfl (a_ rfl rfl) fun a E => n_ (t_ (wr_ (tr_ (ret_tmp (t := 4) rfl E E.g0 ⟨?_, hf⟩)))))))
  have qhq12 := hq12; simp only [beq_iff_eq, bne_iff_ne, beq_eq_false_iff_ne, bne_eq_false_iff_eq, ne_eq] at qhq12
  have h9 : (l == m) = false := by
   rw [beq_eq_false_iff_ne]; rintro rfl; omega
  rw [h9]
/-- Where the span ahead of an index ends. -/
def lastTo (l : List Sp) : Nat → Int
 | 0 => -1
 | i + 1 => (l[i]?.getD (0, 0)).2
theorem lastTo_of {l : List Sp} {i : Nat} {y : Sp} (hy : l[i]? = some y) : lastTo l (i + 1) = y.2 := by
 show (l[i]?.getD (0, 0)).2 = y.2
 rw [hy]; rfl
theorem lastTo_pred {l : List Sp} {i : Nat} {y : Sp} (h0 : 0 < i) (hy : l[i - 1]? = some y) : lastTo l i = y.2 := by
 obtain ⟨j, rfl⟩ : ∃ j, i = j + 1 := ⟨i - 1, by omega⟩
 exact lastTo_of (by simpa using hy)
set_option maxRecDepth 100000 in
set_option maxHeartbeats 4000000 in
theorem rvalid_calls {w : World} {v : Value} {l : List Sp} (hl : SpV w v l) : Calls Tryz.prog 19 #[v] w fun e w' => e = .returned (.bool (vl (-1) l)) ∧ Fr (fun _ => False) w w' := by
 obtain ⟨p0, cp0, hvp0, hlep0, hcapp0, hsp0, hzp0⟩ := hl
 subst hvp0
 refine wp_start1 Tryz.func19 rfl rfl (n := 55) (by decide) fun a E => ?_
 have hf : Fr (fun _ => False) w w := Fr.refl _ _
 refine s_ (r_ (ep (v := .bool false) E rfl (a_ rfl rfl) fun a E => n_ (t_ (s_ (s_ (r_ (ep (v := .int .i64 0) E rfl (a_ rfl rfl) fun a E => n_ (t_ (bk_ (wp_loop (fun a w2 => ∃ (i : Nat), Env 55 [(3, .int .i64 (i : Int)), (0, .slice (p0) l.length cp0)] a ∧ i ≤ l.length ∧ vl (-1) l = vl (lastTo l i) (l.drop i) ∧ -1 ≤ lastTo l i ∧ srcAt spL 2 w2 w.heap.size p0 l ∧ Fr (fun _ => False) w w2) (fun a _ => l.length - (intOf (a.eval (.tmp 3))).toNat) ?_ ?_))))))))))
 ·exact ⟨0, E.of ⟨E.g0, E.g2, trivial⟩, Nat.zero_le _, rfl, Int.le_refl _, hsp0, hf⟩
 clear E
 rintro a w2 ⟨i, E, hi, hv, hge9, hsp0, hf⟩
 have hmu : l.length - (intOf (a.eval (.tmp 3))).toNat = l.length - i := by rw [E.g0]; first | rfl | (simp [intOf]; done) | (simp only [intOf]; omega)
 rw [hmu]
 clear hmu
 refine s_ (s_ (r_ (ep E rfl (m_ rfl E.g0) fun a E => ep E rfl (m_ rfl E.g2) fun a E => ep (v := .int .i64 (l.length : Int)) E rfl (run_len22 rfl E.g0) fun a E => ep (v := .bool (decide ((i : Int) < (l.length : Int)))) E rfl (run_ilss E.g2 E.g0 Tryz.underlying3 rfl) fun a E => n_ (t_ ?_))))
 cases hq20 : (decide ((i : Int) < (l.length : Int))) with
 | false =>
  rw [hq20] at E
  have hie : i = l.length := by have := of_decide_eq_false hq20; omega
  refine c_f E.g0 (x_ (te_ (te_ (be_ (t_ (s_ (r_ (ep (v := .bool true) E rfl (a_ rfl rfl) fun a E => n_ (t_ (wr_ (ret_tmp (t := 2) rfl E E.g0 ⟨?_, hf⟩)))))))))))
  rw [hv, hie, List.drop_length]; rfl
 | true =>
  rw [hq20] at E
  have hlt : i < l.length := by have := of_decide_eq_true hq20; omega
  obtain ⟨y, hy⟩ : ∃ y, l[i]? = some y := ⟨_, List.getElem?_eq_getElem hlt⟩
  obtain ⟨g21, off21, hpe21, hgl21, hrow21⟩ := hsp0.at hlt
  replace hrow21 := hrow21 i y hy
  refine c_t E.g0 (k_ (t_ (s_ (bk_ (s_ ?_)))))
  cases hq22 : (decide (y.1 < 0)) with
  | false =>
   cases hq23 : (decide (y.2 ≤ y.1)) with
   | false =>
    cases hq24 : (decide (10080 < y.2)) with
    | false =>
     cases hq25 : (decide (0 < (i : Int))) with
     | false =>
      refine wp_region_invg (n := 55) (base := [(7, .bool true), (6, .int .i64 (l.length : Int)), (5, .slice (p0) l.length cp0), (4, .int .i64 (i : Int)), (3, .int .i64 (i : Int)), (0, .slice (p0) l.length cp0)]) (T := [some (10, .slice (p0) l.length cp0), some (11, .int .i64 (i : Int)), some (12, .pointer (some ⟨g21, (off21 + i * 2), none⟩)), some (13, .pointer (some ⟨g21, ((off21 + i * 2) + 0), none⟩)), some (14, .int .i64 y.1), some (15, .bool false), some (16, .bool false), some (17, .slice (p0) l.length cp0), some (18, .int .i64 (i : Int)), some (19, .pointer (some ⟨g21, (off21 + i * 2), none⟩)), some (20, .pointer (some ⟨g21, ((off21 + i * 2) + 0), none⟩)), some (21, .int .i64 y.1), some (22, .slice (p0) l.length cp0), some (23, .int .i64 (i : Int)), some (24, .pointer (some ⟨g21, (off21 + i * 2), none⟩)), some (25, .pointer (some ⟨g21, ((off21 + i * 2) + 1), none⟩)), some (26, .int .i64 y.2), some (27, .bool false), some (28, .bool false), some (29, .bool false), some (30, .slice (p0) l.length cp0), some (31, .int .i64 (i : Int)), some (32, .pointer (some ⟨g21, (off21 + i * 2), none⟩)), some (33, .pointer (some ⟨g21, ((off21 + i * 2) + 1), none⟩)), some (34, .int .i64 y.2), some (35, .bool false), some (36, .bool false), some (37, .bool false), some (38, .int .i64 (i : Int)), some (39, .bool false), some (40, .bool false), some (41, undef), some (42, undef), some (43, undef), some (44, undef), some (45, undef), some (46, undef), some (47, undef), some (48, undef), some (49, undef), some (50, undef), some (51, undef), some (52, undef), some (53, .bool false), some (54, .bool false)]) (M := fun _ wm => Fr (fun _ => False) w2 wm) (by kernel_rfl) (by kernel_rfl) (by kernel_rfl) (E.of ⟨E.g0, E.g1, E.g2, E.g3, E.g4, E.g5, trivial⟩) (Fr.refl _ _).drew ?_ ?_
      ·intro j9 o9 t9 ls9 a w5 ho hT0 hl E D DL hM
       have hsp0 := srcAt.fr hsp0 hM (fun r hr => id)
       have hrow21 := fun j u hu => hM.cell (hrow21 j u hu) id
       match j9, ho, hT0, hl, D, DL with
       | 0, ho, hT0, hl, D, DL => exact y0_ ho hT0 (val_wp (m_ rfl E.g5) rfl hM)
       | 1, ho, hT0, hl, D, DL => exact y0_ ho hT0 (val_wp (m_ rfl E.g4) rfl hM)
       | 2, ho, hT0, hl, D, DL => exact y0_ ho hT0 (val_wp (run_index22 (i := i) rfl ((D 0 _ rfl rfl).trans (by rw [hpe21])) (D 1 _ rfl rfl) hlt) rfl hM)
       | 3, ho, hT0, hl, D, DL => exact y0_ ho hT0 (val_wp (fa48_0 rfl (D 2 _ rfl rfl)) rfl hM)
       | 4, ho, hT0, hl, D, DL => exact y0_ ho hT0 (val_wp (run_ldi rfl (D 3 _ rfl rfl) (hrow21 0 _ rfl)) rfl hM)
       | 5, ho, hT0, hl, D, DL => exact y0_ ho hT0 (val_wp ((run_ilss (D 4 _ rfl rfl) rfl Tryz.underlying3 rfl).trans (by rw [hq22] <;> rfl)) rfl hM)
       | 6, ho, hT0, hl, D, DL => exact y0_ ho hT0 (val_wp (m_ rfl (D 5 _ rfl rfl)) rfl hM)
       | 7, ho, hT0, hl, D, DL => exact y1_ ho hT0 E (D 6 _ rfl rfl) (val_wp (m_ rfl E.g5) rfl hM)
       | 8, ho, hT0, hl, D, DL => exact y1_ ho hT0 E (D 6 _ rfl rfl) (val_wp (m_ rfl E.g4) rfl hM)
       | 9, ho, hT0, hl, D, DL => exact y1_ ho hT0 E (D 6 _ rfl rfl) (val_wp (run_index22 (i := i) rfl ((D 7 _ rfl rfl).trans (by rw [hpe21])) (D 8 _ rfl rfl) hlt) rfl hM)
       | 10, ho, hT0, hl, D, DL => exact y1_ ho hT0 E (D 6 _ rfl rfl) (val_wp (fa48_0 rfl (D 9 _ rfl rfl)) rfl hM)
       | 11, ho, hT0, hl, D, DL => exact y1_ ho hT0 E (D 6 _ rfl rfl) (val_wp (run_ldi rfl (D 10 _ rfl rfl) (hrow21 0 _ rfl)) rfl hM)
       | 12, ho, hT0, hl, D, DL => exact y1_ ho hT0 E (D 6 _ rfl rfl) (val_wp (m_ rfl E.g5) rfl hM)
       | 13, ho, hT0, hl, D, DL => exact y1_ ho hT0 E (D 6 _ rfl rfl) (val_wp (m_ rfl E.g4) rfl hM)
       | 14, ho, hT0, hl, D, DL => exact y1_ ho hT0 E (D 6 _ rfl rfl) (val_wp (run_index22 (i := i) rfl ((D 12 _ rfl rfl).trans (by rw [hpe21])) (D 13 _ rfl rfl) hlt) rfl hM)
       | 15, ho, hT0, hl, D, DL => exact y1_ ho hT0 E (D 6 _ rfl rfl) (val_wp (fa48_1 rfl (D 14 _ rfl rfl)) rfl hM)
       | 16, ho, hT0, hl, D, DL => exact y1_ ho hT0 E (D 6 _ rfl rfl) (val_wp (run_ldi rfl (D 15 _ rfl rfl) (hrow21 1 _ rfl)) rfl hM)
       | 17, ho, hT0, hl, D, DL => exact y1_ ho hT0 E (D 6 _ rfl rfl) (val_wp ((run_igeq (D 11 _ rfl rfl) (D 16 _ rfl rfl) Tryz.underlying3 rfl).trans (by rw [hq23] <;> rfl)) rfl hM)
       | 18, ho, hT0, hl, D, DL => exact y0_ ho hT0 (val_wp (run_pick_f rfl (D 6 _ rfl rfl) (D 17 _ rfl rfl)) rfl hM)
       | 19, ho, hT0, hl, D, DL => exact y0_ ho hT0 (val_wp (m_ rfl (D 18 _ rfl rfl)) rfl hM)
       | 20, ho, hT0, hl, D, DL => exact y1_ ho hT0 E (D 19 _ rfl rfl) (val_wp (m_ rfl E.g5) rfl hM)
       | 21, ho, hT0, hl, D, DL => exact y1_ ho hT0 E (D 19 _ rfl rfl) (val_wp (m_ rfl E.g4) rfl hM)
       | 22, ho, hT0, hl, D, DL => exact y1_ ho hT0 E (D 19 _ rfl rfl) (val_wp (run_index22 (i := i) rfl ((D 20 _ rfl rfl).trans (by rw [hpe21])) (D 21 _ rfl rfl) hlt) rfl hM)
       | 23, ho, hT0, hl, D, DL => exact y1_ ho hT0 E (D 19 _ rfl rfl) (val_wp (fa48_1 rfl (D 22 _ rfl rfl)) rfl hM)
       | 24, ho, hT0, hl, D, DL => exact y1_ ho hT0 E (D 19 _ rfl rfl) (val_wp (run_ldi rfl (D 23 _ rfl rfl) (hrow21 1 _ rfl)) rfl hM)
       | 25, ho, hT0, hl, D, DL => exact y1_ ho hT0 E (D 19 _ rfl rfl) (val_wp ((run_igtr (D 24 _ rfl rfl) rfl Tryz.underlying3 rfl).trans (by rw [hq24] <;> rfl)) rfl hM)
       | 26, ho, hT0, hl, D, DL => exact y0_ ho hT0 (val_wp (run_pick_f rfl (D 19 _ rfl rfl) (D 25 _ rfl rfl)) rfl hM)
       | 27, ho, hT0, hl, D, DL => exact y0_ ho hT0 (val_wp (m_ rfl (D 26 _ rfl rfl)) rfl hM)
       | 28, ho, hT0, hl, D, DL => exact y1_ ho hT0 E (D 27 _ rfl rfl) (val_wp (m_ rfl E.g4) rfl hM)
       | 29, ho, hT0, hl, D, DL => exact y1_ ho hT0 E (D 27 _ rfl rfl) (val_wp ((run_igtr (D 28 _ rfl rfl) rfl Tryz.underlying3 rfl).trans (by rw [hq25] <;> rfl)) rfl hM)
       | 30, ho, hT0, hl, D, DL => exact y1_ ho hT0 E (D 27 _ rfl rfl) (val_wp (m_ rfl (D 29 _ rfl rfl)) rfl hM)
       | 31, ho, hT0, hl, D, DL => exact y2_ ho hT0 E (D 30 _ rfl rfl) hM
       | 32, ho, hT0, hl, D, DL => exact y2_ ho hT0 E (D 30 _ rfl rfl) hM
       | 33, ho, hT0, hl, D, DL => exact y2_ ho hT0 E (D 30 _ rfl rfl) hM
       | 34, ho, hT0, hl, D, DL => exact y2_ ho hT0 E (D 30 _ rfl rfl) hM
       | 35, ho, hT0, hl, D, DL => exact y2_ ho hT0 E (D 30 _ rfl rfl) hM
       | 36, ho, hT0, hl, D, DL => exact y2_ ho hT0 E (D 30 _ rfl rfl) hM
       | 37, ho, hT0, hl, D, DL => exact y2_ ho hT0 E (D 30 _ rfl rfl) hM
       | 38, ho, hT0, hl, D, DL => exact y2_ ho hT0 E (D 30 _ rfl rfl) hM
       | 39, ho, hT0, hl, D, DL => exact y2_ ho hT0 E (D 30 _ rfl rfl) hM
       | 40, ho, hT0, hl, D, DL => exact y2_ ho hT0 E (D 30 _ rfl rfl) hM
       | 41, ho, hT0, hl, D, DL => exact y2_ ho hT0 E (D 30 _ rfl rfl) hM
       | 42, ho, hT0, hl, D, DL => exact y2_ ho hT0 E (D 30 _ rfl rfl) hM
       | 43, ho, hT0, hl, D, DL => exact y1_ ho hT0 E (D 27 _ rfl rfl) (val_wp (run_pick_f rfl (D 30 _ rfl rfl) rfl) rfl hM)
       | 44, ho, hT0, hl, D, DL => exact y0_ ho hT0 (val_wp (run_pick_f rfl (D 27 _ rfl rfl) (D 43 _ rfl rfl)) rfl hM)
       | j9 + 45, ho, hT0, hl, D, DL => exact absurd hT0 (by simp)
      ·intro a w5 E V hM
       have E := E.add (V 44 _ rfl)
       clear V
       have hsp0 := srcAt.fr hsp0 hM (fun r hr => id)
       have hrow21 := fun j u hu => hM.cell (hrow21 j u hu) id
       have hf := hf.trans hM
       clear hM
       refine t_ (c_f E.g0 (k_ (b_ (t_ (r_ (ep E rfl (m_ rfl E.g5) fun a E => ep (v := .int .i64 ((i : Int) + 1)) E rfl (run_iadd Tryz.underlying3 E.g0 rfl (by omega) (by omega) rfl) fun a E => es_ E rfl (a_ rfl E.g0) fun a E => n_ (t_ ?_)))))))
       have qhq20 := of_decide_eq_true hq20
       have qhq22 := of_decide_eq_false hq22
       have qhq23 := of_decide_eq_false hq23
       have qhq24 := of_decide_eq_false hq24
       have qhq25 := of_decide_eq_false hq25
       have hlo : lastTo l i < y.1 := by
        have : i = 0 := by omega
        subst this; show (-1 : Int) < _; omega
       refine ⟨⟨i + 1, E.of ⟨E.g0, E.g8, trivial⟩, hlt, ?_, by rw [lastTo_of hy]; omega, hsp0, hf⟩, ?_⟩
       ·rw [hv, vl_go hy, lastTo_of hy, decide_eq_true hlo, decide_eq_true (show y.1 < y.2 by omega), decide_eq_true (show y.2 ≤ 10080 by omega)]; rfl
       ·rw [E.g0]; simp only [intOf]; omega
     | true =>
      have h0 : 0 < i := by have := of_decide_eq_true hq25; omega
      have hlt1 : i - 1 < l.length := by omega
      have hpi : (i : Int) - 1 = ((i - 1 : Nat) : Int) := by omega
      obtain ⟨z, hz⟩ : ∃ y, l[(i - 1)]? = some y := ⟨_, List.getElem?_eq_getElem hlt1⟩
      obtain ⟨g27, off27, hpe27, hgl27, hrow27⟩ := hsp0.at hlt1
      replace hrow27 := hrow27 (i - 1) z hz
      refine wp_region_invg (n := 55) (base := [(7, .bool true), (6, .int .i64 (l.length : Int)), (5, .slice (p0) l.length cp0), (4, .int .i64 (i : Int)), (3, .int .i64 (i : Int)), (0, .slice (p0) l.length cp0)]) (T := [some (10, .slice (p0) l.length cp0), some (11, .int .i64 (i : Int)), some (12, .pointer (some ⟨g21, (off21 + i * 2), none⟩)), some (13, .pointer (some ⟨g21, ((off21 + i * 2) + 0), none⟩)), some (14, .int .i64 y.1), some (15, .bool false), some (16, .bool false), some (17, .slice (p0) l.length cp0), some (18, .int .i64 (i : Int)), some (19, .pointer (some ⟨g21, (off21 + i * 2), none⟩)), some (20, .pointer (some ⟨g21, ((off21 + i * 2) + 0), none⟩)), some (21, .int .i64 y.1), some (22, .slice (p0) l.length cp0), some (23, .int .i64 (i : Int)), some (24, .pointer (some ⟨g21, (off21 + i * 2), none⟩)), some (25, .pointer (some ⟨g21, ((off21 + i * 2) + 1), none⟩)), some (26, .int .i64 y.2), some (27, .bool false), some (28, .bool false), some (29, .bool false), some (30, .slice (p0) l.length cp0), some (31, .int .i64 (i : Int)), some (32, .pointer (some ⟨g21, (off21 + i * 2), none⟩)), some (33, .pointer (some ⟨g21, ((off21 + i * 2) + 1), none⟩)), some (34, .int .i64 y.2), some (35, .bool false), some (36, .bool false), some (37, .bool false), some (38, .int .i64 (i : Int)), some (39, .bool true), some (40, .bool true), some (41, .slice (p0) l.length cp0), some (42, .int .i64 (i : Int)), some (43, .int .i64 ((i : Int) - 1)), some (44, .pointer (some ⟨g27, (off27 + (i - 1) * 2), none⟩)), some (45, .pointer (some ⟨g27, ((off27 + (i - 1) * 2) + 1), none⟩)), some (46, .int .i64 z.2), some (47, .slice (p0) l.length cp0), some (48, .int .i64 (i : Int)), some (49, .pointer (some ⟨g21, (off21 + i * 2), none⟩)), some (50, .pointer (some ⟨g21, ((off21 + i * 2) + 0), none⟩)), some (51, .int .i64 y.1), some (52, .bool (decide (y.1 ≤ z.2))), some (53, .bool (decide (y.1 ≤ z.2))), some (54, .bool (decide (y.1 ≤ z.2)))]) (M := fun _ wm => Fr (fun _ => False) w2 wm) (by kernel_rfl) (by kernel_rfl) (by kernel_rfl) (E.of ⟨E.g0, E.g1, E.g2, E.g3, E.g4, E.g5, trivial⟩) (Fr.refl _ _).drew ?_ ?_
      ·intro j9 o9 t9 ls9 a w5 ho hT0 hl E D DL hM
       have hsp0 := srcAt.fr hsp0 hM (fun r hr => id)
       have hrow21 := fun j u hu => hM.cell (hrow21 j u hu) id
       have hrow27 := fun j u hu => hM.cell (hrow27 j u hu) id
       match j9, ho, hT0, hl, D, DL with
       | 0, ho, hT0, hl, D, DL => exact y0_ ho hT0 (val_wp (m_ rfl E.g5) rfl hM)
       | 1, ho, hT0, hl, D, DL => exact y0_ ho hT0 (val_wp (m_ rfl E.g4) rfl hM)
       | 2, ho, hT0, hl, D, DL => exact y0_ ho hT0 (val_wp (run_index22 (i := i) rfl ((D 0 _ rfl rfl).trans (by rw [hpe21])) (D 1 _ rfl rfl) hlt) rfl hM)
       | 3, ho, hT0, hl, D, DL => exact y0_ ho hT0 (val_wp (fa48_0 rfl (D 2 _ rfl rfl)) rfl hM)
       | 4, ho, hT0, hl, D, DL => exact y0_ ho hT0 (val_wp (run_ldi rfl (D 3 _ rfl rfl) (hrow21 0 _ rfl)) rfl hM)
       | 5, ho, hT0, hl, D, DL => exact y0_ ho hT0 (val_wp ((run_ilss (D 4 _ rfl rfl) rfl Tryz.underlying3 rfl).trans (by rw [hq22] <;> rfl)) rfl hM)
       | 6, ho, hT0, hl, D, DL => exact y0_ ho hT0 (val_wp (m_ rfl (D 5 _ rfl rfl)) rfl hM)
       | 7, ho, hT0, hl, D, DL => exact y1_ ho hT0 E (D 6 _ rfl rfl) (val_wp (m_ rfl E.g5) rfl hM)
       | 8, ho, hT0, hl, D, DL => exact y1_ ho hT0 E (D 6 _ rfl rfl) (val_wp (m_ rfl E.g4) rfl hM)
       | 9, ho, hT0, hl, D, DL => exact y1_ ho hT0 E (D 6 _ rfl rfl) (val_wp (run_index22 (i := i) rfl ((D 7 _ rfl rfl).trans (by rw [hpe21])) (D 8 _ rfl rfl) hlt) rfl hM)
       | 10, ho, hT0, hl, D, DL => exact y1_ ho hT0 E (D 6 _ rfl rfl) (val_wp (fa48_0 rfl (D 9 _ rfl rfl)) rfl hM)
       | 11, ho, hT0, hl, D, DL => exact y1_ ho hT0 E (D 6 _ rfl rfl) (val_wp (run_ldi rfl (D 10 _ rfl rfl) (hrow21 0 _ rfl)) rfl hM)
       | 12, ho, hT0, hl, D, DL => exact y1_ ho hT0 E (D 6 _ rfl rfl) (val_wp (m_ rfl E.g5) rfl hM)
       | 13, ho, hT0, hl, D, DL => exact y1_ ho hT0 E (D 6 _ rfl rfl) (val_wp (m_ rfl E.g4) rfl hM)
       | 14, ho, hT0, hl, D, DL => exact y1_ ho hT0 E (D 6 _ rfl rfl) (val_wp (run_index22 (i := i) rfl ((D 12 _ rfl rfl).trans (by rw [hpe21])) (D 13 _ rfl rfl) hlt) rfl hM)
       | 15, ho, hT0, hl, D, DL => exact y1_ ho hT0 E (D 6 _ rfl rfl) (val_wp (fa48_1 rfl (D 14 _ rfl rfl)) rfl hM)
       | 16, ho, hT0, hl, D, DL => exact y1_ ho hT0 E (D 6 _ rfl rfl) (val_wp (run_ldi rfl (D 15 _ rfl rfl) (hrow21 1 _ rfl)) rfl hM)
       | 17, ho, hT0, hl, D, DL => exact y1_ ho hT0 E (D 6 _ rfl rfl) (val_wp ((run_igeq (D 11 _ rfl rfl) (D 16 _ rfl rfl) Tryz.underlying3 rfl).trans (by rw [hq23] <;> rfl)) rfl hM)
       | 18, ho, hT0, hl, D, DL => exact y0_ ho hT0 (val_wp (run_pick_f rfl (D 6 _ rfl rfl) (D 17 _ rfl rfl)) rfl hM)
       | 19, ho, hT0, hl, D, DL => exact y0_ ho hT0 (val_wp (m_ rfl (D 18 _ rfl rfl)) rfl hM)
       | 20, ho, hT0, hl, D, DL => exact y1_ ho hT0 E (D 19 _ rfl rfl) (val_wp (m_ rfl E.g5) rfl hM)
       | 21, ho, hT0, hl, D, DL => exact y1_ ho hT0 E (D 19 _ rfl rfl) (val_wp (m_ rfl E.g4) rfl hM)
       | 22, ho, hT0, hl, D, DL => exact y1_ ho hT0 E (D 19 _ rfl rfl) (val_wp (run_index22 (i := i) rfl ((D 20 _ rfl rfl).trans (by rw [hpe21])) (D 21 _ rfl rfl) hlt) rfl hM)
       | 23, ho, hT0, hl, D, DL => exact y1_ ho hT0 E (D 19 _ rfl rfl) (val_wp (fa48_1 rfl (D 22 _ rfl rfl)) rfl hM)
       | 24, ho, hT0, hl, D, DL => exact y1_ ho hT0 E (D 19 _ rfl rfl) (val_wp (run_ldi rfl (D 23 _ rfl rfl) (hrow21 1 _ rfl)) rfl hM)
       | 25, ho, hT0, hl, D, DL => exact y1_ ho hT0 E (D 19 _ rfl rfl) (val_wp ((run_igtr (D 24 _ rfl rfl) rfl Tryz.underlying3 rfl).trans (by rw [hq24] <;> rfl)) rfl hM)
       | 26, ho, hT0, hl, D, DL => exact y0_ ho hT0 (val_wp (run_pick_f rfl (D 19 _ rfl rfl) (D 25 _ rfl rfl)) rfl hM)
       | 27, ho, hT0, hl, D, DL => exact y0_ ho hT0 (val_wp (m_ rfl (D 26 _ rfl rfl)) rfl hM)
       | 28, ho, hT0, hl, D, DL => exact y1_ ho hT0 E (D 27 _ rfl rfl) (val_wp (m_ rfl E.g4) rfl hM)
       | 29, ho, hT0, hl, D, DL => exact y1_ ho hT0 E (D 27 _ rfl rfl) (val_wp ((run_igtr (D 28 _ rfl rfl) rfl Tryz.underlying3 rfl).trans (by rw [hq25] <;> rfl)) rfl hM)
       | 30, ho, hT0, hl, D, DL => exact y1_ ho hT0 E (D 27 _ rfl rfl) (val_wp (m_ rfl (D 29 _ rfl rfl)) rfl hM)
       | 31, ho, hT0, hl, D, DL => exact y1_ ho hT0 E (D 30 _ rfl rfl) (val_wp (m_ rfl E.g5) rfl hM)
       | 32, ho, hT0, hl, D, DL => exact y1_ ho hT0 E (D 30 _ rfl rfl) (val_wp (m_ rfl E.g4) rfl hM)
       | 33, ho, hT0, hl, D, DL => exact y1_ ho hT0 E (D 30 _ rfl rfl) (val_wp (run_isub Tryz.underlying3 (D 32 _ rfl rfl) rfl (by omega) (by omega) rfl) rfl hM)
       | 34, ho, hT0, hl, D, DL => exact y1_ ho hT0 E (D 30 _ rfl rfl) (val_wp (run_index22 (i := (i - 1)) rfl ((D 31 _ rfl rfl).trans (by rw [hpe27])) ((D 33 _ rfl rfl).trans (by rw [hpi])) hlt1) rfl hM)
       | 35, ho, hT0, hl, D, DL => exact y1_ ho hT0 E (D 30 _ rfl rfl) (val_wp (fa48_1 rfl (D 34 _ rfl rfl)) rfl hM)
       | 36, ho, hT0, hl, D, DL => exact y1_ ho hT0 E (D 30 _ rfl rfl) (val_wp (run_ldi rfl (D 35 _ rfl rfl) (hrow27 1 _ rfl)) rfl hM)
       | 37, ho, hT0, hl, D, DL => exact y1_ ho hT0 E (D 30 _ rfl rfl) (val_wp (m_ rfl E.g5) rfl hM)
       | 38, ho, hT0, hl, D, DL => exact y1_ ho hT0 E (D 30 _ rfl rfl) (val_wp (m_ rfl E.g4) rfl hM)
       | 39, ho, hT0, hl, D, DL => exact y1_ ho hT0 E (D 30 _ rfl rfl) (val_wp (run_index22 (i := i) rfl ((D 37 _ rfl rfl).trans (by rw [hpe21])) (D 38 _ rfl rfl) hlt) rfl hM)
       | 40, ho, hT0, hl, D, DL => exact y1_ ho hT0 E (D 30 _ rfl rfl) (val_wp (fa48_0 rfl (D 39 _ rfl rfl)) rfl hM)
       | 41, ho, hT0, hl, D, DL => exact y1_ ho hT0 E (D 30 _ rfl rfl) (val_wp (run_ldi rfl (D 40 _ rfl rfl) (hrow21 0 _ rfl)) rfl hM)
       | 42, ho, hT0, hl, D, DL => exact y1_ ho hT0 E (D 30 _ rfl rfl) (val_wp (run_igeq (D 36 _ rfl rfl) (D 41 _ rfl rfl) Tryz.underlying3 rfl) rfl hM)
       | 43, ho, hT0, hl, D, DL => exact y1_ ho hT0 E (D 27 _ rfl rfl) (val_wp (run_pick_t rfl (D 30 _ rfl rfl) (D 42 _ rfl rfl)) rfl hM)
       | 44, ho, hT0, hl, D, DL => exact y0_ ho hT0 (val_wp (run_pick_f rfl (D 27 _ rfl rfl) (D 43 _ rfl rfl)) rfl hM)
       | j9 + 45, ho, hT0, hl, D, DL => exact absurd hT0 (by simp)
      ·intro a w5 E V hM
       have E := E.add (V 44 _ rfl)
       clear V
       have hsp0 := srcAt.fr hsp0 hM (fun r hr => id)
       have hrow21 := fun j u hu => hM.cell (hrow21 j u hu) id
       have hrow27 := fun j u hu => hM.cell (hrow27 j u hu) id
       have hf := hf.trans hM
       clear hM
       refine t_ ?_
       cases hq29 : (decide (y.1 ≤ z.2)) with
       | false =>
        rw [hq29] at E
        refine c_f E.g0 (k_ (b_ (t_ (r_ (ep E rfl (m_ rfl E.g5) fun a E => ep (v := .int .i64 ((i : Int) + 1)) E rfl (run_iadd Tryz.underlying3 E.g0 rfl (by omega) (by omega) rfl) fun a E => es_ E rfl (a_ rfl E.g0) fun a E => n_ (t_ ?_))))))
        have qhq20 := of_decide_eq_true hq20
        have qhq22 := of_decide_eq_false hq22
        have qhq23 := of_decide_eq_false hq23
        have qhq24 := of_decide_eq_false hq24
        have qhq25 := of_decide_eq_true hq25
        have qhq29 := of_decide_eq_false hq29
        have hlo : lastTo l i < y.1 := by
         rw [lastTo_pred h0 hz]; omega
        refine ⟨⟨i + 1, E.of ⟨E.g0, E.g8, trivial⟩, hlt, ?_, by rw [lastTo_of hy]; omega, hsp0, hf⟩, ?_⟩
        ·rw [hv, vl_go hy, lastTo_of hy, decide_eq_true hlo, decide_eq_true (show y.1 < y.2 by omega), decide_eq_true (show y.2 ≤ 10080 by omega)]; rfl
        ·rw [E.g0]; simp only [intOf]; omega
       | true =>
        rw [hq29] at E
        refine c_t E.g0 (s_ (r_ (ep (v := .bool false) E rfl (a_ rfl rfl) fun a E => n_ (t_ (wr_ (br_ (tr_ (tr_ (br_ (tr_ (ret_tmp (t := 2) rfl E E.g0 ⟨?_, hf⟩)))))))))))
        have qhq20 := of_decide_eq_true hq20
        have qhq22 := of_decide_eq_false hq22
        have qhq23 := of_decide_eq_false hq23
        have qhq24 := of_decide_eq_false hq24
        have qhq25 := of_decide_eq_true hq25
        have qhq29 := of_decide_eq_true hq29
        rw [hv, vl_go hy]
        have h9 : (decide (lastTo l i < y.1) && decide (y.1 < y.2) && decide (y.2 ≤ 10080)) = false := by
         rw [Bool.eq_false_iff]; intro h
         simp only [Bool.and_eq_true, decide_eq_true_eq] at h
         have hl0 : 0 < i → (∀ y, l[i - 1]? = some y → lastTo l i = y.2) := fun h0 y hy => lastTo_pred h0 hy
         have hl1 : i = 0 → lastTo l i = -1 := by rintro rfl; rfl
         have := hl0 h0 z hz; omega
        rw [h9]; rfl
    | true =>
     refine wp_region_invg (n := 55) (base := [(7, .bool true), (6, .int .i64 (l.length : Int)), (5, .slice (p0) l.length cp0), (4, .int .i64 (i : Int)), (3, .int .i64 (i : Int)), (0, .slice (p0) l.length cp0)]) (T := [some (10, .slice (p0) l.length cp0), some (11, .int .i64 (i : Int)), some (12, .pointer (some ⟨g21, (off21 + i * 2), none⟩)), some (13, .pointer (some ⟨g21, ((off21 + i * 2) + 0), none⟩)), some (14, .int .i64 y.1), some (15, .bool false), some (16, .bool false), some (17, .slice (p0) l.length cp0), some (18, .int .i64 (i : Int)), some (19, .pointer (some ⟨g21, (off21 + i * 2), none⟩)), some (20, .pointer (some ⟨g21, ((off21 + i * 2) + 0), none⟩)), some (21, .int .i64 y.1), some (22, .slice (p0) l.length cp0), some (23, .int .i64 (i : Int)), some (24, .pointer (some ⟨g21, (off21 + i * 2), none⟩)), some (25, .pointer (some ⟨g21, ((off21 + i * 2) + 1), none⟩)), some (26, .int .i64 y.2), some (27, .bool false), some (28, .bool false), some (29, .bool false), some (30, .slice (p0) l.length cp0), some (31, .int .i64 (i : Int)), some (32, .pointer (some ⟨g21, (off21 + i * 2), none⟩)), some (33, .pointer (some ⟨g21, ((off21 + i * 2) + 1), none⟩)), some (34, .int .i64 y.2), some (35, .bool true), some (36, .bool true), some (37, .bool true), some (38, undef), some (39, undef), some (40, undef), some (41, undef), some (42, undef), some (43, undef), some (44, undef), some (45, undef), some (46, undef), some (47, undef), some (48, undef), some (49, undef), some (50, undef), some (51, undef), some (52, undef), some (53, undef), some (54, .bool true)]) (M := fun _ wm => Fr (fun _ => False) w2 wm) (by kernel_rfl) (by kernel_rfl) (by kernel_rfl) (E.of ⟨E.g0, E.g1, E.g2, E.g3, E.g4, E.g5, trivial⟩) (Fr.refl _ _).drew ?_ ?_
     ·intro j9 o9 t9 ls9 a w5 ho hT0 hl E D DL hM
      have hsp0 := srcAt.fr hsp0 hM (fun r hr => id)
      have hrow21 := fun j u hu => hM.cell (hrow21 j u hu) id
      match j9, ho, hT0, hl, D, DL with
      | 0, ho, hT0, hl, D, DL => exact y0_ ho hT0 (val_wp (m_ rfl E.g5) rfl hM)
      | 1, ho, hT0, hl, D, DL => exact y0_ ho hT0 (val_wp (m_ rfl E.g4) rfl hM)
      | 2, ho, hT0, hl, D, DL => exact y0_ ho hT0 (val_wp (run_index22 (i := i) rfl ((D 0 _ rfl rfl).trans (by rw [hpe21])) (D 1 _ rfl rfl) hlt) rfl hM)
      | 3, ho, hT0, hl, D, DL => exact y0_ ho hT0 (val_wp (fa48_0 rfl (D 2 _ rfl rfl)) rfl hM)
      | 4, ho, hT0, hl, D, DL => exact y0_ ho hT0 (val_wp (run_ldi rfl (D 3 _ rfl rfl) (hrow21 0 _ rfl)) rfl hM)
      | 5, ho, hT0, hl, D, DL => exact y0_ ho hT0 (val_wp ((run_ilss (D 4 _ rfl rfl) rfl Tryz.underlying3 rfl).trans (by rw [hq22] <;> rfl)) rfl hM)
      | 6, ho, hT0, hl, D, DL => exact y0_ ho hT0 (val_wp (m_ rfl (D 5 _ rfl rfl)) rfl hM)
      | 7, ho, hT0, hl, D, DL => exact y1_ ho hT0 E (D 6 _ rfl rfl) (val_wp (m_ rfl E.g5) rfl hM)
      | 8, ho, hT0, hl, D, DL => exact y1_ ho hT0 E (D 6 _ rfl rfl) (val_wp (m_ rfl E.g4) rfl hM)
      | 9, ho, hT0, hl, D, DL => exact y1_ ho hT0 E (D 6 _ rfl rfl) (val_wp (run_index22 (i := i) rfl ((D 7 _ rfl rfl).trans (by rw [hpe21])) (D 8 _ rfl rfl) hlt) rfl hM)
      | 10, ho, hT0, hl, D, DL => exact y1_ ho hT0 E (D 6 _ rfl rfl) (val_wp (fa48_0 rfl (D 9 _ rfl rfl)) rfl hM)
      | 11, ho, hT0, hl, D, DL => exact y1_ ho hT0 E (D 6 _ rfl rfl) (val_wp (run_ldi rfl (D 10 _ rfl rfl) (hrow21 0 _ rfl)) rfl hM)
      | 12, ho, hT0, hl, D, DL => exact y1_ ho hT0 E (D 6 _ rfl rfl) (val_wp (m_ rfl E.g5) rfl hM)
      | 13, ho, hT0, hl, D, DL => exact y1_ ho hT0 E (D 6 _ rfl rfl) (val_wp (m_ rfl E.g4) rfl hM)
      | 14, ho, hT0, hl, D, DL => exact y1_ ho hT0 E (D 6 _ rfl rfl) (val_wp (run_index22 (i := i) rfl ((D 12 _ rfl rfl).trans (by rw [hpe21])) (D 13 _ rfl rfl) hlt) rfl hM)
      | 15, ho, hT0, hl, D, DL => exact y1_ ho hT0 E (D 6 _ rfl rfl) (val_wp (fa48_1 rfl (D 14 _ rfl rfl)) rfl hM)
      | 16, ho, hT0, hl, D, DL => exact y1_ ho hT0 E (D 6 _ rfl rfl) (val_wp (run_ldi rfl (D 15 _ rfl rfl) (hrow21 1 _ rfl)) rfl hM)
      | 17, ho, hT0, hl, D, DL => exact y1_ ho hT0 E (D 6 _ rfl rfl) (val_wp ((run_igeq (D 11 _ rfl rfl) (D 16 _ rfl rfl) Tryz.underlying3 rfl).trans (by rw [hq23] <;> rfl)) rfl hM)
      | 18, ho, hT0, hl, D, DL => exact y0_ ho hT0 (val_wp (run_pick_f rfl (D 6 _ rfl rfl) (D 17 _ rfl rfl)) rfl hM)
      | 19, ho, hT0, hl, D, DL => exact y0_ ho hT0 (val_wp (m_ rfl (D 18 _ rfl rfl)) rfl hM)
      | 20, ho, hT0, hl, D, DL => exact y1_ ho hT0 E (D 19 _ rfl rfl) (val_wp (m_ rfl E.g5) rfl hM)
      | 21, ho, hT0, hl, D, DL => exact y1_ ho hT0 E (D 19 _ rfl rfl) (val_wp (m_ rfl E.g4) rfl hM)
      | 22, ho, hT0, hl, D, DL => exact y1_ ho hT0 E (D 19 _ rfl rfl) (val_wp (run_index22 (i := i) rfl ((D 20 _ rfl rfl).trans (by rw [hpe21])) (D 21 _ rfl rfl) hlt) rfl hM)
      | 23, ho, hT0, hl, D, DL => exact y1_ ho hT0 E (D 19 _ rfl rfl) (val_wp (fa48_1 rfl (D 22 _ rfl rfl)) rfl hM)
      | 24, ho, hT0, hl, D, DL => exact y1_ ho hT0 E (D 19 _ rfl rfl) (val_wp (run_ldi rfl (D 23 _ rfl rfl) (hrow21 1 _ rfl)) rfl hM)
      | 25, ho, hT0, hl, D, DL => exact y1_ ho hT0 E (D 19 _ rfl rfl) (val_wp ((run_igtr (D 24 _ rfl rfl) rfl Tryz.underlying3 rfl).trans (by rw [hq24] <;> rfl)) rfl hM)
      | 26, ho, hT0, hl, D, DL => exact y0_ ho hT0 (val_wp (run_pick_f rfl (D 19 _ rfl rfl) (D 25 _ rfl rfl)) rfl hM)
      | 27, ho, hT0, hl, D, DL => exact y0_ ho hT0 (val_wp (m_ rfl (D 26 _ rfl rfl)) rfl hM)
      | 28, ho, hT0, hl, D, DL => exact y2_ ho hT0 E (D 27 _ rfl rfl) hM
      | 29, ho, hT0, hl, D, DL => exact y2_ ho hT0 E (D 27 _ rfl rfl) hM
      | 30, ho, hT0, hl, D, DL => exact y2_ ho hT0 E (D 27 _ rfl rfl) hM
      | 31, ho, hT0, hl, D, DL => exact y3_ ho hT0 E (D 30 _ rfl rfl) hM
      | 32, ho, hT0, hl, D, DL => exact y3_ ho hT0 E (D 30 _ rfl rfl) hM
      | 33, ho, hT0, hl, D, DL => exact y3_ ho hT0 E (D 30 _ rfl rfl) hM
      | 34, ho, hT0, hl, D, DL => exact y3_ ho hT0 E (D 30 _ rfl rfl) hM
      | 35, ho, hT0, hl, D, DL => exact y3_ ho hT0 E (D 30 _ rfl rfl) hM
      | 36, ho, hT0, hl, D, DL => exact y3_ ho hT0 E (D 30 _ rfl rfl) hM
      | 37, ho, hT0, hl, D, DL => exact y3_ ho hT0 E (D 30 _ rfl rfl) hM
      | 38, ho, hT0, hl, D, DL => exact y3_ ho hT0 E (D 30 _ rfl rfl) hM
      | 39, ho, hT0, hl, D, DL => exact y3_ ho hT0 E (D 30 _ rfl rfl) hM
      | 40, ho, hT0, hl, D, DL => exact y3_ ho hT0 E (D 30 _ rfl rfl) hM
      | 41, ho, hT0, hl, D, DL => exact y3_ ho hT0 E (D 30 _ rfl rfl) hM
      | 42, ho, hT0, hl, D, DL => exact y3_ ho hT0 E (D 30 _ rfl rfl) hM
      | 43, ho, hT0, hl, D, DL => exact y2_ ho hT0 E (D 27 _ rfl rfl) hM
      | 44, ho, hT0, hl, D, DL => exact y0_ ho hT0 (val_wp (run_pick_t rfl (D 27 _ rfl rfl) rfl) rfl hM)
      | j9 + 45, ho, hT0, hl, D, DL => exact absurd hT0 (by simp)
     ·intro a w5 E V hM
      have E := E.add (V 44 _ rfl)
      clear V
      have hsp0 := srcAt.fr hsp0 hM (fun r hr => id)
      have hrow21 := fun j u hu => hM.cell (hrow21 j u hu) id
      have hf := hf.trans hM
      clear hM
      refine t_ (c_t E.g0 (s_ (r_ (ep (v := .bool false) E rfl (a_ rfl rfl) fun a E => n_ (t_ (wr_ (br_ (tr_ (tr_ (br_ (tr_ (ret_tmp (t := 2) rfl E E.g0 ⟨?_, hf⟩))))))))))))
      have qhq20 := of_decide_eq_true hq20
      have qhq22 := of_decide_eq_false hq22
      have qhq23 := of_decide_eq_false hq23
      have qhq24 := of_decide_eq_true hq24
      rw [hv, vl_go hy]
      have h9 : (decide (lastTo l i < y.1) && decide (y.1 < y.2) && decide (y.2 ≤ 10080)) = false := by
       rw [Bool.eq_false_iff]; intro h
       simp only [Bool.and_eq_true, decide_eq_true_eq] at h
       have hl0 : 0 < i → (∀ y, l[i - 1]? = some y → lastTo l i = y.2) := fun h0 y hy => lastTo_pred h0 hy
       have hl1 : i = 0 → lastTo l i = -1 := by rintro rfl; rfl
       first | omega | (have hge : -1 ≤ lastTo l i := hge9; omega)
      rw [h9]; rfl
   | true =>
    refine wp_region_invg (n := 55) (base := [(7, .bool true), (6, .int .i64 (l.length : Int)), (5, .slice (p0) l.length cp0), (4, .int .i64 (i : Int)), (3, .int .i64 (i : Int)), (0, .slice (p0) l.length cp0)]) (T := [some (10, .slice (p0) l.length cp0), some (11, .int .i64 (i : Int)), some (12, .pointer (some ⟨g21, (off21 + i * 2), none⟩)), some (13, .pointer (some ⟨g21, ((off21 + i * 2) + 0), none⟩)), some (14, .int .i64 y.1), some (15, .bool false), some (16, .bool false), some (17, .slice (p0) l.length cp0), some (18, .int .i64 (i : Int)), some (19, .pointer (some ⟨g21, (off21 + i * 2), none⟩)), some (20, .pointer (some ⟨g21, ((off21 + i * 2) + 0), none⟩)), some (21, .int .i64 y.1), some (22, .slice (p0) l.length cp0), some (23, .int .i64 (i : Int)), some (24, .pointer (some ⟨g21, (off21 + i * 2), none⟩)), some (25, .pointer (some ⟨g21, ((off21 + i * 2) + 1), none⟩)), some (26, .int .i64 y.2), some (27, .bool true), some (28, .bool true), some (29, .bool true), some (30, undef), some (31, undef), some (32, undef), some (33, undef), some (34, undef), some (35, undef), some (36, .bool true), some (37, .bool true), some (38, undef), some (39, undef), some (40, undef), some (41, undef), some (42, undef), some (43, undef), some (44, undef), some (45, undef), some (46, undef), some (47, undef), some (48, undef), some (49, undef), some (50, undef), some (51, undef), some (52, undef), some (53, undef), some (54, .bool true)]) (M := fun _ wm => Fr (fun _ => False) w2 wm) (by kernel_rfl) (by kernel_rfl) (by kernel_rfl) (E.of ⟨E.g0, E.g1, E.g2, E.g3, E.g4, E.g5, trivial⟩) (Fr.refl _ _).drew ?_ ?_
    ·intro j9 o9 t9 ls9 a w5 ho hT0 hl E D DL hM
     have hsp0 := srcAt.fr hsp0 hM (fun r hr => id)
     have hrow21 := fun j u hu => hM.cell (hrow21 j u hu) id
     match j9, ho, hT0, hl, D, DL with
     | 0, ho, hT0, hl, D, DL => exact y0_ ho hT0 (val_wp (m_ rfl E.g5) rfl hM)
     | 1, ho, hT0, hl, D, DL => exact y0_ ho hT0 (val_wp (m_ rfl E.g4) rfl hM)
     | 2, ho, hT0, hl, D, DL => exact y0_ ho hT0 (val_wp (run_index22 (i := i) rfl ((D 0 _ rfl rfl).trans (by rw [hpe21])) (D 1 _ rfl rfl) hlt) rfl hM)
     | 3, ho, hT0, hl, D, DL => exact y0_ ho hT0 (val_wp (fa48_0 rfl (D 2 _ rfl rfl)) rfl hM)
     | 4, ho, hT0, hl, D, DL => exact y0_ ho hT0 (val_wp (run_ldi rfl (D 3 _ rfl rfl) (hrow21 0 _ rfl)) rfl hM)
     | 5, ho, hT0, hl, D, DL => exact y0_ ho hT0 (val_wp ((run_ilss (D 4 _ rfl rfl) rfl Tryz.underlying3 rfl).trans (by rw [hq22] <;> rfl)) rfl hM)
     | 6, ho, hT0, hl, D, DL => exact y0_ ho hT0 (val_wp (m_ rfl (D 5 _ rfl rfl)) rfl hM)
     | 7, ho, hT0, hl, D, DL => exact y1_ ho hT0 E (D 6 _ rfl rfl) (val_wp (m_ rfl E.g5) rfl hM)
     | 8, ho, hT0, hl, D, DL => exact y1_ ho hT0 E (D 6 _ rfl rfl) (val_wp (m_ rfl E.g4) rfl hM)
     | 9, ho, hT0, hl, D, DL => exact y1_ ho hT0 E (D 6 _ rfl rfl) (val_wp (run_index22 (i := i) rfl ((D 7 _ rfl rfl).trans (by rw [hpe21])) (D 8 _ rfl rfl) hlt) rfl hM)
     | 10, ho, hT0, hl, D, DL => exact y1_ ho hT0 E (D 6 _ rfl rfl) (val_wp (fa48_0 rfl (D 9 _ rfl rfl)) rfl hM)
     | 11, ho, hT0, hl, D, DL => exact y1_ ho hT0 E (D 6 _ rfl rfl) (val_wp (run_ldi rfl (D 10 _ rfl rfl) (hrow21 0 _ rfl)) rfl hM)
     | 12, ho, hT0, hl, D, DL => exact y1_ ho hT0 E (D 6 _ rfl rfl) (val_wp (m_ rfl E.g5) rfl hM)
     | 13, ho, hT0, hl, D, DL => exact y1_ ho hT0 E (D 6 _ rfl rfl) (val_wp (m_ rfl E.g4) rfl hM)
     | 14, ho, hT0, hl, D, DL => exact y1_ ho hT0 E (D 6 _ rfl rfl) (val_wp (run_index22 (i := i) rfl ((D 12 _ rfl rfl).trans (by rw [hpe21])) (D 13 _ rfl rfl) hlt) rfl hM)
     | 15, ho, hT0, hl, D, DL => exact y1_ ho hT0 E (D 6 _ rfl rfl) (val_wp (fa48_1 rfl (D 14 _ rfl rfl)) rfl hM)
     | 16, ho, hT0, hl, D, DL => exact y1_ ho hT0 E (D 6 _ rfl rfl) (val_wp (run_ldi rfl (D 15 _ rfl rfl) (hrow21 1 _ rfl)) rfl hM)
     | 17, ho, hT0, hl, D, DL => exact y1_ ho hT0 E (D 6 _ rfl rfl) (val_wp ((run_igeq (D 11 _ rfl rfl) (D 16 _ rfl rfl) Tryz.underlying3 rfl).trans (by rw [hq23] <;> rfl)) rfl hM)
     | 18, ho, hT0, hl, D, DL => exact y0_ ho hT0 (val_wp (run_pick_f rfl (D 6 _ rfl rfl) (D 17 _ rfl rfl)) rfl hM)
     | 19, ho, hT0, hl, D, DL => exact y0_ ho hT0 (val_wp (m_ rfl (D 18 _ rfl rfl)) rfl hM)
     | 20, ho, hT0, hl, D, DL => exact y2_ ho hT0 E (D 19 _ rfl rfl) hM
     | 21, ho, hT0, hl, D, DL => exact y2_ ho hT0 E (D 19 _ rfl rfl) hM
     | 22, ho, hT0, hl, D, DL => exact y2_ ho hT0 E (D 19 _ rfl rfl) hM
     | 23, ho, hT0, hl, D, DL => exact y2_ ho hT0 E (D 19 _ rfl rfl) hM
     | 24, ho, hT0, hl, D, DL => exact y2_ ho hT0 E (D 19 _ rfl rfl) hM
     | 25, ho, hT0, hl, D, DL => exact y2_ ho hT0 E (D 19 _ rfl rfl) hM
     | 26, ho, hT0, hl, D, DL => exact y0_ ho hT0 (val_wp (run_pick_t rfl (D 19 _ rfl rfl) rfl) rfl hM)
     | 27, ho, hT0, hl, D, DL => exact y0_ ho hT0 (val_wp (m_ rfl (D 26 _ rfl rfl)) rfl hM)
     | 28, ho, hT0, hl, D, DL => exact y2_ ho hT0 E (D 27 _ rfl rfl) hM
     | 29, ho, hT0, hl, D, DL => exact y2_ ho hT0 E (D 27 _ rfl rfl) hM
     | 30, ho, hT0, hl, D, DL => exact y2_ ho hT0 E (D 27 _ rfl rfl) hM
     | 31, ho, hT0, hl, D, DL => exact y3_ ho hT0 E (D 30 _ rfl rfl) hM
     | 32, ho, hT0, hl, D, DL => exact y3_ ho hT0 E (D 30 _ rfl rfl) hM
     | 33, ho, hT0, hl, D, DL => exact y3_ ho hT0 E (D 30 _ rfl rfl) hM
     | 34, ho, hT0, hl, D, DL => exact y3_ ho hT0 E (D 30 _ rfl rfl) hM
     | 35, ho, hT0, hl, D, DL => exact y3_ ho hT0 E (D 30 _ rfl rfl) hM
     | 36, ho, hT0, hl, D, DL => exact y3_ ho hT0 E (D 30 _ rfl rfl) hM
     | 37, ho, hT0, hl, D, DL => exact y3_ ho hT0 E (D 30 _ rfl rfl) hM
     | 38, ho, hT0, hl, D, DL => exact y3_ ho hT0 E (D 30 _ rfl rfl) hM
     | 39, ho, hT0, hl, D, DL => exact y3_ ho hT0 E (D 30 _ rfl rfl) hM
     | 40, ho, hT0, hl, D, DL => exact y3_ ho hT0 E (D 30 _ rfl rfl) hM
     | 41, ho, hT0, hl, D, DL => exact y3_ ho hT0 E (D 30 _ rfl rfl) hM
     | 42, ho, hT0, hl, D, DL => exact y3_ ho hT0 E (D 30 _ rfl rfl) hM
     | 43, ho, hT0, hl, D, DL => exact y2_ ho hT0 E (D 27 _ rfl rfl) hM
     | 44, ho, hT0, hl, D, DL => exact y0_ ho hT0 (val_wp (run_pick_t rfl (D 27 _ rfl rfl) rfl) rfl hM)
     | j9 + 45, ho, hT0, hl, D, DL => exact absurd hT0 (by simp)
    ·intro a w5 E V hM
     have E := E.add (V 44 _ rfl)
     clear V
     have hsp0 := srcAt.fr hsp0 hM (fun r hr => id)
     have hrow21 := fun j u hu => hM.cell (hrow21 j u hu) id
     have hf := hf.trans hM
     clear hM
     refine t_ (c_t E.g0 (s_ (r_ (ep (v := .bool false) E rfl (a_ rfl rfl) fun a E => n_ (t_ (wr_ (br_ (tr_ (tr_ (br_ (tr_ (ret_tmp (t := 2) rfl E E.g0 ⟨?_, hf⟩))))))))))))
     have qhq20 := of_decide_eq_true hq20
     have qhq22 := of_decide_eq_false hq22
     have qhq23 := of_decide_eq_true hq23
     rw [hv, vl_go hy]
     have h9 : (decide (lastTo l i < y.1) && decide (y.1 < y.2) && decide (y.2 ≤ 10080)) = false := by
      rw [Bool.eq_false_iff]; intro h
      simp only [Bool.and_eq_true, decide_eq_true_eq] at h
      have hl0 : 0 < i → (∀ y, l[i - 1]? = some y → lastTo l i = y.2) := fun h0 y hy => lastTo_pred h0 hy
      have hl1 : i = 0 → lastTo l i = -1 := by rintro rfl; rfl
      first | omega | (have hge : -1 ≤ lastTo l i := hge9; omega)
     rw [h9]; rfl
  | true =>
   refine wp_region_invg (n := 55) (base := [(7, .bool true), (6, .int .i64 (l.length : Int)), (5, .slice (p0) l.length cp0), (4, .int .i64 (i : Int)), (3, .int .i64 (i : Int)), (0, .slice (p0) l.length cp0)]) (T := [some (10, .slice (p0) l.length cp0), some (11, .int .i64 (i : Int)), some (12, .pointer (some ⟨g21, (off21 + i * 2), none⟩)), some (13, .pointer (some ⟨g21, ((off21 + i * 2) + 0), none⟩)), some (14, .int .i64 y.1), some (15, .bool true), some (16, .bool true), some (17, undef), some (18, undef), some (19, undef), some (20, undef), some (21, undef), some (22, undef), some (23, undef), some (24, undef), some (25, undef), some (26, undef), some (27, undef), some (28, .bool true), some (29, .bool true), some (30, undef), some (31, undef), some (32, undef), some (33, undef), some (34, undef), some (35, undef), some (36, .bool true), some (37, .bool true), some (38, undef), some (39, undef), some (40, undef), some (41, undef), some (42, undef), some (43, undef), some (44, undef), some (45, undef), some (46, undef), some (47, undef), some (48, undef), some (49, undef), some (50, undef), some (51, undef), some (52, undef), some (53, undef), some (54, .bool true)]) (M := fun _ wm => Fr (fun _ => False) w2 wm) (by kernel_rfl) (by kernel_rfl) (by kernel_rfl) (E.of ⟨E.g0, E.g1, E.g2, E.g3, E.g4, E.g5, trivial⟩) (Fr.refl _ _).drew ?_ ?_
   ·intro j9 o9 t9 ls9 a w5 ho hT0 hl E D DL hM
    have hsp0 := srcAt.fr hsp0 hM (fun r hr => id)
    have hrow21 := fun j u hu => hM.cell (hrow21 j u hu) id
    match j9, ho, hT0, hl, D, DL with
    | 0, ho, hT0, hl, D, DL => exact y0_ ho hT0 (val_wp (m_ rfl E.g5) rfl hM)
    | 1, ho, hT0, hl, D, DL => exact y0_ ho hT0 (val_wp (m_ rfl E.g4) rfl hM)
    | 2, ho, hT0, hl, D, DL => exact y0_ ho hT0 (val_wp (run_index22 (i := i) rfl ((D 0 _ rfl rfl).trans (by rw [hpe21])) (D 1 _ rfl rfl) hlt) rfl hM)
    | 3, ho, hT0, hl, D, DL => exact y0_ ho hT0 (val_wp (fa48_0 rfl (D 2 _ rfl rfl)) rfl hM)
    | 4, ho, hT0, hl, D, DL => exact y0_ ho hT0 (val_wp (run_ldi rfl (D 3 _ rfl rfl) (hrow21 0 _ rfl)) rfl hM)
    | 5, ho, hT0, hl, D, DL => exact y0_ ho hT0 (val_wp ((run_ilss (D 4 _ rfl rfl) rfl Tryz.underlying3 rfl).trans (by rw [hq22] <;> rfl)) rfl hM)
    | 6, ho, hT0, hl, D, DL => exact y0_ ho hT0 (val_wp (m_ rfl (D 5 _ rfl rfl)) rfl hM)
    | 7, ho, hT0, hl, D, DL => exact y2_ ho hT0 E (D 6 _ rfl rfl) hM
    | 8, ho, hT0, hl, D, DL => exact y2_ ho hT0 E (D 6 _ rfl rfl) hM
    | 9, ho, hT0, hl, D, DL => exact y2_ ho hT0 E (D 6 _ rfl rfl) hM
    | 10, ho, hT0, hl, D, DL => exact y2_ ho hT0 E (D 6 _ rfl rfl) hM
    | 11, ho, hT0, hl, D, DL => exact y2_ ho hT0 E (D 6 _ rfl rfl) hM
    | 12, ho, hT0, hl, D, DL => exact y2_ ho hT0 E (D 6 _ rfl rfl) hM
    | 13, ho, hT0, hl, D, DL => exact y2_ ho hT0 E (D 6 _ rfl rfl) hM
    | 14, ho, hT0, hl, D, DL => exact y2_ ho hT0 E (D 6 _ rfl rfl) hM
    | 15, ho, hT0, hl, D, DL => exact y2_ ho hT0 E (D 6 _ rfl rfl) hM
    | 16, ho, hT0, hl, D, DL => exact y2_ ho hT0 E (D 6 _ rfl rfl) hM
    | 17, ho, hT0, hl, D, DL => exact y2_ ho hT0 E (D 6 _ rfl rfl) hM
    | 18, ho, hT0, hl, D, DL => exact y0_ ho hT0 (val_wp (run_pick_t rfl (D 6 _ rfl rfl) rfl) rfl hM)
    | 19, ho, hT0, hl, D, DL => exact y0_ ho hT0 (val_wp (m_ rfl (D 18 _ rfl rfl)) rfl hM)
    | 20, ho, hT0, hl, D, DL => exact y2_ ho hT0 E (D 19 _ rfl rfl) hM
    | 21, ho, hT0, hl, D, DL => exact y2_ ho hT0 E (D 19 _ rfl rfl) hM
    | 22, ho, hT0, hl, D, DL => exact y2_ ho hT0 E (D 19 _ rfl rfl) hM
    | 23, ho, hT0, hl, D, DL => exact y2_ ho hT0 E (D 19 _ rfl rfl) hM
    | 24, ho, hT0, hl, D, DL => exact y2_ ho hT0 E (D 19 _ rfl rfl) hM
    | 25, ho, hT0, hl, D, DL => exact y2_ ho hT0 E (D 19 _ rfl rfl) hM
    | 26, ho, hT0, hl, D, DL => exact y0_ ho hT0 (val_wp (run_pick_t rfl (D 19 _ rfl rfl) rfl) rfl hM)
    | 27, ho, hT0, hl, D, DL => exact y0_ ho hT0 (val_wp (m_ rfl (D 26 _ rfl rfl)) rfl hM)
    | 28, ho, hT0, hl, D, DL => exact y2_ ho hT0 E (D 27 _ rfl rfl) hM
    | 29, ho, hT0, hl, D, DL => exact y2_ ho hT0 E (D 27 _ rfl rfl) hM
    | 30, ho, hT0, hl, D, DL => exact y2_ ho hT0 E (D 27 _ rfl rfl) hM
    | 31, ho, hT0, hl, D, DL => exact y3_ ho hT0 E (D 30 _ rfl rfl) hM
    | 32, ho, hT0, hl, D, DL => exact y3_ ho hT0 E (D 30 _ rfl rfl) hM
    | 33, ho, hT0, hl, D, DL => exact y3_ ho hT0 E (D 30 _ rfl rfl) hM
    | 34, ho, hT0, hl, D, DL => exact y3_ ho hT0 E (D 30 _ rfl rfl) hM
    | 35, ho, hT0, hl, D, DL => exact y3_ ho hT0 E (D 30 _ rfl rfl) hM
    | 36, ho, hT0, hl, D, DL => exact y3_ ho hT0 E (D 30 _ rfl rfl) hM
    | 37, ho, hT0, hl, D, DL => exact y3_ ho hT0 E (D 30 _ rfl rfl) hM
    | 38, ho, hT0, hl, D, DL => exact y3_ ho hT0 E (D 30 _ rfl rfl) hM
    | 39, ho, hT0, hl, D, DL => exact y3_ ho hT0 E (D 30 _ rfl rfl) hM
    | 40, ho, hT0, hl, D, DL => exact y3_ ho hT0 E (D 30 _ rfl rfl) hM
    | 41, ho, hT0, hl, D, DL => exact y3_ ho hT0 E (D 30 _ rfl rfl) hM
    | 42, ho, hT0, hl, D, DL => exact y3_ ho hT0 E (D 30 _ rfl rfl) hM
    | 43, ho, hT0, hl, D, DL => exact y2_ ho hT0 E (D 27 _ rfl rfl) hM
    | 44, ho, hT0, hl, D, DL => exact y0_ ho hT0 (val_wp (run_pick_t rfl (D 27 _ rfl rfl) rfl) rfl hM)
    | j9 + 45, ho, hT0, hl, D, DL => exact absurd hT0 (by simp)
   ·intro a w5 E V hM
    have E := E.add (V 44 _ rfl)
    clear V
    have hsp0 := srcAt.fr hsp0 hM (fun r hr => id)
    have hrow21 := fun j u hu => hM.cell (hrow21 j u hu) id
    have hf := hf.trans hM
    clear hM
    refine t_ (c_t E.g0 (s_ (r_ (ep (v := .bool false) E rfl (a_ rfl rfl) fun a E => n_ (t_ (wr_ (br_ (tr_ (tr_ (br_ (tr_ (ret_tmp (t := 2) rfl E E.g0 ⟨?_, hf⟩))))))))))))
    have qhq20 := of_decide_eq_true hq20
    have qhq22 := of_decide_eq_true hq22
    rw [hv, vl_go hy]
    have h9 : (decide (lastTo l i < y.1) && decide (y.1 < y.2) && decide (y.2 ≤ 10080)) = false := by
     rw [Bool.eq_false_iff]; intro h
     simp only [Bool.and_eq_true, decide_eq_true_eq] at h
     have hl0 : 0 < i → (∀ y, l[i - 1]? = some y → lastTo l i = y.2) := fun h0 y hy => lastTo_pred h0 hy
     have hl1 : i = 0 → lastTo l i = -1 := by rintro rfl; rfl
     first | omega | (have hge : -1 ≤ lastTo l i := hge9; omega)
    rw [h9]; rfl
end Go.Proofs.YtjaffpnegdcjnaaGreatDoor
/- The reference: Open, Next. -/
set_option linter.unusedVariables false
set_option linter.unusedSimpArgs false
namespace Go.Proofs.YtjaffpnegdcjnaaGreatDoor
open Go.RowKit Go.Pl
section
variable {P : Program} {a : Act} {w : World} {fn : Func} {R : Ending → World → Prop} {n : Nat} {L : List (Nat × Value)} {v u : Value}
theorem ret_tmp2 {t t2 : Tmp} (hr : fn.results = #[.tmp t, .tmp t2]) (E : Env n L a) (hv : a.eval (.tmp t) = v) (hu : a.eval (.tmp t2) = u) (h : R (.returned (.tuple #[v, u])) w) : bodyPost P fn R .ret a w := by
 refine ⟨E.df, .tuple #[v, u], ?_, h⟩
 unfold results
 rw [hr]
 have h1 : a.tmps.getD t undef = v := hv
 have h2 : a.tmps.getD t2 undef = u := hu
 rw [Array.getD_eq_getD_getElem?] at h1 h2
 simp [h1, h2, go_sem]
end
end Go.Proofs.YtjaffpnegdcjnaaGreatDoor
/- Library contracts at this program, laid by the kit's programs. -/
namespace Go.Proofs
open Go.Shelf
def Tryz.lays169_ren : Go.Shelf.Ren := ⟨fun | 169 => 71 | n => n, fun | 70 => 101 | 9 => 9 | 0 => 0 | 72 => 104 | 37 => 102 | 127 => 136 | 3 => 3 | 5 => 5 | n => n, fun | n => n⟩
theorem Tryz.lays169 : Go.Proofs.Lays.n169 Tryz.prog Tryz.lays169_ren := {
 mixed := by kernel_rfl
 f169 := Tryz.func71.trans (congrArg some (by kernel_rfl))
 t0 := Tryz.underlying0
 a0 := Tryz.isAgg0
 z0 := Tryz.sizeOf0
 v0 := Tryz.zeroValue0
 t3 := Tryz.underlying3
 a3 := Tryz.isAgg3
 z3 := Tryz.sizeOf3
 v3 := Tryz.zeroValue3
 t9 := Tryz.underlying9
 a9 := Tryz.isAgg9
 z9 := Tryz.sizeOf9
 v9 := Tryz.zeroValue9
 t37 := Tryz.underlying102
 a37 := Tryz.isAgg102
 z37 := Tryz.sizeOf102
 v37 := Tryz.zeroValue102
 t70 := Tryz.underlying101
 a70 := Tryz.isAgg101
 z70 := Tryz.sizeOf101
 v70 := Tryz.zeroValue101
 t72 := Tryz.underlying104
 a72 := Tryz.isAgg104
 z72 := Tryz.sizeOf104
 v72 := Tryz.zeroValue104
 t127 := Tryz.underlying136
 a127 := Tryz.isAgg136
 z127 := Tryz.sizeOf136
 v127 := Tryz.zeroValue136 }
theorem Tryz.Builder_Extra_169 : Builder.Extra Tryz.prog Tryz.lays169_ren := {
 sizeBuilder := by kernel_rfl
 liesBuilder := by kernel_rfl
 t5 := Tryz.underlying5
 a5 := Tryz.isAgg5
 z5 := Tryz.sizeOf5
 v5 := Tryz.zeroValue5
 infoByte := by kernel_rfl
 cellsByte := by kernel_rfl
 sizeByte := by kernel_rfl
 neB5 := by decide }
open Go.RowKit in
/-- (*strings.Builder).String: "String returns the accumulated string.": WHATEVER THE BUILDER HOLDS. (LAID: no walk: one application.) -/
theorem Tryz.Builder_String_any (B b : Nat) (l : List UInt8) (w : World) (h : Lib.IsBuilder 104 5 B b (Lib.byteCells l) w) (hBw : B ≤ w.heap.size) :
  Calls Tryz.prog 71 #[.pointer (some ⟨b, 0, none⟩)] w fun e w' => e = .returned (.string ⟨l.toArray⟩) ∧ Below B w w' := Any.Builder_String_any Tryz.lays169 Tryz.Builder_Extra_169 B b l w h hBw
def Tryz.lays156_ren : Go.Shelf.Ren := ⟨fun | 156 => 45 | 165 => 69 | 166 => 70 | 169 => 71 | 240 => 95 | 241 => 96 | 276 => 105 | 277 => 106 | n => n, fun | 31 => 70 | 9 => 9 | 3 => 3 | 4 => 4 | 0 => 0 | 20 => 20 | 72 => 104 | 76 => 108 | 70 => 101 | 37 => 102 | 75 => 107 | 127 => 136 | 164 => 148 | 5 => 5 | 80 => 110 | n => n, fun | n => n⟩
theorem Tryz.lays156 : Go.Proofs.Lays.n156 Tryz.prog Tryz.lays156_ren := {
 mixed := by kernel_rfl
 f156 := Tryz.func45.trans (congrArg some (by kernel_rfl))
 f165 := Tryz.func69.trans (congrArg some (by kernel_rfl))
 f166 := Tryz.func70.trans (congrArg some (by kernel_rfl))
 f169 := Tryz.func71.trans (congrArg some (by kernel_rfl))
 f240 := Tryz.func95.trans (congrArg some (by kernel_rfl))
 f241 := Tryz.func96.trans (congrArg some (by kernel_rfl))
 f276 := Tryz.func105.trans (congrArg some (by kernel_rfl))
 f277 := Tryz.func106.trans (congrArg some (by kernel_rfl))
 t0 := Tryz.underlying0
 a0 := Tryz.isAgg0
 z0 := Tryz.sizeOf0
 v0 := Tryz.zeroValue0
 t3 := Tryz.underlying3
 a3 := Tryz.isAgg3
 z3 := Tryz.sizeOf3
 v3 := Tryz.zeroValue3
 t4 := Tryz.underlying4
 a4 := Tryz.isAgg4
 z4 := Tryz.sizeOf4
 v4 := Tryz.zeroValue4
 t9 := Tryz.underlying9
 a9 := Tryz.isAgg9
 z9 := Tryz.sizeOf9
 v9 := Tryz.zeroValue9
 t20 := Tryz.underlying20
 a20 := Tryz.isAgg20
 z20 := Tryz.sizeOf20
 v20 := Tryz.zeroValue20
 t31 := Tryz.underlying70
 a31 := Tryz.isAgg70
 z31 := Tryz.sizeOf70
 v31 := Tryz.zeroValue70
 t37 := Tryz.underlying102
 a37 := Tryz.isAgg102
 z37 := Tryz.sizeOf102
 v37 := Tryz.zeroValue102
 t70 := Tryz.underlying101
 a70 := Tryz.isAgg101
 z70 := Tryz.sizeOf101
 v70 := Tryz.zeroValue101
 t72 := Tryz.underlying104
 a72 := Tryz.isAgg104
 z72 := Tryz.sizeOf104
 v72 := Tryz.zeroValue104
 t75 := Tryz.underlying107
 a75 := Tryz.isAgg107
 z75 := Tryz.sizeOf107
 v75 := Tryz.zeroValue107
 t76 := Tryz.underlying108
 a76 := Tryz.isAgg108
 z76 := Tryz.sizeOf108
 v76 := Tryz.zeroValue108
 t127 := Tryz.underlying136
 a127 := Tryz.isAgg136
 z127 := Tryz.sizeOf136
 v127 := Tryz.zeroValue136
 t164 := Tryz.underlying148
 a164 := Tryz.isAgg148
 z164 := Tryz.sizeOf148
 v164 := Tryz.zeroValue148 }
theorem Tryz.Builder_Extra_156 : Builder.Extra Tryz.prog Tryz.lays156_ren := {
 sizeBuilder := by kernel_rfl
 liesBuilder := by kernel_rfl
 t5 := Tryz.underlying5
 a5 := Tryz.isAgg5
 z5 := Tryz.sizeOf5
 v5 := Tryz.zeroValue5
 infoByte := by kernel_rfl
 cellsByte := by kernel_rfl
 sizeByte := by kernel_rfl
 neB5 := by decide }
open Go.RowKit in
/-- No element: the empty string; the world is as it was. (Whatever the slice's address and capacity: a nil slice too.) (LAID: no walk: one application.) -/
theorem Tryz.strings_Join_none (a : Option Addr) (c : Nat) (sep : ByteArray) (w : World) :
  Calls Tryz.prog 45 #[.slice a 0 c, .string sep] w fun e w' => e = .returned (.string ⟨#[]⟩) ∧ w' = w := Any.strings_Join_none Tryz.lays156 Tryz.Builder_Extra_156 a c sep w
open Go.RowKit in
/-- strings.Join: "Join concatenates the elements of its first argument to create a single string. The separator string sep is placed between elements in the resulting string.": HOWEVER MANY ELEMENTS. Below the heap's end the world is as it was. (LAID: no walk: one application.) -/
theorem Tryz.strings_Join (bk o c : Nat) (xs : List ByteArray) (sep : ByteArray) (w : World) (hcells : ∀ (j : Nat) x, xs[j]? = some x → w.cell? ⟨bk, o + j, none⟩ = some (.string x)) (hbk : bk < w.heap.size) (hN : xs.length ≤ 140737488355328) (hcap : xs.length ≤ c) (hlen : (Lib.join (xs.map (·.data.toList)) sep.data.toList).length ≤ 140737488355328) :
  Calls Tryz.prog 45 #[.slice (some ⟨bk, o, none⟩) xs.length c, .string sep] w fun e w' => e = .returned (.string ⟨(Lib.join (xs.map (·.data.toList)) sep.data.toList).toArray⟩) ∧ Below w.heap.size w w' := Any.strings_Join Tryz.lays156 Tryz.Builder_Extra_156 bk o c xs sep w hcells hbk hN hcap hlen
def Tryz.lays137_ren : Go.Shelf.Ren := ⟨fun | 137 => 97 | 217 => 107 | 266 => 118 | n => n, fun | 9 => 9 | 5 => 5 | 3 => 3 | n => n, fun | n => n⟩
theorem Tryz.lays137 : Go.Proofs.Lays.n137 Tryz.prog Tryz.lays137_ren := {
 mixed := by kernel_rfl
 f137 := Tryz.func97.trans (congrArg some (by kernel_rfl))
 f217 := Tryz.func107.trans (congrArg some (by kernel_rfl))
 f266 := Tryz.func118.trans (congrArg some (by kernel_rfl))
 t3 := Tryz.underlying3
 a3 := Tryz.isAgg3
 z3 := Tryz.sizeOf3
 v3 := Tryz.zeroValue3
 t5 := Tryz.underlying5
 a5 := Tryz.isAgg5
 z5 := Tryz.sizeOf5
 v5 := Tryz.zeroValue5
 t9 := Tryz.underlying9
 a9 := Tryz.isAgg9
 z9 := Tryz.sizeOf9
 v9 := Tryz.zeroValue9 }
open Go.RowKit in
/-- strings.IndexByte: "IndexByte returns the index of the first instance of c in s, or -1 if c is not present in s.": IT RETURNS 'Lib.indexByte s c'; the world is as it was. (LAID: no walk: one application.) -/
theorem Tryz.strings_IndexByte (s : ByteArray) (c : Int) (w : World) :
  Calls Tryz.prog 97 #[.string s, .int .u8 c] w fun e w' => e = .returned (.int .i64 (Lib.indexByte s.data.toList c.toNat.toUInt8)) ∧ w' = w := Any.strings_IndexByte Tryz.lays137 s c w
def Tryz.lays122_ren : Go.Shelf.Ren := ⟨fun | 122 => 51 | 215 => 76 | n => n, fun | 3 => 3 | 4 => 4 | n => n, fun | n => n⟩
theorem Tryz.lays122 : Go.Proofs.Lays.n122 Tryz.prog Tryz.lays122_ren := {
 mixed := by kernel_rfl
 f122 := Tryz.func51.trans (congrArg some (by kernel_rfl))
 f215 := Tryz.func76.trans (congrArg some (by kernel_rfl))
 t3 := Tryz.underlying3
 a3 := Tryz.isAgg3
 z3 := Tryz.sizeOf3
 v3 := Tryz.zeroValue3
 t4 := Tryz.underlying4
 a4 := Tryz.isAgg4
 z4 := Tryz.sizeOf4
 v4 := Tryz.zeroValue4 }
open Go.RowKit in
/-- cmp.Compare at int: "Compare returns -1 if x is less than y, 0 if x equals y, +1 if x is greater than y.": IT RETURNS 'Lib.compareInt x y'; the world is as it was. (LAID: no walk: one application.) -/
theorem Tryz.cmp_Compare_int (x y : Int) (w : World) :
  Calls Tryz.prog 51 #[.int .i64 x, .int .i64 y] w fun e w' => e = .returned (.int .i64 (Lib.compareInt x y)) ∧ w' = w := Any.cmp_Compare_int Tryz.lays122 x y w
def Tryz.lays172_ren : Go.Shelf.Ren := ⟨fun | 172 => 108 | 244 => 119 | 245 => 120 | 247 => 135 | 279 => 136 | 280 => 137 | 281 => 138 | 282 => 139 | 287 => 147 | 316 => 148 | 171 => 68 | 205 => 149 | 321 => 151 | 322 => 152 | 243 => 94 | 246 => 104 | 283 => 114 | 284 => 115 | 285 => 116 | 286 => 117 | 129 => 130 | 317 => 131 | 318 => 132 | 319 => 133 | 320 => 134 | 337 => 145 | 338 => 146 | n => n, fun | 9 => 9 | 3 => 3 | 75 => 107 | 76 => 108 | 4 => 4 | 5 => 5 | 167 => 186 | 37 => 102 | 0 => 0 | 85 => 187 | 2 => 2 | 168 => 189 | 53 => 166 | 175 => 198 | 46 => 117 | 210 => 202 | 127 => 136 | 145 => 211 | 143 => 209 | 21 => 21 | 171 => 165 | 173 => 169 | 212 => 184 | 51 => 50 | 20 => 20 | 213 => 185 | 232 => 206 | 233 => 207 | 80 => 110 | n => n, fun | 15 => 4 | 16 => 5 | 17 => 3 | 18 => 6 | 19 => 7 | n => n⟩
theorem Tryz.lays172 : Go.Proofs.Lays.n172 Tryz.prog Tryz.lays172_ren := {
 mixed := by kernel_rfl
 f129 := Tryz.func130.trans (congrArg some (by kernel_rfl))
 f171 := Tryz.func68.trans (congrArg some (by kernel_rfl))
 f172 := Tryz.func108.trans (congrArg some (by kernel_rfl))
 f205 := Tryz.func149.trans (congrArg some (by kernel_rfl))
 f243 := Tryz.func94.trans (congrArg some (by kernel_rfl))
 f244 := Tryz.func119.trans (congrArg some (by kernel_rfl))
 f245 := Tryz.func120.trans (congrArg some (by kernel_rfl))
 f246 := Tryz.func104.trans (congrArg some (by kernel_rfl))
 f247 := Tryz.func135.trans (congrArg some (by kernel_rfl))
 f279 := Tryz.func136.trans (congrArg some (by kernel_rfl))
 f280 := Tryz.func137.trans (congrArg some (by kernel_rfl))
 f281 := Tryz.func138.trans (congrArg some (by kernel_rfl))
 f282 := Tryz.func139.trans (congrArg some (by kernel_rfl))
 f283 := Tryz.func114.trans (congrArg some (by kernel_rfl))
 f284 := Tryz.func115.trans (congrArg some (by kernel_rfl))
 f285 := Tryz.func116.trans (congrArg some (by kernel_rfl))
 f286 := Tryz.func117.trans (congrArg some (by kernel_rfl))
 f287 := Tryz.func147.trans (congrArg some (by kernel_rfl))
 f316 := Tryz.func148.trans (congrArg some (by kernel_rfl))
 f317 := Tryz.func131.trans (congrArg some (by kernel_rfl))
 f318 := Tryz.func132.trans (congrArg some (by kernel_rfl))
 f319 := Tryz.func133.trans (congrArg some (by kernel_rfl))
 f320 := Tryz.func134.trans (congrArg some (by kernel_rfl))
 f321 := Tryz.func151.trans (congrArg some (by kernel_rfl))
 f322 := Tryz.func152.trans (congrArg some (by kernel_rfl))
 f337 := Tryz.func145.trans (congrArg some (by kernel_rfl))
 f338 := Tryz.func146.trans (congrArg some (by kernel_rfl))
 t0 := Tryz.underlying0
 a0 := Tryz.isAgg0
 z0 := Tryz.sizeOf0
 v0 := Tryz.zeroValue0
 t2 := Tryz.underlying2
 a2 := Tryz.isAgg2
 z2 := Tryz.sizeOf2
 v2 := Tryz.zeroValue2
 t3 := Tryz.underlying3
 a3 := Tryz.isAgg3
 z3 := Tryz.sizeOf3
 v3 := Tryz.zeroValue3
 t4 := Tryz.underlying4
 a4 := Tryz.isAgg4
 z4 := Tryz.sizeOf4
 v4 := Tryz.zeroValue4
 t5 := Tryz.underlying5
 a5 := Tryz.isAgg5
 z5 := Tryz.sizeOf5
 v5 := Tryz.zeroValue5
 t9 := Tryz.underlying9
 a9 := Tryz.isAgg9
 z9 := Tryz.sizeOf9
 v9 := Tryz.zeroValue9
 t20 := Tryz.underlying20
 a20 := Tryz.isAgg20
 z20 := Tryz.sizeOf20
 v20 := Tryz.zeroValue20
 t21 := Tryz.underlying21
 a21 := Tryz.isAgg21
 z21 := Tryz.sizeOf21
 v21 := Tryz.zeroValue21
 t37 := Tryz.underlying102
 a37 := Tryz.isAgg102
 z37 := Tryz.sizeOf102
 v37 := Tryz.zeroValue102
 t46 := Tryz.underlying117
 a46 := Tryz.isAgg117
 z46 := Tryz.sizeOf117
 v46 := Tryz.zeroValue117
 t51 := Tryz.underlying50
 a51 := Tryz.isAgg50
 z51 := Tryz.sizeOf50
 v51 := Tryz.zeroValue50
 t53 := Tryz.underlying166
 a53 := Tryz.isAgg166
 z53 := Tryz.sizeOf166
 v53 := Tryz.zeroValue166
 t75 := Tryz.underlying107
 a75 := Tryz.isAgg107
 z75 := Tryz.sizeOf107
 v75 := Tryz.zeroValue107
 t76 := Tryz.underlying108
 a76 := Tryz.isAgg108
 z76 := Tryz.sizeOf108
 v76 := Tryz.zeroValue108
 t85 := Tryz.underlying187
 a85 := Tryz.isAgg187
 z85 := Tryz.sizeOf187
 v85 := Tryz.zeroValue187
 t127 := Tryz.underlying136
 a127 := Tryz.isAgg136
 z127 := Tryz.sizeOf136
 v127 := Tryz.zeroValue136
 t143 := Tryz.underlying209
 a143 := Tryz.isAgg209
 z143 := Tryz.sizeOf209
 v143 := Tryz.zeroValue209
 t145 := Tryz.underlying211
 a145 := Tryz.isAgg211
 z145 := Tryz.sizeOf211
 v145 := Tryz.zeroValue211
 t167 := Tryz.underlying186
 a167 := Tryz.isAgg186
 z167 := Tryz.sizeOf186
 v167 := Tryz.zeroValue186
 t168 := Tryz.underlying189
 a168 := Tryz.isAgg189
 z168 := Tryz.sizeOf189
 v168 := Tryz.zeroValue189
 t171 := Tryz.underlying165
 a171 := Tryz.isAgg165
 z171 := Tryz.sizeOf165
 v171 := Tryz.zeroValue165
 t173 := Tryz.underlying169
 a173 := Tryz.isAgg169
 z173 := Tryz.sizeOf169
 v173 := Tryz.zeroValue169
 t175 := Tryz.underlying198
 a175 := Tryz.isAgg198
 z175 := Tryz.sizeOf198
 v175 := Tryz.zeroValue198
 t210 := Tryz.underlying202
 a210 := Tryz.isAgg202
 z210 := Tryz.sizeOf202
 v210 := Tryz.zeroValue202
 t212 := Tryz.underlying184
 a212 := Tryz.isAgg184
 z212 := Tryz.sizeOf184
 v212 := Tryz.zeroValue184
 t213 := Tryz.underlying185
 a213 := Tryz.isAgg185
 z213 := Tryz.sizeOf185
 t232 := Tryz.underlying206
 a232 := Tryz.isAgg206
 z232 := Tryz.sizeOf206
 v232 := Tryz.zeroValue206
 t233 := Tryz.underlying207
 a233 := Tryz.isAgg207
 z233 := Tryz.sizeOf207
 v233 := Tryz.zeroValue207
 g15 := by kernel_rfl
 g16 := by kernel_rfl
 g17 := by kernel_rfl
 g18 := by kernel_rfl
 g19 := by kernel_rfl }
open Go.RowKit in
/-- strconv.Atoi: "Atoi is equivalent to ParseInt(s, 10, 0), converted to type int.": AT A DECIMAL NUMERAL OF AT MOST 18 BYTES: its value, and a nil error. The world behind the call: the one new row that the library's '[]byte(s)' lays. (LAID: no walk: one application.) -/
theorem Tryz.strconv_Atoi (s : ByteArray) (n : Int) (hl : s.size ≤ 18) (h : Lib.atoi s.data.toList = some n) (w : World) :
  Calls Tryz.prog 108 #[.string s] w fun e w' => e = .returned (.tuple #[.int .i64 n, .nilIface]) ∧ ∃ t, w' = Lib.bytesWorld w 5 t := Any.strconv_Atoi Tryz.lays172 s n hl h w
def Tryz.laysM171_ren : Go.Shelf.Ren := ⟨fun | 171 => 68 | 243 => 94 | 246 => 104 | 283 => 114 | 284 => 115 | 285 => 116 | 286 => 117 | 129 => 130 | 317 => 131 | 318 => 132 | 319 => 133 | 320 => 134 | 337 => 145 | 338 => 146 | n => n, fun | 3 => 3 | 9 => 9 | 2 => 2 | 4 => 4 | 171 => 165 | 0 => 0 | 53 => 166 | 37 => 102 | 5 => 5 | 173 => 169 | 212 => 184 | 51 => 50 | 20 => 20 | 213 => 185 | 46 => 117 | 232 => 206 | 233 => 207 | n => n, fun | 17 => 3 | 18 => 6 | 19 => 7 | n => n⟩
theorem Tryz.laysM171 : Go.Proofs.LaysM.n171 Tryz.prog Tryz.laysM171_ren := {
 mixed := by kernel_rfl
 f129 := Tryz.func130.trans (congrArg some (by kernel_rfl))
 f171 := Tryz.func68.trans (congrArg some (by kernel_rfl))
 f243 := Tryz.func94.trans (congrArg some (by kernel_rfl))
 f246 := Tryz.func104.trans (congrArg some (by kernel_rfl))
 f283 := Tryz.func114.trans (congrArg some (by kernel_rfl))
 f284 := Tryz.func115.trans (congrArg some (by kernel_rfl))
 f285 := Tryz.func116.trans (congrArg some (by kernel_rfl))
 f286 := Tryz.func117.trans (congrArg some (by kernel_rfl))
 f317 := Tryz.func131.trans (congrArg some (by kernel_rfl))
 f318 := Tryz.func132.trans (congrArg some (by kernel_rfl))
 f319 := Tryz.func133.trans (congrArg some (by kernel_rfl))
 f320 := Tryz.func134.trans (congrArg some (by kernel_rfl))
 f337 := Tryz.func145.trans (congrArg some (by kernel_rfl))
 f338 := Tryz.func146.trans (congrArg some (by kernel_rfl))
 t0 := Tryz.underlying0
 a0 := Tryz.isAgg0
 z0 := Tryz.sizeOf0
 v0 := Tryz.zeroValue0
 t2 := Tryz.underlying2
 a2 := Tryz.isAgg2
 z2 := Tryz.sizeOf2
 v2 := Tryz.zeroValue2
 t3 := Tryz.underlying3
 a3 := Tryz.isAgg3
 z3 := Tryz.sizeOf3
 v3 := Tryz.zeroValue3
 t4 := Tryz.underlying4
 a4 := Tryz.isAgg4
 z4 := Tryz.sizeOf4
 v4 := Tryz.zeroValue4
 t5 := Tryz.underlying5
 a5 := Tryz.isAgg5
 z5 := Tryz.sizeOf5
 v5 := Tryz.zeroValue5
 t9 := Tryz.underlying9
 a9 := Tryz.isAgg9
 z9 := Tryz.sizeOf9
 v9 := Tryz.zeroValue9
 t20 := Tryz.underlying20
 a20 := Tryz.isAgg20
 z20 := Tryz.sizeOf20
 v20 := Tryz.zeroValue20
 t37 := Tryz.underlying102
 a37 := Tryz.isAgg102
 z37 := Tryz.sizeOf102
 v37 := Tryz.zeroValue102
 t46 := Tryz.underlying117
 a46 := Tryz.isAgg117
 z46 := Tryz.sizeOf117
 v46 := Tryz.zeroValue117
 t51 := Tryz.underlying50
 a51 := Tryz.isAgg50
 z51 := Tryz.sizeOf50
 v51 := Tryz.zeroValue50
 t53 := Tryz.underlying166
 a53 := Tryz.isAgg166
 z53 := Tryz.sizeOf166
 v53 := Tryz.zeroValue166
 t171 := Tryz.underlying165
 a171 := Tryz.isAgg165
 z171 := Tryz.sizeOf165
 v171 := Tryz.zeroValue165
 t173 := Tryz.underlying169
 a173 := Tryz.isAgg169
 z173 := Tryz.sizeOf169
 v173 := Tryz.zeroValue169
 t212 := Tryz.underlying184
 a212 := Tryz.isAgg184
 z212 := Tryz.sizeOf184
 v212 := Tryz.zeroValue184
 t213 := Tryz.underlying185
 a213 := Tryz.isAgg185
 z213 := Tryz.sizeOf185
 t232 := Tryz.underlying206
 a232 := Tryz.isAgg206
 z232 := Tryz.sizeOf206
 v232 := Tryz.zeroValue206
 t233 := Tryz.underlying207
 a233 := Tryz.isAgg207
 z233 := Tryz.sizeOf207
 v233 := Tryz.zeroValue207
 g17 := by kernel_rfl
 g18 := by kernel_rfl
 g19 := by kernel_rfl
 i0 := by kernel_rfl
 i2 := by kernel_rfl
 i3 := by kernel_rfl
 i4 := by kernel_rfl
 i5 := by kernel_rfl
 i9 := by kernel_rfl
 i20 := by kernel_rfl
 i37 := by kernel_rfl
 i46 := by kernel_rfl
 i51 := by kernel_rfl
 i53 := by kernel_rfl
 i171 := by kernel_rfl
 i173 := by kernel_rfl
 i212 := by kernel_rfl
 i232 := by kernel_rfl
 i233 := by kernel_rfl
 m17 := by kernel_rfl
 m18 := by kernel_rfl
 m19 := by kernel_rfl }
open Go.RowKit Go.Sort Go.Lib in
/-- strconv.Itoa: "Itoa is equivalent to FormatInt(int64(i), 10).": i's DECIMAL NUMERAL ('Lib.itoa': a '-' where i is negative, then the digits), FOR EVERY int. The world behind the call: the world before it, new blocks behind the heap (the library's 'var a [24]byte'), draws. (LAID: no walk: one application.) -/
theorem Tryz.strconv_Itoa (n : Int) (h0 : -9223372036854775808 ≤ n) (h1 : n ≤ 9223372036854775807) (w : World) (htab : Lib.TabIs Tryz.prog w "internal/strconv.uint64pow10" .u64 Lib.pow10Tab) :
  Calls Tryz.prog 68 #[.int .i64 n] w fun e w' => e = .returned (.string ⟨(Lib.itoa n).toArray⟩) ∧ ∃ k os, w' = grow (w.drewN k) os := Any.strconv_Itoa Tryz.laysM171 n h0 h1 w htab
def Tryz.lays157_ren : Go.Shelf.Ren := ⟨fun | 157 => 67 | 229 => 92 | 199 => 93 | 261 => 103 | 311 => 112 | 312 => 113 | n => n, fun | 9 => 9 | 31 => 70 | 3 => 3 | 5 => 5 | 4 => 4 | 119 => 111 | 0 => 0 | 40 => 135 | 152 => 142 | 21 => 21 | 154 => 144 | 51 => 50 | 141 => 146 | 196 => 157 | 193 => 154 | 198 => 160 | 49 => 158 | 194 => 155 | 201 => 163 | 226 => 180 | 46 => 117 | 227 => 181 | n => n, fun | 0 => 0 | 6 => 1 | n => n⟩
theorem Tryz.lays157 : Go.Proofs.Lays.n157 Tryz.prog Tryz.lays157_ren := {
 mixed := by kernel_rfl
 f157 := Tryz.func67.trans (congrArg some (by kernel_rfl))
 f199 := Tryz.func93.trans (congrArg some (by kernel_rfl))
 f229 := Tryz.func92.trans (congrArg some (by kernel_rfl))
 f261 := Tryz.func103.trans (congrArg some (by kernel_rfl))
 f311 := Tryz.func112.trans (congrArg some (by kernel_rfl))
 f312 := Tryz.func113.trans (congrArg some (by kernel_rfl))
 t0 := Tryz.underlying0
 a0 := Tryz.isAgg0
 z0 := Tryz.sizeOf0
 v0 := Tryz.zeroValue0
 t3 := Tryz.underlying3
 a3 := Tryz.isAgg3
 z3 := Tryz.sizeOf3
 v3 := Tryz.zeroValue3
 t4 := Tryz.underlying4
 a4 := Tryz.isAgg4
 z4 := Tryz.sizeOf4
 v4 := Tryz.zeroValue4
 t5 := Tryz.underlying5
 a5 := Tryz.isAgg5
 z5 := Tryz.sizeOf5
 v5 := Tryz.zeroValue5
 t9 := Tryz.underlying9
 a9 := Tryz.isAgg9
 z9 := Tryz.sizeOf9
 v9 := Tryz.zeroValue9
 t21 := Tryz.underlying21
 a21 := Tryz.isAgg21
 z21 := Tryz.sizeOf21
 v21 := Tryz.zeroValue21
 t31 := Tryz.underlying70
 a31 := Tryz.isAgg70
 z31 := Tryz.sizeOf70
 v31 := Tryz.zeroValue70
 t40 := Tryz.underlying135
 a40 := Tryz.isAgg135
 z40 := Tryz.sizeOf135
 v40 := Tryz.zeroValue135
 t46 := Tryz.underlying117
 a46 := Tryz.isAgg117
 z46 := Tryz.sizeOf117
 v46 := Tryz.zeroValue117
 t49 := Tryz.underlying158
 a49 := Tryz.isAgg158
 z49 := Tryz.sizeOf158
 v49 := Tryz.zeroValue158
 t51 := Tryz.underlying50
 a51 := Tryz.isAgg50
 z51 := Tryz.sizeOf50
 v51 := Tryz.zeroValue50
 t119 := Tryz.underlying111
 a119 := Tryz.isAgg111
 z119 := Tryz.sizeOf111
 t141 := Tryz.underlying146
 a141 := Tryz.isAgg146
 z141 := Tryz.sizeOf146
 v141 := Tryz.zeroValue146
 t152 := Tryz.underlying142
 a152 := Tryz.isAgg142
 z152 := Tryz.sizeOf142
 v152 := Tryz.zeroValue142
 t154 := Tryz.underlying144
 a154 := Tryz.isAgg144
 z154 := Tryz.sizeOf144
 v154 := Tryz.zeroValue144
 t193 := Tryz.underlying154
 a193 := Tryz.isAgg154
 z193 := Tryz.sizeOf154
 v193 := Tryz.zeroValue154
 t194 := Tryz.underlying155
 a194 := Tryz.isAgg155
 z194 := Tryz.sizeOf155
 v194 := Tryz.zeroValue155
 t196 := Tryz.underlying157
 a196 := Tryz.isAgg157
 z196 := Tryz.sizeOf157
 v196 := Tryz.zeroValue157
 t198 := Tryz.underlying160
 a198 := Tryz.isAgg160
 z198 := Tryz.sizeOf160
 v198 := Tryz.zeroValue160
 t201 := Tryz.underlying163
 a201 := Tryz.isAgg163
 z201 := Tryz.sizeOf163
 v201 := Tryz.zeroValue163
 t226 := Tryz.underlying180
 a226 := Tryz.isAgg180
 z226 := Tryz.sizeOf180
 v226 := Tryz.zeroValue180
 t227 := Tryz.underlying181
 a227 := Tryz.isAgg181
 z227 := Tryz.sizeOf181
 v227 := Tryz.zeroValue181
 g0 := by kernel_rfl
 g6 := by kernel_rfl }
open Go.RowKit Go.Lib in
/-- strings.Fields, the table by 'Lib.TabIs' (as strings.TrimSpace's contract). 'hg': the table's number, by its name: at a dump 'by kernel_rfl'. (LAID: no walk: one application.) -/
theorem Tryz.strings_Fields (s : ByteArray) (w : World) (hs : s.size < 4294967281) (hascii : ∀ (j : Nat) b, s.data.toList[j]? = some b → b.toNat < 128) (htab : Lib.TabIs Tryz.prog w "strings.asciiSpace" .u8 Lib.asciiSpaceTab) :
  Calls Tryz.prog 67 #[.string s] w fun e w' =>
   e = .returned (.slice (some ⟨w.heap.size, 0, none⟩) (Lib.fields s.data.toList).length (Lib.fields s.data.toList).length) ∧ w' = w.alloc (.cells ((Lib.fields s.data.toList).map fun l => Value.string ⟨l.toArray⟩).toArray 9) := Any.strings_Fields Tryz.lays157 (by kernel_rfl) (by kernel_rfl) s w hs hascii htab
def Tryz.lays109_ren : Go.Shelf.Ren := ⟨fun | 109 => 79 | n => n, fun | 31 => 70 | 9 => 9 | 3 => 3 | 0 => 0 | 4 => 4 | n => n, fun | n => n⟩
theorem Tryz.lays109 : Go.Proofs.Lays.n109 Tryz.prog Tryz.lays109_ren := {
 mixed := by kernel_rfl
 f109 := Tryz.func79.trans (congrArg some (by kernel_rfl))
 t0 := Tryz.underlying0
 a0 := Tryz.isAgg0
 z0 := Tryz.sizeOf0
 v0 := Tryz.zeroValue0
 t3 := Tryz.underlying3
 a3 := Tryz.isAgg3
 z3 := Tryz.sizeOf3
 v3 := Tryz.zeroValue3
 t4 := Tryz.underlying4
 a4 := Tryz.isAgg4
 z4 := Tryz.sizeOf4
 v4 := Tryz.zeroValue4
 t9 := Tryz.underlying9
 a9 := Tryz.isAgg9
 z9 := Tryz.sizeOf9
 v9 := Tryz.zeroValue9
 t31 := Tryz.underlying70
 a31 := Tryz.isAgg70
 z31 := Tryz.sizeOf70
 v31 := Tryz.zeroValue70 }
open Go.Lib in
/-- slices.Index at []string: "Index returns the index of the first occurrence of v in s, or -1 if not present.": IT RETURNS 'Lib.idxOfS (the elements) v'; the world is as it was. 'zs': what the cells behind the slice's address hold (its spare capacity too, if you have it); 'zs.take n': its elements. (LAID: no walk: one application.) -/
theorem Tryz.slices_Index_string (b off n c : Nat) (zs : List ByteArray) (x : ByteArray) (w : World) (hz : n ≤ zs.length) (hbig : n ≤ 9223372036854775807) (hc : ∀ j, j < zs.length → w.cell? ⟨b, off + j, none⟩ = some (.string (zs.getD j ByteArray.empty))) :
  Calls Tryz.prog 79 #[.slice (some ⟨b, off, none⟩) n c, .string x] w fun e w' => e = .returned (.int .i64 (Lib.idxOfS (zs.take n) x)) ∧ w' = w := Any.slices_Index_string Tryz.lays109 b off n c zs x w hz hbig hc
def Tryz.lays110_ren : Go.Shelf.Ren := ⟨fun | 110 => 78 | 109 => 79 | n => n, fun | 31 => 70 | 9 => 9 | 4 => 4 | 3 => 3 | 0 => 0 | n => n, fun | n => n⟩
theorem Tryz.lays110 : Go.Proofs.Lays.n110 Tryz.prog Tryz.lays110_ren := {
 mixed := by kernel_rfl
 f109 := Tryz.func79.trans (congrArg some (by kernel_rfl))
 f110 := Tryz.func78.trans (congrArg some (by kernel_rfl))
 t0 := Tryz.underlying0
 a0 := Tryz.isAgg0
 z0 := Tryz.sizeOf0
 v0 := Tryz.zeroValue0
 t3 := Tryz.underlying3
 a3 := Tryz.isAgg3
 z3 := Tryz.sizeOf3
 v3 := Tryz.zeroValue3
 t4 := Tryz.underlying4
 a4 := Tryz.isAgg4
 z4 := Tryz.sizeOf4
 v4 := Tryz.zeroValue4
 t9 := Tryz.underlying9
 a9 := Tryz.isAgg9
 z9 := Tryz.sizeOf9
 v9 := Tryz.zeroValue9
 t31 := Tryz.underlying70
 a31 := Tryz.isAgg70
 z31 := Tryz.sizeOf70
 v31 := Tryz.zeroValue70 }
open Go.Lib in
/-- slices.Contains at []string: "Contains reports whether v is present in s.": IT RETURNS 'Lib.containsS (the elements) v', which is true just where v is among them ('Lib.containsS_iff'); the world is as it was. ITS CALLEE slices.Index IS MET BY ITS OWN CONTRACT OFF THE SHELF (lay that first): no loop is walked here. (LAID: no walk: one application.) -/
theorem Tryz.slices_Contains_string (b off n c : Nat) (zs : List ByteArray) (x : ByteArray) (w : World) (hz : n ≤ zs.length) (hbig : n ≤ 9223372036854775807) (hc : ∀ j, j < zs.length → w.cell? ⟨b, off + j, none⟩ = some (.string (zs.getD j ByteArray.empty))) :
  Calls Tryz.prog 78 #[.slice (some ⟨b, off, none⟩) n c, .string x] w fun e w' => e = .returned (.bool (Lib.containsS (zs.take n) x)) ∧ w' = w := Any.slices_Contains_string Tryz.lays110 b off n c zs x w hz hbig hc
open Go.Lib in
/-- The same at a slice of length 0, a nil one too. (LAID: no walk: one application.) -/
theorem Tryz.slices_Contains_string_empty (a : Option Addr) (c : Nat) (x : ByteArray) (w : World) :
  Calls Tryz.prog 78 #[.slice a 0 c, .string x] w fun e w' => e = .returned (.bool false) ∧ w' = w := Any.slices_Contains_string_empty Tryz.lays110 a c x w
end Go.Proofs
/- Next: the search. -/
set_option linter.unusedVariables false
set_option linter.unusedSimpArgs false
namespace Go.Proofs.YtjaffpnegdcjnaaGreatDoor
open Go.RowKit Go.Pl
section
variable {P : Program} {o : Oper} {w : World} {ρ : Operand → Value} {f : FuncId} {ts : Array TypeId} {x y z : Operand} {u v : Value} {cs bs : Array Value}
theorem run_callf1 (eg : ∀ args w, (callFunc f args).run P w = .ok (.enter f args) w) (ho : o.op = .call ⟨.value z, #[x], ts⟩) (hf : ρ z = .func (.func f) #[] cs) (hx : ρ x = v) (ha : #[v] ++ cs = bs) : (execOp ρ o).run P w = .ok (.enter f bs) w := by
 subst ha; simp [execOp, ho, hf, hx, eg, resolve, Deferred.ofValue, invoke, go_sem]
end
section
variable {o : Oper} {w : World} {ρ : Operand → Value} {x y : Operand} {m n : Int}
end
theorem run_ext0 {o : Oper} {w : World} {ρ : Operand → Value} {x : Operand} {u v : Value} (ho : o.op = .extract x 0) (hx : ρ x = .tuple #[u, v]) : (execOp ρ o).run Tryz.prog w = .ok (.value u) w := by simp [execOp, ho, hx, go_sem]
theorem run_ext1 {o : Oper} {w : World} {ρ : Operand → Value} {x : Operand} {u v : Value} (ho : o.op = .extract x 1) (hx : ρ x = .tuple #[u, v]) : (execOp ρ o).run Tryz.prog w = .ok (.value v) w := by simp [execOp, ho, hx, go_sem]
theorem cmp_lt {x y : Int} : decide (Lib.compareInt x y < 0) = decide (x < y) := by
 unfold Lib.compareInt; split
 ·simp [*]
 ·split <;> simp [*]
end Go.Proofs.YtjaffpnegdcjnaaGreatDoor
/- Next, Open. -/
set_option linter.unusedVariables false
set_option linter.unusedSimpArgs false
namespace Go.Proofs.YtjaffpnegdcjnaaGreatDoor
open Go.RowKit Go.Pl
end Go.Proofs.YtjaffpnegdcjnaaGreatDoor
/- Rows of one's own at this program's types; a week's block. -/
set_option linter.unusedVariables false
set_option linter.unusedSimpArgs false
namespace Go.Proofs.YtjaffpnegdcjnaaGreatDoor
open Go.RowKit Go.Pl
theorem info_parts4 {t : TypeId} {z : Value} {n m : Nat} (h : (Tryz.prog.info? t).map (fun i => (i.zero, i.size, i.bytes)) = some (some z, n, m)) : ∃ i, Tryz.prog.info? t = some i ∧ i.zero = some z ∧ i.size = n ∧ i.bytes = m := by
 cases hi : Tryz.prog.info? t with
 | none => rw [hi] at h; cases h
 | some i =>
  rw [hi] at h
  simp only [Option.map_some, Option.some.injEq, Prod.mk.injEq] at h
  exact ⟨i, rfl, h.1, h.2.1, h.2.2⟩
abbrev oSp := ow spL 2 48
abbrev oTk := ow tkL 3 38
abbrev oSt := ow stL 1 9
theorem info48z : (Tryz.prog.info? 48).map (fun i => (i.zero, i.size, i.bytes)) = some (some (.agg (spA (0, 0))), 2, 16) := by kernel_rfl
theorem info38z : (Tryz.prog.info? 38).map (fun i => (i.zero, i.size, i.bytes)) = some (some (.agg (tkA (0, [], 0))), 3, 32) := by kernel_rfl
theorem info9z : (Tryz.prog.info? 9).map (fun i => (i.zero, i.size, i.bytes)) = some (some (.string (ofL [])), 1, 16) := by kernel_rfl
theorem ow.Src {α : Type} {f : α → List Value} {c : Nat} {E : TypeId} (hf : ∀ x, (f x).length = c) {w : World} {B : Nat} {v : Value} {L : List α} (h : ow f c E w B v L) : Src f c w v L := ow.src hf h
section
variable {O : Array Oper} {Q : Exit → Act → World → Prop} {rest : List Oper} {o : Oper} {a : Act} {w : World} {n d : Nat} {L : List (Nat × Value)} {x y : Operand} {b : Nat} {ds : List Deferred}
theorem env_app22 {B G : Nat} {v : Value} {A S : List (Sp)} {p : Option Addr} {cap : Nat} (En : EnvD ds n L a) (hd : o.dst = some d) (hn : d < n) (hfr : (L.map (·.1)).contains d = false) (hg : o.guard = none) (ho : o.op = .call { callee := .builtin .append, args := #[x, y], argTypes := #[22, 22] }) (hx : a.eval x = v) (hv : oSp w B v A) (hy : a.eval y = .slice p S.length cap) (hsrc : srcAt spL 2 w G p S) (hcp : p = none → cap = 0) (hl : A.length + S.length ≤ 400000000) (hB : B ≤ w.heap.size)
  (k : ∀ a' w' v', oSp w' B v' (A ++ S) → Fr (fun k => v.ownBlock = some k) w w' → (v'.ownBlock = v.ownBlock ∨ v'.ownBlock = some w.heap.size) → EnvD ds n ((d, v') :: L) a' → wpList Tryz.prog O Q rest a' w') : wpList Tryz.prog O Q (o :: rest) a w := by
 obtain ⟨i0, hi0, hz0, hz1, hz2⟩ := info_parts4 info48z
 exact env_appR spL_len (by omega) spL_one Tryz.underlying22 hi0 hz0 hz1 hz2 rfl (by decide) En hd hn hfr hg ho hx hv hy hsrc hcp hl hB k
theorem run_one22 {ρ : Operand → Value} {s : Sp} (ho : o.op = .buildSlice 22 1 #[(0, x)]) (hx : ρ x = .agg (spA s)) : (execOp ρ o).run Tryz.prog w = .ok (.value (.slice (some ⟨w.heap.size, 0, none⟩) 1 1)) (w.alloc (.cells (spL s).toArray 48)) := by
 simp [execOp, ho, hx, go_sem, spL]
theorem env_one22 {s : Sp} (En : EnvD ds n L a) (hd : o.dst = some d) (hn : d < n) (hf : (L.map (·.1)).contains d = false) (hw : Region.wanted o (yielded O a.tmps) = true) (ho : o.op = .buildSlice 22 1 #[(0, x)]) (hx : a.eval x = .agg (spA s))
  (k : ∀ a' w' b, w.heap.size = b → w'.heap[b]? = some (.cells (spL s).toArray 48 (0, 0)) → Fr (fun _ => False) w w' → EnvD ds n ((d, .slice (some ⟨b, 0, none⟩) 1 1) :: L) a' → wpList Tryz.prog O Q rest a' w') : wpList Tryz.prog O Q (o :: rest) a w :=
 env_put En hd hn hf hw (run_one22 ho hx) fun a' E' => k a' _ _ rfl (blk_alloc_new _ _) ((Fr.refl _ _).alloc _) E'
theorem env_app34 {B G : Nat} {v : Value} {A S : List (Tok Int)} {p : Option Addr} {cap : Nat} (En : EnvD ds n L a) (hd : o.dst = some d) (hn : d < n) (hfr : (L.map (·.1)).contains d = false) (hg : o.guard = none) (ho : o.op = .call { callee := .builtin .append, args := #[x, y], argTypes := #[34, 34] }) (hx : a.eval x = v) (hv : oTk w B v A) (hy : a.eval y = .slice p S.length cap) (hsrc : srcAt tkL 3 w G p S) (hcp : p = none → cap = 0) (hl : A.length + S.length ≤ 400000000) (hB : B ≤ w.heap.size)
  (k : ∀ a' w' v', oTk w' B v' (A ++ S) → Fr (fun k => v.ownBlock = some k) w w' → (v'.ownBlock = v.ownBlock ∨ v'.ownBlock = some w.heap.size) → EnvD ds n ((d, v') :: L) a' → wpList Tryz.prog O Q rest a' w') : wpList Tryz.prog O Q (o :: rest) a w := by
 obtain ⟨i0, hi0, hz0, hz1, hz2⟩ := info_parts4 info38z
 exact env_appR tkL_len (by omega) tkL_one Tryz.underlying34 hi0 hz0 hz1 hz2 rfl (by decide) En hd hn hfr hg ho hx hv hy hsrc hcp hl hB k
theorem run_one34 {ρ : Operand → Value} {s : Tok Int} (ho : o.op = .buildSlice 34 1 #[(0, x)]) (hx : ρ x = .agg (tkA s)) : (execOp ρ o).run Tryz.prog w = .ok (.value (.slice (some ⟨w.heap.size, 0, none⟩) 1 1)) (w.alloc (.cells (tkL s).toArray 38)) := by
 simp [execOp, ho, hx, go_sem, tkL]
theorem env_one34 {s : Tok Int} (En : EnvD ds n L a) (hd : o.dst = some d) (hn : d < n) (hf : (L.map (·.1)).contains d = false) (hw : Region.wanted o (yielded O a.tmps) = true) (ho : o.op = .buildSlice 34 1 #[(0, x)]) (hx : a.eval x = .agg (tkA s))
  (k : ∀ a' w' b, w.heap.size = b → w'.heap[b]? = some (.cells (tkL s).toArray 38 (0, 0)) → Fr (fun _ => False) w w' → EnvD ds n ((d, .slice (some ⟨b, 0, none⟩) 1 1) :: L) a' → wpList Tryz.prog O Q rest a' w') : wpList Tryz.prog O Q (o :: rest) a w :=
 env_put En hd hn hf hw (run_one34 ho hx) fun a' E' => k a' _ _ rfl (blk_alloc_new _ _) ((Fr.refl _ _).alloc _) E'
theorem run_one70 {ρ : Operand → Value} {s : Bys} (ho : o.op = .buildSlice 70 1 #[(0, x)]) (hx : ρ x = .string (ofL s)) : (execOp ρ o).run Tryz.prog w = .ok (.value (.slice (some ⟨w.heap.size, 0, none⟩) 1 1)) (w.alloc (.cells (stL s).toArray 9)) := by
 simp [execOp, ho, hx, go_sem, stL]
theorem env_one70 {s : Bys} (En : EnvD ds n L a) (hd : o.dst = some d) (hn : d < n) (hf : (L.map (·.1)).contains d = false) (hw : Region.wanted o (yielded O a.tmps) = true) (ho : o.op = .buildSlice 70 1 #[(0, x)]) (hx : a.eval x = .string (ofL s))
  (k : ∀ a' w' b, w.heap.size = b → w'.heap[b]? = some (.cells (stL s).toArray 9 (0, 0)) → Fr (fun _ => False) w w' → EnvD ds n ((d, .slice (some ⟨b, 0, none⟩) 1 1) :: L) a' → wpList Tryz.prog O Q rest a' w') : wpList Tryz.prog O Q (o :: rest) a w :=
 env_put En hd hn hf hw (run_one70 ho hx) fun a' E' => k a' _ _ rfl (blk_alloc_new _ _) ((Fr.refl _ _).alloc _) E'
end
theorem list_sets {α : Type} (l : List α) : ∀ (i : Nat) (x : α), (l.set i x).take (i + 1) = if i < l.length then l.take i ++ [x] else l.take (i + 1) := by
 induction l with
 | nil => intro i x; simp
 | cons y l ih =>
  intro i x
  cases i with
  | zero => simp
  | succ i =>
   rw [List.set_cons_succ, List.take_succ_cons, ih]
   simp only [List.length_cons, Nat.add_lt_add_iff_right, List.take_succ_cons]
   split <;> rfl
/-- The last span of a row of one's own gets another end. -/
theorem oSp.setTo {w : World} {B : Nat} {v : Value} {A : List Sp} {s : Sp} (h : oSp w B v (A ++ [s])) (e : Int) : ∃ g cap, v = .slice (some ⟨g, 0, none⟩) (A ++ [s]).length cap ∧ v.ownBlock = some g ∧
  (w.cell? ⟨g, 0 + A.length * 2 + 1, none⟩ = some (.int .i64 s.2) ∧ w.frozen? ⟨g, 0 + A.length * 2 + 1, none⟩ = false) ∧ w.rangeAt g (0 + A.length * 2) (spL s) ∧
  oSp (w.setCell ⟨g, 0 + A.length * 2 + 1, none⟩ (.int .i64 e)) B v (A ++ [(s.1, e)]) ∧ Fr (fun k => v.ownBlock = some k) w (w.setCell ⟨g, 0 + A.length * 2 + 1, none⟩ (.int .i64 e)) := by
 have h0 := h
 rcases h.2 with ⟨_, h2⟩ | ⟨g, cap, cur, h1, hB, h3, h4, h5, h6, h7⟩
 ·simp at h2
 have hfl : (A.flatMap spL).length = A.length * 2 := flat_len spL_len A
 rw [List.flatMap_append, List.length_append] at h7
 simp only [List.flatMap_cons, List.flatMap_nil, List.append_nil, List.length_singleton] at h7
 have hsz : A.length * 2 + 2 ≤ cur.size := by rw [h6]; simp only [List.length_append, List.length_singleton] at h4; omega
 have hat : ∀ j u, (spL s)[j]? = some u → cur[A.length * 2 + j]? = some u := by
  intro j u hu
  have hj : j < 2 := (List.getElem?_eq_some_iff.1 hu).1
  have := congrArg (fun l => l[A.length * 2 + j]?) h7
  rw [List.getElem?_take_of_lt (by omega), List.getElem?_append_right (by omega), hfl, show A.length * 2 + j - A.length * 2 = j by omega, hu, Array.getElem?_toList] at this
  exact this
 have hrow : w.rangeAt g (0 + A.length * 2) (spL s) := by
  intro j u hu
  rw [cell_of_blk h3, Nat.zero_add]; exact hat j u hu
 have hob : v.ownBlock = some g := by rw [h1]; rfl
 refine ⟨g, cap, h1, hob, ⟨hrow 1 _ rfl, free_of_blk h3 _⟩, hrow, ⟨flat_len spL_len _, .inr ⟨g, cap, _, by rw [h1]; simp, hB, blk_setCell_same h3 _, by simpa using h4, h5, by simpa using h6, ?_⟩⟩, (Fr.refl (fun k => v.ownBlock = some k) w).setCell (p := ⟨g, _, none⟩) (fun _ => hob) _⟩
 rw [List.flatMap_append]
 simp only [List.flatMap_cons, List.flatMap_nil, List.append_nil, List.length_append, List.length_singleton]
 rw [show (A.length + 1) * 2 = 0 + A.length * 2 + 1 + 1 by omega, Array.toList_setIfInBounds, list_sets, if_pos (by have := Array.length_toList (xs := cur); omega)]
 have h8 := congrArg (List.take (0 + A.length * 2 + 1)) h7
 rw [List.take_take, Nat.min_eq_left (by omega), List.take_append, hfl, List.take_of_length_le (l := A.flatMap spL) (by omega), show 0 + A.length * 2 + 1 - A.length * 2 = 1 by omega] at h8
 rw [h8, List.append_assoc]
 rfl
/-! ### weeks -/
def isF : Value → Bool | .bool b => !b | _ => false
def chkF : List Value → Nat → Bool
 | [], n => n == 0
 | v :: l, n => match n with | 0 => false | n + 1 => isF v && chkF l n
theorem chkF_of : ∀ (l : List Value) (n : Nat), chkF l n = true → l.length = n ∧ ∀ i, i < n → l[i]? = some (.bool false) := by
 intro l
 induction l with
 | nil => intro n h; simp [chkF] at h; subst h; exact ⟨rfl, fun i hi => by omega⟩
 | cons v l ih =>
  intro n h
  cases n with
  | zero => simp [chkF] at h
  | succ n =>
   simp only [chkF, Bool.and_eq_true] at h
   obtain ⟨h1, h2⟩ := ih n h.2
   refine ⟨by simp [h1], fun i hi => ?_⟩
   cases i with
   | zero =>
    have := h.1
    cases v <;> simp [isF] at this
    subst this; rfl
   | succ i => simpa using h2 i (by omega)
theorem zero65 : chkF Tryz.zeroCells65.toList 10080 = true := by kernel_rfl
/-- A week of Bools. -/
def wkB (w : World) (b : Nat) (t : Nat → Bool) : Prop := ∃ cs, w.heap[b]? = some (.cells cs 65 (0, 0)) ∧ cs.size = 10080 ∧ ∀ i, i < 10080 → cs[i]? = some (.bool (t i))
theorem wkB.fr {w w' : World} {b : Nat} {t : Nat → Bool} (h : wkB w b t) {F : Nat → Prop} (hf : Fr F w w') (hb : ¬ F b) : wkB w' b t := by
 obtain ⟨cs, h1, h2, h3⟩ := h
 exact ⟨cs, hf.obj h1 hb, h2, h3⟩
theorem wkB.lt {w : World} {b : Nat} {t : Nat → Bool} (h : wkB w b t) : b < w.heap.size := by
 obtain ⟨cs, h1, _⟩ := h
 exact lt_of_blk h1
theorem wkB.at {w : World} {b : Nat} {t : Nat → Bool} (h : wkB w b t) {i : Nat} (hi : i < 10080) : w.cell? ⟨b, 0 + i, none⟩ = some (.bool (t i)) := by
 obtain ⟨cs, h1, _, h3⟩ := h
 rw [cell_of_blk h1, Nat.zero_add]; exact h3 i hi
theorem wkB.ext {w : World} {b : Nat} {t t' : Nat → Bool} (h : wkB w b t) (he : ∀ i, i < 10080 → t i = t' i) : wkB w b t' := by
 obtain ⟨cs, h1, h2, h3⟩ := h
 exact ⟨cs, h1, h2, fun i hi => by rw [h3 i hi, he i hi]⟩
theorem wkB.set {w : World} {b : Nat} {t : Nat → Bool} (h : wkB w b t) {k : Nat} (hk : k < 10080) (v : Bool) : (w.cell? ⟨b, 0 + k, none⟩ = some (.bool (t k)) ∧ w.frozen? ⟨b, 0 + k, none⟩ = false) ∧ wkB (w.setCell ⟨b, 0 + k, none⟩ (.bool v)) b (fun i => if i = k then v else t i) ∧ Fr (fun r => r = b) w (w.setCell ⟨b, 0 + k, none⟩ (.bool v)) := by
 have h0 := h.at hk
 obtain ⟨cs, h1, h2, h3⟩ := h
 refine ⟨⟨h0, free_of_blk h1 _⟩, ⟨_, blk_setCell_same h1 _, by simp [h2], fun i hi => ?_⟩, (Fr.refl (fun r => r = b) w).setCell (p := ⟨b, 0 + k, none⟩) (fun _ => rfl) _⟩
 rw [Array.getElem?_setIfInBounds, Nat.zero_add]
 by_cases e : k = i
 ·subst e; simp [h2, hk]
 ·rw [if_neg e, h3 i hi]; simp only [if_neg (Ne.symm e)]
section
variable {o : Oper} {w : World} {ρ : Operand → Value} {x y z : Operand} {g off k n cap i : Nat} {p : Option Addr}
theorem run_build65 (ho : o.op = .build 65 #[]) : (execOp ρ o).run Tryz.prog w = .ok (.value (.agg Tryz.zeroCells65)) w := by
 simp [execOp, ho, go_sem]
theorem run_box65 {cs : Array Value} (ho : o.op = .box 65 x) (hx : ρ x = .agg cs) : (execOp ρ o).run Tryz.prog w = .ok (.value (.pointer (some ⟨w.heap.size, 0, none⟩))) (w.alloc (.cells cs 65)) := by
 simp [execOp, ho, hx, go_sem]
theorem run_index65 (ho : o.op = .indexAddr 65 x y) (hx : ρ x = .pointer (some ⟨g, off, none⟩)) (hy : ρ y = .int .i64 i) (hi : i < 10080) : (execOp ρ o).run Tryz.prog w = .ok (.value (.pointer (some ⟨g, off + i, none⟩))) w := by
 have h1 : (i : Int) < 10080 := by omega
 simp [execOp, ho, hx, hy, go_sem, h1]
end
theorem env_box65 {O : Array Oper} {Q : Exit → Act → World → Prop} {rest : List Oper} {o : Oper} {a : Act} {w : World} {n d : Nat} {L : List (Nat × Value)} {x : Operand} {ds : List Deferred} (En : EnvD ds n L a) (hd : o.dst = some d) (hn : d < n) (hf : (L.map (·.1)).contains d = false) (hw : Region.wanted o (yielded O a.tmps) = true) (ho : o.op = .box 65 x) (hx : a.eval x = .agg Tryz.zeroCells65)
  (k : ∀ a' w' b, w.heap.size = b → wkB w' b (fun _ => false) → Fr (fun _ => False) w w' → EnvD ds n ((d, .pointer (some ⟨b, 0, none⟩)) :: L) a' → wpList Tryz.prog O Q rest a' w') : wpList Tryz.prog O Q (o :: rest) a w := by
 obtain ⟨h1, h2⟩ := chkF_of _ _ zero65
 exact env_put En hd hn hf hw (run_box65 ho hx) fun a' E' => k a' _ _ rfl ⟨_, blk_alloc_new _ _, by rw [← Array.length_toList]; exact h1, fun i hi => by rw [← Array.getElem?_toList]; exact h2 i hi⟩ ((Fr.refl _ _).alloc _) E'
theorem env_stw {O : Array Oper} {Q : Exit → Act → World → Prop} {rest : List Oper} {o : Oper} {a : Act} {w : World} {n b k : Nat} {L : List (Nat × Value)} {x y : Operand} {ds : List Deferred} {t : Nat → Bool} {v : Bool} (E : EnvD ds n L a) (hd : o.dst = none) (hw : Region.wanted o (yielded O a.tmps) = true) (ho : o.op = .store 4 x y) (hx : a.eval x = .pointer (some ⟨b, 0 + k, none⟩)) (hy : a.eval y = .bool v) (h : wkB w b t) (hk : k < 10080)
  (kk : ∀ w', wkB w' b (fun i => if i = k then v else t i) → Fr (fun r => r = b) w w' → EnvD ds n L a → wpList Tryz.prog O Q rest a w') : wpList Tryz.prog O Q (o :: rest) a w := by
 obtain ⟨⟨h1, h2⟩, h3, h4⟩ := h.set hk v
 exact env_store E hd hw (run_st4 ho hx hy h1 h2) (kk _ h3 h4)
/-- A minute of a list. -/
def mnB (l : List Sp) (m : Int) : Bool := l.any fun s => decide (s.1 ≤ m) && decide (m < s.2)
theorem mnB_iff {l : List Sp} {m : Int} : mnB l m = true ↔ mn l m := by
 unfold mnB mn
 rw [List.any_eq_true]
 constructor
 ·rintro ⟨s, hs, h⟩; simp only [Bool.and_eq_true, decide_eq_true_eq] at h; exact ⟨s, hs, h⟩
 ·rintro ⟨s, hs, h⟩; exact ⟨s, hs, by simp only [Bool.and_eq_true, decide_eq_true_eq]; exact h⟩
/-- The list of the first minutes of a week. -/
def runs (t : Nat → Bool) : Nat → List Sp
 | 0 => []
 | n + 1 => if t n then (if (n == 0 || !t (n - 1)) then runs t n ++ [((n : Int), (n : Int) + 1)] else (runs t n).dropLast ++ [(((runs t n).getLast?.getD (0, 0)).1, (n : Int) + 1)]) else runs t n
structure RunsAt (t : Nat → Bool) (n : Nat) (l : List Sp) : Prop where
 ok : vl (-1) l = true
 at_ : ∀ m, mn l m ↔ 0 ≤ m ∧ m < n ∧ t m.toNat = true
 last : ∀ q, l.getLast? = some q → q.2 ≤ n ∧ (0 < n → t (n - 1) = true → q.2 = n) ∧ (0 < n → t (n - 1) = false → q.2 < n)
 ne : 0 < n → t (n - 1) = true → l ≠ []
theorem runs_at (t : Nat → Bool) : ∀ n, n ≤ 10080 → RunsAt t n (runs t n) := by
 intro n
 induction n with
 | zero => intro _; exact ⟨rfl, fun m => ⟨fun h => absurd h (mn_nil m), fun h => by omega⟩, fun q h => by simp [runs] at h, fun h => by omega⟩
 | succ n ih =>
  intro hn
  obtain ⟨h1, h2, h3, h4⟩ := ih (by omega)
  unfold runs
  cases ht : t n with
  | false =>
   rw [if_neg (by simp)]
   refine ⟨h1, fun m => ?_, fun q hq => ?_, fun _ h => ?_⟩
   ·rw [h2]
    constructor
    ·rintro ⟨a, b, c⟩; exact ⟨a, by omega, c⟩
    ·rintro ⟨a, b, c⟩
     refine ⟨a, ?_, c⟩
     rcases Int.lt_or_le m n with h | h
     ·exact h
     ·have : m.toNat = n := by omega
      rw [this, ht] at c; cases c
   ·have := (h3 q hq).1
    refine ⟨by omega, fun _ h => ?_, fun _ _ => by omega⟩
    rw [Nat.add_sub_cancel, ht] at h; cases h
   ·rw [Nat.add_sub_cancel, ht] at h; cases h
  | true =>
   rw [if_pos rfl]
   have hmm : ∀ m : Int, (0 ≤ m ∧ m < ((n + 1 : Nat) : Int) ∧ t m.toNat = true) ↔ (0 ≤ m ∧ m < n ∧ t m.toNat = true) ∨ m = n := by
    intro m
    constructor
    ·rintro ⟨a, b, c⟩
     rcases Int.lt_or_le m n with h | h
     ·exact .inl ⟨a, h, c⟩
     ·exact .inr (by omega)
    ·rintro (⟨a, b, c⟩ | rfl)
     ·exact ⟨a, by omega, c⟩
     ·exact ⟨by omega, by omega, by simpa using ht⟩
   by_cases hc : (n == 0 || !t (n - 1)) = true
   ·rw [if_pos hc]
    have hlt : ∀ q, (runs t n).getLast? = some q → q.2 < (n : Int) := by
     intro q hq
     rcases Nat.eq_zero_or_pos n with rfl | hp
     ·simp [runs] at hq
     ·have h9 : t (n - 1) = false := by simpa [Nat.ne_of_gt hp] using hc
      exact (h3 q hq).2.2 hp h9
    refine ⟨vl_snoc.2 ⟨h1, by simp only; omega, hlt, by simp only; omega, by simp only; omega⟩, fun m => ?_, fun q hq => ?_, fun _ _ => by simp⟩
    ·rw [mn_append, h2, hmm]
     refine or_congr Iff.rfl ?_
     rw [mn_cons]
     simp only [mn_nil, or_false]; omega
    ·rw [List.getLast?_concat] at hq
     cases hq
     exact ⟨by simp only; omega, fun _ _ => by simp only; omega, fun _ h => by rw [Nat.add_sub_cancel, ht] at h; cases h⟩
   ·rw [if_neg hc]
    have hp : 0 < n := by
     rcases Nat.eq_zero_or_pos n with rfl | hp
     ·simp at hc
     ·exact hp
    have h9 : t (n - 1) = true := by
     cases h : t (n - 1) with
     | true => rfl
     | false => rw [h] at hc; simp at hc
    have hne := h4 hp h9
    obtain ⟨A, q, hA⟩ : ∃ A q, runs t n = A ++ [q] := ⟨_, _, (List.dropLast_concat_getLast hne).symm⟩
    have hq : (runs t n).getLast? = some q := by rw [hA, List.getLast?_concat]
    have hq2 := (h3 q hq).2.1 hp h9
    rw [hq, hA, List.dropLast_concat]
    rw [hA] at h1 h2
    obtain ⟨k1, k2, k3, k4, k5⟩ := vl_snoc.1 h1
    refine ⟨vl_snoc.2 ⟨k1, k2, k3, by simp only [Option.getD_some]; omega, by simp only; omega⟩, fun m => ?_, fun r hr => ?_, fun _ _ => by simp⟩
    ·rw [hmm, ← h2, mn_append, mn_append, mn_cons, mn_cons]
     simp only [mn_nil, or_false, Option.getD_some]
     have e : ((q.1 ≤ m ∧ m < (n : Int) + 1) ↔ ((q.1 ≤ m ∧ m < q.2) ∨ m = n)) := by omega
     rw [e, or_assoc]
    ·rw [List.getLast?_concat] at hr
     cases hr
     exact ⟨by simp only; omega, fun _ _ => by simp only; omega, fun _ h => by rw [Nat.add_sub_cancel, ht] at h; cases h⟩
theorem runs_uniq {t : Nat → Bool} {l : List Sp} (h : vl (-1) l = true) (k : ∀ m : Nat, m < 10080 → (t m = true ↔ mn l m)) : runs t 10080 = l := by
 obtain ⟨h1, h2, _, _⟩ := runs_at t 10080 (Nat.le_refl _)
 refine vl_uniq h1 h fun m => ?_
 rw [h2]
 constructor
 ·rintro ⟨a, b, c⟩
  have := (k m.toNat (by omega)).1 c
  rwa [Int.toNat_of_nonneg a] at this
 ·intro hm
  obtain ⟨a, b⟩ := mn_rng h hm
  exact ⟨a, b, (k m.toNat (by omega)).2 (by rwa [Int.toNat_of_nonneg a])⟩
end Go.Proofs.YtjaffpnegdcjnaaGreatDoor
/- The reference: weeks as sets. -/
set_option linter.unusedVariables false
set_option linter.unusedSimpArgs false
namespace Go.Proofs.YtjaffpnegdcjnaaGreatDoor
open Go.RowKit Go.Pl
set_option maxRecDepth 100000 in
set_option maxHeartbeats 4000000 in
theorem rset_calls {w : World} {v : Value} {l : List Sp} (hl : SpV w v l) (hw : wk l) : Calls Tryz.prog 37 #[v] w fun e w' => ∃ b, e = .returned (.pointer (some ⟨b, 0, none⟩)) ∧ wkB w' b (fun k => mnB l k) ∧ w.heap.size ≤ b ∧ Fr (fun _ => False) w w' := by
 obtain ⟨p0, cp0, hvp0, hlep0, hcapp0, hsp0, hzp0⟩ := hl
 subst hvp0
 refine wp_start1 Tryz.func37 rfl rfl (n := 33) (by decide) fun a E => ?_
 have hf : Fr (fun _ => False) w w := Fr.refl _ _
 refine s_ (r_ (ep (v := (Value.pointer none)) E rfl (a_ rfl rfl) fun a E => n_ (t_ (s_ (r_ (ep (v := .agg Tryz.zeroCells65) E rfl (run_build65 rfl) fun a E => env_box65 (d := 7) E rfl (by decide) rfl (wanted_none rfl _) rfl E.g0 fun a w1 b1 eb1 hb1 f1 E => ?_))))))
 have hnb1 : w.heap.size ≤ b1 := by have := hf.size; omega
 have hsp0 := srcAt.fr hsp0 f1 (fun r hr => id)
 have hf := hf.trans f1
 clear f1
 refine ep E rfl (a_ rfl E.g0) fun a E => n_ (t_ (s_ (s_ (r_ (ep (v := .int .i64 0) E rfl (a_ rfl rfl) fun a E => n_ (t_ (bk_ (wp_loop (fun a w2 => ∃ (i : Nat), Env 33 [(4, .int .i64 (i : Int)), (0, .slice (p0) l.length cp0), (3, .pointer (some ⟨b1, 0, none⟩))] a ∧ i ≤ l.length ∧ wkB w2 b1 (fun k => mnB (l.take i) k) ∧ srcAt spL 2 w2 w.heap.size p0 l ∧ Fr (fun _ => False) w w2) (fun a _ => l.length - (intOf (a.eval (.tmp 4))).toNat) ?_ ?_))))))))
 ·exact ⟨0, E.of ⟨E.g0, E.g5, E.g1, trivial⟩, Nat.zero_le _, hb1, hsp0, hf⟩
 clear E
 rintro a w2 ⟨i, E, hi, hb1, hsp0, hf⟩
 have hmu : l.length - (intOf (a.eval (.tmp 4))).toNat = l.length - i := by rw [E.g0]; first | rfl | (simp [intOf]; done) | (simp only [intOf]; omega)
 rw [hmu]
 clear hmu
 refine s_ (s_ (r_ (ep E rfl (m_ rfl E.g0) fun a E => ep E rfl (m_ rfl E.g2) fun a E => ep (v := .int .i64 (l.length : Int)) E rfl (run_len22 rfl E.g0) fun a E => ep (v := .bool (decide ((i : Int) < (l.length : Int)))) E rfl (run_ilss E.g2 E.g0 Tryz.underlying3 rfl) fun a E => n_ (t_ ?_))))
 cases hq3 : (decide ((i : Int) < (l.length : Int))) with
 | false =>
  rw [hq3] at E
  have hie : i = l.length := by have := of_decide_eq_false hq3; omega
  refine c_f E.g0 (x_ (te_ (te_ (be_ (t_ (s_ (r_ (ep E rfl (m_ rfl E.g6) fun a E => ep E rfl (a_ rfl E.g0) fun a E => n_ (t_ (wr_ (ret_tmp (t := 2) rfl E E.g0 ⟨_, rfl, ?_, hnb1, hf⟩)))))))))))
  rw [hie, List.take_length] at hb1
  exact hb1
 | true =>
  rw [hq3] at E
  have hlt : i < l.length := by have := of_decide_eq_true hq3; omega
  obtain ⟨y, hy⟩ : ∃ y, l[i]? = some y := ⟨_, List.getElem?_eq_getElem hlt⟩
  obtain ⟨g4, off4, hpe4, hgl4, hrow4⟩ := hsp0.at hlt
  replace hrow4 := hrow4 i y hy
  refine c_t E.g0 (k_ (t_ (s_ (bk_ (s_ (r_ (ep E rfl (m_ rfl E.g5) fun a E => ep E rfl (m_ rfl E.g5) fun a E => ep (v := .pointer (some ⟨g4, (off4 + i * 2), none⟩)) E rfl (run_index22 (i := i) rfl (E.g1.trans (by rw [hpe4])) E.g0 hlt) fun a E => ep (v := .pointer (some ⟨g4, ((off4 + i * 2) + 0), none⟩)) E rfl (fa48_0 rfl E.g0) fun a E => ep (v := .int .i64 y.1) E rfl (run_ldi rfl E.g0 (hrow4 0 _ rfl)) fun a E => ep E rfl (a_ rfl E.g0) fun a E => n_ (t_ (bk_ ?_)))))))))
  have hwy := hw y (List.mem_of_getElem? hy)
  refine wp_loop (fun a w2 => ∃ (m : Int), Env 33 [(5, .int .i64 m), (4, .int .i64 (i : Int)), (0, .slice (p0) l.length cp0), (3, .pointer (some ⟨b1, 0, none⟩))] a ∧ y.1 ≤ m ∧ m ≤ y.2 ∧ wkB w2 b1 (fun k => mnB (l.take i) k || (decide (y.1 ≤ (k : Int)) && decide ((k : Int) < m))) ∧ srcAt spL 2 w2 w.heap.size p0 l ∧ w2.rangeAt g4 (off4 + i * 2) (spL y) ∧ Fr (fun _ => False) w w2) (fun a _ => (y.2 - intOf (a.eval (.tmp 5))).toNat) ?_ ?_
  ·exact ⟨y.1, E.of ⟨E.g0, E.g10, E.g11, E.g12, trivial⟩, Int.le_refl _, by omega, hb1.ext fun k hk => by have : (decide (y.1 ≤ (k : Int)) && decide ((k : Int) < y.1)) = false := (by rw [Bool.and_eq_false_iff]; simp only [decide_eq_false_iff_not]; omega); rw [this, Bool.or_false], hsp0, hrow4, hf⟩
  clear E
  rintro a w2 ⟨m, E, hm1, hm2, hb1, hsp0, hrow4, hf⟩
  have hmu : (y.2 - intOf (a.eval (.tmp 5))).toNat = (y.2 - m).toNat := by rw [E.g0]; first | rfl | (simp [intOf]; done) | (simp only [intOf]; omega)
  rw [hmu]
  clear hmu
  refine s_ (s_ (r_ (ep E rfl (m_ rfl E.g0) fun a E => ep E rfl (m_ rfl E.g3) fun a E => ep E rfl (m_ rfl E.g3) fun a E => ep (v := .pointer (some ⟨g4, (off4 + i * 2), none⟩)) E rfl (run_index22 (i := i) rfl (E.g1.trans (by rw [hpe4])) E.g0 hlt) fun a E => ep (v := .pointer (some ⟨g4, ((off4 + i * 2) + 1), none⟩)) E rfl (fa48_1 rfl E.g0) fun a E => ep (v := .int .i64 y.2) E rfl (run_ldi rfl E.g0 (hrow4 1 _ rfl)) fun a E => ep (v := .bool (decide (m < y.2))) E rfl (run_ilss E.g5 E.g0 Tryz.underlying3 rfl) fun a E => n_ (t_ ?_))))
  cases hq6 : (decide (m < y.2)) with
  | false =>
   rw [hq6] at E
   have hme : m = y.2 := by have := of_decide_eq_false hq6; omega
   have hmy : ∀ k : Nat, (decide (y.1 ≤ (k : Int)) && decide ((k : Int) < m)) = [y].any (fun s => decide (s.1 ≤ (k : Int)) && decide ((k : Int) < s.2)) := fun k => by rw [hme]; simp
   refine c_f E.g0 (x_ (te_ (te_ (be_ (b_ (t_ (r_ (ep E rfl (m_ rfl E.g8) fun a E => ep (v := .int .i64 ((i : Int) + 1)) E rfl (run_iadd Tryz.underlying3 E.g0 rfl (by omega) (by omega) rfl) fun a E => es_ E rfl (a_ rfl E.g0) fun a E => n_ (t_ ?_)))))))))
   refine ⟨⟨i + 1, E.of ⟨E.g0, E.g11, E.g12, trivial⟩, hlt, ?_, hsp0, hf⟩, ?_⟩
   ·refine hb1.ext fun k hk => ?_
    rw [List.take_add_one, hy]
    unfold mnB
    rw [List.any_append, hmy]
    simp
   ·rw [E.g0]; simp only [intOf]; omega
  | true =>
   rw [hq6] at E
   have hmlt : m < y.2 := of_decide_eq_true hq6
   have hmn : m = ((m.toNat : Nat) : Int) := by omega
   have hm8 : m.toNat < 10080 := by omega
   refine c_t E.g0 (k_ (t_ (s_ (bk_ (r_ (ep E rfl (m_ rfl E.g10) fun a E => ep E rfl (m_ rfl E.g8) fun a E => ep E rfl (i_ rfl E.g1) fun a E => ep (v := .pointer (some ⟨b1, (0 + m.toNat), none⟩)) E rfl (run_index65 (i := m.toNat) rfl E.g0 (E.g1.trans (by rw [← hmn])) hm8) fun a E => env_stw E rfl (wanted_none rfl _) rfl E.g0 rfl hb1 hm8 fun w1 hb1n f1 E => ?_))))))
   have hsp0 := srcAt.fr hsp0 f1 (fun _ hr => nq_)
   have hrow4 := fun j u hu => f1.cell (hrow4 j u hu) nq_
   have hf := hf.trans' f1 (fun _ hr => nq_)
   clear f1
   replace hb1 := hb1n
   refine n_ (b_ (t_ (r_ (ep E rfl (m_ rfl E.g11) fun a E => ep (v := .int .i64 (m + 1)) E rfl (run_iadd Tryz.underlying3 E.g0 rfl (by omega) (by omega) rfl) fun a E => es_ E rfl (a_ rfl E.g0) fun a E => n_ (t_ ?_)))))
   refine ⟨⟨m + 1, E.of ⟨E.g0, E.g14, E.g15, E.g16, trivial⟩, by omega, by omega, ?_, hsp0, hrow4, hf⟩, ?_⟩
   ·refine hb1.ext fun k hk => ?_
    by_cases hkm : k = m.toNat
    ·subst hkm; rw [if_pos rfl]
     have e1 : decide (y.1 ≤ ((m.toNat : Nat) : Int)) = true := decide_eq_true (by omega)
     have e2 : decide (((m.toNat : Nat) : Int) < m + 1) = true := decide_eq_true (by omega)
     rw [e1, e2]; simp
    ·rw [if_neg hkm]
     have e : decide ((k : Int) < m) = decide ((k : Int) < m + 1) := by rw [decide_eq_decide]; omega
     rw [e]
   ·rw [E.g0]; simp only [intOf]; omega
set_option maxRecDepth 100000 in
set_option maxHeartbeats 4000000 in
theorem spans_calls {w : World} {b : Nat} {t : Nat → Bool} (hb : wkB w b t) : Calls Tryz.prog 40 #[.pointer (some ⟨b, 0, none⟩)] w fun e w' => ∃ v, e = .returned v ∧ SpV w' v (runs t 10080) ∧ Fr (fun _ => False) w w' := by
 refine wp_start1 Tryz.func40 rfl rfl (n := 48) (by decide) fun a E => ?_
 have hf : Fr (fun _ => False) w w := Fr.refl _ _
 refine s_ (r_ (ep (v := .slice none 0 0) E rfl (a_ rfl rfl) fun a E => n_ (t_ (s_ (r_ (ep (v := .slice none 0 0) E rfl (a_ rfl rfl) fun a E => n_ (t_ (s_ (s_ (r_ (ep (v := .int .i64 0) E rfl (a_ rfl rfl) fun a E => n_ (t_ (bk_ ?_)))))))))))))
 obtain ⟨B, hB⟩ : ∃ B, B = w.heap.size := ⟨_, rfl⟩
 have hBs : B ≤ w.heap.size := by omega
 have hwB : w.heap.size ≤ B := by have := hf.size; omega
 have hbB : b < B := by have := hb.lt; omega
 have hO : oSp w B (.slice none 0 0) (runs t 0) := ow_nil _
 refine wp_loop (fun a w2 => ∃ (n : Nat) (dv : Value), Env 48 [(4, .int .i64 (n : Int)), (3, dv), (0, .pointer (some ⟨b, 0, none⟩))] a ∧ n ≤ 10080 ∧ oSp w2 B dv (runs t n) ∧ wkB w2 b t ∧ Fr (fun _ => False) w w2 ∧ B ≤ w2.heap.size) (fun a _ => 10080 - (intOf (a.eval (.tmp 4))).toNat) ?_ ?_
 ·exact ⟨0, .slice none 0 0, E.of ⟨E.g0, E.g1, E.g3, trivial⟩, Nat.zero_le _, hO, hb, hf, hBs⟩
 clear E
 rintro a w2 ⟨n, dv, E, hn, hO, hb, hf, hBs⟩
 have hmu : 10080 - (intOf (a.eval (.tmp 4))).toNat = 10080 - n := by rw [E.g0]; first | rfl | (simp [intOf]; done) | (simp only [intOf]; omega)
 rw [hmu]
 clear hmu
 have hrl : (runs t n).length ≤ n := by
  have : ∀ n, (runs t n).length ≤ n := fun n => by
   induction n with
   | zero => exact Nat.le_refl _
   | succ n ih => unfold runs; split <;> (try split) <;> (try simp only [List.length_append, List.length_dropLast, List.length_singleton]) <;> omega
  exact this n
 refine s_ (s_ (r_ (ep E rfl (m_ rfl E.g0) fun a E => ep (v := .bool (decide ((n : Int) < 10080))) E rfl (run_ilss E.g0 rfl Tryz.underlying3 rfl) fun a E => n_ (t_ ?_))))
 cases hq8 : (decide ((n : Int) < 10080)) with
 | false =>
  rw [hq8] at E
  have hie : n = 10080 := by have := of_decide_eq_false hq8; omega
  refine c_f E.g0 (x_ (te_ (te_ (be_ (t_ (s_ (r_ (ep E rfl (m_ rfl E.g3) fun a E => ep E rfl (a_ rfl E.g0) fun a E => n_ (t_ (wr_ (ret_tmp (t := 2) rfl E E.g0 ⟨_, rfl, ?_, hf⟩)))))))))))
  rw [hie] at hO
  exact ow.Src spL_len hO
 | true =>
  rw [hq8] at E
  have hlt : n < 10080 := by have := of_decide_eq_true hq8; omega
  refine c_t E.g0 (k_ (t_ (s_ (bk_ (s_ (r_ (ep E rfl (m_ rfl E.g4) fun a E => ep E rfl (m_ rfl E.g3) fun a E => ep E rfl (i_ rfl E.g1) fun a E => ep (v := .pointer (some ⟨b, (0 + n), none⟩)) E rfl (run_index65 (i := n) rfl E.g0 E.g1 hlt) fun a E => ep (v := .bool (t n)) E rfl (run_ldb rfl E.g0 (hb.at hlt)) fun a E => ep E rfl (m_ rfl E.g0) fun a E => ?_)))))))
  cases hq9 : (t n) with
  | false =>
   rw [hq9] at E
   refine ek E rfl rfl E.g0 fun a E => ek E rfl rfl E.g1 fun a E => ek E rfl rfl E.g2 fun a E => eu E rfl rfl E.g0 fun a E => eu E rfl rfl E.g1 fun a E => eu E rfl rfl E.g2 fun a E => eu E rfl rfl E.g3 fun a E => eu E rfl rfl E.g4 fun a E => eu E rfl rfl E.g5 fun a E => eu E rfl rfl E.g6 fun a E => ek E rfl rfl E.g10 fun a E => ep (v := .bool false) E rfl (run_pick_f rfl E.g11 rfl) fun a E => n_ (t_ (c_f E.g0 (s_ (r_ (ep E rfl (m_ rfl E.g22) fun a E => ep E rfl (m_ rfl E.g21) fun a E => ep E rfl (i_ rfl E.g1) fun a E => ep (v := .pointer (some ⟨b, (0 + n), none⟩)) E rfl (run_index65 (i := n) rfl E.g0 E.g1 hlt) fun a E => ep (v := .bool false) E rfl ((run_ldb rfl E.g0 (hb.at hlt)).trans (by rw [hq9] <;> rfl)) fun a E => n_ (t_ (c_f E.g0 (k_ (b_ (t_ (r_ (ep E rfl (m_ rfl E.g25) fun a E => ep (v := .int .i64 ((n : Int) + 1)) E rfl (run_iadd Tryz.underlying3 E.g0 rfl (by omega) (by omega) rfl) fun a E => es_ E rfl (a_ rfl E.g0) fun a E => n_ (t_ ?_)))))))))))))
   refine ⟨⟨n + 1, dv, E.of ⟨E.g0, E.g28, E.g29, trivial⟩, by omega, ?_, hb, hf, hBs⟩, ?_⟩
   ·unfold runs
    rw [if_neg (by rw [hq9]; simp)]
    exact hO
   ·rw [E.g0]; simp only [intOf]; omega
  | true =>
   rw [hq9] at E
   refine eg E rfl (wy_ E E.g0) (m_ rfl E.g8) fun a E => eg (v := .bool ((n : Int) == 0)) E rfl (wy_ E E.g1) (run_ieql E.g0 rfl Tryz.underlying3 rfl) fun a E => eg E rfl (wy_ E E.g2) (m_ rfl E.g0) fun a E => ?_
   cases hq10 : ((n : Int) == 0) with
   | false =>
    rw [hq10] at E
    have hn0 : 0 < n := by have := hq10; rw [beq_eq_false_iff_ne] at this; omega
    have hn1 : n - 1 < 10080 := by omega
    have hpn : (n : Int) - 1 = ((n - 1 : Nat) : Int) := by omega
    refine eg E rfl (wy_ E E.g0) (m_ rfl E.g13) fun a E => eg E rfl (wy_ E E.g1) (m_ rfl E.g12) fun a E => eg (v := .int .i64 ((n : Int) - 1)) E rfl (wy_ E E.g2) (run_isub Tryz.underlying3 E.g0 rfl (by omega) (by omega) rfl) fun a E => eg E rfl (wy_ E E.g3) (i_ rfl E.g2) fun a E => eg (v := .pointer (some ⟨b, (0 + (n - 1)), none⟩)) E rfl (wy_ E E.g4) (run_index65 (i := (n - 1)) rfl E.g0 (E.g1.trans (by rw [hpn])) hn1) fun a E => eg (v := .bool (t (n - 1))) E rfl (wy_ E E.g5) (run_ldb rfl E.g0 (hb.at hn1)) fun a E => eg (v := .bool (!(t (n - 1)))) E rfl (wy_ E E.g6) (run_not rfl E.g0) fun a E => eg (v := .bool (!(t (n - 1)))) E rfl (wy_ E E.g10) (run_pick_f rfl E.g7 E.g0) fun a E => ep (v := .bool (!(t (n - 1)))) E rfl (run_pick_t rfl E.g11 E.g0) fun a E => n_ (t_ ?_)
    cases hq11 : (t (n - 1)) with
    | false =>
     rw [hq11] at E
     refine c_t E.g0 ?_
     have hc9 : (n == 0 || !t (n - 1)) = true := by rw [hq11]; simp
     refine r_ (ep E rfl (m_ rfl E.g21) fun a E => ep E rfl (m_ rfl E.g21) fun a E => ep E rfl (m_ rfl E.g22) fun a E => ep (v := .int .i64 ((n : Int) + 1)) E rfl (run_iadd Tryz.underlying3 E.g0 rfl (by omega) (by omega) rfl) fun a E => ep (v := .agg (spA ((n : Int), ((n : Int) + 1)))) E rfl (run_of48 rfl E.g2 E.g0) fun a E => env_one22 (d := 32) E rfl (by decide) rfl (wanted_none rfl _) rfl E.g0 fun a w1 b12 eb12 hbb12 f1 E => ?_)
     have hb := wkB.fr hb f1 id
     have hBs := Nat.le_trans hBs f1.size
     have hO := ow.fr hO f1 (fun _ _ => id)
     have hf := hf.trans f1
     clear f1
     have hsb12 := src_one (f := spL) (c := 2) (G := w1.heap.size) hbb12 (lt_of_blk hbb12)
     clear hbb12 eb12
     refine env_app22 (d := 33) E rfl (by decide) rfl rfl rfl E.g5 hO E.g0 hsb12 (fun h => by cases h) (by simp only [List.length_cons, List.length_nil]; omega) hBs fun a w1 ov13 hO2 f1 hloc E => ?_
     have hb := wkB.fr hb f1 (fun e => by have := (hO.lt e).1; (try simp only at e); omega)
     have hBs := Nat.le_trans hBs f1.size
     have hf := hf.trans' f1 (fun r hr => (fun e => by have := (hO.lt e).1; (try simp only at e); omega))
     clear f1
     replace hO := hO2
     clear hloc
     refine es_ E rfl (a_ rfl E.g0) fun a E => n_ (b_ (t_ (r_ (ep E rfl (m_ rfl E.g28) fun a E => ep (v := .int .i64 ((n : Int) + 1)) E rfl (run_iadd Tryz.underlying3 E.g0 rfl (by omega) (by omega) rfl) fun a E => es_ E rfl (a_ rfl E.g0) fun a E => n_ (t_ ?_)))))
     refine ⟨⟨n + 1, ov13, E.of ⟨E.g0, E.g3, E.g31, trivial⟩, by omega, ?_, hb, hf, hBs⟩, ?_⟩
     ·unfold runs
      rw [if_pos hq9, if_pos hc9]
      exact hO
     ·rw [E.g0]; simp only [intOf]; omega
    | true =>
     rw [hq11] at E
     refine c_f E.g0 (s_ (r_ (ep E rfl (m_ rfl E.g22) fun a E => ep E rfl (m_ rfl E.g21) fun a E => ep E rfl (i_ rfl E.g1) fun a E => ep (v := .pointer (some ⟨b, (0 + n), none⟩)) E rfl (run_index65 (i := n) rfl E.g0 E.g1 hlt) fun a E => ep (v := .bool true) E rfl ((run_ldb rfl E.g0 (hb.at hlt)).trans (by rw [hq9] <;> rfl)) fun a E => n_ (t_ (c_t E.g0 ?_)))))
     have hc9 : ¬ (n == 0 || !t (n - 1)) = true := by rw [hq11]; simp; omega
     obtain ⟨A, q, hA⟩ : ∃ A q, runs t n = A ++ [q] := ⟨_, _, (List.dropLast_concat_getLast ((runs_at t n (by omega)).ne hn0 hq11)).symm⟩
     rw [hA] at hO hrl
     obtain ⟨go, cpo, hdv, hob, ⟨hc1, hc2⟩, hc3, hO2, f2⟩ := hO.setTo ((n : Int) + 1)
     subst hdv
     have hgb : go ≠ b := by have := (hO.lt hob).1; omega
     have hAl : ((A ++ [q]).length : Int) - 1 = ((A.length : Nat) : Int) := by rw [List.length_append, List.length_singleton]; omega
     refine r_ (ep E rfl (m_ rfl E.g26) fun a E => ep E rfl (m_ rfl E.g27) fun a E => ep (v := .int .i64 ((A ++ [q]).length : Int)) E rfl (run_len22 rfl E.g0) fun a E => ep (v := .int .i64 (((A ++ [q]).length : Int) - 1)) E rfl (run_isub Tryz.underlying3 E.g0 rfl (by omega) (by omega) rfl) fun a E => ep E rfl (m_ rfl E.g29) fun a E => ep (v := .int .i64 ((n : Int) + 1)) E rfl (run_iadd Tryz.underlying3 E.g0 rfl (by omega) (by omega) rfl) fun a E => ep (v := .pointer (some ⟨go, (0 + A.length * 2), none⟩)) E rfl (run_index22 (i := A.length) rfl E.g5 (E.g2.trans (by rw [hAl])) (by simp)) fun a E => ep (v := .pointer (some ⟨go, ((0 + A.length * 2) + 1), none⟩)) E rfl (fa48_1 rfl E.g0) fun a E => env_store E rfl (wanted_none rfl _) (run_st3 rfl E.g0 E.g2 hc1 hc2) fun E => ?_)
     generalize World.setCell _ _ _ = w1 at hO2 f2 ⊢
     have hb := hb.fr f2 (fun e => by have := (hO.lt e).1; omega)
     have hf := hf.trans' f2 (fun r hr e => by have := (hO.lt e).1; omega)
     have hBs := Nat.le_trans hBs f2.size
     clear hO f2 hc1 hc2 hc3
     have hO := hO2
     clear hO2
     refine n_ (b_ (t_ (r_ (ep E rfl (m_ rfl E.g33) fun a E => ep (v := .int .i64 ((n : Int) + 1)) E rfl (run_iadd Tryz.underlying3 E.g0 rfl (by omega) (by omega) rfl) fun a E => es_ E rfl (a_ rfl E.g0) fun a E => n_ (t_ ?_)))))
     refine ⟨⟨n + 1, .slice (some ⟨go, 0, none⟩) (A ++ [q]).length cpo, E.of ⟨E.g0, E.g36, E.g37, trivial⟩, by omega, ?_, hb, hf, hBs⟩, ?_⟩
     ·unfold runs
      rw [if_pos hq9, if_neg hc9, hA, List.dropLast_concat, List.getLast?_concat]
      exact hO
     ·rw [E.g0]; simp only [intOf]; omega
   | true =>
    rw [hq10] at E
    refine ek E rfl rfl E.g0 fun a E => ek E rfl rfl E.g1 fun a E => ek E rfl rfl E.g2 fun a E => ek E rfl rfl E.g3 fun a E => ek E rfl rfl E.g4 fun a E => ek E rfl rfl E.g5 fun a E => ek E rfl rfl E.g6 fun a E => eg (v := .bool true) E rfl (wy_ E E.g10) (run_pick_t rfl E.g7 rfl) fun a E => ep (v := .bool true) E rfl (run_pick_t rfl E.g11 E.g0) fun a E => n_ (t_ (c_t E.g0 ?_))
    have hc9 : (n == 0 || !t (n - 1)) = true := by rw [show n = 0 by have h9 := hq10; rw [beq_iff_eq] at h9; omega]; rfl
    refine r_ (ep E rfl (m_ rfl E.g21) fun a E => ep E rfl (m_ rfl E.g21) fun a E => ep E rfl (m_ rfl E.g22) fun a E => ep (v := .int .i64 ((n : Int) + 1)) E rfl (run_iadd Tryz.underlying3 E.g0 rfl (by omega) (by omega) rfl) fun a E => ep (v := .agg (spA ((n : Int), ((n : Int) + 1)))) E rfl (run_of48 rfl E.g2 E.g0) fun a E => env_one22 (d := 32) E rfl (by decide) rfl (wanted_none rfl _) rfl E.g0 fun a w1 b14 eb14 hbb14 f1 E => ?_)
    have hb := wkB.fr hb f1 id
    have hBs := Nat.le_trans hBs f1.size
    have hO := ow.fr hO f1 (fun _ _ => id)
    have hf := hf.trans f1
    clear f1
    have hsb14 := src_one (f := spL) (c := 2) (G := w1.heap.size) hbb14 (lt_of_blk hbb14)
    clear hbb14 eb14
    refine env_app22 (d := 33) E rfl (by decide) rfl rfl rfl E.g5 hO E.g0 hsb14 (fun h => by cases h) (by simp only [List.length_cons, List.length_nil]; omega) hBs fun a w1 ov15 hO2 f1 hloc E => ?_
    have hb := wkB.fr hb f1 (fun e => by have := (hO.lt e).1; (try simp only at e); omega)
    have hBs := Nat.le_trans hBs f1.size
    have hf := hf.trans' f1 (fun r hr => (fun e => by have := (hO.lt e).1; (try simp only at e); omega))
    clear f1
    replace hO := hO2
    clear hloc
    refine es_ E rfl (a_ rfl E.g0) fun a E => n_ (b_ (t_ (r_ (ep E rfl (m_ rfl E.g28) fun a E => ep (v := .int .i64 ((n : Int) + 1)) E rfl (run_iadd Tryz.underlying3 E.g0 rfl (by omega) (by omega) rfl) fun a E => es_ E rfl (a_ rfl E.g0) fun a E => n_ (t_ ?_)))))
    refine ⟨⟨n + 1, ov15, E.of ⟨E.g0, E.g3, E.g31, trivial⟩, by omega, ?_, hb, hf, hBs⟩, ?_⟩
    ·unfold runs
     rw [if_pos hq9, if_pos hc9]
     exact hO
    ·rw [E.g0]; simp only [intOf]; omega
end Go.Proofs.YtjaffpnegdcjnaaGreatDoor
/- A walk within a round of a range over a function: the laws over an abstract act go there as9 they are. -/
set_option linter.unusedVariables false
set_option linter.unusedSimpArgs false
namespace Go.Pl
open Go.RowKit
abbrev FR (r : Nat) : Fence := Fence.wide.inRound r
variable {ds : List Deferred} {P : Program} {ops : Array Oper} {Q : Exit → Act → World → Prop} {a : Act} {w : World} {r n : Nat}
theorem callsIn_round {f : FuncId} {args : Array Value} {R : Ending → World → Prop} (h : Calls P f args w R) : CallsIn (FR r) n P f args w R := callsIn_wide.2 h
theorem rowsIn_round {row : String} {args : Array Value} {R : Value → World → Prop} (h : Rows P row args w R) : RowsIn (FR r) n P row args w R := fun c cs _ => by
 obtain ⟨v, w', h1, h2⟩ := h c cs
 exact ⟨v, w', h1, stepsIn_wide.2 h2⟩
theorem oper_in {o : Oper} {next : Act → World → Prop} (hd : ∀ c, o.op ≠ .defer c) (h : o.wp P a w next Q) : o.wpIn (FR r) n P a w next Q := by
 refine ⟨fun _ _ => trivial, ?_⟩
 rw [Oper.semAt_eq _ _ _ hd]
 unfold Oper.wp at h
 generalize (execOp a.eval o).run P w = x at *
 cases x with
 | ok n' w' =>
  cases n' <;> simp only [Oper.upon, Oper.uponIn] at h ⊢ <;> first | exact h | exact h.elim | exact ⟨fun h => (by cases h), callsIn_round h⟩ | exact ⟨fun h => (by cases h), rowsIn_round h⟩
 | halt x w' => cases x <;> simp only [Oper.upon, Oper.uponIn] at h ⊢ <;> exact h
def noDef (o : Oper) : Bool := match o.op with | .defer _ => false | _ => true
theorem noDef_ne {o : Oper} (h : noDef o = true) : ∀ c, o.op ≠ .defer c := fun c e => by unfold noDef at h; rw [e] at h; cases h
theorem wpListIn_of (hq : ¬ LetsOut Q) : ∀ (l : List Oper) (a : Act) (w : World), l.all noDef = true → wpList P ops Q l a w → wpListIn (FR r) n P ops Q l a w
 | [], a, w, _, h => h
 | o :: rest, a, w, hd, h => by
  simp only [List.all_cons, Bool.and_eq_true] at hd
  simp only [wpList, wpListIn] at h ⊢
  split
  ·rename_i hw
   rw [if_pos hw] at h
   rcases h with h | h
   ·exact oper_in (noDef_ne hd.1) (Oper.wp_mono (fun a w h => wpListIn_of hq rest a w hd.2 h) h)
   ·exact absurd h.2 hq
  ·rename_i hw
   rw [if_neg hw] at h
   exact ⟨fun _ _ => trivial, wpListIn_of hq rest _ w hd.2 h⟩
theorem wpR_region_lit {id : Nat} {l : List Oper} (hd : l.all noDef = true) (hq : ¬ LetsOut Q) (h : wpList P l.toArray Q l a w) : (Code.region id l.toArray false).wpIn (FR r) n P Q a w :=
 wpIn_region_lit (wpListIn_of hq l a w hd h)
theorem wpAnyIn_of (hd : ops.all noDef = true) (hq : ¬ LetsOut Q) : ∀ (fuel : Nat) (listed : Array Bool) (a : Act) (w : World), wpAny P .any ops Q fuel listed a w → wpAnyIn (FR r) n P .any ops Q fuel listed a w
 | 0, listed, a, w, h => h
 | fuel + 1, listed, a, w, h => by
  refine ⟨h.1, fun i hi => ?_⟩
  have h2 := h.2 i hi
  unfold wpOp at h2
  unfold wpOpIn
  cases ho : ops[i]? with
  | none => rw [ho] at h2; exact wpAnyIn_of hd hq fuel _ _ _ h2
  | some o =>
   rw [ho] at h2
   simp only at h2 ⊢
   split
   ·rename_i hw
    rw [if_pos hw] at h2
    rcases h2 with h2 | h2
    ·refine oper_in (noDef_ne ?_) (Oper.wp_mono (fun a w h => wpAnyIn_of hd hq fuel _ a w h) h2)
     rw [Array.all_eq_true'] at hd
     exact hd o (Array.mem_of_getElem? ho)
    ·exact absurd h2.2 hq
   ·rename_i hw
    rw [if_neg hw] at h2
    exact ⟨fun _ _ => trivial, wpAnyIn_of hd hq fuel _ _ _ h2⟩
theorem wpR_region_any {id : Nat} (hd : ops.all noDef = true) (hq : ¬ LetsOut Q) (hm : P.follows .mixedOrders = true) (h : wpAny P .any ops Q ops.size (Array.replicate ops.size false) a w.drew) : (Code.region id ops true).wpIn (FR r) n P Q a w :=
 wpIn_region_any hm (wpAnyIn_of hd hq _ _ _ _ h)
theorem wpR_region_invx {G : Type} (γ0 : G) {id k : Nat} {base : List (Nat × Value)} {U : List (Nat × Value × Nat)} {T : G → List (Option (Nat × Value))} {M : G → (Nat → Bool) → World → Prop} (hd : ops.all noDef = true) (hq : ¬ LetsOut Q) (hm : P.follows .mixedOrders = true) (hord : ordered ops = true) (hT : ∀ γ, tableOKu ops n base U (T γ) = true)
  (E : EnvD ds n base a) (hU : ∀ x ∈ U, a.eval (.tmp x.1) = x.2.1) (hM : M γ0 (fun _ => false) w.drew)
  (step : ∀ (i : Nat) (o : Oper) (γ : G) (lst : Nat → Bool) (a : Act) (w : World), ops[i]? = some o → lst i = false → EnvD ds n base a → (∀ (j : Nat) (x : Nat × Value), depOn ops i j = true → (T γ)[j]? = some (some x) → a.eval (.tmp x.1) = x.2) → (∀ j, depOn ops i j = true → lst j = true) → (∀ j k, depOn ops j k = true → lst j = true → lst k = true) → (∀ x ∈ U, depOn ops x.2.2 i = true → a.eval (.tmp x.1) = x.2.1) → M γ lst w →
   (Region.wanted o (yielded ops a.tmps) = true → o.wp P a w (StepX T M i γ lst a) Q) ∧ (Region.wanted o (yielded ops a.tmps) = false → (∀ x, (T γ)[i]? = some (some x) → x.2 = undef) ∧ M γ (fun j => j == i || lst j) w))
  (hend : ∀ γ a w, EnvD ds n base a → (∀ (j : Nat) (x : Nat × Value), (T γ)[j]? = some (some x) → a.eval (.tmp x.1) = x.2) → M γ (fun j => decide (j < ops.size)) w → Q .normal a w) :
  (Code.region id ops true).wpIn (FR r) k P Q a w := by
 refine wpR_region_any hd hq hm (wpAny_invx hord hT step hend _ γ0 _ _ _ (by simp) ?_ ⟨⟨E, ?_, ?_⟩, fun x hx _ => hU x hx, ?_⟩)
 ·exact Nat.le_trans (List.length_filter_le _ _) (by simp)
 ·intro j x hj hlj
  rw [Array.getD_eq_getD_getElem?, Array.getElem?_replicate] at hlj
  split at hlj <;> simp at hlj
 ·have e : (fun j => (Array.replicate ops.size false).getD j false) = fun _ => false := by
   funext j
   rw [Array.getD_eq_getD_getElem?, Array.getElem?_replicate]
   split <;> rfl
  rw [e]; exact hM
 ·intro j k _ hlj
  rw [Array.getD_eq_getD_getElem?, Array.getElem?_replicate] at hlj
  split at hlj <;> simp at hlj
/-- A call of the round l: it goes on, or hands back false. -/
def RoundOf (P : Program) (l : Nat) (args : Array Value) (W : World) (R S : World → Prop) : Prop :=
 ∃ m, YieldAt Fence.wide m P l args W fun e W' => (e = .returned (.bool true) ∧ R W') ∨ (e = .returned (.bool false) ∧ S W')
/-- What an iterator owes: it yields vs in order (J k: k rounds are over), as9 long as9 no round stops it (S). -/
def IterOf (P : Program) (gf : Nat) (lb : Array Value) (vs : List (Array Value)) (Kp : World → Prop) : Prop :=
 ∀ (l : Nat) (J : Nat → World → Prop) (S : World → Prop) (W : World), (∀ k W W', J k W → Fr (fun _ => False) W W' → J k W') → (∀ W W', S W → Fr (fun _ => False) W W' → S W') → (∀ k W, J k W → Kp W) →
  (∀ k v W, J k W → vs[k]? = some v → RoundOf P l v W (J (k + 1)) S) → J 0 W →
  Calls P gf (#[.func (.yield l) #[] #[]] ++ lb) W fun e W' => (∃ v, e = .returned v) ∧ (J vs.length W' ∨ S W')
end Go.Pl
set_option linter.unusedVariables false
set_option linter.unusedSimpArgs false
namespace Go.Pl
open Go.RowKit
variable {P : Program} {Q : Exit → Act → World → Prop} {a : Act} {w : World}
theorem Fr.putObj (W : World) (l : Nat) (o : Obj) : Fr (fun b => b = l) W (W.putObj l o) :=
 ⟨rfl, rfl, rfl, by simp, fun r _ hr => World.putObj_heap_other hr⟩
/-- What a round leaves: it goes on, or it returns. -/
def rndP (R S : World → Prop) : Exit → Act → World → Prop
 | .normal, _, W => R W
 | .ret, _, W => S W
 | _, _, _ => False
theorem wp_rangeF {g : Operand} {ps : Array Tmp} {assign body : Code} {gf : Nat} {lb : Array Value} {vs : List (Array Value)} {Kp : World → Prop}
  (I : Nat → World → Prop) (St : World → Prop) (A : Array Value → Act → World → Prop)
  (hg : a.eval g = .func (.func gf) #[] lb) (eg : ∀ args w, (callFunc gf args).run P w = .ok (.enter gf args) w)
  (hY : IterOf P gf lb vs Kp) (hps : ∀ v ∈ vs, v.size = ps.size)
  (hI : ∀ k W W', I k W → Fr (fun b => b = w.heap.size ∨ b = w.heap.size + 1) W W' → I k W') (hS : ∀ W W', St W → Fr (fun b => b = w.heap.size ∨ b = w.heap.size + 1) W W' → St W') (hK : ∀ k W, I k W → Kp W) (h0 : I 0 w)
  (hAf : ∀ v a1 W W', A v a1 W → Fr (fun b => b = w.heap.size ∨ b = w.heap.size + 1) W W' → A v a1 W')
  (hassign : ∀ (l : Nat) (v : Array Value) (W : World) (K : Act → World → Prop), v ∈ vs → w.heap.size + 2 ≤ W.heap.size → (∀ a1 W1, A v a1 W1 → Fr (fun _ => False) W W1 → K a1 W1) → assign.wpIn (FR l) 0 P (Exit.then K (fun _ _ _ => False)) { tmps := (ps.zip v).foldl (fun t (p, v) => t.setIfInBounds p v) a.tmps, defers := [] } W)
  (hbody : ∀ (k : Nat) (v : Array Value) (a1 : Act) (W : World), vs[k]? = some v → I k W → A v a1 W → w.heap.size + 2 ≤ W.heap.size → (∃ r, W.heap[w.heap.size + 1]? = some (.loop r)) →
   body.wpIn (FR (w.heap.size + 1)) 0 P (rndP (fun W' => I (k + 1) W' ∧ W'.heap[w.heap.size]? = W.heap[w.heap.size]? ∧ W'.heap[w.heap.size + 1]? = W.heap[w.heap.size + 1]?) (fun W' => St W' ∧ W'.heap[w.heap.size]? = W.heap[w.heap.size]? ∧ W'.heap[w.heap.size + 1]? = W.heap[w.heap.size + 1]?)) a1 W)
  (hdone : ∀ W, I vs.length W → W.heap[w.heap.size]? = some (.deferred (some [])) → Q .normal { a with defers := { target := .collected w.heap.size, args := #[] } :: a.defers } W)
  (hstop : ∀ W, St W → W.heap[w.heap.size]? = some (.deferred (some [])) → Q .ret { a with defers := { target := .collected w.heap.size, args := #[] } :: a.defers } W) :
  (Code.rangeFunc g ps assign body).wp P Q a w := by
 refine (wpIn_wide (n := 0)).1 (wpIn_rangeFunc ?_)
 intro fn hfn
 obtain ⟨rec, hrec⟩ : ∃ rec : LoopState → Option Code → Loop, rec = fun st pe => { state := st, pending := pe, fn, tmps := a.tmps, params := ps, assign, body, defers := w.heap.size } := ⟨_, rfl⟩
 obtain ⟨W1, hW1⟩ : ∃ W1, (w.alloc (.deferred (some []))).alloc (.loop (rec .ready none)) = W1 := ⟨_, rfl⟩
 have hL1 : W1.heap[w.heap.size + 1]? = some (.loop (rec .ready none)) := by
  rw [← hW1]; exact blk_alloc_at (by simp) _
 have hK1 : W1.heap[w.heap.size]? = some (.deferred (some [])) := by
  rw [← hW1]; exact (blk_alloc (by simp) _).trans (blk_alloc_new _ _)
 have hf1 : Fr (fun _ => False) w W1 := by rw [← hW1]; exact ((Fr.refl _ _).alloc _).alloc _
 refine ⟨w.heap.size + 1, [{ target := .collected w.heap.size, args := #[] }], W1, { target := .fn (.func gf) lb, args := #[.func (.yield (w.heap.size + 1)) #[] #[]] }, W1, gf,
  #[.func (.yield (w.heap.size + 1)) #[] #[]] ++ lb, W1, ?_, ?_, fun _ _ => trivial, ?_, fun h => (by cases h), ?_⟩
 ·rw [← hW1, hrec]; exact run_enterLoop_outer _ _ _ _ _
 ·simp only [resolve, hg]
  simp [go_sem]
 ·simp [invoke, go_sem, eg]
 ·refine callsIn_wide.2 ((hY (w.heap.size + 1) (fun k W => I k W ∧ W.heap[w.heap.size + 1]? = some (.loop (rec .ready none)) ∧ W.heap[w.heap.size]? = some (.deferred (some [])))
   (fun W => St W ∧ W.heap[w.heap.size + 1]? = some (.loop (rec .done (some .ret))) ∧ W.heap[w.heap.size]? = some (.deferred (some []))) W1
   (fun k W W' h f => ⟨hI k W W' h.1 (f.mono fun _ _ h => h.elim), f.obj h.2.1 id, f.obj h.2.2 id⟩) (fun W W' h f => ⟨hS W W' h.1 (f.mono fun _ _ h => h.elim), f.obj h.2.1 id, f.obj h.2.2 id⟩) (fun k W h => hK k W h.1) ?_ ⟨hI _ _ _ h0 (hf1.mono fun _ _ h => h.elim), hL1, hK1⟩).mono ?_)
  ·rintro k v W ⟨hi, hl, hk⟩ hv
   have hvm : v ∈ vs := List.mem_of_getElem? hv
   have hlt := lt_of_blk hl
   have hy := run_yield (P := P) (args := v) hl (by rw [hrec]; exact hps v hvm)
   rw [hrec] at hy
   refine ⟨0, fn, _, assign, body, hy, roundIn_of_wpIn hfn (hassign _ v W _ hvm (by omega) ?_)⟩
   clear hy
   intro a1 W1 hA hfa
   replace hi := hI _ _ _ hi (hfa.mono fun _ _ h => h.elim)
   replace hl := hfa.obj hl id
   replace hk := hfa.obj hk id
   have hlt := lt_of_blk hl
   refine ⟨_, run_beginRound hl (by rw [hrec]), ?_⟩
   have f2 := Fr.putObj W1 (w.heap.size + 1) (.loop { rec .ready none with state := .busy })
   have hl2 : (W1.putObj (w.heap.size + 1) (.loop { rec .ready none with state := .busy })).heap[w.heap.size + 1]? = some (.loop { rec .ready none with state := .busy }) := World.putObj_heap_same hlt
   have hk2 := f2.obj hk (by omega)
   have hs2 : w.heap.size + 2 ≤ (W1.putObj (w.heap.size + 1) (.loop { rec .ready none with state := .busy })).heap.size := by simp; omega
   refine wpIn_mono (hbody k v a1 _ hv (hI _ _ _ hi (f2.mono fun _ _ h => .inr h)) (hAf _ _ _ _ hA (f2.mono fun _ _ h => .inr h)) hs2 ⟨_, hl2⟩) ?_
   rintro e a3 W3 hp
   cases e with
   | normal =>
    obtain ⟨hi3, h3, h4⟩ := hp
    rw [hl2] at h4
    rw [hk2] at h3
    have hr := run_endRound (P := P) none h4
    refine ⟨_, _, hr, .inl ⟨rfl, hI _ _ _ hi3 ((Fr.putObj _ _ _).mono fun _ _ h => .inr h), ?_, (World.putObj_heap_other (by omega)).trans h3⟩⟩
    refine (World.putObj_heap_same (lt_of_blk h4)).trans ?_
    rw [hrec]; rfl
   | ret =>
    obtain ⟨hi3, h3, h4⟩ := hp
    rw [hl2] at h4
    rw [hk2] at h3
    have hr := run_endRound (P := P) (some .ret) h4
    refine ⟨_, _, hr, .inr ⟨rfl, hS _ _ hi3 ((Fr.putObj _ _ _).mono fun _ _ h => .inr h), ?_, (World.putObj_heap_other (by omega)).trans h3⟩⟩
    refine (World.putObj_heap_same (lt_of_blk h4)).trans ?_
    rw [hrec]; rfl
   | exit id => exact hp.elim
   | goto t => exact hp.elim
   | panic ch => exact hp.elim
   | outgrown => exact hp.elim
  ·rintro e W2 ⟨⟨v, rfl⟩, ⟨hi, hl, hk⟩ | ⟨hi, hl, hk⟩⟩
   ·refine ⟨none, _, by have := run_endLoop (P := P) hl (by rw [hrec]; simp); rw [hrec] at this; exact this, hdone _ (hI _ _ _ hi ((Fr.putObj _ _ _).mono fun _ _ h => .inr h)) ((World.putObj_heap_other (by omega)).trans hk)⟩
   ·refine ⟨some .ret, _, by have := run_endLoop (P := P) hl (by rw [hrec]; simp); rw [hrec] at this; exact this, ?_⟩
    exact wpIn_ret (hstop _ (hS _ _ hi ((Fr.putObj _ _ _).mono fun _ _ h => .inr h)) ((World.putObj_heap_other (by omega)).trans hk))
/-! A list of operations under the wide fence (an iterator's own body, where it calls yield). -/
section
variable {O : Array Oper} {rest : List Oper} {o : Oper} {n d m : Nat} {L : List (Nat × Value)} {v : Value} {w' : World} {ds : List Deferred}
theorem envI_put (E : EnvD ds n L a) (hd : o.dst = some d) (hn : d < n) (hf : (L.map (·.1)).contains d = false) (hw : Region.wanted o (yielded O a.tmps) = true) (hr : (execOp a.eval o).run P w = .ok (.value v) w') (k : ∀ a', EnvD ds n ((d, v) :: L) a' → wpListIn Fence.wide m P O Q rest a' w') : wpListIn Fence.wide m P O Q (o :: rest) a w := by
 simp only [wpListIn, hw, if_true]
 refine ⟨fun _ _ => trivial, ?_⟩
 show Oper.uponIn _ _ _ _ _ _ _ ((execOp a.eval o).run P w)
 rw [hr]
 show wpListIn Fence.wide m P O Q rest (a.put o.dst v) w'
 rw [hd]
 exact k _ (E.put hn hf)
theorem run_yieldc {ρ : Operand → Value} {l fn : Nat} {x y : Operand} {ts : Array TypeId} {v : Value} {tmps : Array Value} {as9 bd : Code} (ho : o.op = .call ⟨.value y, #[x], ts⟩) (hy : ρ y = .func (.yield l) #[] #[]) (hx : ρ x = v) (hrun : (Instr.yield l #[v]).run P w = .ok (.round l fn tmps as9 bd) w) : (execOp ρ o).run P w = .ok (.round l fn tmps as9 bd) w := by
 simp [execOp, ho, hy, hx, resolve, Deferred.ofValue, invoke, go_sem, hrun]
theorem run_yieldc2 {ρ : Operand → Value} {l fn : Nat} {x x2 y : Operand} {ts : Array TypeId} {v v2 : Value} {tmps : Array Value} {as9 bd : Code} (ho : o.op = .call ⟨.value y, #[x, x2], ts⟩) (hy : ρ y = .func (.yield l) #[] #[]) (hx : ρ x = v) (hx2 : ρ x2 = v2) (hrun : (Instr.yield l #[v, v2]).run P w = .ok (.round l fn tmps as9 bd) w) : (execOp ρ o).run P w = .ok (.round l fn tmps as9 bd) w := by
 simp [execOp, ho, hy, hx, hx2, resolve, Deferred.ofValue, invoke, go_sem, hrun]
theorem envI_yieldG {l : Nat} {args : Array Value} {R S : World → Prop} (E : EnvD ds n L a) (hd : o.dst = some d) (hn : d < n) (hf : (L.map (·.1)).contains d = false) (hw : Region.wanted o (yielded O a.tmps) = true)
  (hrun : ∀ fn tmps as9 bd, (Instr.yield l args).run P w = .ok (.round l fn tmps as9 bd) w → (execOp a.eval o).run P w = .ok (.round l fn tmps as9 bd) w) (hR : RoundOf P l args w R S)
  (k : ∀ a' w' b, (b = true ∧ R w') ∨ (b = false ∧ S w') → EnvD ds n ((d, .bool b) :: L) a' → wpListIn Fence.wide m P O Q rest a' w') : wpListIn Fence.wide m P O Q (o :: rest) a w := by
 obtain ⟨m', fn, tmps, as9, bd, hrun1, hF, hround⟩ := hR
 simp only [wpListIn, hw, if_true]
 refine ⟨fun _ _ => trivial, ?_⟩
 show Oper.uponIn _ _ _ _ _ _ _ ((execOp a.eval o).run P w)
 rw [hrun _ _ _ _ hrun1]
 refine ⟨fun h => (by cases h), trivial, fun c cs _ => ?_⟩
 obtain ⟨e2, w2, h, h3⟩ := hround c cs (room_wide _)
 rcases h with ⟨rfl, h2⟩ | ⟨rfl, h2⟩
 ·refine ⟨.returned (.bool true), w2, ?_, h3⟩
  show wpListIn Fence.wide m P O Q rest (a.put o.dst _) w2
  rw [hd]
  exact k _ _ true (.inl ⟨rfl, h2⟩) (E.put hn hf)
 ·refine ⟨.returned (.bool false), w2, ?_, h3⟩
  show wpListIn Fence.wide m P O Q rest (a.put o.dst _) w2
  rw [hd]
  exact k _ _ false (.inr ⟨rfl, h2⟩) (E.put hn hf)
theorem envI_yield {l : Nat} {x y : Operand} {ts : Array TypeId} {v : Value} {R S : World → Prop} (E : EnvD ds n L a) (hd : o.dst = some d) (hn : d < n) (hf : (L.map (·.1)).contains d = false) (hw : Region.wanted o (yielded O a.tmps) = true) (ho : o.op = .call ⟨.value y, #[x], ts⟩) (hy : a.eval y = .func (.yield l) #[] #[]) (hx : a.eval x = v) (hR : RoundOf P l #[v] w R S)
  (k : ∀ a' w' b, (b = true ∧ R w') ∨ (b = false ∧ S w') → EnvD ds n ((d, .bool b) :: L) a' → wpListIn Fence.wide m P O Q rest a' w') : wpListIn Fence.wide m P O Q (o :: rest) a w :=
 envI_yieldG E hd hn hf hw (fun _ _ _ _ h => run_yieldc ho hy hx h) hR k
theorem envI_yield2 {l : Nat} {x x2 y : Operand} {ts : Array TypeId} {v v2 : Value} {R S : World → Prop} (E : EnvD ds n L a) (hd : o.dst = some d) (hn : d < n) (hf : (L.map (·.1)).contains d = false) (hw : Region.wanted o (yielded O a.tmps) = true) (ho : o.op = .call ⟨.value y, #[x, x2], ts⟩) (hy : a.eval y = .func (.yield l) #[] #[]) (hx : a.eval x = v) (hx2 : a.eval x2 = v2) (hR : RoundOf P l #[v, v2] w R S)
  (k : ∀ a' w' b, (b = true ∧ R w') ∨ (b = false ∧ S w') → EnvD ds n ((d, .bool b) :: L) a' → wpListIn Fence.wide m P O Q rest a' w') : wpListIn Fence.wide m P O Q (o :: rest) a w :=
 envI_yieldG E hd hn hf hw (fun _ _ _ _ h => run_yieldc2 ho hy hx hx2 h) hR k
theorem envI_region {id : Nat} {l : List Oper} (h : wpListIn Fence.wide 0 P l.toArray Q l a w) : (Code.region id l.toArray false).wp P Q a w := (wpIn_wide (n := 0)).1 (wpIn_region_lit h)
theorem envI_nil (h : Q .normal a w) : wpListIn Fence.wide m P O Q [] a w := h
end
theorem env_zip1 {ds : List Deferred} {n d : Nat} {L : List (Nat × Value)} {a : Act} {x : Value} (E : EnvD ds n L a) (hn : d < n) (hf : (L.map (·.1)).contains d = false) : Env n ((d, x) :: L) { tmps := ((#[d] : Array Tmp).zip #[x]).foldl (fun t (p, v) => t.setIfInBounds p v) a.tmps, defers := [] } := by
 have h := E.put (v := x) hn hf
 refine ⟨?_, ?_, rfl⟩
 ·have := h.size
  simpa [Act.put] using this
 ·intro y hy
  have := h.at_ y hy
  simpa [Act.put, Act.eval] using this
end Go.Pl
namespace Go.Pl
open Go.RowKit
variable {P : Program} {w w' : World} {ds : List Deferred}
abbrev mkD (D : Nat) : Deferred := { target := .collected D, args := #[] }
def isMark (ds : List Deferred) (k : Nat) : Prop := mkD k ∈ ds
/-- The marks' blocks: each once, each without a call. -/
def MarksOk (w : World) (ds : List Deferred) : Prop := ds.Nodup ∧ ∀ d ∈ ds, ∃ D, d = mkD D ∧ w.heap[D]? = some (.deferred (some []))
theorem MarksOk.nil (w : World) : MarksOk w [] := ⟨List.nodup_nil, fun _ h => by cases h⟩
theorem mkD_inj {a b : Nat} (h : mkD a = mkD b) : a = b := by
 simp only [mkD, Deferred.mk.injEq, Target.collected.injEq] at h; exact h.1
theorem MarksOk.at (h : MarksOk w ds) {k : Nat} (hk : isMark ds k) : w.heap[k]? = some (.deferred (some [])) := by
 obtain ⟨D, h1, h2⟩ := h.2 _ hk
 rw [mkD_inj h1]; exact h2
theorem MarksOk.fr {F : Nat → Prop} (h : MarksOk w ds) (hf : Fr F w w') (hF : ∀ k, isMark ds k → ¬ F k) : MarksOk w' ds :=
 ⟨h.1, fun d hd => by
  obtain ⟨D, h1, h2⟩ := h.2 d hd
  exact ⟨D, h1, hf.obj h2 (hF D (by unfold isMark; rw [← h1]; exact hd))⟩⟩
theorem MarksOk.cons (h : MarksOk w ds) {D : Nat} (hD : w.heap[D]? = some (.deferred (some []))) (hn : ¬ isMark ds D) : MarksOk w (mkD D :: ds) :=
 ⟨List.nodup_cons.2 ⟨hn, h.1⟩, fun d hd => by
  rcases List.mem_cons.1 hd with rfl | hd
  ·exact ⟨D, rfl, hD⟩
  ·exact h.2 d hd⟩
theorem isMark_cons {D k : Nat} : isMark (mkD D :: ds) k ↔ k = D ∨ isMark ds k := by
 unfold isMark
 rw [List.mem_cons]
 constructor
 ·rintro (h | h)
  ·exact .inl (mkD_inj h)
  ·exact .inr h
 ·rintro (rfl | h)
  ·exact .inl rfl
  ·exact .inr h
theorem leavesM {fn : Func} {tmps : Array Value} {R : Ending → World → Prop} : ∀ (ds : List Deferred) (w : World), MarksOk w ds →
  (∀ w', Fr (isMark ds) w w' → ∃ v, (results fn tmps).run P w' = .ok v w' ∧ R (.returned v) w') → LeavesInM Fence.wide 0 P fn tmps R ds .returning w := by
 intro ds
 induction ds with
 | nil => intro w _ h; exact h w (Fr.refl _ _)
 | cons d ds ih =>
  intro w hm h
  obtain ⟨D, rfl, hD⟩ := hm.2 d (by simp)
  refine ⟨by simp, .inl ⟨D, _, rfl, run_takeDeferred hD, ih _ ⟨(List.nodup_cons.1 hm.1).2, fun e he => ?_⟩ fun w' hf => h w' ?_⟩⟩
  ·obtain ⟨D2, rfl, h2⟩ := hm.2 e (by simp [he])
   refine ⟨D2, rfl, (World.putObj_heap_other ?_).trans h2⟩
   rintro rfl
   exact (List.nodup_cons.1 hm.1).1 he
  ·exact ((Fr.putObj w D (.deferred none)).mono (fun k _ hk => isMark_cons.2 (.inl hk))).trans' hf (fun k _ hk => isMark_cons.2 (.inr hk))
theorem wp_startM1 {f : FuncId} {fn : Func} {c : Code} {R : Ending → World → Prop} {n : Nat} {v0 : Value} (hf : P.funcs[f]? = some fn) (hb : fn.body = some c) (hn : fn.ntmps = n) (h2 : 1 ≤ n) (k : ∀ a, Env n [(0, v0)] a → c.wp P (bodyPostM Fence.wide 0 P fn R) a w) : Calls P f #[v0] w R := by
 refine (callsIn_wide (n := 0)).1 (callsIn_of_wp_marks hf hb trivial ((wpIn_wide (n := 0)).2 (k _ ⟨?_, ?_, rfl⟩)))
 ·simp [hn]; omega
 ·intro x hx
  simp only [List.mem_cons, List.not_mem_nil, or_false] at hx
  subst hx
  show (#[v0] ++ Array.replicate (fn.ntmps - 1) undef).getD 0 undef = v0
  rw [Array.getD_eq_getD_getElem?, Array.getElem?_append_left (by simp)]; rfl
theorem retM_tmp {fn : Func} {R : Ending → World → Prop} {n : Nat} {L : List (Nat × Value)} {a : Act} {t : Tmp} {v : Value} (hr : fn.results = #[.tmp t]) (E : EnvD ds n L a) (hv : a.eval (.tmp t) = v) (hm : MarksOk w ds) (h : ∀ w', Fr (isMark ds) w w' → R (.returned v) w') : bodyPostM Fence.wide 0 P fn R .ret a w := by
 show LeavesInM Fence.wide 0 P fn a.tmps R a.defers .returning w
 rw [E.df]
 refine leavesM ds w hm fun w' hf => ⟨v, ?_, h w' hf⟩
 unfold results
 rw [hr]
 have : a.tmps.getD t undef = v := hv
 rw [Array.getD_eq_getD_getElem?] at this
 simp [this]
theorem env_mark {ds : List Deferred} {n D : Nat} {L : List (Nat × Value)} {a : Act} (E : EnvD ds n L a) : EnvD (mkD D :: ds) n L { a with defers := { target := .collected D, args := #[] } :: a.defers } :=
 ⟨E.size, E.at_, by simp only; rw [E.df]⟩
theorem wp_startM2 {f : FuncId} {fn : Func} {c : Code} {R : Ending → World → Prop} {n : Nat} {v0 v1 : Value} (hf : P.funcs[f]? = some fn) (hb : fn.body = some c) (hn : fn.ntmps = n) (h2 : 2 ≤ n) (k : ∀ a, Env n [(0, v0), (1, v1)] a → c.wp P (bodyPostM Fence.wide 0 P fn R) a w) : Calls P f #[v0, v1] w R := by
 refine (callsIn_wide (n := 0)).1 (callsIn_of_wp_marks hf hb trivial ((wpIn_wide (n := 0)).2 (k _ ⟨?_, ?_, rfl⟩)))
 ·simp [hn]; omega
 ·intro x hx
  simp only [List.mem_cons, List.not_mem_nil, or_false] at hx
  rcases hx with rfl | rfl
  ·show (#[v0, v1] ++ Array.replicate (fn.ntmps - 2) undef).getD 0 undef = v0
   rw [Array.getD_eq_getD_getElem?, Array.getElem?_append_left (by simp)]; rfl
  ·show (#[v0, v1] ++ Array.replicate (fn.ntmps - 2) undef).getD 1 undef = v1
   rw [Array.getD_eq_getD_getElem?, Array.getElem?_append_left (by simp)]; rfl
theorem retM_ {fn : Func} {R : Ending → World → Prop} {n : Nat} {L : List (Nat × Value)} {a : Act} {v : Value} (E : EnvD ds n L a) (hm : MarksOk w ds) (h : ∀ w', Fr (isMark ds) w w' → (results fn a.tmps).run P w' = .ok v w' ∧ R (.returned v) w') : bodyPostM Fence.wide 0 P fn R .ret a w := by
 show LeavesInM Fence.wide 0 P fn a.tmps R a.defers .returning w
 rw [E.df]
 exact leavesM ds w hm fun w' hf => ⟨v, h w' hf⟩
end Go.Pl
/- Iterating over rows: slices.Values, Collect, AppendSeq. -/
set_option linter.unusedVariables false
set_option linter.unusedSimpArgs false
namespace Go.Proofs.YtjaffpnegdcjnaaGreatDoor
open Go.RowKit Go.Pl
section
variable {o : Oper} {w : World} {ρ : Operand → Value} {x y : Operand} {b off : Nat} {u v : Value}
theorem run_box22 {p : Option Addr} {n c : Nat} (ho : o.op = .box 22 x) (hx : ρ x = .slice p n c) : (execOp ρ o).run Tryz.prog w = .ok (.value (.pointer (some ⟨w.heap.size, 0, none⟩))) (w.alloc (.cells #[.slice p n c] 22)) := by
 simp [execOp, ho, hx, go_sem]
theorem run_box91 {f : Fn} {a c : Array Value} (ho : o.op = .box 91 x) (hx : ρ x = .func f a c) : (execOp ρ o).run Tryz.prog w = .ok (.value (.pointer (some ⟨w.heap.size, 0, none⟩))) (w.alloc (.cells #[.func f a c] 91)) := by
 simp [execOp, ho, hx, go_sem]
theorem run_mkfn {f : Nat} (ho : o.op = .makeFunc (.func f) #[] #[x]) (hx : ρ x = v) : (execOp ρ o).run Tryz.prog w = .ok (.value (.func (.func f) #[] #[v])) w := by
 simp [execOp, ho, hx, go_sem]
theorem run_st22v (hs : ∃ p n c, v = .slice p n c) (ho : o.op = .store 22 x y) (hx : ρ x = .pointer (some ⟨b, off, none⟩)) (hy : ρ y = v) (hc : w.cell? ⟨b, off, none⟩ = some u) (hz : w.frozen? ⟨b, off, none⟩ = false) : (execOp ρ o).run Tryz.prog w = .ok .skip (w.setCell ⟨b, off, none⟩ v) := by
 obtain ⟨p, n, c, rfl⟩ := hs
 exact run_st22 ho hx hy hc hz
end
theorem ow.sl {α : Type} {f : α → List Value} {c : Nat} {E : TypeId} (hf : ∀ x, (f x).length = c) {w : World} {B : Nat} {v : Value} {L : List α} (h : ow f c E w B v L) : ∃ p n c, v = .slice p n c := by
 obtain ⟨p, cap, hv, _⟩ := h.src hf
 exact ⟨p, _, cap, hv⟩
theorem rnd_r {R S : World → Prop} {a : Act} {W : World} (h : S W) : rndP R S .ret a W := h
theorem rnd_n {R S : World → Prop} {a : Act} {W : World} (h : R W) : rndP R S .normal a W := h
/-- What an iterator over a row needs. -/
def ValK (c1 G : Nat) (p : Option Addr) (cap : Nat) (L : List Sp) (W : World) : Prop := W.heap[c1]? = some (.cells #[.slice p L.length cap] 22 (0, 0)) ∧ srcAt spL 2 W G p L ∧ G ≤ W.heap.size
theorem ValK.fr {c1 G : Nat} {p : Option Addr} {cap : Nat} {L : List Sp} {W W' : World} {F : Nat → Prop} (h : ValK c1 G p cap L W) (f : Fr F W W') (h1 : ¬ F c1) (h2 : ∀ r, r < G → ¬ F r) : ValK c1 G p cap L W' := ⟨f.obj h.1 h1, h.2.1.fr f h2, Nat.le_trans h.2.2 f.size⟩
def valv (L : List Sp) : List (Array Value) := L.map fun s => #[.agg (spA s)]
set_option maxRecDepth 100000 in
set_option maxHeartbeats 4000000 in
theorem values_yields {c1 G cap : Nat} {p : Option Addr} {L : List Sp} (hl : L.length ≤ 400000000) : IterOf Tryz.prog 102 #[.pointer (some ⟨c1, 0, none⟩)] (valv L) (ValK c1 G p cap L) := by
 intro l J S w hJF hSF hKp hround hJ
 refine wp_start2 Tryz.func102 rfl rfl (n := 16) (by decide) fun a E => ?_
 obtain ⟨hc1, hsp, hG⟩ := hKp _ _ hJ
 have hcl := lt_of_blk hc1
 refine s_ (r_ (ep (v := .slice (p) L.length cap) E rfl (run_ld22 rfl E.g1 (bx hc1 0 rfl)) fun a E => ep (v := .int .i64 (L.length : Int)) E rfl (run_len22 rfl E.g0) fun a E => ep (v := .int .i64 0) E rfl (m_ rfl rfl) fun a E => n_ (t_ (bk_ (wp_loop (fun a w2 => ∃ (k : Nat), Env 16 [(0, .func (.yield l) #[] #[]), (1, .pointer (some ⟨c1, 0, none⟩)), (5, .slice (p) L.length cap), (6, .int .i64 (L.length : Int)), (7, .int .i64 (k : Int))] a ∧ k ≤ L.length ∧ J k w2) (fun a _ => L.length - (intOf (a.eval (.tmp 7))).toNat) ?_ ?_)))))
 ·exact ⟨0, E.of ⟨E.g3, E.g4, E.g2, E.g1, E.g0, trivial⟩, Nat.zero_le _, hJ⟩
 clear E
 rintro a w2 ⟨k, E, hk, hJ⟩
 have hmu : L.length - (intOf (a.eval (.tmp 7))).toNat = L.length - k := by rw [E.g4]; first | rfl | (simp [intOf]; done) | (simp only [intOf]; omega)
 rw [hmu]
 clear hmu
 have hf : Fr (fun _ => False) w2 w2 := Fr.refl _ _
 obtain ⟨hc1, hsp, hG⟩ := hKp _ _ hJ
 refine s_ (r_ (ep (v := .bool (decide ((k : Int) < (L.length : Int)))) E rfl (run_ilss E.g4 E.g3 Tryz.underlying3 rfl) fun a E => n_ (t_ (s_ ?_))))
 cases hq2 : (decide ((k : Int) < (L.length : Int))) with
 | false =>
  rw [hq2] at E
  have hie : k = L.length := by have := of_decide_eq_false hq2; omega
  refine c_f E.g0 (x_ (te_ (te_ (be_ ((ret_nil rfl E ⟨⟨_, rfl⟩, .inl ?_⟩).1)))))
  unfold valv
  rw [List.length_map, ← hie]; exact hJ
 | true =>
  rw [hq2] at E
  have hlt : k < L.length := by have := of_decide_eq_true hq2; omega
  obtain ⟨y, hy⟩ : ∃ y, L[k]? = some y := ⟨_, List.getElem?_eq_getElem hlt⟩
  obtain ⟨g3, off3, hpe3, hgl3, hrow3⟩ := hsp.at hlt
  replace hrow3 := hrow3 k y hy
  refine c_t E.g0 (k_ (t_ (s_ (bk_ (s_ (r_ (ep (v := .pointer (some ⟨g3, (off3 + k * 2), none⟩)) E rfl (run_index22 (i := k) rfl (E.g3.trans (by rw [hpe3])) E.g5 hlt) fun a E => ep (v := .agg (spA y)) E rfl (run_ld48 rfl E.g0 hrow3) fun a E => env_new (d := 4) E rfl (by decide) rfl (wanted_none rfl _) (run_alloc48 rfl) fun a w1 b4 eb4 hb4 f1 E => ?_)))))))
  have hnb4 : w2.heap.size ≤ b4 := by have := hf.size; omega
  have hlc1b4 : c1 < b4 := by have := lt_of_blk hc1; omega
  have hsp := srcAt.fr hsp f1 (fun r hr => id)
  have hc1 := f1.obj hc1 id
  have hrow3 := fun j u hu => f1.cell (hrow3 j u hu) id
  have hf := hf.trans' f1 (fun _ _ h => h.elim)
  clear f1
  refine env_st48 E rfl (wanted_none rfl _) rfl E.g0 E.g1 hb4 fun w1 hb4n f1 E => ?_
  have hsp := srcAt.fr hsp f1 (fun _ hr => nq_)
  have hc1 := f1.obj hc1 nq_
  have hrow3 := fun j u hu => f1.cell (hrow3 j u hu) nq_
  have hf := hf.trans' f1 (fun _ hr => nq_)
  clear f1
  replace hb4 := hb4n
  refine n_ (t_ (s_ (envI_region (envI_put (d := 11) (v := .func (.yield l) #[] #[]) E rfl (by decide) rfl (wanted_none rfl _) (m_ rfl E.g4) fun a E => envI_put (d := 12) (v := .agg (spA y)) E rfl (by decide) rfl (wanted_none rfl _) (run_ld48 rfl E.g1 (rng2 (p := y) hb4 0 rfl rfl)) fun a E => envI_yield (d := 13) E rfl (by decide) rfl (wanted_none rfl _) rfl E.g1 E.g0 (hround k _ _ (hJF _ _ _ hJ hf) (by unfold valv; rw [List.getElem?_map, hy]; rfl)) fun a w3 bb hbb E => ?_))))
  refine envI_put (d := 14) (v := .bool (!bb)) E rfl (by decide) rfl (wanted_none rfl _) (run_not rfl E.g0) fun a E => envI_nil (t_ ?_)
  cases hq5 : bb with
  | false =>
   rw [hq5] at E
   have hS : S w3 := hbb.elim (fun h9 => by rw [hq5] at h9; cases h9.1) (fun h9 => h9.2)
   refine c_t E.g0 (wr_ (br_ (tr_ (tr_ (br_ ((ret_nil rfl E ⟨⟨_, rfl⟩, .inr hS⟩).2))))))
  | true =>
   rw [hq5] at E
   have hJ : J (k + 1) w3 := hbb.elim (fun h9 => h9.2) (fun h9 => by rw [hq5] at h9; cases h9.1)
   refine c_f E.g0 (k_ (b_ (t_ (r_ (ep (v := .int .i64 ((k : Int) + 1)) E rfl (run_iadd Tryz.underlying3 E.g12 rfl (by omega) (by omega) rfl) fun a E => es_ E rfl (m_ rfl E.g0) fun a E => n_ (t_ ?_))))))
   refine ⟨⟨k + 1, E.of ⟨E.g10, E.g11, E.g12, E.g13, E.g0, trivial⟩, hlt, hJ⟩, ?_⟩
   rw [E.g0]; simp only [intOf]; omega
set_option maxRecDepth 100000 in
set_option maxHeartbeats 4000000 in
theorem appendSeq_calls {w : World} {gf : Nat} {lb : Array Value} {L : List Sp} {Kp : World → Prop} (hl : L.length ≤ 20000) (eg : ∀ args w, (callFunc gf args).run Tryz.prog w = .ok (.enter gf args) w) (hY : IterOf Tryz.prog gf lb (valv L) Kp) (hK : ∀ W, Fr (fun _ => False) w W → Kp W) :
  Calls Tryz.prog 109 #[.slice none 0 0, .func (.func gf) #[] lb] w fun e w' => ∃ v, e = .returned v ∧ oSp w' w.heap.size v L ∧ Fr (fun _ => False) w w' := by
 refine wp_startM2 Tryz.func109 rfl rfl (n := 13) (by decide) fun a E => ?_
 have hf : Fr (fun _ => False) w w := Fr.refl _ _
 refine s_ (r_ (env_new (d := 2) E rfl (by decide) rfl (wanted_none rfl _) (run_box22 rfl E.g0) fun a w1 b6 eb6 hb6 f1 E => ?_))
 have hnb6 : w.heap.size ≤ b6 := by have := hf.size; omega
 have hf := hf.trans' f1 (fun _ _ h => h.elim)
 clear f1
 refine ep (v := .slice none 0 0) E rfl (a_ rfl rfl) fun a E => n_ (t_ (s_ (s_ (r_ (ep E rfl (m_ rfl E.g3) fun a E => n_ (t_ (bk_ ?_)))))))
 obtain ⟨wr, hwr⟩ : ∃ wr, wr = w1 := ⟨_, rfl⟩
 rw [← hwr]
 have hcr := hb6
 rw [← hwr] at hcr
 have hfr : Fr (fun _ => False) w wr := hwr ▸ hf
 have hcw := lt_of_blk hcr
 have hwc : w.heap.size ≤ b6 := hnb6
 refine wp_rangeF (fun k W => ∃ v, W.heap[b6]? = some (.cells #[v] 22 (0, 0)) ∧ oSp W (wr.heap.size + 2) v (L.take k) ∧ Fr (fun _ => False) w W) (fun _ => False) (fun v a W => ∃ s b5, v = #[.agg (spA s)] ∧ wr.heap.size + 2 ≤ b5 ∧ W.heap[b5]? = some (.cells (spA s) 48 (0, 0)) ∧ Env 13 [(5, .pointer (some ⟨b5, 0, none⟩)), (2, .pointer (some ⟨b6, 0, none⟩))] a) E.g0 eg (vs := valv L) hY (fun v hv => by obtain ⟨s, _, rfl⟩ := List.mem_map.1 hv; rfl) ?_ (fun _ _ h _ => h) ?_ ⟨_, hcr, ow_nil _, hfr⟩ ?_ ?_ ?_ ?_ (fun _ h _ => h.elim)
 ·rintro k W W' ⟨v, h1, h2, h3⟩ f
  exact ⟨v, f.obj h1 (by omega), h2.fr f (fun b hb e => by have := (h2.lt hb).1; omega), h3.trans' f (fun r hr e => by have := hfr.size; omega)⟩
 ·rintro k W ⟨v, h1, h2, h3⟩
  exact hK W h3
 ·rintro v a W W' ⟨s, b5, h1, h2, h3, h4⟩ f
  exact ⟨s, b5, h1, h2, f.obj h3 (by omega), h4⟩
 ·intro l v W K hv hW hK
  obtain ⟨s, _, rfl⟩ := List.mem_map.1 hv
  have E := env_zip1 (d := 7) (x := .agg (spA s)) (E.of (L' := [(2, .pointer (some ⟨b6, 0, none⟩))]) ⟨E.g2, trivial⟩) (by decide) rfl
  have hf : Fr (fun _ => False) W W := Fr.refl _ _
  refine wpR_region_lit (by kernel_rfl) (fun ⟨_, _, h⟩ => h) (env_new (d := 5) E rfl (by decide) rfl (wanted_none rfl _) (run_alloc48 rfl) fun a w1 b7 eb7 hb7 f1 E => ?_)
  have hnb7 : W.heap.size ≤ b7 := by have := hf.size; omega
  have hf := hf.trans' f1 (fun _ _ h => h.elim)
  clear f1
  refine env_st48 E rfl (wanted_none rfl _) rfl E.g0 E.g1 hb7 fun w1 hb7n f1 E => ?_
  have hf := hf.trans' f1 (fun _ hr => nq_)
  clear f1
  replace hb7 := hb7n
  refine n_ (hK _ _ ⟨s, b7, rfl, by omega, hb7, E.of ⟨E.g0, E.g2, trivial⟩⟩ hf)
 ·rintro k v a9 W hv ⟨dv, hc2, hO, hF⟩ ⟨s, b5, hvs, hb5, hs5, E⟩ hW -
  have hf : Fr (fun b => b = b6 ∨ wr.heap.size + 2 ≤ b) W W := Fr.refl _ _
  obtain ⟨y, hy, rfl⟩ : ∃ y, L[k]? = some y ∧ y = s := by
   unfold valv at hv
   rw [List.getElem?_map] at hv
   cases hq : L[k]? with
   | none => rw [hq] at hv; cases hv
   | some y =>
    rw [hq] at hv
    subst hvs
    simp only [Option.map_some, Option.some.injEq, Array.mk.injEq, List.cons.injEq, Value.agg.injEq, and_true, spA] at hv
    exact ⟨y, rfl, by obtain ⟨y1, y2⟩ := y; obtain ⟨s1, s2⟩ := s; simpa using hv⟩
  have hlt : k < L.length := (List.getElem?_eq_some_iff.1 hy).1
  obtain ⟨B, hB⟩ : ∃ B, B = wr.heap.size + 2 := ⟨_, rfl⟩
  rw [← hB] at hO
  have hBs : B ≤ W.heap.size := by omega
  have hBc : b6 < B := by omega
  have hl5 : b6 < b5 := by omega
  refine wpIn_block (wpR_region_lit (by kernel_rfl) (fun ⟨_, _, h⟩ => h) (ep (v := dv) E rfl (run_ld22 rfl E.g1 (bx hc2 0 rfl)) fun a E => ep (v := .agg (spA y)) E rfl (run_ld48 rfl E.g1 (rng2 (p := y) hs5 0 rfl rfl)) fun a E => env_one22 (d := 10) E rfl (by decide) rfl (wanted_none rfl _) rfl E.g0 fun a w1 b8 eb8 hbb8 f1 E => ?_))
  have hc2 := f1.obj hc2 id
  have hs5 := f1.obj hs5 id
  have hBs := Nat.le_trans hBs f1.size
  have hO := ow.fr hO f1 (fun _ _ => id)
  have hf := hf.trans' f1 (fun _ _ h => h.elim)
  clear f1
  have hsb8 := src_one (f := spL) (c := 2) (G := w1.heap.size) hbb8 (lt_of_blk hbb8)
  clear hbb8 eb8
  refine env_app22 (d := 11) E rfl (by decide) rfl rfl rfl E.g2 hO E.g0 hsb8 (fun h => by cases h) (by simp only [List.length_take, List.length_cons, List.length_nil]; omega) hBs fun a w1 ov9 hO2 f1 hloc E => ?_
  have hc2 := f1.obj hc2 (fun e => by have := (hO.lt e).1; (try simp only at e); omega)
  have hBs := Nat.le_trans hBs f1.size
  have hf := hf.trans' f1 (fun r hr => (fun e => by have := (hO.lt e).1; (try simp only at e); omega))
  clear f1
  replace hO := hO2
  clear hloc
  refine env_st1 (j := 0) E rfl (wanted_none rfl _) hc2 (run_st22v (ow.sl spL_len hO) rfl E.g5 E.g0 (bx hc2 0 rfl) (free_of_blk hc2 0)) fun w1 hc2n f1 E => ?_
  replace hc2n : w1.heap[b6]? = some (.cells #[ov9] 22 (0, 0)) := hc2n
  have hBs := Nat.le_trans hBs f1.size
  have hO := ow.fr hO f1 (fun k hk e => by have := (hO.lt hk).1; (try simp only at e); omega)
  have hf := hf.trans' f1 (fun _ hr => nq_)
  clear f1
  replace hc2 := hc2n
  refine n_ (b_ (rnd_n ⟨⟨_, hc2, ?_, ?_⟩, ?_, ?_⟩))
  ·rw [List.take_add_one, hy, ← hB]; exact hO
  ·exact hF.trans' hf (fun r hr e => by omega)
  ·exact hf.blk _ (by omega) (by omega)
  ·exact hf.blk _ (by omega) (by omega)
 ·rintro W ⟨dv, hc2, hO, hF⟩ hDk
  have E := env_mark (D := wr.heap.size) E
 
  refine b_ (t_ (s_ (r_ (ep (v := dv) E rfl (run_ld22 rfl E.g2 (bx hc2 0 rfl)) fun a E => es_ E rfl (a_ rfl E.g0) fun a E => n_ (t_ (wr_ ?_))))))
  have hL : L.take (valv L).length = L := by unfold valv; rw [List.length_map]; exact List.take_length
  rw [hL] at hO
  exact retM_tmp (t := 4) rfl E E.g0 ((MarksOk.nil _).cons hDk (fun h => by cases h)) (fun w9 f9 => ⟨_, rfl, (hO.base (by have := hfr.size; omega)).fr f9 (fun b hb e => by have := (hO.lt hb).1; rcases isMark_cons.1 e with e | e; omega; cases e), hF.trans' f9 (fun r hr e => by rcases isMark_cons.1 e with e | e; (have := hfr.size; omega); cases e)⟩)
set_option maxRecDepth 100000 in
set_option maxHeartbeats 4000000 in
theorem collect_calls {w : World} {gf : Nat} {lb : Array Value} {L : List Sp} {Kp : World → Prop} (hl : L.length ≤ 20000) (eg : ∀ args w, (callFunc gf args).run Tryz.prog w = .ok (.enter gf args) w) (hY : IterOf Tryz.prog gf lb (valv L) Kp) (hK : ∀ W, Fr (fun _ => False) w W → Kp W) :
  Calls Tryz.prog 100 #[.func (.func gf) #[] lb] w fun e w' => ∃ v, e = .returned v ∧ oSp w' w.heap.size v L ∧ Fr (fun _ => False) w w' := by
 refine wp_start1 Tryz.func100 rfl rfl (n := 5) (by decide) fun a E => ?_
 have hf : Fr (fun _ => False) w w := Fr.refl _ _
 refine s_ (r_ (ep (v := .slice none 0 0) E rfl (a_ rfl rfl) fun a E => n_ (t_ (s_ (r_ (ep E rfl (m_ rfl E.g1) fun a E => env_callv (d := 4) (R := fun u w8 => oSp w8 w.heap.size u L ∧ Fr (fun _ => False) w w8) E rfl (by decide) rfl (wanted_none rfl _) (run_call2 (enters_of Tryz.func109 (by kernel_rfl) rfl) rfl rfl rfl E.g0) ((appendSeq_calls hl eg hY hK).mono fun e w8 h => by obtain ⟨v, rfl, h⟩ := h; exact ⟨_, rfl, h⟩) fun a w1 rv ⟨hrv, f1⟩ E => ?_))))))
 have hf := hf.trans' f1 (fun _ _ h => h.elim)
 clear f1
 refine es_ E rfl (a_ rfl E.g0) fun a E => n_ (t_ (wr_ (ret_tmp (t := 2) rfl E E.g0 ⟨_, rfl, hrv, hf⟩)))
set_option maxRecDepth 100000 in
set_option maxHeartbeats 4000000 in
theorem values_calls (p : Option Addr) (n c : Nat) (w : World) : Calls Tryz.prog 82 #[.slice p n c] w fun e w' => ∃ b, e = .returned (.func (.func 102) #[] #[.pointer (some ⟨b, 0, none⟩)]) ∧ w'.heap[b]? = some (.cells #[.slice p n c] 22 (0, 0)) ∧ w.heap.size ≤ b ∧ Fr (fun _ => False) w w' := by
 refine wp_start1 Tryz.func82 rfl rfl (n := 4) (by decide) fun a E => ?_
 have hf : Fr (fun _ => False) w w := Fr.refl _ _
 refine s_ (r_ (env_new (d := 1) E rfl (by decide) rfl (wanted_none rfl _) (run_box22 rfl E.g0) fun a w1 b10 eb10 hb10 f1 E => ?_))
 have hnb10 : w.heap.size ≤ b10 := by have := hf.size; omega
 have hf := hf.trans' f1 (fun _ _ h => h.elim)
 clear f1
 refine ep (v := Value.nilFunc) E rfl (a_ rfl rfl) fun a E => n_ (t_ (s_ (r_ (ep (v := .func (.func 102) #[] #[.pointer (some ⟨b10, 0, none⟩)]) E rfl (run_mkfn rfl E.g1) fun a E => es_ E rfl (a_ rfl E.g0) fun a E => n_ (t_ (wr_ (ret_tmp (t := 2) rfl E E.g0 ⟨b10, rfl, hb10, hnb10, hf⟩)))))))
end Go.Proofs.YtjaffpnegdcjnaaGreatDoor
/- slices.SortFunc at the items and at the meetings: the library's contract laid by the kit's programs. -/
namespace Go.Proofs
open Go.Shelf
def Tryz.sortSp_ren : Go.Shelf.Ren := ⟨fun | 6 => 101 | 15 => 111 | 14 => 110 | 28 => 129 | 29 => 130 | 20 => 121 | 21 => 122 | 22 => 123 | 23 => 124 | 24 => 125 | 25 => 126 | 26 => 127 | 27 => 128 | 46 => 140 | 47 => 141 | 48 => 142 | 49 => 143 | 50 => 144 | 57 => 150 | n => n, fun | 22 => 22 | 24 => 48 | 25 => 127 | 3 => 3 | 39 => 117 | 0 => 0 | 53 => 50 | 55 => 166 | 4 => 4 | 46 => 174 | 45 => 173 | 50 => 40 | 5 => 5 | 9 => 9 | 66 => 192 | 70 => 196 | 76 => 204 | 77 => 96 | n => n, fun | n => n⟩
theorem Tryz.sortSp : Go.Proofs.SlLaysF0.n6 Tryz.prog Tryz.sortSp_ren := {
  mixed := by kernel_rfl
  f6 := ⟨Tryz.f101.name, by decide, Tryz.func101.trans (congrArg some (by kernel_rfl))⟩
  f14 := ⟨Tryz.f110.name, by decide, Tryz.func110.trans (congrArg some (by kernel_rfl))⟩
  f15 := Tryz.func111.trans (congrArg some (by kernel_rfl))
  f20 := ⟨Tryz.f121.name, by decide, Tryz.func121.trans (congrArg some (by kernel_rfl))⟩
  f21 := ⟨Tryz.f122.name, by decide, Tryz.func122.trans (congrArg some (by kernel_rfl))⟩
  f22 := ⟨Tryz.f123.name, by decide, Tryz.func123.trans (congrArg some (by kernel_rfl))⟩
  f23 := ⟨Tryz.f124.name, by decide, Tryz.func124.trans (congrArg some (by kernel_rfl))⟩
  f24 := ⟨Tryz.f125.name, by decide, Tryz.func125.trans (congrArg some (by kernel_rfl))⟩
  f25 := ⟨Tryz.f126.name, by decide, Tryz.func126.trans (congrArg some (by kernel_rfl))⟩
  f26 := ⟨Tryz.f127.name, by decide, Tryz.func127.trans (congrArg some (by kernel_rfl))⟩
  f27 := ⟨Tryz.f128.name, by decide, Tryz.func128.trans (congrArg some (by kernel_rfl))⟩
  f28 := Tryz.func129.trans (congrArg some (by kernel_rfl))
  f29 := Tryz.func130.trans (congrArg some (by kernel_rfl))
  f46 := ⟨Tryz.f140.name, by decide, Tryz.func140.trans (congrArg some (by kernel_rfl))⟩
  f47 := Tryz.func141.trans (congrArg some (by kernel_rfl))
  f48 := Tryz.func142.trans (congrArg some (by kernel_rfl))
  f49 := ⟨Tryz.f143.name, by decide, Tryz.func143.trans (congrArg some (by kernel_rfl))⟩
  f50 := ⟨Tryz.f144.name, by decide, Tryz.func144.trans (congrArg some (by kernel_rfl))⟩
  f57 := ⟨Tryz.f150.name, by decide, Tryz.func150.trans (congrArg some (by kernel_rfl))⟩
  t0 := Tryz.underlying0
  a0 := Tryz.isAgg0
  z0 := Tryz.sizeOf0
  v0 := Tryz.zeroValue0
  t3 := Tryz.underlying3
  a3 := Tryz.isAgg3
  z3 := Tryz.sizeOf3
  v3 := Tryz.zeroValue3
  t4 := Tryz.underlying4
  a4 := Tryz.isAgg4
  z4 := Tryz.sizeOf4
  v4 := Tryz.zeroValue4
  t5 := Tryz.underlying5
  a5 := Tryz.isAgg5
  z5 := Tryz.sizeOf5
  v5 := Tryz.zeroValue5
  t9 := Tryz.underlying9
  a9 := Tryz.isAgg9
  z9 := Tryz.sizeOf9
  v9 := Tryz.zeroValue9
  t22 := Tryz.underlying22
  a22 := Tryz.isAgg22
  z22 := Tryz.sizeOf22
  v22 := Tryz.zeroValue22
  t25 := Tryz.underlying127
  a25 := Tryz.isAgg127
  z25 := Tryz.sizeOf127
  v25 := Tryz.zeroValue127
  t39 := Tryz.underlying117
  a39 := Tryz.isAgg117
  z39 := Tryz.sizeOf117
  v39 := Tryz.zeroValue117
  t45 := Tryz.underlying173
  a45 := Tryz.isAgg173
  z45 := Tryz.sizeOf173
  v45 := Tryz.zeroValue173
  t46 := Tryz.underlying174
  a46 := Tryz.isAgg174
  z46 := Tryz.sizeOf174
  v46 := Tryz.zeroValue174
  t50 := Tryz.underlying40
  a50 := Tryz.isAgg40
  z50 := Tryz.sizeOf40
  v50 := Tryz.zeroValue40
  t53 := Tryz.underlying50
  a53 := Tryz.isAgg50
  z53 := Tryz.sizeOf50
  v53 := Tryz.zeroValue50
  t55 := Tryz.underlying166
  a55 := Tryz.isAgg166
  z55 := Tryz.sizeOf166
  v55 := Tryz.zeroValue166
  t66 := Tryz.underlying192
  a66 := Tryz.isAgg192
  z66 := Tryz.sizeOf192
  v66 := Tryz.zeroValue192
  t70 := Tryz.underlying196
  a70 := Tryz.isAgg196
  z70 := Tryz.sizeOf196
  v70 := Tryz.zeroValue196
  t76 := Tryz.underlying204
  a76 := Tryz.isAgg204
  z76 := Tryz.sizeOf204
  v76 := Tryz.zeroValue204
  t77 := Tryz.underlying96
  a77 := Tryz.isAgg96
  z77 := Tryz.sizeOf96
  v77 := Tryz.zeroValue96 }
end Go.Proofs
/- slices.SortFunc at spans. -/
set_option linter.unusedVariables false
set_option linter.unusedSimpArgs false
namespace Go.Proofs.YtjaffpnegdcjnaaGreatDoor
open Go.RowKit Go.Pl Go.Sort Go.Shelf
/-- w' is w with draws and new blocks behind it. -/
def Gw (w w' : World) : Prop := ∃ q os, w' = grow (w.drewN q) os
theorem grow_nil (w : World) : grow w #[] = w := by simp [grow]
theorem Gw.refl (w : World) : Gw w w := ⟨0, #[], by rw [grow_nil]; rfl⟩
theorem Gw.drew {w w' : World} (h : Gw w w') : Gw w w'.drew := by
 obtain ⟨q, os, rfl⟩ := h
 exact ⟨q + 1, os, rfl⟩
theorem Gw.alloc {w w' : World} (h : Gw w w') (o : Obj) : Gw w (w'.alloc o) := by
 obtain ⟨q, os, rfl⟩ := h
 refine ⟨q, os ++ #[o], ?_⟩
 simp [World.alloc, grow]
theorem Gw.trans {a b c : World} (h : Gw a b) (k : Gw b c) : Gw a c := by
 obtain ⟨q, os, rfl⟩ := h
 obtain ⟨q2, os2, rfl⟩ := k
 refine ⟨q + q2, os ++ os2, ?_⟩
 simp [grow, World.drewN, Nat.add_assoc]
theorem Gw.fr {w w' : World} (h : Gw w w') : Fr (fun _ => False) w w' := by
 obtain ⟨q, os, rfl⟩ := h
 refine ⟨rfl, rfl, rfl, ?_, fun r hr _ => ?_⟩
 ·simp [grow, World.drewN]
 ·simp only [grow, World.drewN]
  rw [Array.getElem?_append_left hr]
set_option maxHeartbeats 1000000 in
section
variable {α : Type} [Inhabited α] {c : Nat} {f : α → List Value} {T : TypeId}
/-- The cells cur begin with the elements L. -/
def laid (f : α → List Value) (c : Nat) (cur : Array Value) (L : List α) : Prop := ∀ t x, L[t]? = some x → ∀ j u, (f x)[j]? = some u → cur[t * c + j]? = some u
theorem get!_of {l : List Value} {j : Nat} {u : Value} (h : l[j]? = some u) : l[j]! = u := by rw [List.getElem!_eq_getElem?_getD, h]; rfl
theorem holds_laid (hc : 0 < c) (hf : ∀ x, (f x).length = c) {w : World} {g : Nat} {cur : Array Value} {L : List α} (hb : w.heap[g]? = some (.cells cur T (0, 0))) (h : laid f c cur L) : HoldsK f c w g 0 L.toArray := by
 intro t ht
 rw [size_flatK] at ht
 simp only [List.size_toArray] at ht
 have hq : t / c < L.length := by rw [Nat.div_lt_iff_lt_mul hc]; exact ht
 have hm : t % c < c := Nat.mod_lt _ hc
 obtain ⟨x, hx⟩ : ∃ x, L[t / c]? = some x := ⟨_, List.getElem?_eq_getElem hq⟩
 obtain ⟨u, hu⟩ : ∃ u, (f x)[t % c]? = some u := ⟨_, List.getElem?_eq_getElem (by rw [hf]; exact hm)⟩
 refine ⟨?_, free_of_blk hb _⟩
 rw [get_flatK f c L.toArray t (by simpa using ht)]
 have e1 : L.toArray[t / c]! = x := by
  rw [Array.getElem!_eq_getD, Array.getD_eq_getD_getElem?]
  simp [hx]
 rw [e1, get!_of hu, Nat.zero_add, cell_of_blk hb]
 have := h (t / c) x hx (t % c) u hu
 rw [Nat.mul_comm, Nat.div_add_mod] at this
 exact this
theorem laid_sorted (hf : ∀ x, (f x).length = c) {w : World} {g : Nat} {cur : Array Value} {L : List α} (hb : w.heap[g]? = some (.cells cur T (0, 0))) (hsz : L.length * c ≤ cur.size) (m : Nat) (os : Array Obj) :
  ∃ cur', (sortWorldK f c w g 0 m L.toArray os).heap[g]? = some (.cells cur' T (0, 0)) ∧ cur'.size = cur.size ∧ laid f c cur' L ∧ Fr (fun k => k = g) w (sortWorldK f c w g 0 m L.toArray os) := by
 have hlt := lt_of_blk hb
 have hmod : (mapBlock (Sort.ahead w m) g (putCells id 0 (flatK f c L.toArray))).heap[g]? = some (.cells (putCells id 0 (flatK f c L.toArray) cur) T (0, 0)) := by
  unfold mapBlock
  simp only [Array.getElem?_modify, if_true]
  show Option.map _ w.heap[g]? = _
  rw [hb]; rfl
 have hsize : (mapBlock (Sort.ahead w m) g (putCells id 0 (flatK f c L.toArray))).heap.size = w.heap.size := by
  unfold mapBlock Sort.ahead; simp
 refine ⟨putCells id 0 (flatK f c L.toArray) cur, ?_, ?_, ?_, ?_⟩
 ·unfold sortWorldK putRowK putRow grow
  simp only
  rw [Array.getElem?_append_left (by rw [hsize]; exact hlt)]
  exact hmod
 ·unfold putCells; simp
 ·intro t x hx j u hu
  have hj : j < c := by rw [← hf x]; exact (List.getElem?_eq_some_iff.1 hu).1
  have ht := (List.getElem?_eq_some_iff.1 hx).1
  have hlt2 : t * c + j < L.length * c := by
   have : t * c + c ≤ L.length * c := by rw [← Nat.succ_mul]; exact Nat.mul_le_mul_right c ht
   omega
  unfold putCells
  rw [Array.getElem?_mapIdx, Array.getElem?_eq_getElem (by omega)]
  simp only [Option.map_some, size_flatK, List.size_toArray, Nat.zero_add, Nat.zero_le, true_and, Nat.sub_zero, if_pos hlt2, id]
  rw [get_flatK f c L.toArray _ (by simpa using hlt2)]
  have e1 : (t * c + j) / c = t := by
   rw [Nat.mul_comm, Nat.mul_add_div (by omega), Nat.div_eq_of_lt hj, Nat.add_zero]
  have e2 : (t * c + j) % c = j := by rw [Nat.mul_comm, Nat.mul_add_mod, Nat.mod_eq_of_lt hj]
  rw [e1, e2]
  have e3 : L.toArray[t]! = x := by
   rw [Array.getElem!_eq_getD, Array.getD_eq_getD_getElem?]
   simp [hx]
  rw [e3, get!_of hu]
 ·unfold sortWorldK putRowK putRow grow
  refine ⟨rfl, rfl, rfl, ?_, fun r hr hne => ?_⟩
  ·simp only [Array.size_append]; rw [hsize]; omega
  ·simp only
   rw [Array.getElem?_append_left (by rw [hsize]; exact hr)]
   unfold mapBlock
   simp only [Array.getElem?_modify]
   rw [if_neg (fun e => hne e.symm)]; rfl
end
theorem swo_of {α : Type} {lt : α → α → Bool} (a b : α → Int) (h : ∀ x y, lt x y = true ↔ a x < a y ∨ a x = a y ∧ b x < b y) : SWO lt := by
 have h' : ∀ x y, lt x y = false ↔ ¬ (a x < a y ∨ a x = a y ∧ b x < b y) := fun x y => by rw [← h, Bool.not_eq_true]
 refine ⟨fun x => ?_, fun x y z h1 h2 => ?_, fun x y z h1 h2 => ?_⟩
 ·rw [h']; omega
 ·rw [h] at *; omega
 ·rw [h'] at *; omega
section
variable {α : Type} [Inhabited α]
theorem perm_all {d d' : Array α} (h : PermIn 0 d.size d d') : d'.toList.Perm d.toList := by
 have h1 := h.2.2
 have e1 : d.extract 0 d.size = d := by simp
 have e2 : d'.extract 0 d.size = d' := by rw [← h.1]; simp
 rwa [e1, e2] at h1
theorem sorted_all {lt : α → α → Bool} {d' : Array α} {n : Nat} (hn : d'.size = n) (h : SortedIn lt 0 n d') : d'.toList.Pairwise fun x y => lt y x = false := by
 rw [List.pairwise_iff_getElem]
 intro i j hi hj hij
 have := h i j (Nat.zero_le _) hij (by rw [← hn]; simpa using hj)
 rw [getElem!_pos d' i (by simpa using hi), getElem!_pos d' j (by simpa using hj)] at this
 simpa using this
end
section
variable {P : Program} {O : Array Oper} {Q : Exit → Act → World → Prop} {rest : List Oper} {o : Oper} {a : Act} {w : World} {n d : Nat} {L : List (Nat × Value)} {x y : Operand} {b : Nat} {ds : List Deferred}
theorem env_newG {T : TypeId} {cs : Array Value} (E : EnvD ds n L a) (hd : o.dst = some d) (hn : d < n) (hf : (L.map (·.1)).contains d = false) (hw : Region.wanted o (yielded O a.tmps) = true) (hr : (execOp a.eval o).run P w = .ok (.value (.pointer (some ⟨w.heap.size, 0, none⟩))) (w.alloc (.cells cs T)))
  (k : ∀ a' w' b, w.heap.size = b → w'.heap[b]? = some (.cells cs T (0, 0)) → Gw w w' → EnvD ds n ((d, .pointer (some ⟨b, 0, none⟩)) :: L) a' → wpList P O Q rest a' w') : wpList P O Q (o :: rest) a w :=
 env_put E hd hn hf hw hr fun a' E' => k a' _ _ rfl (blk_alloc_new _ _) ((Gw.refl _).alloc _) E'
end
theorem run_ld91 {o : Oper} {w : World} {ρ : Operand → Value} {x : Operand} {g off : Nat} {v : Value} (ho : o.op = .load 91 x) (hx : ρ x = .pointer (some ⟨g, off, none⟩)) (hc : w.cell? ⟨g, off, none⟩ = some v) : (execOp ρ o).run Tryz.prog w = .ok (.value v) w := by
 simp [execOp, ho, hx, go_sem, hc]
theorem cmp_gw (x y : Int) (w : World) : Calls Tryz.prog 51 #[.int .i64 x, .int .i64 y] w fun e w' => e = .returned (.int .i64 (Lib.compareInt x y)) ∧ Gw w w' := (Tryz.cmp_Compare_int x y w).mono fun e w' h => ⟨h.1, by rw [h.2]; exact Gw.refl _⟩
set_option maxRecDepth 100000 in
set_option maxHeartbeats 4000000 in
theorem key_calls (s : Sp) (w : World) : Calls Tryz.prog 60 #[.agg (spA s)] w fun e w' => e = .returned (.int .i64 s.1) ∧ Gw w w' := by
 refine wp_start1 Tryz.func60 rfl rfl (n := 5) (by decide) fun a E => ?_
 have hf : Gw w w := Gw.refl _
 refine s_ (r_ (env_newG (d := 1) E rfl (by decide) rfl (wanted_none rfl _) (run_box48 rfl E.g0) fun a w1 b1 eb1 hb1 f1 E => ?_))
 have hnb1 : w.heap.size ≤ b1 := by have := hf.fr.size; omega
 have hf := hf.trans f1
 clear f1
 refine ep (v := .int .i64 0) E rfl (a_ rfl rfl) fun a E => n_ (t_ (s_ (r_ (ep (v := .pointer (some ⟨b1, 0, none⟩)) E rfl (fa48_0 rfl E.g1) fun a E => ep (v := .int .i64 s.1) E rfl (run_ldi rfl E.g0 (bx hb1 0 rfl)) fun a E => es_ E rfl (a_ rfl E.g0) fun a E => n_ (t_ (wr_ (ret_tmp (t := 2) rfl E E.g0 ⟨rfl, hf⟩)))))))
set_option maxRecDepth 100000 in
set_option maxHeartbeats 4000000 in
theorem cmpSp_calls {c3 : Nat} (s t : Sp) {w : World} (hc3 : w.heap[c3]? = some (.cells #[.func (.func 60) #[] #[]] 91 (0, 0))) : Calls Tryz.prog 83 #[.agg (spA s), .agg (spA t), .pointer (some ⟨c3, 0, none⟩)] w fun e w' => e = .returned (.int .i64 (Lib.compareInt s.1 t.1)) ∧ Gw w w' := by
 refine wp_start3 Tryz.func83 rfl rfl (n := 13) (by decide) fun a E => ?_
 have hf : Gw w w := Gw.refl _
 refine s_ (r_ (env_newG (d := 3) E rfl (by decide) rfl (wanted_none rfl _) (run_box48 rfl E.g0) fun a w1 b2 eb2 hb2 f1 E => ?_))
 have hnb2 : w.heap.size ≤ b2 := by have := hf.fr.size; omega
 have hc3 := f1.fr.obj hc3 id
 have hf := hf.trans f1
 clear f1
 refine env_newG (d := 4) E rfl (by decide) rfl (wanted_none rfl _) (run_box48 rfl E.g2) fun a w1 b3 eb3 hb3 f1 E => ?_
 have hnb3 : w.heap.size ≤ b3 := by have := hf.fr.size; omega
 have hlb2b3 : b2 < b3 := by have := lt_of_blk hb2; omega
 have hc3 := f1.fr.obj hc3 id
 have hb2 := f1.fr.obj hb2 id
 have hf := hf.trans f1
 clear f1
 refine ep (v := .int .i64 0) E rfl (a_ rfl rfl) fun a E => n_ (t_ (s_ (wp_region_invx (G := Unit) () (n := 13) (base := [(4, .pointer (some ⟨b3, 0, none⟩)), (3, .pointer (some ⟨b2, 0, none⟩)), (0, .agg (spA s)), (1, .agg (spA t)), (2, .pointer (some ⟨c3, 0, none⟩))]) (U := [(5, .int .i64 0, 7)]) (T := fun γ => [some (6, .func (.func 60) #[] #[]), some (7, .agg (spA s)), some (8, .int .i64 s.1), some (9, .func (.func 60) #[] #[]), some (10, .agg (spA t)), some (11, .int .i64 t.1), some (12, .int .i64 (Lib.compareInt s.1 t.1)), some (5, .int .i64 (Lib.compareInt s.1 t.1))]) (M := fun γ ls9 wm => Gw w1 wm) (by kernel_rfl) (by kernel_rfl) (fun _ => by kernel_rfl) (E.of ⟨E.g1, E.g2, E.g3, E.g4, E.g5, trivial⟩) (fun x hx => by simp only [List.mem_cons, List.not_mem_nil, or_false] at hx; subst hx; exact E.g0) (Gw.refl _).drew ?_ ?_)))
 ·intro j9 o9 γ ls9 a w5 ho hl E D DL DL2 hB hM
  have hc3 := hM.fr.obj hc3 id
  have hb2 := hM.fr.obj hb2 id
  have hb3 := hM.fr.obj hb3 id
  match j9, ho, hl, D, DL, hB with
  | 0, ho, hl, D, DL, hB => exact z0_ ho (valx rfl (run_ld91 rfl E.g4 (bx hc3 0 rfl)) rfl hM)
  | 1, ho, hl, D, DL, hB => exact z0_ ho (valx rfl (run_ld48 rfl E.g1 (rng2 (p := s) hb2 0 rfl rfl)) rfl hM)
  | 2, ho, hl, D, DL, hB => exact z0_ ho (callx rfl (run_callf1 (enters_of Tryz.func60 (by kernel_rfl) rfl) rfl (D 0 _ rfl rfl) (D 1 _ rfl rfl) rfl) (key_calls s _) rfl fun w9 f1 => hM.trans f1)
  | 3, ho, hl, D, DL, hB => exact z0_ ho (valx rfl (run_ld91 rfl E.g4 (bx hc3 0 rfl)) rfl hM)
  | 4, ho, hl, D, DL, hB => exact z0_ ho (valx rfl (run_ld48 rfl E.g0 (rng2 (p := t) hb3 0 rfl rfl)) rfl hM)
  | 5, ho, hl, D, DL, hB => exact z0_ ho (callx rfl (run_callf1 (enters_of Tryz.func60 (by kernel_rfl) rfl) rfl (D 3 _ rfl rfl) (D 4 _ rfl rfl) rfl) (key_calls t _) rfl fun w9 f1 => hM.trans f1)
  | 6, ho, hl, D, DL, hB => exact z0_ ho (callx rfl (run_call2 (enters_of Tryz.func51 (by kernel_rfl) rfl) rfl rfl (D 2 _ rfl rfl) (D 5 _ rfl rfl)) (cmp_gw s.1 t.1 _) rfl fun w9 f1 => hM.trans f1)
  | 7, ho, hl, D, DL, hB => exact z0_ ho (valx rfl (a_ rfl (D 6 _ rfl rfl)) rfl hM)
  | j9 + 8, ho, hl, D, DL, hB => exact absurd ho (by simp)
 ·rintro _ a w5 E V hM
  have E := E.add (v := .int .i64 (Lib.compareInt s.1 t.1)) (V 7 _ rfl)
  clear V
  have hc3 := hM.fr.obj hc3 id
  have hb2 := hM.fr.obj hb2 id
  have hb3 := hM.fr.obj hb3 id
  have hf := hf.trans hM
  clear hM
  refine t_ (wr_ (ret_tmp (t := 5) rfl E E.g0 ⟨rfl, hf⟩))
theorem cmpI_neg (x y : Int) : Lib.compareInt x y < 0 ↔ x < y := by
 have := @cmp_lt x y
 simpa using this
theorem sortSp_calls {w : World} {B c3 : Nat} {v : Value} {L : List Sp} (hO : oSp w B v L) (hc3 : w.heap[c3]? = some (.cells #[.func (.func 60) #[] #[]] 91 (0, 0))) (hn : ∀ k, v.ownBlock = some k → k ≠ c3) (hl : L.length ≤ 20000) :
  Calls Tryz.prog 101 #[v, .func (.func 83) #[] #[.pointer (some ⟨c3, 0, none⟩)]] w fun e w' => e = .returned (.tuple #[]) ∧ ∃ L', L'.Perm L ∧ L'.Pairwise (fun x y => x.1 ≤ y.1) ∧ oSp w' B v L' ∧ Fr (fun k => v.ownBlock = some k) w w' := by
 rcases hO.2 with ⟨rfl, h2⟩ | ⟨g, cap, cur, rfl, hB, h3, h4, h5, h6, h7⟩
 ·have hL : L = [] := List.eq_nil_of_length_eq_zero h2
  subst hL
  refine Calls.mono (AnyF.slices_SortFunc_none Tryz.sortSp none 0 _ w) ?_
  rintro e w' ⟨rfl, rfl⟩
  exact ⟨rfl, [], .refl _, .nil, hO, Fr.refl _ _⟩
 ·have hgc : g ≠ c3 := hn g rfl
  have hO' : SWO (ltOf fun x y : Sp => Lib.compareInt x.1 y.1) := swo_of (fun x => x.1) (fun _ => 0) fun x y => by unfold ltOf; rw [decide_eq_true_iff, cmpI_neg]; omega
  have hd : laid spL 2 cur L := by
   intro t x hx j u hu
   have hj : j < 2 := (List.getElem?_eq_some_iff.1 hu).1
   have ht := (List.getElem?_eq_some_iff.1 hx).1
   have := flat_at spL_len L t x hx j hj
   rw [hu, ← h7, List.getElem?_take_of_lt (by omega), Array.getElem?_toList] at this
   exact this
  have hsz : L.length * 2 ≤ cur.size := by omega
  have := AnyQ.slices_SortFunc Tryz.sortSp 2 (fun w => Tryz.isAgg48 w) (fun w => Tryz.sizeOf48 w) spL (fun _ => rfl) spL_one (fun x y => Lib.compareInt x.1 y.1) hO' 83 #[.pointer (some ⟨c3, 0, none⟩)] g 0 cap L.toArray w (enters_of Tryz.func83 (by kernel_rfl) rfl) (fun m os dk hs x y => by
   obtain ⟨cur', c1, c2, c3', c4⟩ := laid_sorted (f := spL) (c := 2) (T := 48) (fun _ => rfl) h3 (L := dk.toList) (by simp only [Array.length_toList]; rw [show dk.size = L.length by simpa using hs]; exact hsz) m os
   have hc := c4.obj hc3 (fun e => hgc e.symm)
   exact cmpSp_calls x y (by simpa using hc)) (holds_laid (f := spL) (c := 2) (by omega) (fun _ => rfl) h3 hd) (lt_of_blk h3) (by simp; omega)
  refine Calls.mono this ?_
  rintro e w' ⟨he, d', m, os, hp, hs, rfl⟩
  have hp' := perm_all hp
  have hs' := sorted_all (hp.1) hs
  have hlen : d'.toList.length = L.length := hp'.length_eq
  obtain ⟨cur', c1, c2, c3', c4⟩ := laid_sorted (f := spL) (c := 2) (T := 48) (fun _ => rfl) h3 (L := d'.toList) (by rw [hlen]; exact hsz) m os
  refine ⟨he, d'.toList, hp', hs'.imp fun {x y} hxy => ?_, ⟨flat_len spL_len _, .inr ⟨g, cap, cur', by rw [hlen], hB, by simpa using c1, by rw [hlen]; exact h4, h5, by rw [c2]; exact h6, ?_⟩⟩, (by simpa using c4 : Fr (fun k => k = g) w _).mono fun r _ hr => by rw [hr]; rfl⟩
  ·unfold ltOf at hxy
   rw [decide_eq_false_iff_not, cmpI_neg] at hxy
   omega
  ·apply List.ext_getElem?
   intro k
   by_cases hk : k < d'.toList.length * 2
   ·rw [List.getElem?_take_of_lt hk, Array.getElem?_toList]
    obtain ⟨x, hx⟩ : ∃ x, d'.toList[k / 2]? = some x := ⟨_, List.getElem?_eq_getElem (by omega)⟩
    have e : k = k / 2 * 2 + k % 2 := by omega
    have hm : k % 2 < 2 := Nat.mod_lt _ (by omega)
    have := flat_at spL_len d'.toList (k / 2) x hx (k % 2) hm
    rw [← e] at this
    rw [this]
    obtain ⟨u, hu⟩ : ∃ u, (spL x)[k % 2]? = some u := ⟨_, List.getElem?_eq_getElem (by rw [spL_len]; exact hm)⟩
    rw [hu]
    have := c3' (k / 2) x hx (k % 2) u hu
    rwa [← e] at this
   ·rw [List.getElem?_eq_none (by simp at hk ⊢; omega), List.getElem?_eq_none (by rw [flat_len spL_len]; omega)]
end Go.Proofs.YtjaffpnegdcjnaaGreatDoor
/- Sorting spans, uniting spans. -/
set_option linter.unusedVariables false
set_option linter.unusedSimpArgs false
namespace Go.Proofs.YtjaffpnegdcjnaaGreatDoor
open Go.RowKit Go.Pl
set_option maxRecDepth 100000 in
set_option maxHeartbeats 4000000 in
theorem sortedFunc_calls {w : World} {gf c3 : Nat} {lb : Array Value} {L : List Sp} {Kp : World → Prop} (hl : L.length ≤ 20000) (eg : ∀ args w, (callFunc gf args).run Tryz.prog w = .ok (.enter gf args) w) (hY : IterOf Tryz.prog gf lb (valv L) Kp) (hK : ∀ W, Fr (fun _ => False) w W → Kp W) (hc3 : w.heap[c3]? = some (.cells #[.func (.func 60) #[] #[]] 91 (0, 0))) :
  Calls Tryz.prog 81 #[.func (.func gf) #[] lb, .func (.func 83) #[] #[.pointer (some ⟨c3, 0, none⟩)]] w fun e w' => ∃ v L', e = .returned v ∧ L'.Perm L ∧ L'.Pairwise (fun x y => x.1 ≤ y.1) ∧ oSp w' w.heap.size v L' ∧ Fr (fun _ => False) w w' := by
 have hc0 := hc3
 refine wp_start2 Tryz.func81 rfl rfl (n := 12) (by decide) fun a E => ?_
 have hf : Fr (fun _ => False) w w := Fr.refl _ _
 refine s_ (r_ (ep (v := .slice none 0 0) E rfl (a_ rfl rfl) fun a E => n_ (t_ (s_ (r_ (ep E rfl (m_ rfl E.g1) fun a E => env_callv (d := 7) (R := fun u w8 => oSp w8 w.heap.size u L ∧ Fr (fun _ => False) w w8) E rfl (by decide) rfl (wanted_none rfl _) (run_call1 (enters_of Tryz.func100 (by kernel_rfl) rfl) rfl rfl E.g0) ((collect_calls hl eg hY hK).mono fun e w8 h => by obtain ⟨v, rfl, h⟩ := h; exact ⟨_, rfl, h⟩) fun a w1 rv ⟨hrv, f1⟩ E => ?_))))))
 have hc3 := f1.obj hc3 id
 have hcl := lt_of_blk hc0
 have hf := hf.trans' f1 (fun _ _ h => h.elim)
 clear f1
 refine ep E rfl (a_ rfl E.g0) fun a E => n_ (t_ (s_ (r_ (ep E rfl (m_ rfl E.g0) fun a E => ep E rfl (m_ rfl E.g6) fun a E => env_callv (d := 10) (R := fun u w8 => u = .tuple #[] ∧ ∃ L', L'.Perm L ∧ L'.Pairwise (fun x y => x.1 ≤ y.1) ∧ oSp w8 w.heap.size rv L' ∧ Fr (fun k => rv.ownBlock = some k) w1 w8) E rfl (by decide) rfl (wanted_none rfl _) (run_call2 (enters_of Tryz.func101 (by kernel_rfl) rfl) rfl rfl E.g1 E.g0) ((sortSp_calls hrv hc3 (fun k hk e => by have := (hrv.lt hk).1; omega) hl).mono fun e w8 h => by obtain ⟨rfl, h⟩ := h; exact ⟨_, rfl, rfl, h⟩) fun a w2 rv2 ⟨hu, L', hp, hs, hO, f1⟩ E => ?_))))
 subst hu
 have hf := hf.trans' f1 (fun r hr e => by have := (hrv.lt e).1; omega)
 clear f1
 refine n_ (t_ (s_ (r_ (ep E rfl (m_ rfl E.g3) fun a E => es_ E rfl (a_ rfl E.g0) fun a E => n_ (t_ (wr_ (ret_tmp (t := 4) rfl E E.g0 ⟨_, _, rfl, hp, hs, hO, hf⟩)))))))
set_option maxRecDepth 100000 in
set_option maxHeartbeats 4000000 in
theorem sorted_calls {w : World} {v : Value} {l : List Sp} (hl : SpV w v l) (hlen : l.length ≤ 20000) :
  Calls Tryz.prog 59 #[v, .func (.func 60) #[] #[]] w fun e w' => ∃ u L', e = .returned u ∧ L'.Perm l ∧ L'.Pairwise (fun x y => x.1 ≤ y.1) ∧ oSp w' w.heap.size u L' ∧ Fr (fun _ => False) w w' := by
 obtain ⟨p0, cp0, hvp0, hlep0, hcapp0, hsp0, hzp0⟩ := hl
 subst hvp0
 refine wp_start2 Tryz.func59 rfl rfl (n := 9) (by decide) fun a E => ?_
 have hf : Fr (fun _ => False) w w := Fr.refl _ _
 refine s_ (r_ (env_new (d := 3) E rfl (by decide) rfl (wanted_none rfl _) (run_box91 rfl E.g1) fun a w1 b11 eb11 hb11 f1 E => ?_))
 have hnb11 : w.heap.size ≤ b11 := by have := hf.size; omega
 have hsp0 := srcAt.fr hsp0 f1 (fun r hr => id)
 have hf := hf.trans' f1 (fun _ _ h => h.elim)
 clear f1
 refine ep (v := .slice none 0 0) E rfl (a_ rfl rfl) fun a E => n_ (t_ (s_ (r_ (ep E rfl (m_ rfl E.g2) fun a E => env_callv (d := 6) (R := fun u w8 => ∃ b, u = .func (.func 102) #[] #[.pointer (some ⟨b, 0, none⟩)] ∧ w8.heap[b]? = some (.cells #[.slice p0 l.length cp0] 22 (0, 0)) ∧ w1.heap.size ≤ b ∧ Fr (fun _ => False) w1 w8) E rfl (by decide) rfl (wanted_none rfl _) (run_call1 (enters_of Tryz.func82 (by kernel_rfl) rfl) rfl rfl E.g0) ((values_calls _ _ _ _).mono fun e w8 h => by obtain ⟨b, rfl, h⟩ := h; exact ⟨_, rfl, b, rfl, h⟩) fun a w1 rv ⟨cb, hu, hcb, hcw, f1⟩ E => ?_))))
 subst hu
 have hsp0 := srcAt.fr hsp0 f1 (fun r hr => id)
 have hb11 := f1.obj hb11 id
 have hf := hf.trans' f1 (fun _ _ h => h.elim)
 clear f1
 refine ep (v := .func (.func 83) #[] #[.pointer (some ⟨b11, 0, none⟩)]) E rfl (run_mkfn rfl E.g3) fun a E => env_callv (d := 8) (R := fun u w8 => ∃ L', L'.Perm l ∧ L'.Pairwise (fun x y => x.1 ≤ y.1) ∧ oSp w8 w1.heap.size u L' ∧ Fr (fun _ => False) w1 w8) E rfl (by decide) rfl (wanted_none rfl _) (run_call2 (enters_of Tryz.func81 (by kernel_rfl) rfl) rfl rfl E.g1 E.g0) ((sortedFunc_calls (Kp := ValK cb w.heap.size p0 cp0 l) hlen (enters_of Tryz.func102 (by kernel_rfl) rfl) (values_yields (by omega)) (fun W f => ValK.fr (⟨hcb, hsp0, hf.size⟩ : ValK cb w.heap.size p0 cp0 l w1) f id (fun _ _ h => h)) hb11).mono fun e w8 h => by obtain ⟨v, L', rfl, h⟩ := h; exact ⟨_, rfl, L', h⟩) fun a w2 rv2 ⟨L', hp, hs, hO, f1⟩ E => ?_
 have hO := hO.base hf.size
 have hsp0 := srcAt.fr hsp0 f1 (fun r hr => id)
 have hb11 := f1.obj hb11 id
 have hcb := f1.obj hcb id
 have hf := hf.trans' f1 (fun _ _ h => h.elim)
 clear f1
 refine es_ E rfl (a_ rfl E.g0) fun a E => n_ (t_ (wr_ (ret_tmp (t := 4) rfl E E.g0 ⟨_, _, rfl, hp, hs, hO, hf⟩)))
theorem unite_take {L : List Sp} {i : Nat} {y : Sp} (hy : L[i]? = some y) : unite (L.take (i + 1)) = ustep (unite (L.take i)) y := by
 unfold unite
 rw [List.take_add_one, hy]
 simp [List.foldl_append]
theorem unite_len (l : List Sp) : (unite l).length ≤ l.length := by
 have h1 : ∀ (a : List Sp) (s : Sp), (ustep a s).length ≤ a.length + 1 := by
  intro a s
  unfold ustep
  split
  ·split
   ·first | (simp; done) | (simp; omega)
   ·simp
  ·simp
 have h2 : ∀ (l a : List Sp), (l.foldl ustep a).length ≤ a.length + l.length := by
  intro l
  induction l with
  | nil => intro a; simp
  | cons s l ih => intro a; have := ih (ustep a s); have := h1 a s; simp only [List.foldl_cons, List.length_cons]; omega
 have := h2 l []
 simpa [unite] using this
theorem ustep_ext {A : List Sp} {q s : Sp} (h : s.1 ≤ q.2) : ustep (A ++ [q]) s = A ++ [(q.1, max q.2 s.2)] := by
 unfold ustep
 rw [List.getLast?_concat, List.dropLast_concat]
 simp only
 rw [if_pos h]
theorem ustep_new {A : List Sp} {q s : Sp} (h : ¬ s.1 ≤ q.2) : ustep (A ++ [q]) s = A ++ [q] ++ [s] := by
 unfold ustep
 rw [List.getLast?_concat]
 simp only
 rw [if_neg h]
set_option maxRecDepth 100000 in
set_option maxHeartbeats 4000000 in
theorem united_calls {w : World} {v : Value} {l : List Sp} (hl : SpV w v l) (hw : wk l) (hlen : l.length ≤ 20000) : Calls Tryz.prog 34 #[v] w fun e w' => ∃ u, e = .returned u ∧ oSp w' w.heap.size u (canon l) ∧ Fr (fun _ => False) w w' := by
 obtain ⟨p0, cp0, hvp0, hlep0, hcapp0, hsp0, hzp0⟩ := hl
 subst hvp0
 refine wp_start1 Tryz.func34 rfl rfl (n := 50) (by decide) fun a E => ?_
 have hf : Fr (fun _ => False) w w := Fr.refl _ _
 refine s_ (r_ (ep (v := .slice none 0 0) E rfl (a_ rfl rfl) fun a E => n_ (t_ (s_ (r_ (ep E rfl (m_ rfl E.g1) fun a E => env_callv (d := 8) (R := fun u w8 => ∃ L', L'.Perm l ∧ L'.Pairwise (fun x y => x.1 ≤ y.1) ∧ oSp w8 w.heap.size u L' ∧ Fr (fun _ => False) w w8) E rfl (by decide) rfl (wanted_none rfl _) (run_call2 (enters_of Tryz.func59 (by kernel_rfl) rfl) rfl rfl E.g0 rfl) ((sorted_calls ⟨_, _, rfl, hlep0, hcapp0, hsp0.mono (by first | exact hf.size | omega), hzp0⟩ hlen).mono fun e w8 h => by obtain ⟨v, L', rfl, h⟩ := h; exact ⟨_, rfl, L', h⟩) fun a w1 rv ⟨L', hp, hs, hO0, f1⟩ E => ?_))))))
 have hsp0 := srcAt.fr hsp0 f1 (fun r hr => id)
 have hf := hf.trans' f1 (fun _ _ h => h.elim)
 clear f1
 have hlL := hp.length_eq
 obtain ⟨p1, cp1, hrv, hle1, hcap1, hs1, hz1⟩ := ow.src spL_len hO0
 subst hrv
 refine es_ E rfl (a_ rfl E.g0) fun a E => n_ (t_ (s_ (r_ (ep (v := .slice none 0 0) E rfl (a_ rfl rfl) fun a E => n_ (t_ (s_ (s_ (r_ (ep E rfl (m_ rfl E.g1) fun a E => ep (v := .int .i64 (L'.length : Int)) E rfl (run_len22 rfl E.g0) fun a E => ep (v := .int .i64 0) E rfl (m_ rfl rfl) fun a E => n_ (t_ (bk_ ?_)))))))))))
 obtain ⟨B, hB⟩ : ∃ B, B = w1.heap.size := ⟨_, rfl⟩
 have hBs : B ≤ w1.heap.size := by omega
 have hwB : w.heap.size ≤ B := by have := hf.size; omega
 have hs1 := hs1
 rw [← hB] at hs1
 have hO : oSp w1 B (.slice none 0 0) (unite (L'.take 0)) := ow_nil _
 refine wp_loop (fun a w2 => ∃ (i : Nat) (dv : Value), Env 50 [(11, .int .i64 (i : Int)), (10, .int .i64 (L'.length : Int)), (9, .slice (p1) L'.length cp1), (3, dv)] a ∧ i ≤ L'.length ∧ oSp w2 B dv (unite (L'.take i)) ∧ srcAt spL 2 w2 B p1 L' ∧ Fr (fun _ => False) w w2 ∧ B ≤ w2.heap.size) (fun a _ => L'.length - (intOf (a.eval (.tmp 11))).toNat) ?_ ?_
 ·exact ⟨0, .slice none 0 0, E.of ⟨E.g0, E.g1, E.g2, E.g3, trivial⟩, Nat.zero_le _, hO, hs1, hf, hBs⟩
 clear E
 rintro a w2 ⟨i, dv, E, hi, hO, hs1, hf, hBs⟩
 have hmu : L'.length - (intOf (a.eval (.tmp 11))).toNat = L'.length - i := by rw [E.g0]; first | rfl | (simp [intOf]; done) | (simp only [intOf]; omega)
 rw [hmu]
 clear hmu
 obtain ⟨po, cpo, hdv, hlo, hco, hso, hzo⟩ := ow.src spL_len hO
 subst hdv
 have hul := unite_len (L'.take i)
 have hul2 : (L'.take i).length ≤ i := by rw [List.length_take]; omega
 refine s_ (r_ (ep (v := .bool (decide ((i : Int) < (L'.length : Int)))) E rfl (run_ilss E.g0 E.g1 Tryz.underlying3 rfl) fun a E => n_ (t_ (s_ ?_))))
 cases hq13 : (decide ((i : Int) < (L'.length : Int))) with
 | false =>
  rw [hq13] at E
  have hie : i = L'.length := by have := of_decide_eq_false hq13; omega
  refine c_f E.g0 (x_ (te_ (te_ (be_ (t_ (s_ (r_ (ep E rfl (m_ rfl E.g4) fun a E => ep E rfl (a_ rfl E.g0) fun a E => n_ (t_ (wr_ ?_))))))))))
  have e9 : unite (L'.take i) = canon l := by rw [hie, List.take_length, unite_canon hw hp hs]
  rw [e9] at hO E
  exact ret_tmp (t := 2) rfl E E.g0 ⟨_, rfl, hO.base hwB, hf⟩
 | true =>
  rw [hq13] at E
  have hlt : i < L'.length := by have := of_decide_eq_true hq13; omega
  obtain ⟨y, hy⟩ : ∃ y, L'[i]? = some y := ⟨_, List.getElem?_eq_getElem hlt⟩
  obtain ⟨g14, off14, hpe14, hgl14, hrow14⟩ := hs1.at hlt
  replace hrow14 := hrow14 i y hy
  refine c_t E.g0 (k_ (t_ (s_ (bk_ (s_ (r_ (ep (v := .pointer (some ⟨g14, (off14 + i * 2), none⟩)) E rfl (run_index22 (i := i) rfl (E.g3.trans (by rw [hpe14])) E.g1 hlt) fun a E => ep (v := .agg (spA y)) E rfl (run_ld48 rfl E.g0 hrow14) fun a E => env_new (d := 5) E rfl (by decide) rfl (wanted_none rfl _) (run_alloc48 rfl) fun a w1 b15 eb15 hb15 f1 E => ?_)))))))
  have hnb15 : w.heap.size ≤ b15 := by have := hf.size; omega
  have hBb15 : B ≤ b15 := by omega
  have hdb15 : ∀ k, ((.slice (po) (unite (L'.take i)).length cpo) : Value).ownBlock = some k → k ≠ b15 := fun k hk => by have := (hO.lt hk).2; omega
  have hs1 := srcAt.fr hs1 f1 (fun r hr => id)
  have hO := ow.fr hO f1 (fun _ _ => id)
  have hBs := Nat.le_trans hBs f1.size
  have hrow14 := fun j u hu => f1.cell (hrow14 j u hu) id
  have hf := hf.trans' f1 (fun _ _ h => h.elim)
  clear f1
  refine env_st48 E rfl (wanted_none rfl _) rfl E.g0 E.g1 hb15 fun w1 hb15n f1 E => ?_
  have hs1 := srcAt.fr hs1 f1 (fun _ hr => nq_)
  have hO := ow.fr hO f1 (fun k hk e => by have := (hO.lt hk).1; have := hdb15 k hk; (try simp only at e); omega)
  have hBs := Nat.le_trans hBs f1.size
  have hrow14 := fun j u hu => f1.cell (hrow14 j u hu) nq_
  have hf := hf.trans' f1 (fun _ hr => nq_)
  clear f1
  replace hb15 := hb15n
  refine n_ (t_ (s_ (s_ (r_ (ep E rfl (m_ rfl E.g7) fun a E => ep (v := .int .i64 ((unite (L'.take i)).length : Int)) E rfl (run_len22 rfl E.g0) fun a E => ep E rfl (a_ rfl E.g0) fun a E => n_ (t_ (s_ ?_)))))))
  cases hq16 : (decide (0 < ((unite (L'.take i)).length : Int))) with
  | false =>
   have hA0 : unite (L'.take i) = [] := List.eq_nil_of_length_eq_zero (by have := of_decide_eq_false hq16; omega)
   refine wp_region_invg (n := 50) (base := [(6, .int .i64 ((unite (L'.take i)).length : Int)), (16, .int .i64 ((unite (L'.take i)).length : Int)), (15, .slice (po) (unite (L'.take i)).length cpo), (5, .pointer (some ⟨b15, 0, none⟩)), (14, .agg (spA y)), (13, .pointer (some ⟨g14, (off14 + i * 2), none⟩)), (12, .bool true), (11, .int .i64 (i : Int)), (10, .int .i64 (L'.length : Int)), (9, .slice (p1) L'.length cp1), (3, .slice (po) (unite (L'.take i)).length cpo)]) (T := [some (17, .int .i64 ((unite (L'.take i)).length : Int)), some (18, .bool false), some (19, .bool false), some (20, undef), some (21, undef), some (22, undef), some (23, undef), some (24, undef), some (25, undef), some (26, undef), some (27, undef), some (28, undef), some (29, .bool false)]) (M := fun _ wm => Fr (fun _ => False) w1 wm) (by kernel_rfl) (by kernel_rfl) (by kernel_rfl) (E.of ⟨E.g0, E.g1, E.g2, E.g3, E.g4, E.g5, E.g6, E.g7, E.g8, E.g9, E.g10, trivial⟩) (Fr.refl _ _).drew ?_ ?_
   ·intro j9 o9 t9 ls9 a w5 ho hT0 hl E D DL hM
    have hs1 := srcAt.fr hs1 hM (fun r hr => id)
    have hO := ow.fr hO hM (fun _ _ h => h)
    have hBs := Nat.le_trans hBs hM.size
    have hrow14 := fun j u hu => hM.cell (hrow14 j u hu) id
    have hb15 := hM.obj hb15 id
    match j9, ho, hT0, hl, D, DL with
    | 0, ho, hT0, hl, D, DL => exact y0_ ho hT0 (val_wp (m_ rfl E.g0) rfl hM)
    | 1, ho, hT0, hl, D, DL => exact y0_ ho hT0 (val_wp ((run_igtr (D 0 _ rfl rfl) rfl Tryz.underlying3 rfl).trans (by rw [hq16] <;> rfl)) rfl hM)
    | 2, ho, hT0, hl, D, DL => exact y0_ ho hT0 (val_wp (m_ rfl (D 1 _ rfl rfl)) rfl hM)
    | 3, ho, hT0, hl, D, DL => exact y2_ ho hT0 E (D 2 _ rfl rfl) hM
    | 4, ho, hT0, hl, D, DL => exact y2_ ho hT0 E (D 2 _ rfl rfl) hM
    | 5, ho, hT0, hl, D, DL => exact y2_ ho hT0 E (D 2 _ rfl rfl) hM
    | 6, ho, hT0, hl, D, DL => exact y2_ ho hT0 E (D 2 _ rfl rfl) hM
    | 7, ho, hT0, hl, D, DL => exact y2_ ho hT0 E (D 2 _ rfl rfl) hM
    | 8, ho, hT0, hl, D, DL => exact y2_ ho hT0 E (D 2 _ rfl rfl) hM
    | 9, ho, hT0, hl, D, DL => exact y2_ ho hT0 E (D 2 _ rfl rfl) hM
    | 10, ho, hT0, hl, D, DL => exact y2_ ho hT0 E (D 2 _ rfl rfl) hM
    | 11, ho, hT0, hl, D, DL => exact y2_ ho hT0 E (D 2 _ rfl rfl) hM
    | 12, ho, hT0, hl, D, DL => exact y0_ ho hT0 (val_wp (run_pick_f rfl (D 2 _ rfl rfl) rfl) rfl hM)
    | j9 + 13, ho, hT0, hl, D, DL => exact absurd hT0 (by simp)
   ·intro a w5 E V hM
    have E := E.add (V 12 _ rfl)
    clear V
    have hs1 := srcAt.fr hs1 hM (fun r hr => id)
    have hO := ow.fr hO hM (fun _ _ => id)
    have hBs := Nat.le_trans hBs hM.size
    have hrow14 := fun j u hu => hM.cell (hrow14 j u hu) id
    have hb15 := hM.obj hb15 id
    have hf := hf.trans' hM (fun _ _ h => h.elim)
    clear hM
    refine t_ (c_f E.g0 (k_ (t_ (r_ (ep E rfl (m_ rfl E.g11) fun a E => ep (v := .agg (spA y)) E rfl (run_ld48 rfl E.g5 (rng2 (p := y) hb15 0 rfl rfl)) fun a E => env_one22 (d := 46) E rfl (by decide) rfl (wanted_none rfl _) rfl E.g0 fun a w1 b18 eb18 hbb18 f1 E => ?_)))))
    have hs1 := srcAt.fr hs1 f1 (fun r hr => id)
    have hO := ow.fr hO f1 (fun _ _ => id)
    have hBs := Nat.le_trans hBs f1.size
    have hrow14 := fun j u hu => f1.cell (hrow14 j u hu) id
    have hb15 := f1.obj hb15 id
    have hf := hf.trans' f1 (fun _ _ h => h.elim)
    clear f1
    have hsb18 := src_one (f := spL) (c := 2) (G := w1.heap.size) hbb18 (lt_of_blk hbb18)
    clear hbb18 eb18
    refine env_app22 (d := 47) E rfl (by decide) rfl rfl rfl E.g2 hO E.g0 hsb18 (fun h => by cases h) (by simp only [List.length_cons, List.length_nil]; omega) hBs fun a w1 ov19 hO2 f1 hloc E => ?_
    have hdb15n : ∀ k, ((ov19) : Value).ownBlock = some k → k ≠ b15 := fun k hk => by
     rcases hloc with h9 | h9
     ·exact hdb15 k (by rw [← h9]; exact hk)
     ·rw [h9] at hk; cases hk; have := lt_of_blk hb15; omega
    have hs1 := srcAt.fr hs1 f1 (fun r hr => (fun e => by have := (hO.lt e).1; (try have := hdb15 _ e); (try simp only at e); omega))
    have hBs := Nat.le_trans hBs f1.size
    have hb15 := f1.obj hb15 (fun e => by have := (hO.lt e).1; (try have := hdb15 _ e); (try simp only at e); omega)
    have hf := hf.trans' f1 (fun r hr => (fun e => by have := (hO.lt e).1; (try have := hdb15 _ e); (try simp only at e); omega))
    clear f1
    replace hO := hO2
    clear hloc
    replace hdb15 := hdb15n
    refine es_ E rfl (a_ rfl E.g0) fun a E => n_ (b_ (t_ (r_ (ep (v := .int .i64 ((i : Int) + 1)) E rfl (run_iadd Tryz.underlying3 E.g13 rfl (by omega) (by omega) rfl) fun a E => es_ E rfl (m_ rfl E.g0) fun a E => n_ (t_ ?_)))))
    refine ⟨⟨i + 1, ov19, E.of ⟨E.g0, E.g15, E.g16, E.g2, trivial⟩, hlt, ?_, hs1, hf, hBs⟩, ?_⟩
    ·rw [unite_take hy]
     rw [hA0] at hO ⊢
     exact hO
    ·rw [E.g0]; simp only [intOf]; omega
  | true =>
   have hne0 : unite (L'.take i) ≠ [] := by intro e9; have := of_decide_eq_true hq16; rw [e9] at this; simp at this
   obtain ⟨A, q, hA⟩ : ∃ A q, unite (L'.take i) = A ++ [q] := ⟨_, _, (List.dropLast_concat_getLast hne0).symm⟩
   have hO9 := hO
   rw [hA] at hO9
   obtain ⟨go, cpo9, hdv, hob, hc12, hrowq, hO2, f2⟩ := oSp.setTo hO9 (max q.2 y.2)
   have hAl : ((unite (L'.take i)).length : Int) - 1 = ((A.length : Nat) : Int) := by rw [hA, List.length_append, List.length_singleton]; omega
   have hAlt : A.length < (unite (L'.take i)).length := by rw [hA, List.length_append, List.length_singleton]; omega
   have hpo : po = some ⟨go, 0, none⟩ ∧ cpo = cpo9 := by injection hdv with h1 h2 h3; exact ⟨h1, h3⟩
   obtain ⟨hpo, rfl⟩ := hpo
   subst hpo
   have hgo := (hO9.lt hob).1
   refine wp_region_invg (n := 50) (base := [(6, .int .i64 ((unite (L'.take i)).length : Int)), (16, .int .i64 ((unite (L'.take i)).length : Int)), (15, .slice (some ⟨go, 0, none⟩) (unite (L'.take i)).length cpo), (5, .pointer (some ⟨b15, 0, none⟩)), (14, .agg (spA y)), (13, .pointer (some ⟨g14, (off14 + i * 2), none⟩)), (12, .bool true), (11, .int .i64 (i : Int)), (10, .int .i64 (L'.length : Int)), (9, .slice (p1) L'.length cp1), (3, .slice (some ⟨go, 0, none⟩) (unite (L'.take i)).length cpo)]) (T := [some (17, .int .i64 ((unite (L'.take i)).length : Int)), some (18, .bool true), some (19, .bool true), some (20, .pointer (some ⟨b15, 0, none⟩)), some (21, .int .i64 y.1), some (22, .slice (some ⟨go, 0, none⟩) (unite (L'.take i)).length cpo), some (23, .int .i64 ((unite (L'.take i)).length : Int)), some (24, .int .i64 (((unite (L'.take i)).length : Int) - 1)), some (25, .pointer (some ⟨go, (0 + A.length * 2), none⟩)), some (26, .pointer (some ⟨go, ((0 + A.length * 2) + 1), none⟩)), some (27, .int .i64 q.2), some (28, .bool (decide (y.1 ≤ q.2))), some (29, .bool (decide (y.1 ≤ q.2)))]) (M := fun _ wm => Fr (fun _ => False) w1 wm) (by kernel_rfl) (by kernel_rfl) (by kernel_rfl) (E.of ⟨E.g0, E.g1, E.g2, E.g3, E.g4, E.g5, E.g6, E.g7, E.g8, E.g9, E.g10, trivial⟩) (Fr.refl _ _).drew ?_ ?_
   ·intro j9 o9 t9 ls9 a w5 ho hT0 hl E D DL hM
    have hs1 := srcAt.fr hs1 hM (fun r hr => id)
    have hO := ow.fr hO hM (fun _ _ h => h)
    have hBs := Nat.le_trans hBs hM.size
    have hrow14 := fun j u hu => hM.cell (hrow14 j u hu) id
    have hb15 := hM.obj hb15 id
    have hrowq := fun j u hu => hM.cell (hrowq j u hu) id
    match j9, ho, hT0, hl, D, DL with
    | 0, ho, hT0, hl, D, DL => exact y0_ ho hT0 (val_wp (m_ rfl E.g0) rfl hM)
    | 1, ho, hT0, hl, D, DL => exact y0_ ho hT0 (val_wp ((run_igtr (D 0 _ rfl rfl) rfl Tryz.underlying3 rfl).trans (by rw [hq16] <;> rfl)) rfl hM)
    | 2, ho, hT0, hl, D, DL => exact y0_ ho hT0 (val_wp (m_ rfl (D 1 _ rfl rfl)) rfl hM)
    | 3, ho, hT0, hl, D, DL => exact y1_ ho hT0 E (D 2 _ rfl rfl) (val_wp (fa48_0 rfl E.g3) rfl hM)
    | 4, ho, hT0, hl, D, DL => exact y1_ ho hT0 E (D 2 _ rfl rfl) (val_wp (run_ldi rfl (D 3 _ rfl rfl) (bx hb15 0 rfl)) rfl hM)
    | 5, ho, hT0, hl, D, DL => exact y1_ ho hT0 E (D 2 _ rfl rfl) (val_wp (m_ rfl E.g10) rfl hM)
    | 6, ho, hT0, hl, D, DL => exact y1_ ho hT0 E (D 2 _ rfl rfl) (val_wp (m_ rfl E.g0) rfl hM)
    | 7, ho, hT0, hl, D, DL => exact y1_ ho hT0 E (D 2 _ rfl rfl) (val_wp (run_isub Tryz.underlying3 (D 6 _ rfl rfl) rfl (by omega) (by omega) rfl) rfl hM)
    | 8, ho, hT0, hl, D, DL => exact y1_ ho hT0 E (D 2 _ rfl rfl) (val_wp (run_index22 (i := A.length) rfl (D 5 _ rfl rfl) ((D 7 _ rfl rfl).trans (by rw [hAl])) hAlt) rfl hM)
    | 9, ho, hT0, hl, D, DL => exact y1_ ho hT0 E (D 2 _ rfl rfl) (val_wp (fa48_1 rfl (D 8 _ rfl rfl)) rfl hM)
    | 10, ho, hT0, hl, D, DL => exact y1_ ho hT0 E (D 2 _ rfl rfl) (val_wp (run_ldi rfl (D 9 _ rfl rfl) (hrowq 1 _ rfl)) rfl hM)
    | 11, ho, hT0, hl, D, DL => exact y1_ ho hT0 E (D 2 _ rfl rfl) (val_wp (run_ileq (D 4 _ rfl rfl) (D 10 _ rfl rfl) Tryz.underlying3 rfl) rfl hM)
    | 12, ho, hT0, hl, D, DL => exact y0_ ho hT0 (val_wp (run_pick_t rfl (D 2 _ rfl rfl) (D 11 _ rfl rfl)) rfl hM)
    | j9 + 13, ho, hT0, hl, D, DL => exact absurd hT0 (by simp)
   ·intro a w5 E V hM
    have E := E.add (V 12 _ rfl)
    clear V
    have hs1 := srcAt.fr hs1 hM (fun r hr => id)
    have hO := ow.fr hO hM (fun _ _ => id)
    have hBs := Nat.le_trans hBs hM.size
    have hrow14 := fun j u hu => hM.cell (hrow14 j u hu) id
    have hb15 := hM.obj hb15 id
    have hrowq := fun j u hu => hM.cell (hrowq j u hu) id
    have hf := hf.trans' hM (fun _ _ h => h.elim)
    clear hM
    refine t_ ?_
    cases hq21 : (decide (y.1 ≤ q.2)) with
    | false =>
     rw [hq21] at E
     have hle9 : ¬ y.1 ≤ q.2 := of_decide_eq_false hq21
     refine c_f E.g0 (k_ (t_ (r_ (ep E rfl (m_ rfl E.g11) fun a E => ep (v := .agg (spA y)) E rfl (run_ld48 rfl E.g5 (rng2 (p := y) hb15 0 rfl rfl)) fun a E => env_one22 (d := 46) E rfl (by decide) rfl (wanted_none rfl _) rfl E.g0 fun a w1 b22 eb22 hbb22 f1 E => ?_))))
     have hs1 := srcAt.fr hs1 f1 (fun r hr => id)
     have hO := ow.fr hO f1 (fun _ _ => id)
     have hBs := Nat.le_trans hBs f1.size
     have hrow14 := fun j u hu => f1.cell (hrow14 j u hu) id
     have hb15 := f1.obj hb15 id
     have hf := hf.trans' f1 (fun _ _ h => h.elim)
     clear f1
     have hsb22 := src_one (f := spL) (c := 2) (G := w1.heap.size) hbb22 (lt_of_blk hbb22)
     clear hbb22 eb22
     refine env_app22 (d := 47) E rfl (by decide) rfl rfl rfl E.g2 hO E.g0 hsb22 (fun h => by cases h) (by simp only [List.length_cons, List.length_nil]; omega) hBs fun a w1 ov23 hO2 f1 hloc E => ?_
     have hdb15n : ∀ k, ((ov23) : Value).ownBlock = some k → k ≠ b15 := fun k hk => by
      rcases hloc with h9 | h9
      ·exact hdb15 k (by rw [← h9]; exact hk)
      ·rw [h9] at hk; cases hk; have := lt_of_blk hb15; omega
     have hs1 := srcAt.fr hs1 f1 (fun r hr => (fun e => by have := (hO.lt e).1; (try have := hdb15 _ e); (try simp only at e); omega))
     have hBs := Nat.le_trans hBs f1.size
     have hb15 := f1.obj hb15 (fun e => by have := (hO.lt e).1; (try have := hdb15 _ e); (try simp only at e); omega)
     have hf := hf.trans' f1 (fun r hr => (fun e => by have := (hO.lt e).1; (try have := hdb15 _ e); (try simp only at e); omega))
     clear f1
     replace hO := hO2
     clear hloc
     replace hdb15 := hdb15n
     refine es_ E rfl (a_ rfl E.g0) fun a E => n_ (b_ (t_ (r_ (ep (v := .int .i64 ((i : Int) + 1)) E rfl (run_iadd Tryz.underlying3 E.g13 rfl (by omega) (by omega) rfl) fun a E => es_ E rfl (m_ rfl E.g0) fun a E => n_ (t_ ?_)))))
     refine ⟨⟨i + 1, ov23, E.of ⟨E.g0, E.g15, E.g16, E.g2, trivial⟩, hlt, ?_, hs1, hf, hBs⟩, ?_⟩
     ·rw [unite_take hy]
      rw [hA] at hO ⊢
      rw [ustep_new hle9]
      exact hO
     ·rw [E.g0]; simp only [intOf]; omega
    | true =>
     rw [hq21] at E
     have hle9 : y.1 ≤ q.2 := of_decide_eq_true hq21
     refine c_t E.g0 (s_ (wp_region_invx (G := Unit) () (n := 50) (base := [(29, .bool true), (6, .int .i64 ((unite (L'.take i)).length : Int)), (16, .int .i64 ((unite (L'.take i)).length : Int)), (15, .slice (some ⟨go, 0, none⟩) (unite (L'.take i)).length cpo), (5, .pointer (some ⟨b15, 0, none⟩)), (14, .agg (spA y)), (13, .pointer (some ⟨g14, (off14 + i * 2), none⟩)), (12, .bool true), (11, .int .i64 (i : Int)), (10, .int .i64 (L'.length : Int)), (9, .slice (p1) L'.length cp1), (3, .slice (some ⟨go, 0, none⟩) (unite (L'.take i)).length cpo)]) (U := []) (T := fun γ => [some (30, .slice (some ⟨go, 0, none⟩) (unite (L'.take i)).length cpo), some (31, .int .i64 ((unite (L'.take i)).length : Int)), some (32, .int .i64 (((unite (L'.take i)).length : Int) - 1)), some (33, .slice (some ⟨go, 0, none⟩) (unite (L'.take i)).length cpo), some (34, .int .i64 ((unite (L'.take i)).length : Int)), some (35, .int .i64 (((unite (L'.take i)).length : Int) - 1)), some (36, .pointer (some ⟨go, (0 + A.length * 2), none⟩)), some (37, .pointer (some ⟨go, ((0 + A.length * 2) + 1), none⟩)), some (38, .int .i64 q.2), some (39, .pointer (some ⟨b15, 1, none⟩)), some (40, .int .i64 y.2), some (41, .int .i64 (max q.2 y.2)), some (42, .pointer (some ⟨go, (0 + A.length * 2), none⟩)), some (43, .pointer (some ⟨go, ((0 + A.length * 2) + 1), none⟩)), none]) (M := fun γ ls9 wm => (ls9 14 = false → Fr (fun _ => False) w5 wm) ∧ (ls9 14 = true → oSp wm B (.slice (some ⟨go, 0, none⟩) (unite (L'.take i)).length cpo) (A ++ [(q.1, max q.2 y.2)]) ∧ Fr (fun r => r = go) w5 wm)) (by kernel_rfl) (by kernel_rfl) (fun _ => by kernel_rfl) (E.of ⟨E.g0, E.g1, E.g2, E.g3, E.g4, E.g5, E.g6, E.g7, E.g8, E.g9, E.g10, E.g11, trivial⟩) (fun x hx => by cases hx) ⟨fun _ => (Fr.refl _ _).drew, fun h => absurd h Bool.false_ne_true⟩ ?_ ?_))
     ·intro j9 o9 γ ls9 a w5 ho hl E D DL DL2 hB hM
      match j9, ho, hl, D, DL, hB with
      | 0, ho, hl, D, DL, hB =>
       obtain rfl := Option.some.inj ho
       clear ho
       have h7 : ls9 14 = false := by
        cases h9 : ls9 14 with
        | false => rfl
        | true => exact absurd (hl.symm.trans (DL2 12 0 rfl (DL2 13 12 rfl (DL2 14 13 rfl h9)))) (by decide)
       have hM1 := hM.1 h7
       have hs1 := srcAt.fr hs1 hM1 (fun r hr => id)
       have hBs := Nat.le_trans hBs hM1.size
       have hrow14 := fun j u hu => hM1.cell (hrow14 j u hu) id
       have hb15 := hM1.obj hb15 id
       have hrowq := fun j u hu => hM1.cell (hrowq j u hu) id
       exact ⟨fun _ => valx rfl (m_ rfl E.g11) rfl ⟨fun _ => hM1, fun h => absurd (h7.symm.trans h) (by decide)⟩, fun h => by rw [wanted_none rfl] at h; cases h⟩
      | 1, ho, hl, D, DL, hB =>
       obtain rfl := Option.some.inj ho
       clear ho
       have h7 : ls9 14 = false := by
        cases h9 : ls9 14 with
        | false => rfl
        | true => exact absurd (hl.symm.trans (DL2 2 1 rfl (DL2 12 2 rfl (DL2 13 12 rfl (DL2 14 13 rfl h9))))) (by decide)
       have hM1 := hM.1 h7
       have hs1 := srcAt.fr hs1 hM1 (fun r hr => id)
       have hBs := Nat.le_trans hBs hM1.size
       have hrow14 := fun j u hu => hM1.cell (hrow14 j u hu) id
       have hb15 := hM1.obj hb15 id
       have hrowq := fun j u hu => hM1.cell (hrowq j u hu) id
       exact ⟨fun _ => valx rfl (m_ rfl E.g1) rfl ⟨fun _ => hM1, fun h => absurd (h7.symm.trans h) (by decide)⟩, fun h => by rw [wanted_none rfl] at h; cases h⟩
      | 2, ho, hl, D, DL, hB =>
       obtain rfl := Option.some.inj ho
       clear ho
       have h7 : ls9 14 = false := by
        cases h9 : ls9 14 with
        | false => rfl
        | true => exact absurd (hl.symm.trans (DL2 12 2 rfl (DL2 13 12 rfl (DL2 14 13 rfl h9)))) (by decide)
       have hM1 := hM.1 h7
       have hs1 := srcAt.fr hs1 hM1 (fun r hr => id)
       have hBs := Nat.le_trans hBs hM1.size
       have hrow14 := fun j u hu => hM1.cell (hrow14 j u hu) id
       have hb15 := hM1.obj hb15 id
       have hrowq := fun j u hu => hM1.cell (hrowq j u hu) id
       exact ⟨fun _ => valx rfl (run_isub Tryz.underlying3 (D 1 _ rfl rfl) rfl (by omega) (by omega) rfl) rfl ⟨fun _ => hM1, fun h => absurd (h7.symm.trans h) (by decide)⟩, fun h => by rw [wanted_none rfl] at h; cases h⟩
      | 3, ho, hl, D, DL, hB =>
       obtain rfl := Option.some.inj ho
       clear ho
       have h7 : ls9 14 = false := by
        cases h9 : ls9 14 with
        | false => rfl
        | true => exact absurd (hl.symm.trans (DL2 6 3 rfl (DL2 7 6 rfl (DL2 8 7 rfl (DL2 11 8 rfl (DL2 14 11 rfl h9)))))) (by decide)
       have hM1 := hM.1 h7
       have hs1 := srcAt.fr hs1 hM1 (fun r hr => id)
       have hBs := Nat.le_trans hBs hM1.size
       have hrow14 := fun j u hu => hM1.cell (hrow14 j u hu) id
       have hb15 := hM1.obj hb15 id
       have hrowq := fun j u hu => hM1.cell (hrowq j u hu) id
       exact ⟨fun _ => valx rfl (m_ rfl E.g11) rfl ⟨fun _ => hM1, fun h => absurd (h7.symm.trans h) (by decide)⟩, fun h => by rw [wanted_none rfl] at h; cases h⟩
      | 4, ho, hl, D, DL, hB =>
       obtain rfl := Option.some.inj ho
       clear ho
       have h7 : ls9 14 = false := by
        cases h9 : ls9 14 with
        | false => rfl
        | true => exact absurd (hl.symm.trans (DL2 5 4 rfl (DL2 6 5 rfl (DL2 7 6 rfl (DL2 8 7 rfl (DL2 11 8 rfl (DL2 14 11 rfl h9))))))) (by decide)
       have hM1 := hM.1 h7
       have hs1 := srcAt.fr hs1 hM1 (fun r hr => id)
       have hBs := Nat.le_trans hBs hM1.size
       have hrow14 := fun j u hu => hM1.cell (hrow14 j u hu) id
       have hb15 := hM1.obj hb15 id
       have hrowq := fun j u hu => hM1.cell (hrowq j u hu) id
       exact ⟨fun _ => valx rfl (m_ rfl E.g1) rfl ⟨fun _ => hM1, fun h => absurd (h7.symm.trans h) (by decide)⟩, fun h => by rw [wanted_none rfl] at h; cases h⟩
      | 5, ho, hl, D, DL, hB =>
       obtain rfl := Option.some.inj ho
       clear ho
       have h7 : ls9 14 = false := by
        cases h9 : ls9 14 with
        | false => rfl
        | true => exact absurd (hl.symm.trans (DL2 6 5 rfl (DL2 7 6 rfl (DL2 8 7 rfl (DL2 11 8 rfl (DL2 14 11 rfl h9)))))) (by decide)
       have hM1 := hM.1 h7
       have hs1 := srcAt.fr hs1 hM1 (fun r hr => id)
       have hBs := Nat.le_trans hBs hM1.size
       have hrow14 := fun j u hu => hM1.cell (hrow14 j u hu) id
       have hb15 := hM1.obj hb15 id
       have hrowq := fun j u hu => hM1.cell (hrowq j u hu) id
       exact ⟨fun _ => valx rfl (run_isub Tryz.underlying3 (D 4 _ rfl rfl) rfl (by omega) (by omega) rfl) rfl ⟨fun _ => hM1, fun h => absurd (h7.symm.trans h) (by decide)⟩, fun h => by rw [wanted_none rfl] at h; cases h⟩
      | 6, ho, hl, D, DL, hB =>
       obtain rfl := Option.some.inj ho
       clear ho
       have h7 : ls9 14 = false := by
        cases h9 : ls9 14 with
        | false => rfl
        | true => exact absurd (hl.symm.trans (DL2 7 6 rfl (DL2 8 7 rfl (DL2 11 8 rfl (DL2 14 11 rfl h9))))) (by decide)
       have hM1 := hM.1 h7
       have hs1 := srcAt.fr hs1 hM1 (fun r hr => id)
       have hBs := Nat.le_trans hBs hM1.size
       have hrow14 := fun j u hu => hM1.cell (hrow14 j u hu) id
       have hb15 := hM1.obj hb15 id
       have hrowq := fun j u hu => hM1.cell (hrowq j u hu) id
       exact ⟨fun _ => valx rfl (run_index22 (i := A.length) rfl (D 3 _ rfl rfl) ((D 5 _ rfl rfl).trans (by rw [hAl])) hAlt) rfl ⟨fun _ => hM1, fun h => absurd (h7.symm.trans h) (by decide)⟩, fun h => by rw [wanted_none rfl] at h; cases h⟩
      | 7, ho, hl, D, DL, hB =>
       obtain rfl := Option.some.inj ho
       clear ho
       have h7 : ls9 14 = false := by
        cases h9 : ls9 14 with
        | false => rfl
        | true => exact absurd (hl.symm.trans (DL2 8 7 rfl (DL2 11 8 rfl (DL2 14 11 rfl h9)))) (by decide)
       have hM1 := hM.1 h7
       have hs1 := srcAt.fr hs1 hM1 (fun r hr => id)
       have hBs := Nat.le_trans hBs hM1.size
       have hrow14 := fun j u hu => hM1.cell (hrow14 j u hu) id
       have hb15 := hM1.obj hb15 id
       have hrowq := fun j u hu => hM1.cell (hrowq j u hu) id
       exact ⟨fun _ => valx rfl (fa48_1 rfl (D 6 _ rfl rfl)) rfl ⟨fun _ => hM1, fun h => absurd (h7.symm.trans h) (by decide)⟩, fun h => by rw [wanted_none rfl] at h; cases h⟩
      | 8, ho, hl, D, DL, hB =>
       obtain rfl := Option.some.inj ho
       clear ho
       have h7 : ls9 14 = false := by
        cases h9 : ls9 14 with
        | false => rfl
        | true => exact absurd (hl.symm.trans (DL2 11 8 rfl (DL2 14 11 rfl h9))) (by decide)
       have hM1 := hM.1 h7
       have hs1 := srcAt.fr hs1 hM1 (fun r hr => id)
       have hBs := Nat.le_trans hBs hM1.size
       have hrow14 := fun j u hu => hM1.cell (hrow14 j u hu) id
       have hb15 := hM1.obj hb15 id
       have hrowq := fun j u hu => hM1.cell (hrowq j u hu) id
       exact ⟨fun _ => valx rfl (run_ldi rfl (D 7 _ rfl rfl) (hrowq 1 _ rfl)) rfl ⟨fun _ => hM1, fun h => absurd (h7.symm.trans h) (by decide)⟩, fun h => by rw [wanted_none rfl] at h; cases h⟩
      | 9, ho, hl, D, DL, hB =>
       obtain rfl := Option.some.inj ho
       clear ho
       have h7 : ls9 14 = false := by
        cases h9 : ls9 14 with
        | false => rfl
        | true => exact absurd (hl.symm.trans (DL2 10 9 rfl (DL2 11 10 rfl (DL2 14 11 rfl h9)))) (by decide)
       have hM1 := hM.1 h7
       have hs1 := srcAt.fr hs1 hM1 (fun r hr => id)
       have hBs := Nat.le_trans hBs hM1.size
       have hrow14 := fun j u hu => hM1.cell (hrow14 j u hu) id
       have hb15 := hM1.obj hb15 id
       have hrowq := fun j u hu => hM1.cell (hrowq j u hu) id
       exact ⟨fun _ => valx rfl (fa48_1 rfl E.g4) rfl ⟨fun _ => hM1, fun h => absurd (h7.symm.trans h) (by decide)⟩, fun h => by rw [wanted_none rfl] at h; cases h⟩
      | 10, ho, hl, D, DL, hB =>
       obtain rfl := Option.some.inj ho
       clear ho
       have h7 : ls9 14 = false := by
        cases h9 : ls9 14 with
        | false => rfl
        | true => exact absurd (hl.symm.trans (DL2 11 10 rfl (DL2 14 11 rfl h9))) (by decide)
       have hM1 := hM.1 h7
       have hs1 := srcAt.fr hs1 hM1 (fun r hr => id)
       have hBs := Nat.le_trans hBs hM1.size
       have hrow14 := fun j u hu => hM1.cell (hrow14 j u hu) id
       have hb15 := hM1.obj hb15 id
       have hrowq := fun j u hu => hM1.cell (hrowq j u hu) id
       exact ⟨fun _ => valx rfl (run_ldi rfl (D 9 _ rfl rfl) (bx hb15 1 rfl)) rfl ⟨fun _ => hM1, fun h => absurd (h7.symm.trans h) (by decide)⟩, fun h => by rw [wanted_none rfl] at h; cases h⟩
      | 11, ho, hl, D, DL, hB =>
       obtain rfl := Option.some.inj ho
       clear ho
       have h7 : ls9 14 = false := by
        cases h9 : ls9 14 with
        | false => rfl
        | true => exact absurd (hl.symm.trans (DL2 14 11 rfl h9)) (by decide)
       have hM1 := hM.1 h7
       have hs1 := srcAt.fr hs1 hM1 (fun r hr => id)
       have hBs := Nat.le_trans hBs hM1.size
       have hrow14 := fun j u hu => hM1.cell (hrow14 j u hu) id
       have hb15 := hM1.obj hb15 id
       have hrowq := fun j u hu => hM1.cell (hrowq j u hu) id
       exact ⟨fun _ => valx rfl (run_max rfl (D 8 _ rfl rfl) (D 10 _ rfl rfl)) rfl ⟨fun _ => hM1, fun h => absurd (h7.symm.trans h) (by decide)⟩, fun h => by rw [wanted_none rfl] at h; cases h⟩
      | 12, ho, hl, D, DL, hB =>
       obtain rfl := Option.some.inj ho
       clear ho
       have h7 : ls9 14 = false := by
        cases h9 : ls9 14 with
        | false => rfl
        | true => exact absurd (hl.symm.trans (DL2 13 12 rfl (DL2 14 13 rfl h9))) (by decide)
       have hM1 := hM.1 h7
       have hs1 := srcAt.fr hs1 hM1 (fun r hr => id)
       have hBs := Nat.le_trans hBs hM1.size
       have hrow14 := fun j u hu => hM1.cell (hrow14 j u hu) id
       have hb15 := hM1.obj hb15 id
       have hrowq := fun j u hu => hM1.cell (hrowq j u hu) id
       exact ⟨fun _ => valx rfl (run_index22 (i := A.length) rfl (D 0 _ rfl rfl) ((D 2 _ rfl rfl).trans (by rw [hAl])) hAlt) rfl ⟨fun _ => hM1, fun h => absurd (h7.symm.trans h) (by decide)⟩, fun h => by rw [wanted_none rfl] at h; cases h⟩
      | 13, ho, hl, D, DL, hB =>
       obtain rfl := Option.some.inj ho
       clear ho
       have h7 : ls9 14 = false := by
        cases h9 : ls9 14 with
        | false => rfl
        | true => exact absurd (hl.symm.trans (DL2 14 13 rfl h9)) (by decide)
       have hM1 := hM.1 h7
       have hs1 := srcAt.fr hs1 hM1 (fun r hr => id)
       have hBs := Nat.le_trans hBs hM1.size
       have hrow14 := fun j u hu => hM1.cell (hrow14 j u hu) id
       have hb15 := hM1.obj hb15 id
       have hrowq := fun j u hu => hM1.cell (hrowq j u hu) id
       exact ⟨fun _ => valx rfl (fa48_1 rfl (D 12 _ rfl rfl)) rfl ⟨fun _ => hM1, fun h => absurd (h7.symm.trans h) (by decide)⟩, fun h => by rw [wanted_none rfl] at h; cases h⟩
      | 14, ho, hl, D, DL, hB =>
       obtain rfl := Option.some.inj ho
       clear ho
       have hM1 := hM.1 hl
       have hs1 := srcAt.fr hs1 hM1 (fun r hr => id)
       have hBs := Nat.le_trans hBs hM1.size
       have hrow14 := fun j u hu => hM1.cell (hrow14 j u hu) id
       have hb15 := hM1.obj hb15 id
       have hrowq := fun j u hu => hM1.cell (hrowq j u hu) id
       have hO9 := hO.fr hM1 (fun _ _ h => h)
       rw [hA] at hO9
       obtain ⟨go9, cpo9, hdv9, hob9, ⟨c1, c2⟩, _, hO29, f29⟩ := oSp.setTo hO9 (max q.2 y.2)
       have hgg : go9 = go := by rw [hob] at hob9; exact (Option.some.inj hob9).symm
       subst hgg
       exact ⟨fun _ => storex rfl (run_st3 rfl (D 13 _ rfl rfl) (D 11 _ rfl rfl) c1 c2) rfl ⟨fun h => by simp at h, fun _ => ⟨by rw [hA]; exact hO29, ((hM1.mono (G := fun r => r = go9) (fun _ _ h => h.elim)).trans (f29.mono fun r _ hr => by rw [hob] at hr; exact (Option.some.inj hr).symm))⟩⟩, fun h => by rw [wanted_none rfl] at h; cases h⟩
      | j9 + 15, ho, hl, D, DL, hB => exact absurd ho (by simp)
     ·rintro _ a w5 E V hM
      clear V
      have hM := hM.2 rfl
      obtain ⟨hO3, f1⟩ := hM
      have hgbb15 := hdb15 go rfl
      clear hM hO hO9 hO2 f2 hrowq
      have hs1 := srcAt.fr hs1 f1 (fun _ hr => nq_)
      have hBs := Nat.le_trans hBs f1.size
      have hb15 := f1.obj hb15 nq_
      have hf := hf.trans' f1 (fun _ hr => nq_)
      clear f1
      have hO := hO3
      clear hO3
      refine t_ (x_ (te_ (be_ (t_ (r_ (ep (v := .int .i64 ((i : Int) + 1)) E rfl (run_iadd Tryz.underlying3 E.g8 rfl (by omega) (by omega) rfl) fun a E => es_ E rfl (m_ rfl E.g0) fun a E => n_ (t_ ?_)))))))
      refine ⟨⟨i + 1, .slice (some ⟨go, 0, none⟩) (unite (L'.take i)).length cpo, E.of ⟨E.g0, E.g10, E.g11, E.g12, trivial⟩, hlt, ?_, hs1, hf, hBs⟩, ?_⟩
      ·rw [unite_take hy]
       rw [show ustep (unite (L'.take i)) y = A ++ [(q.1, max q.2 y.2)] by rw [hA, ustep_ext hle9]]
       exact hO
      ·rw [E.g0]; simp only [intOf]; omega
end Go.Proofs.YtjaffpnegdcjnaaGreatDoor
/- slices.Grow, slices.Clone. -/
set_option linter.unusedVariables false
set_option linter.unusedSimpArgs false
namespace Go.Proofs.YtjaffpnegdcjnaaGreatDoor
open Go.RowKit Go.Pl
section
variable {o : Oper} {w : World} {ρ : Operand → Value} {x y z : Operand}
end
end Go.Proofs.YtjaffpnegdcjnaaGreatDoor
/- Tokens of texts that are put together, in plain Lean. -/
set_option linter.unusedVariables false
set_option linter.unusedSimpArgs false
namespace Go.Proofs.YtjaffpnegdcjnaaGreatDoor
theorem u8_all {p : UInt8 → Bool} (h : (List.range 256).all (fun n => p (UInt8.ofNat n)) = true) (b : UInt8) : p b = true := by
  have := List.all_eq_true.1 h b.toNat (List.mem_range.2 b.toNat_lt)
  simpa using this
theorem cls (b : UInt8) : (!isSym b || (!isBlk b && b != 35 && !isLet b && !isDig b && b != 34 && !isWrd b)) = true := u8_all (p := fun b => !isSym b || (!isBlk b && b != 35 && !isLet b && !isDig b && b != 34 && !isWrd b)) (by decide +kernel) b
theorem clsL (b : UInt8) : (!isLet b || (!isBlk b && b != 35 && !isDig b && isWrd b)) = true := u8_all (p := fun b => !isLet b || (!isBlk b && b != 35 && !isDig b && isWrd b)) (by decide +kernel) b
theorem clsD (b : UInt8) : (!isDig b || (!isBlk b && b != 35 && !isLet b && isWrd b)) = true := u8_all (p := fun b => !isDig b || (!isBlk b && b != 35 && !isLet b && isWrd b)) (by decide +kernel) b
theorem isSym_cls {b : UInt8} (h : isSym b = true) : isBlk b = false ∧ (b == 35) = false ∧ isLet b = false ∧ isDig b = false ∧ (b == 34) = false ∧ isWrd b = false := by
  have := cls b
  rw [h] at this
  simp only [Bool.not_true, Bool.false_or, Bool.and_eq_true, Bool.not_eq_true', bne_iff_ne] at this
  obtain ⟨⟨⟨⟨⟨h1, h2⟩, h3⟩, h4⟩, h5⟩, h6⟩ := this
  exact ⟨h1, beq_false_of_ne h2, h3, h4, beq_false_of_ne h5, h6⟩
theorem isLet_cls {b : UInt8} (h : isLet b = true) : isBlk b = false ∧ (b == 35) = false ∧ isDig b = false ∧ isWrd b = true := by
  have := clsL b
  rw [h] at this
  simp only [Bool.not_true, Bool.false_or, Bool.and_eq_true, Bool.not_eq_true', bne_iff_ne] at this
  obtain ⟨⟨⟨h1, h2⟩, h3⟩, h4⟩ := this
  exact ⟨h1, beq_false_of_ne h2, h3, h4⟩
theorem isDig_cls {b : UInt8} (h : isDig b = true) : isBlk b = false ∧ (b == 35) = false ∧ isLet b = false ∧ isWrd b = true := by
  have := clsD b
  rw [h] at this
  simp only [Bool.not_true, Bool.false_or, Bool.and_eq_true, Bool.not_eq_true', bne_iff_ne] at this
  obtain ⟨⟨⟨h1, h2⟩, h3⟩, h4⟩ := this
  exact ⟨h1, beq_false_of_ne h2, h3, h4⟩
theorem one_blk {c : UInt8} {l : Bys} (h : isBlk c = true) : one c l = (0, [], 0, 0) := by unfold one; rw [if_pos h]
theorem one_sym {c : UInt8} {l : Bys} (h : isSym c = true) : one c l = (4, [c], 0, 0) := by
  obtain ⟨h1, h2, h3, h4, h5, _⟩ := isSym_cls h
  unfold one; simp only [h1, h2, h3, h4, h5, h, Bool.false_eq_true, if_false, if_true]
/-- The offsets of the tokens increase. -/
theorem lexL_inc : ∀ (n : Nat) (l : Bys) (a : Int), l.length ≤ n → ((lexL l a).Pairwise fun x y => x.1.2.2 < y.1.2.2) ∧ ∀ x ∈ lexL l a, a ≤ x.1.2.2 ∧ x.1.2.2 < a + l.length := by
  intro n
  induction n with
  | zero => intro l a h; have : l = [] := by cases l with | nil => rfl | cons => simp at h
            subst this; exact ⟨.nil, fun x hx => by cases hx⟩
  | succ n ih =>
    intro l a h
    cases l with
    | nil => exact ⟨.nil, fun x hx => by cases hx⟩
    | cons c l =>
      simp only [List.length_cons] at h ⊢
      rw [lexL_cons]
      have ih2 : ∀ k, ∀ x ∈ lexL (l.drop k) (a + 1 + k), a + 1 ≤ x.1.2.2 ∧ x.1.2.2 < a + ((l.length + 1 : Nat) : Int) := fun k x hx => by
        by_cases hk : k ≤ l.length
        · have := (ih (l.drop k) (a + 1 + k) (by simp; omega)).2 x hx
          rw [List.length_drop] at this
          omega
        · rw [List.drop_of_length_le (by omega)] at hx; cases hx
      split
      · exact ⟨List.pairwise_singleton _ _, fun x hx => by rw [List.mem_singleton] at hx; subst hx; simp only; omega⟩
      · split
        · exact ⟨(ih _ _ (by simp; omega)).1, fun x hx => by have := ih2 _ x hx; omega⟩
        · refine ⟨List.pairwise_cons.2 ⟨fun y hy => by have := ih2 _ y hy; simp only; omega, (ih _ _ (by simp; omega)).1⟩, fun x hx => ?_⟩
          rcases List.mem_cons.1 hx with rfl | hx
          · simp only; omega
          · have := ih2 _ x hx; omega
theorem strL_app : ∀ (n : Nat) (l r : Bys), l.length ≤ n → ∀ {s : Bys} {k : Nat}, strL l = some (s, k) → strL (l ++ r) = some (s, k) ∧ k ≤ l.length := by
  intro n
  induction n with
  | zero => intro l r h s k hs; have : l = [] := by cases l with | nil => rfl | cons => simp at h
            subst this; cases hs
  | succ n ih =>
    intro l r h s k hs
    cases l with
    | nil => cases hs
    | cons c l =>
      simp only [List.length_cons, List.cons_append] at h ⊢
      unfold strL at hs ⊢
      split at hs
      · rename_i h1; rw [if_pos h1]; cases hs; exact ⟨rfl, by omega⟩
      rename_i h1; rw [if_neg h1]
      split at hs
      · cases hs
      rename_i h2; rw [if_neg h2]
      split at hs
      · rename_i h3; rw [if_pos h3]
        cases l with
        | nil => cases hs
        | cons d l =>
          simp only [List.cons_append] at hs ⊢
          split at hs
          · rename_i h4; rw [if_pos h4]
            cases hq : strL l with
            | none => rw [hq] at hs; cases hs
            | some q =>
              obtain ⟨s1, k1⟩ := q
              rw [hq] at hs
              obtain ⟨e, e2⟩ := ih l r (by simp only [List.length_cons] at h; omega) hq
              rw [e]
              cases hs
              exact ⟨rfl, by simp only [List.length_cons]; omega⟩
          · cases hs
      · rename_i h3; rw [if_neg h3]
        cases hq : strL l with
        | none => rw [hq] at hs; cases hs
        | some q =>
          obtain ⟨s1, k1⟩ := q
          rw [hq] at hs
          obtain ⟨e, e2⟩ := ih l r (by omega) hq
          rw [e]
          cases hs
          exact ⟨rfl, by omega⟩
theorem takeWhile_len (p : UInt8 → Bool) (l : Bys) : (l.takeWhile p).length ≤ l.length := by
  induction l with
  | nil => simp
  | cons c l ih => rw [List.takeWhile_cons]; split <;> simp; omega
end Go.Proofs.YtjaffpnegdcjnaaGreatDoor
/- The canonical text of spans, and what it is read as, in plain Lean. -/
set_option linter.unusedVariables false
set_option linter.unusedSimpArgs false
namespace Go.Proofs.YtjaffpnegdcjnaaGreatDoor
def dg (n : Nat) : UInt8 := UInt8.ofNat (48 + n)
def decS (n : Nat) : Bys := if n < 10 then [dg n] else [dg (n / 10), dg (n % 10)]
def dec2 (n : Nat) : Bys := [dg (n / 10), dg (n % 10)]
/-- The clock of a minute of the day. -/
def clk (m : Int) : Bys := decS (m / 60).toNat ++ 58 :: dec2 (m % 60).toNat
/-- The days of some minutes, with the minutes of the day. -/
def pcsF : Nat → Int → Int → List (Int × Int × Int)
  | 0, _, _ => []
  | n + 1, f, t => if f < t then (f / 1440, f - f / 1440 * 1440, min t ((f / 1440 + 1) * 1440) - f / 1440 * 1440) :: pcsF n (min t ((f / 1440 + 1) * 1440)) t else []
def pcs (s : Sp) : List (Int × Int × Int) := pcsF 8 s.1 s.2
def dayT (d : Int) : Bys := days.getD d.toNat []
def pcT (p : Int × Int × Int) : Bys := dayT p.1 ++ 32 :: (clk p.2.1 ++ 45 :: clk p.2.2)
def joinC : List Bys → Bys
  | [] => []
  | [x] => x
  | x :: y :: l => x ++ 44 :: 32 :: joinC (y :: l)
def textC (l : List Sp) : Bys := match l with
  | [] => never
  | s :: _ => if s == (0, 10080) then always else joinC ((l.flatMap pcs).map pcT)
/-- hours.Text: the text and the error. -/
def textR (l : List Sp) : Bys × Int := if vl (-1) l = false then ([], 1) else if l.length > 60 then ([], 2) else (textC l, 0)
def pcOK (p : Int × Int × Int) : Prop := 0 ≤ p.1 ∧ p.1 < 7 ∧ 0 ≤ p.2.1 ∧ p.2.1 < p.2.2 ∧ p.2.2 ≤ 1440
theorem pcsF_ok : ∀ (n : Nat) {f t : Int}, 0 ≤ f → t ≤ 10080 → ∀ p ∈ pcsF n f t, pcOK p := by
  intro n
  induction n with
  | zero => intro f t _ _ p hp; cases hp
  | succ n ih =>
    intro f t h0 h1 p hp
    unfold pcsF at hp
    split at hp
    · rcases List.mem_cons.1 hp with rfl | hp
      · unfold pcOK; simp only; omega
      · exact ih (by omega) h1 p hp
    · cases hp
theorem pcs_ok {l : List Sp} (hw : wk l) : ∀ p ∈ l.flatMap pcs, pcOK p := by
  intro p hp
  obtain ⟨s, hs, hp⟩ := List.mem_flatMap.1 hp
  obtain ⟨h0, h1, h2⟩ := hw s hs
  exact pcsF_ok 8 h0 h2 p hp
theorem errOf_none : ∀ (l : List (Tok Int × Int)), errOf l = none ↔ ∀ x ∈ l, x.2 = 0 := by
  intro l
  induction l with
  | nil => exact ⟨(fun _ x hx => by cases hx), fun _ => rfl⟩
  | cons x l ih =>
    unfold errOf
    by_cases h : x.2 = 0
    · rw [if_neg (by simp [h]), ih]
      exact ⟨fun k y hy => by rcases List.mem_cons.1 hy with rfl | hy; exact h; exact k y hy, fun k y hy => k y (List.mem_cons_of_mem _ hy)⟩
    · rw [if_pos (by simpa using h)]
      exact ⟨(fun k => by cases k), fun k => absurd (k x List.mem_cons_self) h⟩
end Go.Proofs.YtjaffpnegdcjnaaGreatDoor
/- Reading: where errors are, what the spans are; gaps; parts behind parts; in plain Lean. -/
set_option linter.unusedVariables false
set_option linter.unusedSimpArgs false
namespace Go.Proofs.YtjaffpnegdcjnaaGreatDoor
section
variable {α : Type} {en : α} {E : Int × α → Prop}
/-- The errors that may come. -/
def Hs (E : Int × α → Prop) (en : α) (ts : List (Tok α)) : Prop := E (6, en) ∧ ∀ t ∈ ts, E (5, t.2.2) ∧ E (10, t.2.2)
theorem Hs.drop {ts : List (Tok α)} (h : Hs E en ts) (k : Nat) : Hs E en (ts.drop k) := ⟨h.1, fun t ht => h.2 t (List.mem_of_mem_drop ht)⟩
def Tk (ts : List (Tok α)) : Prop := ∀ t ∈ ts, tokOK t
theorem Tk.drop {ts : List (Tok α)} (h : Tk ts) (k : Nat) : Tk (ts.drop k) := fun t ht => h t (List.mem_of_mem_drop ht)
theorem numT_go (l : Bys) : ∀ (n : Int), 0 ≤ n → (∀ b ∈ l, isDig b = true) → 0 ≤ l.foldl (fun n b => 10 * n + ((b.toNat : Int) - 48)) n := by
  induction l with
  | nil => intro n h _; exact h
  | cons c l ih =>
    intro n h hd
    have hc := hd c List.mem_cons_self
    have : 48 ≤ c.toNat := by
      unfold isDig at hc
      rw [Bool.and_eq_true] at hc
      have := of_decide_eq_true hc.1
      exact UInt8.le_iff_toNat_le.1 this
    have h9 : 0 ≤ 10 * n + ((c.toNat : Int) - 48) := by omega
    exact ih _ h9 fun b hb => hd b (List.mem_cons_of_mem _ hb)
theorem num_nonneg {t : Tok α} (h : tokOK t) (hk : t.1 = 2) : 0 ≤ numT t.2.1 := by
  rcases h with ⟨h, _⟩ | ⟨h, _, _, h2⟩ | h | ⟨h, _⟩
  · omega
  · exact numT_go _ 0 (Int.le_refl _) h2
  · omega
  · omega
theorem take_tk {k : Int} {xs : List Bys} {ts : List (Tok α)} {t : Tok α} {l : List (Tok α)} (hk : Tk ts) (h : take en k xs ts = .ok (t, l)) : tokOK t ∧ t.1 = k ∧ Tk l := by
  obtain ⟨h1, h2, _⟩ := take_ok h
  subst h1
  exact ⟨hk t List.mem_cons_self, h2, fun u hu => hk u (List.mem_cons_of_mem _ hu)⟩
theorem clock_rng {most x : Int} {a : α} {ts l : List (Tok α)} (hk : Tk ts) (h : clock en most ts = .ok ((x, a), l)) : 0 ≤ x ∧ x ≤ 60 * most + 59 ∧ (most = 24 → x ≤ 1440) ∧ Tk l := by
  unfold clock at h
  split at h
  · cases h
  · rename_i t ts1 he
    obtain ⟨t1, t2, t3⟩ := take_tk hk he
    have hn := num_nonneg t1 t2
    split at h
    · cases h
    · rename_i hmo
      split at h
      · cases h
      · rename_i c ts2 he2
        obtain ⟨_, _, t4⟩ := take_tk t3 he2
        split at h
        · cases h
        · rename_i m ts3 he3
          obtain ⟨u1, u2, u3⟩ := take_tk t4 he3
          have hm := num_nonneg u1 u2
          split at h
          · cases h
          · rename_i hb
            simp only [Bool.or_eq_true, bne_iff_ne, decide_eq_true_eq, Bool.and_eq_true, beq_iff_eq, not_or, not_and] at hb
            cases h
            exact ⟨by omega, by omega, fun e => by omega, u3⟩
theorem addL_wk {f t : Int} (h0 : 0 ≤ f) (h1 : f < t) (h2 : f < 10080) (h3 : t ≤ 20160) : wk (addL f t) := by
  unfold addL
  split
  · intro s hs
    simp only [List.mem_cons, List.not_mem_nil, or_false] at hs
    rcases hs with rfl | rfl <;> simp only <;> omega
  · intro s hs
    rw [List.mem_singleton] at hs
    subst hs; simp only; omega
theorem wk_app {a b : List Sp} (ha : wk a) (hb : wk b) : wk (a ++ b) := fun s hs => (List.mem_append.1 hs).elim (ha s) (hb s)
theorem dayL_wk {f n a b : Int} (hf : 0 ≤ f) (ha : 0 ≤ a) (hab : a < b) (ha2 : a < 1440) (hb : b ≤ 2880) : wk (dayL f n a b) := by
  intro s hs
  unfold dayL at hs
  obtain ⟨i, hi, hs⟩ := List.mem_flatMap.1 hs
  have h1 : 0 ≤ (f + (i : Int)).tmod 7 ∧ (f + (i : Int)).tmod 7 < 7 := by rw [Int.tmod_eq_emod_of_nonneg (by omega)]; omega
  exact addL_wk (by omega) (by omega) (by omega) (by omega) s hs
theorem time_wk {f t : Int} (hf : 0 ≤ f) {ts l : List (Tok α)} {s : List Sp} (hk : Tk ts) (h : time en f t ts = .ok (s, l)) : wk s ∧ Tk l := by
  unfold time at h
  split at h
  · cases h
  · rename_i a x ts1 h1
    obtain ⟨a1, a2, _, k1⟩ := clock_rng hk h1
    split at h
    · cases h
    · rename_i c ts2 h2
      obtain ⟨_, _, k2⟩ := take_tk k1 h2
      split at h
      · cases h
      · rename_i b y ts3 h3
        obtain ⟨b1, _, b2, k3⟩ := clock_rng k2 h3
        have b2 := b2 rfl
        split at h
        · cases h
        · rename_i hab
          simp only [beq_iff_eq] at hab
          cases h
          refine ⟨dayL_wk hf a1 ?_ (by omega) ?_, k3⟩ <;> split <;> omega
theorem times_wk {f t : Int} (hf : 0 ≤ f) : ∀ (n : Nat) {ts l : List (Tok α)} {s : List Sp}, Tk ts → times en f t n ts = .ok (s, l) → wk s ∧ Tk l := by
  intro n
  induction n with
  | zero => intro ts l s _ h; cases h
  | succ n ih =>
    intro ts l s hk h
    unfold times at h
    split at h
    · cases h
    · rename_i s1 ts1 h1
      obtain ⟨w1, k1⟩ := time_wk hf hk h1
      split at h
      · split at h
        · cases h
        · rename_i s2 ts2 h2
          obtain ⟨w2, k2⟩ := ih (k1.drop 1) h2
          cases h
          exact ⟨wk_app w1 w2, k2⟩
      · cases h; exact ⟨w1, k1⟩
theorem dys_tk {ts l : List (Tok α)} {f t : Int} (hk : Tk ts) (h : dys en ts = .ok ((f, t), l)) : 0 ≤ f ∧ f < 7 ∧ 0 ≤ t ∧ t < 7 ∧ Tk l := by
  have hidx : ∀ d ∈ days, 0 ≤ idx d ∧ idx d < 7 := by decide +kernel
  unfold dys at h
  split at h
  · cases h
  · rename_i x ts1 h1
    obtain ⟨_, _, k1⟩ := take_tk hk h1
    have hx := (take_ok h1).2.2.resolve_left (by decide)
    split at h
    · split at h
      · cases h
      · rename_i y ts2 h2
        obtain ⟨_, _, k2⟩ := take_tk (k1.drop 1) h2
        have hy := (take_ok h2).2.2.resolve_left (by decide)
        cases h
        exact ⟨(hidx _ hx).1, (hidx _ hx).2, (hidx _ hy).1, (hidx _ hy).2, k2⟩
    · cases h
      exact ⟨(hidx _ hx).1, (hidx _ hx).2, (hidx _ hx).1, (hidx _ hx).2, k1⟩
theorem part_wk {ts l : List (Tok α)} {s : List Sp} (hk : Tk ts) (h : part en ts = .ok (s, l)) : wk s ∧ Tk l := by
  unfold part at h
  split at h
  · cases h
  · rename_i a b ts1 h1
    obtain ⟨h2, _, _, _, h3⟩ := dys_tk hk h1
    exact times_wk h2 _ h3 h
theorem parts_wk : ∀ (n : Nat) {ts l : List (Tok α)} {s : List Sp}, Tk ts → parts en n ts = .ok (s, l) → wk s ∧ Tk l := by
  intro n
  induction n with
  | zero => intro ts l s _ h; cases h
  | succ n ih =>
    intro ts l s hk h
    unfold parts at h
    split at h
    · cases h
    · rename_i s1 ts1 h1
      obtain ⟨w1, k1⟩ := part_wk hk h1
      split at h
      · split at h
        · cases h
        · rename_i s2 ts2 h2
          obtain ⟨w2, k2⟩ := ih (k1.drop 1) h2
          cases h
          exact ⟨wk_app w1 w2, k2⟩
      · cases h; exact ⟨w1, k1⟩
theorem textP_wk {ts : List (Tok α)} {s : List Sp} (hk : Tk ts) (h : textP en ts = .ok s) : wk s := by
  unfold textP at h
  cases hq : textQ en ts with
  | error q => rw [hq] at h; cases h
  | ok q =>
    obtain ⟨s', l⟩ := q
    rw [hq] at h
    cases l with
    | cons t l => cases h
    | nil =>
      cases h
      unfold textQ at hq
      split at hq
      · injection hq with hq; rw [show s = addL 0 10080 from (congrArg Prod.fst hq).symm]; exact addL_wk (by omega) (by omega) (by omega) (by omega)
      · split at hq
        · injection hq with hq; rw [show s = [] from (congrArg Prod.fst hq).symm]; intro s hs; cases hs
        · exact (parts_wk _ hk hq).1
end
-- ---- what Parse answers
theorem lexP_cases (l : Bys) : (∃ e a, lexP l = .error (e, a) ∧ e ≠ 0 ∧ 0 ≤ a ∧ a < l.length) ∨ (lexP l = .ok ((lexL l 0).map (·.1)) ∧ ∀ x ∈ lexL l 0, x.2 = 0) := by
  have hm : ∀ (q : List (Tok Int × Int)) (e : Int × Int), errOf q = some e → e.1 ≠ 0 ∧ ∃ x ∈ q, x.1.2.2 = e.2 := by
    intro q
    induction q with
    | nil => intro e h; cases h
    | cons x q ih =>
      intro e h
      unfold errOf at h
      split at h
      · rename_i h1
        cases h
        exact ⟨by simpa using h1, x, List.mem_cons_self, rfl⟩
      · obtain ⟨h1, y, hy, h2⟩ := ih e h
        exact ⟨h1, y, List.mem_cons_of_mem _ hy, h2⟩
  unfold lexP
  cases he : errOf (lexL l 0) with
  | some e =>
    obtain ⟨h1, x, hx, h2⟩ := hm _ _ he
    have := (lexL_inc _ l 0 (Nat.le_refl _)).2 x hx
    exact .inl ⟨e.1, e.2, rfl, h1, by omega, by omega⟩
  | none => exact .inr ⟨rfl, (errOf_none _).1 he⟩
theorem lexP_tk {l : Bys} {ts : List (Tok Int)} (h : lexP l = .ok ts) : ts = (lexL l 0).map (·.1) ∧ errOf (lexL l 0) = none ∧ Tk ts ∧ (∀ t ∈ ts, 0 ≤ t.2.2 ∧ t.2.2 < l.length) ∧ ts.length ≤ l.length := by
  rcases lexP_cases l with ⟨e, a, h1, _⟩ | ⟨h1, h2⟩
  · rw [h1] at h; cases h
  · rw [h1] at h
    cases h
    refine ⟨rfl, (errOf_none _).2 h2, fun t ht => ?_, fun t ht => ?_, ?_⟩
    · obtain ⟨x, hx, rfl⟩ := List.mem_map.1 ht
      exact (lexL_ok _ l 0 (Nat.le_refl _) x hx (h2 x hx)).1
    · obtain ⟨x, hx, rfl⟩ := List.mem_map.1 ht
      have := (lexL_inc _ l 0 (Nat.le_refl _)).2 x hx
      omega
    · rw [List.length_map]; exact lexL_len _ l 0 (Nat.le_refl _)
end Go.Proofs.YtjaffpnegdcjnaaGreatDoor
/- slices.Concat; Not, Either, Both. -/
set_option linter.unusedVariables false
set_option linter.unusedSimpArgs false
namespace Go.Proofs.YtjaffpnegdcjnaaGreatDoor
open Go.RowKit Go.Pl
/-- Rows of slices: what each slice holds. -/
def AllSp (w : World) (vs : List Value) (ls : List (List Sp)) : Prop := ∀ (i : Nat) y, vs[i]? = some y → ∃ l, ls[i]? = some l ∧ SpV w y l
theorem AllSp.fr {w w' : World} {vs : List Value} {ls : List (List Sp)} (h : AllSp w vs ls) (f : Fr (fun _ => False) w w') : AllSp w' vs ls := fun i y hy => by
 obtain ⟨l, h1, h2⟩ := h i y hy
 exact ⟨l, h1, h2.fr f⟩
/-- The gaps between spans, as they are gone through. -/
def g2 : Int → List Sp → List Sp
 | _, [] => []
 | f, s :: r => (if f < s.1 then [(f, s.1)] else []) ++ g2 s.2 r
end Go.Proofs.YtjaffpnegdcjnaaGreatDoor
