/- slices.Concat; Not, Either, Both. -/
import Derived.Test.YtjaffpnegdcjnaaGreatDoorSB3
import Derived.Test.YtjaffpnegdcjnaaGreatDoorSPg
set_option linter.unusedVariables false
set_option linter.unusedSimpArgs false
namespace Go.Proofs.YtjaffpnegdcjnaaGreatDoor
open Go.RowKit Go.Pl
/-- Rows of slices: what each slice holds. -/
def AllSp (w : World) (vs : List Value) (ls : List (List Sp)) : Prop := ∀ (i : Nat) y, vs[i]? = some y → ∃ l, ls[i]? = some l ∧ SpV w y l
theorem AllSp.fr {w w' : World} {vs : List Value} {ls : List (List Sp)} (h : AllSp w vs ls) (f : Fr (fun _ => False) w w') : AllSp w' vs ls := fun i y hy => by
 obtain ⟨l, h1, h2⟩ := h i y hy
 exact ⟨l, h1, h2.fr f⟩
theorem flat_add {ls : List (List Sp)} {i : Nat} {l : List Sp} (h : ls[i]? = some l) : (ls.take (i + 1)).flatten = (ls.take i).flatten ++ l := by
 rw [List.take_add_one, h]
 simp
theorem flat_le (ls : List (List Sp)) (i : Nat) : (ls.take i).flatten.length ≤ ls.flatten.length := by
 conv => rhs; rw [← List.take_append_drop i ls, List.flatten_append, List.length_append]
 omega
set_option maxRecDepth 100000 in
set_option maxHeartbeats 4000000 in
theorem concat_calls {w : World} {p0 : Option Addr} {cp0 G0 : Nat} {vs : List Value} {ls : List (List Sp)} (hs0 : srcAt vaL 1 w G0 p0 vs) (hG0 : G0 ≤ w.heap.size) (hlen : ls.length = vs.length) (hA : AllSp w vs ls) (hn : ls.flatten.length ≤ 20000) (hv : vs.length ≤ 1000) : Calls Tryz.prog 52 #[.slice p0 vs.length cp0] w fun e w' => ∃ u, e = .returned u ∧ oSp w' w.heap.size u ls.flatten ∧ Fr (fun _ => False) w w' := by
 obtain ⟨G, hG⟩ : ∃ G, G = w.heap.size := ⟨_, rfl⟩
 refine wp_start1 Tryz.func52 rfl rfl (n := 36) (by decide) fun a E => ?_
 have hf : Fr (fun _ => False) w w := Fr.refl _ _
 have hA := hA
 have hAw := hA
 have hlw := hG0
 refine wp_seq ?_
 refine wp_region_lit ?_
 refine ep (v := .slice none 0 0) E (run_assign rfl rfl) fun a E => ?_
 refine wpList_nil ?_
 refine then_n ?_
 refine wp_seq ?_
 refine wp_region_lit ?_
 refine ep (v := .int .i64 0) E (run_assign rfl rfl) fun a E => ?_
 refine wpList_nil ?_
 refine then_n ?_
 refine wp_seq ?_
 refine wp_seq ?_
 refine wp_region_lit ?_
 refine ep (v := .slice (p0) vs.length cp0) E (run_move rfl (E.get 2 rfl)) fun a E => ?_
 refine ep (v := .int .i64 (vs.length : Int)) E (run_len52 rfl (E.get 0 rfl)) fun a E => ?_
 refine ep (v := .int .i64 0) E (run_move rfl rfl) fun a E => ?_
 refine wpList_nil ?_
 refine then_n ?_
 refine wp_block ?_
 refine wp_loop (fun a w2 => ∃ (i : Nat), Env 36 [(11, .int .i64 (i : Int)), (10, .int .i64 (vs.length : Int)), (9, .slice (p0) vs.length cp0), (0, .slice (p0) vs.length cp0), (3, .int .i64 ((ls.take i).flatten.length : Int))] a ∧ i ≤ vs.length ∧ srcAt vaL 1 w2 G0 p0 vs ∧ AllSp w2 vs ls ∧ Fr (fun _ => False) w w2) (fun a _ => vs.length - (intOf (a.eval (.tmp 11))).toNat) ?_ ?_
 ·exact ⟨0, E.of ⟨E.get 0 rfl, E.get 1 rfl, E.get 2 rfl, E.get 5 rfl, E.get 3 rfl, trivial⟩, Nat.zero_le _, hs0, hA, hf⟩
 clear E
 rintro a w2 ⟨i, E, hi, hs0, hA, hf⟩
 have hmu : vs.length - (intOf (a.eval (.tmp 11))).toNat = vs.length - i := by rw [E.get 0 rfl]; first | rfl | (simp [intOf]; done) | (simp only [intOf]; omega)
 rw [hmu]
 clear hmu
 refine wp_seq ?_
 refine wp_region_lit ?_
 refine ep (v := .bool (decide ((i : Int) < (vs.length : Int)))) E (run_ilss (E.get 0 rfl) (E.get 1 rfl) Tryz.underlying3 rfl) fun a E => ?_
 refine wpList_nil ?_
 refine then_n ?_
 refine wp_seq ?_
 cases hq29 : (decide ((i : Int) < (vs.length : Int))) with
 | false =>
  rw [hq29] at E
  have hiei : i = vs.length := by have := of_decide_eq_false hq29; omega
  refine wp_cond_false (E.get 0 rfl) ?_
  refine wp_exit ?_
  refine then_e ?_
  refine then_e ?_
  refine blk_e ?_
  refine then_n ?_
  refine wp_seq ?_
  have hll : (ls.take i).flatten = ls.flatten := by rw [hiei, ← hlen, List.take_length]
  rw [hll] at E
  refine wp_region_lit ?_
  refine ep (v := .int .i64 (ls.flatten.length : Int)) E (run_move rfl (E.get 5 rfl)) fun a E => ?_
  refine env_callv (d := 24) (R := fun u w8 => oSp w8 w2.heap.size u [] ∧ Fr (fun _ => False) w2 w8) E rfl (by decide) rfl (wanted_none rfl _) (run_call2 (enters_of Tryz.func77 (by kernel_rfl) rfl) rfl rfl rfl (E.get 0 rfl)) ((grow_calls (n := ls.flatten.length) (by omega)).mono fun e w8 h => by obtain ⟨v, rfl, h⟩ := h; exact ⟨_, rfl, h⟩) fun a w1 rv ⟨hO, f1⟩ E => ?_
  have hO := hO.base hf.size
  have hs0 := srcAt.fr hs0 f1 (fun r hr => id)
  have hA := hA.fr f1
  have hf := hf.trans' f1 (fun _ _ h => h.elim)
  clear f1
  refine ep (v := rv) E (run_assign rfl (E.get 0 rfl)) fun a E => ?_
  refine wpList_nil ?_
  refine then_n ?_
  refine wp_seq ?_
  refine wp_seq ?_
  refine wp_region_lit ?_
  refine ep (v := .slice (p0) vs.length cp0) E (run_move rfl (E.get 7 rfl)) fun a E => ?_
  refine ep (v := .int .i64 (vs.length : Int)) E (run_len52 rfl (E.get 0 rfl)) fun a E => ?_
  refine ep (v := .int .i64 0) E (run_move rfl rfl) fun a E => ?_
  refine wpList_nil ?_
  refine then_n ?_
  refine wp_block ?_
  have hBs : w.heap.size ≤ w1.heap.size := hf.size
  refine wp_loop (fun a w2 => ∃ (j : Nat) (dv : Value), Env 36 [(27, .int .i64 (j : Int)), (26, .int .i64 (vs.length : Int)), (25, .slice (p0) vs.length cp0), (6, dv)] a ∧ j ≤ vs.length ∧ oSp w2 w.heap.size dv (ls.take j).flatten ∧ srcAt vaL 1 w2 G0 p0 vs ∧ Fr (fun _ => False) w w2 ∧ w.heap.size ≤ w2.heap.size) (fun a _ => vs.length - (intOf (a.eval (.tmp 27))).toNat) ?_ ?_
  ·exact ⟨0, rv, E.of ⟨E.get 0 rfl, E.get 1 rfl, E.get 2 rfl, E.get 3 rfl, trivial⟩, Nat.zero_le _, hO, hs0, hf, hBs⟩
  clear E
  rintro a w2 ⟨j, dv, E, hi, hO, hs0, hf, hBs⟩
  have hmu : vs.length - (intOf (a.eval (.tmp 27))).toNat = vs.length - j := by rw [E.get 0 rfl]; first | rfl | (simp [intOf]; done) | (simp only [intOf]; omega)
  rw [hmu]
  clear hmu
  refine wp_seq ?_
  refine wp_region_lit ?_
  refine ep (v := .bool (decide ((j : Int) < (vs.length : Int)))) E (run_ilss (E.get 0 rfl) (E.get 1 rfl) Tryz.underlying3 rfl) fun a E => ?_
  refine wpList_nil ?_
  refine then_n ?_
  refine wp_seq ?_
  cases hq31 : (decide ((j : Int) < (vs.length : Int))) with
  | false =>
   rw [hq31] at E
   have hiej : j = vs.length := by have := of_decide_eq_false hq31; omega
   refine wp_cond_false (E.get 0 rfl) ?_
   refine wp_exit ?_
   refine then_e ?_
   refine then_e ?_
   refine blk_e ?_
   refine then_n ?_
   refine wp_seq ?_
   refine wp_region_lit ?_
   refine ep (v := dv) E (run_move rfl (E.get 4 rfl)) fun a E => ?_
   refine ep (v := dv) E (run_assign rfl (E.get 0 rfl)) fun a E => ?_
   refine wpList_nil ?_
   refine then_n ?_
   refine wp_ret ?_
   rw [hiej, ← hlen, List.take_length] at hO
   exact ret_tmp (t := 2) rfl E (E.get 0 rfl) ⟨_, rfl, hO, hf⟩
  | true =>
   rw [hq31] at E
   have hA : AllSp w2 vs ls := hAw.fr hf
   have hlt : j < vs.length := by have := of_decide_eq_true hq31; omega
   obtain ⟨yy, hyy⟩ : ∃ y, vs[j]? = some y := ⟨_, List.getElem?_eq_getElem hlt⟩
   obtain ⟨l9, hl9, p9, c9, hy9, hle9, hcap9, hs9, hz9⟩ := hA _ yy hyy
   subst hy9
   obtain ⟨g32, off32, hpe32, hgl32, hrow32⟩ := hs0.at hlt
   replace hrow32 : w2.cell? ⟨g32, off32 + j, none⟩ = some (.slice p9 l9.length c9) := by have h9 := hrow32 j _ hyy 0 _ rfl; rw [Nat.mul_one, Nat.add_zero] at h9; exact h9
   have hfa := flat_add hl9
   have hfl := flat_le ls (j + 1)
   rw [hfa, List.length_append] at hfl
   have hfl0 := flat_le ls j
   have hs9 := hs9
   refine wp_cond_true (E.get 0 rfl) ?_
   refine wp_skip ?_
   refine then_n ?_
   refine wp_seq ?_
   refine wp_block ?_
   refine wp_seq ?_
   refine wp_region_lit ?_
   refine ep (v := .pointer (some ⟨g32, (off32 + j), none⟩)) E (run_index52 (i := j) rfl ((E.get 3 rfl).trans (by rw [hpe32])) (E.get 1 rfl) hlt) fun a E => ?_
   refine ep (v := .slice (p9) l9.length c9) E (run_ld22 rfl (E.get 0 rfl) hrow32) fun a E => ?_
   refine ep (v := .slice (p9) l9.length c9) E (run_assign rfl (E.get 0 rfl)) fun a E => ?_
   refine wpList_nil ?_
   refine then_n ?_
   refine wp_region_lit ?_
   refine ep (v := dv) E (run_move rfl (E.get 7 rfl)) fun a E => ?_
   refine ep (v := .slice (p9) l9.length c9) E (run_move rfl (E.get 1 rfl)) fun a E => ?_
   refine env_app22 (d := 33) E rfl (by decide) rfl rfl rfl (E.get 1 rfl) hO (E.get 0 rfl) hs9 hz9 (by omega) hBs fun a w1 ov33 hO2 f1 hloc E => ?_
   have hs0 := srcAt.fr hs0 f1 (fun r hr => (fun e => by (try simp only at e); have := (hO.lt e).1; omega))
   have hBs := Nat.le_trans hBs f1.size
   have hrow32 := f1.cell hrow32 (fun e => by (try simp only at e); have := (hO.lt e).1; omega)
   have hf := hf.trans' f1 (fun r hr => (fun e => by (try simp only at e); have := (hO.lt e).1; omega))
   clear f1
   replace hO := hO2
   clear hloc
   refine env_set (d := 6) (v := ov33) E rfl (by decide) (wanted_none rfl _) (run_assign rfl (E.get 0 rfl)) fun a E => ?_
   refine wpList_nil ?_
   refine blk_n ?_
   refine then_n ?_
   refine wp_region_lit ?_
   refine ep (v := .int .i64 ((j : Int) + 1)) E (run_iadd Tryz.underlying3 (E.get 8 rfl) rfl (by omega) (by omega) rfl) fun a E => ?_
   refine env_set (d := 27) (v := .int .i64 ((j : Int) + 1)) E rfl (by decide) (wanted_none rfl _) (run_move rfl (E.get 0 rfl)) fun a E => ?_
   refine wpList_nil ?_
   refine then_n ?_
   refine ⟨⟨j + 1, ov33, E.of ⟨E.get 0 rfl, E.get 10 rfl, E.get 11 rfl, E.get 2 rfl, trivial⟩, hlt, by rw [hfa]; exact hO, hs0, hf, hBs⟩, ?_⟩
   rw [E.get 0 rfl]; simp only [intOf]; omega
 | true =>
  rw [hq29] at E
  have hlt : i < vs.length := by have := of_decide_eq_true hq29; omega
  obtain ⟨yy, hyy⟩ : ∃ y, vs[i]? = some y := ⟨_, List.getElem?_eq_getElem hlt⟩
  obtain ⟨l9, hl9, p9, c9, hy9, hle9, hcap9, hs9, hz9⟩ := hA _ yy hyy
  subst hy9
  obtain ⟨g34, off34, hpe34, hgl34, hrow34⟩ := hs0.at hlt
  replace hrow34 : w2.cell? ⟨g34, off34 + i, none⟩ = some (.slice p9 l9.length c9) := by have h9 := hrow34 i _ hyy 0 _ rfl; rw [Nat.mul_one, Nat.add_zero] at h9; exact h9
  have hfa := flat_add hl9
  have hfl := flat_le ls (i + 1)
  rw [hfa, List.length_append] at hfl
  have hfl0 := flat_le ls i
  refine wp_cond_true (E.get 0 rfl) ?_
  refine wp_skip ?_
  refine then_n ?_
  refine wp_seq ?_
  refine wp_block ?_
  refine wp_seq ?_
  refine wp_region_lit ?_
  refine ep (v := .pointer (some ⟨g34, (off34 + i), none⟩)) E (run_index52 (i := i) rfl ((E.get 3 rfl).trans (by rw [hpe34])) (E.get 1 rfl) hlt) fun a E => ?_
  refine ep (v := .slice (p9) l9.length c9) E (run_ld22 rfl (E.get 0 rfl) hrow34) fun a E => ?_
  refine ep (v := .slice (p9) l9.length c9) E (run_assign rfl (E.get 0 rfl)) fun a E => ?_
  refine wpList_nil ?_
  refine then_n ?_
  refine wp_seq ?_
  refine wp_region_lit ?_
  refine ep (v := .int .i64 ((ls.take i).flatten.length : Int)) E (run_move rfl (E.get 8 rfl)) fun a E => ?_
  refine ep (v := .slice (p9) l9.length c9) E (run_move rfl (E.get 1 rfl)) fun a E => ?_
  refine ep (v := .int .i64 (l9.length : Int)) E (run_len22 rfl (E.get 0 rfl)) fun a E => ?_
  refine ep (v := .int .i64 (((ls.take i).flatten.length : Int) + (l9.length : Int))) E (run_iadd Tryz.underlying3 (E.get 2 rfl) (E.get 0 rfl) (by omega) (by omega) rfl) fun a E => ?_
  refine env_set (d := 3) (v := .int .i64 (((ls.take i).flatten.length : Int) + (l9.length : Int))) E rfl (by decide) (wanted_none rfl _) (run_assign rfl (E.get 0 rfl)) fun a E => ?_
  refine wpList_nil ?_
  refine then_n ?_
  refine wp_seq ?_
  refine wp_region_lit ?_
  refine ep (v := .int .i64 (((ls.take i).flatten.length : Int) + (l9.length : Int))) E (run_move rfl (E.get 0 rfl)) fun a E => ?_
  refine ep (v := .bool (decide ((((ls.take i).flatten.length : Int) + (l9.length : Int)) < 0))) E (run_ilss (E.get 0 rfl) rfl Tryz.underlying3 rfl) fun a E => ?_
  refine wpList_nil ?_
  refine then_n ?_
  cases hq35 : (decide ((((ls.take i).flatten.length : Int) + (l9.length : Int)) < 0)) with
  | false =>
   rw [hq35] at E
   refine wp_cond_false (E.get 0 rfl) ?_
   refine wp_skip ?_
   refine blk_n ?_
   refine then_n ?_
   refine wp_region_lit ?_
   refine ep (v := .int .i64 ((i : Int) + 1)) E (run_iadd Tryz.underlying3 (E.get 11 rfl) rfl (by omega) (by omega) rfl) fun a E => ?_
   refine env_set (d := 11) (v := .int .i64 ((i : Int) + 1)) E rfl (by decide) (wanted_none rfl _) (run_move rfl (E.get 0 rfl)) fun a E => ?_
   refine wpList_nil ?_
   refine then_n ?_
   refine ⟨⟨i + 1, E.of ⟨E.get 0 rfl, E.get 13 rfl, E.get 14 rfl, E.get 15 rfl, (E.get 4 rfl).trans (by rw [hfa, List.length_append]; rfl), trivial⟩, hlt, hs0, hA, hf⟩, ?_⟩
   rw [E.get 0 rfl]; simp only [intOf]; omega
  | true =>
   rw [hq35] at E
   exact absurd (of_decide_eq_true hq35) (by omega)
/-- The gaps between spans, as they are gone through. -/
def g2 : Int → List Sp → List Sp
 | _, [] => []
 | f, s :: r => (if f < s.1 then [(f, s.1)] else []) ++ g2 s.2 r
theorem g2_gaps : ∀ (l : List Sp) (f : Int), g2 f (l ++ [(10080, 0)]) = gaps f l := by
 intro l
 induction l with
 | nil => intro f; simp [g2, gaps]
 | cons s l ih => intro f; simp only [List.cons_append, g2, gaps, ih]
theorem g2_at {L : List Sp} {i : Nat} {y : Sp} (h : L[i]? = some y) (f : Int) : g2 f (L.drop i) = (if f < y.1 then [(f, y.1)] else []) ++ g2 y.2 (L.drop (i + 1)) := by
 have hi := (List.getElem?_eq_some_iff.1 h).1
 rw [List.drop_eq_getElem_cons hi, (List.getElem?_eq_some_iff.1 h).2]; rfl
theorem notQ_len (l : List Sp) : (notQ l).length ≤ l.length + 1 := by
 have : ∀ (l : List Sp) (f : Int), (gaps f l).length ≤ l.length + 1 := by
  intro l
  induction l with
  | nil => intro f; unfold gaps; split <;> simp
  | cons s l ih => intro f; have := ih s.2; simp only [gaps]; split <;> (try simp only [List.length_append, List.length_cons, List.length_nil, List.nil_append]) <;> omega
 unfold notQ notL
 split
 ·exact this l 0
 ·simp
theorem eitherQ_len (a b : List Sp) : (eitherQ a b).length ≤ a.length + b.length := by
 unfold eitherQ
 split
 ·have := canon_len (a ++ b); rw [List.length_append] at this; exact this
 ·simp
theorem bothQ_eq {a b : List Sp} (ha : vl (-1) a = true) (hb : vl (-1) b = true) : notQ (eitherQ (notQ a) (notQ b)) = bothQ a b := by
 have h1 := (notL_un ha).1
 have h2 := (notL_un hb).1
 have h3 := (eitherL_un h1 h2).1
 unfold bothQ bothL eitherQ notQ
 rw [if_pos ha, if_pos hb, h1, h2, ha, hb]
 simp only [Bool.and_self, if_true]
 rw [if_pos h3]
set_option maxRecDepth 100000 in
set_option maxHeartbeats 4000000 in
theorem not_calls {w : World} {v : Value} {l : List Sp} (hl : SpV w v l) (hlen : l.length ≤ 10000) : Calls Tryz.prog 25 #[v] w fun e w' => ∃ u, e = .returned u ∧ oSp w' w.heap.size u (notQ l) ∧ Fr (fun _ => False) w w' := by
 have hlen : l.length ≤ 20000 := by omega
 obtain ⟨p0, cp0, hvp0, hlep0, hcapp0, hsp0, hzp0⟩ := hl
 subst hvp0
 refine wp_start1 Tryz.func25 rfl rfl (n := 35) (by decide) fun a E => ?_
 have hf : Fr (fun _ => False) w w := Fr.refl _ _
 refine wp_seq ?_
 refine wp_region_lit ?_
 refine ep (v := .slice none 0 0) E (run_assign rfl rfl) fun a E => ?_
 refine wpList_nil ?_
 refine then_n ?_
 refine wp_seq ?_
 refine wp_seq ?_
 refine wp_region_lit ?_
 refine ep (v := .slice (p0) l.length cp0) E (run_move rfl (E.get 1 rfl)) fun a E => ?_
 refine env_call (d := 8) (v := .bool (vl (-1) l)) E rfl (by decide) rfl (wanted_none rfl _) (run_call1 (enters_of Tryz.func18 (by kernel_rfl) rfl) rfl rfl (E.get 0 rfl)) (valid_calls ⟨_, _, rfl, hlep0, hcapp0, hsp0.mono (by first | exact hf.size | omega), hzp0⟩) fun a w1 f1 E => ?_
 have hsp0 := srcAt.fr hsp0 f1 (fun r hr => id)
 have hf := hf.trans' f1 (fun _ _ h => h.elim)
 clear f1
 refine ep (v := .bool (!(vl (-1) l))) E (run_not rfl (E.get 0 rfl)) fun a E => ?_
 refine wpList_nil ?_
 refine then_n ?_
 cases hq36 : (vl (-1) l) with
 | false =>
  rw [hq36] at E
  refine wp_cond_true (E.get 0 rfl) ?_
  refine wp_seq ?_
  refine wp_region_lit ?_
  refine env_set (d := 2) (v := .slice none 0 0) E rfl (by decide) (wanted_none rfl _) (run_assign rfl rfl) fun a E => ?_
  refine wpList_nil ?_
  refine then_n ?_
  refine wp_ret ?_
  refine then_r ?_
  have e9 : notQ l = [] := by unfold notQ; rw [hq36]; rfl
  rw [e9]
  exact ret_tmp (t := 2) rfl E (E.get 0 rfl) ⟨_, rfl, ow_nil _, hf⟩
 | true =>
  rw [hq36] at E
  refine wp_cond_false (E.get 0 rfl) ?_
  refine wp_skip ?_
  refine then_n ?_
  refine wp_seq ?_
  refine wp_region_lit ?_
  refine ep (v := .slice none 0 0) E (run_assign rfl rfl) fun a E => ?_
  refine wpList_nil ?_
  refine then_n ?_
  refine wp_seq ?_
  refine wp_region_lit ?_
  refine ep (v := .int .i64 0) E (run_assign rfl rfl) fun a E => ?_
  refine wpList_nil ?_
  refine then_n ?_
  refine wp_seq ?_
  refine wp_seq ?_
  refine wp_region_lit ?_
  refine ep (v := .slice (p0) l.length cp0) E (run_move rfl (E.get 6 rfl)) fun a E => ?_
  refine env_callv (d := 11) (R := fun u w8 => oSp w8 w1.heap.size u l ∧ Fr (fun _ => False) w1 w8) E rfl (by decide) rfl (wanted_none rfl _) (run_call1 (enters_of Tryz.func53 (by kernel_rfl) rfl) rfl rfl (E.get 0 rfl)) ((clone_calls ⟨_, _, rfl, hlep0, hcapp0, hsp0.mono (by first | exact hf.size | omega), hzp0⟩ hlen).mono fun e w8 h => by obtain ⟨v, rfl, h⟩ := h; exact ⟨_, rfl, h⟩) fun a w1 rv ⟨hO, f1⟩ E => ?_
  have hO := hO.base hf.size
  have hBs : w.heap.size ≤ w1.heap.size := Nat.le_trans hf.size f1.size
  have hsp0 := srcAt.fr hsp0 f1 (fun r hr => id)
  have hf := hf.trans' f1 (fun _ _ h => h.elim)
  clear f1
  refine ep (v := .agg (spA (10080, 0))) E (run_of48_0 rfl rfl) fun a E => ?_
  refine env_one22 (d := 13) E rfl (by decide) rfl (wanted_none rfl _) rfl (E.get 0 rfl) fun a w1 b37 eb37 hbb37 f1 E => ?_
  have hO := ow.fr hO f1 (fun _ _ => id)
  have hBs := Nat.le_trans hBs f1.size
  have hf := hf.trans' f1 (fun _ _ h => h.elim)
  clear f1
  have hsb37 := src_one (f := spL) (c := 2) (G := w1.heap.size) hbb37 (lt_of_blk hbb37)
  clear hbb37 eb37
  refine env_app22 (d := 14) E rfl (by decide) rfl rfl rfl (E.get 2 rfl) hO (E.get 0 rfl) hsb37 (fun h => by cases h) (by simp only [List.length_cons, List.length_nil]; omega) hBs fun a w1 ov38 hO2 f1 hloc E => ?_
  have hBs := Nat.le_trans hBs f1.size
  have hf := hf.trans' f1 (fun r hr => (fun e => by (try simp only at e); have := (hO.lt e).1; omega))
  clear f1
  replace hO := hO2
  clear hloc
  obtain ⟨p1, cp1, hrv, hle1, hcap1, hs1, hz1⟩ := ow.src spL_len hO
  subst hrv
  obtain ⟨LL, hLL⟩ : ∃ LL, LL = (l ++ [(10080, 0)]) := ⟨_, rfl⟩
  rw [← hLL] at hs1 E
  refine ep (v := .int .i64 (LL.length : Int)) E (run_len22 rfl (E.get 0 rfl)) fun a E => ?_
  refine ep (v := .int .i64 0) E (run_move rfl rfl) fun a E => ?_
  refine wpList_nil ?_
  refine then_n ?_
  refine wp_block ?_
  obtain ⟨B, hB⟩ : ∃ B, B = w1.heap.size := ⟨_, rfl⟩
  have hBs : B ≤ w1.heap.size := by omega
  have hwB : w.heap.size ≤ B := by have := hf.size; omega
  rw [← hB] at hs1
  have hLl : LL.length = l.length + 1 := by rw [hLL]; simp
  clear hO
  refine wp_loop (fun a w2 => ∃ (i : Nat) (fr : Int) (out : List Sp) (dv : Value), Env 35 [(16, .int .i64 (i : Int)), (15, .int .i64 (LL.length : Int)), (14, .slice (p1) LL.length cp1), (3, dv), (4, .int .i64 fr)] a ∧ i ≤ LL.length ∧ oSp w2 B dv out ∧ g2 0 LL = out ++ g2 fr (LL.drop i) ∧ out.length ≤ i ∧ srcAt spL 2 w2 B p1 LL ∧ Fr (fun _ => False) w w2 ∧ B ≤ w2.heap.size) (fun a _ => LL.length - (intOf (a.eval (.tmp 16))).toNat) ?_ ?_
  ·exact ⟨0, 0, [], .slice none 0 0, E.of ⟨E.get 0 rfl, E.get 1 rfl, E.get 2 rfl, E.get 8 rfl, E.get 7 rfl, trivial⟩, Nat.zero_le _, ow_nil _, rfl, Nat.le_refl _, hs1, hf, hBs⟩
  clear E
  rintro a w2 ⟨i, fr, out, dv, E, hi, hO, hg, hol, hs1, hf, hBs⟩
  have hmu : LL.length - (intOf (a.eval (.tmp 16))).toNat = LL.length - i := by rw [E.get 0 rfl]; first | rfl | (simp [intOf]; done) | (simp only [intOf]; omega)
  rw [hmu]
  clear hmu
  refine wp_seq ?_
  refine wp_region_lit ?_
  refine ep (v := .bool (decide ((i : Int) < (LL.length : Int)))) E (run_ilss (E.get 0 rfl) (E.get 1 rfl) Tryz.underlying3 rfl) fun a E => ?_
  refine wpList_nil ?_
  refine then_n ?_
  refine wp_seq ?_
  cases hq40 : (decide ((i : Int) < (LL.length : Int))) with
  | false =>
   rw [hq40] at E
   have hie : i = LL.length := by have := of_decide_eq_false hq40; omega
   refine wp_cond_false (E.get 0 rfl) ?_
   refine wp_exit ?_
   refine then_e ?_
   refine then_e ?_
   refine blk_e ?_
   refine then_n ?_
   refine wp_seq ?_
   refine wp_region_lit ?_
   refine ep (v := dv) E (run_move rfl (E.get 4 rfl)) fun a E => ?_
   refine ep (v := dv) E (run_assign rfl (E.get 0 rfl)) fun a E => ?_
   refine wpList_nil ?_
   refine then_n ?_
   refine wp_ret ?_
   have e9 : out = notQ l := by
    rw [hie, List.drop_length] at hg
    simp only [g2, List.append_nil] at hg
    rw [← hg, hLL, g2_gaps]
    unfold notQ notL; rw [if_pos hq36]
   rw [e9] at hO
   exact ret_tmp (t := 2) rfl E (E.get 0 rfl) ⟨_, rfl, hO.base hwB, hf⟩
  | true =>
   rw [hq40] at E
   have hlt : i < LL.length := by have := of_decide_eq_true hq40; omega
   obtain ⟨y, hy⟩ : ∃ y, LL[i]? = some y := ⟨_, List.getElem?_eq_getElem hlt⟩
   obtain ⟨g41, off41, hpe41, hgl41, hrow41⟩ := hs1.at hlt
   replace hrow41 := hrow41 i y hy
   refine wp_cond_true (E.get 0 rfl) ?_
   refine wp_skip ?_
   refine then_n ?_
   refine wp_seq ?_
   refine wp_block ?_
   refine wp_seq ?_
   refine wp_region_lit ?_
   refine ep (v := .pointer (some ⟨g41, (off41 + i * 2), none⟩)) E (run_index22 (i := i) rfl ((E.get 3 rfl).trans (by rw [hpe41])) (E.get 1 rfl) hlt) fun a E => ?_
   refine ep (v := .agg (spA y)) E (run_ld48 rfl (E.get 0 rfl) hrow41) fun a E => ?_
   refine env_new (d := 6) E rfl (by decide) rfl (wanted_none rfl _) (run_alloc48 rfl) fun a w1 b42 eb42 hb42 f1 E => ?_
   have hnb42 : w.heap.size ≤ b42 := by have := hf.size; omega
   have hBb42 : B ≤ b42 := by omega
   have hdb42 : ∀ k, ((dv) : Value).ownBlock = some k → k ≠ b42 := fun k hk => by have := (hO.lt hk).2; omega
   have hs1 := srcAt.fr hs1 f1 (fun r hr => id)
   have hO := ow.fr hO f1 (fun _ _ => id)
   have hBs := Nat.le_trans hBs f1.size
   have hrow41 := fun j u hu => f1.cell (hrow41 j u hu) id
   have hf := hf.trans' f1 (fun _ _ h => h.elim)
   clear f1
   refine env_st48 E rfl (wanted_none rfl _) rfl (E.get 0 rfl) (E.get 1 rfl) hb42 fun w1 hb42n f1 E => ?_
   have hs1 := srcAt.fr hs1 f1 (fun r hr => (fun e => by (try simp only at e); omega))
   have hO := ow.fr hO f1 (fun k hk e => by have := (hO.lt hk).1; have := hdb42 k hk; (try simp only at e); omega)
   have hBs := Nat.le_trans hBs f1.size
   have hrow41 := fun j u hu => f1.cell (hrow41 j u hu) (fun e => by (try simp only at e); omega)
   have hf := hf.trans' f1 (fun r hr => (fun e => by (try simp only at e); omega))
   clear f1
   replace hb42 := hb42n
   refine wpList_nil ?_
   refine then_n ?_
   refine wp_seq ?_
   refine wp_seq ?_
   refine wp_region_lit ?_
   refine ep (v := .int .i64 fr) E (run_move rfl (E.get 8 rfl)) fun a E => ?_
   refine ep (v := .pointer (some ⟨b42, 0, none⟩)) E (fa48_0 rfl (E.get 1 rfl)) fun a E => ?_
   refine ep (v := .int .i64 y.1) E (run_ldi rfl (E.get 0 rfl) (bx hb42 0 rfl)) fun a E => ?_
   refine ep (v := .bool (decide (fr < y.1))) E (run_ilss (E.get 2 rfl) (E.get 0 rfl) Tryz.underlying3 rfl) fun a E => ?_
   refine wpList_nil ?_
   refine then_n ?_
   cases hq43 : (decide (fr < y.1)) with
   | false =>
    rw [hq43] at E
    refine wp_cond_false (E.get 0 rfl) ?_
    refine wp_skip ?_
    refine then_n ?_
    refine wp_region_lit ?_
    refine ep (v := .pointer (some ⟨b42, 1, none⟩)) E (fa48_1 rfl (E.get 4 rfl)) fun a E => ?_
    refine ep (v := .int .i64 y.2) E (run_ldi rfl (E.get 0 rfl) (bx hb42 1 rfl)) fun a E => ?_
    refine env_set (d := 4) (v := .int .i64 y.2) E rfl (by decide) (wanted_none rfl _) (run_assign rfl (E.get 0 rfl)) fun a E => ?_
    refine wpList_nil ?_
    refine blk_n ?_
    refine then_n ?_
    refine wp_region_lit ?_
    refine ep (v := .int .i64 ((i : Int) + 1)) E (run_iadd Tryz.underlying3 (E.get 11 rfl) rfl (by omega) (by omega) rfl) fun a E => ?_
    refine env_set (d := 16) (v := .int .i64 ((i : Int) + 1)) E rfl (by decide) (wanted_none rfl _) (run_move rfl (E.get 0 rfl)) fun a E => ?_
    refine wpList_nil ?_
    refine then_n ?_
    refine ⟨⟨i + 1, y.2, out, dv, E.of ⟨E.get 0 rfl, E.get 13 rfl, E.get 14 rfl, E.get 15 rfl, E.get 2 rfl, trivial⟩, hlt, hO, ?_, by (try simp only [List.length_append, List.length_cons, List.length_nil]); omega, hs1, hf, hBs⟩, ?_⟩
    ·rw [hg, g2_at hy, if_neg (of_decide_eq_false hq43)]; simp
    ·rw [E.get 0 rfl]; simp only [intOf]; omega
   | true =>
    rw [hq43] at E
    refine wp_cond_true (E.get 0 rfl) ?_
    refine wp_region_lit ?_
    refine ep (v := dv) E (run_move rfl (E.get 11 rfl)) fun a E => ?_
    refine ep (v := .int .i64 fr) E (run_move rfl (E.get 13 rfl)) fun a E => ?_
    refine ep (v := .pointer (some ⟨b42, 0, none⟩)) E (fa48_0 rfl (E.get 6 rfl)) fun a E => ?_
    refine ep (v := .int .i64 y.1) E (run_ldi rfl (E.get 0 rfl) (bx hb42 0 rfl)) fun a E => ?_
    refine ep (v := .agg (spA (fr, y.1))) E (run_of48 rfl (E.get 2 rfl) (E.get 0 rfl)) fun a E => ?_
    refine env_one22 (d := 29) E rfl (by decide) rfl (wanted_none rfl _) rfl (E.get 0 rfl) fun a w1 b44 eb44 hbb44 f1 E => ?_
    have hs1 := srcAt.fr hs1 f1 (fun r hr => id)
    have hO := ow.fr hO f1 (fun _ _ => id)
    have hBs := Nat.le_trans hBs f1.size
    have hrow41 := fun j u hu => f1.cell (hrow41 j u hu) id
    have hb42 := f1.obj hb42 id
    have hf := hf.trans' f1 (fun _ _ h => h.elim)
    clear f1
    have hsb44 := src_one (f := spL) (c := 2) (G := w1.heap.size) hbb44 (lt_of_blk hbb44)
    clear hbb44 eb44
    refine env_app22 (d := 30) E rfl (by decide) rfl rfl rfl (E.get 5 rfl) hO (E.get 0 rfl) hsb44 (fun h => by cases h) (by simp only [List.length_cons, List.length_nil]; omega) hBs fun a w1 ov45 hO2 f1 hloc E => ?_
    have hdb42n : ∀ k, ((ov45) : Value).ownBlock = some k → k ≠ b42 := fun k hk => by
     rcases hloc with h9 | h9
     ·exact hdb42 k (by rw [← h9]; exact hk)
     ·rw [h9] at hk; cases hk; have := lt_of_blk hb42; omega
    have hs1 := srcAt.fr hs1 f1 (fun r hr => (fun e => by (try simp only at e); have := (hO.lt e).1; (try have := hdb42 _ e); omega))
    have hBs := Nat.le_trans hBs f1.size
    have hrow41 := fun j u hu => f1.cell (hrow41 j u hu) (fun e => by (try simp only at e); have := (hO.lt e).1; (try have := hdb42 _ e); omega)
    have hb42 := f1.obj hb42 (fun e => by (try simp only at e); have := (hO.lt e).1; (try have := hdb42 _ e); omega)
    have hf := hf.trans' f1 (fun r hr => (fun e => by (try simp only at e); have := (hO.lt e).1; (try have := hdb42 _ e); omega))
    clear f1
    replace hO := hO2
    clear hloc
    replace hdb42 := hdb42n
    refine env_set (d := 3) (v := ov45) E rfl (by decide) (wanted_none rfl _) (run_assign rfl (E.get 0 rfl)) fun a E => ?_
    refine wpList_nil ?_
    refine then_n ?_
    refine wp_region_lit ?_
    refine ep (v := .pointer (some ⟨b42, 1, none⟩)) E (fa48_1 rfl (E.get 12 rfl)) fun a E => ?_
    refine ep (v := .int .i64 y.2) E (run_ldi rfl (E.get 0 rfl) (bx hb42 1 rfl)) fun a E => ?_
    refine env_set (d := 4) (v := .int .i64 y.2) E rfl (by decide) (wanted_none rfl _) (run_assign rfl (E.get 0 rfl)) fun a E => ?_
    refine wpList_nil ?_
    refine blk_n ?_
    refine then_n ?_
    refine wp_region_lit ?_
    refine ep (v := .int .i64 ((i : Int) + 1)) E (run_iadd Tryz.underlying3 (E.get 19 rfl) rfl (by omega) (by omega) rfl) fun a E => ?_
    refine env_set (d := 16) (v := .int .i64 ((i : Int) + 1)) E rfl (by decide) (wanted_none rfl _) (run_move rfl (E.get 0 rfl)) fun a E => ?_
    refine wpList_nil ?_
    refine then_n ?_
    refine ⟨⟨i + 1, y.2, (out ++ [(fr, y.1)]), ov45, E.of ⟨E.get 0 rfl, E.get 21 rfl, E.get 22 rfl, E.get 5 rfl, E.get 2 rfl, trivial⟩, hlt, hO, ?_, by (try simp only [List.length_append, List.length_cons, List.length_nil]); omega, hs1, hf, hBs⟩, ?_⟩
    ·rw [hg, g2_at hy, if_pos (of_decide_eq_true hq43)]; simp
    ·rw [E.get 0 rfl]; simp only [intOf]; omega
theorem run_two52 {o : Oper} {w : World} {ρ : Operand → Value} {x y : Operand} {p q : Option Addr} {n c m d : Nat} (ho : o.op = .buildSlice 52 2 #[(0, x), (1, y)]) (hx : ρ x = .slice p n c) (hy : ρ y = .slice q m d) : (execOp ρ o).run Tryz.prog w = .ok (.value (.slice (some ⟨w.heap.size, 0, none⟩) 2 2)) (w.alloc (.cells #[.slice p n c, .slice q m d] 22)) := by
 simp [execOp, ho, hx, hy, go_sem]
theorem env_two52 {O : Array Oper} {Q : Exit → Act → World → Prop} {rest : List Oper} {o : Oper} {a : Act} {w : World} {k d : Nat} {L : List (Nat × Value)} {ds : List Deferred} {x y : Operand} {p q : Option Addr} {n c m d2 : Nat} (En : EnvD ds k L a) (hd : o.dst = some d) (hn : d < k) (hf : (L.map (·.1)).contains d = false) (hw : Region.wanted o (yielded O a.tmps) = true) (ho : o.op = .buildSlice 52 2 #[(0, x), (1, y)]) (hx : a.eval x = .slice p n c) (hy : a.eval y = .slice q m d2)
  (kk : ∀ a' w' b, srcAt vaL 1 w' w'.heap.size (some ⟨b, 0, none⟩) [.slice p n c, .slice q m d2] → Fr (fun _ => False) w w' → EnvD ds k ((d, .slice (some ⟨b, 0, none⟩) 2 2) :: L) a' → wpList Tryz.prog O Q rest a' w') : wpList Tryz.prog O Q (o :: rest) a w := by
 refine env_put En hd hn hf hw (run_two52 ho hx hy) fun a' E' => kk a' _ w.heap.size (.inr ⟨_, 0, rfl, by simp, fun i z hz j u hu => ?_⟩) ((Fr.refl _ _).alloc _) E'
 have hb : (w.alloc (.cells #[.slice p n c, .slice q m d2] 22)).heap[w.heap.size]? = some (.cells #[.slice p n c, .slice q m d2] 22 (0, 0)) := blk_alloc_new _ _
 rw [cell_of_blk hb]
 match i, hz, j, hu with
 | 0, hz, 0, hu => simp at hz; subst hz; simp [vaL] at hu; subst hu; rfl
 | 1, hz, 0, hu => simp at hz; subst hz; simp [vaL] at hu; subst hu; rfl
 | i + 2, hz, _, _ => simp at hz
 | 0, hz, j + 1, hu => simp [vaL] at hu
 | 1, hz, j + 1, hu => simp [vaL] at hu
set_option maxRecDepth 100000 in
set_option maxHeartbeats 4000000 in
theorem either_calls {w : World} {v u : Value} {la lb : List Sp} (hl : SpV w v la) (hl2 : SpV w u lb) (hlen : la.length ≤ 5000) (hlen2 : lb.length ≤ 5000) : Calls Tryz.prog 24 #[v, u] w fun e w' => ∃ u, e = .returned u ∧ oSp w' w.heap.size u (eitherQ la lb) ∧ Fr (fun _ => False) w w' := by
 obtain ⟨p0, cp0, hvp0, hlep0, hcapp0, hsp0, hzp0⟩ := hl
 subst hvp0
 obtain ⟨p1, cp1, hvp1, hlep1, hcapp1, hsp1, hzp1⟩ := hl2
 subst hvp1
 refine wp_start2 Tryz.func24 rfl rfl (n := 18) (by decide) fun a E => ?_
 have hf : Fr (fun _ => False) w w := Fr.refl _ _
 refine wp_seq ?_
 refine wp_region_lit ?_
 refine ep (v := .slice none 0 0) E (run_assign rfl rfl) fun a E => ?_
 refine wpList_nil ?_
 refine then_n ?_
 refine wp_seq ?_
 refine wp_seq ?_
 refine wp_region_lit ?_
 refine ep (v := .slice (p0) la.length cp0) E (run_move rfl (E.get 1 rfl)) fun a E => ?_
 refine env_call (d := 6) (v := .bool (vl (-1) la)) E rfl (by decide) rfl (wanted_none rfl _) (run_call1 (enters_of Tryz.func18 (by kernel_rfl) rfl) rfl rfl (E.get 0 rfl)) (valid_calls ⟨_, _, rfl, hlep0, hcapp0, hsp0.mono (by first | exact hf.size | omega), hzp0⟩) fun a w1 f1 E => ?_
 have hsp0 := srcAt.fr hsp0 f1 (fun r hr => id)
 have hsp1 := srcAt.fr hsp1 f1 (fun r hr => id)
 have hf := hf.trans' f1 (fun _ _ h => h.elim)
 clear f1
 refine ep (v := .bool (!(vl (-1) la))) E (run_not rfl (E.get 0 rfl)) fun a E => ?_
 refine ep (v := .bool (!(vl (-1) la))) E (run_move rfl (E.get 0 rfl)) fun a E => ?_
 cases hq46 : (vl (-1) la) with
 | false =>
  rw [hq46] at E
  refine ek E rfl (E.get 0 rfl) fun a E => ?_
  refine ek E rfl (E.get 1 rfl) fun a E => ?_
  refine ek E rfl (E.get 2 rfl) fun a E => ?_
  refine ep (v := .bool true) E (run_pick_t rfl (E.get 3 rfl) rfl) fun a E => ?_
  refine wpList_nil ?_
  refine then_n ?_
  refine wp_cond_true (E.get 0 rfl) ?_
  refine wp_seq ?_
  refine wp_region_lit ?_
  refine env_set (d := 4) (v := .slice none 0 0) E rfl (by decide) (wanted_none rfl _) (run_assign rfl rfl) fun a E => ?_
  refine wpList_nil ?_
  refine then_n ?_
  refine wp_ret ?_
  refine then_r ?_
  have e9 : eitherQ la lb = [] := by unfold eitherQ; rw [hq46]; rfl
  rw [e9]
  exact ret_tmp (t := 4) rfl E (E.get 0 rfl) ⟨_, rfl, ow_nil _, hf⟩
 | true =>
  rw [hq46] at E
  refine eg (v := .slice (p1) lb.length cp1) E (w_yes (g := 3) (s := 8) E rfl rfl (by decide) (E.get 0 rfl)) (run_move rfl (E.get 6 rfl)) fun a E => ?_
  refine env_call (d := 10) (v := .bool (vl (-1) lb)) E rfl (by decide) rfl (w_yes (g := 3) (s := 8) E rfl rfl (by decide) (E.get 1 rfl)) (run_call1 (enters_of Tryz.func18 (by kernel_rfl) rfl) rfl rfl (E.get 0 rfl)) (valid_calls ⟨_, _, rfl, hlep1, hcapp1, hsp1.mono (by first | exact hf.size | omega), hzp1⟩) fun a w1 f1 E => ?_
  have hsp0 := srcAt.fr hsp0 f1 (fun r hr => id)
  have hsp1 := srcAt.fr hsp1 f1 (fun r hr => id)
  have hf := hf.trans' f1 (fun _ _ h => h.elim)
  clear f1
  refine eg (v := .bool (!(vl (-1) lb))) E (w_yes (g := 3) (s := 8) E rfl rfl (by decide) (E.get 2 rfl)) (run_not rfl (E.get 0 rfl)) fun a E => ?_
  refine ep (v := .bool (!(vl (-1) lb))) E (run_pick_f rfl (E.get 3 rfl) (E.get 0 rfl)) fun a E => ?_
  refine wpList_nil ?_
  refine then_n ?_
  cases hq47 : (vl (-1) lb) with
  | false =>
   rw [hq47] at E
   refine wp_cond_true (E.get 0 rfl) ?_
   refine wp_seq ?_
   refine wp_region_lit ?_
   refine env_set (d := 4) (v := .slice none 0 0) E rfl (by decide) (wanted_none rfl _) (run_assign rfl rfl) fun a E => ?_
   refine wpList_nil ?_
   refine then_n ?_
   refine wp_ret ?_
   refine then_r ?_
   have e9 : eitherQ la lb = [] := by unfold eitherQ; rw [hq46, hq47]; rfl
   rw [e9]
   exact ret_tmp (t := 4) rfl E (E.get 0 rfl) ⟨_, rfl, ow_nil _, hf⟩
  | true =>
   rw [hq47] at E
   refine wp_cond_false (E.get 0 rfl) ?_
   refine wp_skip ?_
   refine then_n ?_
   refine wp_seq ?_
   refine wp_region_lit ?_
   refine ep (v := .slice (p0) la.length cp0) E (run_move rfl (E.get 9 rfl)) fun a E => ?_
   refine ep (v := .slice (p1) lb.length cp1) E (run_move rfl (E.get 11 rfl)) fun a E => ?_
   refine env_two52 (d := 15) E rfl (by decide) rfl (wanted_none rfl _) rfl (E.get 1 rfl) (E.get 0 rfl) fun a w1 bt hst f1 E => ?_
   have hsp0 := srcAt.fr hsp0 f1 (fun r hr => id)
   have hsp1 := srcAt.fr hsp1 f1 (fun r hr => id)
   have hf := hf.trans' f1 (fun _ _ h => h.elim)
   clear f1
   refine env_callv (d := 16) (R := fun u w8 => oSp w8 w1.heap.size u [la, lb].flatten ∧ Fr (fun _ => False) w1 w8) E rfl (by decide) rfl (wanted_none rfl _) (run_call1 (enters_of Tryz.func52 (by kernel_rfl) rfl) rfl rfl (E.get 0 rfl)) ((concat_calls (vs := [.slice (p0) la.length cp0, .slice (p1) lb.length cp1]) (ls := [la, lb]) (cp0 := 2) hst (Nat.le_refl _) rfl (fun i y hy => by match i, hy with | 0, hy => (simp at hy; subst hy; exact ⟨la, rfl, ⟨_, _, rfl, hlep0, hcapp0, hsp0.mono (by first | exact hf.size | omega), hzp0⟩⟩) | 1, hy => (simp at hy; subst hy; exact ⟨lb, rfl, ⟨_, _, rfl, hlep1, hcapp1, hsp1.mono (by first | exact hf.size | omega), hzp1⟩⟩) | i + 2, hy => simp at hy) (by simp; omega) (by simp)).mono fun e w8 h => by obtain ⟨v, rfl, h⟩ := h; exact ⟨_, rfl, h⟩) fun a w1 rv ⟨hO, f1⟩ E => ?_
   have hfl : [la, lb].flatten = la ++ lb := by simp
   rw [hfl] at hO
   have hsp0 := srcAt.fr hsp0 f1 (fun r hr => id)
   have hsp1 := srcAt.fr hsp1 f1 (fun r hr => id)
   have hst := srcAt.fr hst f1 (fun _ _ h => h)
   have hf := hf.trans' f1 (fun _ _ h => h.elim)
   clear f1
   refine env_callv (d := 17) (R := fun u w8 => oSp w8 w1.heap.size u (canon (la ++ lb)) ∧ Fr (fun _ => False) w1 w8) E rfl (by decide) rfl (wanted_none rfl _) (run_call1 (enters_of Tryz.func34 (by kernel_rfl) rfl) rfl rfl (E.get 0 rfl)) ((united_calls (ow.src spL_len hO) (wk_app (vl_wk (Int.le_refl _) hq46) (vl_wk (Int.le_refl _) hq47)) (by simp; omega)).mono fun e w8 h => by obtain ⟨v, rfl, h⟩ := h; exact ⟨_, rfl, h⟩) fun a w2 rv2 ⟨hO2, f1⟩ E => ?_
   have hO2 := hO2.base hf.size
   have hsp0 := srcAt.fr hsp0 f1 (fun r hr => id)
   have hsp1 := srcAt.fr hsp1 f1 (fun r hr => id)
   have hst := srcAt.fr hst f1 (fun _ _ h => h)
   have hf := hf.trans' f1 (fun _ _ h => h.elim)
   clear f1
   refine env_set (d := 4) (v := rv2) E rfl (by decide) (wanted_none rfl _) (run_assign rfl (E.get 0 rfl)) fun a E => ?_
   refine wpList_nil ?_
   refine then_n ?_
   refine wp_ret ?_
   have e9 : eitherQ la lb = canon (la ++ lb) := by unfold eitherQ eitherL; rw [hq46, hq47]; rfl
   rw [e9]
   exact ret_tmp (t := 4) rfl E (E.get 0 rfl) ⟨_, rfl, hO2, hf⟩
set_option maxRecDepth 100000 in
set_option maxHeartbeats 4000000 in
theorem both_calls {w : World} {v u : Value} {la lb : List Sp} (hl : SpV w v la) (hl2 : SpV w u lb) (hlen : la.length ≤ 2000) (hlen2 : lb.length ≤ 2000) : Calls Tryz.prog 26 #[v, u] w fun e w' => ∃ u, e = .returned u ∧ oSp w' w.heap.size u (bothQ la lb) ∧ Fr (fun _ => False) w w' := by
 obtain ⟨p0, cp0, hvp0, hlep0, hcapp0, hsp0, hzp0⟩ := hl
 subst hvp0
 obtain ⟨p1, cp1, hvp1, hlep1, hcapp1, hsp1, hzp1⟩ := hl2
 subst hvp1
 refine wp_start2 Tryz.func26 rfl rfl (n := 19) (by decide) fun a E => ?_
 have hf : Fr (fun _ => False) w w := Fr.refl _ _
 refine wp_seq ?_
 refine wp_region_lit ?_
 refine ep (v := .slice none 0 0) E (run_assign rfl rfl) fun a E => ?_
 refine wpList_nil ?_
 refine then_n ?_
 refine wp_seq ?_
 refine wp_seq ?_
 refine wp_region_lit ?_
 refine ep (v := .slice (p0) la.length cp0) E (run_move rfl (E.get 1 rfl)) fun a E => ?_
 refine env_call (d := 6) (v := .bool (vl (-1) la)) E rfl (by decide) rfl (wanted_none rfl _) (run_call1 (enters_of Tryz.func18 (by kernel_rfl) rfl) rfl rfl (E.get 0 rfl)) (valid_calls ⟨_, _, rfl, hlep0, hcapp0, hsp0.mono (by first | exact hf.size | omega), hzp0⟩) fun a w1 f1 E => ?_
 have hsp0 := srcAt.fr hsp0 f1 (fun r hr => id)
 have hsp1 := srcAt.fr hsp1 f1 (fun r hr => id)
 have hf := hf.trans' f1 (fun _ _ h => h.elim)
 clear f1
 refine ep (v := .bool (!(vl (-1) la))) E (run_not rfl (E.get 0 rfl)) fun a E => ?_
 refine ep (v := .bool (!(vl (-1) la))) E (run_move rfl (E.get 0 rfl)) fun a E => ?_
 cases hq48 : (vl (-1) la) with
 | false =>
  rw [hq48] at E
  refine ek E rfl (E.get 0 rfl) fun a E => ?_
  refine ek E rfl (E.get 1 rfl) fun a E => ?_
  refine ek E rfl (E.get 2 rfl) fun a E => ?_
  refine ep (v := .bool true) E (run_pick_t rfl (E.get 3 rfl) rfl) fun a E => ?_
  refine wpList_nil ?_
  refine then_n ?_
  refine wp_cond_true (E.get 0 rfl) ?_
  refine wp_seq ?_
  refine wp_region_lit ?_
  refine env_set (d := 4) (v := .slice none 0 0) E rfl (by decide) (wanted_none rfl _) (run_assign rfl rfl) fun a E => ?_
  refine wpList_nil ?_
  refine then_n ?_
  refine wp_ret ?_
  refine then_r ?_
  have e9 : bothQ la lb = [] := by unfold bothQ; rw [hq48]; rfl
  rw [e9]
  exact ret_tmp (t := 4) rfl E (E.get 0 rfl) ⟨_, rfl, ow_nil _, hf⟩
 | true =>
  rw [hq48] at E
  refine eg (v := .slice (p1) lb.length cp1) E (w_yes (g := 3) (s := 8) E rfl rfl (by decide) (E.get 0 rfl)) (run_move rfl (E.get 6 rfl)) fun a E => ?_
  refine env_call (d := 10) (v := .bool (vl (-1) lb)) E rfl (by decide) rfl (w_yes (g := 3) (s := 8) E rfl rfl (by decide) (E.get 1 rfl)) (run_call1 (enters_of Tryz.func18 (by kernel_rfl) rfl) rfl rfl (E.get 0 rfl)) (valid_calls ⟨_, _, rfl, hlep1, hcapp1, hsp1.mono (by first | exact hf.size | omega), hzp1⟩) fun a w1 f1 E => ?_
  have hsp0 := srcAt.fr hsp0 f1 (fun r hr => id)
  have hsp1 := srcAt.fr hsp1 f1 (fun r hr => id)
  have hf := hf.trans' f1 (fun _ _ h => h.elim)
  clear f1
  refine eg (v := .bool (!(vl (-1) lb))) E (w_yes (g := 3) (s := 8) E rfl rfl (by decide) (E.get 2 rfl)) (run_not rfl (E.get 0 rfl)) fun a E => ?_
  refine ep (v := .bool (!(vl (-1) lb))) E (run_pick_f rfl (E.get 3 rfl) (E.get 0 rfl)) fun a E => ?_
  refine wpList_nil ?_
  refine then_n ?_
  cases hq49 : (vl (-1) lb) with
  | false =>
   rw [hq49] at E
   refine wp_cond_true (E.get 0 rfl) ?_
   refine wp_seq ?_
   refine wp_region_lit ?_
   refine env_set (d := 4) (v := .slice none 0 0) E rfl (by decide) (wanted_none rfl _) (run_assign rfl rfl) fun a E => ?_
   refine wpList_nil ?_
   refine then_n ?_
   refine wp_ret ?_
   refine then_r ?_
   have e9 : bothQ la lb = [] := by unfold bothQ; rw [hq48, hq49]; rfl
   rw [e9]
   exact ret_tmp (t := 4) rfl E (E.get 0 rfl) ⟨_, rfl, ow_nil _, hf⟩
  | true =>
   rw [hq49] at E
   refine wp_cond_false (E.get 0 rfl) ?_
   refine wp_skip ?_
   refine then_n ?_
   refine wp_seq ?_
   refine wp_region_lit ?_
   refine ep (v := .slice (p0) la.length cp0) E (run_move rfl (E.get 9 rfl)) fun a E => ?_
   refine env_callv (d := 14) (R := fun u w8 => oSp w8 w1.heap.size u (notQ la) ∧ Fr (fun _ => False) w1 w8) E rfl (by decide) rfl (wanted_none rfl _) (run_call1 (enters_of Tryz.func25 (by kernel_rfl) rfl) rfl rfl (E.get 0 rfl)) ((not_calls ⟨_, _, rfl, hlep0, hcapp0, hsp0.mono (by first | exact hf.size | omega), hzp0⟩ (by omega)).mono fun e w8 h => by obtain ⟨v, rfl, h⟩ := h; exact ⟨_, rfl, h⟩) fun a w1 rv50 ⟨hO50, f1⟩ E => ?_
   have hO50 := hO50.base hf.size
   have hsp0 := srcAt.fr hsp0 f1 (fun r hr => id)
   have hsp1 := srcAt.fr hsp1 f1 (fun r hr => id)
   have hf := hf.trans' f1 (fun _ _ h => h.elim)
   clear f1
   refine ep (v := .slice (p1) lb.length cp1) E (run_move rfl (E.get 12 rfl)) fun a E => ?_
   refine env_callv (d := 16) (R := fun u w8 => oSp w8 w1.heap.size u (notQ lb) ∧ Fr (fun _ => False) w1 w8) E rfl (by decide) rfl (wanted_none rfl _) (run_call1 (enters_of Tryz.func25 (by kernel_rfl) rfl) rfl rfl (E.get 0 rfl)) ((not_calls ⟨_, _, rfl, hlep1, hcapp1, hsp1.mono (by first | exact hf.size | omega), hzp1⟩ (by omega)).mono fun e w8 h => by obtain ⟨v, rfl, h⟩ := h; exact ⟨_, rfl, h⟩) fun a w1 rv51 ⟨hO51, f1⟩ E => ?_
   have hO51 := hO51.base hf.size
   have hsp0 := srcAt.fr hsp0 f1 (fun r hr => id)
   have hsp1 := srcAt.fr hsp1 f1 (fun r hr => id)
   have hO50 := ow.fr hO50 f1 (fun _ _ h => h)
   have hf := hf.trans' f1 (fun _ _ h => h.elim)
   clear f1
   refine env_callv (d := 17) (R := fun u w8 => oSp w8 w1.heap.size u (eitherQ (notQ la) (notQ lb)) ∧ Fr (fun _ => False) w1 w8) E rfl (by decide) rfl (wanted_none rfl _) (run_call2 (enters_of Tryz.func24 (by kernel_rfl) rfl) rfl rfl (E.get 2 rfl) (E.get 0 rfl)) ((either_calls (ow.src spL_len hO50) (ow.src spL_len hO51) (by have := notQ_len la; omega) (by have := notQ_len lb; omega)).mono fun e w8 h => by obtain ⟨v, rfl, h⟩ := h; exact ⟨_, rfl, h⟩) fun a w1 rv52 ⟨hO52, f1⟩ E => ?_
   have hO52 := hO52.base hf.size
   have hsp0 := srcAt.fr hsp0 f1 (fun r hr => id)
   have hsp1 := srcAt.fr hsp1 f1 (fun r hr => id)
   have hO50 := ow.fr hO50 f1 (fun _ _ h => h)
   have hO51 := ow.fr hO51 f1 (fun _ _ h => h)
   have hf := hf.trans' f1 (fun _ _ h => h.elim)
   clear f1
   refine env_callv (d := 18) (R := fun u w8 => oSp w8 w1.heap.size u (notQ (eitherQ (notQ la) (notQ lb))) ∧ Fr (fun _ => False) w1 w8) E rfl (by decide) rfl (wanted_none rfl _) (run_call1 (enters_of Tryz.func25 (by kernel_rfl) rfl) rfl rfl (E.get 0 rfl)) ((not_calls (ow.src spL_len hO52) (by have := eitherQ_len (notQ la) (notQ lb); have := notQ_len la; have := notQ_len lb; omega)).mono fun e w8 h => by obtain ⟨v, rfl, h⟩ := h; exact ⟨_, rfl, h⟩) fun a w1 rv53 ⟨hO53, f1⟩ E => ?_
   have hO53 := hO53.base hf.size
   have hsp0 := srcAt.fr hsp0 f1 (fun r hr => id)
   have hsp1 := srcAt.fr hsp1 f1 (fun r hr => id)
   have hO50 := ow.fr hO50 f1 (fun _ _ h => h)
   have hO51 := ow.fr hO51 f1 (fun _ _ h => h)
   have hO52 := ow.fr hO52 f1 (fun _ _ h => h)
   have hf := hf.trans' f1 (fun _ _ h => h.elim)
   clear f1
   refine env_set (d := 4) (v := rv53) E rfl (by decide) (wanted_none rfl _) (run_assign rfl (E.get 0 rfl)) fun a E => ?_
   refine wpList_nil ?_
   refine then_n ?_
   refine wp_ret ?_
   rw [bothQ_eq hq48 hq49] at hO53
   exact ret_tmp (t := 4) rfl E (E.get 0 rfl) ⟨_, rfl, hO53, hf⟩
end Go.Proofs.YtjaffpnegdcjnaaGreatDoor
