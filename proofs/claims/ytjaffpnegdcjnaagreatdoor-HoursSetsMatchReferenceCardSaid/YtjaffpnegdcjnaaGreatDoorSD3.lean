/- The lexer: strings. -/
import Derived.Test.YtjaffpnegdcjnaaGreatDoorSD2
set_option linter.unusedVariables false
set_option linter.unusedSimpArgs false
namespace Go.Proofs.YtjaffpnegdcjnaaGreatDoor
open Go.RowKit Go.Pl
theorem q34 (c : UInt8) : (c == 34) = ((c.toNat : Int) == 34) := by
 have := u8_all (p := fun c => (c == 34) == ((c.toNat : Int) == 34)) (by decide +kernel) c
 exact beq_iff_eq.1 this
theorem q10 (c : UInt8) : (c == 10) = ((c.toNat : Int) == 10) := by
 have := u8_all (p := fun c => (c == 10) == ((c.toNat : Int) == 10)) (by decide +kernel) c
 exact beq_iff_eq.1 this
theorem q92 (c : UInt8) : (c == 92) = ((c.toNat : Int) == 92) := by
 have := u8_all (p := fun c => (c == 92) == ((c.toNat : Int) == 92)) (by decide +kernel) c
 exact beq_iff_eq.1 this
def esc (d : UInt8) : UInt8 := if d == 110 then 10 else d
def escI (d : UInt8) : Int := ixb [92, 34, 110] d.toNat
theorem esc_q (d : UInt8) : (d == 92 || d == 34 || d == 110) = !decide (escI d < 0) := by
 have := u8_all (p := fun d => (d == 92 || d == 34 || d == 110) == !decide (escI d < 0)) (by decide +kernel) d
 exact beq_iff_eq.1 this
theorem esc_b (d : UInt8) (h : ¬ escI d < 0) : ([92, 34, 10] : Bys)[(escI d).toNat]? = some (esc d) ∧ 0 ≤ escI d := by
 have := u8_all (p := fun d => decide (escI d < 0) || (([92, 34, 10] : Bys)[(escI d).toNat]? == some (esc d)) && decide (0 ≤ escI d)) (by decide +kernel) d
 rw [decide_eq_false h, Bool.false_or, Bool.and_eq_true] at this
 exact ⟨eq_of_beq this.1, of_decide_eq_true this.2⟩
def strA (acc : Bys) (k : Nat) (r : Bys) : Option (Bys × Nat) := (strL r).map fun x => (acc ++ x.1, x.2 + k)
theorem strA_0 (l : Bys) : strL l = strA [] 0 l := by
 unfold strA
 cases strL l with
 | none => rfl
 | some x => simp
theorem strA_nil (acc : Bys) (k : Nat) : strA acc k [] = none := rfl
theorem strA_q {acc r : Bys} {k : Nat} {c : UInt8} (h : (c == 34) = true) : strA acc k (c :: r) = some (acc, 1 + k) := by
 unfold strA strL; rw [if_pos h]; simp
theorem strA_n {acc r : Bys} {k : Nat} {c : UInt8} (h0 : (c == 34) = false) (h : (c == 10) = true) : strA acc k (c :: r) = none := by
 unfold strA strL; rw [if_neg (by rw [h0]; simp), if_pos h]; rfl
theorem strA_b0 {acc : Bys} {k : Nat} {c : UInt8} (h0 : (c == 34) = false) (h1 : (c == 10) = false) (h : (c == 92) = true) : strA acc k [c] = none := by
 unfold strA strL; rw [if_neg (by rw [h0]; simp), if_neg (by rw [h1]; simp), if_pos h]; rfl
theorem strA_b1 {acc r : Bys} {k : Nat} {c d : UInt8} (h0 : (c == 34) = false) (h1 : (c == 10) = false) (h : (c == 92) = true) (h2 : escI d < 0) : strA acc k (c :: d :: r) = none := by
 unfold strA strL; rw [if_neg (by rw [h0]; simp), if_neg (by rw [h1]; simp), if_pos h]
 simp only
 rw [esc_q, decide_eq_true h2]; rfl
theorem strA_b2 {acc r : Bys} {k : Nat} {c d : UInt8} (h0 : (c == 34) = false) (h1 : (c == 10) = false) (h : (c == 92) = true) (h2 : ¬ escI d < 0) : strA acc k (c :: d :: r) = strA (acc ++ [esc d]) (k + 2) r := by
 unfold strA
 rw [strL]
 rw [if_neg (by rw [h0]; simp), if_neg (by rw [h1]; simp), if_pos h]
 try simp only
 rw [esc_q, decide_eq_false h2]
 simp only [Bool.not_false, if_true, Option.map_map]
 congr 1
 funext x
 simp only [Function.comp, List.append_assoc, List.singleton_append, esc]
 rw [show x.2 + 2 + k = x.2 + (k + 2) by omega]
theorem strA_c {acc r : Bys} {k : Nat} {c : UInt8} (h0 : (c == 34) = false) (h1 : (c == 10) = false) (h : (c == 92) = false) : strA acc k (c :: r) = strA (acc ++ [c]) (k + 1) r := by
 have e : strL (c :: r) = (strL r).map fun x => (c :: x.1, x.2 + 1) := by
  rw [strL.eq_def (c :: r)]
  try simp only
  rw [if_neg (by rw [h0]; simp), if_neg (by rw [h1]; simp), if_neg (by rw [h]; simp)]
 unfold strA
 rw [e]
 simp only [Option.map_map]
 congr 1
 funext x
 simp only [Function.comp, List.append_assoc, List.singleton_append]
 rw [show x.2 + 1 + k = x.2 + (k + 1) by omega]
def unqR (l : Bys) : Bys × Int := match strL l with | some (s, k) => (s, (k : Int) + 1) | none => ([], 0)
theorem unq_no {l : Bys} (h : strL l = none) : unqR l = ([], 0) := by unfold unqR; rw [h]
theorem unq_is {l s : Bys} {k : Nat} (h : strL l = some (s, k)) : unqR l = (s, (k : Int) + 1) := by unfold unqR; rw [h]
theorem drop_at {l : Bys} {j : Nat} {c : UInt8} (h : l[j]? = some c) : l.drop j = c :: l.drop (j + 1) := by
 have hj := (List.getElem?_eq_some_iff.1 h).1
 rw [List.drop_eq_getElem_cons hj, (List.getElem?_eq_some_iff.1 h).2]
set_option maxRecDepth 100000 in
set_option maxHeartbeats 4000000 in
theorem unq_calls (l : Bys) (hl : l.length ≤ 100000) (w : World) : Calls Tryz.prog 75 #[.string (ofL (34 :: l))] w fun e w' => e = .returned (.tuple #[.string (ofL (unqR l).1), .int .i64 (unqR l).2]) ∧ Fr (fun _ => False) w w' := by
 refine wp_start1 Tryz.func75 rfl rfl (n := 44) (by decide) fun a E => ?_
 have hf : Fr (fun _ => False) w w := Fr.refl _ _
 refine wp_seq ?_
 refine wp_region_lit ?_
 refine ep (v := .string (ofL [])) E (run_assign rfl rfl) fun a E => ?_
 refine ep (v := .int .i64 0) E (run_assign rfl rfl) fun a E => ?_
 refine wpList_nil ?_
 refine then_n ?_
 refine wp_seq ?_
 refine wp_region_lit ?_
 refine env_new (d := 4) E rfl (by decide) rfl (wanted_none rfl _) (run_alloc104 rfl) fun a w1 b eb hb f1 E => ?_
 have hnb : w.heap.size ≤ b := by have := hf.size; omega
 have hB := Bld.made hb
 have hf := hf.trans f1
 clear f1 hb
 refine wpList_nil ?_
 refine then_n ?_
 refine wp_seq ?_
 refine wp_seq ?_
 refine wp_region_lit ?_
 refine ep (v := .int .i64 1) E (run_assign rfl rfl) fun a E => ?_
 refine wpList_nil ?_
 refine then_n ?_
 refine wp_block ?_
 refine wp_loop (fun a w2 => ∃ (j : Nat) (acc : Bys), Env 44 [(0, .string (ofL (34 :: l))), (2, .string (ofL [])), (3, .int .i64 0), (4, .pointer (some ⟨b, 0, none⟩)), (5, .int .i64 ((j : Int) + 1))] a ∧ j ≤ l.length ∧ strL l = strA acc j (l.drop j) ∧ acc.length ≤ j ∧ Bld w2 b b acc ∧ Fr (fun _ => False) w w2) (fun a _ => l.length + 1 - (intOf (a.eval (.tmp 5))).toNat) ?_ ?_
 ·exact ⟨0, [], E.of ⟨E.get 4 rfl, E.get 3 rfl, E.get 2 rfl, E.get 1 rfl, E.get 0 rfl, trivial⟩, Nat.zero_le _, strA_0 l, Nat.le_refl _, hB, hf⟩
 clear E
 rintro a w2 ⟨j, acc, E, hj, hi, hal, hB, hf⟩
 have hmu : l.length + 1 - (intOf (a.eval (.tmp 5))).toNat = l.length + 1 - (j + 1) := by rw [E.get 4 rfl]; first | rfl | (simp [intOf]; done) | (simp only [intOf]; omega)
 rw [hmu]
 clear hmu
 refine wp_seq ?_
 refine wp_seq ?_
 refine wp_region_lit ?_
 refine ep (v := .int .i64 ((j : Int) + 1)) E (run_move rfl (E.get 4 rfl)) fun a E => ?_
 refine ep (v := .string (ofL (34 :: l))) E (run_move rfl (E.get 1 rfl)) fun a E => ?_
 refine ep (v := .int .i64 ((l.length : Int) + 1)) E ((run_slen rfl (E.get 0 rfl)).trans (by rw [List.length_cons]; rfl)) fun a E => ?_
 refine ep (v := .bool (decide (((j : Int) + 1) < ((l.length : Int) + 1)))) E (run_ilss (E.get 2 rfl) (E.get 0 rfl) Tryz.underlying3 rfl) fun a E => ?_
 refine wpList_nil ?_
 refine then_n ?_
 cases hq118 : (decide (((j : Int) + 1) < ((l.length : Int) + 1))) with
 | false =>
  rw [hq118] at E
  have hie : j = l.length := by have := of_decide_eq_false hq118; omega
  refine wp_cond_false (E.get 0 rfl) ?_
  refine wp_exit ?_
  refine then_e ?_
  refine then_e ?_
  refine blk_e ?_
  refine then_n ?_
  refine wp_seq ?_
  refine wp_region_lit ?_
  refine env_set (d := 2) (v := .string (ofL [])) E rfl (by decide) (wanted_none rfl _) (run_assign rfl rfl) fun a E => ?_
  refine env_set (d := 3) (v := .int .i64 0) E rfl (by decide) (wanted_none rfl _) (run_assign rfl rfl) fun a E => ?_
  refine wpList_nil ?_
  refine then_n ?_
  refine wp_ret ?_
  refine ret_tmp2 (t := 2) (t2 := 3) rfl E (E.get 1 rfl) (E.get 0 rfl) ⟨?_, hf⟩
  rw [unq_no (by rw [hi, hie, List.drop_length, strA_nil])]
 | true =>
  rw [hq118] at E
  have hlt : j < l.length := by have := of_decide_eq_true hq118; omega
  obtain ⟨c, hc⟩ : ∃ c, l[j]? = some c := ⟨_, List.getElem?_eq_getElem hlt⟩
  refine wp_cond_true (E.get 0 rfl) ?_
  refine wp_skip ?_
  refine then_n ?_
  refine wp_seq ?_
  refine wp_block ?_
  refine wp_seq ?_
  refine wp_region_lit ?_
  refine ep (v := .string (ofL (34 :: l))) E (run_move rfl (E.get 4 rfl)) fun a E => ?_
  refine ep (v := .int .i64 ((j : Int) + 1)) E (run_move rfl (E.get 9 rfl)) fun a E => ?_
  refine ep (v := .int .u8 (c.toNat : Int)) E (run_byte (i := j + 1) rfl (E.get 1 rfl) (E.get 0 rfl) (by simpa using hc)) fun a E => ?_
  refine ep (v := .int .u8 (c.toNat : Int)) E (run_assign rfl (E.get 0 rfl)) fun a E => ?_
  refine wpList_nil ?_
  refine then_n ?_
  refine wp_seq ?_
  refine wp_region_lit ?_
  refine ep (v := .int .u8 (c.toNat : Int)) E (run_move rfl (E.get 0 rfl)) fun a E => ?_
  refine wpList_nil ?_
  refine then_n ?_
  refine wp_block ?_
  refine wp_seq ?_
  refine wp_region_lit ?_
  refine ep (v := .bool ((c.toNat : Int) == 34)) E (run_ueql (E.get 0 rfl) rfl rfl) fun a E => ?_
  refine ep (v := .bool ((c.toNat : Int) == 34)) E (run_assign rfl (E.get 0 rfl)) fun a E => ?_
  refine wpList_nil ?_
  refine then_n ?_
  cases hq119 : ((c.toNat : Int) == 34) with
  | false =>
   rw [hq119] at E
   refine wp_cond_false (E.get 0 rfl) ?_
   refine wp_seq ?_
   refine wp_region_lit ?_
   refine ep (v := .bool ((c.toNat : Int) == 10)) E (run_ueql (E.get 2 rfl) rfl rfl) fun a E => ?_
   refine ep (v := .bool ((c.toNat : Int) == 10)) E (run_assign rfl (E.get 0 rfl)) fun a E => ?_
   refine wpList_nil ?_
   refine then_n ?_
   cases hq120 : ((c.toNat : Int) == 10) with
   | false =>
    rw [hq120] at E
    refine wp_cond_false (E.get 0 rfl) ?_
    refine wp_seq ?_
    refine wp_region_lit ?_
    refine ep (v := .bool ((c.toNat : Int) == 92)) E (run_ueql (E.get 4 rfl) rfl rfl) fun a E => ?_
    refine ep (v := .bool ((c.toNat : Int) == 92)) E (run_assign rfl (E.get 0 rfl)) fun a E => ?_
    refine wpList_nil ?_
    refine then_n ?_
    cases hq121 : ((c.toNat : Int) == 92) with
    | false =>
     rw [hq121] at E
     refine wp_cond_false (E.get 0 rfl) ?_
     refine wp_region_lit ?_
     refine ep (v := .int .u8 (c.toNat : Int)) E (run_move rfl (E.get 7 rfl)) fun a E => ?_
     refine env_callv (d := 19) (R := fun u w8 => u = .nilIface ∧ Bld w8 b b (acc ++ [c]) ∧ Fr (fun r => b ≤ r) w2 w8) E rfl (by decide) rfl (wanted_none rfl _) (run_call2 (enters_of Tryz.func98 (by kernel_rfl) rfl) rfl rfl (E.get 19 rfl) (E.get 0 rfl)) ((wbyte_calls hB c (by omega)).mono fun e w8 h => by obtain ⟨rfl, h⟩ := h; exact ⟨_, rfl, rfl, h⟩) fun a w1 u ⟨hu, hB2, f1⟩ E => ?_
     subst hu
     have hB := hB2
     have hf := hf.trans' f1 (fun r hr e => by omega)
     clear f1 hB2
     refine wpList_nil ?_
     refine blk_n ?_
     refine blk_n ?_
     refine then_n ?_
     refine wp_region_lit ?_
     refine ep (v := .int .i64 ((j : Int) + 1)) E (run_move rfl (E.get 21 rfl)) fun a E => ?_
     refine ep (v := .int .i64 (((j : Int) + 1) + 1)) E (run_iadd Tryz.underlying3 (E.get 0 rfl) rfl (by omega) (by omega) rfl) fun a E => ?_
     refine env_set (d := 5) (v := .int .i64 (((j : Int) + 1) + 1)) E rfl (by decide) (wanted_none rfl _) (run_assign rfl (E.get 0 rfl)) fun a E => ?_
     refine wpList_nil ?_
     refine then_n ?_
     have hin : strL l = strA (acc ++ [c]) (j + 1) (l.drop (j + 1)) := by rw [hi, drop_at hc, strA_c (by rw [q34]; exact hq119) (by rw [q10]; exact hq120) (by rw [q92]; exact hq121)]
     refine ⟨⟨j + 1, acc ++ [c], E.of ⟨E.get 20 rfl, E.get 21 rfl, E.get 22 rfl, E.get 23 rfl, (E.get 0 rfl).trans (by rw [Int.natCast_add]; rfl), trivial⟩, by omega, hin, by simp only [List.length_append, List.length_singleton]; omega, hB, hf⟩, ?_⟩
     rw [E.get 0 rfl]; simp only [intOf]; omega
    | true =>
     rw [hq121] at E
     refine wp_cond_true (E.get 0 rfl) ?_
     refine wp_seq ?_
     refine wp_region_lit ?_
     refine ep (v := .int .i64 ((j : Int) + 1)) E (run_move rfl (E.get 19 rfl)) fun a E => ?_
     refine ep (v := .int .i64 (((j : Int) + 1) + 1)) E (run_iadd Tryz.underlying3 (E.get 0 rfl) rfl (by omega) (by omega) rfl) fun a E => ?_
     refine env_set (d := 5) (v := .int .i64 (((j : Int) + 1) + 1)) E rfl (by decide) (wanted_none rfl _) (run_assign rfl (E.get 0 rfl)) fun a E => ?_
     refine wpList_nil ?_
     refine then_n ?_
     refine wp_seq ?_
     refine wp_region_lit ?_
     refine ep (v := .int .i64 (-1)) E (run_assign rfl rfl) fun a E => ?_
     refine wpList_nil ?_
     refine then_n ?_
     refine wp_seq ?_
     refine wp_seq ?_
     refine wp_region_lit ?_
     refine ep (v := .int .i64 (((j : Int) + 1) + 1)) E (run_move rfl (E.get 1 rfl)) fun a E => ?_
     refine ep (v := .string (ofL (34 :: l))) E (run_move rfl (E.get 20 rfl)) fun a E => ?_
     refine ep (v := .int .i64 ((l.length : Int) + 1)) E ((run_slen rfl (E.get 0 rfl)).trans (by rw [List.length_cons]; rfl)) fun a E => ?_
     refine ep (v := .bool (decide ((((j : Int) + 1) + 1) < ((l.length : Int) + 1)))) E (run_ilss (E.get 2 rfl) (E.get 0 rfl) Tryz.underlying3 rfl) fun a E => ?_
     refine wpList_nil ?_
     refine then_n ?_
     cases hq122 : (decide ((((j : Int) + 1) + 1) < ((l.length : Int) + 1))) with
     | false =>
      rw [hq122] at E
      have hie2 : j + 1 = l.length := by have := of_decide_eq_false hq122; omega
      refine wp_cond_false (E.get 0 rfl) ?_
      refine wp_skip ?_
      refine then_n ?_
      refine wp_seq ?_
      refine wp_seq ?_
      refine wp_region_lit ?_
      refine ep (v := .int .i64 (-1)) E (run_move rfl (E.get 4 rfl)) fun a E => ?_
      refine ep (v := .bool true) E (run_ilss (m := (-1)) (n := 0) (E.get 0 rfl) rfl Tryz.underlying3 rfl) fun a E => ?_
      refine wpList_nil ?_
      refine then_n ?_
      refine wp_cond_true (E.get 0 rfl) ?_
      refine wp_seq ?_
      refine wp_region_lit ?_
      refine env_set (d := 2) (v := .string (ofL [])) E rfl (by decide) (wanted_none rfl _) (run_assign rfl rfl) fun a E => ?_
      refine env_set (d := 3) (v := .int .i64 0) E rfl (by decide) (wanted_none rfl _) (run_assign rfl rfl) fun a E => ?_
      refine wpList_nil ?_
      refine then_n ?_
      refine wp_ret ?_
      refine then_r ?_
      refine blk_r ?_
      refine blk_r ?_
      refine then_r ?_
      refine then_r ?_
      refine blk_r ?_
      refine then_r ?_
      refine ret_tmp2 (t := 2) (t2 := 3) rfl E (E.get 1 rfl) (E.get 0 rfl) ⟨?_, hf⟩
      rw [unq_no (by rw [hi, drop_at hc, hie2, List.drop_length, strA_b0 (by rw [q34]; exact hq119) (by rw [q10]; exact hq120) (by rw [q92]; exact hq121)])]
     | true =>
      rw [hq122] at E
      have hlt2 : j + 1 < l.length := by have := of_decide_eq_true hq122; omega
      obtain ⟨d, hd⟩ : ∃ d, l[j + 1]? = some d := ⟨_, List.getElem?_eq_getElem hlt2⟩
      refine wp_cond_true (E.get 0 rfl) ?_
      refine wp_region_lit ?_
      refine ep (v := .string (ofL (34 :: l))) E (run_move rfl (E.get 23 rfl)) fun a E => ?_
      refine ep (v := .int .i64 (((j : Int) + 1) + 1)) E (run_move rfl (E.get 6 rfl)) fun a E => ?_
      refine ep (v := .int .u8 (d.toNat : Int)) E (run_byte (i := j + 2) rfl (E.get 1 rfl) ((E.get 0 rfl).trans (by rw [Int.add_assoc]; rfl)) (by simpa using hd)) fun a E => ?_
      refine env_call (d := 38) (v := .int .i64 (escI d)) E rfl (by decide) rfl (wanted_none rfl _) (run_call2 (enters_of Tryz.func97 (by kernel_rfl) rfl) rfl rfl rfl (E.get 0 rfl)) (ixb_calls [92, 34, 110] d.toNat d.toNat_lt _) fun a w1 f1 E => ?_
      have hB := Bld.fr hB f1
      have hf := hf.trans' f1 (fun _ _ h => h.elim)
      clear f1
      refine env_set (d := 7) (v := .int .i64 (escI d)) E rfl (by decide) (wanted_none rfl _) (run_assign rfl (E.get 0 rfl)) fun a E => ?_
      refine wpList_nil ?_
      refine then_n ?_
      refine wp_seq ?_
      refine wp_seq ?_
      refine wp_region_lit ?_
      refine ep (v := .int .i64 (escI d)) E (run_move rfl (E.get 0 rfl)) fun a E => ?_
      refine ep (v := .bool (decide ((escI d) < 0))) E (run_ilss (E.get 0 rfl) rfl Tryz.underlying3 rfl) fun a E => ?_
      refine wpList_nil ?_
      refine then_n ?_
      cases hq123 : (decide ((escI d) < 0)) with
      | false =>
       rw [hq123] at E
       have hesc := of_decide_eq_false hq123
       refine wp_cond_false (E.get 0 rfl) ?_
       refine wp_skip ?_
       refine then_n ?_
       refine wp_region_lit ?_
       refine ep (v := .int .i64 (escI d)) E (run_move rfl (E.get 2 rfl)) fun a E => ?_
       refine ep (v := .int .u8 ((esc d).toNat : Int)) E (run_byte (i := (escI d).toNat) rfl rfl ((E.get 0 rfl).trans (by rw [Int.toNat_of_nonneg (esc_b d hesc).2])) (esc_b d hesc).1) fun a E => ?_
       refine env_callv (d := 43) (R := fun u w8 => u = .nilIface ∧ Bld w8 b b (acc ++ [(esc d)]) ∧ Fr (fun r => b ≤ r) w1 w8) E rfl (by decide) rfl (wanted_none rfl _) (run_call2 (enters_of Tryz.func98 (by kernel_rfl) rfl) rfl rfl (E.get 34 rfl) (E.get 0 rfl)) ((wbyte_calls hB (esc d) (by omega)).mono fun e w8 h => by obtain ⟨rfl, h⟩ := h; exact ⟨_, rfl, rfl, h⟩) fun a w1 u ⟨hu, hB2, f1⟩ E => ?_
       subst hu
       have hB := hB2
       have hf := hf.trans' f1 (fun r hr e => by omega)
       clear f1 hB2
       refine wpList_nil ?_
       refine blk_n ?_
       refine blk_n ?_
       refine then_n ?_
       refine wp_region_lit ?_
       refine ep (v := .int .i64 (((j : Int) + 1) + 1)) E (run_move rfl (E.get 14 rfl)) fun a E => ?_
       refine ep (v := .int .i64 ((((j : Int) + 1) + 1) + 1)) E (run_iadd Tryz.underlying3 (E.get 0 rfl) rfl (by omega) (by omega) rfl) fun a E => ?_
       refine env_set (d := 5) (v := .int .i64 ((((j : Int) + 1) + 1) + 1)) E rfl (by decide) (wanted_none rfl _) (run_assign rfl (E.get 0 rfl)) fun a E => ?_
       refine wpList_nil ?_
       refine then_n ?_
       have hin : strL l = strA (acc ++ [esc d]) (j + 2) (l.drop (j + 2)) := by rw [hi, drop_at hc, drop_at hd, strA_b2 (by rw [q34]; exact hq119) (by rw [q10]; exact hq120) (by rw [q92]; exact hq121) hesc]
       refine ⟨⟨j + 2, acc ++ [esc d], E.of ⟨E.get 34 rfl, E.get 35 rfl, E.get 36 rfl, E.get 37 rfl, (E.get 0 rfl).trans (by congr 1 <;> omega), trivial⟩, by omega, hin, by simp only [List.length_append, List.length_singleton]; omega, hB, hf⟩, ?_⟩
       rw [E.get 0 rfl]; simp only [intOf]; omega
      | true =>
       rw [hq123] at E
       have hesc := of_decide_eq_true hq123
       refine wp_cond_true (E.get 0 rfl) ?_
       refine wp_seq ?_
       refine wp_region_lit ?_
       refine env_set (d := 2) (v := .string (ofL [])) E rfl (by decide) (wanted_none rfl _) (run_assign rfl rfl) fun a E => ?_
       refine env_set (d := 3) (v := .int .i64 0) E rfl (by decide) (wanted_none rfl _) (run_assign rfl rfl) fun a E => ?_
       refine wpList_nil ?_
       refine then_n ?_
       refine wp_ret ?_
       refine then_r ?_
       refine blk_r ?_
       refine blk_r ?_
       refine then_r ?_
       refine then_r ?_
       refine blk_r ?_
       refine then_r ?_
       refine ret_tmp2 (t := 2) (t2 := 3) rfl E (E.get 1 rfl) (E.get 0 rfl) ⟨?_, hf⟩
       rw [unq_no (by rw [hi, drop_at hc, drop_at hd, strA_b1 (by rw [q34]; exact hq119) (by rw [q10]; exact hq120) (by rw [q92]; exact hq121) hesc])]
   | true =>
    rw [hq120] at E
    refine wp_cond_true (E.get 0 rfl) ?_
    refine wp_seq ?_
    refine wp_region_lit ?_
    refine env_set (d := 2) (v := .string (ofL [])) E rfl (by decide) (wanted_none rfl _) (run_assign rfl rfl) fun a E => ?_
    refine env_set (d := 3) (v := .int .i64 0) E rfl (by decide) (wanted_none rfl _) (run_assign rfl rfl) fun a E => ?_
    refine wpList_nil ?_
    refine then_n ?_
    refine wp_ret ?_
    refine blk_r ?_
    refine blk_r ?_
    refine then_r ?_
    refine then_r ?_
    refine blk_r ?_
    refine then_r ?_
    refine ret_tmp2 (t := 2) (t2 := 3) rfl E (E.get 1 rfl) (E.get 0 rfl) ⟨?_, hf⟩
    rw [unq_no (by rw [hi, drop_at hc, strA_n (by rw [q34]; exact hq119) (by rw [q10]; exact hq120)])]
  | true =>
   rw [hq119] at E
   refine wp_cond_true (E.get 0 rfl) ?_
   refine wp_seq ?_
   refine wp_region_lit ?_
   refine env_callv (d := 22) (R := fun u w8 => u = .string (ofL acc) ∧ Fr (fun r => b ≤ r) w2 w8) E rfl (by decide) rfl (wanted_none rfl _) (run_call1 (enters_of Tryz.func71 (by kernel_rfl) rfl) rfl rfl (E.get 14 rfl)) ((str_calls hB (by have := hB.lt; omega)).mono fun e w8 h => by obtain ⟨rfl, h⟩ := h; exact ⟨_, rfl, rfl, h⟩) fun a w1 u ⟨hu, f1⟩ E => ?_
   subst hu
   have hf := hf.trans' f1 (fun r hr e => by omega)
   clear f1
   refine ep (v := .int .i64 ((j : Int) + 1)) E (run_move rfl (E.get 16 rfl)) fun a E => ?_
   refine ep (v := .int .i64 (((j : Int) + 1) + 1)) E (run_iadd Tryz.underlying3 (E.get 0 rfl) rfl (by omega) (by omega) rfl) fun a E => ?_
   refine env_set (d := 2) (v := .string (ofL acc)) E rfl (by decide) (wanted_none rfl _) (run_assign rfl (E.get 2 rfl)) fun a E => ?_
   refine env_set (d := 3) (v := .int .i64 (((j : Int) + 1) + 1)) E rfl (by decide) (wanted_none rfl _) (run_assign rfl (E.get 1 rfl)) fun a E => ?_
   refine wpList_nil ?_
   refine then_n ?_
   refine wp_ret ?_
   refine blk_r ?_
   refine blk_r ?_
   refine then_r ?_
   refine then_r ?_
   refine blk_r ?_
   refine then_r ?_
   refine ret_tmp2 (t := 2) (t2 := 3) rfl E (E.get 1 rfl) (E.get 0 rfl) ⟨?_, hf⟩
   rw [unq_is (by rw [hi, drop_at hc, strA_q (by rw [q34]; exact hq119)])]
   show Ending.returned (.tuple #[.string (ofL acc), .int .i64 ((j : Int) + 1 + 1)]) = .returned (.tuple #[.string (ofL acc), .int .i64 (((1 + j : Nat) : Int) + 1)])
   rw [show (((1 + j : Nat) : Int) + 1) = (j : Int) + 1 + 1 by omega]
end Go.Proofs.YtjaffpnegdcjnaaGreatDoor
