/- Part 4 of the proof: the texts D3, D4, D5, D6, D7, D8, E1, E2, E3. -/
import Derived.Test.YtjaffpnegdcjnaaGreatDoorT3
import Derived.Scope
import Derived.Recover
import Derived.Defers
/- The lexer: strings. -/
set_option linter.unusedVariables false
set_option linter.unusedSimpArgs false
namespace Go.Proofs.YtjaffpnegdcjnaaGreatDoor
open Go.RowKit Go.Pl
theorem q34 (c : UInt8) : (c == 34) = ((c.toNat : Int) == 34) := by
 have := u8_all (p := fun c => (c == 34) == ((c.toNat : Int) == 34)) (by decide +kernel) c
 exact beq_iff_eq.1 this
theorem q10 (c : UInt8) : (c == 10) = ((c.toNat : Int) == 10) := by
 have := u8_all (p := fun c => (c == 10) == ((c.toNat : Int) == 10)) (by decide +kernel) c
 exact beq_iff_eq.1 this
theorem q92 (c : UInt8) : (c == 92) = ((c.toNat : Int) == 92) := by
 have := u8_all (p := fun c => (c == 92) == ((c.toNat : Int) == 92)) (by decide +kernel) c
 exact beq_iff_eq.1 this
def esc (d : UInt8) : UInt8 := if d == 110 then 10 else d
def escI (d : UInt8) : Int := ixb [92, 34, 110] d.toNat
theorem esc_q (d : UInt8) : (d == 92 || d == 34 || d == 110) = !decide (escI d < 0) := by
 have := u8_all (p := fun d => (d == 92 || d == 34 || d == 110) == !decide (escI d < 0)) (by decide +kernel) d
 exact beq_iff_eq.1 this
theorem esc_b (d : UInt8) (h : ¬ escI d < 0) : ([92, 34, 10] : Bys)[(escI d).toNat]? = some (esc d) ∧ 0 ≤ escI d := by
 have := u8_all (p := fun d => decide (escI d < 0) || (([92, 34, 10] : Bys)[(escI d).toNat]? == some (esc d)) && decide (0 ≤ escI d)) (by decide +kernel) d
 rw [decide_eq_false h, Bool.false_or, Bool.and_eq_true] at this
 exact ⟨eq_of_beq this.1, of_decide_eq_true this.2⟩
def strA (acc : Bys) (k : Nat) (r : Bys) : Option (Bys × Nat) := (strL r).map fun x => (acc ++ x.1, x.2 + k)
theorem strA_0 (l : Bys) : strL l = strA [] 0 l := by
 unfold strA
 cases strL l with
 | none => rfl
 | some x => simp
theorem strA_nil (acc : Bys) (k : Nat) : strA acc k [] = none := rfl
theorem strA_q {acc r : Bys} {k : Nat} {c : UInt8} (h : (c == 34) = true) : strA acc k (c :: r) = some (acc, 1 + k) := by
 unfold strA strL; rw [if_pos h]; simp
theorem strA_n {acc r : Bys} {k : Nat} {c : UInt8} (h0 : (c == 34) = false) (h : (c == 10) = true) : strA acc k (c :: r) = none := by
 unfold strA strL; rw [if_neg (by rw [h0]; simp), if_pos h]; rfl
theorem strA_b0 {acc : Bys} {k : Nat} {c : UInt8} (h0 : (c == 34) = false) (h1 : (c == 10) = false) (h : (c == 92) = true) : strA acc k [c] = none := by
 unfold strA strL; rw [if_neg (by rw [h0]; simp), if_neg (by rw [h1]; simp), if_pos h]; rfl
theorem strA_b1 {acc r : Bys} {k : Nat} {c d : UInt8} (h0 : (c == 34) = false) (h1 : (c == 10) = false) (h : (c == 92) = true) (h2 : escI d < 0) : strA acc k (c :: d :: r) = none := by
 unfold strA strL; rw [if_neg (by rw [h0]; simp), if_neg (by rw [h1]; simp), if_pos h]
 simp only
 rw [esc_q, decide_eq_true h2]; rfl
theorem strA_b2 {acc r : Bys} {k : Nat} {c d : UInt8} (h0 : (c == 34) = false) (h1 : (c == 10) = false) (h : (c == 92) = true) (h2 : ¬ escI d < 0) : strA acc k (c :: d :: r) = strA (acc ++ [esc d]) (k + 2) r := by
 unfold strA
 rw [strL]
 rw [if_neg (by rw [h0]; simp), if_neg (by rw [h1]; simp), if_pos h]
 try simp only
 rw [esc_q, decide_eq_false h2]
 simp only [Bool.not_false, if_true, Option.map_map]
 congr 1
 funext x
 simp only [Function.comp, List.append_assoc, List.singleton_append, esc]
 rw [show x.2 + 2 + k = x.2 + (k + 2) by omega]
theorem strA_c {acc r : Bys} {k : Nat} {c : UInt8} (h0 : (c == 34) = false) (h1 : (c == 10) = false) (h : (c == 92) = false) : strA acc k (c :: r) = strA (acc ++ [c]) (k + 1) r := by
 have e : strL (c :: r) = (strL r).map fun x => (c :: x.1, x.2 + 1) := by
  rw [strL.eq_def (c :: r)]
  try simp only
  rw [if_neg (by rw [h0]; simp), if_neg (by rw [h1]; simp), if_neg (by rw [h]; simp)]
 unfold strA
 rw [e]
 simp only [Option.map_map]
 congr 1
 funext x
 simp only [Function.comp, List.append_assoc, List.singleton_append]
 rw [show x.2 + 1 + k = x.2 + (k + 1) by omega]
def unqR (l : Bys) : Bys × Int := match strL l with | some (s, k) => (s, (k : Int) + 1) | none => ([], 0)
theorem unq_no {l : Bys} (h : strL l = none) : unqR l = ([], 0) := by unfold unqR; rw [h]
theorem unq_is {l s : Bys} {k : Nat} (h : strL l = some (s, k)) : unqR l = (s, (k : Int) + 1) := by unfold unqR; rw [h]
theorem drop_at {l : Bys} {j : Nat} {c : UInt8} (h : l[j]? = some c) : l.drop j = c :: l.drop (j + 1) := by
 have hj := (List.getElem?_eq_some_iff.1 h).1
 rw [List.drop_eq_getElem_cons hj, (List.getElem?_eq_some_iff.1 h).2]
set_option maxRecDepth 100000 in
set_option maxHeartbeats 4000000 in
theorem unq_calls (l : Bys) (hl : l.length ≤ 100000) (w : World) : Calls Tryz.prog 75 #[.string (ofL (34 :: l))] w fun e w' => e = .returned (.tuple #[.string (ofL (unqR l).1), .int .i64 (unqR l).2]) ∧ Fr (fun _ => False) w w' := by
 refine wp_start1 Tryz.func75 rfl rfl (n := 44) (by decide) fun a E => ?_
 have hf : Fr (fun _ => False) w w := Fr.refl _ _
 refine s_ (r_ (ep (v := .string (ofL [])) E rfl (a_ rfl rfl) fun a E => ep (v := .int .i64 0) E rfl (a_ rfl rfl) fun a E => n_ (t_ (s_ (r_ (env_new (d := 4) E rfl (by decide) rfl (wanted_none rfl _) (run_alloc104 rfl) fun a w1 b eb hb f1 E => ?_))))))
 have hnb : w.heap.size ≤ b := by have := hf.size; omega
 have hB := Bld.made hb
 have hf := hf.trans f1
 clear f1 hb
 refine n_ (t_ (s_ (s_ (r_ (ep (v := .int .i64 1) E rfl (a_ rfl rfl) fun a E => n_ (t_ (bk_ (wp_loop (fun a w2 => ∃ (j : Nat) (acc : Bys), Env 44 [(0, .string (ofL (34 :: l))), (2, .string (ofL [])), (3, .int .i64 0), (4, .pointer (some ⟨b, 0, none⟩)), (5, .int .i64 ((j : Int) + 1))] a ∧ j ≤ l.length ∧ strL l = strA acc j (l.drop j) ∧ acc.length ≤ j ∧ Bld w2 b b acc ∧ Fr (fun _ => False) w w2) (fun a _ => l.length + 1 - (intOf (a.eval (.tmp 5))).toNat) ?_ ?_))))))))
 ·exact ⟨0, [], E.of ⟨E.g4, E.g3, E.g2, E.g1, E.g0, trivial⟩, Nat.zero_le _, strA_0 l, Nat.le_refl _, hB, hf⟩
 clear E
 rintro a w2 ⟨j, acc, E, hj, hi, hal, hB, hf⟩
 have hmu : l.length + 1 - (intOf (a.eval (.tmp 5))).toNat = l.length + 1 - (j + 1) := by rw [E.g4]; first | rfl | (simp [intOf]; done) | (simp only [intOf]; omega)
 rw [hmu]
 clear hmu
 refine s_ (s_ (r_ (ep E rfl (m_ rfl E.g4) fun a E => ep E rfl (m_ rfl E.g1) fun a E => ep (v := .int .i64 ((l.length : Int) + 1)) E rfl ((run_slen rfl E.g0).trans (by rw [List.length_cons]; rfl)) fun a E => ep (v := .bool (decide (((j : Int) + 1) < ((l.length : Int) + 1)))) E rfl (run_ilss E.g2 E.g0 Tryz.underlying3 rfl) fun a E => n_ (t_ ?_))))
 cases hq118 : (decide (((j : Int) + 1) < ((l.length : Int) + 1))) with
 | false =>
  rw [hq118] at E
  have hie : j = l.length := by have := of_decide_eq_false hq118; omega
  refine c_f E.g0 (x_ (te_ (te_ (be_ (t_ (s_ (r_ (es_ (v := .string (ofL [])) E rfl (a_ rfl rfl) fun a E => es_ (v := .int .i64 0) E rfl (a_ rfl rfl) fun a E => n_ (t_ (wr_ (ret_tmp2 (t := 2) (t2 := 3) rfl E E.g1 E.g0 ⟨?_, hf⟩)))))))))))
  rw [unq_no (by rw [hi, hie, List.drop_length, strA_nil])]
 | true =>
  rw [hq118] at E
  have hlt : j < l.length := by have := of_decide_eq_true hq118; omega
  obtain ⟨c, hc⟩ : ∃ c, l[j]? = some c := ⟨_, List.getElem?_eq_getElem hlt⟩
  refine c_t E.g0 (k_ (t_ (s_ (bk_ (s_ (r_ (ep E rfl (m_ rfl E.g4) fun a E => ep E rfl (m_ rfl E.g9) fun a E => ep (v := .int .u8 (c.toNat : Int)) E rfl (run_byte (i := j + 1) rfl E.g1 E.g0 (by simpa using hc)) fun a E => ep E rfl (a_ rfl E.g0) fun a E => n_ (t_ (s_ (r_ (ep E rfl (m_ rfl E.g0) fun a E => n_ (t_ (bk_ (s_ (r_ (ep (v := .bool ((c.toNat : Int) == 34)) E rfl (run_ueql E.g0 rfl rfl) fun a E => ep E rfl (a_ rfl E.g0) fun a E => n_ (t_ ?_)))))))))))))))))
  cases hq119 : ((c.toNat : Int) == 34) with
  | false =>
   rw [hq119] at E
   refine c_f E.g0 (s_ (r_ (ep (v := .bool ((c.toNat : Int) == 10)) E rfl (run_ueql E.g2 rfl rfl) fun a E => ep E rfl (a_ rfl E.g0) fun a E => n_ (t_ ?_))))
   cases hq120 : ((c.toNat : Int) == 10) with
   | false =>
    rw [hq120] at E
    refine c_f E.g0 (s_ (r_ (ep (v := .bool ((c.toNat : Int) == 92)) E rfl (run_ueql E.g4 rfl rfl) fun a E => ep E rfl (a_ rfl E.g0) fun a E => n_ (t_ ?_))))
    cases hq121 : ((c.toNat : Int) == 92) with
    | false =>
     rw [hq121] at E
     refine c_f E.g0 (r_ (ep E rfl (m_ rfl E.g7) fun a E => env_callv (d := 19) (R := fun u w8 => u = .nilIface ∧ Bld w8 b b (acc ++ [c]) ∧ Fr (fun r => b ≤ r) w2 w8) E rfl (by decide) rfl (wanted_none rfl _) (run_call2 (enters_of Tryz.func98 (by kernel_rfl) rfl) rfl rfl E.g19 E.g0) ((wbyte_calls hB c (by omega)).mono fun e w8 h => by obtain ⟨rfl, h⟩ := h; exact ⟨_, rfl, rfl, h⟩) fun a w1 u ⟨hu, hB2, f1⟩ E => ?_))
     subst hu
     have hB := hB2
     have hf := hf.trans' f1 (fun r hr e => by omega)
     clear f1 hB2
     refine n_ (b_ (b_ (t_ (r_ (ep E rfl (m_ rfl E.g21) fun a E => ep (v := .int .i64 (((j : Int) + 1) + 1)) E rfl (run_iadd Tryz.underlying3 E.g0 rfl (by omega) (by omega) rfl) fun a E => es_ E rfl (a_ rfl E.g0) fun a E => n_ (t_ ?_))))))
     have hin : strL l = strA (acc ++ [c]) (j + 1) (l.drop (j + 1)) := by rw [hi, drop_at hc, strA_c (by rw [q34]; exact hq119) (by rw [q10]; exact hq120) (by rw [q92]; exact hq121)]
     refine ⟨⟨j + 1, acc ++ [c], E.of ⟨E.g20, E.g21, E.g22, E.g23, E.g0.trans (by rw [Int.natCast_add]; rfl), trivial⟩, by omega, hin, by simp only [List.length_append, List.length_singleton]; omega, hB, hf⟩, ?_⟩
     rw [E.g0]; simp only [intOf]; omega
    | true =>
     rw [hq121] at E
     refine c_t E.g0 (s_ (r_ (ep E rfl (m_ rfl E.g19) fun a E => ep (v := .int .i64 (((j : Int) + 1) + 1)) E rfl (run_iadd Tryz.underlying3 E.g0 rfl (by omega) (by omega) rfl) fun a E => es_ E rfl (a_ rfl E.g0) fun a E => n_ (t_ (s_ (r_ (ep (v := .int .i64 (-1)) E rfl (a_ rfl rfl) fun a E => n_ (t_ (s_ (s_ (r_ (ep E rfl (m_ rfl E.g1) fun a E => ep E rfl (m_ rfl E.g20) fun a E => ep (v := .int .i64 ((l.length : Int) + 1)) E rfl ((run_slen rfl E.g0).trans (by rw [List.length_cons]; rfl)) fun a E => ep (v := .bool (decide ((((j : Int) + 1) + 1) < ((l.length : Int) + 1)))) E rfl (run_ilss E.g2 E.g0 Tryz.underlying3 rfl) fun a E => n_ (t_ ?_)))))))))))))
     cases hq122 : (decide ((((j : Int) + 1) + 1) < ((l.length : Int) + 1))) with
     | false =>
      rw [hq122] at E
      have hie2 : j + 1 = l.length := by have := of_decide_eq_false hq122; omega
      refine c_f E.g0 (k_ (t_ (s_ (s_ (r_ (ep E rfl (m_ rfl E.g4) fun a E => ep (v := .bool true) E rfl (run_ilss (m := (-1)) (n := 0) E.g0 rfl Tryz.underlying3 rfl) fun a E => n_ (t_ (c_t E.g0 (s_ (r_ (es_ (v := .string (ofL [])) E rfl (a_ rfl rfl) fun a E => es_ (v := .int .i64 0) E rfl (a_ rfl rfl) fun a E => n_ (t_ (wr_ (tr_ (br_ (br_ (tr_ (tr_ (br_ (tr_ (ret_tmp2 (t := 2) (t2 := 3) rfl E E.g1 E.g0 ⟨?_, hf⟩)))))))))))))))))))))
      rw [unq_no (by rw [hi, drop_at hc, hie2, List.drop_length, strA_b0 (by rw [q34]; exact hq119) (by rw [q10]; exact hq120) (by rw [q92]; exact hq121)])]
     | true =>
      rw [hq122] at E
      have hlt2 : j + 1 < l.length := by have := of_decide_eq_true hq122; omega
      obtain ⟨d, hd⟩ : ∃ d, l[j + 1]? = some d := ⟨_, List.getElem?_eq_getElem hlt2⟩
      refine c_t E.g0 (r_ (ep E rfl (m_ rfl E.g23) fun a E => ep E rfl (m_ rfl E.g6) fun a E => ep (v := .int .u8 (d.toNat : Int)) E rfl (run_byte (i := j + 2) rfl E.g1 (E.g0.trans (by rw [Int.add_assoc]; rfl)) (by simpa using hd)) fun a E => ec_ (v := .int .i64 (escI d)) E rfl (run_call2 (enters_of Tryz.func97 (by kernel_rfl) rfl) rfl rfl rfl E.g0) (ixb_calls [92, 34, 110] d.toNat d.toNat_lt _) fun a w1 f1 E => ?_))
      have hB := Bld.fr hB f1
      have hf := hf.trans' f1 (fun _ _ h => h.elim)
      clear f1
      refine es_ E rfl (a_ rfl E.g0) fun a E => n_ (t_ (s_ (s_ (r_ (ep E rfl (m_ rfl E.g0) fun a E => ep (v := .bool (decide ((escI d) < 0))) E rfl (run_ilss E.g0 rfl Tryz.underlying3 rfl) fun a E => n_ (t_ ?_))))))
      cases hq123 : (decide ((escI d) < 0)) with
      | false =>
       rw [hq123] at E
       have hesc := of_decide_eq_false hq123
       refine c_f E.g0 (k_ (t_ (r_ (ep E rfl (m_ rfl E.g2) fun a E => ep (v := .int .u8 ((esc d).toNat : Int)) E rfl (run_byte (i := (escI d).toNat) rfl rfl (E.g0.trans (by rw [Int.toNat_of_nonneg (esc_b d hesc).2])) (esc_b d hesc).1) fun a E => env_callv (d := 43) (R := fun u w8 => u = .nilIface ∧ Bld w8 b b (acc ++ [(esc d)]) ∧ Fr (fun r => b ≤ r) w1 w8) E rfl (by decide) rfl (wanted_none rfl _) (run_call2 (enters_of Tryz.func98 (by kernel_rfl) rfl) rfl rfl E.g34 E.g0) ((wbyte_calls hB (esc d) (by omega)).mono fun e w8 h => by obtain ⟨rfl, h⟩ := h; exact ⟨_, rfl, rfl, h⟩) fun a w1 u ⟨hu, hB2, f1⟩ E => ?_))))
       subst hu
       have hB := hB2
       have hf := hf.trans' f1 (fun r hr e => by omega)
       clear f1 hB2
       refine n_ (b_ (b_ (t_ (r_ (ep E rfl (m_ rfl E.g14) fun a E => ep (v := .int .i64 ((((j : Int) + 1) + 1) + 1)) E rfl (run_iadd Tryz.underlying3 E.g0 rfl (by omega) (by omega) rfl) fun a E => es_ E rfl (a_ rfl E.g0) fun a E => n_ (t_ ?_))))))
       have hin : strL l = strA (acc ++ [esc d]) (j + 2) (l.drop (j + 2)) := by rw [hi, drop_at hc, drop_at hd, strA_b2 (by rw [q34]; exact hq119) (by rw [q10]; exact hq120) (by rw [q92]; exact hq121) hesc]
       refine ⟨⟨j + 2, acc ++ [esc d], E.of ⟨E.g34, E.g35, E.g36, E.g37, E.g0.trans (by congr 1 <;> omega), trivial⟩, by omega, hin, by simp only [List.length_append, List.length_singleton]; omega, hB, hf⟩, ?_⟩
       rw [E.g0]; simp only [intOf]; omega
      | true =>
       rw [hq123] at E
       have hesc := of_decide_eq_true hq123
       refine c_t E.g0 (s_ (r_ (es_ (v := .string (ofL [])) E rfl (a_ rfl rfl) fun a E => es_ (v := .int .i64 0) E rfl (a_ rfl rfl) fun a E => n_ (t_ (wr_ (tr_ (br_ (br_ (tr_ (tr_ (br_ (tr_ (ret_tmp2 (t := 2) (t2 := 3) rfl E E.g1 E.g0 ⟨?_, hf⟩)))))))))))))
       rw [unq_no (by rw [hi, drop_at hc, drop_at hd, strA_b1 (by rw [q34]; exact hq119) (by rw [q10]; exact hq120) (by rw [q92]; exact hq121) hesc])]
   | true =>
    rw [hq120] at E
    refine c_t E.g0 (s_ (r_ (es_ (v := .string (ofL [])) E rfl (a_ rfl rfl) fun a E => es_ (v := .int .i64 0) E rfl (a_ rfl rfl) fun a E => n_ (t_ (wr_ (br_ (br_ (tr_ (tr_ (br_ (tr_ (ret_tmp2 (t := 2) (t2 := 3) rfl E E.g1 E.g0 ⟨?_, hf⟩))))))))))))
    rw [unq_no (by rw [hi, drop_at hc, strA_n (by rw [q34]; exact hq119) (by rw [q10]; exact hq120)])]
  | true =>
   rw [hq119] at E
   refine c_t E.g0 (s_ (r_ (env_callv (d := 22) (R := fun u w8 => u = .string (ofL acc) ∧ Fr (fun r => b ≤ r) w2 w8) E rfl (by decide) rfl (wanted_none rfl _) (run_call1 (enters_of Tryz.func71 (by kernel_rfl) rfl) rfl rfl E.g14) ((str_calls hB (by have := hB.lt; omega)).mono fun e w8 h => by obtain ⟨rfl, h⟩ := h; exact ⟨_, rfl, rfl, h⟩) fun a w1 u ⟨hu, f1⟩ E => ?_)))
   subst hu
   have hf := hf.trans' f1 (fun r hr e => by omega)
   clear f1
   refine ep E rfl (m_ rfl E.g16) fun a E => ep (v := .int .i64 (((j : Int) + 1) + 1)) E rfl (run_iadd Tryz.underlying3 E.g0 rfl (by omega) (by omega) rfl) fun a E => es_ E rfl (a_ rfl E.g2) fun a E => es_ E rfl (a_ rfl E.g1) fun a E => n_ (t_ (wr_ (br_ (br_ (tr_ (tr_ (br_ (tr_ (ret_tmp2 (t := 2) (t2 := 3) rfl E E.g1 E.g0 ⟨?_, hf⟩)))))))))
   rw [unq_is (by rw [hi, drop_at hc, strA_q (by rw [q34]; exact hq119)])]
   show Ending.returned (.tuple #[.string (ofL acc), .int .i64 ((j : Int) + 1 + 1)]) = .returned (.tuple #[.string (ofL acc), .int .i64 (((1 + j : Nat) : Int) + 1)])
   rw [show (((1 + j : Nat) : Int) + 1) = (j : Int) + 1 + 1 by omega]
end Go.Proofs.YtjaffpnegdcjnaaGreatDoor
/- The lexer: plain laws of its loops. -/
set_option linter.unusedVariables false
set_option linter.unusedSimpArgs false
namespace Go.Proofs.YtjaffpnegdcjnaaGreatDoor
open Go.RowKit Go.Pl
theorem ng_n {Q : Exit → Act → World → Prop} {a : Act} {w : World} (h : Q .normal a w) : Exit.noGoto Q .normal a w := h
theorem ng_r {Q : Exit → Act → World → Prop} {a : Act} {w : World} (h : Q .ret a w) : Exit.noGoto Q .ret a w := h
abbrev fdA (x : Tok Int × Int) : Array Value := #[.int .i64 x.1.1, .string (ofL x.1.2.1), .int .i64 x.1.2.2, .int .i64 x.2]
def fdL (x : Tok Int × Int) : List Value := [.int .i64 x.1.1, .string (ofL x.1.2.1), .int .i64 x.1.2.2, .int .i64 x.2]
def lexV (s : Bys) : List (Array Value) := (lexL s 0).map fun x => #[.agg (fdA x)]
/-- What the iterator over a text's tokens needs. -/
def TokK (c1 c2 c3 : Nat) (s : Bys) (W : World) : Prop := LexK W c1 c3 s ∧ W.heap[c2]? = some (.cells #[.func (.func 73) #[] #[.pointer (some ⟨c1, 0, none⟩), .pointer (some ⟨c3, 0, none⟩)]] 113 (0, 0))
section
variable {o : Oper} {w : World} {ρ : Operand → Value} {x y z : Operand} {g off : Nat}
theorem run_of81 {t : Tok Int} {e : Int} (ho : o.op = .build 81 #[(0, x), (1, y)]) (hx : ρ x = .agg (tkA t)) (hy : ρ y = .int .i64 e) : (execOp ρ o).run Tryz.prog w = .ok (.value (.agg (fdA (t, e)))) w := by
 simp [execOp, ho, hx, hy, go_sem]
theorem info81 : (Tryz.prog.info? 81).map (·.size) = some 4 := by kernel_rfl
theorem run_ld81 {t : Tok Int × Int} (ho : o.op = .load 81 x) (hx : ρ x = .pointer (some ⟨g, off, none⟩)) (h : w.rangeAt g off (fdL t)) : (execOp ρ o).run Tryz.prog w = .ok (.value (.agg (fdA t))) w := by
 have := run_loadAt_mid (P := Tryz.prog) w g off 81 (fdA t).toList _ h Tryz.underlying81 rfl info81
 simp only [execOp, ho, hx, Sem.run_bind, this, Result.andThen_ok, Sem.run_pure]
theorem rng4 {b : Nat} {cs : Array Value} {T : TypeId} (h : w.heap[b]? = some (.cells cs T (0, 0))) (k : Nat) {p : Tok Int × Int} (h0 : cs[k]? = some (.int .i64 p.1.1)) (h1 : cs[k + 1]? = some (.string (ofL p.1.2.1))) (h2 : cs[k + 2]? = some (.int .i64 p.1.2.2)) (h3 : cs[k + 3]? = some (.int .i64 p.2)) : w.rangeAt b k (fdL p) := by
 intro j u hu
 rw [cell_of_blk h]
 match j, hu with
 | 0, hu => simp [fdL] at hu; subst hu; exact h0
 | 1, hu => simp [fdL] at hu; subst hu; exact h1
 | 2, hu => simp [fdL] at hu; subst hu; exact h2
 | 3, hu => simp [fdL] at hu; subst hu; exact h3
 | j + 4, hu => simp [fdL] at hu
theorem run_st81 {b : Nat} {s t : Tok Int × Int} {T : TypeId} (ho : o.op = .store 81 x y) (hx : ρ x = .pointer (some ⟨b, 0, none⟩)) (hy : ρ y = .agg (fdA t)) (h : w.heap[b]? = some (.cells (fdA s) T (0, 0))) :
  ∃ w', (execOp ρ o).run Tryz.prog w = .ok .skip w' ∧ w'.heap[b]? = some (.cells (fdA t) T (0, 0)) ∧ Fr (fun r => r = b) w w' := by
 have := run_storeVar_row (P := Tryz.prog) w b T 81 (fdA s) (fdA t) h (by rw [info81]; rfl) rfl (by simp [Value.oneCell'])
 refine ⟨w.setRow b (fdA t), ?_, setRow_same h, setRow_fr⟩
 simp only [execOp, ho, hx, hy, Instr.storeAt, Instr.sureAddr, Sem.run_bind, Sem.run_pure, Result.andThen, this]
end
theorem env_st81 {O : Array Oper} {Q : Exit → Act → World → Prop} {rest : List Oper} {o : Oper} {a : Act} {w : World} {n b : Nat} {L : List (Nat × Value)} {ds : List Deferred} {x y : Operand} {s t : Tok Int × Int} {T : TypeId} (E : EnvD ds n L a) (hd : o.dst = none) (hw : Region.wanted o (yielded O a.tmps) = true) (ho : o.op = .store 81 x y) (hx : a.eval x = .pointer (some ⟨b, 0, none⟩)) (hy : a.eval y = .agg (fdA t)) (h : w.heap[b]? = some (.cells (fdA s) T (0, 0)))
  (k : ∀ w', w'.heap[b]? = some (.cells (fdA t) T (0, 0)) → Fr (fun r => r = b) w w' → EnvD ds n L a → wpList Tryz.prog O Q rest a w') : wpList Tryz.prog O Q (o :: rest) a w := by
 obtain ⟨w', hr, h1, h2⟩ := run_st81 ho hx hy h
 exact env_store E hd hw hr fun E' => k w' h1 h2 E'
-- ---- what is seen at an offset
theorem clsAt_len {s : Bys} {i : Nat} (h : s.length ≤ i) : clsAt s i = 0 := by unfold clsAt; rw [List.getElem?_eq_none h]
theorem clsAt_is {s : Bys} {i : Nat} {c : UInt8} (h : s[i]? = some c) : clsAt s i = cl8 c := by unfold clsAt; rw [h]
theorem cl8_q (c : UInt8) : (((cl8 c == 1) == isBlk c) && ((cl8 c == 2) == (c == 35)) && ((cl8 c == 3) == isLet c) && ((cl8 c == 4) == isDig c) && ((cl8 c == 7) == (c == 34)) && ((cl8 c == 6) == isSym c) && ((cl8 c == 3 || cl8 c == 4 || cl8 c == 5) == isWrd c)) = true :=
 u8_all (p := fun c => ((cl8 c == 1) == isBlk c) && ((cl8 c == 2) == (c == 35)) && ((cl8 c == 3) == isLet c) && ((cl8 c == 4) == isDig c) && ((cl8 c == 7) == (c == 34)) && ((cl8 c == 6) == isSym c) && ((cl8 c == 3 || cl8 c == 4 || cl8 c == 5) == isWrd c)) (by decide +kernel) c
theorem cl8_qs (c : UInt8) : (cl8 c == 1) = isBlk c ∧ (cl8 c == 2) = (c == 35) ∧ (cl8 c == 3) = isLet c ∧ (cl8 c == 4) = isDig c ∧ (cl8 c == 7) = (c == 34) ∧ (cl8 c == 6) = isSym c ∧ (cl8 c == 3 || cl8 c == 4 || cl8 c == 5) = isWrd c := by
 have := cl8_q c
 simp only [Bool.and_eq_true, beq_iff_eq] at this
 obtain ⟨⟨⟨⟨⟨⟨h1, h2⟩, h3⟩, h4⟩, h5⟩, h6⟩, h7⟩ := this
 exact ⟨h1, h2, h3, h4, h5, h6, h7⟩
theorem natq (a : Nat) (b : Nat) : (((a : Nat) : Int) == (b : Int)) = (a == b) := by
 by_cases h : a = b
 ·subst h; simp
 ·rw [beq_eq_false_iff_ne.2 h, beq_eq_false_iff_ne.2 (by omega)]
/-- A word goes on. -/
def wrdAt (s : Bys) (i : Nat) : Bool := clsAt s i == 3 || clsAt s i == 4 || clsAt s i == 5
theorem wrdAt_is {s : Bys} {i : Nat} {c : UInt8} (h : s[i]? = some c) : wrdAt s i = isWrd c := by
 unfold wrdAt; rw [clsAt_is h]; exact (cl8_qs c).2.2.2.2.2.2
theorem wrdAt_no {s : Bys} {i : Nat} (h : s.length ≤ i) : wrdAt s i = false := by unfold wrdAt; rw [clsAt_len h]; rfl
def digAt (s : Bys) (i : Nat) : Bool := clsAt s i == 4
theorem digAt_is {s : Bys} {i : Nat} {c : UInt8} (h : s[i]? = some c) : digAt s i = isDig c := by
 unfold digAt; rw [clsAt_is h]; exact (cl8_qs c).2.2.2.1
theorem digAt_no {s : Bys} {i : Nat} (h : s.length ≤ i) : digAt s i = false := by unfold digAt; rw [clsAt_len h]; rfl
/-- Where a run of bytes ends. -/
structure RunTo (p : UInt8 → Bool) (s : Bys) (f j : Nat) : Prop where
 le : f ≤ j
 hi : j ≤ s.length
 all : (s.drop f).takeWhile p = (s.drop f).take (j - f) ++ (s.drop j).takeWhile p
theorem RunTo.start {p : UInt8 → Bool} {s : Bys} {f : Nat} (h : f ≤ s.length) : RunTo p s f f := ⟨Nat.le_refl _, h, by simp⟩
theorem RunTo.step {p : UInt8 → Bool} {s : Bys} {f j : Nat} {c : UInt8} (h : RunTo p s f j) (hc : s[j]? = some c) (hp : p c = true) : RunTo p s f (j + 1) := by
 have hj := (List.getElem?_eq_some_iff.1 hc).1
 refine ⟨by have := h.le; omega, by omega, ?_⟩
 rw [h.all, drop_at hc, List.takeWhile_cons, if_pos hp]
 have hle := h.le
 have : (s.drop f).take (j + 1 - f) = (s.drop f).take (j - f) ++ [c] := by
  rw [show j + 1 - f = (j - f) + 1 by omega, List.take_add_one, List.getElem?_drop, show f + (j - f) = j by omega, hc]; rfl
 rw [this, List.append_assoc]; rfl
theorem RunTo.stop {p : UInt8 → Bool} {s : Bys} {f j : Nat} (h : RunTo p s f j) (hs : ∀ c, s[j]? = some c → p c = false) : (s.drop f).takeWhile p = (s.drop f).take (j - f) ∧ ((s.drop f).takeWhile p).length = j - f := by
 have e : (s.drop j).takeWhile p = [] := by
  cases hq : s.drop j with
  | nil => rfl
  | cons c r =>
   have : s[j]? = some c := by
    have := congrArg (fun l => l[0]?) hq
    simpa [List.getElem?_drop] using this
   rw [List.takeWhile_cons, hs c this]; rfl
 have := h.all
 rw [e, List.append_nil] at this
 refine ⟨this, ?_⟩
 rw [this, List.length_take, List.length_drop]
 have := h.le; have := h.hi; omega
theorem take_cons_sub {s : Bys} {i j : Nat} {c : UInt8} (hc : s[i]? = some c) (h : i + 1 ≤ j) : (s.take j).drop i = c :: (s.drop (i + 1)).take (j - (i + 1)) := by
 rw [List.drop_take, drop_at hc, show j - i = (j - (i + 1)) + 1 by omega, List.take_succ_cons]
/-- The tokens behind k of them begin at i. -/
def LexAt (s : Bys) (k i : Nat) : Prop := i ≤ s.length ∧ k ≤ (lexL s 0).length ∧ (lexL s 0).drop k = lexL (s.drop i) i
theorem LexAt.zero (s : Bys) : LexAt s 0 0 := ⟨Nat.zero_le _, Nat.zero_le _, rfl⟩
theorem LexAt.done {s : Bys} {k : Nat} (h : LexAt s k s.length) : k = (lexL s 0).length := by
 obtain ⟨_, h1, h2⟩ := h
 rw [List.drop_length, lexL_nil] at h2
 have := congrArg List.length h2
 simp at this; omega
theorem LexAt.gap {s : Bys} {k i : Nat} {c : UInt8} (h : LexAt s k i) (hc : s[i]? = some c) {m : Nat} (ho : one c (s.drop (i + 1)) = (0, [], m, 0)) (hm : i + 1 + m ≤ s.length) : LexAt s k (i + 1 + m) := by
 obtain ⟨_, h1, h2⟩ := h
 refine ⟨hm, h1, ?_⟩
 rw [h2, drop_at hc, lexL_cons, ho]
 simp only [bne_self_eq_false, Bool.false_eq_true, if_false, beq_self_eq_true, if_true, List.drop_drop]
 rw [show (i : Int) + 1 + (m : Int) = ((i + 1 + m : Nat) : Int) by omega]
theorem LexAt.tok {s : Bys} {k i : Nat} {c : UInt8} {kd : Int} {tx : Bys} {m : Nat} (h : LexAt s k i) (hc : s[i]? = some c) (ho : one c (s.drop (i + 1)) = (kd, tx, m, 0)) (hk : kd ≠ 0) (hm : i + 1 + m ≤ s.length) : (lexL s 0)[k]? = some ((kd, tx, (i : Int)), 0) ∧ LexAt s (k + 1) (i + 1 + m) := by
 obtain ⟨_, h1, h2⟩ := h
 rw [drop_at hc, lexL_cons, ho] at h2
 simp only [bne_self_eq_false, Bool.false_eq_true, if_false, List.drop_drop] at h2
 rw [if_neg (by simpa using hk)] at h2
 have h3 : (lexL s 0)[k]? = some ((kd, tx, (i : Int)), 0) := by
  have := congrArg (fun l => l[0]?) h2
  simpa [List.getElem?_drop] using this
 refine ⟨h3, hm, (List.getElem?_eq_some_iff.1 h3).1, ?_⟩
 have := congrArg (List.drop 1) h2
 rw [List.drop_drop] at this
 rw [this]
 simp only [List.drop_succ_cons, List.drop_zero]
 rw [show (i : Int) + 1 + (m : Int) = ((i + 1 + m : Nat) : Int) by omega]
theorem LexAt.err {s : Bys} {k i : Nat} {c : UInt8} {kd : Int} {tx : Bys} {m : Nat} {e : Int} (h : LexAt s k i) (hc : s[i]? = some c) (ho : one c (s.drop (i + 1)) = (kd, tx, m, e)) (he : e ≠ 0) : (lexL s 0)[k]? = some ((kd, tx, (i : Int)), e) ∧ k + 1 = (lexL s 0).length := by
 obtain ⟨_, h1, h2⟩ := h
 rw [drop_at hc, lexL_cons, ho] at h2
 simp only at h2
 rw [if_pos (by simpa using he)] at h2
 have h3 : (lexL s 0)[k]? = some ((kd, tx, (i : Int)), e) := by
  have := congrArg (fun l => l[0]?) h2
  simpa [List.getElem?_drop] using this
 refine ⟨h3, ?_⟩
 have := congrArg List.length h2
 rw [List.length_drop] at this
 simp at this
 have := (List.getElem?_eq_some_iff.1 h3).1
 omega
-- ---- the kinds
theorem one_hash {c : UInt8} {l : Bys} (hb : isBlk c = false) (h : (c == 35) = true) : one c l = (0, [], (l.takeWhile (· != 10)).length, 0) := by
 unfold one; simp only [hb, h, Bool.false_eq_true, if_false, if_true]
theorem one_letq {c : UInt8} {l : Bys} (h : isLet c = true) : one c l = (1, c :: l.takeWhile isWrd, (l.takeWhile isWrd).length, if (l.takeWhile isWrd).length + 1 > 24 then 2 else 0) := by
 obtain ⟨h1, h2, _, _⟩ := isLet_cls h
 unfold one; simp only [h1, h2, h, Bool.false_eq_true, if_false, if_true]
def hdW : Bys → Bool
 | d :: _ => isWrd d
 | [] => false
theorem one_digq {c : UInt8} {l : Bys} (h : isDig c = true) : one c l = ((2 : Int), c :: l.takeWhile isDig, (l.takeWhile isDig).length, if ((l.takeWhile isDig).length + 1 > 7 || hdW (l.dropWhile isDig)) = true then (4 : Int) else 0) := by
 obtain ⟨h1, h2, h3, _⟩ := isDig_cls h
 unfold one; simp only [h1, h2, h3, h, Bool.false_eq_true, if_false, if_true]
 cases l.dropWhile isDig <;> rfl
theorem q34_cls {c : UInt8} (h : (c == 34) = true) : isBlk c = false ∧ (c == 35) = false ∧ isLet c = false ∧ isDig c = false := by
 rw [beq_iff_eq] at h; subst h; decide
theorem one_strq {c : UInt8} {l : Bys} (h : (c == 34) = true) : one c l = (match strL l with | some (s, k) => (3, s, k, 0) | none => (0, [], 0, 3)) := by
 obtain ⟨h1, h2, h3, h4⟩ := q34_cls h
 unfold one; simp only [h1, h2, h3, h4, h, Bool.false_eq_true, if_false, if_true]
 cases strL l <;> rfl
theorem one_oth {c : UInt8} {l : Bys} (h1 : isBlk c = false) (h2 : (c == 35) = false) (h3 : isLet c = false) (h4 : isDig c = false) (h5 : (c == 34) = false) (h6 : isSym c = false) : one c l = (0, [], 0, 3) := by
 unfold one; simp only [h1, h2, h3, h4, h5, h6, Bool.false_eq_true, if_false]
theorem dropWhile_take {p : UInt8 → Bool} (l : Bys) : l.dropWhile p = l.drop (l.takeWhile p).length := by
 induction l with
 | nil => rfl
 | cons c l ih =>
  rw [List.dropWhile_cons, List.takeWhile_cons]
  split
  ·simp [ih]
  ·rfl
theorem strL_len : ∀ (n : Nat) (l : Bys), l.length ≤ n → ∀ {s : Bys} {k : Nat}, strL l = some (s, k) → k ≤ l.length := fun n l h s k hs => (strL_app n l [] h hs).2
theorem run_word {p : UInt8 → Bool} {s : Bys} {i j : Nat} {c : UInt8} (hc : s[i]? = some c) (hp : p c = true) (hr : RunTo p s i j) (hs : ∀ c, s[j]? = some c → p c = false) : i + 1 ≤ j ∧ c :: (s.drop (i + 1)).takeWhile p = (s.take j).drop i ∧ ((s.drop (i + 1)).takeWhile p).length = j - (i + 1) := by
 obtain ⟨h1, h2⟩ := hr.stop hs
 rw [drop_at hc, List.takeWhile_cons, if_pos hp] at h1 h2
 have h3 := hr.hi
 have h4 := hr.le
 simp only [List.length_cons] at h2
 refine ⟨by omega, ?_, by omega⟩
 rw [h1, ← drop_at hc, List.drop_take]
theorem let_one {s : Bys} {i j : Nat} {c : UInt8} (hc : s[i]? = some c) (h : isLet c = true) (hr : RunTo isWrd s i j) (hs : wrdAt s j = false) : one c (s.drop (i + 1)) = (1, (s.take j).drop i, j - (i + 1), if (24 : Int) < (j : Int) - (i : Int) then 2 else 0) ∧ i + 1 ≤ j := by
 obtain ⟨h1, h2, h3⟩ := run_word hc (isLet_cls h).2.2.2 hr (fun c hc => by rw [← wrdAt_is hc]; exact hs)
 refine ⟨?_, h1⟩
 rw [one_letq h, h2, h3]
 have : (j - (i + 1) + 1 > 24) ↔ ((24 : Int) < (j : Int) - (i : Int)) := by omega
 simp only [this]
theorem hdW_at {s : Bys} {j : Nat} : hdW (s.drop j) = wrdAt s j := by
 cases hq : s[j]? with
 | none =>
  have hj : s.length ≤ j := List.getElem?_eq_none_iff.1 hq
  rw [List.drop_of_length_le hj, wrdAt_no hj]; rfl
 | some c => rw [drop_at hq, wrdAt_is hq]; rfl
theorem dig_one {s : Bys} {i j : Nat} {c : UInt8} (hc : s[i]? = some c) (h : isDig c = true) (hr : RunTo isDig s i j) (hs : digAt s j = false) : one c (s.drop (i + 1)) = (2, (s.take j).drop i, j - (i + 1), if (decide ((7 : Int) < (j : Int) - (i : Int)) || wrdAt s j) = true then 4 else 0) ∧ i + 1 ≤ j := by
 obtain ⟨h1, h2, h3⟩ := run_word hc h hr (fun c hc => by rw [← digAt_is hc]; exact hs)
 refine ⟨?_, h1⟩
 have hdd : (s.drop (i + 1)).dropWhile isDig = s.drop j := by
  rw [dropWhile_take, h3, List.drop_drop, show i + 1 + (j - (i + 1)) = j by omega]
 rw [one_digq h, h2, h3, hdd, hdW_at]
 have : decide (j - (i + 1) + 1 > 7) = decide ((7 : Int) < (j : Int) - (i : Int)) := by rw [decide_eq_decide]; omega
 rw [this]
theorem hash_one {s : Bys} {i j : Nat} {c : UInt8} (hc : s[i]? = some c) (hb : isBlk c = false) (h : (c == 35) = true) (hr : RunTo (· != 10) s i j) (hs : ∀ c, s[j]? = some c → (c != 10) = false) : one c (s.drop (i + 1)) = (0, [], j - (i + 1), 0) ∧ i + 1 ≤ j := by
 have hp : (c != 10) = true := by rw [beq_iff_eq] at h; subst h; decide
 obtain ⟨h1, h2, h3⟩ := run_word hc hp hr hs
 exact ⟨by rw [one_hash hb h, h3], h1⟩
theorem str_one {s : Bys} {i : Nat} {c : UInt8} (hc : s[i]? = some c) (h : (c == 34) = true) : s.drop i = 34 :: s.drop (i + 1) ∧ ((∃ st m, unqR (s.drop (i + 1)) = (st, ((m + 1 : Nat) : Int)) ∧ one c (s.drop (i + 1)) = (3, st, m, 0) ∧ i + 1 + m ≤ s.length) ∨ (unqR (s.drop (i + 1)) = ([], 0) ∧ one c (s.drop (i + 1)) = (0, [], 0, 3))) := by
 refine ⟨by rw [drop_at hc]; rw [beq_iff_eq] at h; rw [h], ?_⟩
 have hi := (List.getElem?_eq_some_iff.1 hc).1
 rw [one_strq h]
 cases hq : strL (s.drop (i + 1)) with
 | none => exact .inr ⟨unq_no hq, rfl⟩
 | some x =>
  obtain ⟨st, m⟩ := x
  have := strL_len _ _ (Nat.le_refl _) hq
  rw [List.length_drop] at this
  exact .inl ⟨st, m, by rw [unq_is hq]; rfl, rfl, by omega⟩
theorem wrd_35 {s : Bys} {j : Nat} (h : digAt s j = false) : wrdAt s j = (clsAt s j == 3 || clsAt s j == 5) := by
 unfold digAt at h
 unfold wrdAt
 rw [h]; simp
theorem u10 (c : UInt8) : (c != 10) = ((c.toNat : Int) != 10) := by
 have := q10 c
 unfold bne
 rw [this]
section
variable {P : Program} {O : Array Oper} {Q : Exit → Act → World → Prop} {rest : List Oper} {o : Oper} {a : Act} {w : World} {n d m : Nat} {L : List (Nat × Value)} {ds : List Deferred}
theorem envI_skip {g s : Nat} {b : Bool} (E : EnvD ds n L a) (hd : o.dst = some d) (hn : d < n) (hf : (L.map (·.1)).contains d = false) (hgd : o.guard = some (g, b)) (hg : (O[g]?).bind (·.dst) = some s) (hs : s < n) (hv : a.eval (.tmp s) = .bool (!b)) (k : ∀ a', EnvD ds n ((d, undef) :: L) a' → wpListIn Fence.wide m P O Q rest a' w) : wpListIn Fence.wide m P O Q (o :: rest) a w := by
 simp only [wpListIn, w_no E hgd hg hs hv, Bool.false_eq_true, if_false]
 refine ⟨fun _ _ => trivial, ?_⟩
 rw [hd]
 exact k _ (E.put hn hf)
end
end Go.Proofs.YtjaffpnegdcjnaaGreatDoor
/- The lexer: the iterator over the tokens. -/
set_option linter.unusedVariables false
set_option linter.unusedSimpArgs false
namespace Go.Proofs.YtjaffpnegdcjnaaGreatDoor
open Go.RowKit Go.Pl
/-- What an iterator owes that keeps memory of its own over the rounds: a round turns nothing at or above h. -/
def IterOf2 (P : Program) (gf : Nat) (lb : Array Value) (vs : List (Array Value)) (Kp : World → Prop) : Prop :=
 ∀ (l : Nat) (J : Nat → Nat → World → Prop) (S : World → Prop) (W : World), (∀ k h W W', J k h W → Fr (fun _ => False) W W' → J k h W') → (∀ W W', S W → Fr (fun _ => False) W W' → S W') → (∀ k h W, J k h W → Kp W ∧ h ≤ W.heap.size) →
  (∀ k h v W, J k h W → vs[k]? = some v → RoundOf P l v W (fun W' => (∃ h', J (k + 1) h' W') ∧ Fr (fun b => b < h) W W') S) → (∃ h, J 0 h W) →
  Calls P gf (#[.func (.yield l) #[] #[]] ++ lb) W fun e W' => (∃ v, e = .returned v) ∧ ((∃ h, J vs.length h W') ∨ S W')
section
variable {P : Program} {Q : Exit → Act → World → Prop} {a : Act} {w : World}
theorem wp_rangeF2 {g : Operand} {ps : Array Tmp} {assign body : Code} {gf : Nat} {lb : Array Value} {vs : List (Array Value)} {Kp : World → Prop}
  (I : Nat → Nat → World → Prop) (St : World → Prop) (A : Array Value → Act → World → Prop)
  (hg : a.eval g = .func (.func gf) #[] lb) (eg : ∀ args w, (callFunc gf args).run P w = .ok (.enter gf args) w)
  (hY : IterOf2 P gf lb vs Kp) (hps : ∀ v ∈ vs, v.size = ps.size)
  (hI : ∀ k h W W', I k h W → Fr (fun b => b = w.heap.size ∨ b = w.heap.size + 1) W W' → I k h W') (hS : ∀ W W', St W → Fr (fun b => b = w.heap.size ∨ b = w.heap.size + 1) W W' → St W') (hK : ∀ k h W, I k h W → Kp W) (h0 : ∀ W, Fr (fun _ => False) w W → w.heap.size + 2 ≤ W.heap.size → I 0 (w.heap.size + 2) W)
  (hAf : ∀ v a1 W W', A v a1 W → Fr (fun b => b = w.heap.size ∨ b = w.heap.size + 1) W W' → A v a1 W')
  (hassign : ∀ (l : Nat) (v : Array Value) (W : World) (K : Act → World → Prop), v ∈ vs → w.heap.size + 2 ≤ W.heap.size → (∀ a1 W1, A v a1 W1 → Fr (fun _ => False) W W1 → K a1 W1) → assign.wpIn (FR l) 0 P (Exit.then K (fun _ _ _ => False)) { tmps := (ps.zip v).foldl (fun t (p, v) => t.setIfInBounds p v) a.tmps, defers := [] } W)
  (hbody : ∀ (k h : Nat) (v : Array Value) (a1 : Act) (W : World), vs[k]? = some v → I k h W → A v a1 W → w.heap.size + 2 ≤ h → h ≤ W.heap.size → (∃ r, W.heap[w.heap.size + 1]? = some (.loop r)) →
   body.wpIn (FR (w.heap.size + 1)) 0 P (rndP (fun W' => ((∃ h', I (k + 1) h' W' ∧ h ≤ h' ∧ h' ≤ W'.heap.size) ∧ Fr (fun b => b < h) W W') ∧ W'.heap[w.heap.size]? = W.heap[w.heap.size]? ∧ W'.heap[w.heap.size + 1]? = W.heap[w.heap.size + 1]?) (fun W' => St W' ∧ W'.heap[w.heap.size]? = W.heap[w.heap.size]? ∧ W'.heap[w.heap.size + 1]? = W.heap[w.heap.size + 1]?)) a1 W)
  (hdone : ∀ h W, I vs.length h W → W.heap[w.heap.size]? = some (.deferred (some [])) → Q .normal { a with defers := { target := .collected w.heap.size, args := #[] } :: a.defers } W)
  (hstop : ∀ W, St W → W.heap[w.heap.size]? = some (.deferred (some [])) → Q .ret { a with defers := { target := .collected w.heap.size, args := #[] } :: a.defers } W) :
  (Code.rangeFunc g ps assign body).wp P Q a w := by
 refine (wpIn_wide (n := 0)).1 (wpIn_rangeFunc ?_)
 intro fn hfn
 obtain ⟨rec, hrec⟩ : ∃ rec : LoopState → Option Code → Loop, rec = fun st pe => { state := st, pending := pe, fn, tmps := a.tmps, params := ps, assign, body, defers := w.heap.size } := ⟨_, rfl⟩
 obtain ⟨W1, hW1⟩ : ∃ W1, (w.alloc (.deferred (some []))).alloc (.loop (rec .ready none)) = W1 := ⟨_, rfl⟩
 have hL1 : W1.heap[w.heap.size + 1]? = some (.loop (rec .ready none)) := by
  rw [← hW1]; exact blk_alloc_at (by simp) _
 have hK1 : W1.heap[w.heap.size]? = some (.deferred (some [])) := by
  rw [← hW1]; exact (blk_alloc (by simp) _).trans (blk_alloc_new _ _)
 have hf1 : Fr (fun _ => False) w W1 := by rw [← hW1]; exact ((Fr.refl _ _).alloc _).alloc _
 have hsz1 : w.heap.size + 2 ≤ W1.heap.size := by have := lt_of_blk hL1; omega
 refine ⟨w.heap.size + 1, [{ target := .collected w.heap.size, args := #[] }], W1, { target := .fn (.func gf) lb, args := #[.func (.yield (w.heap.size + 1)) #[] #[]] }, W1, gf,
  #[.func (.yield (w.heap.size + 1)) #[] #[]] ++ lb, W1, ?_, ?_, fun _ _ => trivial, ?_, fun h => (by cases h), ?_⟩
 ·rw [← hW1, hrec]; exact run_enterLoop_outer _ _ _ _ _
 ·simp only [resolve, hg]
  simp [go_sem]
 ·simp [invoke, go_sem, eg]
 ·refine callsIn_wide.2 ((hY (w.heap.size + 1) (fun k h W => I k h W ∧ W.heap[w.heap.size + 1]? = some (.loop (rec .ready none)) ∧ W.heap[w.heap.size]? = some (.deferred (some [])) ∧ w.heap.size + 2 ≤ h ∧ h ≤ W.heap.size)
   (fun W => St W ∧ W.heap[w.heap.size + 1]? = some (.loop (rec .done (some .ret))) ∧ W.heap[w.heap.size]? = some (.deferred (some []))) W1
   (fun k h W W' hh f => ⟨hI k h W W' hh.1 (f.mono fun _ _ h => h.elim), f.obj hh.2.1 id, f.obj hh.2.2.1 id, hh.2.2.2.1, Nat.le_trans hh.2.2.2.2 f.size⟩) (fun W W' h f => ⟨hS W W' h.1 (f.mono fun _ _ h => h.elim), f.obj h.2.1 id, f.obj h.2.2 id⟩) (fun k h W hh => ⟨hK k h W hh.1, hh.2.2.2.2⟩) ?_ ⟨_, h0 _ hf1 hsz1, hL1, hK1, Nat.le_refl _, hsz1⟩).mono ?_)
  ·rintro k h v W ⟨hi, hl, hk, hwh, hhW⟩ hv
   have hvm : v ∈ vs := List.mem_of_getElem? hv
   have hlt := lt_of_blk hl
   have hy := run_yield (P := P) (args := v) hl (by rw [hrec]; exact hps v hvm)
   rw [hrec] at hy
   refine ⟨0, fn, _, assign, body, hy, roundIn_of_wpIn hfn (hassign _ v W _ hvm (by omega) ?_)⟩
   clear hy
   intro a1 W1 hA hfa
   replace hi := hI _ _ _ _ hi (hfa.mono fun _ _ h => h.elim)
   replace hl := hfa.obj hl id
   replace hk := hfa.obj hk id
   have hlt := lt_of_blk hl
   refine ⟨_, run_beginRound hl (by rw [hrec]), ?_⟩
   have f2 := Fr.putObj W1 (w.heap.size + 1) (.loop { rec .ready none with state := .busy })
   have hl2 : (W1.putObj (w.heap.size + 1) (.loop { rec .ready none with state := .busy })).heap[w.heap.size + 1]? = some (.loop { rec .ready none with state := .busy }) := World.putObj_heap_same hlt
   have hk2 := f2.obj hk (by omega)
   have hs2 : h ≤ (W1.putObj (w.heap.size + 1) (.loop { rec .ready none with state := .busy })).heap.size := by have := hfa.size; simp; omega
   have f02 : Fr (fun b => b < h) W (W1.putObj (w.heap.size + 1) (.loop { rec .ready none with state := .busy })) := (hfa.mono (G := fun b => b < h) fun _ _ h => h.elim).trans' f2 fun r _ e => by omega
   refine wpIn_mono (hbody k h v a1 _ hv (hI _ _ _ _ hi (f2.mono fun _ _ h => .inr h)) (hAf _ _ _ _ hA (f2.mono fun _ _ h => .inr h)) hwh hs2 ⟨_, hl2⟩) ?_
   rintro e a3 W3 hp
   cases e with
   | normal =>
    obtain ⟨⟨⟨h', hi3, hh3, hz3⟩, f3⟩, h3, h4⟩ := hp
    rw [hl2] at h4
    rw [hk2] at h3
    have hr := run_endRound (P := P) none h4
    refine ⟨_, _, hr, .inl ⟨rfl, ⟨h', hI _ _ _ _ hi3 ((Fr.putObj _ _ _).mono fun _ _ h => .inr h), ?_, (World.putObj_heap_other (by omega)).trans h3, by omega, by simpa using hz3⟩, (f02.trans f3).trans' (Fr.putObj _ _ _) fun r _ e => by omega⟩⟩
    refine (World.putObj_heap_same (lt_of_blk h4)).trans ?_
    rw [hrec]; rfl
   | ret =>
    obtain ⟨hi3, h3, h4⟩ := hp
    rw [hl2] at h4
    rw [hk2] at h3
    have hr := run_endRound (P := P) (some .ret) h4
    refine ⟨_, _, hr, .inr ⟨rfl, hS _ _ hi3 ((Fr.putObj _ _ _).mono fun _ _ h => .inr h), ?_, (World.putObj_heap_other (by omega)).trans h3⟩⟩
    refine (World.putObj_heap_same (lt_of_blk h4)).trans ?_
    rw [hrec]; rfl
   | exit id => exact hp.elim
   | goto t => exact hp.elim
   | panic ch => exact hp.elim
   | outgrown => exact hp.elim
  ·rintro e W2 ⟨⟨v, rfl⟩, ⟨h, hi, hl, hk, _, _⟩ | ⟨hi, hl, hk⟩⟩
   ·refine ⟨none, _, by have := run_endLoop (P := P) hl (by rw [hrec]; simp); rw [hrec] at this; exact this, hdone h _ (hI _ _ _ _ hi ((Fr.putObj _ _ _).mono fun _ _ h => .inr h)) ((World.putObj_heap_other (by omega)).trans hk)⟩
   ·refine ⟨some .ret, _, by have := run_endLoop (P := P) hl (by rw [hrec]; simp); rw [hrec] at this; exact this, ?_⟩
    exact wpIn_ret (hstop _ (hS _ _ hi ((Fr.putObj _ _ _).mono fun _ _ h => .inr h)) ((World.putObj_heap_other (by omega)).trans hk))
end
set_option maxRecDepth 100000 in
set_option maxHeartbeats 4000000 in
theorem tokens_yields {c1 c2 c3 : Nat} {s : Bys} (hl : s.length ≤ 20000) : IterOf2 Tryz.prog 74 #[.pointer (some ⟨c1, 0, none⟩), .pointer (some ⟨c2, 0, none⟩)] (lexV s) (TokK c1 c2 c3 s) := by
 intro l J S w hJF hSF hKp hround ⟨h00, hJ⟩
 refine wp_start3 Tryz.func74 rfl rfl (n := 149) (by decide) fun a E => wp_scope_straight (s_ (r_ (ep (v := .int .i64 0) E rfl (a_ rfl rfl) fun a E => n_ (t_ (s_ (wp_label (t_ (bk_ (wp_loop (fun a w2 => ∃ (k : Nat) (i : Nat) (h : Nat), Env 149 [(0, .func (.yield l) #[] #[]), (1, .pointer (some ⟨c1, 0, none⟩)), (2, .pointer (some ⟨c2, 0, none⟩)), (4, .int .i64 (i : Int))] a ∧ J k h w2 ∧ LexAt s k i) (fun a _ => s.length - (intOf (a.eval (.tmp 4))).toNat) ?_ ?_)))))))))
 ·exact ⟨0, 0, h00, E.of ⟨E.g1, E.g2, E.g3, E.g0, trivial⟩, hJ, LexAt.zero s⟩
 clear E
 rintro a w2 ⟨k, i, h, E, hJ, hL⟩
 have hmu : s.length - (intOf (a.eval (.tmp 4))).toNat = s.length - i := by rw [E.g3]; first | rfl | (simp [intOf]; done) | (simp only [intOf]; omega)
 rw [hmu]
 clear hmu
 have hf : Fr (fun _ => False) w2 w2 := Fr.refl _ _
 obtain ⟨⟨hK, hc2⟩, hhw⟩ := hKp _ _ _ hJ
 have hc1 := hK.1
 have hl1 := lt_of_blk hc1
 have hl2 := lt_of_blk hc2
 have hl3 := hK.2.lt
 have hil := hL.1
 refine s_ (s_ (r_ (ep E rfl (m_ rfl E.g3) fun a E => ep (v := .string (ofL s)) E rfl (run_lds rfl E.g2 (bx hc1 0 rfl)) fun a E => ep (v := .int .i64 (s.length : Int)) E rfl (run_slen rfl E.g0) fun a E => ep (v := .bool (decide ((i : Int) < (s.length : Int)))) E rfl (run_ilss E.g2 E.g0 Tryz.underlying3 rfl) fun a E => n_ (t_ ?_))))
 cases hq125 : (decide ((i : Int) < (s.length : Int))) with
 | false =>
  rw [hq125] at E
  have hie : i = s.length := by have := of_decide_eq_false hq125; omega
  refine c_f E.g0 (x_ (te_ (te_ (be_ (ng_n ?_)))))
  have hL9 : LexAt s k s.length := by rw [← hie]; exact hL
  have hd9 := hL9.done
  refine (ret_nil rfl E ⟨⟨_, rfl⟩, .inl ?_⟩).1
  unfold lexV
  rw [List.length_map, ← hd9]; exact ⟨_, hJ⟩
 | true =>
  rw [hq125] at E
  have hlt : i < s.length := by have := of_decide_eq_true hq125; omega
  obtain ⟨c, hc⟩ : ∃ c, s[i]? = some c := ⟨_, List.getElem?_eq_getElem hlt⟩
  refine c_t E.g0 (k_ (t_ (bk_ (s_ (r_ (ep E rfl (m_ rfl E.g7) fun a E => ep E rfl (a_ rfl E.g0) fun a E => n_ (t_ (s_ (r_ (ep E rfl (m_ rfl E.g0) fun a E => ep (v := .agg (tkA (0, [], (i : Int)))) E rfl (run_of38_2 rfl E.g0) fun a E => ep (v := .agg (fdA ((0, [], (i : Int)), 3))) E rfl (run_of81 rfl E.g0 rfl) fun a E => env_new (d := 6) E rfl (by decide) rfl (wanted_none rfl _) (run_alloc81 rfl) fun a w1 b126 eb126 hb126 f1 E => ?_))))))))))
  have hnb126 : w2.heap.size ≤ b126 := by have := hf.size; omega
  have hlc1b126 : c1 < b126 := by have := lt_of_blk hc1; omega
  have hlc2b126 : c2 < b126 := by have := lt_of_blk hc2; omega
  have hK := LexK.fr hK f1 id id
  have hc1 := f1.obj hc1 id
  have hc2 := f1.obj hc2 id
  have hf := hf.trans' f1 (fun _ _ h => h.elim)
  clear f1
  refine env_st81 (s := ((0, [], 0), 0)) E rfl (wanted_none rfl _) rfl E.g0 E.g1 hb126 fun w1 hb126n f1 E => ?_
  have hK := LexK.fr hK f1 nq_ nq_
  have hc1 := f1.obj hc1 nq_
  have hc2 := f1.obj hc2 nq_
  have hf := hf.trans' f1 (fun _ hr => nq_)
  clear f1
  replace hb126 : w1.heap[b126]? = some (.cells #[.int .i64 0, .string (ofL []), .int .i64 (i : Int), .int .i64 3] 81 (0, 0)) := hb126n
  refine n_ (t_ (s_ (s_ (r_ (ep (v := .func (.func 73) #[] #[.pointer (some ⟨c1, 0, none⟩), .pointer (some ⟨c3, 0, none⟩)]) E rfl (run_ld113 rfl E.g12 (bx hc2 0 rfl)) fun a E => ep E rfl (m_ rfl E.g14) fun a E => ec_ (v := .int .u8 ((clsAt s i : Nat) : Int)) E rfl (run_callf1 (enters_of Tryz.func73 (by kernel_rfl) rfl) rfl E.g1 E.g0 rfl) (at_calls hK i) fun a w1 f1 E => ?_)))))
  have hK := LexK.fr hK f1 id id
  have hc1 := f1.obj hc1 id
  have hc2 := f1.obj hc2 id
  have hb126 := f1.obj hb126 id
  have hf := hf.trans' f1 (fun _ _ h => h.elim)
  clear f1
  refine n_ (t_ (bk_ (s_ (r_ (ep (v := .bool (((clsAt s i : Nat) : Int) == 1)) E rfl (run_ueql E.g0 rfl rfl) fun a E => ep E rfl (a_ rfl E.g0) fun a E => n_ (t_ ?_))))))
  cases hq127 : (((clsAt s i : Nat) : Int) == 1) with
  | false =>
   rw [hq127] at E
   have hblk : isBlk c = false := by rw [← (cl8_qs c).1, ← clsAt_is hc]; exact (natq (clsAt s i) 1).symm.trans hq127
   refine c_f E.g0 (s_ (r_ (ep (v := .bool (((clsAt s i : Nat) : Int) == 2)) E rfl (run_ueql E.g2 rfl rfl) fun a E => ep E rfl (a_ rfl E.g0) fun a E => n_ (t_ ?_))))
   cases hq128 : (((clsAt s i : Nat) : Int) == 2) with
   | false =>
    rw [hq128] at E
    have hhash : (c == 35) = false := by rw [← (cl8_qs c).2.1, ← clsAt_is hc]; exact (natq (clsAt s i) 2).symm.trans hq128
    refine c_f E.g0 (s_ (r_ (ep (v := .bool (((clsAt s i : Nat) : Int) == 3)) E rfl (run_ueql E.g4 rfl rfl) fun a E => ep E rfl (a_ rfl E.g0) fun a E => n_ (t_ ?_))))
    cases hq129 : (((clsAt s i : Nat) : Int) == 3) with
    | false =>
     rw [hq129] at E
     have hlet : isLet c = false := by rw [← (cl8_qs c).2.2.1, ← clsAt_is hc]; exact (natq (clsAt s i) 3).symm.trans hq129
     refine c_f E.g0 (s_ (r_ (ep (v := .bool (((clsAt s i : Nat) : Int) == 4)) E rfl (run_ueql E.g6 rfl rfl) fun a E => ep E rfl (a_ rfl E.g0) fun a E => n_ (t_ ?_))))
     cases hq130 : (((clsAt s i : Nat) : Int) == 4) with
     | false =>
      rw [hq130] at E
      have hdig : isDig c = false := by rw [← (cl8_qs c).2.2.2.1, ← clsAt_is hc]; exact (natq (clsAt s i) 4).symm.trans hq130
      refine c_f E.g0 (s_ (r_ (ep (v := .bool (((clsAt s i : Nat) : Int) == 7)) E rfl (run_ueql E.g8 rfl rfl) fun a E => ep E rfl (a_ rfl E.g0) fun a E => n_ (t_ ?_))))
      cases hq131 : (((clsAt s i : Nat) : Int) == 7) with
      | false =>
       rw [hq131] at E
       have hquo : (c == 34) = false := by rw [← (cl8_qs c).2.2.2.2.1, ← clsAt_is hc]; exact (natq (clsAt s i) 7).symm.trans hq131
       refine c_f E.g0 (s_ (r_ (ep (v := .bool (((clsAt s i : Nat) : Int) == 6)) E rfl (run_ueql E.g10 rfl rfl) fun a E => ep E rfl (a_ rfl E.g0) fun a E => n_ (t_ ?_))))
       cases hq132 : (((clsAt s i : Nat) : Int) == 6) with
       | false =>
        rw [hq132] at E
        have hsym : isSym c = false := by rw [← (cl8_qs c).2.2.2.2.2.1, ← clsAt_is hc]; exact (natq (clsAt s i) 6).symm.trans hq132
        refine c_f E.g0 (k_ (b_ (t_ (s_ ?_))))
        have hon := one_oth (l := s.drop (i + 1)) hblk hhash hlet hdig hquo hsym
        obtain ⟨hx, hend⟩ := hL.err hc hon (by decide)
        refine envI_region (envI_put (d := 140) (v := .func (.yield l) #[] #[]) E rfl (by decide) rfl (wanted_none rfl _) (m_ rfl E.g25) fun a E => envI_put (d := 141) (v := .agg (fdA ((0, [], (i : Int)), 3))) E rfl (by decide) rfl (wanted_none rfl _) (run_ld81 rfl E.g16 (rng4 (p := ((0, [], (i : Int)), 3)) hb126 0 rfl rfl rfl rfl)) fun a E => envI_yield (d := 142) E rfl (by decide) rfl (wanted_none rfl _) rfl E.g1 E.g0 (hround k h _ _ (hJF _ _ _ _ hJ hf) (by unfold lexV; rw [List.getElem?_map, hx]; rfl)) fun a w3 bb hbb E => ?_)
        cases hq133 : bb with
        | false =>
         rw [hq133] at E
         have hS : S w3 := hbb.elim (fun h9 => by rw [hq133] at h9; cases h9.1) (fun h9 => h9.2)
         have hb6y : True := trivial
         refine envI_put (d := 143) (v := .bool true) E rfl (by decide) rfl (wanted_none rfl _) (run_not rfl E.g0) fun a E => envI_put (d := 144) (v := .bool true) E rfl (by decide) rfl (wanted_none rfl _) (m_ rfl E.g0) fun a E => envI_skip (d := 145) (g := 4) (s := 144) E rfl (by decide) rfl rfl rfl (by decide) E.g0 fun a E => envI_skip (d := 146) (g := 4) (s := 144) E rfl (by decide) rfl rfl rfl (by decide) E.g1 fun a E => envI_skip (d := 147) (g := 4) (s := 144) E rfl (by decide) rfl rfl rfl (by decide) E.g2 fun a E => envI_put (d := 148) (v := .bool true) E rfl (by decide) rfl (wanted_none rfl _) (run_pick_t rfl E.g3 rfl) fun a E => envI_nil (t_ (c_t E.g0 (wr_ (br_ (tr_ (br_ (ng_r ((ret_nil rfl E ⟨⟨_, rfl⟩, .inr hS⟩).2))))))))
        | true =>
         rw [hq133] at E
         obtain ⟨⟨h2, hJ2⟩, fy⟩ : (∃ h2, J (k + 1) h2 w3) ∧ Fr (fun b => b < h) w1 w3 := hbb.elim (fun h9 => h9.2) (fun h9 => by rw [hq133] at h9; cases h9.1)
         have hb126 := fy.obj hb126 (by omega)
         have hb6y : True := trivial
         refine envI_put (d := 143) (v := .bool false) E rfl (by decide) rfl (wanted_none rfl _) (run_not rfl E.g0) fun a E => envI_put (d := 144) (v := .bool false) E rfl (by decide) rfl (wanted_none rfl _) (m_ rfl E.g0) fun a E => envI_put (d := 145) (v := .pointer (some ⟨b126, 3, none⟩)) E rfl (by decide) rfl (wy_ E E.g0) (fa81_1 rfl E.g20) fun a E => envI_put (d := 146) (v := .int .i64 3) E rfl (by decide) rfl (wy_ E E.g1) (run_lde rfl E.g0 (bx hb126 3 rfl)) fun a E => envI_put (d := 147) (v := .bool true) E rfl (by decide) rfl (wy_ E E.g2) (run_ineq (m := 3) (n := 0) E.g0 rfl Tryz.underlying25 rfl) fun a E => envI_put (d := 148) (v := .bool true) E rfl (by decide) rfl (wanted_none rfl _) (run_pick_f rfl E.g3 E.g0) fun a E => envI_nil (t_ (c_t E.g0 (wr_ (br_ (tr_ (br_ (ng_r ((ret_nil rfl E ⟨⟨_, rfl⟩, .inl ?_⟩).2))))))))
         unfold lexV
         rw [List.length_map, ← hend]; exact ⟨_, hJ2⟩
       | true =>
        rw [hq132] at E
        have hsym : isSym c = true := by rw [← (cl8_qs c).2.2.2.2.2.1, ← clsAt_is hc]; exact (natq (clsAt s i) 6).symm.trans hq132
        refine c_t E.g0 (s_ ?_)
        have hon : one c (s.drop (i + 1)) = (4, (s.take (i + 1)).drop i, 0, 0) := by rw [one_sym hsym, take_cons_sub hc (Nat.le_refl _)]; simp
        refine r_ (ep E rfl (m_ rfl E.g28) fun a E => ep (v := .int .i64 ((i : Int) + 1)) E rfl (run_iadd Tryz.underlying3 E.g0 rfl (by omega) (by omega) rfl) fun a E => es_ E rfl (a_ rfl E.g0) fun a E => n_ (t_ (wp_region_invx (G := Unit) () (n := 149) (base := [(4, .int .i64 ((i : Int) + 1)), (130, .int .i64 ((i : Int) + 1)), (129, .int .i64 (i : Int)), (127, .bool true), (128, .bool true), (107, .bool false), (108, .bool false), (74, .bool false), (75, .bool false), (40, .bool false), (41, .bool false), (26, .bool false), (27, .bool false), (22, .bool false), (23, .bool false), (21, .int .u8 ((clsAt s i : Nat) : Int)), (20, .int .i64 (i : Int)), (19, .func (.func 73) #[] #[.pointer (some ⟨c1, 0, none⟩), .pointer (some ⟨c3, 0, none⟩)]), (6, .pointer (some ⟨b126, 0, none⟩)), (18, .agg (fdA ((0, [], (i : Int)), 3))), (17, .agg (tkA (0, [], (i : Int)))), (16, .int .i64 (i : Int)), (5, .int .i64 (i : Int)), (15, .int .i64 (i : Int)), (14, .bool true), (13, .int .i64 (s.length : Int)), (12, .string (ofL s)), (11, .int .i64 (i : Int)), (0, .func (.yield l) #[] #[]), (1, .pointer (some ⟨c1, 0, none⟩)), (2, .pointer (some ⟨c2, 0, none⟩))]) (U := []) (T := fun γ => [some (131, .string (ofL s)), some (132, .int .i64 (i : Int)), some (133, .int .i64 ((i : Int) + 1)), some (134, .string (ofL ((s.take (i + 1)).drop i))), some (135, .pointer (some ⟨b126, 0, none⟩)), some (136, .pointer (some ⟨b126, 0, none⟩)), none, some (137, .pointer (some ⟨b126, 0, none⟩)), some (138, .pointer (some ⟨b126, 1, none⟩)), none, some (139, .pointer (some ⟨b126, 3, none⟩)), none]) (M := fun γ ls9 wm => Fr (fun r => r = b126) w1 wm ∧ wm.heap[b126]? = some (.cells #[(bif ls9 6 then .int .i64 4 else .int .i64 0), (bif ls9 9 then .string (ofL ((s.take (i + 1)).drop i)) else .string (ofL [])), .int .i64 (i : Int), (bif ls9 11 then .int .i64 0 else .int .i64 3)] 81 (0, 0))) (by kernel_rfl) (by kernel_rfl) (fun _ => by kernel_rfl) (E.of ⟨E.g0, E.g1, E.g2, E.g3, E.g4, E.g5, E.g6, E.g7, E.g8, E.g9, E.g10, E.g11, E.g12, E.g13, E.g14, E.g15, E.g16, E.g17, E.g18, E.g19, E.g20, E.g21, E.g22, E.g23, E.g24, E.g25, E.g26, E.g27, E.g28, E.g29, E.g30, trivial⟩) (fun x hx => by cases hx) ⟨(Fr.refl _ _).drew, hb126⟩ ?_ ?_)))
        ·intro j9 o9 γ ls9 a w5 ho hl E D DL DL2 hB hM
         have hK := LexK.fr hK hM.1 nq_ nq_
         have hc1 := hM.1.obj hc1 nq_
         have hc2 := hM.1.obj hc2 nq_
         have hb126 := hM.2
         match j9, ho, hl, D, DL, hB with
         | 0, ho, hl, D, DL, hB => exact z0_ ho (valx rfl (run_lds rfl E.g29 (bx hc1 0 rfl)) rfl hM)
         | 1, ho, hl, D, DL, hB => exact z0_ ho (valx rfl (m_ rfl E.g22) rfl hM)
         | 2, ho, hl, D, DL, hB => exact z0_ ho (valx rfl (m_ rfl E.g0) rfl hM)
         | 3, ho, hl, D, DL, hB => exact z0_ ho (valx rfl (run_sub (a := i) (b := (i + 1)) rfl (D 0 _ rfl rfl) (D 1 _ rfl rfl) ((D 2 _ rfl rfl).trans (by rw [Int.natCast_add]; rfl)) (by omega) (by omega)) rfl hM)
         | 4, ho, hl, D, DL, hB => exact z0_ ho (valx rfl (fa81_0 rfl E.g18) rfl hM)
         | 5, ho, hl, D, DL, hB => exact z0_ ho (valx rfl (fa38_0 rfl (D 4 _ rfl rfl)) rfl hM)
         | 6, ho, hl, D, DL, hB => exact z0_ ho (storex rfl (run_st3 rfl (D 5 _ rfl rfl) rfl (bx hb126 0 rfl) (free_of_blk hb126 0)) rfl ⟨hM.1.trans (((Fr.refl (fun r => r = b126) w5).setCell (p := ⟨b126, 0, none⟩) (fun _ => rfl) _).mono (fun r _ e => by first | exact e | exact .inl e | exact .inr e | exact .inr (.inl e) | exact .inr (.inr e))), blk_setCell_same (off := 0) hb126 _⟩)
         | 7, ho, hl, D, DL, hB => exact z0_ ho (valx rfl (fa81_0 rfl E.g18) rfl hM)
         | 8, ho, hl, D, DL, hB => exact z0_ ho (valx rfl (fa38_1 rfl (D 7 _ rfl rfl)) rfl hM)
         | 9, ho, hl, D, DL, hB => exact z0_ ho (storex rfl (run_st9 rfl (D 8 _ rfl rfl) (D 3 _ rfl rfl) (bx hb126 1 rfl) (free_of_blk hb126 1)) rfl ⟨hM.1.trans (((Fr.refl (fun r => r = b126) w5).setCell (p := ⟨b126, 1, none⟩) (fun _ => rfl) _).mono (fun r _ e => by first | exact e | exact .inl e | exact .inr e | exact .inr (.inl e) | exact .inr (.inr e))), blk_setCell_same (off := 1) hb126 _⟩)
         | 10, ho, hl, D, DL, hB => exact z0_ ho (valx rfl (fa81_1 rfl E.g18) rfl hM)
         | 11, ho, hl, D, DL, hB => exact z0_ ho (storex rfl (run_st25 rfl (D 10 _ rfl rfl) rfl (bx hb126 3 rfl) (free_of_blk hb126 3)) rfl ⟨hM.1.trans (((Fr.refl (fun r => r = b126) w5).setCell (p := ⟨b126, 3, none⟩) (fun _ => rfl) _).mono (fun r _ e => by first | exact e | exact .inl e | exact .inr e | exact .inr (.inl e) | exact .inr (.inr e))), blk_setCell_same (off := 3) hb126 _⟩)
         | j9 + 12, ho, hl, D, DL, hB => exact absurd ho (by simp)
        ·rintro _ a w5 E V hM
         clear V
         have f1 := hM.1
         have hb126n : w5.heap[b126]? = some (.cells #[.int .i64 4, .string (ofL ((s.take (i + 1)).drop i)), .int .i64 (i : Int), .int .i64 0] 81 (0, 0)) := hM.2
         clear hM
         have hK := LexK.fr hK f1 nq_ nq_
         have hc1 := f1.obj hc1 nq_
         have hc2 := f1.obj hc2 nq_
         have hf := hf.trans' f1 (fun _ hr => nq_)
         clear f1
         replace hb126 := hb126n
         refine b_ (t_ (s_ ?_))
         obtain ⟨hx, hLn⟩ := hL.tok hc hon (by decide) (by omega)
         refine envI_region (envI_put (d := 140) (v := .func (.yield l) #[] #[]) E rfl (by decide) rfl (wanted_none rfl _) (m_ rfl E.g28) fun a E => envI_put (d := 141) (v := .agg (fdA ((4, ((s.take (i + 1)).drop i), (i : Int)), 0))) E rfl (by decide) rfl (wanted_none rfl _) (run_ld81 rfl E.g19 (rng4 (p := ((4, ((s.take (i + 1)).drop i), (i : Int)), 0)) hb126 0 rfl rfl rfl rfl)) fun a E => envI_yield (d := 142) E rfl (by decide) rfl (wanted_none rfl _) rfl E.g1 E.g0 (hround k h _ _ (hJF _ _ _ _ hJ hf) (by unfold lexV; rw [List.getElem?_map, hx]; rfl)) fun a w3 bb hbb E => ?_)
         cases hq134 : bb with
         | false =>
          rw [hq134] at E
          have hS : S w3 := hbb.elim (fun h9 => by rw [hq134] at h9; cases h9.1) (fun h9 => h9.2)
          have hb6y : True := trivial
          refine envI_put (d := 143) (v := .bool true) E rfl (by decide) rfl (wanted_none rfl _) (run_not rfl E.g0) fun a E => envI_put (d := 144) (v := .bool true) E rfl (by decide) rfl (wanted_none rfl _) (m_ rfl E.g0) fun a E => envI_skip (d := 145) (g := 4) (s := 144) E rfl (by decide) rfl rfl rfl (by decide) E.g0 fun a E => envI_skip (d := 146) (g := 4) (s := 144) E rfl (by decide) rfl rfl rfl (by decide) E.g1 fun a E => envI_skip (d := 147) (g := 4) (s := 144) E rfl (by decide) rfl rfl rfl (by decide) E.g2 fun a E => envI_put (d := 148) (v := .bool true) E rfl (by decide) rfl (wanted_none rfl _) (run_pick_t rfl E.g3 rfl) fun a E => envI_nil (t_ (c_t E.g0 (wr_ (br_ (tr_ (br_ (ng_r ((ret_nil rfl E ⟨⟨_, rfl⟩, .inr hS⟩).2))))))))
         | true =>
          rw [hq134] at E
          obtain ⟨⟨h2, hJ2⟩, fy⟩ : (∃ h2, J (k + 1) h2 w3) ∧ Fr (fun b => b < h) w5 w3 := hbb.elim (fun h9 => h9.2) (fun h9 => by rw [hq134] at h9; cases h9.1)
          have hb126 := fy.obj hb126 (by omega)
          have hb6y : True := trivial
          refine envI_put (d := 143) (v := .bool false) E rfl (by decide) rfl (wanted_none rfl _) (run_not rfl E.g0) fun a E => envI_put (d := 144) (v := .bool false) E rfl (by decide) rfl (wanted_none rfl _) (m_ rfl E.g0) fun a E => envI_put (d := 145) (v := .pointer (some ⟨b126, 3, none⟩)) E rfl (by decide) rfl (wy_ E E.g0) (fa81_1 rfl E.g23) fun a E => envI_put (d := 146) (v := .int .i64 0) E rfl (by decide) rfl (wy_ E E.g1) (run_lde rfl E.g0 (bx hb126 3 rfl)) fun a E => envI_put (d := 147) (v := .bool false) E rfl (by decide) rfl (wy_ E E.g2) (run_ineq (m := 0) (n := 0) E.g0 rfl Tryz.underlying25 rfl) fun a E => envI_put (d := 148) (v := .bool false) E rfl (by decide) rfl (wanted_none rfl _) (run_pick_f rfl E.g3 E.g0) fun a E => envI_nil (t_ (c_f E.g0 (k_ (b_ (t_ ?_)))))
          refine ⟨⟨(k + 1), (i + 1), h2, E.of ⟨E.g37, E.g38, E.g39, E.g9.trans (by first | rfl | (congr 1 <;> omega)), trivial⟩, hJ2, (by simpa using hLn)⟩, ?_⟩
          rw [E.g9]; simp only [intOf]; omega
      | true =>
       rw [hq131] at E
       have hquo : (c == 34) = true := by rw [← (cl8_qs c).2.2.2.2.1, ← clsAt_is hc]; exact (natq (clsAt s i) 7).symm.trans hq131
       refine c_t E.g0 (s_ ?_)
       obtain ⟨hsd, _⟩ := str_one hc hquo
       refine r_ (ep (v := .string (ofL s)) E rfl (run_lds rfl E.g24 (bx hc1 0 rfl)) fun a E => ep E rfl (m_ rfl E.g27) fun a E => ep (v := .string (ofL (34 :: s.drop (i + 1)))) E rfl ((run_subl (a := i) rfl E.g1 E.g0 (by omega)).trans (by rw [hsd])) fun a E => env_callv (d := 113) (R := fun u w8 => u = .tuple #[.string (ofL (unqR (s.drop (i + 1))).1), .int .i64 (unqR (s.drop (i + 1))).2] ∧ Fr (fun _ => False) w1 w8) E rfl (by decide) rfl (wanted_none rfl _) (run_call1 (enters_of Tryz.func75 (by kernel_rfl) rfl) rfl rfl E.g0) ((unq_calls (s.drop (i + 1)) (by simp; omega) _).mono fun e w8 h => by obtain ⟨rfl, h⟩ := h; exact ⟨_, rfl, rfl, h⟩) fun a w1 u ⟨hu, f1⟩ E => ?_)
       subst hu
       have hK := LexK.fr hK f1 id id
       have hc1 := f1.obj hc1 id
       have hc2 := f1.obj hc2 id
       have hb126 := f1.obj hb126 id
       have hf := hf.trans' f1 (fun _ _ h => h.elim)
       clear f1
       refine ep E rfl (m_ rfl E.g0) fun a E => ep (v := .string (ofL (unqR (s.drop (i + 1))).1)) E rfl (run_ext0 rfl E.g0) fun a E => ep (v := .int .i64 (unqR (s.drop (i + 1))).2) E rfl (run_ext1 rfl E.g1) fun a E => ep E rfl (a_ rfl E.g1) fun a E => ep E rfl (a_ rfl E.g1) fun a E => n_ (t_ (s_ (s_ (r_ (ep E rfl (m_ rfl E.g0) fun a E => ep (v := .bool (decide (0 < (unqR (s.drop (i + 1))).2))) E rfl (run_igtr E.g0 rfl Tryz.underlying3 rfl) fun a E => n_ (t_ ?_))))))
       cases hq135 : (decide (0 < (unqR (s.drop (i + 1))).2)) with
       | false =>
        rw [hq135] at E
        obtain ⟨_, hso⟩ := str_one hc hquo
        obtain ⟨hun, hon⟩ : unqR (s.drop (i + 1)) = ([], 0) ∧ one c (s.drop (i + 1)) = (0, [], 0, 3) := hso.resolve_left (fun ⟨st, m, hx, _⟩ => by have := of_decide_eq_false hq135; rw [hx] at this; simp only at this; omega)
        have hu1 : (unqR (s.drop (i + 1))).1 = [] := by rw [hun]
        have hu2 : (unqR (s.drop (i + 1))).2 = 0 := by rw [hun]
        rw [hu1, hu2] at E
        refine c_f E.g0 (k_ (t_ (r_ (ep E rfl (m_ rfl E.g37) fun a E => ep E rfl (m_ rfl E.g3) fun a E => ep (v := .int .i64 ((i : Int) + 0)) E rfl (run_iadd Tryz.underlying3 E.g1 E.g0 (by omega) (by omega) rfl) fun a E => es_ E rfl (a_ rfl E.g0) fun a E => n_ (b_ (t_ (s_ ?_)))))))
        obtain ⟨hx, hend⟩ := hL.err hc hon (by decide)
        refine envI_region (envI_put (d := 140) (v := .func (.yield l) #[] #[]) E rfl (by decide) rfl (wanted_none rfl _) (m_ rfl E.g38) fun a E => envI_put (d := 141) (v := .agg (fdA ((0, [], (i : Int)), 3))) E rfl (by decide) rfl (wanted_none rfl _) (run_ld81 rfl E.g29 (rng4 (p := ((0, [], (i : Int)), 3)) hb126 0 rfl rfl rfl rfl)) fun a E => envI_yield (d := 142) E rfl (by decide) rfl (wanted_none rfl _) rfl E.g1 E.g0 (hround k h _ _ (hJF _ _ _ _ hJ hf) (by unfold lexV; rw [List.getElem?_map, hx]; rfl)) fun a w3 bb hbb E => ?_)
        cases hq136 : bb with
        | false =>
         rw [hq136] at E
         have hS : S w3 := hbb.elim (fun h9 => by rw [hq136] at h9; cases h9.1) (fun h9 => h9.2)
         have hb6y : True := trivial
         refine envI_put (d := 143) (v := .bool true) E rfl (by decide) rfl (wanted_none rfl _) (run_not rfl E.g0) fun a E => envI_put (d := 144) (v := .bool true) E rfl (by decide) rfl (wanted_none rfl _) (m_ rfl E.g0) fun a E => envI_skip (d := 145) (g := 4) (s := 144) E rfl (by decide) rfl rfl rfl (by decide) E.g0 fun a E => envI_skip (d := 146) (g := 4) (s := 144) E rfl (by decide) rfl rfl rfl (by decide) E.g1 fun a E => envI_skip (d := 147) (g := 4) (s := 144) E rfl (by decide) rfl rfl rfl (by decide) E.g2 fun a E => envI_put (d := 148) (v := .bool true) E rfl (by decide) rfl (wanted_none rfl _) (run_pick_t rfl E.g3 rfl) fun a E => envI_nil (t_ (c_t E.g0 (wr_ (br_ (tr_ (br_ (ng_r ((ret_nil rfl E ⟨⟨_, rfl⟩, .inr hS⟩).2))))))))
        | true =>
         rw [hq136] at E
         obtain ⟨⟨h2, hJ2⟩, fy⟩ : (∃ h2, J (k + 1) h2 w3) ∧ Fr (fun b => b < h) w1 w3 := hbb.elim (fun h9 => h9.2) (fun h9 => by rw [hq136] at h9; cases h9.1)
         have hb126 := fy.obj hb126 (by omega)
         have hb6y : True := trivial
         refine envI_put (d := 143) (v := .bool false) E rfl (by decide) rfl (wanted_none rfl _) (run_not rfl E.g0) fun a E => envI_put (d := 144) (v := .bool false) E rfl (by decide) rfl (wanted_none rfl _) (m_ rfl E.g0) fun a E => envI_put (d := 145) (v := .pointer (some ⟨b126, 3, none⟩)) E rfl (by decide) rfl (wy_ E E.g0) (fa81_1 rfl E.g33) fun a E => envI_put (d := 146) (v := .int .i64 3) E rfl (by decide) rfl (wy_ E E.g1) (run_lde rfl E.g0 (bx hb126 3 rfl)) fun a E => envI_put (d := 147) (v := .bool true) E rfl (by decide) rfl (wy_ E E.g2) (run_ineq (m := 3) (n := 0) E.g0 rfl Tryz.underlying25 rfl) fun a E => envI_put (d := 148) (v := .bool true) E rfl (by decide) rfl (wanted_none rfl _) (run_pick_f rfl E.g3 E.g0) fun a E => envI_nil (t_ (c_t E.g0 (wr_ (br_ (tr_ (br_ (ng_r ((ret_nil rfl E ⟨⟨_, rfl⟩, .inl ?_⟩).2))))))))
         unfold lexV
         rw [List.length_map, ← hend]; exact ⟨_, hJ2⟩
       | true =>
        rw [hq135] at E
        obtain ⟨_, hso⟩ := str_one hc hquo
        obtain ⟨st, m, hun, hon, hmm⟩ : ∃ st m, unqR (s.drop (i + 1)) = (st, ((m + 1 : Nat) : Int)) ∧ one c (s.drop (i + 1)) = (3, st, m, 0) ∧ i + 1 + m ≤ s.length := hso.resolve_right (fun hx => by have := of_decide_eq_true hq135; rw [hx.1] at this; simp at this)
        have hu1 : (unqR (s.drop (i + 1))).1 = st := by rw [hun]
        have hu2 : (unqR (s.drop (i + 1))).2 = ((m + 1 : Nat) : Int) := by rw [hun]
        rw [hu1, hu2] at E
        refine c_t E.g0 (r_ (ep E rfl (m_ rfl E.g3) fun a E => ep (v := .pointer (some ⟨b126, 0, none⟩)) E rfl (fa81_0 rfl E.g25) fun a E => ep (v := .pointer (some ⟨b126, 0, none⟩)) E rfl (fa38_0 rfl E.g0) fun a E => env_st1 (j := 0) E rfl (wanted_none rfl _) hb126 (run_st3 rfl E.g0 rfl (bx hb126 0 rfl) (free_of_blk hb126 0)) fun w1 hb126n f1 E => ?_))
        replace hb126n : w1.heap[b126]? = some (.cells #[.int .i64 3, .string (ofL []), .int .i64 (i : Int), .int .i64 3] 81 (0, 0)) := hb126n
        have hK := LexK.fr hK f1 nq_ nq_
        have hc1 := f1.obj hc1 nq_
        have hc2 := f1.obj hc2 nq_
        have hf := hf.trans' f1 (fun _ hr => nq_)
        clear f1
        replace hb126 := hb126n
        refine ep (v := .pointer (some ⟨b126, 0, none⟩)) E rfl (fa81_0 rfl E.g27) fun a E => ep (v := .pointer (some ⟨b126, 1, none⟩)) E rfl (fa38_1 rfl E.g0) fun a E => env_st1 (j := 1) E rfl (wanted_none rfl _) hb126 (run_st9 rfl E.g0 E.g4 (bx hb126 1 rfl) (free_of_blk hb126 1)) fun w1 hb126n f1 E => ?_
        replace hb126n : w1.heap[b126]? = some (.cells #[.int .i64 3, .string (ofL st), .int .i64 (i : Int), .int .i64 3] 81 (0, 0)) := hb126n
        have hK := LexK.fr hK f1 nq_ nq_
        have hc1 := f1.obj hc1 nq_
        have hc2 := f1.obj hc2 nq_
        have hf := hf.trans' f1 (fun _ hr => nq_)
        clear f1
        replace hb126 := hb126n
        refine ep (v := .pointer (some ⟨b126, 3, none⟩)) E rfl (fa81_1 rfl E.g29) fun a E => env_st1 (j := 3) E rfl (wanted_none rfl _) hb126 (run_st25 rfl E.g0 rfl (bx hb126 3 rfl) (free_of_blk hb126 3)) fun w1 hb126n f1 E => ?_
        replace hb126n : w1.heap[b126]? = some (.cells #[.int .i64 3, .string (ofL st), .int .i64 (i : Int), .int .i64 0] 81 (0, 0)) := hb126n
        have hK := LexK.fr hK f1 nq_ nq_
        have hc1 := f1.obj hc1 nq_
        have hc2 := f1.obj hc2 nq_
        have hf := hf.trans' f1 (fun _ hr => nq_)
        clear f1
        replace hb126 := hb126n
        refine n_ (t_ (r_ (ep E rfl (m_ rfl E.g43) fun a E => ep E rfl (m_ rfl E.g9) fun a E => ep (v := .int .i64 ((i : Int) + ((m + 1 : Nat) : Int))) E rfl (run_iadd Tryz.underlying3 E.g1 E.g0 (by omega) (by omega) rfl) fun a E => es_ E rfl (a_ rfl E.g0) fun a E => n_ (b_ (t_ (s_ ?_))))))
        obtain ⟨hx, hLn⟩ := hL.tok hc hon (by decide) (by omega)
        refine envI_region (envI_put (d := 140) (v := .func (.yield l) #[] #[]) E rfl (by decide) rfl (wanted_none rfl _) (m_ rfl E.g44) fun a E => envI_put (d := 141) (v := .agg (fdA ((3, st, (i : Int)), 0))) E rfl (by decide) rfl (wanted_none rfl _) (run_ld81 rfl E.g35 (rng4 (p := ((3, st, (i : Int)), 0)) hb126 0 rfl rfl rfl rfl)) fun a E => envI_yield (d := 142) E rfl (by decide) rfl (wanted_none rfl _) rfl E.g1 E.g0 (hround k h _ _ (hJF _ _ _ _ hJ hf) (by unfold lexV; rw [List.getElem?_map, hx]; rfl)) fun a w3 bb hbb E => ?_)
        cases hq137 : bb with
        | false =>
         rw [hq137] at E
         have hS : S w3 := hbb.elim (fun h9 => by rw [hq137] at h9; cases h9.1) (fun h9 => h9.2)
         have hb6y : True := trivial
         refine envI_put (d := 143) (v := .bool true) E rfl (by decide) rfl (wanted_none rfl _) (run_not rfl E.g0) fun a E => envI_put (d := 144) (v := .bool true) E rfl (by decide) rfl (wanted_none rfl _) (m_ rfl E.g0) fun a E => envI_skip (d := 145) (g := 4) (s := 144) E rfl (by decide) rfl rfl rfl (by decide) E.g0 fun a E => envI_skip (d := 146) (g := 4) (s := 144) E rfl (by decide) rfl rfl rfl (by decide) E.g1 fun a E => envI_skip (d := 147) (g := 4) (s := 144) E rfl (by decide) rfl rfl rfl (by decide) E.g2 fun a E => envI_put (d := 148) (v := .bool true) E rfl (by decide) rfl (wanted_none rfl _) (run_pick_t rfl E.g3 rfl) fun a E => envI_nil (t_ (c_t E.g0 (wr_ (br_ (tr_ (br_ (ng_r ((ret_nil rfl E ⟨⟨_, rfl⟩, .inr hS⟩).2))))))))
        | true =>
         rw [hq137] at E
         obtain ⟨⟨h2, hJ2⟩, fy⟩ : (∃ h2, J (k + 1) h2 w3) ∧ Fr (fun b => b < h) w1 w3 := hbb.elim (fun h9 => h9.2) (fun h9 => by rw [hq137] at h9; cases h9.1)
         have hb126 := fy.obj hb126 (by omega)
         have hb6y : True := trivial
         refine envI_put (d := 143) (v := .bool false) E rfl (by decide) rfl (wanted_none rfl _) (run_not rfl E.g0) fun a E => envI_put (d := 144) (v := .bool false) E rfl (by decide) rfl (wanted_none rfl _) (m_ rfl E.g0) fun a E => envI_put (d := 145) (v := .pointer (some ⟨b126, 3, none⟩)) E rfl (by decide) rfl (wy_ E E.g0) (fa81_1 rfl E.g39) fun a E => envI_put (d := 146) (v := .int .i64 0) E rfl (by decide) rfl (wy_ E E.g1) (run_lde rfl E.g0 (bx hb126 3 rfl)) fun a E => envI_put (d := 147) (v := .bool false) E rfl (by decide) rfl (wy_ E E.g2) (run_ineq (m := 0) (n := 0) E.g0 rfl Tryz.underlying25 rfl) fun a E => envI_put (d := 148) (v := .bool false) E rfl (by decide) rfl (wanted_none rfl _) (run_pick_f rfl E.g3 E.g0) fun a E => envI_nil (t_ (c_f E.g0 (k_ (b_ (t_ ?_)))))
         refine ⟨⟨(k + 1), (i + 1 + m), h2, E.of ⟨E.g53, E.g54, E.g55, E.g9.trans (by first | rfl | (congr 1 <;> omega)), trivial⟩, hJ2, hLn⟩, ?_⟩
         rw [E.g9]; simp only [intOf]; omega
     | true =>
      rw [hq130] at E
      have hdig : isDig c = true := by rw [← (cl8_qs c).2.2.2.1, ← clsAt_is hc]; exact (natq (clsAt s i) 4).symm.trans hq130
      refine c_t E.g0 (s_ (bk_ (wp_loop (fun a w2 => ∃ (j : Nat), Env 149 [(6, .pointer (some ⟨b126, 0, none⟩)), (5, .int .i64 (i : Int)), (0, .func (.yield l) #[] #[]), (1, .pointer (some ⟨c1, 0, none⟩)), (2, .pointer (some ⟨c2, 0, none⟩)), (4, .int .i64 (j : Int))] a ∧ RunTo isDig s i j ∧ Fr (fun _ => False) w1 w2) (fun a _ => s.length - (intOf (a.eval (.tmp 4))).toNat) ?_ ?_)))
      ·exact ⟨i, E.of ⟨E.g11, E.g15, E.g21, E.g22, E.g23, E.g24, trivial⟩, RunTo.start hL.1, Fr.refl _ _⟩
      clear E
      rintro a w2 ⟨j, E, hr, fL⟩
      have hmu : s.length - (intOf (a.eval (.tmp 4))).toNat = s.length - j := by rw [E.g5]; first | rfl | (simp [intOf]; done) | (simp only [intOf]; omega)
      rw [hmu]
      clear hmu
      have f1 := fL
      have hjl := hr.hi
      have hK := LexK.fr hK f1 id id
      have hc1 := f1.obj hc1 id
      have hc2 := f1.obj hc2 id
      have hb126 := f1.obj hb126 id
      have hf := hf.trans' f1 (fun _ _ h => h.elim)
      clear f1
      refine s_ (s_ (r_ (ep (v := .func (.func 73) #[] #[.pointer (some ⟨c1, 0, none⟩), .pointer (some ⟨c3, 0, none⟩)]) E rfl (run_ld113 rfl E.g4 (bx hc2 0 rfl)) fun a E => ep E rfl (m_ rfl E.g6) fun a E => ec_ (v := .int .u8 ((clsAt s j : Nat) : Int)) E rfl (run_callf1 (enters_of Tryz.func73 (by kernel_rfl) rfl) rfl E.g1 E.g0 rfl) (at_calls hK j) fun a w1 f1 E => ?_)))
      have hK := LexK.fr hK f1 id id
      have hc1 := f1.obj hc1 id
      have hc2 := f1.obj hc2 id
      have hb126 := f1.obj hb126 id
      have fL := fL.trans f1
      have hf := hf.trans' f1 (fun _ _ h => h.elim)
      clear f1
      refine ep (v := .bool (((clsAt s j : Nat) : Int) == 4)) E rfl (run_ueql E.g0 rfl rfl) fun a E => n_ (t_ ?_)
      cases hq139 : (((clsAt s j : Nat) : Int) == 4) with
      | false =>
       rw [hq139] at E
       have hj4 : (clsAt s j == 4) = false := (natq (clsAt s j) 4).symm.trans hq139
       refine c_f E.g0 (x_ (te_ (te_ (be_ (t_ (s_ ?_))))))
       have hds : digAt s j = false := by unfold digAt; exact hj4
       obtain ⟨hon, hij⟩ := dig_one hc hdig hr hds
       have hjl := hr.hi
       refine wp_region_invx (G := Unit) () (n := 149) (base := [(79, .bool false), (78, .int .u8 ((clsAt s j : Nat) : Int)), (77, .int .i64 (j : Int)), (76, .func (.func 73) #[] #[.pointer (some ⟨c1, 0, none⟩), .pointer (some ⟨c3, 0, none⟩)]), (6, .pointer (some ⟨b126, 0, none⟩)), (5, .int .i64 (i : Int)), (0, .func (.yield l) #[] #[]), (1, .pointer (some ⟨c1, 0, none⟩)), (2, .pointer (some ⟨c2, 0, none⟩)), (4, .int .i64 (j : Int))]) (U := []) (T := fun γ => [some (82, .string (ofL s)), some (83, .int .i64 (i : Int)), some (84, .int .i64 (j : Int)), some (85, .string (ofL ((s.take j).drop i))), some (86, .pointer (some ⟨b126, 0, none⟩)), some (87, .pointer (some ⟨b126, 0, none⟩)), none, some (88, .pointer (some ⟨b126, 0, none⟩)), some (89, .pointer (some ⟨b126, 1, none⟩)), none, some (90, .pointer (some ⟨b126, 3, none⟩)), none]) (M := fun γ ls9 wm => Fr (fun r => r = b126) w1 wm ∧ wm.heap[b126]? = some (.cells #[(bif ls9 6 then .int .i64 2 else .int .i64 0), (bif ls9 9 then .string (ofL ((s.take j).drop i)) else .string (ofL [])), .int .i64 (i : Int), (bif ls9 11 then .int .i64 0 else .int .i64 3)] 81 (0, 0))) (by kernel_rfl) (by kernel_rfl) (fun _ => by kernel_rfl) (E.of ⟨E.g0, E.g1, E.g2, E.g3, E.g4, E.g5, E.g6, E.g7, E.g8, E.g9, trivial⟩) (fun x hx => by cases hx) ⟨(Fr.refl _ _).drew, hb126⟩ ?_ ?_
       ·intro j9 o9 γ ls9 a w5 ho hl E D DL DL2 hB hM
        have hK := LexK.fr hK hM.1 nq_ nq_
        have hc1 := hM.1.obj hc1 nq_
        have hc2 := hM.1.obj hc2 nq_
        have hb126 := hM.2
        match j9, ho, hl, D, DL, hB with
        | 0, ho, hl, D, DL, hB => exact z0_ ho (valx rfl (run_lds rfl E.g7 (bx hc1 0 rfl)) rfl hM)
        | 1, ho, hl, D, DL, hB => exact z0_ ho (valx rfl (m_ rfl E.g5) rfl hM)
        | 2, ho, hl, D, DL, hB => exact z0_ ho (valx rfl (m_ rfl E.g9) rfl hM)
        | 3, ho, hl, D, DL, hB => exact z0_ ho (valx rfl (run_sub (a := i) (b := j) rfl (D 0 _ rfl rfl) (D 1 _ rfl rfl) (D 2 _ rfl rfl) (by omega) (by omega)) rfl hM)
        | 4, ho, hl, D, DL, hB => exact z0_ ho (valx rfl (fa81_0 rfl E.g4) rfl hM)
        | 5, ho, hl, D, DL, hB => exact z0_ ho (valx rfl (fa38_0 rfl (D 4 _ rfl rfl)) rfl hM)
        | 6, ho, hl, D, DL, hB => exact z0_ ho (storex rfl (run_st3 rfl (D 5 _ rfl rfl) rfl (bx hb126 0 rfl) (free_of_blk hb126 0)) rfl ⟨hM.1.trans (((Fr.refl (fun r => r = b126) w5).setCell (p := ⟨b126, 0, none⟩) (fun _ => rfl) _).mono (fun r _ e => by first | exact e | exact .inl e | exact .inr e | exact .inr (.inl e) | exact .inr (.inr e))), blk_setCell_same (off := 0) hb126 _⟩)
        | 7, ho, hl, D, DL, hB => exact z0_ ho (valx rfl (fa81_0 rfl E.g4) rfl hM)
        | 8, ho, hl, D, DL, hB => exact z0_ ho (valx rfl (fa38_1 rfl (D 7 _ rfl rfl)) rfl hM)
        | 9, ho, hl, D, DL, hB => exact z0_ ho (storex rfl (run_st9 rfl (D 8 _ rfl rfl) (D 3 _ rfl rfl) (bx hb126 1 rfl) (free_of_blk hb126 1)) rfl ⟨hM.1.trans (((Fr.refl (fun r => r = b126) w5).setCell (p := ⟨b126, 1, none⟩) (fun _ => rfl) _).mono (fun r _ e => by first | exact e | exact .inl e | exact .inr e | exact .inr (.inl e) | exact .inr (.inr e))), blk_setCell_same (off := 1) hb126 _⟩)
        | 10, ho, hl, D, DL, hB => exact z0_ ho (valx rfl (fa81_1 rfl E.g4) rfl hM)
        | 11, ho, hl, D, DL, hB => exact z0_ ho (storex rfl (run_st25 rfl (D 10 _ rfl rfl) rfl (bx hb126 3 rfl) (free_of_blk hb126 3)) rfl ⟨hM.1.trans (((Fr.refl (fun r => r = b126) w5).setCell (p := ⟨b126, 3, none⟩) (fun _ => rfl) _).mono (fun r _ e => by first | exact e | exact .inl e | exact .inr e | exact .inr (.inl e) | exact .inr (.inr e))), blk_setCell_same (off := 3) hb126 _⟩)
        | j9 + 12, ho, hl, D, DL, hB => exact absurd ho (by simp)
       ·rintro _ a w5 E V hM
        clear V
        have f1 := hM.1
        have hb126n : w5.heap[b126]? = some (.cells #[.int .i64 2, .string (ofL ((s.take j).drop i)), .int .i64 (i : Int), .int .i64 0] 81 (0, 0)) := hM.2
        clear hM
        have hK := LexK.fr hK f1 nq_ nq_
        have hc1 := f1.obj hc1 nq_
        have hc2 := f1.obj hc2 nq_
        have hf := hf.trans' f1 (fun _ hr => nq_)
        clear f1
        replace hb126 := hb126n
        refine t_ (s_ (r_ (ep (v := .func (.func 73) #[] #[.pointer (some ⟨c1, 0, none⟩), .pointer (some ⟨c3, 0, none⟩)]) E rfl (run_ld113 rfl E.g8 (bx hc2 0 rfl)) fun a E => ep E rfl (m_ rfl E.g10) fun a E => ec_ (v := .int .u8 ((clsAt s j : Nat) : Int)) E rfl (run_callf1 (enters_of Tryz.func73 (by kernel_rfl) rfl) rfl E.g1 E.g0 rfl) (at_calls hK j) fun a w1 f1 E => ?_)))
        have hK := LexK.fr hK f1 id id
        have hc1 := f1.obj hc1 id
        have hc2 := f1.obj hc2 id
        have hb126 := f1.obj hb126 id
        have hf := hf.trans' f1 (fun _ _ h => h.elim)
        clear f1
        refine ep E rfl (a_ rfl E.g0) fun a E => n_ (t_ (s_ (r_ (ep E rfl (m_ rfl E.g13) fun a E => ep E rfl (m_ rfl E.g10) fun a E => ep (v := .int .i64 ((j : Int) - (i : Int))) E rfl (run_isub Tryz.underlying3 E.g1 E.g0 (by omega) (by omega) rfl) fun a E => ep (v := .bool (decide (7 < ((j : Int) - (i : Int))))) E rfl (run_igtr E.g0 rfl Tryz.underlying3 rfl) fun a E => ep E rfl (m_ rfl E.g0) fun a E => ?_))))
        cases hq140 : (decide (7 < ((j : Int) - (i : Int)))) with
        | false =>
         rw [hq140] at E
         have hd9 := of_decide_eq_false hq140
         refine eg E rfl (wy_ E E.g0) (m_ rfl E.g5) fun a E => eg (v := .bool (((clsAt s j : Nat) : Int) == 3)) E rfl (wy_ E E.g1) (run_ueql E.g0 rfl rfl) fun a E => ep (v := .bool (((clsAt s j : Nat) : Int) == 3)) E rfl (run_pick_f rfl E.g2 E.g0) fun a E => ep E rfl (m_ rfl E.g0) fun a E => ?_
         cases hq141 : (((clsAt s j : Nat) : Int) == 3) with
         | false =>
          rw [hq141] at E
          have hj3 : (clsAt s j == 3) = false := (natq (clsAt s j) 3).symm.trans hq141
          refine eg E rfl (wy_ E E.g0) (m_ rfl E.g9) fun a E => eg (v := .bool (((clsAt s j : Nat) : Int) == 5)) E rfl (wy_ E E.g1) (run_ueql E.g0 rfl rfl) fun a E => ep (v := .bool (((clsAt s j : Nat) : Int) == 5)) E rfl (run_pick_f rfl E.g2 E.g0) fun a E => n_ (t_ ?_)
          cases hq142 : (((clsAt s j : Nat) : Int) == 5) with
          | false =>
           rw [hq142] at E
           have hj5 : (clsAt s j == 5) = false := (natq (clsAt s j) 5).symm.trans hq142
           refine c_f E.g0 (k_ (b_ (t_ (s_ ?_))))
           have hwq : wrdAt s j = false := by rw [wrd_35 hds, hj3, hj5]; rfl
           rw [hwq, decide_eq_false hd9] at hon
           simp only [Bool.or_true, Bool.or_false, Bool.false_eq_true, if_true, if_false] at hon
           obtain ⟨hx, hLn⟩ := hL.tok hc hon (by decide) (by omega)
           refine envI_region (envI_put (d := 140) (v := .func (.yield l) #[] #[]) E rfl (by decide) rfl (wanted_none rfl _) (m_ rfl E.g22) fun a E => envI_put (d := 141) (v := .agg (fdA ((2, ((s.take j).drop i), (i : Int)), 0))) E rfl (by decide) rfl (wanted_none rfl _) (run_ld81 rfl E.g21 (rng4 (p := ((2, ((s.take j).drop i), (i : Int)), 0)) hb126 0 rfl rfl rfl rfl)) fun a E => envI_yield (d := 142) E rfl (by decide) rfl (wanted_none rfl _) rfl E.g1 E.g0 (hround k h _ _ (hJF _ _ _ _ hJ hf) (by unfold lexV; rw [List.getElem?_map, hx]; rfl)) fun a w3 bb hbb E => ?_)
           cases hq143 : bb with
           | false =>
            rw [hq143] at E
            have hS : S w3 := hbb.elim (fun h9 => by rw [hq143] at h9; cases h9.1) (fun h9 => h9.2)
            have hb6y : True := trivial
            refine envI_put (d := 143) (v := .bool true) E rfl (by decide) rfl (wanted_none rfl _) (run_not rfl E.g0) fun a E => envI_put (d := 144) (v := .bool true) E rfl (by decide) rfl (wanted_none rfl _) (m_ rfl E.g0) fun a E => envI_skip (d := 145) (g := 4) (s := 144) E rfl (by decide) rfl rfl rfl (by decide) E.g0 fun a E => envI_skip (d := 146) (g := 4) (s := 144) E rfl (by decide) rfl rfl rfl (by decide) E.g1 fun a E => envI_skip (d := 147) (g := 4) (s := 144) E rfl (by decide) rfl rfl rfl (by decide) E.g2 fun a E => envI_put (d := 148) (v := .bool true) E rfl (by decide) rfl (wanted_none rfl _) (run_pick_t rfl E.g3 rfl) fun a E => envI_nil (t_ (c_t E.g0 (wr_ (br_ (tr_ (br_ (ng_r ((ret_nil rfl E ⟨⟨_, rfl⟩, .inr hS⟩).2))))))))
           | true =>
            rw [hq143] at E
            obtain ⟨⟨h2, hJ2⟩, fy⟩ : (∃ h2, J (k + 1) h2 w3) ∧ Fr (fun b => b < h) w1 w3 := hbb.elim (fun h9 => h9.2) (fun h9 => by rw [hq143] at h9; cases h9.1)
            have hb126 := fy.obj hb126 (by omega)
            have hb6y : True := trivial
            refine envI_put (d := 143) (v := .bool false) E rfl (by decide) rfl (wanted_none rfl _) (run_not rfl E.g0) fun a E => envI_put (d := 144) (v := .bool false) E rfl (by decide) rfl (wanted_none rfl _) (m_ rfl E.g0) fun a E => envI_put (d := 145) (v := .pointer (some ⟨b126, 3, none⟩)) E rfl (by decide) rfl (wy_ E E.g0) (fa81_1 rfl E.g25) fun a E => envI_put (d := 146) (v := .int .i64 0) E rfl (by decide) rfl (wy_ E E.g1) (run_lde rfl E.g0 (bx hb126 3 rfl)) fun a E => envI_put (d := 147) (v := .bool false) E rfl (by decide) rfl (wy_ E E.g2) (run_ineq (m := 0) (n := 0) E.g0 rfl Tryz.underlying25 rfl) fun a E => envI_put (d := 148) (v := .bool false) E rfl (by decide) rfl (wanted_none rfl _) (run_pick_f rfl E.g3 E.g0) fun a E => envI_nil (t_ (c_f E.g0 (k_ (b_ (t_ ?_)))))
            refine ⟨⟨(k + 1), j, h2, E.of ⟨E.g31, E.g32, E.g33, E.g34.trans (by first | rfl | (congr 1 <;> omega)), trivial⟩, hJ2, (by rwa [show i + 1 + (j - (i + 1)) = j by omega] at hLn)⟩, ?_⟩
            rw [E.g34]; simp only [intOf]; omega
          | true =>
           rw [hq142] at E
           have hj5 : (clsAt s j == 5) = true := (natq (clsAt s j) 5).symm.trans hq142
           refine c_t E.g0 (r_ (ep (v := .pointer (some ⟨b126, 3, none⟩)) E rfl (fa81_1 rfl E.g20) fun a E => env_st1 (j := 3) E rfl (wanted_none rfl _) hb126 (run_st25 rfl E.g0 rfl (bx hb126 3 rfl) (free_of_blk hb126 3)) fun w1 hb126n f1 E => ?_))
           replace hb126n : w1.heap[b126]? = some (.cells #[.int .i64 2, .string (ofL ((s.take j).drop i)), .int .i64 (i : Int), .int .i64 4] 81 (0, 0)) := hb126n
           have hK := LexK.fr hK f1 nq_ nq_
           have hc1 := f1.obj hc1 nq_
           have hc2 := f1.obj hc2 nq_
           have hf := hf.trans' f1 (fun _ hr => nq_)
           clear f1
           replace hb126 := hb126n
           refine n_ (b_ (t_ (s_ ?_)))
           have hwq : wrdAt s j = true := by rw [wrd_35 hds, hj3, hj5]; rfl
           rw [hwq, decide_eq_false hd9] at hon
           simp only [Bool.or_true, Bool.or_false, Bool.false_eq_true, if_true, if_false] at hon
           obtain ⟨hx, hend⟩ := hL.err hc hon (by decide)
           refine envI_region (envI_put (d := 140) (v := .func (.yield l) #[] #[]) E rfl (by decide) rfl (wanted_none rfl _) (m_ rfl E.g23) fun a E => envI_put (d := 141) (v := .agg (fdA ((2, ((s.take j).drop i), (i : Int)), 4))) E rfl (by decide) rfl (wanted_none rfl _) (run_ld81 rfl E.g22 (rng4 (p := ((2, ((s.take j).drop i), (i : Int)), 4)) hb126 0 rfl rfl rfl rfl)) fun a E => envI_yield (d := 142) E rfl (by decide) rfl (wanted_none rfl _) rfl E.g1 E.g0 (hround k h _ _ (hJF _ _ _ _ hJ hf) (by unfold lexV; rw [List.getElem?_map, hx]; rfl)) fun a w3 bb hbb E => ?_)
           cases hq144 : bb with
           | false =>
            rw [hq144] at E
            have hS : S w3 := hbb.elim (fun h9 => by rw [hq144] at h9; cases h9.1) (fun h9 => h9.2)
            have hb6y : True := trivial
            refine envI_put (d := 143) (v := .bool true) E rfl (by decide) rfl (wanted_none rfl _) (run_not rfl E.g0) fun a E => envI_put (d := 144) (v := .bool true) E rfl (by decide) rfl (wanted_none rfl _) (m_ rfl E.g0) fun a E => envI_skip (d := 145) (g := 4) (s := 144) E rfl (by decide) rfl rfl rfl (by decide) E.g0 fun a E => envI_skip (d := 146) (g := 4) (s := 144) E rfl (by decide) rfl rfl rfl (by decide) E.g1 fun a E => envI_skip (d := 147) (g := 4) (s := 144) E rfl (by decide) rfl rfl rfl (by decide) E.g2 fun a E => envI_put (d := 148) (v := .bool true) E rfl (by decide) rfl (wanted_none rfl _) (run_pick_t rfl E.g3 rfl) fun a E => envI_nil (t_ (c_t E.g0 (wr_ (br_ (tr_ (br_ (ng_r ((ret_nil rfl E ⟨⟨_, rfl⟩, .inr hS⟩).2))))))))
           | true =>
            rw [hq144] at E
            obtain ⟨⟨h2, hJ2⟩, fy⟩ : (∃ h2, J (k + 1) h2 w3) ∧ Fr (fun b => b < h) w1 w3 := hbb.elim (fun h9 => h9.2) (fun h9 => by rw [hq144] at h9; cases h9.1)
            have hb126 := fy.obj hb126 (by omega)
            have hb6y : True := trivial
            refine envI_put (d := 143) (v := .bool false) E rfl (by decide) rfl (wanted_none rfl _) (run_not rfl E.g0) fun a E => envI_put (d := 144) (v := .bool false) E rfl (by decide) rfl (wanted_none rfl _) (m_ rfl E.g0) fun a E => envI_put (d := 145) (v := .pointer (some ⟨b126, 3, none⟩)) E rfl (by decide) rfl (wy_ E E.g0) (fa81_1 rfl E.g26) fun a E => envI_put (d := 146) (v := .int .i64 4) E rfl (by decide) rfl (wy_ E E.g1) (run_lde rfl E.g0 (bx hb126 3 rfl)) fun a E => envI_put (d := 147) (v := .bool true) E rfl (by decide) rfl (wy_ E E.g2) (run_ineq (m := 4) (n := 0) E.g0 rfl Tryz.underlying25 rfl) fun a E => envI_put (d := 148) (v := .bool true) E rfl (by decide) rfl (wanted_none rfl _) (run_pick_f rfl E.g3 E.g0) fun a E => envI_nil (t_ (c_t E.g0 (wr_ (br_ (tr_ (br_ (ng_r ((ret_nil rfl E ⟨⟨_, rfl⟩, .inl ?_⟩).2))))))))
            unfold lexV
            rw [List.length_map, ← hend]; exact ⟨_, hJ2⟩
         | true =>
          rw [hq141] at E
          have hj3 : (clsAt s j == 3) = true := (natq (clsAt s j) 3).symm.trans hq141
          refine ek E rfl rfl E.g0 fun a E => ek E rfl rfl E.g1 fun a E => ep (v := .bool true) E rfl (run_pick_t rfl E.g2 rfl) fun a E => n_ (t_ (c_t E.g0 (r_ (ep (v := .pointer (some ⟨b126, 3, none⟩)) E rfl (fa81_1 rfl E.g20) fun a E => env_st1 (j := 3) E rfl (wanted_none rfl _) hb126 (run_st25 rfl E.g0 rfl (bx hb126 3 rfl) (free_of_blk hb126 3)) fun w1 hb126n f1 E => ?_))))
          replace hb126n : w1.heap[b126]? = some (.cells #[.int .i64 2, .string (ofL ((s.take j).drop i)), .int .i64 (i : Int), .int .i64 4] 81 (0, 0)) := hb126n
          have hK := LexK.fr hK f1 nq_ nq_
          have hc1 := f1.obj hc1 nq_
          have hc2 := f1.obj hc2 nq_
          have hf := hf.trans' f1 (fun _ hr => nq_)
          clear f1
          replace hb126 := hb126n
          refine n_ (b_ (t_ (s_ ?_)))
          have hwq : wrdAt s j = true := by rw [wrd_35 hds, hj3]; simp
          rw [hwq, decide_eq_false hd9] at hon
          simp only [Bool.or_true, Bool.or_false, Bool.false_eq_true, if_true, if_false] at hon
          obtain ⟨hx, hend⟩ := hL.err hc hon (by decide)
          refine envI_region (envI_put (d := 140) (v := .func (.yield l) #[] #[]) E rfl (by decide) rfl (wanted_none rfl _) (m_ rfl E.g23) fun a E => envI_put (d := 141) (v := .agg (fdA ((2, ((s.take j).drop i), (i : Int)), 4))) E rfl (by decide) rfl (wanted_none rfl _) (run_ld81 rfl E.g22 (rng4 (p := ((2, ((s.take j).drop i), (i : Int)), 4)) hb126 0 rfl rfl rfl rfl)) fun a E => envI_yield (d := 142) E rfl (by decide) rfl (wanted_none rfl _) rfl E.g1 E.g0 (hround k h _ _ (hJF _ _ _ _ hJ hf) (by unfold lexV; rw [List.getElem?_map, hx]; rfl)) fun a w3 bb hbb E => ?_)
          cases hq145 : bb with
          | false =>
           rw [hq145] at E
           have hS : S w3 := hbb.elim (fun h9 => by rw [hq145] at h9; cases h9.1) (fun h9 => h9.2)
           have hb6y : True := trivial
           refine envI_put (d := 143) (v := .bool true) E rfl (by decide) rfl (wanted_none rfl _) (run_not rfl E.g0) fun a E => envI_put (d := 144) (v := .bool true) E rfl (by decide) rfl (wanted_none rfl _) (m_ rfl E.g0) fun a E => envI_skip (d := 145) (g := 4) (s := 144) E rfl (by decide) rfl rfl rfl (by decide) E.g0 fun a E => envI_skip (d := 146) (g := 4) (s := 144) E rfl (by decide) rfl rfl rfl (by decide) E.g1 fun a E => envI_skip (d := 147) (g := 4) (s := 144) E rfl (by decide) rfl rfl rfl (by decide) E.g2 fun a E => envI_put (d := 148) (v := .bool true) E rfl (by decide) rfl (wanted_none rfl _) (run_pick_t rfl E.g3 rfl) fun a E => envI_nil (t_ (c_t E.g0 (wr_ (br_ (tr_ (br_ (ng_r ((ret_nil rfl E ⟨⟨_, rfl⟩, .inr hS⟩).2))))))))
          | true =>
           rw [hq145] at E
           obtain ⟨⟨h2, hJ2⟩, fy⟩ : (∃ h2, J (k + 1) h2 w3) ∧ Fr (fun b => b < h) w1 w3 := hbb.elim (fun h9 => h9.2) (fun h9 => by rw [hq145] at h9; cases h9.1)
           have hb126 := fy.obj hb126 (by omega)
           have hb6y : True := trivial
           refine envI_put (d := 143) (v := .bool false) E rfl (by decide) rfl (wanted_none rfl _) (run_not rfl E.g0) fun a E => envI_put (d := 144) (v := .bool false) E rfl (by decide) rfl (wanted_none rfl _) (m_ rfl E.g0) fun a E => envI_put (d := 145) (v := .pointer (some ⟨b126, 3, none⟩)) E rfl (by decide) rfl (wy_ E E.g0) (fa81_1 rfl E.g26) fun a E => envI_put (d := 146) (v := .int .i64 4) E rfl (by decide) rfl (wy_ E E.g1) (run_lde rfl E.g0 (bx hb126 3 rfl)) fun a E => envI_put (d := 147) (v := .bool true) E rfl (by decide) rfl (wy_ E E.g2) (run_ineq (m := 4) (n := 0) E.g0 rfl Tryz.underlying25 rfl) fun a E => envI_put (d := 148) (v := .bool true) E rfl (by decide) rfl (wanted_none rfl _) (run_pick_f rfl E.g3 E.g0) fun a E => envI_nil (t_ (c_t E.g0 (wr_ (br_ (tr_ (br_ (ng_r ((ret_nil rfl E ⟨⟨_, rfl⟩, .inl ?_⟩).2))))))))
           unfold lexV
           rw [List.length_map, ← hend]; exact ⟨_, hJ2⟩
        | true =>
         rw [hq140] at E
         have hd9 := of_decide_eq_true hq140
         refine ek E rfl rfl E.g0 fun a E => ek E rfl rfl E.g1 fun a E => ep (v := .bool true) E rfl (run_pick_t rfl E.g2 rfl) fun a E => ep E rfl (m_ rfl E.g0) fun a E => ek E rfl rfl E.g0 fun a E => ek E rfl rfl E.g1 fun a E => ep (v := .bool true) E rfl (run_pick_t rfl E.g2 rfl) fun a E => n_ (t_ (c_t E.g0 (r_ (ep (v := .pointer (some ⟨b126, 3, none⟩)) E rfl (fa81_1 rfl E.g20) fun a E => env_st1 (j := 3) E rfl (wanted_none rfl _) hb126 (run_st25 rfl E.g0 rfl (bx hb126 3 rfl) (free_of_blk hb126 3)) fun w1 hb126n f1 E => ?_))))
         replace hb126n : w1.heap[b126]? = some (.cells #[.int .i64 2, .string (ofL ((s.take j).drop i)), .int .i64 (i : Int), .int .i64 4] 81 (0, 0)) := hb126n
         have hK := LexK.fr hK f1 nq_ nq_
         have hc1 := f1.obj hc1 nq_
         have hc2 := f1.obj hc2 nq_
         have hf := hf.trans' f1 (fun _ hr => nq_)
         clear f1
         replace hb126 := hb126n
         refine n_ (b_ (t_ (s_ ?_)))
         rw [decide_eq_true hd9, Bool.true_or, if_pos rfl] at hon
         obtain ⟨hx, hend⟩ := hL.err hc hon (by decide)
         refine envI_region (envI_put (d := 140) (v := .func (.yield l) #[] #[]) E rfl (by decide) rfl (wanted_none rfl _) (m_ rfl E.g23) fun a E => envI_put (d := 141) (v := .agg (fdA ((2, ((s.take j).drop i), (i : Int)), 4))) E rfl (by decide) rfl (wanted_none rfl _) (run_ld81 rfl E.g22 (rng4 (p := ((2, ((s.take j).drop i), (i : Int)), 4)) hb126 0 rfl rfl rfl rfl)) fun a E => envI_yield (d := 142) E rfl (by decide) rfl (wanted_none rfl _) rfl E.g1 E.g0 (hround k h _ _ (hJF _ _ _ _ hJ hf) (by unfold lexV; rw [List.getElem?_map, hx]; rfl)) fun a w3 bb hbb E => ?_)
         cases hq146 : bb with
         | false =>
          rw [hq146] at E
          have hS : S w3 := hbb.elim (fun h9 => by rw [hq146] at h9; cases h9.1) (fun h9 => h9.2)
          have hb6y : True := trivial
          refine envI_put (d := 143) (v := .bool true) E rfl (by decide) rfl (wanted_none rfl _) (run_not rfl E.g0) fun a E => envI_put (d := 144) (v := .bool true) E rfl (by decide) rfl (wanted_none rfl _) (m_ rfl E.g0) fun a E => envI_skip (d := 145) (g := 4) (s := 144) E rfl (by decide) rfl rfl rfl (by decide) E.g0 fun a E => envI_skip (d := 146) (g := 4) (s := 144) E rfl (by decide) rfl rfl rfl (by decide) E.g1 fun a E => envI_skip (d := 147) (g := 4) (s := 144) E rfl (by decide) rfl rfl rfl (by decide) E.g2 fun a E => envI_put (d := 148) (v := .bool true) E rfl (by decide) rfl (wanted_none rfl _) (run_pick_t rfl E.g3 rfl) fun a E => envI_nil (t_ (c_t E.g0 (wr_ (br_ (tr_ (br_ (ng_r ((ret_nil rfl E ⟨⟨_, rfl⟩, .inr hS⟩).2))))))))
         | true =>
          rw [hq146] at E
          obtain ⟨⟨h2, hJ2⟩, fy⟩ : (∃ h2, J (k + 1) h2 w3) ∧ Fr (fun b => b < h) w1 w3 := hbb.elim (fun h9 => h9.2) (fun h9 => by rw [hq146] at h9; cases h9.1)
          have hb126 := fy.obj hb126 (by omega)
          have hb6y : True := trivial
          refine envI_put (d := 143) (v := .bool false) E rfl (by decide) rfl (wanted_none rfl _) (run_not rfl E.g0) fun a E => envI_put (d := 144) (v := .bool false) E rfl (by decide) rfl (wanted_none rfl _) (m_ rfl E.g0) fun a E => envI_put (d := 145) (v := .pointer (some ⟨b126, 3, none⟩)) E rfl (by decide) rfl (wy_ E E.g0) (fa81_1 rfl E.g26) fun a E => envI_put (d := 146) (v := .int .i64 4) E rfl (by decide) rfl (wy_ E E.g1) (run_lde rfl E.g0 (bx hb126 3 rfl)) fun a E => envI_put (d := 147) (v := .bool true) E rfl (by decide) rfl (wy_ E E.g2) (run_ineq (m := 4) (n := 0) E.g0 rfl Tryz.underlying25 rfl) fun a E => envI_put (d := 148) (v := .bool true) E rfl (by decide) rfl (wanted_none rfl _) (run_pick_f rfl E.g3 E.g0) fun a E => envI_nil (t_ (c_t E.g0 (wr_ (br_ (tr_ (br_ (ng_r ((ret_nil rfl E ⟨⟨_, rfl⟩, .inl ?_⟩).2))))))))
          unfold lexV
          rw [List.length_map, ← hend]; exact ⟨_, hJ2⟩
      | true =>
       rw [hq139] at E
       have hj4 : (clsAt s j == 4) = true := (natq (clsAt s j) 4).symm.trans hq139
       refine c_t E.g0 (k_ (t_ (bk_ (r_ (ep E rfl (m_ rfl E.g9) fun a E => ep (v := .int .i64 ((j : Int) + 1)) E rfl (run_iadd Tryz.underlying3 E.g0 rfl (by omega) (by omega) rfl) fun a E => es_ E rfl (a_ rfl E.g0) fun a E => n_ (b_ (t_ ?_)))))))
       have hwj : digAt s j = true := by unfold digAt; first | (rw [hj4]; done) | (rw [hj4]; rfl)
       have hltj : j < s.length := by
        rcases Nat.lt_or_ge j s.length with h9 | h9
        ·exact h9
        ·rw [digAt_no h9] at hwj; cases hwj
       obtain ⟨e, he⟩ : ∃ e, s[j]? = some e := ⟨_, List.getElem?_eq_getElem hltj⟩
       have hen : isDig e = true := by rw [← digAt_is he]; exact hwj
       refine ⟨⟨j + 1, E.of ⟨E.g7, E.g8, E.g9, E.g10, E.g11, E.g0.trans (by congr 1), trivial⟩, hr.step he hen, fL⟩, ?_⟩
       rw [E.g0]; simp only [intOf]; omega
    | true =>
     rw [hq129] at E
     have hlet : isLet c = true := by rw [← (cl8_qs c).2.2.1, ← clsAt_is hc]; exact (natq (clsAt s i) 3).symm.trans hq129
     refine c_t E.g0 (s_ (s_ (r_ (ep (v := .func (.func 73) #[] #[.pointer (some ⟨c1, 0, none⟩), .pointer (some ⟨c3, 0, none⟩)]) E rfl (run_ld113 rfl E.g21 (bx hc2 0 rfl)) fun a E => ep E rfl (m_ rfl E.g23) fun a E => ec_ (v := .int .u8 ((clsAt s i : Nat) : Int)) E rfl (run_callf1 (enters_of Tryz.func73 (by kernel_rfl) rfl) rfl E.g1 E.g0 rfl) (at_calls hK i) fun a w1 f1 E => ?_))))
     have hK := LexK.fr hK f1 id id
     have hc1 := f1.obj hc1 id
     have hc2 := f1.obj hc2 id
     have hb126 := f1.obj hb126 id
     have hf := hf.trans' f1 (fun _ _ h => h.elim)
     clear f1
     refine ep E rfl (a_ rfl E.g0) fun a E => n_ (t_ (bk_ (wp_loop (fun a w2 => ∃ (j : Nat), Env 149 [(6, .pointer (some ⟨b126, 0, none⟩)), (5, .int .i64 (i : Int)), (0, .func (.yield l) #[] #[]), (1, .pointer (some ⟨c1, 0, none⟩)), (2, .pointer (some ⟨c2, 0, none⟩)), (4, .int .i64 (j : Int)), (7, .int .u8 ((clsAt s j : Nat) : Int))] a ∧ RunTo isWrd s i j ∧ Fr (fun _ => False) w1 w2) (fun a _ => s.length - (intOf (a.eval (.tmp 4))).toNat) ?_ ?_)))
     ·exact ⟨i, E.of ⟨E.g13, E.g17, E.g23, E.g24, E.g25, E.g26, E.g0, trivial⟩, RunTo.start hL.1, Fr.refl _ _⟩
     clear E
     rintro a w2 ⟨j, E, hr, fL⟩
     have hmu : s.length - (intOf (a.eval (.tmp 4))).toNat = s.length - j := by rw [E.g5]; first | rfl | (simp [intOf]; done) | (simp only [intOf]; omega)
     rw [hmu]
     clear hmu
     have f1 := fL
     have hjl := hr.hi
     have hK := LexK.fr hK f1 id id
     have hc1 := f1.obj hc1 id
     have hc2 := f1.obj hc2 id
     have hb126 := f1.obj hb126 id
     have hf := hf.trans' f1 (fun _ _ h => h.elim)
     clear f1
     refine s_ (s_ (r_ (ep E rfl (m_ rfl E.g6) fun a E => ep (v := .bool (((clsAt s j : Nat) : Int) == 3)) E rfl (run_ueql E.g0 rfl rfl) fun a E => ep E rfl (m_ rfl E.g0) fun a E => ?_)))
     cases hq148 : (((clsAt s j : Nat) : Int) == 3) with
     | false =>
      rw [hq148] at E
      have hj3 : (clsAt s j == 3) = false := (natq (clsAt s j) 3).symm.trans hq148
      refine eg E rfl (wy_ E E.g0) (m_ rfl E.g9) fun a E => eg (v := .bool (((clsAt s j : Nat) : Int) == 4)) E rfl (wy_ E E.g1) (run_ueql E.g0 rfl rfl) fun a E => ep (v := .bool (((clsAt s j : Nat) : Int) == 4)) E rfl (run_pick_f rfl E.g2 E.g0) fun a E => ep E rfl (m_ rfl E.g0) fun a E => ?_
      cases hq149 : (((clsAt s j : Nat) : Int) == 4) with
      | false =>
       rw [hq149] at E
       have hj4 : (clsAt s j == 4) = false := (natq (clsAt s j) 4).symm.trans hq149
       refine eg E rfl (wy_ E E.g0) (m_ rfl E.g13) fun a E => eg (v := .bool (((clsAt s j : Nat) : Int) == 5)) E rfl (wy_ E E.g1) (run_ueql E.g0 rfl rfl) fun a E => ep (v := .bool (((clsAt s j : Nat) : Int) == 5)) E rfl (run_pick_f rfl E.g2 E.g0) fun a E => n_ (t_ ?_)
       cases hq150 : (((clsAt s j : Nat) : Int) == 5) with
       | false =>
        rw [hq150] at E
        have hj5 : (clsAt s j == 5) = false := (natq (clsAt s j) 5).symm.trans hq150
        refine c_f E.g0 (x_ (te_ (te_ (be_ (t_ (s_ ?_))))))
        have hws : wrdAt s j = false := by unfold wrdAt; rw [hj3, hj4, hj5]; rfl
        obtain ⟨hon, hij⟩ := let_one hc hlet hr hws
        have hjl := hr.hi
        refine wp_region_invx (G := Unit) () (n := 149) (base := [(54, .bool false), (53, .bool false), (52, .int .u8 ((clsAt s j : Nat) : Int)), (51, .bool false), (50, .bool false), (49, .bool false), (48, .int .u8 ((clsAt s j : Nat) : Int)), (47, .bool false), (46, .bool false), (45, .int .u8 ((clsAt s j : Nat) : Int)), (6, .pointer (some ⟨b126, 0, none⟩)), (5, .int .i64 (i : Int)), (0, .func (.yield l) #[] #[]), (1, .pointer (some ⟨c1, 0, none⟩)), (2, .pointer (some ⟨c2, 0, none⟩)), (4, .int .i64 (j : Int)), (7, .int .u8 ((clsAt s j : Nat) : Int))]) (U := []) (T := fun γ => [some (60, .string (ofL s)), some (61, .int .i64 (i : Int)), some (62, .int .i64 (j : Int)), some (63, .string (ofL ((s.take j).drop i))), some (64, .pointer (some ⟨b126, 0, none⟩)), some (65, .pointer (some ⟨b126, 0, none⟩)), none, some (66, .pointer (some ⟨b126, 0, none⟩)), some (67, .pointer (some ⟨b126, 1, none⟩)), none, some (68, .pointer (some ⟨b126, 3, none⟩)), none]) (M := fun γ ls9 wm => Fr (fun r => r = b126) w2 wm ∧ wm.heap[b126]? = some (.cells #[(bif ls9 6 then .int .i64 1 else .int .i64 0), (bif ls9 9 then .string (ofL ((s.take j).drop i)) else .string (ofL [])), .int .i64 (i : Int), (bif ls9 11 then .int .i64 0 else .int .i64 3)] 81 (0, 0))) (by kernel_rfl) (by kernel_rfl) (fun _ => by kernel_rfl) (E.of ⟨E.g0, E.g1, E.g2, E.g3, E.g4, E.g5, E.g6, E.g7, E.g8, E.g9, E.g10, E.g11, E.g12, E.g13, E.g14, E.g15, E.g16, trivial⟩) (fun x hx => by cases hx) ⟨(Fr.refl _ _).drew, hb126⟩ ?_ ?_
        ·intro j9 o9 γ ls9 a w5 ho hl E D DL DL2 hB hM
         have hK := LexK.fr hK hM.1 nq_ nq_
         have hc1 := hM.1.obj hc1 nq_
         have hc2 := hM.1.obj hc2 nq_
         have hb126 := hM.2
         match j9, ho, hl, D, DL, hB with
         | 0, ho, hl, D, DL, hB => exact z0_ ho (valx rfl (run_lds rfl E.g13 (bx hc1 0 rfl)) rfl hM)
         | 1, ho, hl, D, DL, hB => exact z0_ ho (valx rfl (m_ rfl E.g11) rfl hM)
         | 2, ho, hl, D, DL, hB => exact z0_ ho (valx rfl (m_ rfl E.g15) rfl hM)
         | 3, ho, hl, D, DL, hB => exact z0_ ho (valx rfl (run_sub (a := i) (b := j) rfl (D 0 _ rfl rfl) (D 1 _ rfl rfl) (D 2 _ rfl rfl) (by omega) (by omega)) rfl hM)
         | 4, ho, hl, D, DL, hB => exact z0_ ho (valx rfl (fa81_0 rfl E.g10) rfl hM)
         | 5, ho, hl, D, DL, hB => exact z0_ ho (valx rfl (fa38_0 rfl (D 4 _ rfl rfl)) rfl hM)
         | 6, ho, hl, D, DL, hB => exact z0_ ho (storex rfl (run_st3 rfl (D 5 _ rfl rfl) rfl (bx hb126 0 rfl) (free_of_blk hb126 0)) rfl ⟨hM.1.trans (((Fr.refl (fun r => r = b126) w5).setCell (p := ⟨b126, 0, none⟩) (fun _ => rfl) _).mono (fun r _ e => by first | exact e | exact .inl e | exact .inr e | exact .inr (.inl e) | exact .inr (.inr e))), blk_setCell_same (off := 0) hb126 _⟩)
         | 7, ho, hl, D, DL, hB => exact z0_ ho (valx rfl (fa81_0 rfl E.g10) rfl hM)
         | 8, ho, hl, D, DL, hB => exact z0_ ho (valx rfl (fa38_1 rfl (D 7 _ rfl rfl)) rfl hM)
         | 9, ho, hl, D, DL, hB => exact z0_ ho (storex rfl (run_st9 rfl (D 8 _ rfl rfl) (D 3 _ rfl rfl) (bx hb126 1 rfl) (free_of_blk hb126 1)) rfl ⟨hM.1.trans (((Fr.refl (fun r => r = b126) w5).setCell (p := ⟨b126, 1, none⟩) (fun _ => rfl) _).mono (fun r _ e => by first | exact e | exact .inl e | exact .inr e | exact .inr (.inl e) | exact .inr (.inr e))), blk_setCell_same (off := 1) hb126 _⟩)
         | 10, ho, hl, D, DL, hB => exact z0_ ho (valx rfl (fa81_1 rfl E.g10) rfl hM)
         | 11, ho, hl, D, DL, hB => exact z0_ ho (storex rfl (run_st25 rfl (D 10 _ rfl rfl) rfl (bx hb126 3 rfl) (free_of_blk hb126 3)) rfl ⟨hM.1.trans (((Fr.refl (fun r => r = b126) w5).setCell (p := ⟨b126, 3, none⟩) (fun _ => rfl) _).mono (fun r _ e => by first | exact e | exact .inl e | exact .inr e | exact .inr (.inl e) | exact .inr (.inr e))), blk_setCell_same (off := 3) hb126 _⟩)
         | j9 + 12, ho, hl, D, DL, hB => exact absurd ho (by simp)
        ·rintro _ a w5 E V hM
         clear V
         have f1 := hM.1
         have hb126n : w5.heap[b126]? = some (.cells #[.int .i64 1, .string (ofL ((s.take j).drop i)), .int .i64 (i : Int), .int .i64 0] 81 (0, 0)) := hM.2
         clear hM
         have hK := LexK.fr hK f1 nq_ nq_
         have hc1 := f1.obj hc1 nq_
         have hc2 := f1.obj hc2 nq_
         have hf := hf.trans' f1 (fun _ hr => nq_)
         clear f1
         replace hb126 := hb126n
         refine t_ (s_ (r_ (ep E rfl (m_ rfl E.g15) fun a E => ep E rfl (m_ rfl E.g12) fun a E => ep (v := .int .i64 ((j : Int) - (i : Int))) E rfl (run_isub Tryz.underlying3 E.g1 E.g0 (by omega) (by omega) rfl) fun a E => ep (v := .bool (decide (24 < ((j : Int) - (i : Int))))) E rfl (run_igtr E.g0 rfl Tryz.underlying3 rfl) fun a E => n_ (t_ ?_))))
         cases hq151 : (decide (24 < ((j : Int) - (i : Int)))) with
         | false =>
          rw [hq151] at E
          have hd9 := of_decide_eq_false hq151
          refine c_f E.g0 (k_ (b_ (t_ (s_ ?_))))
          rw [if_neg hd9] at hon
          obtain ⟨hx, hLn⟩ := hL.tok hc hon (by decide) (by omega)
          refine envI_region (envI_put (d := 140) (v := .func (.yield l) #[] #[]) E rfl (by decide) rfl (wanted_none rfl _) (m_ rfl E.g16) fun a E => envI_put (d := 141) (v := .agg (fdA ((1, ((s.take j).drop i), (i : Int)), 0))) E rfl (by decide) rfl (wanted_none rfl _) (run_ld81 rfl E.g15 (rng4 (p := ((1, ((s.take j).drop i), (i : Int)), 0)) hb126 0 rfl rfl rfl rfl)) fun a E => envI_yield (d := 142) E rfl (by decide) rfl (wanted_none rfl _) rfl E.g1 E.g0 (hround k h _ _ (hJF _ _ _ _ hJ hf) (by unfold lexV; rw [List.getElem?_map, hx]; rfl)) fun a w3 bb hbb E => ?_)
          cases hq152 : bb with
          | false =>
           rw [hq152] at E
           have hS : S w3 := hbb.elim (fun h9 => by rw [hq152] at h9; cases h9.1) (fun h9 => h9.2)
           have hb6y : True := trivial
           refine envI_put (d := 143) (v := .bool true) E rfl (by decide) rfl (wanted_none rfl _) (run_not rfl E.g0) fun a E => envI_put (d := 144) (v := .bool true) E rfl (by decide) rfl (wanted_none rfl _) (m_ rfl E.g0) fun a E => envI_skip (d := 145) (g := 4) (s := 144) E rfl (by decide) rfl rfl rfl (by decide) E.g0 fun a E => envI_skip (d := 146) (g := 4) (s := 144) E rfl (by decide) rfl rfl rfl (by decide) E.g1 fun a E => envI_skip (d := 147) (g := 4) (s := 144) E rfl (by decide) rfl rfl rfl (by decide) E.g2 fun a E => envI_put (d := 148) (v := .bool true) E rfl (by decide) rfl (wanted_none rfl _) (run_pick_t rfl E.g3 rfl) fun a E => envI_nil (t_ (c_t E.g0 (wr_ (br_ (tr_ (br_ (ng_r ((ret_nil rfl E ⟨⟨_, rfl⟩, .inr hS⟩).2))))))))
          | true =>
           rw [hq152] at E
           obtain ⟨⟨h2, hJ2⟩, fy⟩ : (∃ h2, J (k + 1) h2 w3) ∧ Fr (fun b => b < h) w5 w3 := hbb.elim (fun h9 => h9.2) (fun h9 => by rw [hq152] at h9; cases h9.1)
           have hb126 := fy.obj hb126 (by omega)
           have hb6y : True := trivial
           refine envI_put (d := 143) (v := .bool false) E rfl (by decide) rfl (wanted_none rfl _) (run_not rfl E.g0) fun a E => envI_put (d := 144) (v := .bool false) E rfl (by decide) rfl (wanted_none rfl _) (m_ rfl E.g0) fun a E => envI_put (d := 145) (v := .pointer (some ⟨b126, 3, none⟩)) E rfl (by decide) rfl (wy_ E E.g0) (fa81_1 rfl E.g19) fun a E => envI_put (d := 146) (v := .int .i64 0) E rfl (by decide) rfl (wy_ E E.g1) (run_lde rfl E.g0 (bx hb126 3 rfl)) fun a E => envI_put (d := 147) (v := .bool false) E rfl (by decide) rfl (wy_ E E.g2) (run_ineq (m := 0) (n := 0) E.g0 rfl Tryz.underlying25 rfl) fun a E => envI_put (d := 148) (v := .bool false) E rfl (by decide) rfl (wanted_none rfl _) (run_pick_f rfl E.g3 E.g0) fun a E => envI_nil (t_ (c_f E.g0 (k_ (b_ (t_ ?_)))))
           refine ⟨⟨(k + 1), j, h2, E.of ⟨E.g25, E.g26, E.g27, E.g28.trans (by first | rfl | (congr 1 <;> omega)), trivial⟩, hJ2, (by rwa [show i + 1 + (j - (i + 1)) = j by omega] at hLn)⟩, ?_⟩
           rw [E.g28]; simp only [intOf]; omega
         | true =>
          rw [hq151] at E
          have hd9 := of_decide_eq_true hq151
          refine c_t E.g0 (r_ (ep (v := .pointer (some ⟨b126, 3, none⟩)) E rfl (fa81_1 rfl E.g14) fun a E => env_st1 (j := 3) E rfl (wanted_none rfl _) hb126 (run_st25 rfl E.g0 rfl (bx hb126 3 rfl) (free_of_blk hb126 3)) fun w1 hb126n f1 E => ?_))
          replace hb126n : w1.heap[b126]? = some (.cells #[.int .i64 1, .string (ofL ((s.take j).drop i)), .int .i64 (i : Int), .int .i64 2] 81 (0, 0)) := hb126n
          have hK := LexK.fr hK f1 nq_ nq_
          have hc1 := f1.obj hc1 nq_
          have hc2 := f1.obj hc2 nq_
          have hf := hf.trans' f1 (fun _ hr => nq_)
          clear f1
          replace hb126 := hb126n
          refine n_ (b_ (t_ (s_ ?_)))
          rw [if_pos hd9] at hon
          obtain ⟨hx, hend⟩ := hL.err hc hon (by decide)
          refine envI_region (envI_put (d := 140) (v := .func (.yield l) #[] #[]) E rfl (by decide) rfl (wanted_none rfl _) (m_ rfl E.g17) fun a E => envI_put (d := 141) (v := .agg (fdA ((1, ((s.take j).drop i), (i : Int)), 2))) E rfl (by decide) rfl (wanted_none rfl _) (run_ld81 rfl E.g16 (rng4 (p := ((1, ((s.take j).drop i), (i : Int)), 2)) hb126 0 rfl rfl rfl rfl)) fun a E => envI_yield (d := 142) E rfl (by decide) rfl (wanted_none rfl _) rfl E.g1 E.g0 (hround k h _ _ (hJF _ _ _ _ hJ hf) (by unfold lexV; rw [List.getElem?_map, hx]; rfl)) fun a w3 bb hbb E => ?_)
          cases hq153 : bb with
          | false =>
           rw [hq153] at E
           have hS : S w3 := hbb.elim (fun h9 => by rw [hq153] at h9; cases h9.1) (fun h9 => h9.2)
           have hb6y : True := trivial
           refine envI_put (d := 143) (v := .bool true) E rfl (by decide) rfl (wanted_none rfl _) (run_not rfl E.g0) fun a E => envI_put (d := 144) (v := .bool true) E rfl (by decide) rfl (wanted_none rfl _) (m_ rfl E.g0) fun a E => envI_skip (d := 145) (g := 4) (s := 144) E rfl (by decide) rfl rfl rfl (by decide) E.g0 fun a E => envI_skip (d := 146) (g := 4) (s := 144) E rfl (by decide) rfl rfl rfl (by decide) E.g1 fun a E => envI_skip (d := 147) (g := 4) (s := 144) E rfl (by decide) rfl rfl rfl (by decide) E.g2 fun a E => envI_put (d := 148) (v := .bool true) E rfl (by decide) rfl (wanted_none rfl _) (run_pick_t rfl E.g3 rfl) fun a E => envI_nil (t_ (c_t E.g0 (wr_ (br_ (tr_ (br_ (ng_r ((ret_nil rfl E ⟨⟨_, rfl⟩, .inr hS⟩).2))))))))
          | true =>
           rw [hq153] at E
           obtain ⟨⟨h2, hJ2⟩, fy⟩ : (∃ h2, J (k + 1) h2 w3) ∧ Fr (fun b => b < h) w1 w3 := hbb.elim (fun h9 => h9.2) (fun h9 => by rw [hq153] at h9; cases h9.1)
           have hb126 := fy.obj hb126 (by omega)
           have hb6y : True := trivial
           refine envI_put (d := 143) (v := .bool false) E rfl (by decide) rfl (wanted_none rfl _) (run_not rfl E.g0) fun a E => envI_put (d := 144) (v := .bool false) E rfl (by decide) rfl (wanted_none rfl _) (m_ rfl E.g0) fun a E => envI_put (d := 145) (v := .pointer (some ⟨b126, 3, none⟩)) E rfl (by decide) rfl (wy_ E E.g0) (fa81_1 rfl E.g20) fun a E => envI_put (d := 146) (v := .int .i64 2) E rfl (by decide) rfl (wy_ E E.g1) (run_lde rfl E.g0 (bx hb126 3 rfl)) fun a E => envI_put (d := 147) (v := .bool true) E rfl (by decide) rfl (wy_ E E.g2) (run_ineq (m := 2) (n := 0) E.g0 rfl Tryz.underlying25 rfl) fun a E => envI_put (d := 148) (v := .bool true) E rfl (by decide) rfl (wanted_none rfl _) (run_pick_f rfl E.g3 E.g0) fun a E => envI_nil (t_ (c_t E.g0 (wr_ (br_ (tr_ (br_ (ng_r ((ret_nil rfl E ⟨⟨_, rfl⟩, .inl ?_⟩).2))))))))
           unfold lexV
           rw [List.length_map, ← hend]; exact ⟨_, hJ2⟩
       | true =>
        rw [hq150] at E
        have hj5 : (clsAt s j == 5) = true := (natq (clsAt s j) 5).symm.trans hq150
        refine c_t E.g0 (k_ (t_ (s_ (bk_ (r_ (ep E rfl (m_ rfl E.g15) fun a E => ep (v := .int .i64 ((j : Int) + 1)) E rfl (run_iadd Tryz.underlying3 E.g0 rfl (by omega) (by omega) rfl) fun a E => es_ E rfl (a_ rfl E.g0) fun a E => n_ (b_ (t_ ?_))))))))
        rw [show ((j : Int) + 1) = ((j + 1 : Nat) : Int) by omega] at E
        refine r_ (ep (v := .func (.func 73) #[] #[.pointer (some ⟨c1, 0, none⟩), .pointer (some ⟨c3, 0, none⟩)]) E rfl (run_ld113 rfl E.g17 (bx hc2 0 rfl)) fun a E => ep E rfl (m_ rfl E.g1) fun a E => ec_ (v := .int .u8 ((clsAt s (j + 1) : Nat) : Int)) E rfl (run_callf1 (enters_of Tryz.func73 (by kernel_rfl) rfl) rfl E.g1 E.g0 rfl) (at_calls hK (j + 1)) fun a w1 f1 E => ?_)
        have hK := LexK.fr hK f1 id id
        have hc1 := f1.obj hc1 id
        have hc2 := f1.obj hc2 id
        have hb126 := f1.obj hb126 id
        have fL := fL.trans f1
        have hf := hf.trans' f1 (fun _ _ h => h.elim)
        clear f1
        refine es_ E rfl (a_ rfl E.g0) fun a E => n_ (t_ ?_)
        have hwj : wrdAt s j = true := by unfold wrdAt; first | (rw [hj3, hj4, hj5]; done) | (rw [hj3, hj4, hj5]; rfl)
        have hltj : j < s.length := by
         rcases Nat.lt_or_ge j s.length with h9 | h9
         ·exact h9
         ·rw [wrdAt_no h9] at hwj; cases hwj
        obtain ⟨e, he⟩ : ∃ e, s[j]? = some e := ⟨_, List.getElem?_eq_getElem hltj⟩
        have hen : isWrd e = true := by rw [← wrdAt_is he]; exact hwj
        refine ⟨⟨j + 1, E.of ⟨E.g17, E.g18, E.g19, E.g20, E.g21, E.g4.trans (by congr 1), E.g0, trivial⟩, hr.step he hen, fL⟩, ?_⟩
        rw [E.g4]; simp only [intOf]; omega
      | true =>
       rw [hq149] at E
       have hj4 : (clsAt s j == 4) = true := (natq (clsAt s j) 4).symm.trans hq149
       refine ek E rfl rfl E.g0 fun a E => ek E rfl rfl E.g1 fun a E => ep (v := .bool true) E rfl (run_pick_t rfl E.g2 rfl) fun a E => n_ (t_ (c_t E.g0 (k_ (t_ (s_ (bk_ (r_ (ep E rfl (m_ rfl E.g15) fun a E => ep (v := .int .i64 ((j : Int) + 1)) E rfl (run_iadd Tryz.underlying3 E.g0 rfl (by omega) (by omega) rfl) fun a E => es_ E rfl (a_ rfl E.g0) fun a E => n_ (b_ (t_ ?_))))))))))
       rw [show ((j : Int) + 1) = ((j + 1 : Nat) : Int) by omega] at E
       refine r_ (ep (v := .func (.func 73) #[] #[.pointer (some ⟨c1, 0, none⟩), .pointer (some ⟨c3, 0, none⟩)]) E rfl (run_ld113 rfl E.g17 (bx hc2 0 rfl)) fun a E => ep E rfl (m_ rfl E.g1) fun a E => ec_ (v := .int .u8 ((clsAt s (j + 1) : Nat) : Int)) E rfl (run_callf1 (enters_of Tryz.func73 (by kernel_rfl) rfl) rfl E.g1 E.g0 rfl) (at_calls hK (j + 1)) fun a w1 f1 E => ?_)
       have hK := LexK.fr hK f1 id id
       have hc1 := f1.obj hc1 id
       have hc2 := f1.obj hc2 id
       have hb126 := f1.obj hb126 id
       have fL := fL.trans f1
       have hf := hf.trans' f1 (fun _ _ h => h.elim)
       clear f1
       refine es_ E rfl (a_ rfl E.g0) fun a E => n_ (t_ ?_)
       have hwj : wrdAt s j = true := by unfold wrdAt; first | (rw [hj3, hj4]; done) | (rw [hj3, hj4]; rfl)
       have hltj : j < s.length := by
        rcases Nat.lt_or_ge j s.length with h9 | h9
        ·exact h9
        ·rw [wrdAt_no h9] at hwj; cases hwj
       obtain ⟨e, he⟩ : ∃ e, s[j]? = some e := ⟨_, List.getElem?_eq_getElem hltj⟩
       have hen : isWrd e = true := by rw [← wrdAt_is he]; exact hwj
       refine ⟨⟨j + 1, E.of ⟨E.g17, E.g18, E.g19, E.g20, E.g21, E.g4.trans (by congr 1), E.g0, trivial⟩, hr.step he hen, fL⟩, ?_⟩
       rw [E.g4]; simp only [intOf]; omega
     | true =>
      rw [hq148] at E
      have hj3 : (clsAt s j == 3) = true := (natq (clsAt s j) 3).symm.trans hq148
      refine ek E rfl rfl E.g0 fun a E => ek E rfl rfl E.g1 fun a E => ep (v := .bool true) E rfl (run_pick_t rfl E.g2 rfl) fun a E => ep E rfl (m_ rfl E.g0) fun a E => ek E rfl rfl E.g0 fun a E => ek E rfl rfl E.g1 fun a E => ep (v := .bool true) E rfl (run_pick_t rfl E.g2 rfl) fun a E => n_ (t_ (c_t E.g0 (k_ (t_ (s_ (bk_ (r_ (ep E rfl (m_ rfl E.g15) fun a E => ep (v := .int .i64 ((j : Int) + 1)) E rfl (run_iadd Tryz.underlying3 E.g0 rfl (by omega) (by omega) rfl) fun a E => es_ E rfl (a_ rfl E.g0) fun a E => n_ (b_ (t_ ?_))))))))))
      rw [show ((j : Int) + 1) = ((j + 1 : Nat) : Int) by omega] at E
      refine r_ (ep (v := .func (.func 73) #[] #[.pointer (some ⟨c1, 0, none⟩), .pointer (some ⟨c3, 0, none⟩)]) E rfl (run_ld113 rfl E.g17 (bx hc2 0 rfl)) fun a E => ep E rfl (m_ rfl E.g1) fun a E => ec_ (v := .int .u8 ((clsAt s (j + 1) : Nat) : Int)) E rfl (run_callf1 (enters_of Tryz.func73 (by kernel_rfl) rfl) rfl E.g1 E.g0 rfl) (at_calls hK (j + 1)) fun a w1 f1 E => ?_)
      have hK := LexK.fr hK f1 id id
      have hc1 := f1.obj hc1 id
      have hc2 := f1.obj hc2 id
      have hb126 := f1.obj hb126 id
      have fL := fL.trans f1
      have hf := hf.trans' f1 (fun _ _ h => h.elim)
      clear f1
      refine es_ E rfl (a_ rfl E.g0) fun a E => n_ (t_ ?_)
      have hwj : wrdAt s j = true := by unfold wrdAt; first | (rw [hj3]; done) | (rw [hj3]; rfl)
      have hltj : j < s.length := by
       rcases Nat.lt_or_ge j s.length with h9 | h9
       ·exact h9
       ·rw [wrdAt_no h9] at hwj; cases hwj
      obtain ⟨e, he⟩ : ∃ e, s[j]? = some e := ⟨_, List.getElem?_eq_getElem hltj⟩
      have hen : isWrd e = true := by rw [← wrdAt_is he]; exact hwj
      refine ⟨⟨j + 1, E.of ⟨E.g17, E.g18, E.g19, E.g20, E.g21, E.g4.trans (by congr 1), E.g0, trivial⟩, hr.step he hen, fL⟩, ?_⟩
      rw [E.g4]; simp only [intOf]; omega
   | true =>
    rw [hq128] at E
    have hhash : (c == 35) = true := by rw [← (cl8_qs c).2.1, ← clsAt_is hc]; exact (natq (clsAt s i) 2).symm.trans hq128
    refine c_t E.g0 (s_ (bk_ (wp_loop (fun a w2 => ∃ (j : Nat), Env 149 [(0, .func (.yield l) #[] #[]), (1, .pointer (some ⟨c1, 0, none⟩)), (2, .pointer (some ⟨c2, 0, none⟩)), (4, .int .i64 (j : Int))] a ∧ RunTo (· != 10) s i j ∧ w2 = w1) (fun a _ => s.length - (intOf (a.eval (.tmp 4))).toNat) ?_ ?_)))
    ·exact ⟨i, E.of ⟨E.g17, E.g18, E.g19, E.g20, trivial⟩, RunTo.start hL.1, rfl⟩
    clear E
    rintro a w2 ⟨j, E, hr, hw2⟩
    have hmu : s.length - (intOf (a.eval (.tmp 4))).toNat = s.length - j := by rw [E.g3]; first | rfl | (simp [intOf]; done) | (simp only [intOf]; omega)
    rw [hmu]
    clear hmu
    subst hw2
    have hjl := hr.hi
    refine s_ (s_ (r_ (ep E rfl (m_ rfl E.g3) fun a E => ep (v := .string (ofL s)) E rfl (run_lds rfl E.g2 (bx hc1 0 rfl)) fun a E => ep (v := .int .i64 (s.length : Int)) E rfl (run_slen rfl E.g0) fun a E => ep (v := .bool (decide ((j : Int) < (s.length : Int)))) E rfl (run_ilss E.g2 E.g0 Tryz.underlying3 rfl) fun a E => ep E rfl (m_ rfl E.g0) fun a E => ?_)))
    cases hq155 : (decide ((j : Int) < (s.length : Int))) with
    | false =>
     rw [hq155] at E
     have hjn : s[j]? = none := List.getElem?_eq_none (by have := of_decide_eq_false hq155; omega)
     refine ek E rfl rfl E.g0 fun a E => ek E rfl rfl E.g1 fun a E => ek E rfl rfl E.g2 fun a E => ek E rfl rfl E.g3 fun a E => ep (v := .bool false) E rfl (run_pick_f rfl E.g4 rfl) fun a E => n_ (t_ (c_f E.g0 (x_ (te_ (te_ (be_ (t_ (x_ (blk_x (by decide) (te_ (be_ (t_ ?_))))))))))))
     obtain ⟨hon, hij⟩ := hash_one hc hblk hhash hr (fun c hc9 => by rw [hjn] at hc9; cases hc9)
     refine ⟨⟨k, j, h, E.of ⟨E.g10, E.g11, E.g12, E.g13.trans (by first | rfl | (congr 1 <;> omega)), trivial⟩, (hJF _ _ _ _ hJ hf), (by have := hL.gap hc hon (by have := hr.hi; omega); rwa [show i + 1 + (j - (i + 1)) = j by omega] at this)⟩, ?_⟩
     rw [E.g13]; simp only [intOf]; omega
    | true =>
     rw [hq155] at E
     have hltj : j < s.length := by have := of_decide_eq_true hq155; omega
     obtain ⟨e, he⟩ : ∃ e, s[j]? = some e := ⟨_, List.getElem?_eq_getElem hltj⟩
     refine eg (v := .string (ofL s)) E rfl (wy_ E E.g0) (run_lds rfl E.g6 (bx hc1 0 rfl)) fun a E => eg E rfl (wy_ E E.g1) (m_ rfl E.g9) fun a E => eg (v := .int .u8 (e.toNat : Int)) E rfl (wy_ E E.g2) (run_byte rfl E.g1 E.g0 he) fun a E => eg (v := .bool ((e.toNat : Int) != 10)) E rfl (wy_ E E.g3) (run_uneq E.g0 rfl rfl) fun a E => ep (v := .bool ((e.toNat : Int) != 10)) E rfl (run_pick_t rfl E.g4 E.g0) fun a E => n_ (t_ ?_)
     cases hq156 : ((e.toNat : Int) != 10) with
     | false =>
      rw [hq156] at E
      have hen : (e != 10) = false := by rw [u10]; exact hq156
      refine c_f E.g0 (x_ (te_ (te_ (be_ (t_ (x_ (blk_x (by decide) (te_ (be_ (t_ ?_))))))))))
      obtain ⟨hon, hij⟩ := hash_one hc hblk hhash hr (fun c hc9 => by rw [he] at hc9; cases hc9; exact hen)
      refine ⟨⟨k, j, h, E.of ⟨E.g10, E.g11, E.g12, E.g13.trans (by first | rfl | (congr 1 <;> omega)), trivial⟩, (hJF _ _ _ _ hJ hf), (by have := hL.gap hc hon (by have := hr.hi; omega); rwa [show i + 1 + (j - (i + 1)) = j by omega] at this)⟩, ?_⟩
      rw [E.g13]; simp only [intOf]; omega
     | true =>
      rw [hq156] at E
      have hen : (e != 10) = true := by rw [u10]; exact hq156
      refine c_t E.g0 (k_ (t_ (bk_ (r_ (ep E rfl (m_ rfl E.g13) fun a E => ep (v := .int .i64 ((j : Int) + 1)) E rfl (run_iadd Tryz.underlying3 E.g0 rfl (by omega) (by omega) rfl) fun a E => es_ E rfl (a_ rfl E.g0) fun a E => n_ (b_ (t_ ?_)))))))
      refine ⟨⟨j + 1, E.of ⟨E.g13, E.g14, E.g15, E.g0.trans (by congr 1), trivial⟩, hr.step he hen, rfl⟩, ?_⟩
      rw [E.g0]; simp only [intOf]; omega
  | true =>
   rw [hq127] at E
   have hblk : isBlk c = true := by rw [← (cl8_qs c).1, ← clsAt_is hc]; exact (natq (clsAt s i) 1).symm.trans hq127
   refine c_t E.g0 (s_ (r_ (ep E rfl (m_ rfl E.g18) fun a E => ep (v := .int .i64 ((i : Int) + 1)) E rfl (run_iadd Tryz.underlying3 E.g0 rfl (by omega) (by omega) rfl) fun a E => es_ E rfl (a_ rfl E.g0) fun a E => n_ (t_ (x_ (blk_x (by decide) (te_ (be_ (t_ ?_)))))))))
   refine ⟨⟨k, (i + 1), h, E.of ⟨E.g18, E.g19, E.g20, E.g0.trans (by first | rfl | (congr 1 <;> omega)), trivial⟩, (hJF _ _ _ _ hJ hf), (by have := hL.gap hc (one_blk hblk) (m := 0) (by omega); simpa using this)⟩, ?_⟩
   rw [E.g0]; simp only [intOf]; omega
end Go.Proofs.YtjaffpnegdcjnaaGreatDoor
/- The lexer: Lex. -/
set_option linter.unusedVariables false
set_option linter.unusedSimpArgs false
namespace Go.Proofs.YtjaffpnegdcjnaaGreatDoor
open Go.RowKit Go.Pl
theorem res3 {fn : Func} {a : Act} {w : World} {t2 t3 t4 : Tmp} {T : TypeId} {b2 b3 b4 : Nat} {p : Option Addr} {m c : Nat} {e x : Int} (hT : Tryz.prog.underlying T = some (.slice 38) ∧ T = 34 ∨ Tryz.prog.underlying T = some (.slice 48) ∧ T = 22) (hr : fn.results = #[.cell t2 T, .cell t3 25, .cell t4 3]) (h2 : a.eval (.tmp t2) = .pointer (some ⟨b2, 0, none⟩)) (h3 : a.eval (.tmp t3) = .pointer (some ⟨b3, 0, none⟩)) (h4 : a.eval (.tmp t4) = .pointer (some ⟨b4, 0, none⟩))
  (c2 : w.cell? ⟨b2, 0, none⟩ = some (.slice p m c)) (c3 : w.cell? ⟨b3, 0, none⟩ = some (.int .i64 e)) (c4 : w.cell? ⟨b4, 0, none⟩ = some (.int .i64 x)) : (results fn a.tmps).run Tryz.prog w = .ok (.tuple #[.slice p m c, .int .i64 e, .int .i64 x]) w := by
 have g2 : a.tmps.getD t2 undef = .pointer (some ⟨b2, 0, none⟩) := h2
 have g3 : a.tmps.getD t3 undef = .pointer (some ⟨b3, 0, none⟩) := h3
 have g4 : a.tmps.getD t4 undef = .pointer (some ⟨b4, 0, none⟩) := h4
 rcases hT with ⟨_, rfl⟩ | ⟨_, rfl⟩
 ·simp [results, hr, asAddr, go_sem] at g2 g3 g4 ⊢
  simp [results, hr, g2, g3, g4, asAddr, go_sem, c2, c3, c4]
 ·simp [results, hr, asAddr, go_sem] at g2 g3 g4 ⊢
  simp [results, hr, g2, g3, g4, asAddr, go_sem, c2, c3, c4]
theorem run_st34v {o : Oper} {w : World} {ρ : Operand → Value} {x y : Operand} {b off : Nat} {u v : Value} (hs : ∃ p n c, v = .slice p n c) (ho : o.op = .store 34 x y) (hx : ρ x = .pointer (some ⟨b, off, none⟩)) (hy : ρ y = v) (hc : w.cell? ⟨b, off, none⟩ = some u) (hz : w.frozen? ⟨b, off, none⟩ = false) : (execOp ρ o).run Tryz.prog w = .ok .skip (w.setCell ⟨b, off, none⟩ v) := by
 obtain ⟨p, n, c, rfl⟩ := hs
 exact run_st34 ho hx hy hc hz
theorem run_len34o {o : Oper} {w : World} {ρ : Operand → Value} {x : Operand} {B : Nat} {v : Value} {L : List (Tok Int)} (h : oTk w B v L) (ho : o.op = .call ⟨.builtin .len, #[x], #[34]⟩) (hx : ρ x = v) : (execOp ρ o).run Tryz.prog w = .ok (.value (.int .i64 L.length)) w := by
 obtain ⟨p, c, rfl, _⟩ := ow.src tkL_len h
 exact run_len34 ho hx
theorem lexP_len {s : Bys} : (lexL s 0).length ≤ s.length := lexL_len _ s 0 (Nat.le_refl _)
def toks (s : Bys) : List (Tok Int) := (lexL s 0).map (·.1)
theorem err_no {l : List (Tok Int × Int)} (h : ∀ x ∈ l, x.2 = 0) : errOf l = none := (errOf_none _).2 h
theorem err_is : ∀ {l : List (Tok Int × Int)} {k : Nat} {x : Tok Int × Int}, l[k]? = some x → (∀ y ∈ l.take k, y.2 = 0) → x.2 ≠ 0 → errOf l = some (x.2, x.1.2.2) := by
 intro l
 induction l with
 | nil => intro k x h; simp at h
 | cons y l ih =>
  intro k x h h0 hx
  cases k with
  | zero => simp at h; subst h; unfold errOf; rw [if_pos (by simpa using hx)]
  | succ k =>
   have hy := h0 y (by simp)
   unfold errOf
   rw [if_neg (by simp [hy])]
   exact ih (by simpa using h) (fun z hz => h0 z (by simp [hz])) hx
set_option maxRecDepth 100000 in
set_option maxHeartbeats 4000000 in
theorem tokens_calls (s : Bys) (w : World) : Calls Tryz.prog 48 #[.string (ofL s)] w fun e w' => ∃ c1 c2 c3, e = .returned (.func (.func 74) #[] #[.pointer (some ⟨c1, 0, none⟩), .pointer (some ⟨c2, 0, none⟩)]) ∧ TokK c1 c2 c3 s w' ∧ w.heap.size ≤ c1 ∧ w.heap.size ≤ c2 ∧ w.heap.size ≤ c3 ∧ Fr (fun _ => False) w w' := by
 refine wp_start1 Tryz.func48 rfl rfl (n := 8) (by decide) fun a E => ?_
 have hf : Fr (fun _ => False) w w := Fr.refl _ _
 refine s_ (r_ (env_new (d := 1) E rfl (by decide) rfl (wanted_none rfl _) (run_box9 rfl E.g0) fun a w1 b124 eb124 hb124 f1 E => ?_))
 have hnb124 : w.heap.size ≤ b124 := by have := hf.size; omega
 have hf := hf.trans' f1 (fun _ _ h => h.elim)
 clear f1
 refine ep (v := Value.nilFunc) E rfl (a_ rfl rfl) fun a E => n_ (t_ (s_ (r_ (env_callv (d := 5) (R := fun u w8 => ∃ cs, u = .agg cs ∧ cs.size = 256 ∧ cs.all (·.oneCell') = true ∧ (∀ i, i < 256 → cs[i]? = some (.int .u8 (clsT i : Nat))) ∧ Fr (fun _ => False) w1 w8) E rfl (by decide) rfl (wanted_none rfl _) (run_call0 (enters_of Tryz.func72 (by kernel_rfl) rfl) rfl rfl) ((classes_calls _).mono fun e w8 h => by obtain ⟨cs, rfl, h⟩ := h; exact ⟨_, rfl, cs, rfl, h⟩) fun a w1 u ⟨cs1, hu, hs1, ha1, hcl1, f1⟩ E => ?_))))
 subst hu
 have hb124 := f1.obj hb124 id
 have hf := hf.trans' f1 (fun _ _ h => h.elim)
 clear f1
 refine env_new111 (d := 3) E rfl (by decide) rfl (wanted_none rfl _) rfl fun a w1 b125 eb125 htb125 f1 E => ?_
 have hnb125 : w.heap.size ≤ b125 := by have := hf.size; omega
 have hlkb124b125 : b124 < b125 := by have := lt_of_blk hb124; omega
 have hb124 := f1.obj hb124 id
 have hf := hf.trans' f1 (fun _ _ h => h.elim)
 clear f1
 obtain ⟨cs0, hp1, hp2, _⟩ := id htb125
 obtain ⟨w9, hw9⟩ : ∃ w9, w9 = w1.setRow b125 cs1 := ⟨_, rfl⟩
 refine env_store (w' := w9) E rfl (wanted_none rfl _) (by rw [hw9]; exact run_st111 rfl E.g0 E.g1 hp1 hs1 hp2 ha1) fun E => ?_
 have ht9 : tb8 w9 b125 clsT := by rw [hw9]; exact ⟨cs1, setRow_same hp1, hs1, hcl1⟩
 have f1 : Fr (fun r => r = b125) w1 w9 := by rw [hw9]; exact setRow_fr
 clear hw9 hp1
 have hb124 := f1.obj hb124 nq_
 have hf := hf.trans' f1 (fun _ hr => nq_)
 clear f1
 have htb125 := ht9
 refine n_ (t_ (s_ (r_ (ep (v := .func (.func 73) #[] #[.pointer (some ⟨b124, 0, none⟩), .pointer (some ⟨b125, 0, none⟩)]) E rfl (run_mkfn2 rfl E.g3 E.g0) fun a E => env_new (d := 4) E rfl (by decide) rfl (wanted_none rfl _) (run_alloc113 rfl) fun a w1 b126 eb126 hb126 f1 E => ?_))))
 have hneb125b126 : b125 < b126 := by have := htb125.lt; omega
 have hnb126 : w.heap.size ≤ b126 := by have := hf.size; omega
 have hlb124b126 : b124 < b126 := by have := lt_of_blk hb124; omega
 have hb124 := f1.obj hb124 id
 have htb125 := htb125.fr f1 id
 have hf := hf.trans' f1 (fun _ _ h => h.elim)
 clear f1
 refine env_st1 (j := 0) E rfl (wanted_none rfl _) hb126 (run_st113 rfl E.g0 E.g1 (bx hb126 0 rfl) (free_of_blk hb126 0)) fun w1 hb126n f1 E => ?_
 replace hb126n : w1.heap[b126]? = some (.cells #[.func (.func 73) #[] #[.pointer (some ⟨b124, 0, none⟩), .pointer (some ⟨b125, 0, none⟩)]] 113 (0, 0)) := hb126n
 have hb124 := f1.obj hb124 nq_
 have htb125 := htb125.fr f1 nq_
 have hf := hf.trans' f1 (fun _ hr => nq_)
 clear f1
 replace hb126 := hb126n
 refine n_ (t_ (s_ (r_ (ep (v := .func (.func 74) #[] #[.pointer (some ⟨b124, 0, none⟩), .pointer (some ⟨b126, 0, none⟩)]) E rfl (run_mkfn2 rfl E.g5 E.g0) fun a E => es_ E rfl (a_ rfl E.g0) fun a E => n_ (t_ (wr_ (ret_tmp (t := 2) rfl E E.g0 ⟨b124, b126, b125, rfl, ⟨⟨hb124, htb125⟩, hb126⟩, hnb124, hnb126, hnb125, hf⟩)))))))
set_option maxRecDepth 100000 in
set_option maxHeartbeats 4000000 in
theorem lex_calls (s : Bys) (hs : s.length ≤ 4999) (w : World) : Calls Tryz.prog 20 #[.string (ofL s)] w fun e w' => match lexP s with | .error (c, x) => e = .returned (.tuple #[.slice none 0 0, .int .i64 c, .int .i64 x]) ∧ Fr (fun _ => False) w w' | .ok ts => ∃ v, e = .returned (.tuple #[v, .int .i64 0, .int .i64 0]) ∧ oTk w' w.heap.size v ts ∧ Fr (fun _ => False) w w' := by
 refine wp_startM1 Tryz.func20 rfl rfl (n := 35) (by decide) fun a E => ?_
 have hf : Fr (fun _ => False) w w := Fr.refl _ _
 refine s_ (r_ (env_new (d := 2) E rfl (by decide) rfl (wanted_none rfl _) (run_alloc34 rfl) fun a w1 b127 eb127 hb127 f1 E => ?_))
 have hnb127 : w.heap.size ≤ b127 := by have := hf.size; omega
 have hf := hf.trans' f1 (fun _ _ h => h.elim)
 clear f1
 refine env_new (d := 3) E rfl (by decide) rfl (wanted_none rfl _) (run_alloc25 rfl) fun a w1 b128 eb128 hb128 f1 E => ?_
 have hnb128 : w.heap.size ≤ b128 := by have := hf.size; omega
 have hlb127b128 : b127 < b128 := by have := lt_of_blk hb127; omega
 have hb127 := f1.obj hb127 id
 have hf := hf.trans' f1 (fun _ _ h => h.elim)
 clear f1
 refine env_new (d := 4) E rfl (by decide) rfl (wanted_none rfl _) (run_alloc3 rfl) fun a w1 b129 eb129 hb129 f1 E => ?_
 have hnb129 : w.heap.size ≤ b129 := by have := hf.size; omega
 have hlb127b129 : b127 < b129 := by have := lt_of_blk hb127; omega
 have hlb128b129 : b128 < b129 := by have := lt_of_blk hb128; omega
 have hb127 := f1.obj hb127 id
 have hb128 := f1.obj hb128 id
 have hf := hf.trans' f1 (fun _ _ h => h.elim)
 clear f1
 refine n_ (t_ (s_ (s_ (r_ (ep E rfl (m_ rfl E.g3) fun a E => ep (v := .int .i64 (s.length : Int)) E rfl (run_slen rfl E.g0) fun a E => ep (v := .bool (decide (20000 < (s.length : Int)))) E rfl (run_igtr E.g0 rfl Tryz.underlying3 rfl) fun a E => n_ (t_ ?_))))))
 cases hq130 : (decide (20000 < (s.length : Int))) with
 | false =>
  rw [hq130] at E
  refine c_f E.g0 (k_ (t_ (s_ (r_ (env_new (d := 5) E rfl (by decide) rfl (wanted_none rfl _) (run_alloc34 rfl) fun a w1 b131 eb131 hb131 f1 E => ?_)))))
  have hnb131 : w.heap.size ≤ b131 := by have := hf.size; omega
  have hlb127b131 : b127 < b131 := by have := lt_of_blk hb127; omega
  have hlb128b131 : b128 < b131 := by have := lt_of_blk hb128; omega
  have hlb129b131 : b129 < b131 := by have := lt_of_blk hb129; omega
  have hb127 := f1.obj hb127 id
  have hb128 := f1.obj hb128 id
  have hb129 := f1.obj hb129 id
  have hf := hf.trans' f1 (fun _ _ h => h.elim)
  clear f1
  refine n_ (t_ (s_ (s_ (r_ (ep E rfl (m_ rfl E.g7) fun a E => ?_)))))
  have hgb127 : b127 < w1.heap.size := lt_of_blk hb127
  have hgb128 : b128 < w1.heap.size := lt_of_blk hb128
  have hgb129 : b129 < w1.heap.size := lt_of_blk hb129
  have hgb131 : b131 < w1.heap.size := lt_of_blk hb131
  refine env_callv (d := 11) (R := fun u w8 => ∃ c1 c2 c3, u = .func (.func 74) #[] #[.pointer (some ⟨c1, 0, none⟩), .pointer (some ⟨c2, 0, none⟩)] ∧ TokK c1 c2 c3 s w8 ∧ w1.heap.size ≤ c1 ∧ w1.heap.size ≤ c2 ∧ w1.heap.size ≤ c3 ∧ Fr (fun _ => False) w1 w8) E rfl (by decide) rfl (wanted_none rfl _) (run_call1 (enters_of Tryz.func48 (by kernel_rfl) rfl) rfl rfl E.g0) ((tokens_calls s _).mono fun e w8 h => by obtain ⟨c1, c2, c3, rfl, h⟩ := h; exact ⟨_, rfl, c1, c2, c3, rfl, h⟩) fun a w1 u ⟨c1, c2, c3, hu, hTK, hb1, hb2, hb3, f1⟩ E => ?_
  subst hu
  have hb127 := f1.obj hb127 id
  have hb128 := f1.obj hb128 id
  have hb129 := f1.obj hb129 id
  have hb131 := f1.obj hb131 id
  have hf := hf.trans' f1 (fun _ _ h => h.elim)
  clear f1
  refine n_ (t_ (bk_ ?_))
  obtain ⟨wr, hwr⟩ : ∃ wr, wr = w1 := ⟨_, rfl⟩
  rw [← hwr] at hb127 hb128 hb129 hb131 hTK hf
  rw [← hwr]
  clear hwr
  have hqb127 := lt_of_blk hb127
  have hqb128 := lt_of_blk hb128
  have hqb129 := lt_of_blk hb129
  have hqb131 := lt_of_blk hb131
  have hq1 := lt_of_blk hTK.1.1
  have hq2 := lt_of_blk hTK.2
  have hq3 := hTK.1.2.lt
  have hfs := hf.size
  refine wp_rangeF2 (fun k h W => ∃ v, W.heap[b131]? = some (.cells #[v] 34 (0, 0)) ∧ oTk W (wr.heap.size + 2) v ((toks s).take k) ∧ (∀ q, v.ownBlock = some q → q < h) ∧ Fr (fun _ => False) w W ∧ TokK c1 c2 c3 s W ∧ (∀ y ∈ (lexL s 0).take k, y.2 = 0) ∧ W.heap[b127]? = some (.cells #[.slice none 0 0] 34 (0, 0)) ∧ W.heap[b128]? = some (.cells #[.int .i64 0] 25 (0, 0)) ∧ W.heap[b129]? = some (.cells #[.int .i64 0] 3 (0, 0))) (fun W => ∃ c x, errOf (lexL s 0) = some (c, x) ∧ W.heap[b127]? = some (.cells #[.slice none 0 0] 34 (0, 0)) ∧ W.heap[b128]? = some (.cells #[.int .i64 c] 25 (0, 0)) ∧ W.heap[b129]? = some (.cells #[.int .i64 x] 3 (0, 0)) ∧ Fr (fun _ => False) w W) (fun v a' W => ∃ x b6, v = #[.agg (fdA x)] ∧ wr.heap.size + 2 ≤ b6 ∧ W.heap[b6]? = some (.cells (fdA x) 81 (0, 0)) ∧ Env 35 [(6, .pointer (some ⟨b6, 0, none⟩)), (2, .pointer (some ⟨b127, 0, none⟩)), (3, .pointer (some ⟨b128, 0, none⟩)), (4, .pointer (some ⟨b129, 0, none⟩)), (5, .pointer (some ⟨b131, 0, none⟩))] a') E.g0 (enters_of Tryz.func74 (by kernel_rfl) rfl) (vs := lexV s) (tokens_yields (c1 := c1) (c2 := c2) (c3 := c3) (by omega)) (fun v hv => by obtain ⟨x, _, rfl⟩ := List.mem_map.1 hv; rfl) ?_ ?_ ?_ ?_ ?_ ?_ ?_ ?_ ?_
  ·rintro k h W W' ⟨v, h1, h2, h3, h4, h5, h6, h7, h8, h9⟩ f
   exact ⟨v, f.obj h1 (by omega), h2.fr f (fun b hb e => by have := (h2.lt hb).1; omega), h3, h4.trans' f (fun r hr e => by omega), ⟨h5.1.fr f (by omega) (by omega), f.obj h5.2 (by omega)⟩, h6, f.obj h7 (by omega), f.obj h8 (by omega), f.obj h9 (by omega)⟩
  ·rintro W W' ⟨c, x, h1, h2, h3, h4, h5⟩ f
   exact ⟨c, x, h1, f.obj h2 (by omega), f.obj h3 (by omega), f.obj h4 (by omega), h5.trans' f (fun r hr e => by omega)⟩
  ·rintro k h W ⟨v, _, _, _, _, h5, _⟩
   exact h5
  ·intro W f hW
   exact ⟨_, f.obj hb131 id, ow_nil _, (fun q hq => by cases hq), hf.trans f, ⟨hTK.1.fr f id id, f.obj hTK.2 id⟩, (fun y hy => by simp at hy), f.obj hb127 id, f.obj hb128 id, f.obj hb129 id⟩
  ·rintro v a' W W' ⟨x, b6, q1, q2, q3, q4⟩ f
   exact ⟨x, b6, q1, q2, f.obj q3 (by omega), q4⟩
  ·intro l v W K hv hW hK
   obtain ⟨x, _, rfl⟩ := List.mem_map.1 hv
   have E := env_zip1 (d := 12) (x := .agg (fdA x)) (E.of (L' := [(2, .pointer (some ⟨b127, 0, none⟩)), (3, .pointer (some ⟨b128, 0, none⟩)), (4, .pointer (some ⟨b129, 0, none⟩)), (5, .pointer (some ⟨b131, 0, none⟩))]) ⟨E.g8, E.g7, E.g6, E.g2, trivial⟩) (by decide) rfl
   have hf : Fr (fun _ => False) W W := Fr.refl _ _
   refine wpR_region_lit (by kernel_rfl) (fun ⟨_, _, h⟩ => h) (env_new (d := 6) E rfl (by decide) rfl (wanted_none rfl _) (run_alloc81 rfl) fun a w1 b132 eb132 hb132 f1 E => ?_)
   have hnb132 : W.heap.size ≤ b132 := by have := hf.size; omega
   have hf := hf.trans' f1 (fun _ _ h => h.elim)
   clear f1
   refine env_st81 (s := ((0, [], 0), 0)) E rfl (wanted_none rfl _) rfl E.g0 E.g1 hb132 fun w1 hb132n f1 E => ?_
   have hf := hf.trans' f1 (fun _ hr => nq_)
   clear f1
   replace hb132 := hb132n
   refine n_ (hK _ _ ⟨x, b132, rfl, by omega, hb132, E.of ⟨E.g0, E.g2, E.g3, E.g4, E.g5, trivial⟩⟩ hf)
  ·rintro k h v a9 W hv ⟨dv, hc5, hO, hob, hF, hTW, hz, hc2, hc3, hc4⟩ ⟨x, b6, hvs, hb6, hs6, E⟩ hwh hhW -
   obtain ⟨y, hy, rfl⟩ : ∃ y, (lexL s 0)[k]? = some y ∧ y = x := by
    unfold lexV at hv
    rw [List.getElem?_map] at hv
    cases hq : (lexL s 0)[k]? with
    | none => rw [hq] at hv; cases hv
    | some y =>
     rw [hq] at hv
     subst hvs
     simp only [Option.map_some, Option.some.injEq, Array.mk.injEq, List.cons.injEq, Value.agg.injEq, and_true, Value.int.injEq, Value.string.injEq, true_and, fdA, ofL_inj] at hv
     obtain ⟨e1, e2, e3, e4⟩ := hv
     obtain ⟨⟨y1, y2, y3⟩, y4⟩ := y
     obtain ⟨⟨x1, x2, x3⟩, x4⟩ := x
     simp only at e1 e2 e3 e4
     subst e1 e2 e3 e4
     exact ⟨_, rfl, rfl⟩
   have hkl : k < (lexL s 0).length := (List.getElem?_eq_some_iff.1 hy).1
   have hll := lexP_len (s := s)
   have hf : Fr (fun b => b < h) W W := Fr.refl _ _
   have hl6 := lt_of_blk hs6
   obtain ⟨B, hB⟩ : ∃ B, B = wr.heap.size + 2 := ⟨_, rfl⟩
   rw [← hB] at hO
   have hBs : B ≤ W.heap.size := by omega
   have hO0 := hO
   have hf3 : Fr (fun r => r = b131 ∨ r = b6 ∨ dv.ownBlock = some r) W W := Fr.refl _ _
   have hf2 : Fr (fun r => r = b127 ∨ r = b128 ∨ r = b129) W W := Fr.refl _ _
   refine wpIn_block (wpIn_seq (wpIn_block (wpIn_seq (wpR_region_lit (by kernel_rfl) (fun ⟨_, _, h⟩ => h) (ep (v := .pointer (some ⟨b6, 3, none⟩)) E rfl (fa81_1 rfl E.g0) fun a E => ep (v := .int .i64 y.2) E rfl (run_lde rfl E.g0 (bx hs6 3 rfl)) fun a E => ep (v := .bool (y.2 != 0)) E rfl (run_ineq E.g0 rfl Tryz.underlying25 rfl) fun a E => ep E rfl (a_ rfl E.g0) fun a E => n_ (t_ ?_))))))
   cases hq133 : (y.2 != 0) with
   | false =>
    rw [hq133] at E
    have hye : y.2 = 0 := by simpa using hq133
    refine wpIn_cond_false E.g0 (wpIn_seq (wpR_region_lit (by kernel_rfl) (fun ⟨_, _, h⟩ => h) (ep (v := dv) E rfl (run_ld34 rfl E.g8 (bx hc5 0 rfl)) fun a E => ep (v := .int .i64 (((toks s).take k).length : Int)) E rfl (run_len34o hO rfl E.g0) fun a E => ep (v := .bool ((((toks s).take k).length : Int) == 5000)) E rfl (run_ieql E.g0 rfl Tryz.underlying3 rfl) fun a E => ep E rfl (a_ rfl E.g0) fun a E => n_ (t_ ?_))))
    cases hq134 : ((((toks s).take k).length : Int) == 5000) with
    | false =>
     rw [hq134] at E
     refine wpIn_cond_false E.g0 (wpIn_skip (b_ (t_ (wpR_region_lit (by kernel_rfl) (fun ⟨_, _, h⟩ => h) (ep (v := dv) E rfl (run_ld34 rfl E.g12 (bx hc5 0 rfl)) fun a E => ep (v := .pointer (some ⟨b6, 0, none⟩)) E rfl (fa81_0 rfl E.g9) fun a E => ep (v := .agg (tkA y.1)) E rfl (run_ld38 rfl E.g0 (rng3 (p := y.1) hs6 0 rfl rfl rfl)) fun a E => env_one34 (d := 32) E rfl (by decide) rfl (wanted_none rfl _) rfl E.g0 fun a w1 b135 eb135 hbb135 f1 E => ?_)))))
     have hf3 := hf3.trans' f1 (fun _ _ h => h.elim)
     have hf2 := hf2.trans' f1 (fun _ _ h => h.elim)
     have hc2 := f1.obj hc2 id
     have hc3 := f1.obj hc3 id
     have hc4 := f1.obj hc4 id
     have hc5 := f1.obj hc5 id
     have hs6 := f1.obj hs6 id
     have hO := ow.fr hO f1 (fun _ _ => id)
     have hBs := Nat.le_trans hBs f1.size
     have hf := hf.trans' f1 (fun _ _ h => h.elim)
     clear f1
     have hsb135 := src_one (f := tkL) (c := 3) (G := w1.heap.size) hbb135 (lt_of_blk hbb135)
     clear hbb135 eb135
     refine env_app34 (d := 33) E rfl (by decide) rfl rfl rfl E.g3 hO E.g0 hsb135 (fun h => by cases h) (by simp only [List.length_take, toks, List.length_map, List.length_cons, List.length_nil]; omega) hBs fun a w1 ov136 hO2 f1 hloc E => ?_
     have hf3 := hf3.trans' f1 (fun r hr e => .inr (.inr e))
     have hc2 := f1.obj hc2 (fun e => by (try simp only at e); have := (hO.lt e).1; have := hob _ e; omega)
     have hc3 := f1.obj hc3 (fun e => by (try simp only at e); have := (hO.lt e).1; have := hob _ e; omega)
     have hc4 := f1.obj hc4 (fun e => by (try simp only at e); have := (hO.lt e).1; have := hob _ e; omega)
     have hc5 := f1.obj hc5 (fun e => by (try simp only at e); have := (hO.lt e).1; have := hob _ e; omega)
     have hBs := Nat.le_trans hBs f1.size
     have hf := hf.trans' f1 (fun r hr => (fun e => by (try simp only at e); have := (hO.lt e).1; have := hob _ e; omega))
     clear f1
     replace hO := hO2
     clear hloc
     refine env_st1 (j := 0) E rfl (wanted_none rfl _) hc5 (run_st34v (ow.sl tkL_len hO) rfl E.g17 E.g0 (bx hc5 0 rfl) (free_of_blk hc5 0)) fun w1 hc5n f1 E => ?_
     replace hc5n : w1.heap[b131]? = some (.cells #[ov136] 34 (0, 0)) := hc5n
     have hf3 := hf3.trans' f1 (fun r hr e => .inl e)
     have hc2 := f1.obj hc2 nq_
     have hc3 := f1.obj hc3 nq_
     have hc4 := f1.obj hc4 nq_
     have hO := ow.fr hO f1 (fun k hk e => by have := (hO.lt hk).1; (try simp only at e); omega)
     have hBs := Nat.le_trans hBs f1.size
     have hf := hf.trans' f1 (fun _ hr => nq_)
     clear f1
     replace hc5 := hc5n
     refine n_ (b_ (rnd_n ⟨⟨⟨_, ⟨_, hc5, ?_, fun q hq => (hO.lt hq).2, hF.trans' hf3 (fun r hr e => by rcases e with e | e | e; omega; omega; (have := (hO0.lt e).1; omega)), ⟨hTW.1.fr hf3 (fun e => by rcases e with e | e | e; omega; omega; (have := (hO0.lt e).1; omega)) (fun e => by rcases e with e | e | e; omega; omega; (have := (hO0.lt e).1; omega)), hf3.obj hTW.2 (fun e => by rcases e with e | e | e; omega; omega; (have := (hO0.lt e).1; omega))⟩, ?_, hc2, hc3, hc4⟩, by have := hf3.size; omega, Nat.le_refl _⟩, hf⟩, hf3.blk _ (by omega) (fun e => by rcases e with e | e | e; omega; omega; (have := (hO0.lt e).1; omega)), hf3.blk _ (by omega) (fun e => by rcases e with e | e | e; omega; omega; (have := (hO0.lt e).1; omega))⟩))
     ·rw [← hB]
      have e9 : (toks s).take (k + 1) = (toks s).take k ++ [y.1] := by
       unfold toks
       rw [List.take_add_one, List.getElem?_map, hy]; rfl
      rw [e9]; exact hO
     ·intro z hz9
      rw [List.take_add_one, hy] at hz9
      rcases List.mem_append.1 hz9 with h9 | h9
      ·exact hz z h9
      ·simp at h9; subst h9; exact hye
    | true =>
     rw [hq134] at E
     exact absurd hq134 (by rw [Bool.not_eq_true, beq_eq_false_iff_ne]; simp only [List.length_take, toks, List.length_map]; omega)
   | true =>
    rw [hq133] at E
    have hye : y.2 ≠ 0 := by simpa using hq133
    refine wpIn_cond_true E.g0 (wpIn_seq (wpR_region_invx (G := Unit) () (n := 35) (base := [(13, .bool true), (16, .bool true), (15, .int .i64 y.2), (14, .pointer (some ⟨b6, 3, none⟩)), (6, .pointer (some ⟨b6, 0, none⟩)), (2, .pointer (some ⟨b127, 0, none⟩)), (3, .pointer (some ⟨b128, 0, none⟩)), (4, .pointer (some ⟨b129, 0, none⟩)), (5, .pointer (some ⟨b131, 0, none⟩))]) (U := []) (T := fun γ => [some (17, .pointer (some ⟨b6, 3, none⟩)), some (18, .int .i64 y.2), some (19, .pointer (some ⟨b6, 0, none⟩)), some (20, .pointer (some ⟨b6, 2, none⟩)), some (21, .int .i64 y.1.2.2), none, none, none]) (M := fun γ ls9 wm => Fr (fun r => r = b127 ∨ r = b128 ∨ r = b129) W wm ∧ wm.heap[b127]? = some (.cells #[.slice none 0 0] 34 (0, 0)) ∧ wm.heap[b128]? = some (.cells #[(bif ls9 6 then .int .i64 y.2 else .int .i64 0)] 25 (0, 0)) ∧ wm.heap[b129]? = some (.cells #[(bif ls9 7 then .int .i64 y.1.2.2 else .int .i64 0)] 3 (0, 0))) (by kernel_rfl) (fun ⟨_, _, h⟩ => h) (by kernel_rfl) (by kernel_rfl) (fun _ => by kernel_rfl) (E.of ⟨E.g0, E.g1, E.g2, E.g3, E.g4, E.g5, E.g6, E.g7, E.g8, trivial⟩) (fun x hx => by cases hx) ⟨(Fr.refl _ _).drew, hc2, hc3, hc4⟩ ?_ ?_))
    ·intro j9 o9 γ ls9 a w5 ho hl E D DL DL2 hB hM
     have hs6 := hM.1.obj hs6 nq_
     have hc2 := hM.2.1
     have hc3 := hM.2.2.1
     have hc4 := hM.2.2.2
     match j9, ho, hl, D, DL, hB with
     | 0, ho, hl, D, DL, hB => exact z0_ ho (valx rfl (fa81_1 rfl E.g4) rfl hM)
     | 1, ho, hl, D, DL, hB => exact z0_ ho (valx rfl (run_lde rfl (D 0 _ rfl rfl) (bx hs6 3 rfl)) rfl hM)
     | 2, ho, hl, D, DL, hB => exact z0_ ho (valx rfl (fa81_0 rfl E.g4) rfl hM)
     | 3, ho, hl, D, DL, hB => exact z0_ ho (valx rfl (fa38_2 rfl (D 2 _ rfl rfl)) rfl hM)
     | 4, ho, hl, D, DL, hB => exact z0_ ho (valx rfl (run_ldi rfl (D 3 _ rfl rfl) (bx hs6 2 rfl)) rfl hM)
     | 5, ho, hl, D, DL, hB => exact z0_ ho (storex rfl (run_st34 rfl E.g5 rfl (bx hc2 0 rfl) (free_of_blk hc2 0)) rfl ⟨hM.1.trans (((Fr.refl (fun r => r = b127) w5).setCell (p := ⟨b127, 0, none⟩) (fun _ => rfl) _).mono (fun r _ e => by first | exact e | exact .inl e | exact .inr e | exact .inr (.inl e) | exact .inr (.inr e))), blk_setCell_same (off := 0) hc2 _, (blk_setCell (p := ⟨b127, 0, none⟩) (by show b128 ≠ b127; omega) _).trans hc3, (blk_setCell (p := ⟨b127, 0, none⟩) (by show b129 ≠ b127; omega) _).trans hc4⟩)
     | 6, ho, hl, D, DL, hB => exact z0_ ho (storex rfl (run_st25 rfl E.g6 (D 1 _ rfl rfl) (bx hc3 0 rfl) (free_of_blk hc3 0)) rfl ⟨hM.1.trans (((Fr.refl (fun r => r = b128) w5).setCell (p := ⟨b128, 0, none⟩) (fun _ => rfl) _).mono (fun r _ e => by first | exact e | exact .inl e | exact .inr e | exact .inr (.inl e) | exact .inr (.inr e))), (blk_setCell (p := ⟨b128, 0, none⟩) (by show b127 ≠ b128; omega) _).trans hc2, blk_setCell_same (off := 0) hc3 _, (blk_setCell (p := ⟨b128, 0, none⟩) (by show b129 ≠ b128; omega) _).trans hc4⟩)
     | 7, ho, hl, D, DL, hB => exact z0_ ho (storex rfl (run_st3 rfl E.g7 (D 4 _ rfl rfl) (bx hc4 0 rfl) (free_of_blk hc4 0)) rfl ⟨hM.1.trans (((Fr.refl (fun r => r = b129) w5).setCell (p := ⟨b129, 0, none⟩) (fun _ => rfl) _).mono (fun r _ e => by first | exact e | exact .inl e | exact .inr e | exact .inr (.inl e) | exact .inr (.inr e))), (blk_setCell (p := ⟨b129, 0, none⟩) (by show b127 ≠ b129; omega) _).trans hc2, (blk_setCell (p := ⟨b129, 0, none⟩) (by show b128 ≠ b129; omega) _).trans hc3, blk_setCell_same (off := 0) hc4 _⟩)
     | j9 + 8, ho, hl, D, DL, hB => exact absurd ho (by simp)
    ·rintro _ a w5 E V hM
     clear V
     have f1 := hM.1
     have hc2n : w5.heap[b127]? = some (.cells #[.slice none 0 0] 34 (0, 0)) := hM.2.1
     have hc3n : w5.heap[b128]? = some (.cells #[.int .i64 y.2] 25 (0, 0)) := hM.2.2.1
     have hc4n : w5.heap[b129]? = some (.cells #[.int .i64 y.1.2.2] 3 (0, 0)) := hM.2.2.2
     clear hM
     have hf2 := hf2.trans' f1 (fun r hr e => by (try simp only at e); omega)
     have hs6 := f1.obj hs6 nq_
     have hf := hf.trans' f1 (fun _ hr => nq_)
     clear f1
     replace hc2 := hc2n
     replace hc3 := hc3n
     replace hc4 := hc4n
     refine t_ (wpIn_ret (br_ (tr_ (br_ (rnd_r ⟨⟨_, _, err_is hy hz hye, hc2, hc3, hc4, hF.trans' hf2 (fun r hr e => by omega)⟩, hf2.blk _ (by omega) (by omega), hf2.blk _ (by omega) (by omega)⟩)))))
  ·rintro h W ⟨dv, hc5, hO, hob, hF, hTW, hz, hc2, hc3, hc4⟩ hDk
   have E := env_mark (D := wr.heap.size) E
   have hlv : (lexV s).length = (lexL s 0).length := by unfold lexV; rw [List.length_map]
   rw [hlv] at hO hz
   rw [List.take_length] at hz
   have htl : (toks s).take (lexL s 0).length = toks s := List.take_of_length_le (by simp [toks])
   rw [htl] at hO
   obtain ⟨pv, cv, hvs, _, _, _, _⟩ := ow.src tkL_len hO
   subst hvs
   refine b_ (t_ (s_ (r_ (ep (v := .slice (pv) (toks s).length cv) E rfl (run_ld34 rfl E.g2 (bx hc5 0 rfl)) fun a E => env_st1 (j := 0) E rfl (wanted_none rfl _) hc2 (run_st34 rfl E.g9 E.g0 (bx hc2 0 rfl) (free_of_blk hc2 0)) fun w1 hc2n f1 E => ?_))))
   replace hc2n : w1.heap[b127]? = some (.cells #[.slice (pv) (toks s).length cv] 34 (0, 0)) := hc2n
   have hc3 := f1.obj hc3 nq_
   have hc4 := f1.obj hc4 nq_
   have hc5 := f1.obj hc5 nq_
   have hDk := f1.obj hDk nq_
   have hO := hO.fr f1 (fun k hk e => by have := (hO.lt hk).1; (try simp only at e); omega)
   have hF := hF.trans' f1 (fun _ hr => nq_)
   clear f1
   replace hc2 := hc2n
   refine env_st1 (j := 0) E rfl (wanted_none rfl _) hc3 (run_st25 rfl E.g8 rfl (bx hc3 0 rfl) (free_of_blk hc3 0)) fun w1 hc3n f1 E => ?_
   replace hc3n : w1.heap[b128]? = some (.cells #[.int .i64 0] 25 (0, 0)) := hc3n
   have hc2 := f1.obj hc2 nq_
   have hc4 := f1.obj hc4 nq_
   have hc5 := f1.obj hc5 nq_
   have hDk := f1.obj hDk nq_
   have hO := hO.fr f1 (fun k hk e => by have := (hO.lt hk).1; (try simp only at e); omega)
   have hF := hF.trans' f1 (fun _ hr => nq_)
   clear f1
   replace hc3 := hc3n
   refine env_st1 (j := 0) E rfl (wanted_none rfl _) hc4 (run_st3 rfl E.g7 rfl (bx hc4 0 rfl) (free_of_blk hc4 0)) fun w1 hc4n f1 E => ?_
   replace hc4n : w1.heap[b129]? = some (.cells #[.int .i64 0] 3 (0, 0)) := hc4n
   have hc2 := f1.obj hc2 nq_
   have hc3 := f1.obj hc3 nq_
   have hc5 := f1.obj hc5 nq_
   have hDk := f1.obj hDk nq_
   have hO := hO.fr f1 (fun k hk e => by have := (hO.lt hk).1; (try simp only at e); omega)
   have hF := hF.trans' f1 (fun _ hr => nq_)
   clear f1
   replace hc4 := hc4n
   refine n_ (t_ (wr_ ?_))
   have hDk2 := hDk
   refine retM_ (v := .tuple #[.slice pv (toks s).length cv, .int .i64 0, .int .i64 0]) E ((MarksOk.nil _).cons hDk2 (fun h => by cases h)) fun w9 f9 => ?_
   have hmk : ∀ r, isMark [mkD wr.heap.size] r → r = wr.heap.size := fun r e => by rcases isMark_cons.1 e with e | e; exact e; cases e
   refine ⟨res3 (.inl ⟨Tryz.underlying34, rfl⟩) rfl E.g9 E.g8 E.g7 (bx (f9.obj hc2 (fun e => by have := hmk _ e; omega)) 0 rfl) (bx (f9.obj hc3 (fun e => by have := hmk _ e; omega)) 0 rfl) (bx (f9.obj hc4 (fun e => by have := hmk _ e; omega)) 0 rfl), ?_⟩
   unfold lexP
   rw [err_no hz]
   refine ⟨_, rfl, (hO.base (by omega)).fr f9 (fun k hk e => by have := (hO.lt hk).1; have := hmk _ e; omega), hF.trans' f9 (fun r hr e => by have := hmk _ e; omega)⟩
  ·rintro W ⟨c, q, hq9, hc2, hc3, hc4, hF⟩ hDk
   have E := env_mark (D := wr.heap.size) E
   refine br_ (tr_ (retM_ (v := .tuple #[.slice none 0 0, .int .i64 c, .int .i64 q]) E ((MarksOk.nil _).cons hDk (fun h => by cases h)) fun w9 f9 => ?_))
   have hmk : ∀ r, isMark [mkD wr.heap.size] r → r = wr.heap.size := fun r e => by rcases isMark_cons.1 e with e | e; exact e; cases e
   refine ⟨res3 (.inl ⟨Tryz.underlying34, rfl⟩) rfl E.g8 E.g7 E.g6 (bx (f9.obj hc2 (fun e => by have := hmk _ e; omega)) 0 rfl) (bx (f9.obj hc3 (fun e => by have := hmk _ e; omega)) 0 rfl) (bx (f9.obj hc4 (fun e => by have := hmk _ e; omega)) 0 rfl), ?_⟩
   unfold lexP
   rw [hq9]
   exact ⟨rfl, hF.trans' f9 (fun r hr e => by have := hmk _ e; omega)⟩
 | true =>
  rw [hq130] at E
  exact absurd (of_decide_eq_true hq130) (by omega)
end Go.Proofs.YtjaffpnegdcjnaaGreatDoor
/- Parse: the deferred call. -/
set_option linter.unusedVariables false
set_option linter.unusedSimpArgs false
namespace Go.Proofs.YtjaffpnegdcjnaaGreatDoor
open Go.RowKit Go.Pl
theorem text_cnt {en : Int} {ts l : List (Tok Int)} {s : List Sp} (hk : Tk ts) (h : textS en ts = .ok (s, l)) : s.length ≤ 2 * ts.length + 2 := by
 have ht : ∀ {f t : Int} {ts l : List (Tok Int)} {s : List Sp}, 0 ≤ f → f < 7 → 0 ≤ t → t < 7 → time en f t ts = .ok (s, l) → s.length + 2 * l.length ≤ 2 * ts.length := by
  intro f t ts l s h1 h2 h3 h4 h
  have hl := time_ok h
  have : s.length ≤ 14 := by
   unfold time at h
   split at h
   ·cases h
   ·split at h
    ·cases h
    ·split at h
     ·cases h
     ·split at h
      ·cases h
      ·cases h
       exact dayL_len (by rw [day_n h1 h2 h3 h4]; omega)
  omega
 have hts : ∀ {f t : Int}, 0 ≤ f → f < 7 → 0 ≤ t → t < 7 → ∀ (n : Nat) {ts l : List (Tok Int)} {s : List Sp}, times en f t n ts = .ok (s, l) → s.length + 2 * l.length ≤ 2 * ts.length := by
  intro f t h1 h2 h3 h4 n
  induction n with
  | zero => intro ts l s h; cases h
  | succ n ih =>
   intro ts l s h
   unfold times at h
   split at h
   ·cases h
   ·rename_i s1 ts1 he
    have := ht h1 h2 h3 h4 he
    split at h
    ·split at h
     ·cases h
     ·rename_i s2 ts2 he2
      have h5 := ih he2
      cases h
      simp only [List.length_append, List.length_drop] at h5 ⊢
      omega
    ·cases h; exact this
 have hp : ∀ {ts l : List (Tok Int)} {s : List Sp}, Tk ts → part en ts = .ok (s, l) → s.length + 2 * l.length ≤ 2 * ts.length := by
  intro ts l s hk h
  unfold part at h
  split at h
  ·cases h
  ·rename_i a b ts1 he
   obtain ⟨h1, h2, h3, h4, _⟩ := dys_tk hk he
   have := dys_len he
   have := hts h1 h2 h3 h4 _ h
   omega
 have hps : ∀ (n : Nat) {ts l : List (Tok Int)} {s : List Sp}, Tk ts → parts en n ts = .ok (s, l) → s.length + 2 * l.length ≤ 2 * ts.length := by
  intro n
  induction n with
  | zero => intro ts l s _ h; cases h
  | succ n ih =>
   intro ts l s hk h
   unfold parts at h
   split at h
   ·cases h
   ·rename_i s1 ts1 he
    have h1 := hp hk he
    have k1 := (part_wk hk he).2
    split at h
    ·split at h
     ·cases h
     ·rename_i s2 ts2 he2
      have h5 := ih (k1.drop 1) he2
      cases h
      simp only [List.length_append, List.length_drop] at h5 ⊢
      omega
    ·cases h; exact h1
 have hq : ∀ {l : List (Tok Int)} {s : List Sp}, textQ en ts = .ok (s, l) → s.length ≤ 2 * ts.length + 2 := by
  intro l s h
  unfold textQ at h
  split at h
  ·cases h; unfold addL; split <;> simp
  ·split at h
   ·cases h; simp
   ·have := hps _ hk h; omega
 unfold textS at h
 cases hqq : textQ en ts with
 | error e => rw [hqq] at h; cases h
 | ok r =>
  obtain ⟨s1, l1⟩ := r
  rw [hqq] at h
  have := hq hqq
  cases l1 with
  | nil => cases h; exact this
  | cons t l1 => cases h
/-- A deferred call is laid by. -/
theorem env_defer {P : Program} {O : Array Oper} {Q : Exit → Act → World → Prop} {rest : List Oper} {o : Oper} {a : Act} {w : World} {ds : List Deferred} {n : Nat} {L : List (Nat × Value)} {d : Deferred} (E : EnvD ds n L a) (hd : o.dst = none) (hw : Region.wanted o (yielded O a.tmps) = true) (hr : (execOp a.eval o).run P w = .ok (.defer d) w) (k : ∀ a', EnvD (d :: ds) n L a' → wpList P O Q rest a' w) : wpList P O Q (o :: rest) a w := by
 simp only [wpList, hw, if_true]
 left
 unfold Oper.wp
 rw [hr, Oper.upon_defer, hd]
 refine k _ ⟨E.size, fun x hx => E.at_ x hx, ?_⟩
 show d :: a.defers = d :: ds
 rw [E.df]
theorem run_mkfn3 {o : Oper} {w : World} {ρ : Operand → Value} {x y z : Operand} {f : Nat} {p q r : Value} (ho : o.op = .makeFunc (.func f) #[] #[x, y, z]) (hx : ρ x = p) (hy : ρ y = q) (hz : ρ z = r) : (execOp ρ o).run Tryz.prog w = .ok (.value (.func (.func f) #[] #[p, q, r])) w := by
 simp [execOp, ho, hx, hy, hz, go_sem]
theorem run_defer {o : Oper} {w : World} {ρ : Operand → Value} {x : Operand} {f : Nat} {cs : Array Value} (ho : o.op = .defer ⟨.value x, #[], #[]⟩) (hx : ρ x = .func (.func f) #[] cs) : (execOp ρ o).run Tryz.prog w = .ok (.defer { target := .fn (.func f) cs, args := #[] }) w := by
 simp [execOp, ho, hx, go_sem]
theorem run_b57 {o : Oper} {w : World} {ρ : Operand → Value} {x y : Operand} {p : Option Addr} {m c : Nat} {e : Int} (ho : o.op = .build 57 #[(0, x), (1, y)]) (hx : ρ x = .slice p m c) (hy : ρ y = .int .i64 e) : (execOp ρ o).run Tryz.prog w = .ok (.value (.agg #[.slice p m c, .int .i64 e])) w := by
 simp [execOp, ho, hx, hy, go_sem]
theorem run_b59 {o : Oper} {w : World} {ρ : Operand → Value} {x : Operand} {p : Option Addr} {m c : Nat} {e : Int} (ho : o.op = .build 59 #[(0, x)]) (hx : ρ x = .agg #[.slice p m c, .int .i64 e]) : (execOp ρ o).run Tryz.prog w = .ok (.value (.agg #[.slice p m c, .int .i64 e, .slice none 0 0])) w := by
 simp [execOp, ho, hx, go_sem]
theorem run_box59 {o : Oper} {w : World} {ρ : Operand → Value} {x : Operand} {p : Option Addr} {m c : Nat} {e : Int} (ho : o.op = .box 59 x) (hx : ρ x = .agg #[.slice p m c, .int .i64 e, .slice none 0 0]) : (execOp ρ o).run Tryz.prog w = .ok (.value (.pointer (some ⟨w.heap.size, 0, none⟩))) (w.alloc (.cells #[.slice p m c, .int .i64 e, .slice none 0 0] 59)) := by
 simp [execOp, ho, hx, go_sem]
theorem run_ta54 {o : Oper} {w : World} {ρ : Operand → Value} {x : Operand} {c e : Int} (ho : o.op = .typeAssert x 20 54 false) (hx : ρ x = prob c e) : (execOp ρ o).run Tryz.prog w = .ok (.value (.agg #[.int .i64 c, .int .i64 e])) w := by
 simp [execOp, ho, hx, prob, go_sem, Instr.typeAssert, Tryz.underlying54]
theorem run_nenil {o : Oper} {w : World} {ρ : Operand → Value} {x y : Operand} {c e : Int} (ho : o.op = .binOp .neq 20 x y 20) (hx : ρ x = prob c e) (hy : ρ y = .nilIface) : (execOp ρ o).run Tryz.prog w = .ok (.value (.bool true)) w := by
 simp [execOp, ho, hx, hy, prob, go_sem]
theorem run_st54 {o : Oper} {w : World} {ρ : Operand → Value} {x y : Operand} {b : Nat} {c0 e0 c e : Int} (ho : o.op = .store 54 x y) (hx : ρ x = .pointer (some ⟨b, 0, none⟩)) (hy : ρ y = .agg #[.int .i64 c, .int .i64 e]) (h : w.heap[b]? = some (.cells #[.int .i64 c0, .int .i64 e0] 54 (0, 0))) : (execOp ρ o).run Tryz.prog w = .ok .skip ((w.setCell ⟨b, 0, none⟩ (.int .i64 c)).setCell ⟨b, 1, none⟩ (.int .i64 e)) := by
 have h1 := blk_setCell_same h (off := 0) (.int .i64 c)
 have q0 : w.cell? ⟨b, 0, none⟩ = some (.int .i64 c0) := cell_of_blk h 0
 have q1 : (w.setCell ⟨b, 0, none⟩ (.int .i64 c)).cell? ⟨b, 1, none⟩ = some (.int .i64 e0) := cell_of_blk h1 1
 have f0 := free_of_blk h 0; have f1 := free_of_blk h1 1
 simp [execOp, ho, hx, hy, go_sem, storeCells, q0, q1, f0, f1]
theorem env_st54 {O : Array Oper} {Q : Exit → Act → World → Prop} {rest : List Oper} {o : Oper} {a : Act} {w : World} {n : Nat} {L : List (Nat × Value)} {x y : Operand} {b : Nat} {ds : List Deferred} {c0 e0 c e : Int} (E : EnvD ds n L a) (hd : o.dst = none) (hw : Region.wanted o (yielded O a.tmps) = true) (ho : o.op = .store 54 x y) (hx : a.eval x = .pointer (some ⟨b, 0, none⟩)) (hy : a.eval y = .agg #[.int .i64 c, .int .i64 e]) (h : w.heap[b]? = some (.cells #[.int .i64 c0, .int .i64 e0] 54 (0, 0)))
  (k : ∀ w', w'.heap[b]? = some (.cells #[.int .i64 c, .int .i64 e] 54 (0, 0)) → Fr (fun r => r = b) w w' → EnvD ds n L a → wpList Tryz.prog O Q rest a w') : wpList Tryz.prog O Q (o :: rest) a w := by
 exact env_store E hd hw (run_st54 ho hx hy h) (k _ (blk_setCell_same (blk_setCell_same h _) _) (((Fr.refl (fun r => r = b) _).setCell (p := ⟨b, 0, none⟩) (fun _ => rfl) _).setCell (p := ⟨b, 1, none⟩) (fun _ => rfl) _))
theorem run_ex0of3 {o : Oper} {w : World} {ρ : Operand → Value} {x : Operand} {p q r : Value} (ho : o.op = .extract x 0) (hx : ρ x = .tuple #[p, q, r]) : (execOp ρ o).run Tryz.prog w = .ok (.value p) w := by simp [execOp, ho, hx, go_sem]
theorem run_ex1of3 {o : Oper} {w : World} {ρ : Operand → Value} {x : Operand} {p q r : Value} (ho : o.op = .extract x 1) (hx : ρ x = .tuple #[p, q, r]) : (execOp ρ o).run Tryz.prog w = .ok (.value q) w := by simp [execOp, ho, hx, go_sem]
theorem run_ex2of3 {o : Oper} {w : World} {ρ : Operand → Value} {x : Operand} {p q r : Value} (ho : o.op = .extract x 2) (hx : ρ x = .tuple #[p, q, r]) : (execOp ρ o).run Tryz.prog w = .ok (.value r) w := by simp [execOp, ho, hx, go_sem]
theorem wp_startD1 {f : FuncId} {fn : Func} {c : Code} {R : Ending → World → Prop} {n : Nat} {w : World} {v0 : Value} (hf : Tryz.prog.funcs[f]? = some fn) (hb : fn.body = some c) (hn : fn.ntmps = n) (h2 : 1 ≤ n) (k : ∀ a, Env n [(0, v0)] a → c.wp Tryz.prog (bodyPostD Tryz.prog fn R) a w) : Calls Tryz.prog f #[v0] w R := by
 refine calls_of_wp_defers hf hb (k _ ⟨?_, ?_, rfl⟩)
 ·simp [hn]; omega
 ·intro x hx
  simp only [List.mem_cons, List.not_mem_nil, or_false] at hx
  subst hx
  show (#[v0] ++ Array.replicate (fn.ntmps - 1) undef).getD 0 undef = v0
  rw [Array.getD_eq_getD_getElem?, Array.getElem?_append_left (by simp)]; rfl
theorem catch_idle (b2 b3 b4 : Nat) (w : World) : CallsD Tryz.prog 32 #[.pointer (some ⟨b2, 0, none⟩), .pointer (some ⟨b3, 0, none⟩), .pointer (some ⟨b4, 0, none⟩)] .returning w fun e u w' => e = .returned (.tuple #[]) ∧ u = .returning ∧ w' = w := by
 refine callsD_of_wpS Tryz.func32 rfl fun c₀ cs hu => ?_
 apply wpS_seq
 apply wpS_region
 simp [wpOpsS, go_sem, recoverD, hu, Tryz.ntmps32, Exit.thenS]
 apply wpS_seq
 apply wpS_region
 simp [wpOpsS, go_sem, Exit.thenS]
 refine wpS_cond (t := false) (by simp [Act.eval, Array.replicate]) ?_
 simp only [Bool.false_eq_true, if_false]
 refine wpS_of_wp (k_ ?_)
 cases c₀
 simp_all [bodyPostS, results, Tryz.results32]
set_option maxRecDepth 100000 in
set_option maxHeartbeats 4000000 in
theorem catch_panic {b2 b3 b4 : Nat} {p : Option Addr} {m k : Nat} {e0 x0 : Int} (c x : Int) {w : World} (h2 : w.heap[b2]? = some (.cells #[.slice p m k] 22 (0, 0))) (h3 : w.heap[b3]? = some (.cells #[.int .i64 e0] 25 (0, 0))) (h4 : w.heap[b4]? = some (.cells #[.int .i64 x0] 3 (0, 0))) (n23 : b2 < b3) (n34 : b3 < b4) :
  CallsD Tryz.prog 32 #[.pointer (some ⟨b2, 0, none⟩), .pointer (some ⟨b3, 0, none⟩), .pointer (some ⟨b4, 0, none⟩)] (.panicking (pn c x)) w fun e u w' => e = .returned (.tuple #[]) ∧ u = .panicking [{ v := prob c x, recovered := true }] ∧ w'.heap[b2]? = some (.cells #[.slice none 0 0] 22 (0, 0)) ∧ w'.heap[b3]? = some (.cells #[.int .i64 c] 25 (0, 0)) ∧ w'.heap[b4]? = some (.cells #[.int .i64 x] 3 (0, 0)) ∧ Fr (fun r => r = b2 ∨ r = b3 ∨ r = b4) w w' := by
 refine callsD_of_wpS Tryz.func32 rfl fun c₀ cs hu => ?_
 apply wpS_seq
 apply wpS_region
 simp [wpOpsS, go_sem, recoverD, hu, Tryz.ntmps32, Exit.thenS]
 refine wpS_of_wp ((fun (H : ∀ a, Env 14 [(0, .pointer (some ⟨b2, 0, none⟩)), (1, .pointer (some ⟨b3, 0, none⟩)), (2, .pointer (some ⟨b4, 0, none⟩)), (3, prob c x)] a → Code.wp Tryz.prog _ _ a w) => H _ ⟨by rfl, by intro z hz; simp at hz; rcases hz with rfl | rfl | rfl | rfl <;> rfl, rfl⟩) fun a E => ?_)
 have hl2 := lt_of_blk h2
 have hl3 := lt_of_blk h3
 have hl4 := lt_of_blk h4
 have hf : Fr (fun r => r = b2 ∨ r = b3 ∨ r = b4) w w := Fr.refl _ _
 refine s_ (r_ (ep E rfl (m_ rfl E.g3) fun a E => ep (v := .bool true) E rfl (run_nenil rfl E.g0 rfl) fun a E => n_ (t_ (c_t E.g0 (s_ (r_ (ep E rfl (m_ rfl E.g5) fun a E => ep (v := .agg #[.int .i64 c, .int .i64 x]) E rfl (run_ta54 rfl E.g0) fun a E => env_new (d := 4) E rfl (by decide) rfl (wanted_none rfl _) (run_alloc54 rfl) fun a w1 b137 eb137 hb137 f1 E => ?_)))))))
 have hnb137 : w.heap.size ≤ b137 := by have := hf.size; omega
 have hlb2b137 : b2 < b137 := by have := lt_of_blk h2; omega
 have hlb3b137 : b3 < b137 := by have := lt_of_blk h3; omega
 have hlb4b137 : b4 < b137 := by have := lt_of_blk h4; omega
 have h2 := f1.obj h2 id
 have h3 := f1.obj h3 id
 have h4 := f1.obj h4 id
 have hf := hf.trans' f1 (fun _ _ h => h.elim)
 clear f1
 refine env_st54 E rfl (wanted_none rfl _) rfl E.g0 E.g1 hb137 fun w1 hb137n f1 E => ?_
 have h2 := f1.obj h2 nq_
 have h3 := f1.obj h3 nq_
 have h4 := f1.obj h4 nq_
 have hf := hf.trans' f1 (fun _ hr => nq_)
 clear f1
 replace hb137 := hb137n
 refine n_ (t_ (wp_region_invx (G := Unit) () (n := 14) (base := [(4, .pointer (some ⟨b137, 0, none⟩)), (9, .agg #[.int .i64 c, .int .i64 x]), (8, prob c x), (7, .bool true), (6, prob c x), (0, .pointer (some ⟨b2, 0, none⟩)), (1, .pointer (some ⟨b3, 0, none⟩)), (2, .pointer (some ⟨b4, 0, none⟩)), (3, prob c x)]) (U := []) (T := fun γ => [some (10, .pointer (some ⟨b137, 0, none⟩)), some (11, .int .i64 c), some (12, .pointer (some ⟨b137, 1, none⟩)), some (13, .int .i64 x), none, none, none]) (M := fun γ ls9 wm => Fr (fun r => r = b2 ∨ r = b3 ∨ r = b4) w1 wm ∧ wm.heap[b2]? = some (.cells #[(bif ls9 4 then .slice none 0 0 else .slice (p) m k)] 22 (0, 0)) ∧ wm.heap[b3]? = some (.cells #[(bif ls9 5 then .int .i64 c else .int .i64 e0)] 25 (0, 0)) ∧ wm.heap[b4]? = some (.cells #[(bif ls9 6 then .int .i64 x else .int .i64 x0)] 3 (0, 0))) (by kernel_rfl) (by kernel_rfl) (fun _ => by kernel_rfl) (E.of ⟨E.g0, E.g1, E.g2, E.g3, E.g4, E.g5, E.g6, E.g7, E.g8, trivial⟩) (fun x hx => by cases hx) ⟨(Fr.refl _ _).drew, h2, h3, h4⟩ ?_ ?_))
 ·intro j9 o9 γ ls9 a w5 ho hl E D DL DL2 hB hM
  have hb137 := hM.1.obj hb137 nq_
  have h2 := hM.2.1
  have h3 := hM.2.2.1
  have h4 := hM.2.2.2
  match j9, ho, hl, D, DL, hB with
  | 0, ho, hl, D, DL, hB => exact z0_ ho (valx rfl (fa54_0 rfl E.g0) rfl hM)
  | 1, ho, hl, D, DL, hB => exact z0_ ho (valx rfl (run_lde rfl (D 0 _ rfl rfl) (bx hb137 0 rfl)) rfl hM)
  | 2, ho, hl, D, DL, hB => exact z0_ ho (valx rfl (fa54_1 rfl E.g0) rfl hM)
  | 3, ho, hl, D, DL, hB => exact z0_ ho (valx rfl (run_ldi rfl (D 2 _ rfl rfl) (bx hb137 1 rfl)) rfl hM)
  | 4, ho, hl, D, DL, hB => exact z0_ ho (storex rfl (run_st22 rfl E.g5 rfl (bx h2 0 rfl) (free_of_blk h2 0)) rfl ⟨hM.1.trans (((Fr.refl (fun r => r = b2) w5).setCell (p := ⟨b2, 0, none⟩) (fun _ => rfl) _).mono (fun r _ e => by first | exact e | exact .inl e | exact .inr e | exact .inr (.inl e) | exact .inr (.inr e))), blk_setCell_same (off := 0) h2 _, (blk_setCell (p := ⟨b2, 0, none⟩) (by show b3 ≠ b2; omega) _).trans h3, (blk_setCell (p := ⟨b2, 0, none⟩) (by show b4 ≠ b2; omega) _).trans h4⟩)
  | 5, ho, hl, D, DL, hB => exact z0_ ho (storex rfl (run_st25 rfl E.g6 (D 1 _ rfl rfl) (bx h3 0 rfl) (free_of_blk h3 0)) rfl ⟨hM.1.trans (((Fr.refl (fun r => r = b3) w5).setCell (p := ⟨b3, 0, none⟩) (fun _ => rfl) _).mono (fun r _ e => by first | exact e | exact .inl e | exact .inr e | exact .inr (.inl e) | exact .inr (.inr e))), (blk_setCell (p := ⟨b3, 0, none⟩) (by show b2 ≠ b3; omega) _).trans h2, blk_setCell_same (off := 0) h3 _, (blk_setCell (p := ⟨b3, 0, none⟩) (by show b4 ≠ b3; omega) _).trans h4⟩)
  | 6, ho, hl, D, DL, hB => exact z0_ ho (storex rfl (run_st3 rfl E.g7 (D 3 _ rfl rfl) (bx h4 0 rfl) (free_of_blk h4 0)) rfl ⟨hM.1.trans (((Fr.refl (fun r => r = b4) w5).setCell (p := ⟨b4, 0, none⟩) (fun _ => rfl) _).mono (fun r _ e => by first | exact e | exact .inl e | exact .inr e | exact .inr (.inl e) | exact .inr (.inr e))), (blk_setCell (p := ⟨b4, 0, none⟩) (by show b2 ≠ b4; omega) _).trans h2, (blk_setCell (p := ⟨b4, 0, none⟩) (by show b3 ≠ b4; omega) _).trans h3, blk_setCell_same (off := 0) h4 _⟩)
  | j9 + 7, ho, hl, D, DL, hB => exact absurd ho (by simp)
 ·rintro _ a w5 E V hM
  clear V
  have f1 := hM.1
  have h2n : w5.heap[b2]? = some (.cells #[.slice none 0 0] 22 (0, 0)) := hM.2.1
  have h3n : w5.heap[b3]? = some (.cells #[.int .i64 c] 25 (0, 0)) := hM.2.2.1
  have h4n : w5.heap[b4]? = some (.cells #[.int .i64 x] 3 (0, 0)) := hM.2.2.2
  clear hM
  have hb137 := f1.obj hb137 nq_
  have hf := hf.trans' f1 (fun _ hr => nq_)
  clear f1
  replace h2 := h2n
  replace h3 := h3n
  replace h4 := h4n
  exact ⟨E.df, _, rfl, .tuple #[], by simp [results, Tryz.results32], rfl, rfl, h2, h3, h4, hf⟩
end Go.Proofs.YtjaffpnegdcjnaaGreatDoor
/- Parse. -/
set_option linter.unusedVariables false
set_option linter.unusedSimpArgs false
namespace Go.Proofs.YtjaffpnegdcjnaaGreatDoor
open Go.RowKit Go.Pl
def LexI (rl : Except (Int × Int) (List (Tok Int))) (B : Nat) (v : Value) (c x : Int) (W : World) : Prop := (rl = .error (c, x) ∧ c ≠ 0 ∧ v = .slice none 0 0) ∨ ∃ ts, rl = .ok ts ∧ c = 0 ∧ x = 0 ∧ oTk W B v ts
theorem LexI.fr {rl : Except (Int × Int) (List (Tok Int))} {B : Nat} {v : Value} {c x : Int} {w w' : World} {F : Nat → Prop} (h : LexI rl B v c x w) (f : Fr F w w') (hF : ∀ k, B ≤ k → ¬ F k) : LexI rl B v c x w' :=
 h.imp id fun ⟨ts, h1, h2, h3, h4⟩ => ⟨ts, h1, h2, h3, h4.fr f fun k hk => hF k (h4.lt hk).1⟩
set_option maxRecDepth 100000 in
set_option maxHeartbeats 4000000 in
theorem parse_calls (s : Bys) (hs : s.length ≤ 4900) (w : World) (hT0 : Tb w) : Calls Tryz.prog 13 #[.string (ofL s)] w fun e w' => match parseP s with | .error (c, x) => e = .returned (.tuple #[.slice none 0 0, .int .i64 c, .int .i64 x]) ∧ Fr (fun _ => False) w w' | .ok l => ∃ v, e = .returned (.tuple #[v, .int .i64 0, .int .i64 0]) ∧ SpV w' v l ∧ Fr (fun _ => False) w w' := by
 refine wp_startD1 Tryz.func13 rfl rfl (n := 38) (by decide) fun a E => ?_
 have hf : Fr (fun _ => False) w w := Fr.refl _ _
 have hT : Tb w := hT0
 have hTlw := hT0.lt
 refine s_ (r_ (env_new (d := 2) E rfl (by decide) rfl (wanted_none rfl _) (run_alloc22 rfl) fun a w1 b138 eb138 hb138 f1 E => ?_))
 have hnb138 : w.heap.size ≤ b138 := by have := hf.size; omega
 have hT := Tb.fr hT f1 (fun r hr => id)
 have hf := hf.trans' f1 (fun _ _ h => h.elim)
 clear f1
 refine env_new (d := 3) E rfl (by decide) rfl (wanted_none rfl _) (run_alloc25 rfl) fun a w1 b139 eb139 hb139 f1 E => ?_
 have hnb139 : w.heap.size ≤ b139 := by have := hf.size; omega
 have hlb138b139 : b138 < b139 := by have := lt_of_blk hb138; omega
 have hT := Tb.fr hT f1 (fun r hr => id)
 have hb138 := f1.obj hb138 id
 have hf := hf.trans' f1 (fun _ _ h => h.elim)
 clear f1
 refine env_new (d := 4) E rfl (by decide) rfl (wanted_none rfl _) (run_alloc3 rfl) fun a w1 b140 eb140 hb140 f1 E => ?_
 have hnb140 : w.heap.size ≤ b140 := by have := hf.size; omega
 have hlb138b140 : b138 < b140 := by have := lt_of_blk hb138; omega
 have hlb139b140 : b139 < b140 := by have := lt_of_blk hb139; omega
 have hT := Tb.fr hT f1 (fun r hr => id)
 have hb138 := f1.obj hb138 id
 have hb139 := f1.obj hb139 id
 have hf := hf.trans' f1 (fun _ _ h => h.elim)
 clear f1
 refine n_ (t_ (s_ (r_ (ep E rfl (m_ rfl E.g3) fun a E => ?_))))
 obtain ⟨B, hB⟩ : ∃ B, B = w1.heap.size := ⟨_, rfl⟩
 have hgb138 : b138 < B := by have := lt_of_blk hb138; omega
 have hgb139 : b139 < B := by have := lt_of_blk hb139; omega
 have hgb140 : b140 < B := by have := lt_of_blk hb140; omega
 obtain ⟨rl, hrl⟩ : ∃ rl, rl = lexP s := ⟨_, rfl⟩
 refine env_callv (d := 10) (R := fun u w8 => ∃ v c x, u = .tuple #[v, .int .i64 c, .int .i64 x] ∧ Fr (fun _ => False) w1 w8 ∧ LexI rl B v c x w8) E rfl (by decide) rfl (wanted_none rfl _) (run_call1 (enters_of Tryz.func20 (by kernel_rfl) rfl) rfl rfl E.g0) ((lex_calls s (by omega) _).mono fun e w8 h => ?_) fun a w1 u ⟨v, c, x, hu, f1, hlx⟩ E => ?_
 ·rcases lexP_cases s with ⟨e1, a1, h1, h2, _⟩ | ⟨h1, _⟩
  ·rw [h1] at h hrl
   obtain ⟨rfl, h⟩ := h
   exact ⟨_, rfl, _, _, _, rfl, h, .inl ⟨hrl, h2, rfl⟩⟩
  ·rw [h1] at h hrl
   obtain ⟨v, rfl, h3, h⟩ := h
   exact ⟨_, rfl, _, _, _, rfl, h, .inr ⟨_, hrl, rfl, rfl, hB ▸ h3⟩⟩
 subst hu
 have hT := Tb.fr hT f1 (fun r hr => id)
 have hb138 := f1.obj hb138 id
 have hb139 := f1.obj hb139 id
 have hb140 := f1.obj hb140 id
 have hf := hf.trans' f1 (fun _ _ h => h.elim)
 clear f1
 refine ep E rfl (m_ rfl E.g0) fun a E => ep (v := v) E rfl (run_ex0of3 rfl E.g0) fun a E => ep (v := .int .i64 c) E rfl (run_ex1of3 rfl E.g1) fun a E => ep (v := .int .i64 x) E rfl (run_ex2of3 rfl E.g2) fun a E => ep E rfl (a_ rfl E.g2) fun a E => ep E rfl (a_ rfl E.g2) fun a E => env_st1 (j := 0) E rfl (wanted_none rfl _) hb140 (run_st3 rfl E.g8 E.g2 (bx hb140 0 rfl) (free_of_blk hb140 0)) fun w1 hb140n f1 E => ?_
 replace hb140n : w1.heap[b140]? = some (.cells #[.int .i64 x] 3 (0, 0)) := hb140n
 have hT := Tb.fr hT f1 (fun _ hr => nq_)
 have hb138 := f1.obj hb138 nq_
 have hb139 := f1.obj hb139 nq_
 have hlx := LexI.fr hlx f1 (fun k hk => nq_)
 have hf := hf.trans' f1 (fun _ hr => nq_)
 clear f1
 replace hb140 := hb140n
 refine n_ (t_ (s_ (s_ (r_ (ep E rfl (m_ rfl E.g0) fun a E => ep (v := .bool (c != 0)) E rfl (run_ineq E.g0 rfl Tryz.underlying25 rfl) fun a E => n_ (t_ ?_))))))
 cases hq141 : (c != 0) with
 | false =>
  rw [hq141] at E
  rcases hlx with ⟨_, hx2, _⟩ | ⟨ts, hx1, rfl, rfl, hO⟩
  ·exact absurd (by simpa using hq141) hx2
  obtain ⟨pt, ct, rfl, hct1, hct2, htk, hzt⟩ := ow.src tkL_len hO
  obtain ⟨hts1, _, hts2, hts3, hts4⟩ := lexP_tk (l := s) (ts := ts) (by rw [← hrl, hx1])
  refine c_f E.g0 (k_ (t_ (s_ (r_ (ep (v := .func (.func 32) #[] #[.pointer (some ⟨b138, 0, none⟩), .pointer (some ⟨b139, 0, none⟩), .pointer (some ⟨b140, 0, none⟩)]) E rfl (run_mkfn3 rfl E.g12 E.g11 E.g10) fun a E => env_defer E rfl (wanted_none rfl _) (run_defer rfl E.g0) fun a E => n_ (t_ (s_ (r_ (ep E rfl (m_ rfl E.g4) fun a E => ep E rfl (m_ rfl E.g15) fun a E => ep (v := .int .i64 (s.length : Int)) E rfl (run_slen rfl E.g0) fun a E => ep (v := .agg #[.slice (pt) ts.length ct, .int .i64 (s.length : Int)]) E rfl (run_b57 rfl E.g2 E.g0) fun a E => ep (v := .agg #[.slice (pt) ts.length ct, .int .i64 (s.length : Int), .slice none 0 0]) E rfl (run_b59 rfl E.g0) fun a E => env_new (d := 24) E rfl (by decide) rfl (wanted_none rfl _) (run_box59 rfl E.g0) fun a w1 b142 eb142 hb142 f1 E => ?_)))))))))
  have hnb142 : w.heap.size ≤ b142 := by have := hf.size; omega
  have hlb138b142 : b138 < b142 := by have := lt_of_blk hb138; omega
  have hlb139b142 : b139 < b142 := by have := lt_of_blk hb139; omega
  have hlb140b142 : b140 < b142 := by have := lt_of_blk hb140; omega
  have hT := Tb.fr hT f1 (fun r hr => id)
  have hb138 := f1.obj hb138 id
  have hb139 := f1.obj hb139 id
  have hb140 := f1.obj hb140 id
  have htk := srcAt.fr htk f1 (fun r hr => id)
  have hf := hf.trans' f1 (fun _ _ h => h.elim)
  clear f1
  refine ep E rfl (a_ rfl E.g0) fun a E => n_ (t_ (s_ ?_))
  have hRO : RdO w1 b142 b142 (b142 + 1) (s.length : Int) ts [] := ⟨by omega, by have := lt_of_blk hb142; omega, _, ⟨Nat.le_refl _, _, hb142, pt, ct, rfl, hct1, hct2, htk.mono (by omega), hzt⟩, ow_nil _⟩
  obtain ⟨rt, hrt⟩ : ∃ rt, rt = textS (s.length : Int) ts := ⟨_, rfl⟩
  have hTl := hT.lt
  have hC := text_calls hRO hts2 hT (by omega) (by omega)
  unfold StepO at hC
  rw [← hrt] at hC
  refine r_ (ep E rfl (m_ rfl E.g0) fun a E => ?_)
  rcases hqt : rt with ⟨c, x⟩ | ⟨sp, l9⟩
  ·rw [hqt] at hC hrt
   refine env_callp (ch := pn c x) (R := fun w8 => Fr (fun r => r = b142 ∨ b142 + 1 ≤ r) w1 w8) (wanted_none rfl _) (run_call1 (enters_of Tryz.func33 (by kernel_rfl) rfl) rfl rfl E.g0) (hC.mono fun e w8 h => ⟨h.2, h.1⟩) fun w1 f1 => ?_
   have hT := Tb.fr hT f1 (fun _ hr => nq_)
   have hb138 := f1.obj hb138 nq_
   have hb139 := f1.obj hb139 nq_
   have hb140 := f1.obj hb140 nq_
   have hf := hf.trans' f1 (fun _ hr => nq_)
   clear f1
   refine then_p ?_
   show Leaves Tryz.prog _ a.tmps _ a.defers (.panicking (pn c x)) _
   rw [E.df]
   refine leaves_cons (f := 32) (args := #[.pointer (some ⟨b138, 0, none⟩), .pointer (some ⟨b139, 0, none⟩), .pointer (some ⟨b140, 0, none⟩)]) (by simp) (by simp [go_sem]) ((catch_panic c x hb138 hb139 hb140 (by omega) (by omega)).mono ?_)
   rintro e u w8 ⟨rfl, rfl, g2, g3, g4, f9⟩
   show Leaves Tryz.prog _ a.tmps _ [] .returning _
   refine ⟨_, res3 (.inr ⟨Tryz.underlying22, rfl⟩) rfl E.g21 E.g20 E.g19 (bx g2 0 rfl) (bx g3 0 rfl) (bx g4 0 rfl), ?_⟩
   have hP : parseP s = .error (c, x) := by unfold parseP; rw [← hrl, hx1]; simp only; rw [textP_S, ← hrt]
   rw [hP]
   exact ⟨rfl, hf.trans' f9 (fun r hr e => by omega)⟩
  ·rw [hqt] at hC hrt
   refine env_callv (d := 26) (R := fun u w8 => u = .tuple #[] ∧ RdO w8 b142 b142 (b142 + 1) (s.length : Int) l9 ([] ++ sp) ∧ Fr (fun r => r = b142 ∨ b142 + 1 ≤ r) w1 w8) E rfl (by decide) rfl (wanted_none rfl _) (run_call1 (enters_of Tryz.func33 (by kernel_rfl) rfl) rfl rfl E.g0) (hC.mono fun e w8 h => ⟨_, h.2.1, rfl, h.2.2, h.1⟩) fun a w1 u ⟨hu, hR2, f1⟩ E => ?_
   subst hu
   have hT := Tb.fr hT f1 (fun _ hr => nq_)
   have hb138 := f1.obj hb138 nq_
   have hb139 := f1.obj hb139 nq_
   have hb140 := f1.obj hb140 nq_
   have hf := hf.trans' f1 (fun _ hr => nq_)
   clear f1
   rw [List.nil_append] at hR2
   obtain ⟨_, _, sv, ⟨_, lv9, hrb9, _⟩, hOs⟩ := hR2
   obtain ⟨ps, cs, rfl, hcs1, hcs2, hss, hzs⟩ := ow.src spL_len hOs
   have hcn := text_cnt hts2 hrt.symm
   have hwk : wk sp := textP_wk hts2 (by rw [textP_S, ← hrt])
   refine n_ (t_ (s_ (r_ (ep E rfl (m_ rfl E.g2) fun a E => ep E rfl (i_ rfl E.g0) fun a E => ep (v := .pointer (some ⟨b142, 2, none⟩)) E rfl (fa59_1 rfl E.g0) fun a E => ep (v := .slice (ps) sp.length cs) E rfl (run_ld22 rfl E.g0 (bx hrb9 2 rfl)) fun a E => ?_))))
   obtain ⟨Bu, hBu⟩ : ∃ Bu, Bu = w1.heap.size := ⟨_, rfl⟩
   have hgub138 : b138 < Bu := by have := lt_of_blk hb138; omega
   have hgub139 : b139 < Bu := by have := lt_of_blk hb139; omega
   have hgub140 : b140 < Bu := by have := lt_of_blk hb140; omega
   have hgub142 : b142 < Bu := by have := lt_of_blk hrb9; omega
   refine env_callv (d := 31) (R := fun u w8 => oSp w8 Bu u (canon sp) ∧ Fr (fun _ => False) w1 w8) E rfl (by decide) rfl (wanted_none rfl _) (run_call1 (enters_of Tryz.func34 (by kernel_rfl) rfl) rfl rfl E.g0) ((united_calls (w := w1) (l := sp) ⟨ps, cs, rfl, hcs1, hcs2, hss, hzs⟩ hwk (by omega)).mono fun e w8 h => by obtain ⟨u, rfl, h⟩ := h; exact ⟨_, rfl, hBu ▸ h⟩) fun a w1 u ⟨hOu, f1⟩ E => ?_
   obtain ⟨pu, cu, rfl, hcu1, hcu2, hsu, hzu⟩ := ow.src spL_len hOu
   have hT := Tb.fr hT f1 (fun r hr => id)
   have hb138 := f1.obj hb138 id
   have hb139 := f1.obj hb139 id
   have hb140 := f1.obj hb140 id
   have hf := hf.trans' f1 (fun _ _ h => h.elim)
   clear f1
   refine env_st1 (j := 0) E rfl (wanted_none rfl _) hb138 (run_st22 rfl E.g27 E.g0 (bx hb138 0 rfl) (free_of_blk hb138 0)) fun w1 hb138n f1 E => ?_
   replace hb138n : w1.heap[b138]? = some (.cells #[.slice (pu) (canon sp).length cu] 22 (0, 0)) := hb138n
   have hT := Tb.fr hT f1 (fun _ hr => nq_)
   have hb139 := f1.obj hb139 nq_
   have hb140 := f1.obj hb140 nq_
   have hOu := hOu.fr f1 (fun k hk e => by have := (hOu.lt hk).1; (try simp only at e); omega)
   have hf := hf.trans' f1 (fun _ hr => nq_)
   clear f1
   replace hb138 := hb138n
   refine n_ (t_ (s_ (s_ (r_ (ep (v := .slice (pu) (canon sp).length cu) E rfl (run_ld22 rfl E.g27 (bx hb138 0 rfl)) fun a E => ep (v := .int .i64 ((canon sp).length : Int)) E rfl (run_len22 rfl E.g0) fun a E => ep (v := .bool (decide (60 < ((canon sp).length : Int)))) E rfl (run_igtr E.g0 rfl Tryz.underlying3 rfl) fun a E => n_ (t_ ?_))))))
   cases hq143 : (decide (60 < ((canon sp).length : Int))) with
   | false =>
    rw [hq143] at E
    refine c_f E.g0 (k_ (t_ (s_ (r_ (ep (v := .slice (pu) (canon sp).length cu) E rfl (run_ld22 rfl E.g30 (bx hb138 0 rfl)) fun a E => env_st1 (j := 0) E rfl (wanted_none rfl _) hb138 (run_st22 rfl E.g31 E.g0 (bx hb138 0 rfl) (free_of_blk hb138 0)) fun w1 hb138n f1 E => ?_)))))
    replace hb138n : w1.heap[b138]? = some (.cells #[.slice (pu) (canon sp).length cu] 22 (0, 0)) := hb138n
    have hT := Tb.fr hT f1 (fun _ hr => nq_)
    have hb139 := f1.obj hb139 nq_
    have hb140 := f1.obj hb140 nq_
    have hOu := hOu.fr f1 (fun k hk e => by have := (hOu.lt hk).1; (try simp only at e); omega)
    have hf := hf.trans' f1 (fun _ hr => nq_)
    clear f1
    replace hb138 := hb138n
    refine env_st1 (j := 0) E rfl (wanted_none rfl _) hb139 (run_st25 rfl E.g30 rfl (bx hb139 0 rfl) (free_of_blk hb139 0)) fun w1 hb139n f1 E => ?_
    replace hb139n : w1.heap[b139]? = some (.cells #[.int .i64 0] 25 (0, 0)) := hb139n
    have hT := Tb.fr hT f1 (fun _ hr => nq_)
    have hb138 := f1.obj hb138 nq_
    have hb140 := f1.obj hb140 nq_
    have hOu := hOu.fr f1 (fun k hk e => by have := (hOu.lt hk).1; (try simp only at e); omega)
    have hf := hf.trans' f1 (fun _ hr => nq_)
    clear f1
    replace hb139 := hb139n
    refine env_st1 (j := 0) E rfl (wanted_none rfl _) hb140 (run_st3 rfl E.g29 rfl (bx hb140 0 rfl) (free_of_blk hb140 0)) fun w1 hb140n f1 E => ?_
    replace hb140n : w1.heap[b140]? = some (.cells #[.int .i64 0] 3 (0, 0)) := hb140n
    have hT := Tb.fr hT f1 (fun _ hr => nq_)
    have hb138 := f1.obj hb138 nq_
    have hb139 := f1.obj hb139 nq_
    have hOu := hOu.fr f1 (fun k hk e => by have := (hOu.lt hk).1; (try simp only at e); omega)
    have hf := hf.trans' f1 (fun _ hr => nq_)
    clear f1
    replace hb140 := hb140n
    refine n_ (t_ (wr_ ?_))
    show Leaves Tryz.prog _ a.tmps _ a.defers .returning _
    rw [E.df]
    refine leaves_cons (f := 32) (args := #[.pointer (some ⟨b138, 0, none⟩), .pointer (some ⟨b139, 0, none⟩), .pointer (some ⟨b140, 0, none⟩)]) (by simp) (by simp [go_sem]) ((catch_idle _ _ _ _).mono ?_)
    rintro e u w8 ⟨rfl, rfl, rfl⟩
    show Leaves Tryz.prog _ a.tmps _ [] .returning _
    refine ⟨_, res3 (.inr ⟨Tryz.underlying22, rfl⟩) rfl E.g31 E.g30 E.g29 (bx hb138 0 rfl) (bx hb139 0 rfl) (bx hb140 0 rfl), ?_⟩
    have h60 := hq143
    have hP : parseP s = .ok (canon sp) := by
     unfold parseP; rw [← hrl, hx1]; simp only; rw [textP_S, ← hrt]; simp only
     rw [if_neg (by have := of_decide_eq_false h60; omega)]
    rw [hP]
    exact ⟨_, rfl, ow.Src spL_len hOu, hf⟩
   | true =>
    rw [hq143] at E
    refine c_t E.g0 (s_ (r_ (ep E rfl (m_ rfl E.g31) fun a E => ep (v := .int .i64 (s.length : Int)) E rfl (run_slen rfl E.g0) fun a E => env_st1 (j := 0) E rfl (wanted_none rfl _) hb138 (run_st22 rfl E.g32 rfl (bx hb138 0 rfl) (free_of_blk hb138 0)) fun w1 hb138n f1 E => ?_)))
    replace hb138n : w1.heap[b138]? = some (.cells #[.slice none 0 0] 22 (0, 0)) := hb138n
    have hT := Tb.fr hT f1 (fun _ hr => nq_)
    have hb139 := f1.obj hb139 nq_
    have hb140 := f1.obj hb140 nq_
    have hOu := hOu.fr f1 (fun k hk e => by have := (hOu.lt hk).1; (try simp only at e); omega)
    have hf := hf.trans' f1 (fun _ hr => nq_)
    clear f1
    replace hb138 := hb138n
    refine env_st1 (j := 0) E rfl (wanted_none rfl _) hb139 (run_st25 rfl E.g31 rfl (bx hb139 0 rfl) (free_of_blk hb139 0)) fun w1 hb139n f1 E => ?_
    replace hb139n : w1.heap[b139]? = some (.cells #[.int .i64 2] 25 (0, 0)) := hb139n
    have hT := Tb.fr hT f1 (fun _ hr => nq_)
    have hb138 := f1.obj hb138 nq_
    have hb140 := f1.obj hb140 nq_
    have hOu := hOu.fr f1 (fun k hk e => by have := (hOu.lt hk).1; (try simp only at e); omega)
    have hf := hf.trans' f1 (fun _ hr => nq_)
    clear f1
    replace hb139 := hb139n
    refine env_st1 (j := 0) E rfl (wanted_none rfl _) hb140 (run_st3 rfl E.g30 E.g0 (bx hb140 0 rfl) (free_of_blk hb140 0)) fun w1 hb140n f1 E => ?_
    replace hb140n : w1.heap[b140]? = some (.cells #[.int .i64 (s.length : Int)] 3 (0, 0)) := hb140n
    have hT := Tb.fr hT f1 (fun _ hr => nq_)
    have hb138 := f1.obj hb138 nq_
    have hb139 := f1.obj hb139 nq_
    have hOu := hOu.fr f1 (fun k hk e => by have := (hOu.lt hk).1; (try simp only at e); omega)
    have hf := hf.trans' f1 (fun _ hr => nq_)
    clear f1
    replace hb140 := hb140n
    refine n_ (t_ (wr_ (tr_ ?_)))
    show Leaves Tryz.prog _ a.tmps _ a.defers .returning _
    rw [E.df]
    refine leaves_cons (f := 32) (args := #[.pointer (some ⟨b138, 0, none⟩), .pointer (some ⟨b139, 0, none⟩), .pointer (some ⟨b140, 0, none⟩)]) (by simp) (by simp [go_sem]) ((catch_idle _ _ _ _).mono ?_)
    rintro e u w8 ⟨rfl, rfl, rfl⟩
    show Leaves Tryz.prog _ a.tmps _ [] .returning _
    refine ⟨_, res3 (.inr ⟨Tryz.underlying22, rfl⟩) rfl E.g32 E.g31 E.g30 (bx hb138 0 rfl) (bx hb139 0 rfl) (bx hb140 0 rfl), ?_⟩
    have h60 := hq143
    have hP : parseP s = .error (2, (s.length : Int)) := by
     unfold parseP; rw [← hrl, hx1]; simp only; rw [textP_S, ← hrt]; simp only
     rw [if_pos (by have := of_decide_eq_true h60; omega)]
    rw [hP]
    exact ⟨rfl, hf⟩
 | true =>
  rw [hq141] at E
  have hx1 : rl = .error (c, x) ∧ v = .slice none 0 0 := by
   rcases hlx with ⟨hx1, hx2, hx3⟩ | ⟨ts, _, hx2, _⟩
   ·exact ⟨hx1, hx3⟩
   ·rw [hx2] at hq141; cases hq141
  obtain ⟨hx1, rfl⟩ := hx1
  refine c_t E.g0 (s_ (wp_region_invx (G := Unit) () (n := 38) (base := [(15, .bool true), (14, .int .i64 c), (6, .int .i64 c), (5, .slice none 0 0), (13, .int .i64 x), (12, .int .i64 c), (11, .slice none 0 0), (8, .tuple #[.slice none 0 0, .int .i64 c, .int .i64 x]), (10, .tuple #[.slice none 0 0, .int .i64 c, .int .i64 x]), (9, .string (ofL s)), (4, .pointer (some ⟨b140, 0, none⟩)), (3, .pointer (some ⟨b139, 0, none⟩)), (2, .pointer (some ⟨b138, 0, none⟩)), (0, .string (ofL s))]) (U := []) (T := fun γ => [some (16, .int .i64 c), some (17, .int .i64 x), none, none, none]) (M := fun γ ls9 wm => Fr (fun r => r = b138 ∨ r = b139 ∨ r = b140) w1 wm ∧ wm.heap[b138]? = some (.cells #[.slice none 0 0] 22 (0, 0)) ∧ wm.heap[b139]? = some (.cells #[(bif ls9 3 then .int .i64 c else .int .i64 0)] 25 (0, 0)) ∧ wm.heap[b140]? = some (.cells #[.int .i64 x] 3 (0, 0))) (by kernel_rfl) (by kernel_rfl) (fun _ => by kernel_rfl) (E.of ⟨E.g0, E.g1, E.g2, E.g3, E.g4, E.g5, E.g6, E.g7, E.g8, E.g9, E.g10, E.g11, E.g12, E.g13, trivial⟩) (fun x hx => by cases hx) ⟨(Fr.refl _ _).drew, hb138, hb139, hb140⟩ ?_ ?_))
  ·intro j9 o9 γ ls9 a w5 ho hl E D DL DL2 hB hM
   have hT := Tb.fr hT hM.1 (fun _ hr => nq_)
   have hb138 := hM.2.1
   have hb139 := hM.2.2.1
   have hb140 := hM.2.2.2
   match j9, ho, hl, D, DL, hB with
   | 0, ho, hl, D, DL, hB => exact z0_ ho (valx rfl (m_ rfl E.g2) rfl hM)
   | 1, ho, hl, D, DL, hB => exact z0_ ho (valx rfl (run_ldi rfl E.g10 (bx hb140 0 rfl)) rfl hM)
   | 2, ho, hl, D, DL, hB => exact z0_ ho (storex rfl (run_st22 rfl E.g12 rfl (bx hb138 0 rfl) (free_of_blk hb138 0)) rfl ⟨hM.1.trans (((Fr.refl (fun r => r = b138) w5).setCell (p := ⟨b138, 0, none⟩) (fun _ => rfl) _).mono (fun r _ e => by first | exact e | exact .inl e | exact .inr e | exact .inr (.inl e) | exact .inr (.inr e))), blk_setCell_same (off := 0) hb138 _, (blk_setCell (p := ⟨b138, 0, none⟩) (by show b139 ≠ b138; omega) _).trans hb139, (blk_setCell (p := ⟨b138, 0, none⟩) (by show b140 ≠ b138; omega) _).trans hb140⟩)
   | 3, ho, hl, D, DL, hB => exact z0_ ho (storex rfl (run_st25 rfl E.g11 (D 0 _ rfl rfl) (bx hb139 0 rfl) (free_of_blk hb139 0)) rfl ⟨hM.1.trans (((Fr.refl (fun r => r = b139) w5).setCell (p := ⟨b139, 0, none⟩) (fun _ => rfl) _).mono (fun r _ e => by first | exact e | exact .inl e | exact .inr e | exact .inr (.inl e) | exact .inr (.inr e))), (blk_setCell (p := ⟨b139, 0, none⟩) (by show b138 ≠ b139; omega) _).trans hb138, blk_setCell_same (off := 0) hb139 _, (blk_setCell (p := ⟨b139, 0, none⟩) (by show b140 ≠ b139; omega) _).trans hb140⟩)
   | 4, ho, hl, D, DL, hB => exact z0_ ho (storex rfl (run_st3 rfl E.g10 (D 1 _ rfl rfl) (bx hb140 0 rfl) (free_of_blk hb140 0)) rfl ⟨hM.1.trans (((Fr.refl (fun r => r = b140) w5).setCell (p := ⟨b140, 0, none⟩) (fun _ => rfl) _).mono (fun r _ e => by first | exact e | exact .inl e | exact .inr e | exact .inr (.inl e) | exact .inr (.inr e))), (blk_setCell (p := ⟨b140, 0, none⟩) (by show b138 ≠ b140; omega) _).trans hb138, (blk_setCell (p := ⟨b140, 0, none⟩) (by show b139 ≠ b140; omega) _).trans hb139, blk_setCell_same (off := 0) hb140 _⟩)
   | j9 + 5, ho, hl, D, DL, hB => exact absurd ho (by simp)
  ·rintro _ a w5 E V hM
   clear V
   have f1 := hM.1
   have hb138n : w5.heap[b138]? = some (.cells #[.slice none 0 0] 22 (0, 0)) := hM.2.1
   have hb139n : w5.heap[b139]? = some (.cells #[.int .i64 c] 25 (0, 0)) := hM.2.2.1
   have hb140n : w5.heap[b140]? = some (.cells #[.int .i64 x] 3 (0, 0)) := hM.2.2.2
   clear hM
   have hT := Tb.fr hT f1 (fun _ hr => nq_)
   have hf := hf.trans' f1 (fun _ hr => nq_)
   clear f1
   replace hb138 := hb138n
   replace hb139 := hb139n
   replace hb140 := hb140n
   refine t_ (wr_ (tr_ ?_))
   show Leaves Tryz.prog _ a.tmps _ a.defers .returning _
   rw [E.df]
   refine ⟨_, res3 (.inr ⟨Tryz.underlying22, rfl⟩) rfl E.g12 E.g11 E.g10 (bx hb138 0 rfl) (bx hb139 0 rfl) (bx hb140 0 rfl), ?_⟩
   have hP : parseP s = .error (c, x) := by unfold parseP; rw [← hrl, hx1]
   rw [hP]
   exact ⟨rfl, hf⟩
end Go.Proofs.YtjaffpnegdcjnaaGreatDoor
/- The text of a minute; the pieces. -/
set_option linter.unusedVariables false
set_option linter.unusedSimpArgs false
namespace Go.Proofs.YtjaffpnegdcjnaaGreatDoor
open Go.RowKit Go.Pl
theorem decS_eq {u : Nat} (h : u < 100) : Lib.decDigits u = decS u := by
 unfold decS
 split
 ·rename_i h1; rw [Lib.decDigits, dif_pos h1]; rfl
 ·rename_i h1
  rw [Lib.decDigits, dif_neg h1, Lib.decDigits, dif_pos (by omega)]; rfl
theorem dec3_eq {r : Nat} (h : r < 60) : Lib.decDigits (100 + r) = 49 :: dec2 r := by
 unfold dec2
 rw [Lib.decDigits, dif_neg (by omega), Lib.decDigits, dif_neg (by omega), Lib.decDigits, dif_pos (by omega), show (100 + r) / 10 / 10 = 1 by omega, show (100 + r) / 10 % 10 = r / 10 by omega, show (100 + r) % 10 = r % 10 by omega]
 rfl
theorem run_from1 {o : Oper} {w : World} {ρ : Operand → Value} {x : Operand} {s : Bys} (ho : o.op = .slice 9 x (some (.const (.int .i64 1))) none none) (hc : ρ (.const (.int .i64 1)) = .int .i64 1) (hx : ρ x = .string (ofL s)) (ha : 1 ≤ s.length) : (execOp ρ o).run Tryz.prog w = .ok (.value (.string (ofL (s.drop 1)))) w := run_subl (a := 1) ho hx hc ha
theorem itoa_c {n : Nat} {l : Bys} (h : Lib.decDigits n = l) : (⟨(Lib.itoa (n : Int)).toArray⟩ : ByteArray) = ofL l := by
 unfold Lib.itoa
 rw [if_neg (by omega), Int.toNat_natCast, h]; rfl
theorem itoa_calls {n : Nat} {z : Int} {l : Bys} (hz : z = n) (h : Lib.decDigits n = l) (hn : n ≤ 1000000) {w : World} (hT : Tb w) : Calls Tryz.prog 68 #[.int .i64 z] w fun e w' => e = .returned (.string (ofL l)) ∧ Fr (fun _ => False) w w' := by
 subst hz
 refine (Tryz.strconv_Itoa (n : Int) (by omega) (by omega) w hT.1).mono fun e w' h9 => ?_
 obtain ⟨h1, h2⟩ := h9
 rw [itoa_c h] at h1
 exact ⟨h1, Gw.fr h2⟩
theorem dec2_len (n : Nat) : (dec2 n).length = 2 := rfl
theorem decS_len (n : Nat) : (decS n).length ≤ 2 := by unfold decS; split <;> simp
set_option maxRecDepth 100000 in
set_option maxHeartbeats 4000000 in
theorem clocked_calls {m : Nat} (hm : m ≤ 1440) {w : World} (hT0 : Tb w) : Calls Tryz.prog 44 #[.int .i64 (m : Int)] w fun e w' => e = .returned (.string (ofL (clk (m : Int)))) ∧ Fr (fun _ => False) w w' := by
 refine wp_start1 Tryz.func44 rfl rfl (n := 15) (by decide) fun a E => ?_
 have hf : Fr (fun _ => False) w w := Fr.refl _ _
 have hT : Tb w := hT0
 refine s_ (r_ (ep (v := .string (ofL [])) E rfl (a_ rfl rfl) fun a E => n_ (t_ (s_ (r_ (ep E rfl (m_ rfl E.g1) fun a E => ep (v := .int .i64 ((m : Int) % 60)) E rfl (run_irem E.g0 rfl (by omega) (by omega) (by omega) (by omega) rfl) fun a E => ep (v := .int .i64 (100 + ((m : Int) % 60))) E rfl (run_iadd Tryz.underlying3 rfl E.g0 (by omega) (by omega) rfl) fun a E => ec_ (v := .string (ofL (49 :: dec2 (m % 60)))) E rfl (run_call1 (enters_of Tryz.func68 (by kernel_rfl) rfl) rfl rfl E.g0) (itoa_calls (z := (100 + ((m : Int) % 60))) (n := 100 + m % 60) (by omega) (dec3_eq (by omega)) (by omega) hT) fun a w1 f1 E => ?_))))))
 have hT := Tb.fr hT f1 (fun r hr => id)
 have hf := hf.trans' f1 (fun _ _ h => h.elim)
 clear f1
 refine ep E rfl (a_ rfl E.g0) fun a E => n_ (t_ (s_ (wp_region_invx (G := Unit) () (n := 15) (base := [(3, .string (ofL (49 :: dec2 (m % 60)))), (7, .string (ofL (49 :: dec2 (m % 60)))), (6, .int .i64 (100 + ((m : Int) % 60))), (5, .int .i64 ((m : Int) % 60)), (4, .int .i64 (m : Int)), (0, .int .i64 (m : Int))]) (U := [(2, .string (ofL []), 7)]) (T := fun γ => [some (8, .int .i64 (m : Int)), some (9, .int .i64 ((m : Int) / 60)), some (10, .string (ofL (decS (m / 60)))), some (11, .string (ofL ((decS (m / 60)) ++ [58]))), some (12, .string (ofL (49 :: dec2 (m % 60)))), some (13, .string (ofL (dec2 (m % 60)))), some (14, .string (ofL (((decS (m / 60)) ++ [58]) ++ (dec2 (m % 60))))), some (2, .string (ofL (((decS (m / 60)) ++ [58]) ++ (dec2 (m % 60)))))]) (M := fun γ ls9 wm => Fr (fun _ => False) w1 wm) (by kernel_rfl) (by kernel_rfl) (fun _ => by kernel_rfl) (E.of ⟨E.g0, E.g1, E.g2, E.g3, E.g4, E.g6, trivial⟩) (fun x hx => by simp only [List.mem_cons, List.not_mem_nil, or_false] at hx; subst hx; exact E.g5) (Fr.refl _ _).drew ?_ ?_)))
 ·intro j9 o9 γ ls9 a w5 ho hl E D DL DL2 hB hM
  have hT := Tb.fr hT hM (fun r hr => id)
  match j9, ho, hl, D, DL, hB with
  | 0, ho, hl, D, DL, hB => exact z0_ ho (valx rfl (m_ rfl E.g5) rfl hM)
  | 1, ho, hl, D, DL, hB => exact z0_ ho (valx rfl (run_iquo (D 0 _ rfl rfl) rfl (by omega) (by omega) (by omega) (by omega) rfl) rfl hM)
  | 2, ho, hl, D, DL, hB => exact z0_ ho (callx rfl (run_call1 (enters_of Tryz.func68 (by kernel_rfl) rfl) rfl rfl (D 1 _ rfl rfl)) (itoa_calls (z := ((m : Int) / 60)) (n := m / 60) (by omega) (decS_eq (by omega)) (by omega) hT) rfl fun w9 f1 => hM.trans' f1 (fun _ _ h => h.elim))
  | 3, ho, hl, D, DL, hB => exact z0_ ho (valx rfl (run_sadd (D 2 _ rfl rfl) rfl rfl (by simp only [List.length_append, List.length_cons, List.length_nil, dec2_len]; have := decS_len (n := m / 60); omega)) rfl hM)
  | 4, ho, hl, D, DL, hB => exact z0_ ho (valx rfl (m_ rfl E.g0) rfl hM)
  | 5, ho, hl, D, DL, hB => exact z0_ ho (valx rfl (run_from1 rfl rfl (D 4 _ rfl rfl) (by simp)) rfl hM)
  | 6, ho, hl, D, DL, hB => exact z0_ ho (valx rfl (run_sadd (D 3 _ rfl rfl) (D 5 _ rfl rfl) rfl (by simp only [List.length_append, List.length_cons, List.length_nil, dec2_len]; have := decS_len (n := m / 60); omega)) rfl hM)
  | 7, ho, hl, D, DL, hB => exact z0_ ho (valx rfl (a_ rfl (D 6 _ rfl rfl)) rfl hM)
  | j9 + 8, ho, hl, D, DL, hB => exact absurd ho (by simp)
 ·rintro _ a w5 E V hM
  have E := E.add (v := .string (ofL (((decS (m / 60)) ++ [58]) ++ (dec2 (m % 60))))) (V 7 _ rfl)
  clear V
  have hT := Tb.fr hT hM (fun r hr => id)
  have hf := hf.trans' hM (fun _ _ h => h.elim)
  clear hM
  refine t_ (wr_ ?_)
  have he : (decS (m / 60) ++ [58]) ++ dec2 (m % 60) = clk (m : Int) := by
   unfold clk
   rw [show ((m : Int) / 60).toNat = m / 60 by omega, show ((m : Int) % 60).toNat = m % 60 by omega, List.append_assoc]; rfl
  rw [he] at E
  exact ret_tmp (t := 2) rfl E E.g0 ⟨rfl, hf⟩
set_option maxRecDepth 100000 in
set_option maxHeartbeats 4000000 in
theorem pieces_calls {p : Option Addr} {n c : Nat} {w : World} : Calls Tryz.prog 42 #[.slice p n c] w fun e w' => ∃ b, e = .returned (.func (.func 66) #[] #[.pointer (some ⟨b, 0, none⟩)]) ∧ w'.heap[b]? = some (.cells #[.slice p n c] 22 (0, 0)) ∧ w.heap.size ≤ b ∧ Fr (fun _ => False) w w' := by
 refine wp_start1 Tryz.func42 rfl rfl (n := 4) (by decide) fun a E => ?_
 have hf : Fr (fun _ => False) w w := Fr.refl _ _
 refine s_ (r_ (env_new (d := 1) E rfl (by decide) rfl (wanted_none rfl _) (run_box22 rfl E.g0) fun a w1 b145 eb145 hb145 f1 E => ?_))
 have hnb145 : w.heap.size ≤ b145 := by have := hf.size; omega
 have hf := hf.trans' f1 (fun _ _ h => h.elim)
 clear f1
 refine ep (v := Value.nilFunc) E rfl (a_ rfl rfl) fun a E => n_ (t_ (s_ (r_ (ep (v := .func (.func 66) #[] #[.pointer (some ⟨b145, 0, none⟩)]) E rfl (run_mkfn rfl E.g1) fun a E => es_ E rfl (a_ rfl E.g0) fun a E => n_ (t_ (wr_ (ret_tmp (t := 2) rfl E E.g0 ⟨_, rfl, hb145, hnb145, hf⟩)))))))
end Go.Proofs.YtjaffpnegdcjnaaGreatDoor
/- The pieces of spans: the iterator. -/
set_option linter.unusedVariables false
set_option linter.unusedSimpArgs false
namespace Go.Proofs.YtjaffpnegdcjnaaGreatDoor
open Go.RowKit Go.Pl
/-- An iterator whose own memory lives across rounds: the rounds write to blocks of H alone, and to new ones. -/
def IterOf3 (P : Program) (gf : Nat) (lb : Array Value) (vs : List (Array Value)) (Kp : World → Prop) : Prop :=
 ∀ (l : Nat) (J : Nat → (Nat → Prop) → World → Prop) (S : World → Prop) (W0 : World), (∀ k H W W' (F : Nat → Prop), J k H W' → Fr F W' W → (∀ b, F b → W0.heap.size ≤ b ∧ ¬ H b) → J k H W) → (∀ W W', S W → Fr (fun _ => False) W W' → S W') → (∀ k H W, J k H W → Kp W ∧ ∀ b, H b → b < W.heap.size) →
  (∀ k H v W, J k H W → vs[k]? = some v → RoundOf P l v W (fun W' => ∃ H', J (k + 1) H' W' ∧ (∀ b, H' b → H b ∨ W.heap.size ≤ b) ∧ Fr H W W') S) → (∃ H, J 0 H W0) →
  Calls P gf (#[.func (.yield l) #[] #[]] ++ lb) W0 fun e W' => (∃ v, e = .returned v) ∧ ((∃ H, J vs.length H W') ∨ S W')
section
variable {P : Program} {Q : Exit → Act → World → Prop} {a : Act} {w : World}
theorem wp_rangeF3 {g : Operand} {ps : Array Tmp} {assign body : Code} {gf : Nat} {lb : Array Value} {vs : List (Array Value)} {Kp : World → Prop}
  (I : Nat → (Nat → Prop) → World → Prop) (St : World → Prop) (A : Array Value → Act → World → Prop)
  (hg : a.eval g = .func (.func gf) #[] lb) (eg : ∀ args w, (callFunc gf args).run P w = .ok (.enter gf args) w)
  (hY : IterOf3 P gf lb vs Kp) (hps : ∀ v ∈ vs, v.size = ps.size)
  (hI : ∀ k H W W' (F : Nat → Prop), I k H W' → Fr F W' W → (∀ b, F b → w.heap.size ≤ b ∧ ¬ H b) → I k H W) (hS : ∀ W W', St W → Fr (fun b => b = w.heap.size ∨ b = w.heap.size + 1) W W' → St W') (hK : ∀ k H W, I k H W → Kp W ∧ ∀ b, H b → b < W.heap.size ∧ b ≠ w.heap.size ∧ b ≠ w.heap.size + 1) (h0 : ∀ W, Fr (fun _ => False) w W → w.heap.size + 2 ≤ W.heap.size → ∃ H, I 0 H W)
  (hAf : ∀ v a1 W W', A v a1 W → Fr (fun b => b = w.heap.size ∨ b = w.heap.size + 1) W W' → A v a1 W')
  (hassign : ∀ (l : Nat) (v : Array Value) (W : World) (K : Act → World → Prop), v ∈ vs → w.heap.size + 2 ≤ W.heap.size → (∀ a1 W1, A v a1 W1 → Fr (fun _ => False) W W1 → K a1 W1) → assign.wpIn (FR l) 0 P (Exit.then K (fun _ _ _ => False)) { tmps := (ps.zip v).foldl (fun t (p, v) => t.setIfInBounds p v) a.tmps, defers := [] } W)
  (hbody : ∀ (k : Nat) (H : Nat → Prop) (v : Array Value) (a1 : Act) (W : World), vs[k]? = some v → I k H W → A v a1 W → w.heap.size + 2 ≤ W.heap.size → (∃ r, W.heap[w.heap.size + 1]? = some (.loop r)) →
   body.wpIn (FR (w.heap.size + 1)) 0 P (rndP (fun W' => (∃ H', I (k + 1) H' W' ∧ (∀ b, H' b → H b ∨ W.heap.size ≤ b) ∧ Fr H W W') ∧ W'.heap[w.heap.size]? = W.heap[w.heap.size]? ∧ W'.heap[w.heap.size + 1]? = W.heap[w.heap.size + 1]?) (fun W' => St W' ∧ W'.heap[w.heap.size]? = W.heap[w.heap.size]? ∧ W'.heap[w.heap.size + 1]? = W.heap[w.heap.size + 1]?)) a1 W)
  (hdone : ∀ H W, I vs.length H W → W.heap[w.heap.size]? = some (.deferred (some [])) → Q .normal { a with defers := { target := .collected w.heap.size, args := #[] } :: a.defers } W)
  (hstop : ∀ W, St W → W.heap[w.heap.size]? = some (.deferred (some [])) → Q .ret { a with defers := { target := .collected w.heap.size, args := #[] } :: a.defers } W) :
  (Code.rangeFunc g ps assign body).wp P Q a w := by
 have hI0 : ∀ k H W W', I k H W → Fr (fun _ => False) W W' → I k H W' := fun k H W W' h f => hI k H W' W _ h f fun _ e => e.elim
 have hIp : ∀ k H W o, I k H W → I k H (W.putObj (w.heap.size + 1) o) := fun k H W o h => hI k H _ W (fun b => b = w.heap.size + 1) h (Fr.putObj W _ o) fun b e => ⟨by omega, fun hH => ((hK k H W h).2 b hH).2.2 e⟩
 refine (wpIn_wide (n := 0)).1 (wpIn_rangeFunc ?_)
 intro fn hfn
 obtain ⟨rec, hrec⟩ : ∃ rec : LoopState → Option Code → Loop, rec = fun st pe => { state := st, pending := pe, fn, tmps := a.tmps, params := ps, assign, body, defers := w.heap.size } := ⟨_, rfl⟩
 obtain ⟨W1, hW1⟩ : ∃ W1, (w.alloc (.deferred (some []))).alloc (.loop (rec .ready none)) = W1 := ⟨_, rfl⟩
 have hL1 : W1.heap[w.heap.size + 1]? = some (.loop (rec .ready none)) := by
  rw [← hW1]; exact blk_alloc_at (by simp) _
 have hK1 : W1.heap[w.heap.size]? = some (.deferred (some [])) := by
  rw [← hW1]; exact (blk_alloc (by simp) _).trans (blk_alloc_new _ _)
 have hf1 : Fr (fun _ => False) w W1 := by rw [← hW1]; exact ((Fr.refl _ _).alloc _).alloc _
 have hsz1 : w.heap.size + 2 ≤ W1.heap.size := by have := lt_of_blk hL1; omega
 refine ⟨w.heap.size + 1, [{ target := .collected w.heap.size, args := #[] }], W1, { target := .fn (.func gf) lb, args := #[.func (.yield (w.heap.size + 1)) #[] #[]] }, W1, gf,
  #[.func (.yield (w.heap.size + 1)) #[] #[]] ++ lb, W1, ?_, ?_, fun _ _ => trivial, ?_, fun h => (by cases h), ?_⟩
 ·rw [← hW1, hrec]; exact run_enterLoop_outer _ _ _ _ _
 ·simp only [resolve, hg]
  simp [go_sem]
 ·simp [invoke, go_sem, eg]
 ·obtain ⟨H0, hI9⟩ := h0 _ hf1 hsz1
  refine callsIn_wide.2 ((hY (w.heap.size + 1) (fun k H W => (∃ G, I k G W ∧ H = fun b => G b ∨ b = w.heap.size + 1) ∧ W.heap[w.heap.size + 1]? = some (.loop (rec .ready none)) ∧ W.heap[w.heap.size]? = some (.deferred (some [])) ∧ w.heap.size + 2 ≤ W.heap.size)
   (fun W => St W ∧ W.heap[w.heap.size + 1]? = some (.loop (rec .done (some .ret))) ∧ W.heap[w.heap.size]? = some (.deferred (some []))) W1
   (fun k H W W' F hh f hF => ⟨hh.1.imp fun G hG => ⟨hI k G W W' F hG.1 f fun b hb => ⟨by have := (hF b hb).1; omega, fun hG2 => (hF b hb).2 (by rw [hG.2]; exact .inl hG2)⟩, hG.2⟩, f.obj hh.2.1 (fun hb => by have := (hF _ hb).1; omega), f.obj hh.2.2.1 (fun hb => by have := (hF _ hb).1; omega), Nat.le_trans hh.2.2.2 f.size⟩) (fun W W' h f => ⟨hS W W' h.1 (f.mono fun _ _ h => h.elim), f.obj h.2.1 id, f.obj h.2.2 id⟩) (fun k H W hh => by
    obtain ⟨⟨G, hG, rfl⟩, _, _, hs⟩ := hh
    exact ⟨(hK k G W hG).1, fun b hb => hb.elim (fun h => ((hK k G W hG).2 b h).1) fun h => by omega⟩) ?_ ⟨_, ⟨H0, hI9, rfl⟩, hL1, hK1, hsz1⟩).mono ?_)
  ·rintro k H v W ⟨⟨G, hi, rfl⟩, hl, hk, hhW⟩ hv
   have hvm : v ∈ vs := List.mem_of_getElem? hv
   have hlt := lt_of_blk hl
   have hy := run_yield (P := P) (args := v) hl (by rw [hrec]; exact hps v hvm)
   rw [hrec] at hy
   refine ⟨0, fn, _, assign, body, hy, roundIn_of_wpIn hfn (hassign _ v W _ hvm (by omega) ?_)⟩
   clear hy
   intro a1 W1 hA hfa
   have hGb := (hK _ _ _ hi).2
   replace hi := hI0 _ _ _ _ hi hfa
   replace hl := hfa.obj hl id
   replace hk := hfa.obj hk id
   have hlt := lt_of_blk hl
   refine ⟨_, run_beginRound hl (by rw [hrec]), ?_⟩
   have f2 := Fr.putObj W1 (w.heap.size + 1) (.loop { rec .ready none with state := .busy })
   have hl2 : (W1.putObj (w.heap.size + 1) (.loop { rec .ready none with state := .busy })).heap[w.heap.size + 1]? = some (.loop { rec .ready none with state := .busy }) := World.putObj_heap_same hlt
   have hk2 := f2.obj hk (by omega)
   have hs1 := hfa.size
   have hs2 := f2.size
   have f02 : Fr (fun b => G b ∨ b = w.heap.size + 1) W (W1.putObj (w.heap.size + 1) (.loop { rec .ready none with state := .busy })) := (hfa.mono (G := fun b => G b ∨ b = w.heap.size + 1) fun _ _ h => h.elim).trans' f2 fun r _ e => .inr e
   refine wpIn_mono (hbody k G v a1 _ hv (hIp _ _ _ _ hi) (hAf _ _ _ _ hA (f2.mono fun _ _ h => .inr h)) (Nat.le_trans hhW (Nat.le_trans hs1 hs2)) ⟨_, hl2⟩) ?_
   rintro e a3 W3 hp
   cases e with
   | normal =>
    obtain ⟨⟨G', hi3, hh3, f3⟩, h3, h4⟩ := hp
    rw [hl2] at h4
    rw [hk2] at h3
    have hr := run_endRound (P := P) none h4
    have hs3 := f3.size
    refine ⟨_, _, hr, .inl ⟨rfl, ⟨_, ⟨⟨G', hIp _ _ _ _ hi3, rfl⟩, ?_, (World.putObj_heap_other (by omega)).trans h3, Nat.le_trans hhW (Nat.le_trans hs1 (Nat.le_trans hs2 (Nat.le_trans hs3 (Fr.putObj W3 _ _).size)))⟩, fun b hb => ?_, (f02.trans' f3 fun r _ e => .inl e).trans' (Fr.putObj _ _ _) fun r _ e => .inr e⟩⟩⟩
    ·refine (World.putObj_heap_same (lt_of_blk h4)).trans ?_
     rw [hrec]; rfl
    ·rcases hb with hb | hb
     ·rcases hh3 b hb with h | h
      ·exact .inl (.inl h)
      ·exact .inr (Nat.le_trans hs1 (Nat.le_trans hs2 h))
     ·exact .inl (.inr hb)
   | ret =>
    obtain ⟨hi3, h3, h4⟩ := hp
    rw [hl2] at h4
    rw [hk2] at h3
    have hr := run_endRound (P := P) (some .ret) h4
    refine ⟨_, _, hr, .inr ⟨rfl, hS _ _ hi3 ((Fr.putObj _ _ _).mono fun _ _ h => .inr h), ?_, (World.putObj_heap_other (by omega)).trans h3⟩⟩
    refine (World.putObj_heap_same (lt_of_blk h4)).trans ?_
    rw [hrec]; rfl
   | exit id => exact hp.elim
   | goto t => exact hp.elim
   | panic ch => exact hp.elim
   | outgrown => exact hp.elim
  ·rintro e W2 ⟨⟨v, rfl⟩, ⟨H, ⟨G, hi, _⟩, hl, hk, _⟩ | ⟨hi, hl, hk⟩⟩
   ·refine ⟨none, _, by have := run_endLoop (P := P) hl (by rw [hrec]; simp); rw [hrec] at this; exact this, hdone G _ (hIp _ _ _ _ hi) ((World.putObj_heap_other (by omega)).trans hk)⟩
   ·refine ⟨some .ret, _, by have := run_endLoop (P := P) hl (by rw [hrec]; simp); rw [hrec] at this; exact this, ?_⟩
    exact wpIn_ret (hstop _ (hS _ _ hi ((Fr.putObj _ _ _).mono fun _ _ h => .inr h)) ((World.putObj_heap_other (by omega)).trans hk))
end
def pcv (L : List Sp) : List (Array Value) := (L.flatMap pcs).map fun p => #[.int .i64 p.1, .agg (spA (p.2.1, p.2.2))]
def msr (w : World) (b : Nat) : Nat := match w.cell? ⟨b, 0, none⟩, w.cell? ⟨b, 1, none⟩ with | some (.int _ f), some (.int _ t) => (t - f).toNat | _, _ => 0
theorem msr_eq {w : World} {b : Nat} {f t : Int} (h : w.heap[b]? = some (.cells #[.int .i64 f, .int .i64 t] 48 (0, 0))) : msr w b = (t - f).toNat := by
 have h0 : w.cell? ⟨b, 0, none⟩ = some (.int .i64 f) := bx h 0 rfl
 have h1 : w.cell? ⟨b, 1, none⟩ = some (.int .i64 t) := bx h 1 rfl
 unfold msr; rw [h0, h1]
theorem pcs_at {L : List Sp} {q : Nat} {p : Int × Int × Int} {r : List (Int × Int × Int)} (h : (L.flatMap pcs).drop q = p :: r) : (pcv L)[q]? = some #[.int .i64 p.1, .agg (spA (p.2.1, p.2.2))] ∧ (L.flatMap pcs).drop (q + 1) = r ∧ q + 1 ≤ (L.flatMap pcs).length := by
 have h1 : (L.flatMap pcs)[q]? = some p := by
  have := congrArg (fun l => l[0]?) h
  simpa using this
 refine ⟨by unfold pcv; rw [List.getElem?_map, h1]; rfl, ?_⟩
 have h2 := congrArg (List.drop 1) h
 exact ⟨by simpa [List.drop_drop] using h2, (List.getElem?_eq_some_iff.1 h1).1⟩
theorem pcsF_step {n : Nat} {f t : Int} (hlt : f < t) (h0 : 0 ≤ f) (h1 : t ≤ 10080) (hn : 10080 - f / 1440 * 1440 ≤ 1440 * n) : ∃ m, n = m + 1 ∧ pcsF n f t = (f / 1440, f - f / 1440 * 1440, min t ((f / 1440 + 1) * 1440) - f / 1440 * 1440) :: pcsF m (min t ((f / 1440 + 1) * 1440)) t ∧ (f < min t ((f / 1440 + 1) * 1440)) ∧ 0 ≤ min t ((f / 1440 + 1) * 1440) ∧ (min t ((f / 1440 + 1) * 1440) < t → 10080 - min t ((f / 1440 + 1) * 1440) / 1440 * 1440 ≤ 1440 * m) := by
 cases n with
 | zero => omega
 | succ m =>
  refine ⟨m, rfl, ?_, by omega, by omega, fun h => by omega⟩
  show (if f < t then _ else _) = _
  rw [if_pos hlt]
theorem pcsF_nil {n : Nat} {f t : Int} (h : ¬ f < t) : pcsF n f t = [] := by
 cases n with
 | zero => rfl
 | succ n => show (if f < t then _ else _) = _; rw [if_neg h]
set_option maxRecDepth 100000 in
set_option maxHeartbeats 4000000 in
theorem pieces_yields {c1 G cap : Nat} {p : Option Addr} {L : List Sp} (hl : L.length ≤ 400000000) (hwk : wk L) : IterOf3 Tryz.prog 66 #[.pointer (some ⟨c1, 0, none⟩)] (pcv L) (ValK c1 G p cap L) := by
 intro l J S w hJF hSF hKp hround ⟨H0, hJ⟩
 refine wp_start2 Tryz.func66 rfl rfl (n := 44) (by decide) fun a E => ?_
 obtain ⟨hc1, hsp, hG⟩ := (hKp _ _ _ hJ).1
 have hcl := lt_of_blk hc1
 refine s_ (r_ (ep (v := .slice (p) L.length cap) E rfl (run_ld22 rfl E.g1 (bx hc1 0 rfl)) fun a E => ep (v := .int .i64 (L.length : Int)) E rfl (run_len22 rfl E.g0) fun a E => ep (v := .int .i64 0) E rfl (m_ rfl rfl) fun a E => n_ (t_ (bk_ (wp_loop (fun a w2 => ∃ (k : Nat) (q : Nat) (H : Nat → Prop), Env 44 [(0, .func (.yield l) #[] #[]), (1, .pointer (some ⟨c1, 0, none⟩)), (7, .slice (p) L.length cap), (8, .int .i64 (L.length : Int)), (9, .int .i64 (k : Int))] a ∧ k ≤ L.length ∧ J q H w2 ∧ (L.flatMap pcs).drop q = (L.drop k).flatMap pcs ∧ w.heap.size ≤ w2.heap.size ∧ q ≤ (L.flatMap pcs).length) (fun a _ => L.length - (intOf (a.eval (.tmp 9))).toNat) ?_ ?_)))))
 ·exact ⟨0, 0, H0, E.of ⟨E.g3, E.g4, E.g2, E.g1, E.g0, trivial⟩, Nat.zero_le _, hJ, rfl, Nat.le_refl _, Nat.zero_le _⟩
 clear E
 rintro a w2 ⟨k, q, H, E, hk, hJ, hq, hsz, hql⟩
 have hmu : L.length - (intOf (a.eval (.tmp 9))).toNat = L.length - k := by rw [E.g4]; first | rfl | (simp [intOf]; done) | (simp only [intOf]; omega)
 rw [hmu]
 clear hmu
 have hf : Fr (fun _ => False) w2 w2 := Fr.refl _ _
 obtain ⟨⟨hc1, hsp, hG⟩, hHb⟩ := hKp _ _ _ hJ
 refine s_ (r_ (ep (v := .bool (decide ((k : Int) < (L.length : Int)))) E rfl (run_ilss E.g4 E.g3 Tryz.underlying3 rfl) fun a E => n_ (t_ (s_ ?_))))
 cases hq147 : (decide ((k : Int) < (L.length : Int))) with
 | false =>
  rw [hq147] at E
  have hie : k = L.length := by have := of_decide_eq_false hq147; omega
  refine c_f E.g0 (x_ (te_ (te_ (be_ ((ret_nil rfl E ⟨⟨_, rfl⟩, .inl ?_⟩).1)))))
  have hq9 : q = (L.flatMap pcs).length ∨ (L.flatMap pcs).length < q := by
   have h9 := congrArg List.length hq
   rw [hie, List.drop_length] at h9
   simp only [List.length_drop, List.flatMap_nil, List.length_nil] at h9
   omega
  unfold pcv; rw [List.length_map]
  exact ⟨_, (hq9.resolve_right (by omega)) ▸ hJ⟩
 | true =>
  rw [hq147] at E
  have hlt : k < L.length := by have := of_decide_eq_true hq147; omega
  obtain ⟨y, hy⟩ : ∃ y, L[k]? = some y := ⟨_, List.getElem?_eq_getElem hlt⟩
  obtain ⟨g148, off148, hpe148, hgl148, hrow148⟩ := hsp.at hlt
  replace hrow148 := hrow148 k y hy
  refine c_t E.g0 (k_ (t_ (s_ (bk_ (s_ (r_ (ep (v := .pointer (some ⟨g148, (off148 + k * 2), none⟩)) E rfl (run_index22 (i := k) rfl (E.g3.trans (by rw [hpe148])) E.g5 hlt) fun a E => ep (v := .agg (spA y)) E rfl (run_ld48 rfl E.g0 hrow148) fun a E => env_new (d := 4) E rfl (by decide) rfl (wanted_none rfl _) (run_alloc48 rfl) fun a w1 b149 eb149 hb149 f1 E => ?_)))))))
  have hnb149 : w2.heap.size ≤ b149 := by have := hf.size; omega
  have hlc1b149 : c1 < b149 := by have := lt_of_blk hc1; omega
  have hsp := srcAt.fr hsp f1 (fun r hr => id)
  have hc1 := f1.obj hc1 id
  have hsz := Nat.le_trans hsz f1.size
  have hrow148 := fun j u hu => f1.cell (hrow148 j u hu) id
  have hf := hf.trans' f1 (fun _ _ h => h.elim)
  clear f1
  refine env_st48 E rfl (wanted_none rfl _) rfl E.g0 E.g1 hb149 fun w1 hb149n f1 E => ?_
  have hsp := srcAt.fr hsp f1 (fun _ hr => nq_)
  have hc1 := f1.obj hc1 nq_
  have hsz := Nat.le_trans hsz f1.size
  have hrow148 := fun j u hu => f1.cell (hrow148 j u hu) nq_
  have hf := hf.trans' f1 (fun _ hr => nq_)
  clear f1
  replace hb149 := hb149n
  refine n_ (t_ (bk_ ?_))
  have hJ4 := hJF _ _ _ _ _ hJ hf (fun _ e => e.elim)
  have hHn : ∀ b, H b → b ≠ b149 := fun b hb => by have := hHb b hb; omega
  have hb4s : w.heap.size ≤ b149 := by omega
  have hy2 := hwk y (List.mem_of_getElem? hy)
  have hq0 : (L.flatMap pcs).drop q = pcsF 8 y.1 y.2 ++ (L.drop (k + 1)).flatMap pcs := by
   rw [hq, List.drop_eq_getElem_cons hlt, show L[k] = y from Option.some.inj ((List.getElem?_eq_getElem hlt).symm.trans hy)]; rfl
  refine wp_loop (fun a w2 => ∃ (f : Int) (n q : Nat) (H : Nat → Prop), Env 44 [(0, .func (.yield l) #[] #[]), (1, .pointer (some ⟨c1, 0, none⟩)), (7, .slice (p) L.length cap), (8, .int .i64 (L.length : Int)), (9, .int .i64 (k : Int)), (4, .pointer (some ⟨b149, 0, none⟩))] a ∧ w2.heap[b149]? = some (.cells #[.int .i64 f, .int .i64 y.2] 48 (0, 0)) ∧ J q H w2 ∧ (∀ b, H b → b ≠ b149) ∧ (L.flatMap pcs).drop q = pcsF n f y.2 ++ (L.drop (k + 1)).flatMap pcs ∧ 0 ≤ f ∧ (f < y.2 → 10080 - f / 1440 * 1440 ≤ 1440 * n) ∧ w.heap.size ≤ w2.heap.size ∧ q ≤ (L.flatMap pcs).length) (fun a w2 => msr w2 b149) ?_ ?_
  ·exact ⟨y.1, 8, q, H, E.of ⟨E.g4, E.g5, E.g6, E.g7, E.g8, E.g0, trivial⟩, hb149, hJ4, hHn, hq0, by omega, fun _ => by omega, hsz, hql⟩
  clear E
  rintro a w2 ⟨f, n, q, H, E, hb149, hJ, hHn, hq, hf0, hfn, hsz, hql⟩
  rw [msr_eq hb149]
  refine s_ (s_ (r_ (ep (v := .pointer (some ⟨b149, 0, none⟩)) E rfl (fa48_0 rfl E.g5) fun a E => ep (v := .int .i64 f) E rfl (run_ldi rfl E.g0 (bx hb149 0 rfl)) fun a E => ep (v := .pointer (some ⟨b149, 1, none⟩)) E rfl (fa48_1 rfl E.g7) fun a E => ep (v := .int .i64 y.2) E rfl (run_ldi rfl E.g0 (bx hb149 1 rfl)) fun a E => ep (v := .bool (decide (f < y.2))) E rfl (run_ilss E.g2 E.g0 Tryz.underlying3 rfl) fun a E => n_ (t_ ?_))))
  cases hq150 : (decide (f < y.2)) with
  | false =>
   rw [hq150] at E
   refine c_f E.g0 (x_ (te_ (te_ (be_ (b_ (t_ (r_ (ep (v := .int .i64 ((k : Int) + 1)) E rfl (run_iadd Tryz.underlying3 E.g9 rfl (by omega) (by omega) rfl) fun a E => es_ E rfl (m_ rfl E.g0) fun a E => n_ (t_ ?_)))))))))
   refine ⟨⟨k + 1, q, H, E.of ⟨E.g7, E.g8, E.g9, E.g10, E.g0, trivial⟩, hlt, hJ, ?_, hsz, hql⟩, ?_⟩
   ·rw [hq, pcsF_nil (of_decide_eq_false hq150)]; rfl
   ·rw [E.g0]; simp only [intOf]; omega
  | true =>
   rw [hq150] at E
   have hft : f < y.2 := of_decide_eq_true hq150
   obtain ⟨m9, hnm, hpc, hmm1, hmm3, hmm4⟩ := pcsF_step hft hf0 (by omega) (hfn hft)
   rw [hpc, List.cons_append] at hq
   obtain ⟨hv9, hq9, hql9⟩ := pcs_at hq
   refine c_t E.g0 (k_ (t_ (bk_ (s_ (r_ (ep (v := .pointer (some ⟨b149, 0, none⟩)) E rfl (fa48_0 rfl E.g10) fun a E => ep (v := .int .i64 f) E rfl (run_ldi rfl E.g0 (bx hb149 0 rfl)) fun a E => ep (v := .int .i64 (f / 1440)) E rfl (run_iquo E.g0 rfl (by omega) (by omega) (by omega) (by omega) rfl) fun a E => ep E rfl (a_ rfl E.g0) fun a E => n_ (t_ (s_ (r_ (ep (v := .pointer (some ⟨b149, 1, none⟩)) E rfl (fa48_1 rfl E.g14) fun a E => ep (v := .int .i64 y.2) E rfl (run_ldi rfl E.g0 (bx hb149 1 rfl)) fun a E => ep E rfl (m_ rfl E.g2) fun a E => ep (v := .int .i64 ((f / 1440) + 1)) E rfl (run_iadd Tryz.underlying3 E.g0 rfl (by omega) (by omega) rfl) fun a E => ep (v := .int .i64 (((f / 1440) + 1) * 1440)) E rfl (run_imul Tryz.underlying3 E.g0 rfl (by omega) (by omega) rfl) fun a E => ep (v := .int .i64 (min y.2 (((f / 1440) + 1) * 1440))) E rfl (run_min rfl E.g3 E.g0) fun a E => ep E rfl (a_ rfl E.g0) fun a E => n_ (t_ (s_ (s_ (envI_region (envI_put (d := 27) (v := .func (.yield l) #[] #[]) E rfl (by decide) rfl (wanted_none rfl _) (m_ rfl E.g16) fun a E => envI_put (d := 28) (v := .int .i64 (f / 1440)) E rfl (by decide) rfl (wanted_none rfl _) (m_ rfl E.g8) fun a E => envI_put (d := 29) (v := .pointer (some ⟨b149, 0, none⟩)) E rfl (by decide) rfl (wanted_none rfl _) (fa48_0 rfl E.g23) fun a E => envI_put (d := 30) (v := .int .i64 f) E rfl (by decide) rfl (wanted_none rfl _) (run_ldi rfl E.g0 (bx hb149 0 rfl)) fun a E => envI_put (d := 31) (v := .int .i64 (f / 1440)) E rfl (by decide) rfl (wanted_none rfl _) (m_ rfl E.g11) fun a E => envI_put (d := 32) (v := .int .i64 ((f / 1440) * 1440)) E rfl (by decide) rfl (wanted_none rfl _) (run_imul Tryz.underlying3 E.g0 rfl (by omega) (by omega) rfl) fun a E => envI_put (d := 33) (v := .int .i64 (f - ((f / 1440) * 1440))) E rfl (by decide) rfl (wanted_none rfl _) (run_isub Tryz.underlying3 E.g2 E.g0 (by omega) (by omega) rfl) fun a E => envI_put (d := 34) (v := .int .i64 (min y.2 (((f / 1440) + 1) * 1440))) E rfl (by decide) rfl (wanted_none rfl _) (m_ rfl E.g7) fun a E => envI_put (d := 35) (v := .int .i64 (f / 1440)) E rfl (by decide) rfl (wanted_none rfl _) (m_ rfl E.g15) fun a E => envI_put (d := 36) (v := .int .i64 ((f / 1440) * 1440)) E rfl (by decide) rfl (wanted_none rfl _) (run_imul Tryz.underlying3 E.g0 rfl (by omega) (by omega) rfl) fun a E => envI_put (d := 37) (v := .int .i64 ((min y.2 (((f / 1440) + 1) * 1440)) - ((f / 1440) * 1440))) E rfl (by decide) rfl (wanted_none rfl _) (run_isub Tryz.underlying3 E.g2 E.g0 (by omega) (by omega) rfl) fun a E => envI_put (d := 38) (v := .agg (spA ((f - ((f / 1440) * 1440)), ((min y.2 (((f / 1440) + 1) * 1440)) - ((f / 1440) * 1440))))) E rfl (by decide) rfl (wanted_none rfl _) (run_of48 rfl E.g4 E.g0) fun a E => envI_yield2 (d := 39) E rfl (by decide) rfl (wanted_none rfl _) rfl E.g11 E.g10 E.g0 (hround q H _ _ hJ hv9) fun a w3 bb hbb E => envI_put (d := 40) (v := .bool (!bb)) E rfl (by decide) rfl (wanted_none rfl _) (run_not rfl E.g0) fun a E => envI_nil (t_ ?_))))))))))))))))
   cases hq151 : bb with
   | false =>
    rw [hq151] at E
    have hS : S w3 := hbb.elim (fun h9 => by rw [hq151] at h9; cases h9.1) (fun h9 => h9.2)
    refine c_t E.g0 (wr_ (tr_ (br_ (tr_ (br_ (br_ (tr_ (tr_ (br_ ((ret_nil rfl E ⟨⟨_, rfl⟩, .inr hS⟩).2))))))))))
   | true =>
    rw [hq151] at E
    obtain ⟨H9, hJ9, hH9, fy⟩ : ∃ H9, J (q + 1) H9 w3 ∧ (∀ b, H9 b → H b ∨ w2.heap.size ≤ b) ∧ Fr H w2 w3 := hbb.elim (fun h9 => h9.2) (fun h9 => by rw [hq151] at h9; cases h9.1)
    refine c_f E.g0 (k_ (t_ ?_))
    have hl4 := lt_of_blk hb149
    have hb149 := fy.obj hb149 (fun e => hHn _ e rfl)
    have hHn9 : ∀ b, H9 b → b ≠ b149 := fun b hb9 e => by subst e; rcases hH9 _ hb9 with h9 | h9; exact hHn _ h9 rfl; omega
    have hsz := Nat.le_trans hsz fy.size
    refine r_ (ep E rfl (m_ rfl E.g14) fun a E => ep (v := .pointer (some ⟨b149, 0, none⟩)) E rfl (fa48_0 rfl E.g36) fun a E => env_st1 (j := 0) E rfl (wanted_none rfl _) hb149 (run_st3 rfl E.g0 E.g1 (bx hb149 0 rfl) (free_of_blk hb149 0)) fun w1 hb149n f1 E => ?_)
    replace hb149n : w1.heap[b149]? = some (.cells #[.int .i64 (min y.2 (((f / 1440) + 1) * 1440)), .int .i64 y.2] 48 (0, 0)) := hb149n
    have hsz := Nat.le_trans hsz f1.size
    have hJ9 := hJF _ _ _ _ _ hJ9 f1 (fun b e => ⟨by (try simp only at e); omega, fun e9 => hHn9 b e9 (by (try simp only at e); omega)⟩)
    clear f1
    replace hb149 := hb149n
    refine n_ (b_ (t_ ?_))
    refine ⟨⟨_, m9, q + 1, H9, E.of ⟨E.g32, E.g33, E.g34, E.g35, E.g36, E.g37, trivial⟩, hb149, hJ9, hHn9, hq9, hmm3, hmm4, hsz, hql9⟩, ?_⟩
    rw [msr_eq hb149]; omega
end Go.Proofs.YtjaffpnegdcjnaaGreatDoor
/- Text. -/
set_option linter.unusedVariables false
set_option linter.unusedSimpArgs false
namespace Go.Proofs.YtjaffpnegdcjnaaGreatDoor
open Go.RowKit Go.Pl
theorem appR {α : Type} {f : α → List Value} {c : Nat} {E T : TypeId} {bytes : Nat} {z : Value} (hf : ∀ x, (f x).length = c) (hc : 0 < c) (h1 : ∀ x, ∀ u ∈ f x, u.oneCell' = true) (hT : Tryz.prog.underlying T = some (.slice E)) (hinf : (Tryz.prog.info? E).map (fun i => (i.zero, i.size, i.bytes)) = some (some z, c, bytes)) (hzs : z.cells.size = c) (hby : bytes ≤ 64)
  {o : Oper} {ρ : Operand → Value} {x y : Operand} {w : World} {B G : Nat} {v : Value} {A S : List α} {p : Option Addr} {cap : Nat} (ho : o.op = .call { callee := .builtin .append, args := #[x, y], argTypes := #[T, T] }) (hx : ρ x = v) (hy : ρ y = .slice p S.length cap) (hv : ow f c E w B v A) (hsrc : srcAt f c w G p S) (hcp : p = none → cap = 0) (hl : A.length + S.length ≤ 400000000) (hB : B ≤ w.heap.size) :
  ∃ v' w', (execOp ρ o).run Tryz.prog w = .ok (.value v') w' ∧ ow f c E w' B v' (A ++ S) ∧ Fr (fun k => v.ownBlock = some k) w w' ∧ (v'.ownBlock = v.ownBlock ∨ v'.ownBlock = some w.heap.size) := by
 obtain ⟨i, hi, hz, hs, hb⟩ := info_parts4 hinf
 rcases p with _ | ad
 ·have hS : S = [] := by
   rcases hsrc with h | ⟨g, off, h, _⟩
   ·exact h
   ·cases h
  subst hS
  obtain rfl := hcp rfl
  refine ⟨v, w, ?_, by rw [List.append_nil]; exact hv, Fr.refl _ _, .inl rfl⟩
  have hrun := run_append_owned_none (P := Tryz.prog) (w := w) B T o.type E i c hT hi v A.length _ hv
  simp [execOp, ho, resolve, invoke, builtin, hx, hy, hrun, Result.andThen]
 ·obtain ⟨v', w', c0, c1, c2, _, c4⟩ := run_append_own_at (P := Tryz.prog) (w := w) B T o.type E i z c bytes hT hi hz hs hb hzs hc v A.length _ hv ad S.length cap (S.flatMap f) (flat_len hf S) (fun j u hu => by
   have hj := (List.getElem?_eq_some_iff.1 hu).1
   rw [flat_len hf] at hj
   rcases hsrc with rfl | ⟨g, off, h2, _, h3⟩
   ·simp at hj
   ·obtain rfl := Option.some.inj h2
    have hm : j % c < c := Nat.mod_lt _ hc
    have hdv : j / c < S.length := (Nat.div_lt_iff_lt_mul hc).2 hj
    have e : j / c * c + j % c = j := by rw [Nat.mul_comm]; exact Nat.div_add_mod j c
    obtain ⟨s, hs⟩ : ∃ s, S[j / c]? = some s := ⟨_, List.getElem?_eq_getElem hdv⟩
    have hfl := flat_at hf S (j / c) s hs (j % c) hm
    rw [e, hu] at hfl
    have := h3 _ s hs (j % c) u hfl.symm
    rw [Addr.add_mid, ← e, ← Nat.add_assoc]; exact this) (fun u hu => by
   obtain ⟨s, _, hs⟩ := List.mem_flatMap.1 hu
   exact h1 s u hs) (by unfold maxLen; omega) (by have := Nat.mul_le_mul (Nat.le_refl (A.length + S.length)) hby; omega) hB
  refine ⟨v', w', ?_, ?_, (Fr.refl _ _).grown c2 fun k hk _ => hk, c4⟩
  ·unfold execOp
   simp only [ho, resolve, invoke, builtin, Sem.run_bind, Sem.run_pure, Result.andThen_ok, List.map_toArray, List.map_cons, List.map_nil, hx, hy, c0]
  ·unfold ow
   rw [List.length_append, List.flatMap_append]
   exact c1
theorem app70 {o : Oper} {ρ : Operand → Value} {x y : Operand} {w : World} {B G : Nat} {v : Value} {A S : List Bys} {p : Option Addr} {cap : Nat} (ho : o.op = .call { callee := .builtin .append, args := #[x, y], argTypes := #[70, 70] }) (hx : ρ x = v) (hy : ρ y = .slice p S.length cap) (hv : oSt w B v A) (hsrc : srcAt stL 1 w G p S) (hcp : p = none → cap = 0) (hl : A.length + S.length ≤ 400000000) (hB : B ≤ w.heap.size) :
  ∃ v' w', (execOp ρ o).run Tryz.prog w = .ok (.value v') w' ∧ oSt w' B v' (A ++ S) ∧ Fr (fun k => v.ownBlock = some k) w w' ∧ (v'.ownBlock = v.ownBlock ∨ v'.ownBlock = some w.heap.size) :=
 appR stL_len (by omega) stL_one Tryz.underlying70 info9z rfl (by decide) ho hx hy hv hsrc hcp hl hB
theorem joinC_eq : ∀ xs : List Bys, Lib.join xs [44, 32] = joinC xs
 | [] => rfl
 | [x] => Lib.join_one x _
 | x :: y :: l => by
  show _ = x ++ 44 :: 32 :: joinC (y :: l)
  rw [← joinC_eq (y :: l), Lib.join_cons, Lib.join_cons]
  simp [Lib.joinTail]
theorem join_calls {w : World} {B : Nat} {v : Value} {xs : List Bys} (h : oSt w B v xs) (hn : xs.length ≤ 100000) (hl : (joinC xs).length ≤ 100000000) : Calls Tryz.prog 45 #[v, .string (ofL [44, 32])] w fun e w' => e = .returned (.string (ofL (joinC xs))) ∧ Fr (fun _ => False) w w' := by
 obtain ⟨p, c, rfl, h1, h2, h3, h4⟩ := ow.src stL_len h
 rcases h3 with rfl | ⟨g, off, rfl, hg, hc⟩
 ·refine (Tryz.strings_Join_none p c _ w).mono fun e w' h => ?_
  obtain ⟨rfl, rfl⟩ := h
  exact ⟨rfl, Fr.refl _ _⟩
 ·have hm : (xs.map ofL).map (·.data.toList) = xs := by
   rw [List.map_map]
   exact (List.map_congr_left fun x _ => by simp [ofL]).trans (List.map_id xs)
  have hj : Lib.join ((xs.map ofL).map (·.data.toList)) (ofL [44, 32]).data.toList = joinC xs := by
   rw [hm]; exact joinC_eq xs
  have := Tryz.strings_Join g off c (xs.map ofL) (ofL [44, 32]) w (fun j x hx => by
   rw [List.getElem?_map] at hx
   cases hq : xs[j]? with
   | none => rw [hq] at hx; cases hx
   | some y =>
    rw [hq] at hx
    cases hx
    have := hc j y hq 0 _ rfl
    simpa using this) hg (by rw [List.length_map]; omega) (by rw [List.length_map]; exact h1) (by rw [hj]; omega)
  rw [hj, List.length_map] at this
  refine this.mono fun e w' h => ?_
  exact ⟨h.1, Fr.of_below h.2⟩
theorem clk_len (m : Int) : (clk m).length ≤ 5 := by
 unfold clk
 have := decS_len (m / 60).toNat
 simp only [List.length_append, List.length_cons, dec2_len]; omega
theorem dayT_len {d : Nat} (h : d < 7) : (dayT (d : Int)).length ≤ 2 := by
 unfold dayT
 rw [Int.toNat_natCast]
 have : ∀ d < 7, (days.getD d []).length ≤ 2 := by decide +kernel
 exact this d h
theorem DaysAt.at {w : World} {b d : Nat} (h : DaysAt w b) (hd : d < 7) : w.cell? ⟨b, 0 + d, none⟩ = some (.string (ofL (dayT (d : Int)))) := by
 have hx : days[d]? = some (dayT (d : Int)) := by
  unfold dayT
  rw [Int.toNat_natCast]
  have : ∀ d < 7, days[d]? = some (days.getD d []) := by decide +kernel
  exact this d hd
 rw [cell_of_blk h, Nat.zero_add]
 simp [hx]
/-- What holds in the round that lays a piece's text by: γ = (the days' block, the row of one, the longer row); done: the days, the row of one, the longer row, the store. -/
def M13 (W : World) (B c4 : Nat) (dv : Value) (acc : List Bys) (tx : Bys) (γ : Nat × Nat × Value) (p1 p15 p16 p17 : Bool) (wm : World) : Prop :=
 (p16 = false → Fr (fun _ => False) W wm ∧ (p1 = true → DaysAt wm γ.1) ∧ (p15 = true → wm.heap[γ.2.1]? = some (.cells #[.string (ofL tx)] 9 (0, 0)))) ∧
 (p16 = true → Fr (fun b => (p17 = true ∧ b = c4) ∨ dv.ownBlock = some b) W wm ∧ oSt wm B γ.2.2 (acc ++ [tx]) ∧ (γ.2.2.ownBlock = dv.ownBlock ∨ ∀ k, γ.2.2.ownBlock = some k → W.heap.size ≤ k) ∧ wm.heap[c4]? = some (.cells #[if p17 = true then γ.2.2 else dv] 70 (0, 0)))
theorem M13.fr {W : World} {B c4 : Nat} {dv : Value} {acc : List Bys} {tx : Bys} {γ : Nat × Nat × Value} {p1 p15 p17 : Bool} {wm w9 : World} (h : M13 W B c4 dv acc tx γ p1 p15 false p17 wm) (f : Fr (fun _ => False) wm w9) : M13 W B c4 dv acc tx γ p1 p15 false p17 w9 :=
 ⟨fun _ => ⟨(h.1 rfl).1.trans f, fun e => f.obj ((h.1 rfl).2.1 e) id, fun e => f.obj ((h.1 rfl).2.2 e) id⟩, fun e => by cases e⟩
theorem fin13 {W : World} {B c4 : Nat} {dv : Value} {acc : List Bys} {tx : Bys} {γ : Nat × Nat × Value} {p1 p15 p16 p17 : Bool} {wm : World} (e : p16 = false) (h : M13 W B c4 dv acc tx γ p1 p15 false p17 wm) : M13 W B c4 dv acc tx γ p1 p15 p16 p17 wm := e ▸ h
theorem run_st70v {o : Oper} {w : World} {ρ : Operand → Value} {x y : Operand} {b off : Nat} {u v : Value} (hs : ∃ p n c, v = .slice p n c) (ho : o.op = .store 70 x y) (hx : ρ x = .pointer (some ⟨b, off, none⟩)) (hy : ρ y = v) (hc : w.cell? ⟨b, off, none⟩ = some u) (hz : w.frozen? ⟨b, off, none⟩ = false) : (execOp ρ o).run Tryz.prog w = .ok .skip (w.setCell ⟨b, off, none⟩ v) := by
 obtain ⟨p, n, c, rfl⟩ := hs
 exact run_st70 ho hx hy hc hz
theorem run_ld70v {o : Oper} {w : World} {ρ : Operand → Value} {x : Operand} {g off : Nat} {v : Value} (hs : ∃ p n c, v = .slice p n c) (ho : o.op = .load 70 x) (hx : ρ x = .pointer (some ⟨g, off, none⟩)) (hc : w.cell? ⟨g, off, none⟩ = some v) : (execOp ρ o).run Tryz.prog w = .ok (.value v) w := by
 obtain ⟨p, n, c, rfl⟩ := hs
 exact run_ld70 ho hx hc
theorem env_zip2 {ds : List Deferred} {n d d2 : Nat} {L : List (Nat × Value)} {a : Act} {x y : Value} (E : EnvD ds n L a) (hn : d < n) (hn2 : d2 < n) (hf : (L.map (·.1)).contains d = false) (hf2 : (((d, x) :: L).map (·.1)).contains d2 = false) : Env n ((d2, y) :: (d, x) :: L) { tmps := ((#[d, d2] : Array Tmp).zip #[x, y]).foldl (fun t (p, v) => t.setIfInBounds p v) a.tmps, defers := [] } := by
 have h := (E.put (v := x) hn hf).put (v := y) hn2 hf2
 refine ⟨?_, ?_, rfl⟩
 ·have := h.size
  simpa [Act.put] using this
 ·intro z hz
  have := h.at_ z hz
  simpa [Act.put, Act.eval] using this
theorem res2 {fn : Func} {a : Act} {w : World} {t t2 : Tmp} {v u : Value} (hr : fn.results = #[.tmp t, .tmp t2]) (hv : a.eval (.tmp t) = v) (hu : a.eval (.tmp t2) = u) : (results fn a.tmps).run Tryz.prog w = .ok (.tuple #[v, u]) w := by
 have g1 : a.tmps.getD t undef = v := hv
 have g2 : a.tmps.getD t2 undef = u := hu
 unfold results
 rw [hr]
 rw [Array.getD_eq_getD_getElem?] at g1 g2
 simp [g1, g2]
theorem pcs_len60 {l : List Sp} (h : l.length ≤ 60) : (l.flatMap pcs).length ≤ 480 := by
 have hp : ∀ (n : Nat) (f t : Int), (pcsF n f t).length ≤ n := by
  intro n
  induction n with
  | zero => intro f t; exact Nat.le_refl _
  | succ n ih =>
   intro f t
   show (if f < t then _ else _ : List (Int × Int × Int)).length ≤ _
   split
   ·have := ih (min t ((f / 1440 + 1) * 1440)) t; simp only [List.length_cons]; omega
   ·simp
 have : ∀ l : List Sp, (l.flatMap pcs).length ≤ 8 * l.length := by
  intro l
  induction l with
  | nil => simp
  | cons s l ih =>
   have := hp 8 s.1 s.2
   have e : pcs s = pcsF 8 s.1 s.2 := rfl
   simp only [List.flatMap_cons, List.length_append, List.length_cons, e]; omega
 have := this l
 omega
theorem joinC_len {P : List (Int × Int × Int)} (h : P.length ≤ 480) : (joinC (P.map pcT)).length ≤ 100000000 := by
 have hd : ∀ d : Int, (dayT d).length ≤ 2 := by
  intro d
  unfold dayT
  by_cases hd : d.toNat < 7
  ·have : ∀ d < 7, (days.getD d []).length ≤ 2 := by decide +kernel
   exact this _ hd
  ·rw [List.getD_eq_getElem?_getD, List.getElem?_eq_none (by show 7 ≤ d.toNat; omega)]; simp
 have hp : ∀ p : Int × Int × Int, (pcT p).length ≤ 14 := by
  intro p
  have h1 := hd p.1; have h2 := clk_len p.2.1; have h3 := clk_len p.2.2
  unfold pcT
  simp only [List.length_append, List.length_cons]; omega
 have : ∀ P : List (Int × Int × Int), (joinC (P.map pcT)).length ≤ 16 * P.length := by
  intro P
  induction P with
  | nil => simp [joinC]
  | cons p P ih =>
   cases P with
   | nil => have := hp p; simp only [List.map_cons, List.map_nil, joinC, List.length_cons, List.length_nil]; omega
   | cons q P =>
    have := hp p
    simp only [List.map_cons, joinC, List.length_append, List.length_cons] at ih ⊢; omega
 have := this P
 omega
set_option maxRecDepth 100000 in
set_option maxHeartbeats 4000000 in
theorem text15_calls {w : World} {v : Value} {l : List Sp} (hl : SpV w v l) (hln : l.length ≤ 1000000) (hT0 : Tb w) : Calls Tryz.prog 15 #[v] w fun e w' => e = .returned (.tuple #[.string (ofL (textR l).1), .int .i64 (textR l).2]) ∧ Fr (fun _ => False) w w' := by
 have hl0 := hl
 obtain ⟨p0, cp0, hvp0, hlep0, hcapp0, hsp0, hzp0⟩ := hl
 subst hvp0
 refine wp_startM1 Tryz.func15 rfl rfl (n := 48) (by decide) fun a E => ?_
 have hf : Fr (fun _ => False) w w := Fr.refl _ _
 have hT : Tb w := hT0
 have hTlw := hT0.lt
 have hll : l.length ≤ 9223372036854775807 := by omega
 have hl1 : SpV w (.slice p0 l.length cp0) l := hl0
 refine s_ (r_ (ep (v := .string (ofL [])) E rfl (a_ rfl rfl) fun a E => ep (v := .int .i64 0) E rfl (a_ rfl rfl) fun a E => n_ (t_ (s_ (bk_ (s_ (r_ (ep E rfl (m_ rfl E.g2) fun a E => ec_ (v := .bool (vl (-1) l)) E rfl (run_call1 (enters_of Tryz.func18 (by kernel_rfl) rfl) rfl rfl E.g0) (valid_calls hl1) fun a w1 f1 E => ?_))))))))
 have hsp0 := srcAt.fr hsp0 f1 (fun r hr => id)
 have hT := Tb.fr hT f1 (fun r hr => id)
 have hl1 := Src.fr hl1 f1
 have hf := hf.trans' f1 (fun _ _ h => h.elim)
 clear f1
 refine ep (v := .bool (!(vl (-1) l))) E rfl (run_not rfl E.g0) fun a E => ep E rfl (a_ rfl E.g0) fun a E => n_ (t_ ?_)
 cases hq146 : (vl (-1) l) with
 | false =>
  rw [hq146] at E
  refine c_t E.g0 (s_ (r_ (es_ (v := .string (ofL [])) E rfl (a_ rfl rfl) fun a E => es_ (v := .int .i64 1) E rfl (a_ rfl rfl) fun a E => n_ (t_ (wr_ (br_ (tr_ (retM_ (v := .tuple #[.string (ofL []), .int .i64 1]) E (MarksOk.nil _) fun w9 f9 => ?_))))))))
  refine ⟨res2 rfl E.g1 E.g0, ?_⟩
  have hr : textR l = ([], 1) := by unfold textR; rw [if_pos hq146]
  rw [hr]
  exact ⟨rfl, hf.trans' f9 (fun r hr e => by cases e)⟩
 | true =>
  rw [hq146] at E
  refine c_f E.g0 (s_ (r_ (ep E rfl (m_ rfl E.g6) fun a E => ep (v := .int .i64 (l.length : Int)) E rfl (run_len22 rfl E.g0) fun a E => ep (v := .bool (decide (60 < (l.length : Int)))) E rfl (run_igtr E.g0 rfl Tryz.underlying3 rfl) fun a E => ep E rfl (a_ rfl E.g0) fun a E => n_ (t_ ?_))))
  cases hq147 : (decide (60 < (l.length : Int))) with
  | false =>
   rw [hq147] at E
   refine c_f E.g0 (s_ (r_ (ep E rfl (m_ rfl E.g10) fun a E => ep (v := .int .i64 (l.length : Int)) E rfl (run_len22 rfl E.g0) fun a E => ep (v := .bool ((l.length : Int) == 0)) E rfl (run_ieql E.g0 rfl Tryz.underlying3 rfl) fun a E => ep E rfl (a_ rfl E.g0) fun a E => n_ (t_ ?_))))
   cases hq148 : ((l.length : Int) == 0) with
   | false =>
    rw [hq148] at E
    have hlt0 : 0 < l.length := by have := hq148; rw [beq_eq_false_iff_ne] at this; omega
    obtain ⟨y, hy⟩ : ∃ y, l[0]? = some y := ⟨_, List.getElem?_eq_getElem hlt0⟩
    obtain ⟨g149, off149, hpe149, hgl149, hrow149⟩ := hsp0.at hlt0
    replace hrow149 := hrow149 0 y hy
    refine c_f E.g0 (s_ (r_ (ep E rfl (m_ rfl E.g14) fun a E => ep (v := .pointer (some ⟨g149, (off149 + 0 * 2), none⟩)) E rfl (run_index22 (i := 0) rfl (E.g0.trans (by rw [hpe149])) rfl hlt0) fun a E => ep (v := .agg (spA y)) E rfl (run_ld48 rfl E.g0 hrow149) fun a E => ep (v := .agg (spA (0, 10080))) E rfl (run_of48 rfl rfl rfl) fun a E => ep (v := .bool (y == (0, 10080))) E rfl (run_speq E.g1 E.g0 rfl) fun a E => ep E rfl (a_ rfl E.g0) fun a E => n_ (t_ ?_))))
    cases hq150 : (y == (0, 10080)) with
    | false =>
     rw [hq150] at E
     refine c_f E.g0 (k_ (b_ (t_ (s_ (r_ (env_new (d := 4) E rfl (by decide) rfl (wanted_none rfl _) (run_alloc70 rfl) fun a w1 b151 eb151 hb151 f1 E => ?_))))))
     have hnb151 : w.heap.size ≤ b151 := by have := hf.size; omega
     have hsp0 := srcAt.fr hsp0 f1 (fun r hr => id)
     have hT := Tb.fr hT f1 (fun r hr => id)
     have hl1 := Src.fr hl1 f1
     have hrow149 := fun j u hu => f1.cell (hrow149 j u hu) id
     have hf := hf.trans' f1 (fun _ _ h => h.elim)
     clear f1
     refine n_ (t_ (s_ (s_ (r_ (ep E rfl (m_ rfl E.g21) fun a E => ?_)))))
     have hgw := hf.size
     have hgb151 := lt_of_blk hb151
     refine env_callv (d := 26) (R := fun u w8 => ∃ b, u = .func (.func 66) #[] #[.pointer (some ⟨b, 0, none⟩)] ∧ w8.heap[b]? = some (.cells #[.slice p0 l.length cp0] 22 (0, 0)) ∧ w1.heap.size ≤ b ∧ Fr (fun _ => False) w1 w8) E rfl (by decide) rfl (wanted_none rfl _) (run_call1 (enters_of Tryz.func42 (by kernel_rfl) rfl) rfl rfl E.g0) (pieces_calls.mono fun e w8 h => by obtain ⟨b, rfl, h⟩ := h; exact ⟨_, rfl, b, rfl, h⟩) fun a w1 u ⟨cb, hu, hcb, hcn, f1⟩ E => ?_
     subst hu
     have hsp0 := srcAt.fr hsp0 f1 (fun r hr => id)
     have hT := Tb.fr hT f1 (fun r hr => id)
     have hl1 := Src.fr hl1 f1
     have hrow149 := fun j u hu => f1.cell (hrow149 j u hu) id
     have hb151 := f1.obj hb151 id
     have hf := hf.trans' f1 (fun _ _ h => h.elim)
     clear f1
     refine n_ (t_ (bk_ ?_))
     obtain ⟨wr, hwr⟩ : ∃ wr, wr = w1 := ⟨_, rfl⟩
     rw [← hwr] at hb151 hcb hT hf hsp0
     rw [← hwr]
     clear hwr
     have hq4 := lt_of_blk hb151
     have hqb := lt_of_blk hcb
     have hfs := hf.size
     have hvl : vl (-1) l = true := hq146
     have h60 : l.length ≤ 60 := by have := of_decide_eq_false hq147; omega
     have hwk := vl_wk (Int.le_refl _) hvl
     obtain ⟨P, hP⟩ : ∃ P, P = l.flatMap pcs := ⟨_, rfl⟩
     have hPl : P.length ≤ 480 := by rw [hP]; exact pcs_len60 h60
     have hPok : ∀ y ∈ P, pcOK y := by rw [hP]; exact pcs_ok hwk
     refine wp_rangeF3 (fun k H W => ∃ dv, W.heap[b151]? = some (.cells #[dv] 70 (0, 0)) ∧ oSt W (wr.heap.size + 2) dv ((P.take k).map pcT) ∧ (H = fun b => b = b151 ∨ dv.ownBlock = some b) ∧ Fr (fun _ => False) w W ∧ ValK cb w.heap.size p0 cp0 l W ∧ Tb W) (fun _ => False) (fun v a' W => ∃ (p : Int × Int × Int) (b6 : Nat), v = #[.int .i64 p.1, .agg (spA (p.2.1, p.2.2))] ∧ wr.heap.size + 2 ≤ b6 ∧ W.heap[b6]? = some (.cells #[.int .i64 p.2.1, .int .i64 p.2.2] 48 (0, 0)) ∧ Env 48 [(6, .pointer (some ⟨b6, 0, none⟩)), (5, .int .i64 p.1), (4, .pointer (some ⟨b151, 0, none⟩))] a') E.g0 (enters_of Tryz.func66 (by kernel_rfl) rfl) (vs := pcv l) (pieces_yields (c1 := cb) (G := w.heap.size) (p := p0) (cap := cp0) (by omega) hwk) (fun v hv => by obtain ⟨x, _, rfl⟩ := List.mem_map.1 hv; rfl) ?_ (fun _ _ h _ => h) ?_ ?_ ?_ ?_ ?_ ?_ (fun _ h _ => h.elim)
     ·rintro k H W W' F ⟨dv, h1, h2, rfl, h4, h5, h6⟩ f hF
      exact ⟨dv, f.obj h1 (fun e => by have := (hF _ e).1; omega), h2.fr f (fun b hb e => (hF _ e).2 (.inr hb)), rfl, h4.trans' f (fun r hr e => by have := (hF _ e).1; omega), h5.fr f (fun e => by have := (hF _ e).1; omega) (fun r hr e => by have := (hF _ e).1; omega), h6.fr f (fun r hr e => by have := (hF _ e).1; omega)⟩
     ·rintro k H W ⟨dv, h1, h2, rfl, h4, h5, h6⟩
      refine ⟨h5, fun b hb => ?_⟩
      rcases hb with rfl | hb
      ·have := lt_of_blk h1; omega
      ·have := h2.lt hb; omega
     ·intro W f hW
      exact ⟨_, _, f.obj hb151 id, ow_nil _, rfl, hf.trans f, ⟨f.obj hcb id, hsp0.fr f (fun _ _ => id), by omega⟩, hT.fr f (fun _ _ => id)⟩
     ·rintro v a' W W' ⟨p, b6, q1, q2, q3, q4⟩ f
      exact ⟨p, b6, q1, q2, f.obj q3 (by omega), q4⟩
     ·intro l9 v W K hv hW hK
      obtain ⟨y, _, rfl⟩ := List.mem_map.1 hv
      have E := env_zip2 (d := 27) (d2 := 28) (x := .int .i64 y.1) (y := .agg (spA (y.2.1, y.2.2))) (E.of (L' := [(4, .pointer (some ⟨b151, 0, none⟩))]) ⟨E.g2, trivial⟩) (by decide) (by decide) rfl rfl
      have hf : Fr (fun _ => False) W W := Fr.refl _ _
      refine wpIn_seq (wpR_region_lit (by kernel_rfl) (fun ⟨_, _, h⟩ => h) (ep E rfl (a_ rfl E.g1) fun a E => n_ (t_ (wpR_region_lit (by kernel_rfl) (fun ⟨_, _, h⟩ => h) (env_new (d := 6) E rfl (by decide) rfl (wanted_none rfl _) (run_alloc48 rfl) fun a w1 b152 eb152 hb152 f1 E => ?_)))))
      have hnb152 : W.heap.size ≤ b152 := by have := hf.size; omega
      have hf := hf.trans' f1 (fun _ _ h => h.elim)
      clear f1
      refine env_st48 E rfl (wanted_none rfl _) rfl E.g0 E.g2 hb152 fun w1 hb152n f1 E => ?_
      have hf := hf.trans' f1 (fun _ hr => nq_)
      clear f1
      replace hb152 := hb152n
      refine n_ (hK _ _ ⟨y, b152, rfl, by omega, hb152, E.of ⟨E.g0, E.g1, E.g4, trivial⟩⟩ hf)
     ·rintro k H v a9 W hv ⟨dv, hc4, hO, rfl, hF, hVK, hT⟩ ⟨x, b6, hvs, hb6, hs6, E⟩ hW -
      obtain ⟨y, hy, rfl⟩ : ∃ y, P[k]? = some y ∧ y = x := by
       unfold pcv at hv
       rw [← hP, List.getElem?_map] at hv
       cases hq : P[k]? with
       | none => rw [hq] at hv; cases hv
       | some y =>
        rw [hq] at hv
        subst hvs
        obtain ⟨y1, y2, y3⟩ := y
        obtain ⟨x1, x2, x3⟩ := x
        simp [spA] at hv
        obtain ⟨e1, e2, e3⟩ := hv
        subst e1 e2 e3
        exact ⟨_, rfl, rfl⟩
      have hkl : k < P.length := (List.getElem?_eq_some_iff.1 hy).1
      obtain ⟨hk1, hk2, hk3, hk4, hk5⟩ := hPok y (List.mem_of_getElem? hy)
      obtain ⟨dn, hde⟩ : ∃ dn : Nat, y.1 = dn := ⟨y.1.toNat, by omega⟩
      obtain ⟨fn, hfe⟩ : ∃ fn : Nat, y.2.1 = fn := ⟨y.2.1.toNat, by omega⟩
      obtain ⟨tn, hte⟩ : ∃ tn : Nat, y.2.2 = tn := ⟨y.2.2.toNat, by omega⟩
      have htp : pcT y = (((dayT (dn : Int) ++ [32]) ++ clk (fn : Int)) ++ [45]) ++ clk (tn : Int) := by
       unfold pcT; rw [hde, hfe, hte]; simp
      rw [hde] at E
      rw [hfe, hte] at hs6
      have hdn : dn < 7 := by omega
      have hfn : fn ≤ 1440 := by omega
      have htn : tn ≤ 1440 := by omega
      have hln1 := dayT_len hdn
      have hln2 := clk_len (fn : Int)
      have hln3 := clk_len (tn : Int)
      have hl6 := lt_of_blk hs6
      have hWs : wr.heap.size + 2 ≤ W.heap.size := hW
      refine wpIn_block ?_
      obtain ⟨tx, htx⟩ : ∃ tx, tx = (((dayT (dn : Int) ++ [32]) ++ clk (fn : Int)) ++ [45]) ++ clk (tn : Int) := ⟨_, rfl⟩
      refine wpR_region_invx (G := Nat × Nat × Value) (0, 0, undef) (n := 48) (base := [(6, .pointer (some ⟨b6, 0, none⟩)), (5, .int .i64 (dn : Int)), (4, .pointer (some ⟨b151, 0, none⟩))]) (U := []) (T := fun γ => [some (29, dv), some (30, .slice (some ⟨γ.1, 0, none⟩) 7 7), some (31, .int .i64 (dn : Int)), some (32, .pointer (some ⟨γ.1, (0 + dn), none⟩)), some (33, .string (ofL (dayT (dn : Int)))), some (34, .string (ofL ((dayT (dn : Int)) ++ [32]))), some (35, .pointer (some ⟨b6, 0, none⟩)), some (36, .int .i64 (fn : Int)), some (37, .string (ofL (clk (fn : Int)))), some (38, .string (ofL (((dayT (dn : Int)) ++ [32]) ++ (clk (fn : Int))))), some (39, .string (ofL ((((dayT (dn : Int)) ++ [32]) ++ (clk (fn : Int))) ++ [45]))), some (40, .pointer (some ⟨b6, 1, none⟩)), some (41, .int .i64 (tn : Int)), some (42, .string (ofL (clk (tn : Int)))), some (43, .string (ofL (((((dayT (dn : Int)) ++ [32]) ++ (clk (fn : Int))) ++ [45]) ++ (clk (tn : Int))))), some (44, .slice (some ⟨γ.2.1, 0, none⟩) 1 1), some (45, γ.2.2), none]) (M := fun γ ls9 wm => M13 W (wr.heap.size + 2) b151 dv ((P.take k).map pcT) tx γ (ls9 1) (ls9 15) (ls9 16) (ls9 17) wm) (by kernel_rfl) (fun ⟨_, _, h⟩ => h) (by kernel_rfl) (by kernel_rfl) (fun _ => by kernel_rfl) (E.of ⟨E.g0, E.g1, E.g2, trivial⟩) (fun x hx => by cases hx) ⟨fun _ => ⟨(Fr.refl _ _).drew, fun e => (by cases e), fun e => (by cases e)⟩, fun e => (by cases e)⟩ ?_ ?_
      ·intro j9 o9 γ ls9 a w5 ho hl E D DL DL2 hB hM
       match j9, ho, hl, D, DL, hB with
       | 0, ho, hl, D, DL, hB =>
        obtain rfl := Option.some.inj ho
        clear ho
        have h16 : ls9 16 = false := by
         cases h9 : ls9 16 with
         | false => rfl
         | true => exact absurd (hl.symm.trans (DL2 16 0 rfl h9)) (by decide)
        have hM1 := hM
        rw [h16] at hM1
        have hf5 := (hM1.1 rfl).1
        have hc4 := hf5.obj hc4 id
        have hs6 := hf5.obj hs6 id
        have hT := hT.fr hf5 (fun _ _ => id)
        have hO := hO.fr hf5 (fun _ _ => id)
        have hfz := hf5.size
        exact ⟨fun _ => valx rfl (run_ld70v (ow.sl stL_len hO) rfl E.g2 (bx hc4 0 rfl)) rfl (fin13 h16 hM1), fun h => by rw [wanted_none rfl] at h; cases h⟩
       | 1, ho, hl, D, DL, hB =>
        obtain rfl := Option.some.inj ho
        clear ho
        have h16 : ls9 16 = false := by
         cases h9 : ls9 16 with
         | false => rfl
         | true => exact absurd (hl.symm.trans (DL2 8 1 rfl (DL2 13 8 rfl (DL2 16 13 rfl h9)))) (by decide)
        have hM1 := hM
        rw [h16] at hM1
        have hf5 := (hM1.1 rfl).1
        have hc4 := hf5.obj hc4 id
        have hs6 := hf5.obj hs6 id
        have hT := hT.fr hf5 (fun _ _ => id)
        have hO := hO.fr hf5 (fun _ _ => id)
        have hfz := hf5.size
        exact ⟨fun _ => callxw (F := fun v w8 => ∃ bd, v = .slice (some ⟨bd, 0, none⟩) 7 7 ∧ DaysAt w8 bd ∧ Fr (fun _ => False) w5 w8) (run_call0 (enters_of Tryz.func43 (by kernel_rfl) rfl) rfl rfl) ((names_calls hT).mono fun e w8 h => by obtain ⟨b, rfl, h1, h2, h3⟩ := h; exact ⟨_, rfl, b, rfl, h1, h3⟩) rfl fun v w8 ⟨bd, hv, hD, f9⟩ => ⟨(bd, γ.2), by rw [hv]; rfl, (fun j hj => match j, hj with | 0, _ => rfl | 1, hj => absurd (hl.symm.trans hj) (by decide) | 2, _ => rfl | 3, hj => absurd (hl.symm.trans (DL2 3 1 rfl hj)) (by decide) | 4, _ => rfl | 5, _ => rfl | 6, _ => rfl | 7, _ => rfl | 8, _ => rfl | 9, _ => rfl | 10, _ => rfl | 11, _ => rfl | 12, _ => rfl | 13, _ => rfl | 14, _ => rfl | 15, _ => rfl | 16, _ => rfl | 17, _ => rfl | e9 + 18, _ => rfl), fin13 h16 ⟨fun _ => ⟨(hM1.1 rfl).1.trans f9, fun _ => hD, fun e => f9.obj ((hM1.1 rfl).2.2 e) id⟩, fun e => by cases e⟩⟩, fun h => by rw [wanted_none rfl] at h; cases h⟩
       | 2, ho, hl, D, DL, hB =>
        obtain rfl := Option.some.inj ho
        clear ho
        have h16 : ls9 16 = false := by
         cases h9 : ls9 16 with
         | false => rfl
         | true => exact absurd (hl.symm.trans (DL2 3 2 rfl (DL2 4 3 rfl (DL2 5 4 rfl (DL2 9 5 rfl (DL2 10 9 rfl (DL2 14 10 rfl (DL2 15 14 rfl (DL2 16 15 rfl h9))))))))) (by decide)
        have hM1 := hM
        rw [h16] at hM1
        have hf5 := (hM1.1 rfl).1
        have hc4 := hf5.obj hc4 id
        have hs6 := hf5.obj hs6 id
        have hT := hT.fr hf5 (fun _ _ => id)
        have hO := hO.fr hf5 (fun _ _ => id)
        have hfz := hf5.size
        exact ⟨fun _ => valx rfl (m_ rfl E.g1) rfl (fin13 h16 hM1), fun h => by rw [wanted_none rfl] at h; cases h⟩
       | 3, ho, hl, D, DL, hB =>
        obtain rfl := Option.some.inj ho
        clear ho
        have h16 : ls9 16 = false := by
         cases h9 : ls9 16 with
         | false => rfl
         | true => exact absurd (hl.symm.trans (DL2 4 3 rfl (DL2 5 4 rfl (DL2 9 5 rfl (DL2 10 9 rfl (DL2 14 10 rfl (DL2 15 14 rfl (DL2 16 15 rfl h9)))))))) (by decide)
        have hM1 := hM
        rw [h16] at hM1
        have hf5 := (hM1.1 rfl).1
        have hc4 := hf5.obj hc4 id
        have hs6 := hf5.obj hs6 id
        have hT := hT.fr hf5 (fun _ _ => id)
        have hO := hO.fr hf5 (fun _ _ => id)
        have hfz := hf5.size
        exact ⟨fun _ => valx rfl (run_index70 (i := dn) rfl (D 1 _ rfl rfl) (D 2 _ rfl rfl) hdn) rfl (fin13 h16 hM1), fun h => by rw [wanted_none rfl] at h; cases h⟩
       | 4, ho, hl, D, DL, hB =>
        obtain rfl := Option.some.inj ho
        clear ho
        have h16 : ls9 16 = false := by
         cases h9 : ls9 16 with
         | false => rfl
         | true => exact absurd (hl.symm.trans (DL2 5 4 rfl (DL2 9 5 rfl (DL2 10 9 rfl (DL2 14 10 rfl (DL2 15 14 rfl (DL2 16 15 rfl h9))))))) (by decide)
        have hM1 := hM
        rw [h16] at hM1
        have hf5 := (hM1.1 rfl).1
        have hc4 := hf5.obj hc4 id
        have hs6 := hf5.obj hs6 id
        have hT := hT.fr hf5 (fun _ _ => id)
        have hO := hO.fr hf5 (fun _ _ => id)
        have hfz := hf5.size
        have hDA := (hM1.1 rfl).2.1 (DL2 3 1 rfl (DL 3 rfl))
        exact ⟨fun _ => valx rfl (run_lds rfl (D 3 _ rfl rfl) (hDA.at hdn)) rfl (fin13 h16 hM1), fun h => by rw [wanted_none rfl] at h; cases h⟩
       | 5, ho, hl, D, DL, hB =>
        obtain rfl := Option.some.inj ho
        clear ho
        have h16 : ls9 16 = false := by
         cases h9 : ls9 16 with
         | false => rfl
         | true => exact absurd (hl.symm.trans (DL2 9 5 rfl (DL2 10 9 rfl (DL2 14 10 rfl (DL2 15 14 rfl (DL2 16 15 rfl h9)))))) (by decide)
        have hM1 := hM
        rw [h16] at hM1
        have hf5 := (hM1.1 rfl).1
        have hc4 := hf5.obj hc4 id
        have hs6 := hf5.obj hs6 id
        have hT := hT.fr hf5 (fun _ _ => id)
        have hO := hO.fr hf5 (fun _ _ => id)
        have hfz := hf5.size
        exact ⟨fun _ => valx rfl (run_sadd (D 4 _ rfl rfl) rfl rfl (by simp only [List.length_append, List.length_cons, List.length_nil]; omega)) rfl (fin13 h16 hM1), fun h => by rw [wanted_none rfl] at h; cases h⟩
       | 6, ho, hl, D, DL, hB =>
        obtain rfl := Option.some.inj ho
        clear ho
        have h16 : ls9 16 = false := by
         cases h9 : ls9 16 with
         | false => rfl
         | true => exact absurd (hl.symm.trans (DL2 7 6 rfl (DL2 8 7 rfl (DL2 13 8 rfl (DL2 16 13 rfl h9))))) (by decide)
        have hM1 := hM
        rw [h16] at hM1
        have hf5 := (hM1.1 rfl).1
        have hc4 := hf5.obj hc4 id
        have hs6 := hf5.obj hs6 id
        have hT := hT.fr hf5 (fun _ _ => id)
        have hO := hO.fr hf5 (fun _ _ => id)
        have hfz := hf5.size
        exact ⟨fun _ => valx rfl (fa48_0 rfl E.g0) rfl (fin13 h16 hM1), fun h => by rw [wanted_none rfl] at h; cases h⟩
       | 7, ho, hl, D, DL, hB =>
        obtain rfl := Option.some.inj ho
        clear ho
        have h16 : ls9 16 = false := by
         cases h9 : ls9 16 with
         | false => rfl
         | true => exact absurd (hl.symm.trans (DL2 8 7 rfl (DL2 13 8 rfl (DL2 16 13 rfl h9)))) (by decide)
        have hM1 := hM
        rw [h16] at hM1
        have hf5 := (hM1.1 rfl).1
        have hc4 := hf5.obj hc4 id
        have hs6 := hf5.obj hs6 id
        have hT := hT.fr hf5 (fun _ _ => id)
        have hO := hO.fr hf5 (fun _ _ => id)
        have hfz := hf5.size
        exact ⟨fun _ => valx rfl (run_ldi rfl (D 6 _ rfl rfl) (bx hs6 0 rfl)) rfl (fin13 h16 hM1), fun h => by rw [wanted_none rfl] at h; cases h⟩
       | 8, ho, hl, D, DL, hB =>
        obtain rfl := Option.some.inj ho
        clear ho
        have h16 : ls9 16 = false := by
         cases h9 : ls9 16 with
         | false => rfl
         | true => exact absurd (hl.symm.trans (DL2 13 8 rfl (DL2 16 13 rfl h9))) (by decide)
        have hM1 := hM
        rw [h16] at hM1
        have hf5 := (hM1.1 rfl).1
        have hc4 := hf5.obj hc4 id
        have hs6 := hf5.obj hs6 id
        have hT := hT.fr hf5 (fun _ _ => id)
        have hO := hO.fr hf5 (fun _ _ => id)
        have hfz := hf5.size
        exact ⟨fun _ => callx rfl (run_call1 (enters_of Tryz.func44 (by kernel_rfl) rfl) rfl rfl (D 7 _ rfl rfl)) (clocked_calls hfn hT) rfl fun w9 f1 => fin13 h16 (hM1.fr f1), fun h => by rw [wanted_none rfl] at h; cases h⟩
       | 9, ho, hl, D, DL, hB =>
        obtain rfl := Option.some.inj ho
        clear ho
        have h16 : ls9 16 = false := by
         cases h9 : ls9 16 with
         | false => rfl
         | true => exact absurd (hl.symm.trans (DL2 10 9 rfl (DL2 14 10 rfl (DL2 15 14 rfl (DL2 16 15 rfl h9))))) (by decide)
        have hM1 := hM
        rw [h16] at hM1
        have hf5 := (hM1.1 rfl).1
        have hc4 := hf5.obj hc4 id
        have hs6 := hf5.obj hs6 id
        have hT := hT.fr hf5 (fun _ _ => id)
        have hO := hO.fr hf5 (fun _ _ => id)
        have hfz := hf5.size
        exact ⟨fun _ => valx rfl (run_sadd (D 5 _ rfl rfl) (D 8 _ rfl rfl) rfl (by simp only [List.length_append, List.length_cons, List.length_nil]; omega)) rfl (fin13 h16 hM1), fun h => by rw [wanted_none rfl] at h; cases h⟩
       | 10, ho, hl, D, DL, hB =>
        obtain rfl := Option.some.inj ho
        clear ho
        have h16 : ls9 16 = false := by
         cases h9 : ls9 16 with
         | false => rfl
         | true => exact absurd (hl.symm.trans (DL2 14 10 rfl (DL2 15 14 rfl (DL2 16 15 rfl h9)))) (by decide)
        have hM1 := hM
        rw [h16] at hM1
        have hf5 := (hM1.1 rfl).1
        have hc4 := hf5.obj hc4 id
        have hs6 := hf5.obj hs6 id
        have hT := hT.fr hf5 (fun _ _ => id)
        have hO := hO.fr hf5 (fun _ _ => id)
        have hfz := hf5.size
        exact ⟨fun _ => valx rfl (run_sadd (D 9 _ rfl rfl) rfl rfl (by simp only [List.length_append, List.length_cons, List.length_nil]; omega)) rfl (fin13 h16 hM1), fun h => by rw [wanted_none rfl] at h; cases h⟩
       | 11, ho, hl, D, DL, hB =>
        obtain rfl := Option.some.inj ho
        clear ho
        have h16 : ls9 16 = false := by
         cases h9 : ls9 16 with
         | false => rfl
         | true => exact absurd (hl.symm.trans (DL2 12 11 rfl (DL2 13 12 rfl (DL2 16 13 rfl h9)))) (by decide)
        have hM1 := hM
        rw [h16] at hM1
        have hf5 := (hM1.1 rfl).1
        have hc4 := hf5.obj hc4 id
        have hs6 := hf5.obj hs6 id
        have hT := hT.fr hf5 (fun _ _ => id)
        have hO := hO.fr hf5 (fun _ _ => id)
        have hfz := hf5.size
        exact ⟨fun _ => valx rfl (fa48_1 rfl E.g0) rfl (fin13 h16 hM1), fun h => by rw [wanted_none rfl] at h; cases h⟩
       | 12, ho, hl, D, DL, hB =>
        obtain rfl := Option.some.inj ho
        clear ho
        have h16 : ls9 16 = false := by
         cases h9 : ls9 16 with
         | false => rfl
         | true => exact absurd (hl.symm.trans (DL2 13 12 rfl (DL2 16 13 rfl h9))) (by decide)
        have hM1 := hM
        rw [h16] at hM1
        have hf5 := (hM1.1 rfl).1
        have hc4 := hf5.obj hc4 id
        have hs6 := hf5.obj hs6 id
        have hT := hT.fr hf5 (fun _ _ => id)
        have hO := hO.fr hf5 (fun _ _ => id)
        have hfz := hf5.size
        exact ⟨fun _ => valx rfl (run_ldi rfl (D 11 _ rfl rfl) (bx hs6 1 rfl)) rfl (fin13 h16 hM1), fun h => by rw [wanted_none rfl] at h; cases h⟩
       | 13, ho, hl, D, DL, hB =>
        obtain rfl := Option.some.inj ho
        clear ho
        have h16 : ls9 16 = false := by
         cases h9 : ls9 16 with
         | false => rfl
         | true => exact absurd (hl.symm.trans (DL2 16 13 rfl h9)) (by decide)
        have hM1 := hM
        rw [h16] at hM1
        have hf5 := (hM1.1 rfl).1
        have hc4 := hf5.obj hc4 id
        have hs6 := hf5.obj hs6 id
        have hT := hT.fr hf5 (fun _ _ => id)
        have hO := hO.fr hf5 (fun _ _ => id)
        have hfz := hf5.size
        exact ⟨fun _ => callx rfl (run_call1 (enters_of Tryz.func44 (by kernel_rfl) rfl) rfl rfl (D 12 _ rfl rfl)) (clocked_calls htn hT) rfl fun w9 f1 => fin13 h16 (hM1.fr f1), fun h => by rw [wanted_none rfl] at h; cases h⟩
       | 14, ho, hl, D, DL, hB =>
        obtain rfl := Option.some.inj ho
        clear ho
        have h16 : ls9 16 = false := by
         cases h9 : ls9 16 with
         | false => rfl
         | true => exact absurd (hl.symm.trans (DL2 15 14 rfl (DL2 16 15 rfl h9))) (by decide)
        have hM1 := hM
        rw [h16] at hM1
        have hf5 := (hM1.1 rfl).1
        have hc4 := hf5.obj hc4 id
        have hs6 := hf5.obj hs6 id
        have hT := hT.fr hf5 (fun _ _ => id)
        have hO := hO.fr hf5 (fun _ _ => id)
        have hfz := hf5.size
        exact ⟨fun _ => valx rfl (run_sadd (D 10 _ rfl rfl) (D 13 _ rfl rfl) rfl (by simp only [List.length_append, List.length_cons, List.length_nil]; omega)) rfl (fin13 h16 hM1), fun h => by rw [wanted_none rfl] at h; cases h⟩
       | 15, ho, hl, D, DL, hB =>
        obtain rfl := Option.some.inj ho
        clear ho
        have h16 : ls9 16 = false := by
         cases h9 : ls9 16 with
         | false => rfl
         | true => exact absurd (hl.symm.trans (DL2 16 15 rfl h9)) (by decide)
        have hM1 := hM
        rw [h16] at hM1
        have hf5 := (hM1.1 rfl).1
        have hc4 := hf5.obj hc4 id
        have hs6 := hf5.obj hs6 id
        have hT := hT.fr hf5 (fun _ _ => id)
        have hO := hO.fr hf5 (fun _ _ => id)
        have hfz := hf5.size
        have hpa := (D 14 _ rfl rfl)
        rw [← htx] at hpa
        exact ⟨fun _ => valxw (γ.1, w5.heap.size, γ.2.2) rfl (run_one70 rfl hpa) rfl (fun j hj => match j, hj with | 0, _ => rfl | 1, _ => rfl | 2, _ => rfl | 3, _ => rfl | 4, _ => rfl | 5, _ => rfl | 6, _ => rfl | 7, _ => rfl | 8, _ => rfl | 9, _ => rfl | 10, _ => rfl | 11, _ => rfl | 12, _ => rfl | 13, _ => rfl | 14, _ => rfl | 15, hj => absurd (hl.symm.trans hj) (by decide) | 16, _ => rfl | 17, _ => rfl | e9 + 18, _ => rfl) (fin13 h16 ⟨fun _ => ⟨(hM1.1 rfl).1.alloc _, fun e => ((Fr.refl (fun _ => False) w5).alloc _).obj ((hM1.1 rfl).2.1 e) id, fun _ => blk_alloc_new _ _⟩, fun e => by cases e⟩), fun h => by rw [wanted_none rfl] at h; cases h⟩
       | 16, ho, hl, D, DL, hB =>
        have h16 : ls9 16 = false := hl
        have hM1 := hM
        rw [h16] at hM1
        have hf5 := (hM1.1 rfl).1
        have hc4 := hf5.obj hc4 id
        have hs6 := hf5.obj hs6 id
        have hT := hT.fr hf5 (fun _ _ => id)
        have hO := hO.fr hf5 (fun _ _ => id)
        have hfz := hf5.size
        have h17 : ls9 17 = false := by
         cases h9 : ls9 17 with
         | false => rfl
         | true => exact absurd (hl.symm.trans (DL2 17 16 rfl h9)) (by decide)
        have hb1 := (hM1.1 rfl).2.2 (DL 15 rfl)
        obtain ⟨v9, w9, c0, c1, c2, c3⟩ := app70 (S := [tx]) (o := o9) (ρ := a.eval) (congrArg Oper.op (Option.some.inj ho)).symm (D 0 _ rfl rfl) (D 15 _ rfl rfl) hO (src_one (f := stL) (c := 1) (G := w5.heap.size) hb1 (lt_of_blk hb1)) (fun h => by cases h) (by simp only [List.length_map, List.length_take, List.length_cons, List.length_nil]; omega) (by omega)
        obtain rfl := Option.some.inj ho
        refine ⟨fun _ => valxw (γ.1, γ.2.1, v9) rfl c0 rfl (fun j hj => match j, hj with | 0, _ => rfl | 1, _ => rfl | 2, _ => rfl | 3, _ => rfl | 4, _ => rfl | 5, _ => rfl | 6, _ => rfl | 7, _ => rfl | 8, _ => rfl | 9, _ => rfl | 10, _ => rfl | 11, _ => rfl | 12, _ => rfl | 13, _ => rfl | 14, _ => rfl | 15, _ => rfl | 16, hj => absurd (hl.symm.trans hj) (by decide) | 17, _ => rfl | e9 + 18, _ => rfl) ⟨fun e => (by cases e), fun _ => ⟨(hf5.mono (fun _ _ h => h.elim)).trans' c2 (fun r _ e => .inr e), c1, c3.imp id (fun h k hk => by rw [h] at hk; cases hk; exact hf5.size), ?_⟩⟩, fun h => by rw [wanted_none rfl] at h; cases h⟩
        have h9 := c2.obj hc4 (fun e => by have := (hO.lt e).1; omega)
        show w9.heap[_]? = some (Obj.cells #[if (17 == 16 || ls9 17) = true then v9 else dv] 70 (0, 0))
        rw [h17]; exact h9
       | 17, ho, hl, D, DL, hB =>
        obtain rfl := Option.some.inj ho
        clear ho
        obtain ⟨m1, m2, m3, m4⟩ := hM.2 (DL 16 rfl)
        rw [hl] at m1 m4
        have m4 : w5.heap[b151]? = some (.cells #[dv] 70 (0, 0)) := m4
        exact ⟨fun _ => storex rfl (run_st70v (ow.sl stL_len m2) rfl E.g2 (D 16 _ rfl rfl) (bx m4 0 rfl) (free_of_blk m4 0)) rfl ⟨fun e => absurd ((show ls9 16 = false from e).symm.trans (DL 16 rfl)) (by decide), fun _ => ⟨(m1.mono (fun _ _ h => h.elim (fun h => absurd h.1 (by decide)) .inr)).trans (((Fr.refl (fun r => r = b151) w5).setCell (p := ⟨b151, 0, none⟩) (fun _ => rfl) _).mono (fun r _ e => .inl ⟨rfl, e⟩)), m2.fr ((Fr.refl (fun r => r = b151) w5).setCell (p := ⟨b151, 0, none⟩) (fun _ => rfl) _) (fun k hk e => by have := (m2.lt hk).1; omega), m3, blk_setCell_same (off := 0) m4 _⟩⟩, fun h => by rw [wanted_none rfl] at h; cases h⟩
       | j9 + 18, ho, hl, D, DL, hB => exact absurd ho (by simp)
      ·rintro ⟨g1, g2, v9⟩ a w5 E V hM
       obtain ⟨m1, m2, m3, m4⟩ := hM.2 rfl
       clear V
       have e9 : (P.take (k + 1)).map pcT = (P.take k).map pcT ++ [tx] := by
        rw [List.take_add_one, hy, htx, ← htp]; simp
       have hm4 : w5.heap[b151]? = some (.cells #[v9] 70 (0, 0)) := m4
       have m1 : Fr (fun b => b = b151 ∨ dv.ownBlock = some b) W w5 := m1.mono fun r _ h => h.imp (fun h => h.2) id
       refine b_ (rnd_n ⟨⟨_, ⟨v9, hm4, e9 ▸ m2, rfl, hF.trans' m1 (fun r hr e => by rcases e with e | e; omega; (have := (hO.lt e).1; omega)), hVK.fr m1 (fun e => by rcases e with e | e; omega; (have := (hO.lt e).1; omega)) (fun r hr e => by rcases e with e | e; omega; (have := (hO.lt e).1; omega)), hT.fr m1 (fun r hr e => by rcases e with e | e; omega; (have := (hO.lt e).1; omega))⟩, fun b hb => ?_, m1⟩, m1.blk _ (by omega) (fun e => by rcases e with e | e; omega; (have := (hO.lt e).1; omega)), m1.blk _ (by omega) (fun e => by rcases e with e | e; omega; (have := (hO.lt e).1; omega))⟩)
       rcases hb with hb | hb
       ·exact .inl (.inl hb)
       ·rcases m3 with h9 | h9
        ·exact .inl (.inr (by rw [← h9]; exact hb))
        ·exact .inr (h9 _ hb)
     ·rintro H W ⟨dv, hc4, hO, rfl, hF, hVK, hT⟩ hDk
      have E := env_mark (D := wr.heap.size) E
      have hlv : (pcv l).length = P.length := by unfold pcv; rw [List.length_map, hP]
      rw [hlv, List.take_length] at hO
      refine b_ (t_ (s_ (r_ (ep (v := dv) E rfl (run_ld70v (ow.sl stL_len hO) rfl E.g2 (bx hc4 0 rfl)) fun a E => ec_ (v := .string (ofL (joinC (P.map pcT)))) E rfl (run_call2 (enters_of Tryz.func45 (by kernel_rfl) rfl) rfl rfl E.g0 rfl) (join_calls hO (by rw [List.length_map]; omega) (joinC_len hPl)) fun a w1 f1 E => ?_))))
      have hc4 := f1.obj hc4 id
      have hDk := f1.obj hDk id
      have hT := Tb.fr hT f1 (fun r hr => id)
      have hO := hO.fr f1 (fun k hk => id)
      have hF := hF.trans' f1 (fun _ _ h => h.elim)
      clear f1
      refine es_ E rfl (a_ rfl E.g0) fun a E => es_ (v := .int .i64 0) E rfl (a_ rfl rfl) fun a E => n_ (t_ (wr_ ?_))
      have hmk : ∀ r, isMark [mkD wr.heap.size] r → r = wr.heap.size := fun r e => by rcases isMark_cons.1 e with e | e; exact e; cases e
      refine retM_ (v := .tuple #[.string (ofL (joinC (P.map pcT))), .int .i64 0]) E ((MarksOk.nil _).cons hDk (fun h => by cases h)) fun w9 f9 => ?_
      refine ⟨res2 rfl E.g1 E.g0, ?_⟩
      have hr : textR l = (textC l, 0) := by unfold textR; rw [if_neg (by rw [hq146]; simp), if_neg (by have := of_decide_eq_false hq147; omega)]
      obtain ⟨t9, l9, hcons⟩ := List.exists_cons_of_ne_nil (List.ne_nil_of_length_pos hlt0)
      have ht9 : y = t9 := by rw [hcons] at hy; simpa using hy.symm
      subst ht9
      have ht : textC l = joinC (P.map pcT) := by
       rw [hP]
       have hn : ¬ ((y == ((0 : Int), (10080 : Int))) = true) := by rw [hq150]; decide
       rw [hcons]; unfold textC; simp only; rw [if_neg hn]
      rw [ht] at hr
      rw [hr]
      exact ⟨rfl, hF.trans' f9 (fun r hr e => by have := hmk _ e; omega)⟩
    | true =>
     rw [hq150] at E
     refine c_t E.g0 (s_ (r_ (es_ (v := .string (ofL [97, 108, 119, 97, 121, 115])) E rfl (a_ rfl rfl) fun a E => es_ (v := .int .i64 0) E rfl (a_ rfl rfl) fun a E => n_ (t_ (wr_ (br_ (tr_ (retM_ (v := .tuple #[.string (ofL [97, 108, 119, 97, 121, 115]), .int .i64 0]) E (MarksOk.nil _) fun w9 f9 => ?_))))))))
     refine ⟨res2 rfl E.g1 E.g0, ?_⟩
     have hr : textR l = (textC l, 0) := by unfold textR; rw [if_neg (by rw [hq146]; simp), if_neg (by have := of_decide_eq_false hq147; omega)]
     obtain ⟨t9, l9, hcons⟩ := List.exists_cons_of_ne_nil (List.ne_nil_of_length_pos hlt0)
     have ht9 : y = t9 := by rw [hcons] at hy; simpa using hy.symm
     subst ht9
     have ht : textC l = always := by unfold textC; rw [hcons]; simp only; rw [if_pos hq150]
     rw [ht] at hr
     rw [hr]
     exact ⟨rfl, hf.trans' f9 (fun r hr e => by cases e)⟩
   | true =>
    rw [hq148] at E
    refine c_t E.g0 (s_ (r_ (es_ (v := .string (ofL [110, 101, 118, 101, 114])) E rfl (a_ rfl rfl) fun a E => es_ (v := .int .i64 0) E rfl (a_ rfl rfl) fun a E => n_ (t_ (wr_ (br_ (tr_ (retM_ (v := .tuple #[.string (ofL [110, 101, 118, 101, 114]), .int .i64 0]) E (MarksOk.nil _) fun w9 f9 => ?_))))))))
    refine ⟨res2 rfl E.g1 E.g0, ?_⟩
    have hr : textR l = (textC l, 0) := by unfold textR; rw [if_neg (by rw [hq146]; simp), if_neg (by have := of_decide_eq_false hq147; omega)]
    have hnil : l = [] := List.eq_nil_of_length_eq_zero (by have := hq148; rw [beq_iff_eq] at this; omega)
    have ht : textC l = never := by rw [hnil]; rfl
    rw [ht] at hr
    rw [hr]
    exact ⟨rfl, hf.trans' f9 (fun r hr e => by cases e)⟩
  | true =>
   rw [hq147] at E
   refine c_t E.g0 (s_ (r_ (es_ (v := .string (ofL [])) E rfl (a_ rfl rfl) fun a E => es_ (v := .int .i64 2) E rfl (a_ rfl rfl) fun a E => n_ (t_ (wr_ (br_ (tr_ (retM_ (v := .tuple #[.string (ofL []), .int .i64 2]) E (MarksOk.nil _) fun w9 f9 => ?_))))))))
   refine ⟨res2 rfl E.g1 E.g0, ?_⟩
   have hr : textR l = ([], 2) := by unfold textR; rw [if_neg (by rw [hq146]; simp), if_pos (by have := of_decide_eq_true hq147; omega)]
   rw [hr]
   exact ⟨rfl, hf.trans' f9 (fun r hr e => by cases e)⟩
end Go.Proofs.YtjaffpnegdcjnaaGreatDoor
