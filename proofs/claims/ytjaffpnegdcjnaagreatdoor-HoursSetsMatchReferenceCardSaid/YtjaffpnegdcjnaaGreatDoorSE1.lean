/- The text of a minute; the pieces. -/
import Derived.Test.YtjaffpnegdcjnaaGreatDoorSD8
set_option linter.unusedVariables false
set_option linter.unusedSimpArgs false
namespace Go.Proofs.YtjaffpnegdcjnaaGreatDoor
open Go.RowKit Go.Pl
theorem decS_eq {u : Nat} (h : u < 100) : Lib.decDigits u = decS u := by
 unfold decS
 split
 ·rename_i h1; rw [Lib.decDigits, dif_pos h1]; rfl
 ·rename_i h1
  rw [Lib.decDigits, dif_neg h1, Lib.decDigits, dif_pos (by omega)]; rfl
theorem dec3_eq {r : Nat} (h : r < 60) : Lib.decDigits (100 + r) = 49 :: dec2 r := by
 unfold dec2
 rw [Lib.decDigits, dif_neg (by omega), Lib.decDigits, dif_neg (by omega), Lib.decDigits, dif_pos (by omega), show (100 + r) / 10 / 10 = 1 by omega, show (100 + r) / 10 % 10 = r / 10 by omega, show (100 + r) % 10 = r % 10 by omega]
 rfl
theorem run_from1 {o : Oper} {w : World} {ρ : Operand → Value} {x : Operand} {s : Bys} (ho : o.op = .slice 9 x (some (.const (.int .i64 1))) none none) (hc : ρ (.const (.int .i64 1)) = .int .i64 1) (hx : ρ x = .string (ofL s)) (ha : 1 ≤ s.length) : (execOp ρ o).run Tryz.prog w = .ok (.value (.string (ofL (s.drop 1)))) w := run_subl (a := 1) ho hx hc ha
theorem itoa_c {n : Nat} {l : Bys} (h : Lib.decDigits n = l) : (⟨(Lib.itoa (n : Int)).toArray⟩ : ByteArray) = ofL l := by
 unfold Lib.itoa
 rw [if_neg (by omega), Int.toNat_natCast, h]; rfl
theorem itoa_calls {n : Nat} {z : Int} {l : Bys} (hz : z = n) (h : Lib.decDigits n = l) (hn : n ≤ 1000000) {w : World} (hT : Tb w) : Calls Tryz.prog 68 #[.int .i64 z] w fun e w' => e = .returned (.string (ofL l)) ∧ Fr (fun _ => False) w w' := by
 subst hz
 refine (Tryz.strconv_Itoa (n : Int) (by omega) (by omega) w hT.1).mono fun e w' h9 => ?_
 obtain ⟨h1, h2⟩ := h9
 rw [itoa_c h] at h1
 exact ⟨h1, Gw.fr h2⟩
theorem dec2_len (n : Nat) : (dec2 n).length = 2 := rfl
theorem decS_len (n : Nat) : (decS n).length ≤ 2 := by unfold decS; split <;> simp
set_option maxRecDepth 100000 in
set_option maxHeartbeats 4000000 in
theorem clocked_calls {m : Nat} (hm : m ≤ 1440) {w : World} (hT0 : Tb w) : Calls Tryz.prog 44 #[.int .i64 (m : Int)] w fun e w' => e = .returned (.string (ofL (clk (m : Int)))) ∧ Fr (fun _ => False) w w' := by
 refine wp_start1 Tryz.func44 rfl rfl (n := 15) (by decide) fun a E => ?_
 have hf : Fr (fun _ => False) w w := Fr.refl _ _
 have hT : Tb w := hT0
 refine wp_seq ?_
 refine wp_region_lit ?_
 refine ep (v := .string (ofL [])) E (run_assign rfl rfl) fun a E => ?_
 refine wpList_nil ?_
 refine then_n ?_
 refine wp_seq ?_
 refine wp_region_lit ?_
 refine ep (v := .int .i64 (m : Int)) E (run_move rfl (E.get 1 rfl)) fun a E => ?_
 refine ep (v := .int .i64 ((m : Int) % 60)) E (run_irem (E.get 0 rfl) rfl (by omega) (by omega) (by omega) (by omega) rfl) fun a E => ?_
 refine ep (v := .int .i64 (100 + ((m : Int) % 60))) E (run_iadd Tryz.underlying3 rfl (E.get 0 rfl) (by omega) (by omega) rfl) fun a E => ?_
 refine env_call (d := 7) (v := .string (ofL (49 :: dec2 (m % 60)))) E rfl (by decide) rfl (wanted_none rfl _) (run_call1 (enters_of Tryz.func68 (by kernel_rfl) rfl) rfl rfl (E.get 0 rfl)) (itoa_calls (z := (100 + ((m : Int) % 60))) (n := 100 + m % 60) (by omega) (dec3_eq (by omega)) (by omega) hT) fun a w1 f1 E => ?_
 have hT := Tb.fr hT f1 (fun r hr => id)
 have hf := hf.trans' f1 (fun _ _ h => h.elim)
 clear f1
 refine ep (v := .string (ofL (49 :: dec2 (m % 60)))) E (run_assign rfl (E.get 0 rfl)) fun a E => ?_
 refine wpList_nil ?_
 refine then_n ?_
 refine wp_seq ?_
 refine wp_region_invx (G := Unit) () (n := 15) (base := [(3, .string (ofL (49 :: dec2 (m % 60)))), (7, .string (ofL (49 :: dec2 (m % 60)))), (6, .int .i64 (100 + ((m : Int) % 60))), (5, .int .i64 ((m : Int) % 60)), (4, .int .i64 (m : Int)), (0, .int .i64 (m : Int))]) (U := [(2, .string (ofL []), 7)]) (T := fun γ => [some (8, .int .i64 (m : Int)), some (9, .int .i64 ((m : Int) / 60)), some (10, .string (ofL (decS (m / 60)))), some (11, .string (ofL ((decS (m / 60)) ++ [58]))), some (12, .string (ofL (49 :: dec2 (m % 60)))), some (13, .string (ofL (dec2 (m % 60)))), some (14, .string (ofL (((decS (m / 60)) ++ [58]) ++ (dec2 (m % 60))))), some (2, .string (ofL (((decS (m / 60)) ++ [58]) ++ (dec2 (m % 60)))))]) (M := fun γ ls9 wm => Fr (fun _ => False) w1 wm) (by kernel_rfl) (by kernel_rfl) (fun _ => by kernel_rfl) (E.of ⟨E.get 0 rfl, E.get 1 rfl, E.get 2 rfl, E.get 3 rfl, E.get 4 rfl, E.get 6 rfl, trivial⟩) (fun x hx => by simp only [List.mem_cons, List.not_mem_nil, or_false] at hx; subst hx; exact E.get 5 rfl) (Fr.refl _ _).drew ?_ ?_
 ·intro j9 o9 γ ls9 a w5 ho hl E D DL DL2 hB hM
  have hT := Tb.fr hT hM (fun r hr => id)
  match j9, ho, hl, D, DL, hB with
  | 0, ho, hl, D, DL, hB =>
   obtain rfl := Option.some.inj ho
   clear ho
   exact ⟨fun _ => valx rfl (run_move rfl (E.get 5 rfl)) rfl hM, fun h => by rw [wanted_none rfl] at h; cases h⟩
  | 1, ho, hl, D, DL, hB =>
   obtain rfl := Option.some.inj ho
   clear ho
   exact ⟨fun _ => valx rfl (run_iquo (D 0 _ rfl rfl) rfl (by omega) (by omega) (by omega) (by omega) rfl) rfl hM, fun h => by rw [wanted_none rfl] at h; cases h⟩
  | 2, ho, hl, D, DL, hB =>
   obtain rfl := Option.some.inj ho
   clear ho
   exact ⟨fun _ => callx rfl (run_call1 (enters_of Tryz.func68 (by kernel_rfl) rfl) rfl rfl (D 1 _ rfl rfl)) (itoa_calls (z := ((m : Int) / 60)) (n := m / 60) (by omega) (decS_eq (by omega)) (by omega) hT) rfl fun w9 f1 => hM.trans' f1 (fun _ _ h => h.elim), fun h => by rw [wanted_none rfl] at h; cases h⟩
  | 3, ho, hl, D, DL, hB =>
   obtain rfl := Option.some.inj ho
   clear ho
   exact ⟨fun _ => valx rfl (run_sadd (D 2 _ rfl rfl) rfl rfl (by simp only [List.length_append, List.length_cons, List.length_nil, dec2_len]; have := decS_len (n := m / 60); omega)) rfl hM, fun h => by rw [wanted_none rfl] at h; cases h⟩
  | 4, ho, hl, D, DL, hB =>
   obtain rfl := Option.some.inj ho
   clear ho
   exact ⟨fun _ => valx rfl (run_move rfl (E.get 0 rfl)) rfl hM, fun h => by rw [wanted_none rfl] at h; cases h⟩
  | 5, ho, hl, D, DL, hB =>
   obtain rfl := Option.some.inj ho
   clear ho
   exact ⟨fun _ => valx rfl (run_from1 rfl rfl (D 4 _ rfl rfl) (by simp)) rfl hM, fun h => by rw [wanted_none rfl] at h; cases h⟩
  | 6, ho, hl, D, DL, hB =>
   obtain rfl := Option.some.inj ho
   clear ho
   exact ⟨fun _ => valx rfl (run_sadd (D 3 _ rfl rfl) (D 5 _ rfl rfl) rfl (by simp only [List.length_append, List.length_cons, List.length_nil, dec2_len]; have := decS_len (n := m / 60); omega)) rfl hM, fun h => by rw [wanted_none rfl] at h; cases h⟩
  | 7, ho, hl, D, DL, hB =>
   obtain rfl := Option.some.inj ho
   clear ho
   exact ⟨fun _ => valx rfl (run_assign rfl (D 6 _ rfl rfl)) rfl hM, fun h => by rw [wanted_none rfl] at h; cases h⟩
  | j9 + 8, ho, hl, D, DL, hB => exact absurd ho (by simp)
 ·rintro _ a w5 E V hM
  have E := E.add (v := .string (ofL (((decS (m / 60)) ++ [58]) ++ (dec2 (m % 60))))) (V 7 _ rfl)
  clear V
  have hT := Tb.fr hT hM (fun r hr => id)
  have hf := hf.trans' hM (fun _ _ h => h.elim)
  clear hM
  refine then_n ?_
  refine wp_ret ?_
  have he : (decS (m / 60) ++ [58]) ++ dec2 (m % 60) = clk (m : Int) := by
   unfold clk
   rw [show ((m : Int) / 60).toNat = m / 60 by omega, show ((m : Int) % 60).toNat = m % 60 by omega, List.append_assoc]; rfl
  rw [he] at E
  exact ret_tmp (t := 2) rfl E (E.get 0 rfl) ⟨rfl, hf⟩
set_option maxRecDepth 100000 in
set_option maxHeartbeats 4000000 in
theorem pieces_calls {p : Option Addr} {n c : Nat} {w : World} : Calls Tryz.prog 42 #[.slice p n c] w fun e w' => ∃ b, e = .returned (.func (.func 66) #[] #[.pointer (some ⟨b, 0, none⟩)]) ∧ w'.heap[b]? = some (.cells #[.slice p n c] 22 (0, 0)) ∧ w.heap.size ≤ b ∧ Fr (fun _ => False) w w' := by
 refine wp_start1 Tryz.func42 rfl rfl (n := 4) (by decide) fun a E => ?_
 have hf : Fr (fun _ => False) w w := Fr.refl _ _
 refine wp_seq ?_
 refine wp_region_lit ?_
 refine env_new (d := 1) E rfl (by decide) rfl (wanted_none rfl _) (run_box22 rfl (E.get 0 rfl)) fun a w1 b145 eb145 hb145 f1 E => ?_
 have hnb145 : w.heap.size ≤ b145 := by have := hf.size; omega
 have hf := hf.trans' f1 (fun _ _ h => h.elim)
 clear f1
 refine ep (v := Value.nilFunc) E (run_assign rfl rfl) fun a E => ?_
 refine wpList_nil ?_
 refine then_n ?_
 refine wp_seq ?_
 refine wp_region_lit ?_
 refine ep (v := .func (.func 66) #[] #[.pointer (some ⟨b145, 0, none⟩)]) E (run_mkfn rfl (E.get 1 rfl)) fun a E => ?_
 refine env_set (d := 2) (v := .func (.func 66) #[] #[.pointer (some ⟨b145, 0, none⟩)]) E rfl (by decide) (wanted_none rfl _) (run_assign rfl (E.get 0 rfl)) fun a E => ?_
 refine wpList_nil ?_
 refine then_n ?_
 refine wp_ret ?_
 exact ret_tmp (t := 2) rfl E (E.get 0 rfl) ⟨_, rfl, hb145, hnb145, hf⟩
end Go.Proofs.YtjaffpnegdcjnaaGreatDoor
