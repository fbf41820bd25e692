/- Parse. -/
import Derived.Test.YtjaffpnegdcjnaaGreatDoorSD7
set_option linter.unusedVariables false
set_option linter.unusedSimpArgs false
namespace Go.Proofs.YtjaffpnegdcjnaaGreatDoor
open Go.RowKit Go.Pl
def LexI (rl : Except (Int × Int) (List (Tok Int))) (B : Nat) (v : Value) (c x : Int) (W : World) : Prop := (rl = .error (c, x) ∧ c ≠ 0 ∧ v = .slice none 0 0) ∨ ∃ ts, rl = .ok ts ∧ c = 0 ∧ x = 0 ∧ oTk W B v ts
theorem LexI.fr {rl : Except (Int × Int) (List (Tok Int))} {B : Nat} {v : Value} {c x : Int} {w w' : World} {F : Nat → Prop} (h : LexI rl B v c x w) (f : Fr F w w') (hF : ∀ k, B ≤ k → ¬ F k) : LexI rl B v c x w' :=
 h.imp id fun ⟨ts, h1, h2, h3, h4⟩ => ⟨ts, h1, h2, h3, h4.fr f fun k hk => hF k (h4.lt hk).1⟩
set_option maxRecDepth 100000 in
set_option maxHeartbeats 4000000 in
theorem parse_calls (s : Bys) (hs : s.length ≤ 4900) (w : World) (hT0 : Tb w) : Calls Tryz.prog 13 #[.string (ofL s)] w fun e w' => match parseP s with | .error (c, x) => e = .returned (.tuple #[.slice none 0 0, .int .i64 c, .int .i64 x]) ∧ Fr (fun _ => False) w w' | .ok l => ∃ v, e = .returned (.tuple #[v, .int .i64 0, .int .i64 0]) ∧ SpV w' v l ∧ Fr (fun _ => False) w w' := by
 refine wp_startD1 Tryz.func13 rfl rfl (n := 38) (by decide) fun a E => ?_
 have hf : Fr (fun _ => False) w w := Fr.refl _ _
 have hT : Tb w := hT0
 have hTlw := hT0.lt
 refine wp_seq ?_
 refine wp_region_lit ?_
 refine env_new (d := 2) E rfl (by decide) rfl (wanted_none rfl _) (run_alloc22 rfl) fun a w1 b138 eb138 hb138 f1 E => ?_
 have hnb138 : w.heap.size ≤ b138 := by have := hf.size; omega
 have hT := Tb.fr hT f1 (fun r hr => id)
 have hf := hf.trans' f1 (fun _ _ h => h.elim)
 clear f1
 refine env_new (d := 3) E rfl (by decide) rfl (wanted_none rfl _) (run_alloc25 rfl) fun a w1 b139 eb139 hb139 f1 E => ?_
 have hnb139 : w.heap.size ≤ b139 := by have := hf.size; omega
 have hlb138b139 : b138 < b139 := by have := lt_of_blk hb138; omega
 have hT := Tb.fr hT f1 (fun r hr => id)
 have hb138 := f1.obj hb138 id
 have hf := hf.trans' f1 (fun _ _ h => h.elim)
 clear f1
 refine env_new (d := 4) E rfl (by decide) rfl (wanted_none rfl _) (run_alloc3 rfl) fun a w1 b140 eb140 hb140 f1 E => ?_
 have hnb140 : w.heap.size ≤ b140 := by have := hf.size; omega
 have hlb138b140 : b138 < b140 := by have := lt_of_blk hb138; omega
 have hlb139b140 : b139 < b140 := by have := lt_of_blk hb139; omega
 have hT := Tb.fr hT f1 (fun r hr => id)
 have hb138 := f1.obj hb138 id
 have hb139 := f1.obj hb139 id
 have hf := hf.trans' f1 (fun _ _ h => h.elim)
 clear f1
 refine wpList_nil ?_
 refine then_n ?_
 refine wp_seq ?_
 refine wp_region_lit ?_
 refine ep (v := .string (ofL s)) E (run_move rfl (E.get 3 rfl)) fun a E => ?_
 obtain ⟨B, hB⟩ : ∃ B, B = w1.heap.size := ⟨_, rfl⟩
 have hgb138 : b138 < B := by have := lt_of_blk hb138; omega
 have hgb139 : b139 < B := by have := lt_of_blk hb139; omega
 have hgb140 : b140 < B := by have := lt_of_blk hb140; omega
 obtain ⟨rl, hrl⟩ : ∃ rl, rl = lexP s := ⟨_, rfl⟩
 refine env_callv (d := 10) (R := fun u w8 => ∃ v c x, u = .tuple #[v, .int .i64 c, .int .i64 x] ∧ Fr (fun _ => False) w1 w8 ∧ LexI rl B v c x w8) E rfl (by decide) rfl (wanted_none rfl _) (run_call1 (enters_of Tryz.func20 (by kernel_rfl) rfl) rfl rfl (E.get 0 rfl)) ((lex_calls s (by omega) _).mono fun e w8 h => ?_) fun a w1 u ⟨v, c, x, hu, f1, hlx⟩ E => ?_
 ·rcases lexP_cases s with ⟨e1, a1, h1, h2, _⟩ | ⟨h1, _⟩
  ·rw [h1] at h hrl
   obtain ⟨rfl, h⟩ := h
   exact ⟨_, rfl, _, _, _, rfl, h, .inl ⟨hrl, h2, rfl⟩⟩
  ·rw [h1] at h hrl
   obtain ⟨v, rfl, h3, h⟩ := h
   exact ⟨_, rfl, _, _, _, rfl, h, .inr ⟨_, hrl, rfl, rfl, hB ▸ h3⟩⟩
 subst hu
 have hT := Tb.fr hT f1 (fun r hr => id)
 have hb138 := f1.obj hb138 id
 have hb139 := f1.obj hb139 id
 have hb140 := f1.obj hb140 id
 have hf := hf.trans' f1 (fun _ _ h => h.elim)
 clear f1
 refine ep (v := .tuple #[v, .int .i64 c, .int .i64 x]) E (run_move rfl (E.get 0 rfl)) fun a E => ?_
 refine ep (v := v) E (run_ex0of3 rfl (E.get 0 rfl)) fun a E => ?_
 refine ep (v := .int .i64 c) E (run_ex1of3 rfl (E.get 1 rfl)) fun a E => ?_
 refine ep (v := .int .i64 x) E (run_ex2of3 rfl (E.get 2 rfl)) fun a E => ?_
 refine ep (v := v) E (run_assign rfl (E.get 2 rfl)) fun a E => ?_
 refine ep (v := .int .i64 c) E (run_assign rfl (E.get 2 rfl)) fun a E => ?_
 refine env_st1 (j := 0) E rfl (wanted_none rfl _) hb140 (run_st3 rfl (E.get 8 rfl) (E.get 2 rfl) (bx hb140 0 rfl) (free_of_blk hb140 0)) fun w1 hb140n f1 E => ?_
 replace hb140n : w1.heap[b140]? = some (.cells #[.int .i64 x] 3 (0, 0)) := hb140n
 have hT := Tb.fr hT f1 (fun r hr => (fun e => by (try simp only at e); omega))
 have hb138 := f1.obj hb138 (fun e => by (try simp only at e); omega)
 have hb139 := f1.obj hb139 (fun e => by (try simp only at e); omega)
 have hlx := LexI.fr hlx f1 (fun k hk => (fun e => by (try simp only at e); omega))
 have hf := hf.trans' f1 (fun r hr => (fun e => by (try simp only at e); omega))
 clear f1
 replace hb140 := hb140n
 refine wpList_nil ?_
 refine then_n ?_
 refine wp_seq ?_
 refine wp_seq ?_
 refine wp_region_lit ?_
 refine ep (v := .int .i64 c) E (run_move rfl (E.get 0 rfl)) fun a E => ?_
 refine ep (v := .bool (c != 0)) E (run_ineq (E.get 0 rfl) rfl Tryz.underlying25 rfl) fun a E => ?_
 refine wpList_nil ?_
 refine then_n ?_
 cases hq141 : (c != 0) with
 | false =>
  rw [hq141] at E
  rcases hlx with ⟨_, hx2, _⟩ | ⟨ts, hx1, rfl, rfl, hO⟩
  ·exact absurd (by simpa using hq141) hx2
  obtain ⟨pt, ct, rfl, hct1, hct2, htk, hzt⟩ := ow.src tkL_len hO
  obtain ⟨hts1, _, hts2, hts3, hts4⟩ := lexP_tk (l := s) (ts := ts) (by rw [← hrl, hx1])
  refine wp_cond_false (E.get 0 rfl) ?_
  refine wp_skip ?_
  refine then_n ?_
  refine wp_seq ?_
  refine wp_region_lit ?_
  refine ep (v := .func (.func 32) #[] #[.pointer (some ⟨b138, 0, none⟩), .pointer (some ⟨b139, 0, none⟩), .pointer (some ⟨b140, 0, none⟩)]) E (run_mkfn3 rfl (E.get 12 rfl) (E.get 11 rfl) (E.get 10 rfl)) fun a E => ?_
  refine env_defer E rfl (wanted_none rfl _) (run_defer rfl (E.get 0 rfl)) fun a E => ?_
  refine wpList_nil ?_
  refine then_n ?_
  refine wp_seq ?_
  refine wp_region_lit ?_
  refine ep (v := .slice (pt) ts.length ct) E (run_move rfl (E.get 4 rfl)) fun a E => ?_
  refine ep (v := .string (ofL s)) E (run_move rfl (E.get 15 rfl)) fun a E => ?_
  refine ep (v := .int .i64 (s.length : Int)) E (run_slen rfl (E.get 0 rfl)) fun a E => ?_
  refine ep (v := .agg #[.slice (pt) ts.length ct, .int .i64 (s.length : Int)]) E (run_b57 rfl (E.get 2 rfl) (E.get 0 rfl)) fun a E => ?_
  refine ep (v := .agg #[.slice (pt) ts.length ct, .int .i64 (s.length : Int), .slice none 0 0]) E (run_b59 rfl (E.get 0 rfl)) fun a E => ?_
  refine env_new (d := 24) E rfl (by decide) rfl (wanted_none rfl _) (run_box59 rfl (E.get 0 rfl)) fun a w1 b142 eb142 hb142 f1 E => ?_
  have hnb142 : w.heap.size ≤ b142 := by have := hf.size; omega
  have hlb138b142 : b138 < b142 := by have := lt_of_blk hb138; omega
  have hlb139b142 : b139 < b142 := by have := lt_of_blk hb139; omega
  have hlb140b142 : b140 < b142 := by have := lt_of_blk hb140; omega
  have hT := Tb.fr hT f1 (fun r hr => id)
  have hb138 := f1.obj hb138 id
  have hb139 := f1.obj hb139 id
  have hb140 := f1.obj hb140 id
  have htk := srcAt.fr htk f1 (fun r hr => id)
  have hf := hf.trans' f1 (fun _ _ h => h.elim)
  clear f1
  refine ep (v := .pointer (some ⟨b142, 0, none⟩)) E (run_assign rfl (E.get 0 rfl)) fun a E => ?_
  refine wpList_nil ?_
  refine then_n ?_
  refine wp_seq ?_
  have hRO : RdO w1 b142 b142 (b142 + 1) (s.length : Int) ts [] := ⟨by omega, by have := lt_of_blk hb142; omega, _, ⟨Nat.le_refl _, _, hb142, pt, ct, rfl, hct1, hct2, htk.mono (by omega), hzt⟩, ow_nil _⟩
  obtain ⟨rt, hrt⟩ : ∃ rt, rt = textS (s.length : Int) ts := ⟨_, rfl⟩
  have hTl := hT.lt
  have hC := text_calls hRO hts2 hT (by omega) (by omega)
  unfold StepO at hC
  rw [← hrt] at hC
  refine wp_region_lit ?_
  refine ep (v := .pointer (some ⟨b142, 0, none⟩)) E (run_move rfl (E.get 0 rfl)) fun a E => ?_
  rcases hqt : rt with ⟨c, x⟩ | ⟨sp, l9⟩
  ·rw [hqt] at hC hrt
   refine env_callp (ch := pn c x) (R := fun w8 => Fr (fun r => r = b142 ∨ b142 + 1 ≤ r) w1 w8) (wanted_none rfl _) (run_call1 (enters_of Tryz.func33 (by kernel_rfl) rfl) rfl rfl (E.get 0 rfl)) (hC.mono fun e w8 h => ⟨h.2, h.1⟩) fun w1 f1 => ?_
   have hT := Tb.fr hT f1 (fun r hr => (fun e => by (try simp only at e); omega))
   have hb138 := f1.obj hb138 (fun e => by (try simp only at e); omega)
   have hb139 := f1.obj hb139 (fun e => by (try simp only at e); omega)
   have hb140 := f1.obj hb140 (fun e => by (try simp only at e); omega)
   have hf := hf.trans' f1 (fun r hr => (fun e => by (try simp only at e); omega))
   clear f1
   refine then_p ?_
   show Leaves Tryz.prog _ a.tmps _ a.defers (.panicking (pn c x)) _
   rw [E.df]
   refine leaves_cons (f := 32) (args := #[.pointer (some ⟨b138, 0, none⟩), .pointer (some ⟨b139, 0, none⟩), .pointer (some ⟨b140, 0, none⟩)]) (by simp) (by simp [go_sem]) ((catch_panic c x hb138 hb139 hb140 (by omega) (by omega)).mono ?_)
   rintro e u w8 ⟨rfl, rfl, g2, g3, g4, f9⟩
   show Leaves Tryz.prog _ a.tmps _ [] .returning _
   refine ⟨_, res3 (.inr ⟨Tryz.underlying22, rfl⟩) rfl (E.get 21 rfl) (E.get 20 rfl) (E.get 19 rfl) (bx g2 0 rfl) (bx g3 0 rfl) (bx g4 0 rfl), ?_⟩
   have hP : parseP s = .error (c, x) := by unfold parseP; rw [← hrl, hx1]; simp only; rw [textP_S, ← hrt]
   rw [hP]
   exact ⟨rfl, hf.trans' f9 (fun r hr e => by omega)⟩
  ·rw [hqt] at hC hrt
   refine env_callv (d := 26) (R := fun u w8 => u = .tuple #[] ∧ RdO w8 b142 b142 (b142 + 1) (s.length : Int) l9 ([] ++ sp) ∧ Fr (fun r => r = b142 ∨ b142 + 1 ≤ r) w1 w8) E rfl (by decide) rfl (wanted_none rfl _) (run_call1 (enters_of Tryz.func33 (by kernel_rfl) rfl) rfl rfl (E.get 0 rfl)) (hC.mono fun e w8 h => ⟨_, h.2.1, rfl, h.2.2, h.1⟩) fun a w1 u ⟨hu, hR2, f1⟩ E => ?_
   subst hu
   have hT := Tb.fr hT f1 (fun r hr => (fun e => by (try simp only at e); omega))
   have hb138 := f1.obj hb138 (fun e => by (try simp only at e); omega)
   have hb139 := f1.obj hb139 (fun e => by (try simp only at e); omega)
   have hb140 := f1.obj hb140 (fun e => by (try simp only at e); omega)
   have hf := hf.trans' f1 (fun r hr => (fun e => by (try simp only at e); omega))
   clear f1
   rw [List.nil_append] at hR2
   obtain ⟨_, _, sv, ⟨_, lv9, hrb9, _⟩, hOs⟩ := hR2
   obtain ⟨ps, cs, rfl, hcs1, hcs2, hss, hzs⟩ := ow.src spL_len hOs
   have hcn := text_cnt hts2 hrt.symm
   have hwk : wk sp := textP_wk hts2 (by rw [textP_S, ← hrt])
   refine wpList_nil ?_
   refine then_n ?_
   refine wp_seq ?_
   refine wp_region_lit ?_
   refine ep (v := .pointer (some ⟨b142, 0, none⟩)) E (run_move rfl (E.get 2 rfl)) fun a E => ?_
   refine ep (v := .pointer (some ⟨b142, 0, none⟩)) E (run_nilchk rfl (E.get 0 rfl)) fun a E => ?_
   refine ep (v := .pointer (some ⟨b142, 2, none⟩)) E (fa59_1 rfl (E.get 0 rfl)) fun a E => ?_
   refine ep (v := .slice (ps) sp.length cs) E (run_ld22 rfl (E.get 0 rfl) (bx hrb9 2 rfl)) fun a E => ?_
   obtain ⟨Bu, hBu⟩ : ∃ Bu, Bu = w1.heap.size := ⟨_, rfl⟩
   have hgub138 : b138 < Bu := by have := lt_of_blk hb138; omega
   have hgub139 : b139 < Bu := by have := lt_of_blk hb139; omega
   have hgub140 : b140 < Bu := by have := lt_of_blk hb140; omega
   have hgub142 : b142 < Bu := by have := lt_of_blk hrb9; omega
   refine env_callv (d := 31) (R := fun u w8 => oSp w8 Bu u (canon sp) ∧ Fr (fun _ => False) w1 w8) E rfl (by decide) rfl (wanted_none rfl _) (run_call1 (enters_of Tryz.func34 (by kernel_rfl) rfl) rfl rfl (E.get 0 rfl)) ((united_calls (w := w1) (l := sp) ⟨ps, cs, rfl, hcs1, hcs2, hss, hzs⟩ hwk (by omega)).mono fun e w8 h => by obtain ⟨u, rfl, h⟩ := h; exact ⟨_, rfl, hBu ▸ h⟩) fun a w1 u ⟨hOu, f1⟩ E => ?_
   obtain ⟨pu, cu, rfl, hcu1, hcu2, hsu, hzu⟩ := ow.src spL_len hOu
   have hT := Tb.fr hT f1 (fun r hr => id)
   have hb138 := f1.obj hb138 id
   have hb139 := f1.obj hb139 id
   have hb140 := f1.obj hb140 id
   have hf := hf.trans' f1 (fun _ _ h => h.elim)
   clear f1
   refine env_st1 (j := 0) E rfl (wanted_none rfl _) hb138 (run_st22 rfl (E.get 27 rfl) (E.get 0 rfl) (bx hb138 0 rfl) (free_of_blk hb138 0)) fun w1 hb138n f1 E => ?_
   replace hb138n : w1.heap[b138]? = some (.cells #[.slice (pu) (canon sp).length cu] 22 (0, 0)) := hb138n
   have hT := Tb.fr hT f1 (fun r hr => (fun e => by (try simp only at e); omega))
   have hb139 := f1.obj hb139 (fun e => by (try simp only at e); omega)
   have hb140 := f1.obj hb140 (fun e => by (try simp only at e); omega)
   have hOu := hOu.fr f1 (fun k hk e => by have := (hOu.lt hk).1; (try simp only at e); omega)
   have hf := hf.trans' f1 (fun r hr => (fun e => by (try simp only at e); omega))
   clear f1
   replace hb138 := hb138n
   refine wpList_nil ?_
   refine then_n ?_
   refine wp_seq ?_
   refine wp_seq ?_
   refine wp_region_lit ?_
   refine ep (v := .slice (pu) (canon sp).length cu) E (run_ld22 rfl (E.get 27 rfl) (bx hb138 0 rfl)) fun a E => ?_
   refine ep (v := .int .i64 ((canon sp).length : Int)) E (run_len22 rfl (E.get 0 rfl)) fun a E => ?_
   refine ep (v := .bool (decide (60 < ((canon sp).length : Int)))) E (run_igtr (E.get 0 rfl) rfl Tryz.underlying3 rfl) fun a E => ?_
   refine wpList_nil ?_
   refine then_n ?_
   cases hq143 : (decide (60 < ((canon sp).length : Int))) with
   | false =>
    rw [hq143] at E
    refine wp_cond_false (E.get 0 rfl) ?_
    refine wp_skip ?_
    refine then_n ?_
    refine wp_seq ?_
    refine wp_region_lit ?_
    refine ep (v := .slice (pu) (canon sp).length cu) E (run_ld22 rfl (E.get 30 rfl) (bx hb138 0 rfl)) fun a E => ?_
    refine env_st1 (j := 0) E rfl (wanted_none rfl _) hb138 (run_st22 rfl (E.get 31 rfl) (E.get 0 rfl) (bx hb138 0 rfl) (free_of_blk hb138 0)) fun w1 hb138n f1 E => ?_
    replace hb138n : w1.heap[b138]? = some (.cells #[.slice (pu) (canon sp).length cu] 22 (0, 0)) := hb138n
    have hT := Tb.fr hT f1 (fun r hr => (fun e => by (try simp only at e); omega))
    have hb139 := f1.obj hb139 (fun e => by (try simp only at e); omega)
    have hb140 := f1.obj hb140 (fun e => by (try simp only at e); omega)
    have hOu := hOu.fr f1 (fun k hk e => by have := (hOu.lt hk).1; (try simp only at e); omega)
    have hf := hf.trans' f1 (fun r hr => (fun e => by (try simp only at e); omega))
    clear f1
    replace hb138 := hb138n
    refine env_st1 (j := 0) E rfl (wanted_none rfl _) hb139 (run_st25 rfl (E.get 30 rfl) rfl (bx hb139 0 rfl) (free_of_blk hb139 0)) fun w1 hb139n f1 E => ?_
    replace hb139n : w1.heap[b139]? = some (.cells #[.int .i64 0] 25 (0, 0)) := hb139n
    have hT := Tb.fr hT f1 (fun r hr => (fun e => by (try simp only at e); omega))
    have hb138 := f1.obj hb138 (fun e => by (try simp only at e); omega)
    have hb140 := f1.obj hb140 (fun e => by (try simp only at e); omega)
    have hOu := hOu.fr f1 (fun k hk e => by have := (hOu.lt hk).1; (try simp only at e); omega)
    have hf := hf.trans' f1 (fun r hr => (fun e => by (try simp only at e); omega))
    clear f1
    replace hb139 := hb139n
    refine env_st1 (j := 0) E rfl (wanted_none rfl _) hb140 (run_st3 rfl (E.get 29 rfl) rfl (bx hb140 0 rfl) (free_of_blk hb140 0)) fun w1 hb140n f1 E => ?_
    replace hb140n : w1.heap[b140]? = some (.cells #[.int .i64 0] 3 (0, 0)) := hb140n
    have hT := Tb.fr hT f1 (fun r hr => (fun e => by (try simp only at e); omega))
    have hb138 := f1.obj hb138 (fun e => by (try simp only at e); omega)
    have hb139 := f1.obj hb139 (fun e => by (try simp only at e); omega)
    have hOu := hOu.fr f1 (fun k hk e => by have := (hOu.lt hk).1; (try simp only at e); omega)
    have hf := hf.trans' f1 (fun r hr => (fun e => by (try simp only at e); omega))
    clear f1
    replace hb140 := hb140n
    refine wpList_nil ?_
    refine then_n ?_
    refine wp_ret ?_
    show Leaves Tryz.prog _ a.tmps _ a.defers .returning _
    rw [E.df]
    refine leaves_cons (f := 32) (args := #[.pointer (some ⟨b138, 0, none⟩), .pointer (some ⟨b139, 0, none⟩), .pointer (some ⟨b140, 0, none⟩)]) (by simp) (by simp [go_sem]) ((catch_idle _ _ _ _).mono ?_)
    rintro e u w8 ⟨rfl, rfl, rfl⟩
    show Leaves Tryz.prog _ a.tmps _ [] .returning _
    refine ⟨_, res3 (.inr ⟨Tryz.underlying22, rfl⟩) rfl (E.get 31 rfl) (E.get 30 rfl) (E.get 29 rfl) (bx hb138 0 rfl) (bx hb139 0 rfl) (bx hb140 0 rfl), ?_⟩
    have h60 := hq143
    have hP : parseP s = .ok (canon sp) := by
     unfold parseP; rw [← hrl, hx1]; simp only; rw [textP_S, ← hrt]; simp only
     rw [if_neg (by have := of_decide_eq_false h60; omega)]
    rw [hP]
    exact ⟨_, rfl, ow.Src spL_len hOu, hf⟩
   | true =>
    rw [hq143] at E
    refine wp_cond_true (E.get 0 rfl) ?_
    refine wp_seq ?_
    refine wp_region_lit ?_
    refine ep (v := .string (ofL s)) E (run_move rfl (E.get 31 rfl)) fun a E => ?_
    refine ep (v := .int .i64 (s.length : Int)) E (run_slen rfl (E.get 0 rfl)) fun a E => ?_
    refine env_st1 (j := 0) E rfl (wanted_none rfl _) hb138 (run_st22 rfl (E.get 32 rfl) rfl (bx hb138 0 rfl) (free_of_blk hb138 0)) fun w1 hb138n f1 E => ?_
    replace hb138n : w1.heap[b138]? = some (.cells #[.slice none 0 0] 22 (0, 0)) := hb138n
    have hT := Tb.fr hT f1 (fun r hr => (fun e => by (try simp only at e); omega))
    have hb139 := f1.obj hb139 (fun e => by (try simp only at e); omega)
    have hb140 := f1.obj hb140 (fun e => by (try simp only at e); omega)
    have hOu := hOu.fr f1 (fun k hk e => by have := (hOu.lt hk).1; (try simp only at e); omega)
    have hf := hf.trans' f1 (fun r hr => (fun e => by (try simp only at e); omega))
    clear f1
    replace hb138 := hb138n
    refine env_st1 (j := 0) E rfl (wanted_none rfl _) hb139 (run_st25 rfl (E.get 31 rfl) rfl (bx hb139 0 rfl) (free_of_blk hb139 0)) fun w1 hb139n f1 E => ?_
    replace hb139n : w1.heap[b139]? = some (.cells #[.int .i64 2] 25 (0, 0)) := hb139n
    have hT := Tb.fr hT f1 (fun r hr => (fun e => by (try simp only at e); omega))
    have hb138 := f1.obj hb138 (fun e => by (try simp only at e); omega)
    have hb140 := f1.obj hb140 (fun e => by (try simp only at e); omega)
    have hOu := hOu.fr f1 (fun k hk e => by have := (hOu.lt hk).1; (try simp only at e); omega)
    have hf := hf.trans' f1 (fun r hr => (fun e => by (try simp only at e); omega))
    clear f1
    replace hb139 := hb139n
    refine env_st1 (j := 0) E rfl (wanted_none rfl _) hb140 (run_st3 rfl (E.get 30 rfl) (E.get 0 rfl) (bx hb140 0 rfl) (free_of_blk hb140 0)) fun w1 hb140n f1 E => ?_
    replace hb140n : w1.heap[b140]? = some (.cells #[.int .i64 (s.length : Int)] 3 (0, 0)) := hb140n
    have hT := Tb.fr hT f1 (fun r hr => (fun e => by (try simp only at e); omega))
    have hb138 := f1.obj hb138 (fun e => by (try simp only at e); omega)
    have hb139 := f1.obj hb139 (fun e => by (try simp only at e); omega)
    have hOu := hOu.fr f1 (fun k hk e => by have := (hOu.lt hk).1; (try simp only at e); omega)
    have hf := hf.trans' f1 (fun r hr => (fun e => by (try simp only at e); omega))
    clear f1
    replace hb140 := hb140n
    refine wpList_nil ?_
    refine then_n ?_
    refine wp_ret ?_
    refine then_r ?_
    show Leaves Tryz.prog _ a.tmps _ a.defers .returning _
    rw [E.df]
    refine leaves_cons (f := 32) (args := #[.pointer (some ⟨b138, 0, none⟩), .pointer (some ⟨b139, 0, none⟩), .pointer (some ⟨b140, 0, none⟩)]) (by simp) (by simp [go_sem]) ((catch_idle _ _ _ _).mono ?_)
    rintro e u w8 ⟨rfl, rfl, rfl⟩
    show Leaves Tryz.prog _ a.tmps _ [] .returning _
    refine ⟨_, res3 (.inr ⟨Tryz.underlying22, rfl⟩) rfl (E.get 32 rfl) (E.get 31 rfl) (E.get 30 rfl) (bx hb138 0 rfl) (bx hb139 0 rfl) (bx hb140 0 rfl), ?_⟩
    have h60 := hq143
    have hP : parseP s = .error (2, (s.length : Int)) := by
     unfold parseP; rw [← hrl, hx1]; simp only; rw [textP_S, ← hrt]; simp only
     rw [if_pos (by have := of_decide_eq_true h60; omega)]
    rw [hP]
    exact ⟨rfl, hf⟩
 | true =>
  rw [hq141] at E
  have hx1 : rl = .error (c, x) ∧ v = .slice none 0 0 := by
   rcases hlx with ⟨hx1, hx2, hx3⟩ | ⟨ts, _, hx2, _⟩
   ·exact ⟨hx1, hx3⟩
   ·rw [hx2] at hq141; cases hq141
  obtain ⟨hx1, rfl⟩ := hx1
  refine wp_cond_true (E.get 0 rfl) ?_
  refine wp_seq ?_
  refine wp_region_invx (G := Unit) () (n := 38) (base := [(15, .bool true), (14, .int .i64 c), (6, .int .i64 c), (5, .slice none 0 0), (13, .int .i64 x), (12, .int .i64 c), (11, .slice none 0 0), (8, .tuple #[.slice none 0 0, .int .i64 c, .int .i64 x]), (10, .tuple #[.slice none 0 0, .int .i64 c, .int .i64 x]), (9, .string (ofL s)), (4, .pointer (some ⟨b140, 0, none⟩)), (3, .pointer (some ⟨b139, 0, none⟩)), (2, .pointer (some ⟨b138, 0, none⟩)), (0, .string (ofL s))]) (U := []) (T := fun γ => [some (16, .int .i64 c), some (17, .int .i64 x), none, none, none]) (M := fun γ ls9 wm => Fr (fun r => r = b138 ∨ r = b139 ∨ r = b140) w1 wm ∧ wm.heap[b138]? = some (.cells #[.slice none 0 0] 22 (0, 0)) ∧ wm.heap[b139]? = some (.cells #[(bif ls9 3 then .int .i64 c else .int .i64 0)] 25 (0, 0)) ∧ wm.heap[b140]? = some (.cells #[.int .i64 x] 3 (0, 0))) (by kernel_rfl) (by kernel_rfl) (fun _ => by kernel_rfl) (E.of ⟨E.get 0 rfl, E.get 1 rfl, E.get 2 rfl, E.get 3 rfl, E.get 4 rfl, E.get 5 rfl, E.get 6 rfl, E.get 7 rfl, E.get 8 rfl, E.get 9 rfl, E.get 10 rfl, E.get 11 rfl, E.get 12 rfl, E.get 13 rfl, trivial⟩) (fun x hx => by cases hx) ⟨(Fr.refl _ _).drew, hb138, hb139, hb140⟩ ?_ ?_
  ·intro j9 o9 γ ls9 a w5 ho hl E D DL DL2 hB hM
   have hT := Tb.fr hT hM.1 (fun r hr => (fun e => by (try simp only at e); omega))
   have hb138 := hM.2.1
   have hb139 := hM.2.2.1
   have hb140 := hM.2.2.2
   match j9, ho, hl, D, DL, hB with
   | 0, ho, hl, D, DL, hB =>
    obtain rfl := Option.some.inj ho
    clear ho
    exact ⟨fun _ => valx rfl (run_move rfl (E.get 2 rfl)) rfl hM, fun h => by rw [wanted_none rfl] at h; cases h⟩
   | 1, ho, hl, D, DL, hB =>
    obtain rfl := Option.some.inj ho
    clear ho
    exact ⟨fun _ => valx rfl (run_ldi rfl (E.get 10 rfl) (bx hb140 0 rfl)) rfl hM, fun h => by rw [wanted_none rfl] at h; cases h⟩
   | 2, ho, hl, D, DL, hB =>
    obtain rfl := Option.some.inj ho
    clear ho
    exact ⟨fun _ => storex rfl (run_st22 rfl (E.get 12 rfl) rfl (bx hb138 0 rfl) (free_of_blk hb138 0)) rfl ⟨hM.1.trans (((Fr.refl (fun r => r = b138) w5).setCell (p := ⟨b138, 0, none⟩) (fun _ => rfl) _).mono (fun r _ e => by first | exact e | exact .inl e | exact .inr e | exact .inr (.inl e) | exact .inr (.inr e))), blk_setCell_same (off := 0) hb138 _, (blk_setCell (p := ⟨b138, 0, none⟩) (by show b139 ≠ b138; omega) _).trans hb139, (blk_setCell (p := ⟨b138, 0, none⟩) (by show b140 ≠ b138; omega) _).trans hb140⟩, fun h => by rw [wanted_none rfl] at h; cases h⟩
   | 3, ho, hl, D, DL, hB =>
    obtain rfl := Option.some.inj ho
    clear ho
    exact ⟨fun _ => storex rfl (run_st25 rfl (E.get 11 rfl) (D 0 _ rfl rfl) (bx hb139 0 rfl) (free_of_blk hb139 0)) rfl ⟨hM.1.trans (((Fr.refl (fun r => r = b139) w5).setCell (p := ⟨b139, 0, none⟩) (fun _ => rfl) _).mono (fun r _ e => by first | exact e | exact .inl e | exact .inr e | exact .inr (.inl e) | exact .inr (.inr e))), (blk_setCell (p := ⟨b139, 0, none⟩) (by show b138 ≠ b139; omega) _).trans hb138, blk_setCell_same (off := 0) hb139 _, (blk_setCell (p := ⟨b139, 0, none⟩) (by show b140 ≠ b139; omega) _).trans hb140⟩, fun h => by rw [wanted_none rfl] at h; cases h⟩
   | 4, ho, hl, D, DL, hB =>
    obtain rfl := Option.some.inj ho
    clear ho
    exact ⟨fun _ => storex rfl (run_st3 rfl (E.get 10 rfl) (D 1 _ rfl rfl) (bx hb140 0 rfl) (free_of_blk hb140 0)) rfl ⟨hM.1.trans (((Fr.refl (fun r => r = b140) w5).setCell (p := ⟨b140, 0, none⟩) (fun _ => rfl) _).mono (fun r _ e => by first | exact e | exact .inl e | exact .inr e | exact .inr (.inl e) | exact .inr (.inr e))), (blk_setCell (p := ⟨b140, 0, none⟩) (by show b138 ≠ b140; omega) _).trans hb138, (blk_setCell (p := ⟨b140, 0, none⟩) (by show b139 ≠ b140; omega) _).trans hb139, blk_setCell_same (off := 0) hb140 _⟩, fun h => by rw [wanted_none rfl] at h; cases h⟩
   | j9 + 5, ho, hl, D, DL, hB => exact absurd ho (by simp)
  ·rintro _ a w5 E V hM
   clear V
   have f1 := hM.1
   have hb138n : w5.heap[b138]? = some (.cells #[.slice none 0 0] 22 (0, 0)) := hM.2.1
   have hb139n : w5.heap[b139]? = some (.cells #[.int .i64 c] 25 (0, 0)) := hM.2.2.1
   have hb140n : w5.heap[b140]? = some (.cells #[.int .i64 x] 3 (0, 0)) := hM.2.2.2
   clear hM
   have hT := Tb.fr hT f1 (fun r hr => (fun e => by (try simp only at e); omega))
   have hf := hf.trans' f1 (fun r hr => (fun e => by (try simp only at e); omega))
   clear f1
   replace hb138 := hb138n
   replace hb139 := hb139n
   replace hb140 := hb140n
   refine then_n ?_
   refine wp_ret ?_
   refine then_r ?_
   show Leaves Tryz.prog _ a.tmps _ a.defers .returning _
   rw [E.df]
   refine ⟨_, res3 (.inr ⟨Tryz.underlying22, rfl⟩) rfl (E.get 12 rfl) (E.get 11 rfl) (E.get 10 rfl) (bx hb138 0 rfl) (bx hb139 0 rfl) (bx hb140 0 rfl), ?_⟩
   have hP : parseP s = .error (c, x) := by unfold parseP; rw [← hrl, hx1]
   rw [hP]
   exact ⟨rfl, hf⟩
end Go.Proofs.YtjaffpnegdcjnaaGreatDoor
