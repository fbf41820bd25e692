/- Packing: the walk. -/
import Derived.Test.YtcafnanbdmapgaaL5
set_option linter.unusedVariables false
set_option linter.unusedSimpArgs false
namespace Go.Proofs.Ytcafnanbdmapgaa
open Go.RowKit Go.Pl

set_option maxRecDepth 100000 in
set_option maxHeartbeats 4000000 in
theorem pack_calls {w : World} {S0 : Nat → Prop} {B h0 : Nat} {v0 : Value} {C0 : List Nd} (hO : oNd w B v0 C0) (hN : NdsAt w S0 h0 C0) (hS : ∀ k, S0 k → k < w.heap.size ∧ v0.ownBlock ≠ some k) (hl : C0.length ≤ 100000) : Calls Try.prog 47 #[v0] w (PackP w S0 v0 C0) := by
  obtain ⟨p0, cap0, hv0, _, _, _, _⟩ := hO.src ndL_len
  refine wp_startM1 Try.func47 rfl rfl (n := 73) (by decide) fun a E => ?_
  rw [hv0] at E
  refine wp_seq ?_
  refine wp_region_lit ?_
  refine env_put (d := 2) (v := (Value.pointer none)) E rfl (by decide) rfl (wanted_none rfl _) (run_assign rfl rfl) fun a E => ?_
  refine wpList_nil ?_
  refine then_n ?_
  refine wp_seq ?_
  refine wp_block ?_
  refine wp_loop (fun a w2 => ∃ (p : Option Addr) (cap : Nat) (C : List Nd) (h : Nat) (S : Nat → Prop) (ds : List Deferred), EnvD ds 73 [(0, .slice (p) C.length cap), (2, Value.pointer none)] a ∧ oNd w2 0 (.slice p C.length cap) C ∧ NdsAt w2 S h C ∧ (∀ k, S k → k < w2.heap.size ∧ (Value.slice p C.length cap).ownBlock ≠ some k ∧ ¬ isMark ds k) ∧ (∀ k, S k → S0 k ∨ w.heap.size ≤ k) ∧ MarksOk w2 ds ∧ (∀ k, isMark ds k → w.heap.size ≤ k) ∧ (enL C).Perm (enL C0) ∧ C.length ≤ 100000 ∧ Fr (fun k => v0.ownBlock = some k) w w2 ∧ (∀ k, (Value.slice p C.length cap).ownBlock = some k → v0.ownBlock = some k ∨ w.heap.size ≤ k)) (fun a _ => lenOf (a.eval (.tmp 0))) ?_ ?_
  · exact ⟨p0, cap0, C0, h0, S0, [], E.of ⟨E.get 1 rfl, E.get 0 rfl, trivial⟩, by rw [← hv0]; exact hO.base (Nat.zero_le _), hN, fun k hk => ⟨(hS k hk).1, by rw [← hv0]; exact (hS k hk).2, fun h => (by cases h)⟩, fun _ h => .inl h, MarksOk.nil _, fun _ h => (by cases h), List.Perm.refl _, hl, Fr.refl _ _, fun k hk => .inl (by rw [hv0]; exact hk)⟩
  clear E
  rintro a w2 ⟨p, cap, C, h, S, ds, E, hO, hN, hS, hS0, hm, hmw, hP, hl, hT, hvb⟩
  have hmu : lenOf (a.eval (.tmp 0)) = C.length := by rw [E.get 0 rfl]; first | rfl | (simp [intOf]; done) | (simp only [intOf]; omega)
  rw [hmu]
  clear hmu
  refine wp_seq ?_
  refine wp_seq ?_
  refine wp_region_lit ?_
  refine env_put (d := 10) (v := .slice (p) C.length cap) E rfl (by decide) rfl (wanted_none rfl _) (run_move rfl (E.get 0 rfl)) fun a E => ?_
  refine env_put (d := 11) (v := .int .i64 (C.length : Int)) E rfl (by decide) rfl (wanted_none rfl _) (run_len69 rfl (E.get 0 rfl)) fun a E => ?_
  refine env_put (d := 12) (v := .bool (decide (1 < (C.length : Int)))) E rfl (by decide) rfl (wanted_none rfl _) (run_igtr (E.get 0 rfl) rfl Try.underlying3 rfl) fun a E => ?_
  refine wpList_nil ?_
  refine then_n ?_
  cases hq32 : (decide (1 < (C.length : Int))) with
  | false =>
    rw [hq32] at E
    have hle1 : ¬ 1 < C.length := by have := of_decide_eq_false hq32; omega
    refine wp_cond_false (E.get 0 rfl) ?_
    refine wp_exit ?_
    refine then_e ?_
    refine then_e ?_
    refine blk_e ?_
    refine then_n ?_
    refine wp_seq ?_
    refine wp_seq ?_
    refine wp_region_lit ?_
    refine env_put (d := 67) (v := .slice (p) C.length cap) E rfl (by decide) rfl (wanted_none rfl _) (run_move rfl (E.get 3 rfl)) fun a E => ?_
    refine env_put (d := 68) (v := .int .i64 (C.length : Int)) E rfl (by decide) rfl (wanted_none rfl _) (run_len69 rfl (E.get 0 rfl)) fun a E => ?_
    refine env_put (d := 69) (v := .bool ((C.length : Int) == 0)) E rfl (by decide) rfl (wanted_none rfl _) (run_ieql (E.get 0 rfl) rfl Try.underlying3 rfl) fun a E => ?_
    refine wpList_nil ?_
    refine then_n ?_
    cases hq33 : ((C.length : Int) == 0) with
    | false =>
      rw [hq33] at E
      have hlen1 : C.length = 1 := by have h9 : ¬ ((C.length : Int) = 0) := fun e => by rw [e] at hq33; simp at hq33
                                      omega
      have h0l : 0 < C.length := by omega
      obtain ⟨g, cur, rfl, hb, hcap, hd, _⟩ := oNd_open rfl hO (by omega)
      obtain ⟨ct, hct⟩ : ∃ ct, C[0]? = some ct := ⟨_, List.getElem?_eq_getElem h0l⟩
      refine wp_cond_false (E.get 0 rfl) ?_
      refine wp_skip ?_
      refine then_n ?_
      refine wp_seq ?_
      refine wp_region_lit ?_
      refine env_put (d := 70) (v := .slice (some ⟨g, 0, none⟩) C.length cap) E rfl (by decide) rfl (wanted_none rfl _) (run_move rfl (E.get 6 rfl)) fun a E => ?_
      refine env_put (d := 71) (v := .pointer (some ⟨g, (0 + 0), none⟩)) E rfl (by decide) rfl (wanted_none rfl _) (run_index69 (i := 0) rfl (E.get 0 rfl) rfl h0l) fun a E => ?_
      refine env_put (d := 72) (v := .pointer (some ⟨ct.1, 0, none⟩)) E rfl (by decide) rfl (wanted_none rfl _) (run_ld59 rfl (E.get 0 rfl) (bx hb (0 + 0) (hd 0 ct hct))) fun a E => ?_
      refine env_set (d := 2) (v := .pointer (some ⟨ct.1, 0, none⟩)) E rfl (by decide) (wanted_none rfl _) (run_assign rfl (E.get 0 rfl)) fun a E => ?_
      refine wpList_nil ?_
      refine then_n ?_
      refine wp_ret ?_
      have hctm := List.mem_of_getElem? hct
      have hCe : enL C = ct.2.2 := by
        obtain ⟨c9, rfl⟩ := List.length_eq_one_iff.1 hlen1
        simp at hct; subst hct; simp [enL]
      rw [hCe] at hP
      exact retM_tmp (t := 2) rfl E (E.get 0 rfl) hm (fun w9 f9 => ⟨_, rfl, hT.trans' f9 (fun r hr e => by have := hmw r e; omega), .inr ⟨S, h, ct.1, ct.2.1, ct.2.2, rfl, (hN ct hctm).fr f9 (fun b hb9 e => (hS b hb9).2.2 e), hP, fun b hb9 => ⟨Nat.lt_of_lt_of_le (hS b hb9).1 f9.size, hS0 b hb9⟩⟩⟩)
    | true =>
      rw [hq33] at E
      have hz0 : C = [] := List.eq_nil_of_length_eq_zero (by have := beq_iff_eq.1 hq33; omega)
      refine wp_cond_true (E.get 0 rfl) ?_
      refine wp_seq ?_
      refine wp_region_lit ?_
      refine env_set (d := 2) (v := (Value.pointer none)) E rfl (by decide) (wanted_none rfl _) (run_assign rfl rfl) fun a E => ?_
      refine wpList_nil ?_
      refine then_n ?_
      refine wp_ret ?_
      refine then_r ?_
      exact retM_tmp (t := 2) rfl E (E.get 0 rfl) hm (fun w9 f9 => ⟨_, rfl, hT.trans' f9 (fun r hr e => by have := hmw r e; omega), .inl ⟨rfl, by rw [hz0] at hP; exact List.perm_nil.1 hP.symm⟩⟩)
  | true =>
    rw [hq32] at E
    have hlt1 : 1 < C.length := by have := of_decide_eq_true hq32; omega
    obtain ⟨g, cur, rfl, hb, hcap, hd, _⟩ := oNd_open rfl hO (by omega)
    have hCne : C ≠ [] := by rintro rfl; simp at hlt1
    refine wp_cond_true (E.get 0 rfl) ?_
    refine wp_skip ?_
    refine then_n ?_
    refine wp_block ?_
    refine wp_seq ?_
    refine wp_region_lit ?_
    refine env_put (d := 13) (v := .slice (some ⟨g, 0, none⟩) C.length cap) E rfl (by decide) rfl (wanted_none rfl _) (run_move rfl (E.get 3 rfl)) fun a E => ?_
    have hb0 := hb
    refine env_callv (d := 14) (R := fun u w8 => u = .tuple #[] ∧ SrtP w2 g 0 cur C (.returned (.tuple #[])) w8) E rfl (by decide) rfl (wanted_none rfl _) (run_call2 (enters_of Try.func53 (by kernel_rfl) rfl) rfl rfl (E.get 0 rfl) rfl) ((sortA_calls (g := g) (off := 0) (cap := cap) hCne hb hd (fun c hc => ⟨(hN c hc).nb, (hN c hc).ok, fun e => (hS _ (hN c hc).mem).2.1 (by rw [e]; rfl)⟩) (by omega)).mono fun e w8 h => ⟨_, h.1, rfl, by rw [← h.1]; exact h⟩) fun a w1 u9 hR E => ?_
    obtain ⟨rfl, _, D, cur1, hD1, hb, hsz1, hd, _, f1⟩ := hR
    have hDl : D.length = C.length := hD1.length_eq
    have hN := (hN.fr f1 (fun k hk e => (hS k hk).2.1 (by rw [e]; rfl))).perm hD1
    have hPD : (enL D).Perm (enL C) := hD1.flatMap_right _
    have hm := hm.fr f1 (fun k hk e => by subst e; have := hm.at hk; rw [this] at hb0; cases hb0)
    have hT := hT.trans' f1 (fun r hr e => by rcases hvb g rfl with h | h; (rw [e]; exact h); omega)
    have hS : ∀ k, S k → k < w1.heap.size ∧ k ≠ g ∧ ¬ isMark ds k := fun k hk => ⟨Nat.lt_of_lt_of_le (hS k hk).1 f1.size, fun e => (hS k hk).2.1 (by rw [e]; rfl), (hS k hk).2.2⟩
    clear hb0 hO hsz1 f1 hD1
    refine wpList_nil ?_
    refine then_n ?_
    refine wp_seq ?_
    refine wp_region_lit ?_
    refine env_put (d := 3) (v := .int .i64 8) E rfl (by decide) rfl (wanted_none rfl _) (run_assign rfl rfl) fun a E => ?_
    refine wpList_nil ?_
    refine then_n ?_
    refine wp_seq ?_
    refine wp_block ?_
    refine wp_loop (fun a w2 => ∃ (s : Nat), EnvD ds 73 [(0, .slice (some ⟨g, 0, none⟩) C.length cap), (3, .int .i64 (s : Int)), (2, Value.pointer none)] a ∧ 8 ≤ s ∧ s ≤ C.length * 8 + 8 ∧ w2 = w1) (fun a _ => C.length * 8 + 8 - (intOf (a.eval (.tmp 3))).toNat) ?_ ?_
    · exact ⟨8, E.of ⟨E.get 6 rfl, E.get 0 rfl, E.get 7 rfl, trivial⟩, Nat.le_refl _, by omega, rfl⟩
    clear E
    rintro a w2 ⟨s, E, hs8, hsN, hw2⟩
    have hmu : C.length * 8 + 8 - (intOf (a.eval (.tmp 3))).toNat = C.length * 8 + 8 - s := by rw [E.get 1 rfl]; first | rfl | (simp [intOf]; done) | (simp only [intOf]; omega)
    rw [hmu]
    clear hmu
    subst hw2
    have hss : (s : Int) * (s : Int) ≤ 1000000000000 ∧ 0 ≤ (s : Int) * (s : Int) ∧ (s : Int) ≤ (s : Int) * (s : Int) := by
      have h1 : s * s ≤ 1000000 * 1000000 := Nat.mul_le_mul (by omega) (by omega)
      have h2 : s ≤ s * s := Nat.le_mul_self s
      have h3 : ((s * s : Nat) : Int) = (s : Int) * (s : Int) := Int.natCast_mul s s
      omega
    refine wp_seq ?_
    refine wp_seq ?_
    refine wp_region_lit ?_
    refine env_put (d := 15) (v := .int .i64 (s : Int)) E rfl (by decide) rfl (wanted_none rfl _) (run_move rfl (E.get 1 rfl)) fun a E => ?_
    refine env_put (d := 16) (v := .int .i64 (s : Int)) E rfl (by decide) rfl (wanted_none rfl _) (run_move rfl (E.get 2 rfl)) fun a E => ?_
    refine env_put (d := 17) (v := .int .i64 ((s : Int) * (s : Int))) E rfl (by decide) rfl (wanted_none rfl _) (run_imul Try.underlying3 (E.get 1 rfl) (E.get 0 rfl) (by omega) (by omega) rfl) fun a E => ?_
    refine env_put (d := 18) (v := .slice (some ⟨g, 0, none⟩) C.length cap) E rfl (by decide) rfl (wanted_none rfl _) (run_move rfl (E.get 3 rfl)) fun a E => ?_
    refine env_put (d := 19) (v := .int .i64 (C.length : Int)) E rfl (by decide) rfl (wanted_none rfl _) (run_len69 rfl (E.get 0 rfl)) fun a E => ?_
    refine env_put (d := 20) (v := .int .i64 ((C.length : Int) * 8)) E rfl (by decide) rfl (wanted_none rfl _) (run_imul Try.underlying3 (E.get 0 rfl) rfl (by omega) (by omega) rfl) fun a E => ?_
    refine env_put (d := 21) (v := .bool (decide (((s : Int) * (s : Int)) < ((C.length : Int) * 8)))) E rfl (by decide) rfl (wanted_none rfl _) (run_ilss (E.get 3 rfl) (E.get 0 rfl) Try.underlying3 rfl) fun a E => ?_
    refine wpList_nil ?_
    refine then_n ?_
    cases hq35 : (decide (((s : Int) * (s : Int)) < ((C.length : Int) * 8))) with
    | false =>
      rw [hq35] at E
      refine wp_cond_false (E.get 0 rfl) ?_
      refine wp_exit ?_
      refine then_e ?_
      refine then_e ?_
      refine blk_e ?_
      refine then_n ?_
      refine wp_seq ?_
      refine wp_region_lit ?_
      refine env_alloc69 (d := 4) E rfl (by decide) rfl (wanted_none rfl _) rfl fun a w1 nx enx hx f1 E => ?_
      have hnx : w2.heap.size = nx := enx
      have hgl := lt_of_blk hb
      have hws0 := hT.size
      have hb := f1.obj hb id
      have hN := hN.fr f1 (fun _ _ h => h)
      have hm := hm.fr f1 (fun _ _ h => h)
      have hT := hT.trans' f1 (fun _ _ h => h.elim)
      have hS : ∀ k, S k → k < nx ∧ k ≠ g ∧ ¬ isMark ds k := fun k hk => ⟨by have := (hS k hk).1; omega, (hS k hk).2⟩
      have hgx : g < nx := by omega
      have hxl := lt_of_blk hx
      have hws : w.heap.size ≤ nx := by omega
      clear f1 hgl enx
      refine wpList_nil ?_
      refine then_n ?_
      refine wp_seq ?_
      refine wp_seq ?_
      refine wp_region_lit ?_
      refine env_put (d := 24) (v := .slice (some ⟨g, 0, none⟩) C.length cap) E rfl (by decide) rfl (wanted_none rfl _) (run_move rfl (E.get 8 rfl)) fun a E => ?_
      refine env_put (d := 25) (v := .int .i64 (s : Int)) E rfl (by decide) rfl (wanted_none rfl _) (run_move rfl (E.get 10 rfl)) fun a E => ?_
      have hz9 : 1 ≤ s := by omega
      refine env_callv (d := 26) (R := fun u w8 => ∃ c1 c2, u = .func (.func 74) #[] #[.pointer (some ⟨c1, 0, none⟩), .pointer (some ⟨c2, 0, none⟩)] ∧ w8.heap[c1]? = some (.cells #[.slice (some ⟨g, 0, none⟩) C.length cap] 69 (0, 0)) ∧ w8.heap[c2]? = some (.cells #[.int .i64 ((s : Nat) : Int)] 3 (0, 0)) ∧ Fr (fun _ => False) w1 w8 ∧ w1.heap.size ≤ c1 ∧ w1.heap.size ≤ c2) E rfl (by decide) rfl (wanted_none rfl _) (run_call2 (enters_of Try.func57 (by kernel_rfl) rfl) rfl rfl (E.get 1 rfl) (E.get 0 rfl)) ((chunk_calls g 0 C.length cap s _ hz9).mono fun e w8 ⟨c8, c9, h1, h2⟩ => ⟨_, h1, c8, c9, rfl, h2⟩) fun a wr u9 hR E => ?_
      obtain ⟨c1, c2, rfl, k1, k2, f2, hc8, hc9⟩ := hR
      clear hz9
      refine wpList_nil ?_
      refine then_n ?_
      refine wp_block ?_
      have hc1l := lt_of_blk k1
      have hc2l := lt_of_blk k2
      have hxl2 := f2.size
      have lo : Low wr g nx c1 c2 S := ⟨by omega, by omega, hc1l, hc2l, fun b hb => by have := hS b hb; exact ⟨by omega, this.2.1, by omega⟩, by omega, ⟨by omega, by omega⟩, ⟨by omega, by omega⟩⟩
      have hb := f2.obj hb id
      have hx := f2.obj hx id
      have hN := hN.fr f2 (fun _ _ h => h)
      have hm := hm.fr f2 (fun _ _ h => h)
      have hT := hT.trans' f2 (fun _ _ h => h.elim)
      have hI0 : OutI wr g nx c1 c2 C.length cap s h S D 0 wr S [] (.slice none 0 0) cur1 := ⟨hb, fun j c hj _ => by have := hd j c hj; rwa [Nat.zero_add] at this, hx, ow_nil _, k1, k2, hN, (fun c hc => by cases hc), fun b hb => .inl hb, fun b hb => ⟨(lo.lS b hb).1, by simp [Value.ownBlock]⟩, by simp [enL], ⟨by simp, by omega⟩, Fr.refl _ _⟩
      have hs1 : 1 ≤ s := by omega
      refine wp_rangeF (fun k W => ∃ S1 N1 nv cr, OutI wr g nx c1 c2 C.length cap s h S D k W S1 N1 nv cr) (fun v a => ∃ x, v = #[x] ∧ Env 73 [(5, x), (27, x), (4, .pointer (some ⟨nx, 0, none⟩))] a) (E.get 0 rfl) (enters_of Try.func74 (by kernel_rfl) rfl) (chunk1_yields (g := g) (off := 0) (N := C.length) (cap := cap) (n := s) (c1 := c1) (c2 := c2) hs1 (by omega) (by omega) (by omega)) (fun v hv => by obtain ⟨k, _, rfl⟩ := chs_mem hs1 hv; rfl) ?_ ?_ ⟨S, [], _, cur1, hI0⟩ ?_ ?_ ?_
      · rintro k W W' ⟨S1, N1, nv, cr, H⟩ f
        exact ⟨_, _, _, _, H.fr lo f⟩
      · rintro k W ⟨S1, N1, nv, cr, H⟩
        exact ⟨H.k1, H.k2⟩
      · intro l v W K hv hK
        obtain ⟨k, _, rfl⟩ := chs_mem hs1 hv
        have E := env_zip1 (d := 27) (x := chV g 0 C.length s k) (E.of (L' := [(4, .pointer (some ⟨nx, 0, none⟩))]) ⟨(E.get 3 rfl), trivial⟩) (by decide) rfl
        refine wpR_region_lit (by kernel_rfl) (fun ⟨_, _, h⟩ => h) ?_
        refine env_put (d := 5) (v := chV g 0 C.length s k) E rfl (by decide) rfl (wanted_none rfl _) (run_assign rfl (E.get 0 rfl)) fun a E => ?_
        refine wpList_nil ?_
        exact hK _ ⟨_, rfl, E⟩
      · rintro k v ak wk hv ⟨S1, N1, nv, cr, H⟩ ⟨x9, rfl, E⟩ hwk ⟨rr, hrr⟩
        obtain ⟨hks, hv2⟩ := chs_of hs1 hv
        obtain rfl : x9 = chV g 0 C.length s k := by simpa using hv2
        obtain ⟨E0, hE0⟩ : ∃ E0, E0 = (D.drop (k * s)).take s := ⟨_, rfl⟩
        have hE0l : E0.length = min s (C.length - k * s) := by rw [hE0]; simp [hDl]
        have hx9 : chV g 0 C.length s k = .slice (some ⟨g, 0 + k * s, none⟩) E0.length E0.length := by rw [hE0l]; rfl
        rw [hx9] at E
        have hEne : E0 ≠ [] := by rintro rfl; simp at hE0l; omega
        have hE0g : ∀ (i : Nat) c, E0[i]? = some c → D[k * s + i]? = some c := fun i c hc => by rw [hE0, List.getElem?_take] at hc; split at hc; (rw [List.getElem?_drop] at hc; exact hc); cases hc
        have hE0c : cellsN cr (0 + k * s) E0 := fun i c hc => by rw [Nat.zero_add]; exact H.hd _ _ (hE0g i c hc) (Nat.le_add_right _ _)
        have hE0m : ∀ c ∈ E0, c ∈ D := fun c hc => by obtain ⟨i, hi⟩ := List.mem_iff_getElem?.1 hc; exact List.mem_of_getElem? (hE0g i c hi)
        refine wpIn_block ?_
        refine wpIn_seq ?_
        refine wpR_region_lit (by kernel_rfl) (fun ⟨_, _, h⟩ => h) ?_
        refine env_put (d := 28) (v := .slice (some ⟨g, 0 + k * s, none⟩) E0.length E0.length) E rfl (by decide) rfl (wanted_none rfl _) (run_move rfl (E.get 0 rfl)) fun a E => ?_
        refine env_callv (d := 29) (R := fun u w8 => u = .tuple #[] ∧ SrtP wk g (0 + k * s) cr E0 (.returned (.tuple #[])) w8) E rfl (by decide) rfl (wanted_none rfl _) (run_call2 (enters_of Try.func53 (by kernel_rfl) rfl) rfl rfl (E.get 0 rfl) rfl) ((sortB_calls (g := g) (off := 0 + k * s) (cap := E0.length) hEne H.hb hE0c (fun c hc => ⟨(H.hN c (hE0m c hc)).nb, (H.hN c (hE0m c hc)).ok, (lo.lS _ (H.hN c (hE0m c hc)).mem).2.1⟩) (by omega)).mono fun e w8 h => ⟨_, h.1, rfl, by rw [← h.1]; exact h⟩) fun a wb u9 hR E => ?_
        obtain ⟨rfl, _, E1, cur2, hE1, hb2, _, hd2, hout, f1⟩ := hR
        have hEl : E1.length = E0.length := hE1.length_eq
        refine wpList_nil ?_
        refine then_n ?_
        refine wpIn_seq ?_
        refine wpR_region_lit (by kernel_rfl) (fun ⟨_, _, h⟩ => h) ?_
        refine env_put (d := 30) (v := .slice (some ⟨g, 0 + k * s, none⟩) E0.length E0.length) E rfl (by decide) rfl (wanted_none rfl _) (run_move rfl (E.get 2 rfl)) fun a E => ?_
        have hz9 : 1 ≤ 8 := by omega
        refine env_callv (d := 31) (R := fun u w8 => ∃ c3 c4, u = .func (.func 74) #[] #[.pointer (some ⟨c3, 0, none⟩), .pointer (some ⟨c4, 0, none⟩)] ∧ w8.heap[c3]? = some (.cells #[.slice (some ⟨g, (0 + k * s), none⟩) E0.length E0.length] 69 (0, 0)) ∧ w8.heap[c4]? = some (.cells #[.int .i64 ((8 : Nat) : Int)] 3 (0, 0)) ∧ Fr (fun _ => False) wb w8 ∧ wb.heap.size ≤ c3 ∧ wb.heap.size ≤ c4) E rfl (by decide) rfl (wanted_none rfl _) (run_call2 (enters_of Try.func57 (by kernel_rfl) rfl) rfl rfl (E.get 0 rfl) rfl) ((chunk_calls g (0 + k * s) E0.length E0.length 8 _ hz9).mono fun e w8 ⟨c8, c9, h1, h2⟩ => ⟨_, h1, c8, c9, rfl, h2⟩) fun a wi u9 hR E => ?_
        obtain ⟨c3, c4, rfl, k3, k4, f2, hc8, hc9⟩ := hR
        clear hz9
        refine wpList_nil ?_
        refine then_n ?_
        refine wpIn_block ?_
        have hc3l := lt_of_blk k3
        have hc4l := lt_of_blk k4
        have hwi := f2.size
        have f12 : Fr (fun b => b = g) wk wi := f1.trans' f2 (fun _ _ h => h.elim)
        have f13 : Fr (fun b => b = g ∨ b = nx ∨ wr.heap.size + 2 ≤ b) wk wi := f12.mono (fun _ _ e => .inl e)
        have hb3 := f2.obj hb2 id
        have hng : nv.ownBlock ≠ some g := fun e => by have := (H.hO.lt e).1; have := lo.lg; omega
        have hlg := lo.lg
        have hlx := lo.lx
        have hgx9 := lo.gx
        have hgc1 := lo.gc1
        have hgc2 := lo.gc2
        have hJ0 : InI wr wk wi.heap.size g nx c1 c2 c3 c4 C.length cap s k E0.length h N1.length S D E1 cur2 0 wi S1 N1 nv := ⟨hb3, f12.obj H.hx (fun e => hgx9 e.symm), H.hO.fr f12 (fun b hb9 e => by rw [e] at hb9; exact hng hb9), fun e => by have := (H.hO.lt e).2; have := f12.size; omega, f12.obj H.k1 (fun e => hgc1.1 e), f12.obj H.k2 (fun e => hgc2.1 e), k3, k4, H.hN.fr f12 (fun b hb9 e => (lo.lS b hb9).2.1 e), H.hN1.fr f12 (fun b hb9 e => by rcases H.hS1 b hb9 with h9 | h9; exact (lo.lS b h9).2.1 e; omega), H.hS1, fun b hb9 => ⟨Nat.lt_of_lt_of_le (H.hSl b hb9).1 f12.size, (H.hSl b hb9).2, by have := (H.hSl b hb9).1; have := f12.size; omega⟩, by simpa [enL] using H.hP, rfl, f13⟩
        have hr8 : wi.heap[wr.heap.size + 1]? = some (.loop rr) := f12.obj hrr (by omega)
        have hwk2 : wr.heap.size + 2 ≤ wk.heap.size := hwk
        have hwki : wk.heap.size ≤ wi.heap.size := f12.size
        refine wpR_rangeF hr8 (fun j W => ∃ S2 N2 nw, InI wr wk wi.heap.size g nx c1 c2 c3 c4 C.length cap s k E0.length h N1.length S D E1 cur2 j W S2 N2 nw) (fun v a => ∃ x, v = #[x] ∧ Env 73 [(6, x), (32, x), (4, .pointer (some ⟨nx, 0, none⟩))] a) (E.get 0 rfl) (enters_of Try.func74 (by kernel_rfl) rfl) (chunk1_yields (g := g) (off := 0 + k * s) (N := E0.length) (cap := E0.length) (n := 8) (c1 := c3) (c2 := c4) (by omega) (Nat.le_refl _) (by omega) (by omega)) (fun v hv => by obtain ⟨j, _, rfl⟩ := chs_mem (by omega) hv; rfl) ?_ ?_ ⟨S1, N1, nv, hJ0⟩ ?_ ?_ ?_
        · rintro j W W' ⟨S2, N2, nw, J⟩ f
          exact ⟨_, _, _, J.fr lo hwk2 hwki (by omega) (by omega) f⟩
        · rintro j W ⟨S2, N2, nw, J⟩
          exact ⟨J.k3, J.k4⟩
        · intro l v W K hv hK
          obtain ⟨j, _, rfl⟩ := chs_mem (by omega) hv
          have E := env_zip1 (d := 32) (x := chV g (0 + k * s) E0.length 8 j) (E.of (L' := [(4, .pointer (some ⟨nx, 0, none⟩))]) ⟨(E.get 6 rfl), trivial⟩) (by decide) rfl
          refine wpR_region_lit (by kernel_rfl) (fun ⟨_, _, h⟩ => h) ?_
          refine env_put (d := 6) (v := chV g (0 + k * s) E0.length 8 j) E rfl (by decide) rfl (wanted_none rfl _) (run_assign rfl (E.get 0 rfl)) fun a E => ?_
          refine wpList_nil ?_
          exact hK _ ⟨_, rfl, E⟩
        · rintro j v aj wi2 hv ⟨S2, N2, nw, J⟩ ⟨x9, rfl, E⟩ hwj
          obtain ⟨hj8, hv3⟩ := chs_of (by omega) hv
          obtain rfl : x9 = chV g (0 + k * s) E0.length 8 j := by simpa using hv3
          obtain ⟨F0, hF0⟩ : ∃ F0, F0 = (E1.drop (j * 8)).take 8 := ⟨_, rfl⟩
          have hF0l : F0.length = min 8 (E0.length - j * 8) := by rw [hF0]; simp [hEl]
          have hx8 : chV g (0 + k * s) E0.length 8 j = .slice (some ⟨g, 0 + k * s + j * 8, none⟩) F0.length F0.length := by rw [hF0l]; rfl
          rw [hx8] at E
          have hFne : F0 ≠ [] := by rintro rfl; simp at hF0l; omega
          have hF0g : ∀ (i : Nat) c, F0[i]? = some c → E1[j * 8 + i]? = some c := fun i c hc => by rw [hF0, List.getElem?_take] at hc; split at hc; (rw [List.getElem?_drop] at hc; exact hc); cases hc
          have hF0m : ∀ c ∈ F0, c ∈ D := fun c hc => by obtain ⟨i, hi⟩ := List.mem_iff_getElem?.1 hc; exact hE0m c (hE1.mem_iff.1 (List.mem_of_getElem? (hF0g i c hi)))
          have hFc0 : ∀ (i : Nat) c, F0[i]? = some c → wi2.cell? ⟨g, 0 + k * s + j * 8 + i, none⟩ = some (ndV c) := fun i c hc => by rw [cell_of_blk J.hb, Nat.add_assoc (0 + k * s)]; exact hd2 _ _ (hF0g i c hc)
          have hNF0 : NdsAt wi2 S h F0 := J.hN.sub hF0m
          have hsr : srcAt ndL 1 wi2 wi2.heap.size (some ⟨g, 0 + k * s + j * 8, none⟩) F0 := .inr ⟨g, _, rfl, lt_of_blk J.hb, fun i c hc m u hu => by
              match m, hu with
              | 0, hu => rw [Nat.mul_one, Nat.add_zero]; simp at hu; subst hu; exact hFc0 i c hc
              | m + 1, hu => simp at hu⟩
          have hFl : 0 < F0.length := by omega
          obtain ⟨q0, hqe⟩ : ∃ q0, F0[0]? = some q0 := ⟨_, List.getElem?_eq_getElem hFl⟩
          have hq0 : wi2.cell? ⟨g, 0 + k * s + j * 8 + 0, none⟩ = some (ndV q0) := hFc0 0 q0 hqe
          obtain ⟨b0, hb0⟩ : ∃ b0, b0 = q0.2.1 := ⟨_, rfl⟩
          have hok0 : okB b0 := by rw [hb0]; exact (hNF0 q0 (List.mem_of_getElem? hqe)).ok
          have hnb0 : nb wi2 q0.1 b0 := by rw [hb0]; exact (hNF0 q0 (List.mem_of_getElem? hqe)).nb
          refine wpIn_block ?_
          refine wpIn_seq ?_
          refine wpR_region_invx (G := Value × Nat) (undef, 0) (n := 73) (base := [(6, .slice (some ⟨g, 0 + k * s + j * 8, none⟩) F0.length F0.length), (32, .slice (some ⟨g, 0 + k * s + j * 8, none⟩) F0.length F0.length), (4, .pointer (some ⟨nx, 0, none⟩))]) (U := []) (T := fun γ => [some (33, .slice (some ⟨g, 0 + k * s + j * 8, none⟩) F0.length F0.length), some (34, .pointer (some ⟨g, (0 + k * s + j * 8 + 0), none⟩)), some (35, .pointer (some ⟨q0.1, 0, none⟩)), some (36, .pointer (some ⟨q0.1, 0, none⟩)), some (37, .pointer (some ⟨q0.1, 0, none⟩)), some (38, .agg (bxC b0)), some (39, .slice (some ⟨g, 0 + k * s + j * 8, none⟩) F0.length F0.length), some (40, γ.1), some (41, .agg (ndC b0 γ.1)), some (42, .pointer (some ⟨γ.2, 0, none⟩)), some (7, .pointer (some ⟨γ.2, 0, none⟩))]) (M := fun γ ls9 wm => Fr (fun _ => False) wi2 wm ∧ (ls9 7 = true → oNd wm wi2.heap.size γ.1 F0) ∧ (ls9 9 = true → wi2.heap.size ≤ γ.2 ∧ γ.1.ownBlock ≠ some γ.2 ∧ ndB wm γ.2 b0 γ.1)) (by kernel_rfl) (fun ⟨_, _, h⟩ => h) (by kernel_rfl) (by kernel_rfl) (fun _ => by kernel_rfl) (E.of ⟨E.get 0 rfl, E.get 1 rfl, E.get 2 rfl, trivial⟩) (fun x hx => by cases hx) ⟨(Fr.refl _ _).drew, fun h => absurd h Bool.false_ne_true, fun h => absurd h Bool.false_ne_true⟩ ?_ ?_
          · intro j9 o9 γ ls9 a w5 ho hl E D DL DL2 hB hM
            have hsr := hsr.fr hM.1 (fun _ _ h => h)
            have hq0 := hM.1.cell hq0 id
            have hnb0 := hnb0.fr hM.1 id
            match j9, ho, hl, D, DL, hB with
            | 0, ho, hl, D, DL, hB =>
              obtain rfl := Option.some.inj ho
              clear ho
              exact ⟨fun _ => valx rfl (run_move rfl (E.get 0 rfl)) rfl hM, fun h => by rw [wanted_none rfl] at h; cases h⟩
            | 1, ho, hl, D, DL, hB =>
              obtain rfl := Option.some.inj ho
              clear ho
              exact ⟨fun _ => valx rfl (run_index69 (i := 0) rfl (D 0 _ rfl rfl) rfl hFl) rfl hM, fun h => by rw [wanted_none rfl] at h; cases h⟩
            | 2, ho, hl, D, DL, hB =>
              obtain rfl := Option.some.inj ho
              clear ho
              exact ⟨fun _ => valx rfl (run_ld59 rfl (D 1 _ rfl rfl) hq0) rfl hM, fun h => by rw [wanted_none rfl] at h; cases h⟩
            | 3, ho, hl, D, DL, hB =>
              obtain rfl := Option.some.inj ho
              clear ho
              exact ⟨fun _ => valx rfl (run_nilchk rfl (D 2 _ rfl rfl)) rfl hM, fun h => by rw [wanted_none rfl] at h; cases h⟩
            | 4, ho, hl, D, DL, hB =>
              obtain rfl := Option.some.inj ho
              clear ho
              exact ⟨fun _ => valx rfl (fa71_0 rfl (D 3 _ rfl rfl)) rfl hM, fun h => by rw [wanted_none rfl] at h; cases h⟩
            | 5, ho, hl, D, DL, hB =>
              obtain rfl := Option.some.inj ho
              clear ho
              exact ⟨fun _ => valx rfl (run_ld26 rfl (D 4 _ rfl rfl) hnb0) rfl hM, fun h => by rw [wanted_none rfl] at h; cases h⟩
            | 6, ho, hl, D, DL, hB =>
              obtain rfl := Option.some.inj ho
              clear ho
              exact ⟨fun _ => valx rfl (run_move rfl (E.get 0 rfl)) rfl hM, fun h => by rw [wanted_none rfl] at h; cases h⟩
            | 7, ho, hl, D, DL, hB =>
              obtain rfl := Option.some.inj ho
              clear ho
              exact ⟨fun _ => callxw (run_call1 (enters_of Try.func59 (by kernel_rfl) rfl) rfl rfl (D 6 _ rfl rfl)) ((clone_calls hsr (by omega)).mono fun e9 w9 ⟨v9, h8, h9, h10⟩ => ⟨v9, h8, (⟨h9.base hM.1.size, h10⟩ : oNd w9 wi2.heap.size v9 F0 ∧ Fr (fun _ => False) w5 w9)⟩) rfl fun v9 w9 f9 => ⟨(v9, γ.2), rfl, (fun j hj => match j, hj with | 0, _ => rfl | 1, _ => rfl | 2, _ => rfl | 3, _ => rfl | 4, _ => rfl | 5, _ => rfl | 6, _ => rfl | 7, hj => absurd (hl.symm.trans hj) (by decide) | 8, hj => absurd (hl.symm.trans (DL2 8 7 rfl hj)) (by decide) | 9, _ => rfl | 10, _ => rfl | e9 + 11, _ => rfl), ⟨hM.1.trans' f9.2 (fun _ _ h => h.elim), fun _ => f9.1, fun h => absurd (DL2 9 8 rfl h) (fun e => by have := DL2 8 7 rfl e; rw [hl] at this; cases this)⟩⟩, fun h => by rw [wanted_none rfl] at h; cases h⟩
            | 8, ho, hl, D, DL, hB =>
              obtain rfl := Option.some.inj ho
              clear ho
              exact ⟨fun _ => valx rfl (run_build71 (oNd_slice (hM.2.1 (DL 7 rfl))) rfl (D 5 _ rfl rfl) (D 7 _ rfl rfl)) rfl hM, fun h => by rw [wanted_none rfl] at h; cases h⟩
            | 9, ho, hl, D, DL, hB =>
              obtain rfl := Option.some.inj ho
              clear ho
              have hO8 := hM.2.1 (DL2 8 7 rfl (DL 8 rfl))
              exact ⟨fun _ => valxw (γ.1, w5.heap.size) rfl (run_box71 rfl (D 8 _ rfl rfl)) rfl (fun j hj => match j, hj with | 0, _ => rfl | 1, _ => rfl | 2, _ => rfl | 3, _ => rfl | 4, _ => rfl | 5, _ => rfl | 6, _ => rfl | 7, _ => rfl | 8, _ => rfl | 9, hj => absurd (hl.symm.trans hj) (by decide) | 10, hj => absurd (hl.symm.trans (DL2 10 9 rfl hj)) (by decide) | e9 + 11, _ => rfl) ⟨hM.1.trans' ((Fr.refl (fun _ => False) w5).alloc _) (fun _ _ h => h.elim), fun h => ow.fr (hM.2.1 h) ((Fr.refl (fun _ => False) w5).alloc _) (fun _ _ h => h), fun _ => ⟨hM.1.size, fun e => by have := (hO8.lt e).2; omega, blk_alloc_new _ _⟩⟩, fun h => by rw [wanted_none rfl] at h; cases h⟩
            | 10, ho, hl, D, DL, hB =>
              obtain rfl := Option.some.inj ho
              clear ho
              exact ⟨fun _ => valx rfl (run_assign rfl (D 9 _ rfl rfl)) rfl hM, fun h => by rw [wanted_none rfl] at h; cases h⟩
            | j9 + 11, ho, hl, D, DL, hB => exact absurd ho (by simp)
          · rintro ⟨γ36a, γ36b⟩ a wu E V hM
            have E := E.add (v := .pointer (some ⟨γ36b, 0, none⟩)) (V 10 _ rfl)
            clear V
            have hOa := hM.2.1 rfl
            obtain ⟨hul, hau, hu⟩ := hM.2.2 rfl
            have fu := hM.1
            generalize γ36b = u at E hul hau hu
            generalize γ36a = va at E hOa hau hu
            clear hM hsr hq0 hnb0
            have hgu : g ≠ u := by have := lt_of_blk J.hb; omega
            have hFc := fun i c hc => fu.cell (hFc0 i c hc) id
            have hNF := hNF0.fr fu (fun _ _ h => h)
            have hFu : ∀ c ∈ F0, c.1 ≠ u := fun c hc => by have := (lo.lS _ (hNF0 c hc).mem).1; omega
            clear hFc0 hNF0
            refine then_n ?_
            refine wpIn_seq ?_
            refine wpIn_seq ?_
            refine wpR_region_lit (by kernel_rfl) (fun ⟨_, _, h⟩ => h) ?_
            refine env_put (d := 43) (v := .slice (some ⟨g, 0 + k * s + j * 8, none⟩) F0.length F0.length) E rfl (by decide) rfl (wanted_none rfl _) (run_move rfl (E.get 1 rfl)) fun a E => ?_
            refine env_put (d := 44) (v := .int .i64 (F0.length : Int)) E rfl (by decide) rfl (wanted_none rfl _) (run_len69 rfl (E.get 0 rfl)) fun a E => ?_
            refine env_put (d := 45) (v := .int .i64 0) E rfl (by decide) rfl (wanted_none rfl _) (run_move rfl rfl) fun a E => ?_
            refine wpList_nil ?_
            refine then_n ?_
            refine wpIn_block ?_
            refine wpIn_loop (fun a w2 => ∃ (i : Nat), Env 73 [(45, .int .i64 (i : Int)), (44, .int .i64 (F0.length : Int)), (43, .slice (some ⟨g, 0 + k * s + j * 8, none⟩) F0.length F0.length), (7, .pointer (some ⟨u, 0, none⟩)), (4, .pointer (some ⟨nx, 0, none⟩))] a ∧ i ≤ F0.length ∧ ndB w2 u (accB b0 (F0.take i)) va ∧ Fr (fun b => b = u) wu w2) (fun a _ => F0.length - (intOf (a.eval (.tmp 45))).toNat) ?_ ?_
            · exact ⟨0, E.of ⟨E.get 0 rfl, E.get 1 rfl, E.get 2 rfl, E.get 3 rfl, E.get 6 rfl, trivial⟩, Nat.zero_le _, hu, Fr.refl _ _⟩
            clear E
            rintro a w2 ⟨i, E, hi, hu, hF⟩
            have hmu : F0.length - (intOf (a.eval (.tmp 45))).toNat = F0.length - i := by rw [E.get 0 rfl]; first | rfl | (simp [intOf]; done) | (simp only [intOf]; omega)
            rw [hmu]
            clear hmu
            refine wpIn_seq ?_
            refine wpR_region_lit (by kernel_rfl) (fun ⟨_, _, h⟩ => h) ?_
            refine env_put (d := 46) (v := .bool (decide ((i : Int) < (F0.length : Int)))) E rfl (by decide) rfl (wanted_none rfl _) (run_ilss (E.get 0 rfl) (E.get 1 rfl) Try.underlying3 rfl) fun a E => ?_
            refine wpList_nil ?_
            refine then_n ?_
            refine wpIn_seq ?_
            cases hq38 : (decide ((i : Int) < (F0.length : Int))) with
            | false =>
              rw [hq38] at E
              have hie : i = F0.length := by have := of_decide_eq_false hq38; omega
              rw [hie, List.take_length] at hu
              refine wpIn_cond_false (E.get 0 rfl) ?_
              refine wpIn_exit ?_
              refine then_e ?_
              refine then_e ?_
              refine blk_e ?_
              refine then_n ?_
              have hx9 := hF.obj (fu.obj J.hx id) (fun e => by have := lt_of_blk J.hx; omega)
              have hOw := (J.hO.fr fu (fun _ _ h => h)).fr hF (fun b hb9 e => by have := (J.hO.lt hb9).2; omega)
              have hx := hx9
              refine wpR_region_lit (by kernel_rfl) (fun ⟨_, _, h⟩ => h) ?_
              refine env_put (d := 62) (v := nw) E rfl (by decide) rfl (wanted_none rfl _) (run_ld69 rfl (E.get 5 rfl) (bx hx 0 rfl)) fun a E => ?_
              refine env_put (d := 63) (v := .pointer (some ⟨u, 0, none⟩)) E rfl (by decide) rfl (wanted_none rfl _) (run_move rfl (E.get 5 rfl)) fun a E => ?_
              refine env_one69 (c := (u, accB b0 F0, enL F0)) (d := 64) E rfl (by decide) rfl (wanted_none rfl _) rfl (E.get 0 rfl) fun a w1 bo hso f3 E => ?_
              have hwuz := fu.size
              have hwvz := hF.size
              have hwwz := f3.size
              have hOx := hOw.fr f3 (fun _ _ h => h)
              refine env_app69 (d := 65) E rfl (by decide) rfl rfl rfl (E.get 2 rfl) hOx (E.get 0 rfl) hso (fun h => by cases h) (by have := J.hc; have := H.hc.1; simp; omega) (by omega) fun a w3 v9 hO9 f4 hloc E => ?_
              have hx9 := f4.obj (f3.obj hx9 id) (fun e => by have := (J.hO.lt e).1; have := lo.lx; omega)
              obtain ⟨pn, cn, hvv, _⟩ := hO9.src ndL_len
              refine env_store E rfl (wanted_none rfl _) (run_st69 hvv rfl (E.get 9 rfl) (E.get 0 rfl) (bx hx9 0 rfl) (free_of_blk hx9 0)) fun E => ?_
              clear hvv
              refine wpList_nil ?_
              refine blk_n ?_
              obtain ⟨S3, hS3⟩ : ∃ S3 : Nat → Prop, S3 = fun b => S2 b ∨ b = u ∨ va.ownBlock = some b ∨ S b := ⟨_, rfl⟩
              refine rndP_n ⟨⟨S3, N2 ++ [(u, accB b0 F0, enL F0)], v9, ?_⟩, ?_⟩
              · exact in_next lo hwk2 hwki hwj hul hau J hF0 hFne hok0 hOa hNF hu fu hF f3 f4 hO9 hloc hx9 hS3
              · exact in_rec lo hwk2 hwki hwj hul J fu hF f3 f4 v9
            | true =>
              rw [hq38] at E
              have hi3 : i < F0.length := by have := of_decide_eq_true hq38; omega
              obtain ⟨q, hq⟩ : ∃ q, F0[i]? = some q := ⟨_, List.getElem?_eq_getElem hi3⟩
              have hqc := hF.cell (hFc i q hq) hgu
              have hqm := List.mem_of_getElem? hq
              have hnbq : nb w2 q.1 q.2.1 := (hNF q hqm).nb.fr hF (fun e => hFu q hqm e)
              refine wpIn_cond_true (E.get 0 rfl) ?_
              refine wpIn_skip ?_
              refine then_n ?_
              refine wpIn_seq ?_
              refine wpIn_block ?_
              refine wpIn_seq ?_
              refine wpR_region_lit (by kernel_rfl) (fun ⟨_, _, h⟩ => h) ?_
              refine env_put (d := 47) (v := .pointer (some ⟨g, (0 + k * s + j * 8 + i), none⟩)) E rfl (by decide) rfl (wanted_none rfl _) (run_index69 (i := i) rfl (E.get 3 rfl) (E.get 1 rfl) hi3) fun a E => ?_
              refine env_put (d := 48) (v := .pointer (some ⟨q.1, 0, none⟩)) E rfl (by decide) rfl (wanted_none rfl _) (run_ld59 rfl (E.get 0 rfl) hqc) fun a E => ?_
              refine env_put (d := 9) (v := .pointer (some ⟨q.1, 0, none⟩)) E rfl (by decide) rfl (wanted_none rfl _) (run_assign rfl (E.get 0 rfl)) fun a E => ?_
              refine wpList_nil ?_
              refine then_n ?_
              refine wpR_region_invx (G := Unit) () (n := 73) (base := [(7, .pointer (some ⟨u, 0, none⟩)), (9, .pointer (some ⟨q.1, 0, none⟩)), (45, .int .i64 (i : Int)), (44, .int .i64 (F0.length : Int)), (43, .slice (some ⟨g, 0 + k * s + j * 8, none⟩) F0.length F0.length), (4, .pointer (some ⟨nx, 0, none⟩))]) (U := []) (T := fun γ => [some (49, .pointer (some ⟨u, 0, none⟩)), some (50, .pointer (some ⟨u, 0, none⟩)), some (51, .pointer (some ⟨u, 0, none⟩)), some (52, .pointer (some ⟨u, 0, none⟩)), some (53, .agg (bxC (accB b0 (F0.take i)))), some (54, .pointer (some ⟨q.1, 0, none⟩)), some (55, .pointer (some ⟨q.1, 0, none⟩)), some (56, .pointer (some ⟨q.1, 0, none⟩)), some (57, .agg (bxC q.2.1)), some (58, .agg (bxC (arB (accB b0 (F0.take i)) q.2.1))), some (59, .pointer (some ⟨u, 0, none⟩)), some (60, .pointer (some ⟨u, 0, none⟩)), none]) (M := fun γ ls9 wm => Fr (fun b => b = u) w2 wm ∧ ndB wm u (bif ls9 12 then (arB (accB b0 (F0.take i)) q.2.1) else (accB b0 (F0.take i))) va) (by kernel_rfl) (fun ⟨_, _, h⟩ => h) (by kernel_rfl) (by kernel_rfl) (fun _ => by kernel_rfl) (E.of ⟨E.get 7 rfl, E.get 0 rfl, E.get 4 rfl, E.get 5 rfl, E.get 6 rfl, E.get 8 rfl, trivial⟩) (fun x hx => by cases hx) ⟨(Fr.refl _ _).drew, (Fr.refl (fun _ => False) _).drew.obj hu id⟩ ?_ ?_
              · intro j9 o9 γ ls9 a w5 ho hl E D9 DL DL2 hB hM
                have hnq := hnbq.fr hM.1 (fun e => hFu q hqm e)
                match j9, ho, hl, D9, DL, hB with
                | 0, ho, hl, D9, DL, hB =>
                  obtain rfl := Option.some.inj ho
                  exact ⟨fun _ => valx rfl (run_move rfl (E.get 0 rfl)) rfl hM, fun h => by rw [wanted_none rfl] at h; cases h⟩
                | 1, ho, hl, D9, DL, hB =>
                  obtain rfl := Option.some.inj ho
                  exact ⟨fun _ => valx rfl (run_move rfl (E.get 0 rfl)) rfl hM, fun h => by rw [wanted_none rfl] at h; cases h⟩
                | 2, ho, hl, D9, DL, hB =>
                  obtain rfl := Option.some.inj ho
                  exact ⟨fun _ => valx rfl (run_nilchk rfl (D9 1 _ rfl rfl)) rfl hM, fun h => by rw [wanted_none rfl] at h; cases h⟩
                | 3, ho, hl, D9, DL, hB =>
                  obtain rfl := Option.some.inj ho
                  exact ⟨fun _ => valx rfl (fa71_0 rfl (D9 2 _ rfl rfl)) rfl hM, fun h => by rw [wanted_none rfl] at h; cases h⟩
                | 4, ho, hl, D9, DL, hB =>
                  have h9 : ls9 12 = false := by
                    cases h8 : ls9 12 with
                    | false => rfl
                    | true => exact absurd (hl.symm.trans (DL2 9 4 rfl (DL2 12 9 rfl h8))) (by decide)
                  have h7 := hM.2
                  rw [h9] at h7
                  obtain rfl := Option.some.inj ho
                  exact ⟨fun _ => valx rfl (run_ld26 rfl (D9 3 _ rfl rfl) (rng4 (p := (accB b0 (F0.take i))) h7 0 rfl rfl rfl rfl)) rfl hM, fun h => by rw [wanted_none rfl] at h; cases h⟩
                | 5, ho, hl, D9, DL, hB =>
                  obtain rfl := Option.some.inj ho
                  exact ⟨fun _ => valx rfl (run_move rfl (E.get 1 rfl)) rfl hM, fun h => by rw [wanted_none rfl] at h; cases h⟩
                | 6, ho, hl, D9, DL, hB =>
                  obtain rfl := Option.some.inj ho
                  exact ⟨fun _ => valx rfl (run_nilchk rfl (D9 5 _ rfl rfl)) rfl hM, fun h => by rw [wanted_none rfl] at h; cases h⟩
                | 7, ho, hl, D9, DL, hB =>
                  obtain rfl := Option.some.inj ho
                  exact ⟨fun _ => valx rfl (fa71_0 rfl (D9 6 _ rfl rfl)) rfl hM, fun h => by rw [wanted_none rfl] at h; cases h⟩
                | 8, ho, hl, D9, DL, hB =>
                  obtain rfl := Option.some.inj ho
                  exact ⟨fun _ => valx rfl (run_ld26 rfl (D9 7 _ rfl rfl) hnq) rfl hM, fun h => by rw [wanted_none rfl] at h; cases h⟩
                | 9, ho, hl, D9, DL, hB =>
                  obtain rfl := Option.some.inj ho
                  exact ⟨fun _ => callx rfl (run_call2 (enters_of Try.func60 (by kernel_rfl) rfl) rfl rfl (D9 4 _ rfl rfl) (D9 8 _ rfl rfl)) (around_calls _ _ _) rfl fun w9 f1 => ⟨hM.1.trans' f1 (fun _ _ h => h.elim), by
                    have h6 := f1.obj hM.2 id
                    have h5 : ls9 12 = false := by
                      cases h8 : ls9 12 with
                      | false => rfl
                      | true => exact absurd (hl.symm.trans (DL2 12 9 rfl h8)) (by decide)
                    exact h6⟩, fun h => by rw [wanted_none rfl] at h; cases h⟩
                | 10, ho, hl, D9, DL, hB =>
                  obtain rfl := Option.some.inj ho
                  exact ⟨fun _ => valx rfl (run_nilchk rfl (D9 0 _ rfl rfl)) rfl hM, fun h => by rw [wanted_none rfl] at h; cases h⟩
                | 11, ho, hl, D9, DL, hB =>
                  obtain rfl := Option.some.inj ho
                  exact ⟨fun _ => valx rfl (fa71_0 rfl (D9 10 _ rfl rfl)) rfl hM, fun h => by rw [wanted_none rfl] at h; cases h⟩
                | 12, ho, hl, D9, DL, hB =>
                  have h7 := hM.2
                  rw [hl] at h7
                  obtain rfl := Option.some.inj ho
                  exact ⟨fun _ => storex rfl (run_st26n rfl (D9 11 _ rfl rfl) (D9 9 _ rfl rfl) h7) rfl ⟨hM.1.trans' (Fr.one4 _ _ _ _ _ _) (fun _ _ e => e), ndB.set h7 _⟩, fun h => by rw [wanted_none rfl] at h; cases h⟩
                | j9 + 13, ho, hl, D9, DL, hB => exact absurd ho (by simp)
              · rintro _ a w6 E V hM
                clear V
                have hu : ndB w6 u (arB (accB b0 (F0.take i)) q.2.1) va := hM.2
                have hF := hF.trans' hM.1 (fun _ _ e => e)
                rw [← accB_take hq] at hu
                clear hM
                refine blk_n ?_
                refine then_n ?_
                refine wpR_region_lit (by kernel_rfl) (fun ⟨_, _, h⟩ => h) ?_
                refine env_put (d := 61) (v := .int .i64 ((i : Int) + 1)) E rfl (by decide) rfl (wanted_none rfl _) (run_iadd Try.underlying3 (E.get 2 rfl) rfl (by omega) (by omega) rfl) fun a E => ?_
                refine env_set (d := 45) (v := .int .i64 ((i : Int) + 1)) E rfl (by decide) (wanted_none rfl _) (run_move rfl (E.get 0 rfl)) fun a E => ?_
                refine wpList_nil ?_
                refine then_n ?_
                refine ⟨⟨i + 1, E.of ⟨E.get 0 rfl, E.get 4 rfl, E.get 5 rfl, E.get 2 rfl, E.get 6 rfl, trivial⟩, by omega, hu, hF⟩, ?_⟩
                rw [E.get 0 rfl]; simp only [intOf]; omega
        · rintro W ⟨S2, N2, nw, J⟩
          refine blk_n ?_
          refine blk_n ?_
          have hjl := chs_len (g := g) (off := 0 + k * s) (N := E0.length) (n := 8) (by omega)
          rw [hjl] at J
          refine rndP_n ⟨⟨S2, N2, nw, cur2, ?_⟩, ?_⟩
          · exact out_next hDl H J hks hE0 hE0l hE1 hout hs8 hlt1
          · exact out_rec lo J hwk2
      · rintro W ⟨S1, N1, nv, cr, H⟩ hDk
        have E := env_mark (D := wr.heap.size) E
        have hkl := chs_len (g := g) (off := 0) (N := C.length) hs1
        rw [hkl] at H
        obtain ⟨pn, cn, hvn, _, _, _, _⟩ := H.hO.src ndL_len
        subst hvn
        have hPe := H.hP
        have hcl := H.hc
        have hkk := chs_cov (N := C.length) hs1
        rw [List.take_of_length_le (by rw [hDl]; exact hkk)] at hPe
        have hk1 : 1 ≤ (C.length + s - 1) / s := chs_pos hs1 (by omega)
        have hcl2 := hcl.2 hk1
        rw [Nat.min_eq_right hkk] at hcl2
        have hPn : (enL N1).Perm (enL C0) := (hPe.trans hPD).trans hP
        have hN1 := H.hN1
        have hOn : oNd W 0 (.slice pn N1.length cn) N1 := H.hO.base (Nat.zero_le _)
        have hnm : ¬ isMark ds wr.heap.size := fun hk => by have := lt_of_blk (hm.at hk); omega
        have hmn := ((hm.fr H.hf (fun b hk e => by have h9 := hm.at hk; rcases e with e | e; (subst e; rw [h9] at hb; cases hb); (subst e; rw [h9] at hx; cases hx))).cons hDk hnm)
        have hwl : w.heap.size ≤ wr.heap.size := hT.size
        have hmwn : ∀ b, isMark (mkD wr.heap.size :: ds) b → w.heap.size ≤ b := fun b hk => by rcases isMark_cons.1 hk with rfl | hk; exact hwl; exact hmw b hk
        have hSn : ∀ b, S1 b → b < W.heap.size ∧ (Value.slice pn N1.length cn).ownBlock ≠ some b ∧ ¬ isMark (mkD wr.heap.size :: ds) b := fun b hb9 => ⟨(H.hSl b hb9).1, (H.hSl b hb9).2, fun hk => by
            rcases H.hS1 b hb9 with h9 | h9
            · rcases isMark_cons.1 hk with rfl | hk
              · have := (lo.lS _ h9).1; omega
              · exact (hS b h9).2.2 hk
            · rcases isMark_cons.1 hk with rfl | hk
              · omega
              · have := lt_of_blk (hm.at hk); omega⟩
        have hS0n : ∀ b, S1 b → S0 b ∨ w.heap.size ≤ b := fun b hb9 => by rcases H.hS1 b hb9 with h9 | h9; exact hS0 b h9; exact .inr (by omega)
        have hTn := hT.trans' H.hf (fun r hr e => by rcases e with e | e; (rcases hvb g rfl with h9 | h9; (rw [e]; exact h9); omega); omega)
        have hvn : ∀ b, (Value.slice pn N1.length cn).ownBlock = some b → v0.ownBlock = some b ∨ w.heap.size ≤ b := fun b hb9 => .inr (by have := (H.hO.lt hb9).1; omega)
        have hx := H.hx
        refine blk_n ?_
        refine then_n ?_
        refine wp_region_lit ?_
        refine env_put (d := 66) (v := .slice pn N1.length cn) E rfl (by decide) rfl (wanted_none rfl _) (run_ld69 rfl (E.get 3 rfl) (bx hx 0 rfl)) fun a E => ?_
        refine env_set (d := 0) (v := .slice pn N1.length cn) E rfl (by decide) (wanted_none rfl _) (run_assign rfl (E.get 0 rfl)) fun a E => ?_
        refine wpList_nil ?_
        refine blk_n ?_
        refine then_n ?_
        refine ⟨⟨pn, cn, N1, h + 1, S1, _, E.of ⟨E.get 0 rfl, E.get 14 rfl, trivial⟩, hOn, hN1, hSn, hS0n, hmn, hmwn, hPn, by omega, hTn, hvn⟩, ?_⟩
        rw [E.get 0 rfl]; simp only [lenOf]; omega
    | true =>
      rw [hq35] at E
      refine wp_cond_true (E.get 0 rfl) ?_
      refine wp_skip ?_
      refine then_n ?_
      refine wp_block ?_
      refine wp_region_lit ?_
      refine env_put (d := 22) (v := .int .i64 (s : Int)) E rfl (by decide) rfl (wanted_none rfl _) (run_move rfl (E.get 8 rfl)) fun a E => ?_
      refine env_put (d := 23) (v := .int .i64 ((s : Int) + 8)) E rfl (by decide) rfl (wanted_none rfl _) (run_iadd Try.underlying3 (E.get 0 rfl) rfl (by omega) (by omega) rfl) fun a E => ?_
      refine env_set (d := 3) (v := .int .i64 ((s : Int) + 8)) E rfl (by decide) (wanted_none rfl _) (run_assign rfl (E.get 0 rfl)) fun a E => ?_
      refine wpList_nil ?_
      refine blk_n ?_
      refine then_n ?_
      rw [show ((s : Int) + 8) = ((s + 8 : Nat) : Int) by omega] at E
      have hlt9 : (s : Int) < (C.length : Int) * 8 := by have := of_decide_eq_true hq35; omega
      refine ⟨⟨s + 8, E.of ⟨E.get 10 rfl, E.get 0 rfl, E.get 11 rfl, trivial⟩, by omega, by omega, rfl⟩, ?_⟩
      rw [E.get 0 rfl]; simp only [intOf]; omega
end Go.Proofs.Ytcafnanbdmapgaa
