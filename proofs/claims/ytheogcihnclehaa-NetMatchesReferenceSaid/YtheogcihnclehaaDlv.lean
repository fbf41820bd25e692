/- Deliver, Spoil, New of package net. -/
import Derived.Test.YtheogcihnclehaaTake
namespace Go.Proofs.Ytheogcihnclehaa
open Go.RowKit Go.Pl Go.WideMaps

set_option maxHeartbeats 400000 in
theorem deliver_nil (a b i : Int) (again : Bool) (w : World) : Calls Try.prog 22 #[.pointer none, .int .i64 a, .int .i64 b, .int .i64 i, .bool again] w fun e w' => e = .returned (.tuple #[.string ByteArray.empty, .int .i64 1]) ∧ Fr (fun _ => False) w w' := by
  go_enter Try.func22, Try.ntmps22
  go_wp2_with (first | (go_at_call 30; refine (of_nil a b _).mono ?_; rintro e w1 ⟨rfl, hfr⟩) | (go_at_call 31; refine (get_nil i _).mono ?_; rintro e w2 ⟨rfl, rfl⟩))
  go_ret2
  exact ⟨rfl, hfr⟩

abbrev DV (S : NetS) (a b i : Int) : Value := .tuple #[.string (S.deliverT a b i), .int .i64 (S.deliverE a b i)]

set_option maxHeartbeats 1000000 in
theorem deliver_calls {p : Nat} {ρ : Roles} {S : NetS} {w : World} (h : NetAt w p ρ S) (a b i : Int) (again : Bool) :
    Calls Try.prog 22 #[.pointer (some ⟨p, 0, none⟩), .int .i64 a, .int .i64 b, .int .i64 i, .bool again] w (NPost p ρ (S.deliver a b i again) (DV S a b i) w) := by
  have h0 := h
  obtain ⟨mq, mc, f, g, h⟩ := h
  by_cases hr : S.right a b
  · obtain ⟨h1, h2, h3, h4, h5⟩ := id hr
    go_enter Try.func22, Try.ntmps22
    go_wp2_with fail
    refine (of_calls h h1 h2 h3 h4 h5).mono ?_
    rintro e w1 ⟨f', ρ', qb, rfl, h', hf', hfr, hgr⟩
    obtain ⟨c2, hlk, sl, bs, hrq, hq, hl⟩ := h'.looks hr hf'
    have cq : w1.cell? ⟨qb, 0, none⟩ = some sl := by rw [cell_of_blk hq]; rfl
    have hsimple : ∀ E : Int, E ≠ 0 → S.deliverE a b i = E → Hid (NPost p ρ (S.deliver a b i again) (DV S a b i) w (.returned (.tuple #[.string ByteArray.empty, .int .i64 E])) w1) := fun E h0 hE => by
      rw [NetS.deliver, DV, NetS.deliverT, hE, if_neg (by simp [h0]), if_neg h0]
      exact ⟨rfl, ρ', ⟨mq, mc, f', g, h'⟩, hfr, hgr⟩
    cases ht : S.at_ a b i with
    | none =>
      obtain ⟨sa, cap, rfl, hLm⟩ := hl.shape
      have hi := NetS.at_none ht
      by_cases hcut : S.cut a b = true
      · have hE := hsimple 20 (by omega) (by simp [NetS.deliverE, hr, hcut])
        rw [hcut] at hlk
        clear hf' hq hl ht hsimple
        go_wp2_with (go_at_call 31; refine (get_out _ _ _ _ _ _ cq hLm hi).mono ?_; rintro e w2 ⟨rfl, rfl⟩)
        go_ret2
        exact hE.out
      · rw [Bool.not_eq_true] at hcut
        have hE := hsimple 11 (by omega) (by simp [NetS.deliverE, hr, hcut, ht])
        rw [hcut] at hlk
        clear hf' hq hl ht hsimple
        go_wp2_with (go_at_call 31; refine (get_out _ _ _ _ _ _ cq hLm hi).mono ?_; rintro e w2 ⟨rfl, rfl⟩)
        go_ret2
        exact hE.out
    | some t =>
      obtain ⟨hi0, hi1, hi2⟩ := NetS.at_some ht
      obtain ⟨gb, cap, cur, m, rfl, hg, h5, h3, h4, h6, hm, hv, hmt⟩ := hl.msg hi2
      have hget := Lib.hid (get_in qb i.toNat gb _ cap _ w1 cq (by unfold maxLen at h4; omega) hi1 hv)
      obtain ⟨j, rfl⟩ := Int.eq_ofNat_of_zero_le hi0
      simp only [Int.toNat_natCast] at *
      by_cases hcut : S.cut a b = true
      · have hE := hsimple 20 (by omega) (by simp [NetS.deliverE, hr, hcut])
        rw [hcut] at hlk
        clear hf' hq hl ht hsimple hg h6 hv hmt hm hi2
        go_wp2_with (go_at_call 31; refine hget.out.mono ?_; rintro e w2 ⟨rfl, rfl⟩)
        go_ret2
        exact hE.out
      · rw [Bool.not_eq_true] at hcut
        have h00 : S.deliverE a b j = 0 := by simp [NetS.deliverE, hr, hcut, ht]
        have hDV : DV S a b j = .tuple #[.string t, .int .i64 0] := by simp [DV, NetS.deliverT, h00, ht]
        have hcv : ∀ W : World, W.heap[m]? = some (.cells (bytesOf t) 5 (0, 0)) → (convert 38 9 (.slice (some ⟨m, 0, none⟩) t.size t.size)).run Try.prog W = .ok (.string t) W :=
          fun W hW => text_of W 38 9 5 m t.size t Try.underlying38 Try.underlying5 Try.underlying9 hW
        rw [hcut] at hlk
        cases again with
        | true =>
          have hE : Hid (NPost p ρ (S.deliver a b j true) (DV S a b j) w (.returned (.tuple #[.string t, .int .i64 0])) w1) := by
            rw [NetS.deliver, hDV, if_neg (by simp)]
            exact ⟨rfl, ρ', ⟨mq, mc, f', g, h'⟩, hfr, hgr⟩
          have hcv1 := hcv w1 hmt
          clear hf' hq hl ht hsimple hg h6 hv hmt hm hi2 hcv hDV h00
          go_wp2_with (go_at_call 31; refine hget.out.mono ?_; rintro e w2 ⟨rfl, rfl⟩)
          go_ret2
          exact hE.out
        | false =>
          have htake := Lib.hid (take_calls qb gb _ cap j cur w1 hq hg h5 h3 (by unfold maxLen at h4; omega) hi1 (by rw [h6]; exact mvals_one _ _))
          have hrm := hl.role m (List.mem_of_getElem? hm)
          have hE : Hid (∀ w2 e, TakePost qb gb (S.q a b).length cap j cur w1 e w2 → (convert 38 9 (.slice (some ⟨m, 0, none⟩) t.size t.size)).run Try.prog w2 = .ok (.string t) w2 ∧ NPost p ρ (S.deliver a b j false) (DV S a b j) w (.returned (.tuple #[.string t, .int .i64 0])) w2) := by
            rw [NetS.deliver, if_pos ⟨h00, rfl⟩, hDV]
            refine fun w2 e htk => ⟨hcv w2 ?_, took_done h' hfr hgr hf' hrq hl h5 h3 h4 h6 hi1 htk _⟩
            obtain ⟨_, _, _, _, _, _, hfr2⟩ := htk
            refine hfr2.obj hmt ?_
            rintro (rfl | rfl)
            · rw [hrq] at hrm; simp at hrm
            · rw [hl.rsl _ rfl] at hrm; simp at hrm
          clear hf' hq hl ht hsimple hg h6 hv hmt hm hi2 hcv hDV h00 hrm
          go_wp2_with (first | (go_at_call 31; refine hget.out.mono ?_; rintro e w2 ⟨rfl, rfl⟩) | (go_at_call 32; refine htake.out.mono ?_; rintro e w2 hw2; obtain rfl := hw2.1; obtain ⟨hcv2, hF⟩ := hE.out w2 _ hw2; clear hw2))
          go_ret2
          exact hF
  · have hE : Hid (∀ w1, Fr (fun _ => False) w w1 → NPost p ρ (S.deliver a b i again) (DV S a b i) w (.returned (.tuple #[.string ByteArray.empty, .int .i64 1])) w1) := fun w1 hfr => by
      have : S.deliverE a b i = 1 := by simp [NetS.deliverE, hr]
      rw [NetS.deliver, DV, NetS.deliverT, this]
      exact h0.same hfr
    have c0 : w.cell? ⟨p, 0, none⟩ = some (.int .i64 S.nodes) := by rw [cell_of_blk h.hp]; rfl
    go_enter Try.func22, Try.ntmps22
    go_wp2_with (first | (go_at_call 30; refine (of_wrong p a b S.nodes _ c0 hr).mono ?_; rintro e w1 ⟨rfl, hfr⟩) | (go_at_call 31; refine (get_nil i _).mono ?_; rintro e w2 ⟨rfl, rfl⟩))
    go_ret2
    exact hE.out _ hfr

set_option maxHeartbeats 400000 in
theorem spoil_nil (a b i at_ mask : Int) (w : World) : Calls Try.prog 23 #[.pointer none, .int .i64 a, .int .i64 b, .int .i64 i, .int .i64 at_, .int .i64 mask] w fun e w' => e = .returned (.int .i64 1) ∧ Fr (fun _ => False) w w' := by
  go_enter Try.func23, Try.ntmps23
  go_wp2_with (first | (go_at_call 30; refine (of_nil a b _).mono ?_; rintro e w1 ⟨rfl, hfr⟩) | (go_at_call 31; refine (get_nil i _).mono ?_; rintro e w2 ⟨rfl, rfl⟩))
  all_goals
    go_ret
    exact ⟨rfl, hfr⟩

def NewPost (n : Int) (w : World) (e : Ending) (w' : World) : Prop := ∃ p ρ, e = .returned (.tuple #[.pointer (some ⟨p, 0, none⟩), .int .i64 0]) ∧ NetAt w' p ρ (NetS.new n) ∧ Fr (fun _ => False) w w' ∧ ∀ r, ρ r ≠ none → w.heap.size ≤ r
set_option maxHeartbeats 400000 in
theorem new_no (n : Int) (w : World) (h : n < 1 ∨ 8 < n) : Calls Try.prog 11 #[.int .i64 n] w fun e w' => e = .returned (.tuple #[.pointer none, .int .i64 1]) ∧ w = w' := by
  go_enter Try.func11, Try.ntmps11
  go_wp2
  all_goals
    go_ret2
    exact ⟨rfl, rfl⟩
set_option maxHeartbeats 400000 in
theorem new_yes (n : Int) (w : World) (h1 : 1 ≤ n) (h8 : n ≤ 8) : Calls Try.prog 11 #[.int .i64 n] w (NewPost n w) := by
  have hmm := @run_makeMap Try.prog
  go_enter Try.func11, Try.ntmps11
  go_wp2
  go_ret2
  clear hmm
  refine ⟨w.heap.size + 2, fun r => if r = w.heap.size + 2 then some (0, 0, 0) else if r = w.heap.size then some (1, 0, 0) else if r = w.heap.size + 1 then some (2, 0, 0) else none, rfl, ⟨w.heap.size, w.heap.size + 1, fun _ => none, fun _ => none, ?_⟩, (((Fr.refl _ _).alloc _).alloc _).alloc _, ?_⟩
  · refine ⟨blk_alloc_at (by simp) _, by simp, by simp, by simp, ?_, ?_, fun a b => .inl ⟨rfl, rfl⟩, fun a b => rfl, ?_, ⟨h1, h8⟩, fun _ _ t ht => by simp [NetS.new] at ht⟩
    · exact ((MapAt.made w).fr (F := fun _ => False) (w' := (w.alloc (.map #[] 0)).alloc (.map #[] 0)) (by simp) (by simp)).fr (F := fun _ => False) (by simp) (by simp)
    · have := (MapAt.made (P := Try.prog) (K := 45) (w.alloc (.map #[] 0))).fr (F := fun _ => False) (w' := ((w.alloc (.map #[] 0)).alloc (.map #[] 0)).alloc (.cells #[.int .i64 n, .map (some w.heap.size), .map (some (w.heap.size + 1))] 60)) (by simp) (by simp)
      simpa using this
    · intro r hr
      simp only [World.alloc, Array.size_push]
      by_cases e1 : r = w.heap.size + 2
      · omega
      · by_cases e2 : r = w.heap.size
        · omega
        · by_cases e3 : r = w.heap.size + 1
          · omega
          · simp [e1, e2, e3] at hr
  · intro r hr
    by_cases e1 : r = w.heap.size + 2
    · omega
    · by_cases e2 : r = w.heap.size
      · omega
      · by_cases e3 : r = w.heap.size + 1
        · omega
        · simp [e1, e2, e3] at hr
end Go.Proofs.Ytheogcihnclehaa
