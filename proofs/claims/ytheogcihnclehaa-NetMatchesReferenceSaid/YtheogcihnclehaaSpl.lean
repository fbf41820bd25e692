/- Spoil of package net. -/
import Derived.Test.YtheogcihnclehaaDlv
namespace Go.Proofs.Ytheogcihnclehaa
open Go.RowKit Go.Pl Go.WideMaps

theorem spoilT_size (t : ByteArray) (k : Nat) (mask : Int) : (spoilT t k mask).size = t.size := Array.size_modify ..
theorem spoil_bytes (t : ByteArray) (k : Nat) (mask : Int) (hk : k < t.data.size) (h1 : 1 ≤ mask) (h2 : mask ≤ 255) :
    Obj.cells ((bytesOf t).setIfInBounds k (.int .u8 (bits BinOp.xor .u8 (t.data[k].toNat : Int) mask))) 5 (0, 0) = Obj.cells (bytesOf (spoilT t k mask)) 5 (0, 0) := by
  have hx := t.data[k].toNat_lt
  have hb : bits BinOp.xor .u8 (t.data[k].toNat : Int) mask = ((t.data[k] ^^^ UInt8.ofNat mask.toNat).toNat : Int) := by
    rw [u8_xor _ _ (by omega) (by omega) (by omega) (by omega), Int.toNat_natCast, UInt8.toNat_xor, UInt8.toNat_ofNat_of_lt' (by have : UInt8.size = 256 := rfl; omega)]
  rw [hb]
  congr 1
  apply Array.ext_getElem?
  intro i
  simp only [bytesOf, spoilT, Array.getElem?_setIfInBounds, Array.getElem?_map, Array.getElem?_modify, Array.size_map]
  by_cases hi : k = i
  · subst hi
    simp only [if_true, hk, Array.getElem?_eq_getElem hk, Option.map_some]
  · simp only [hi, if_false]

set_option maxHeartbeats 1000000 in
theorem spoil_calls {p : Nat} {ρ : Roles} {S : NetS} {w : World} (h : NetAt w p ρ S) (a b i at_ mask : Int) :
    Calls Try.prog 23 #[.pointer (some ⟨p, 0, none⟩), .int .i64 a, .int .i64 b, .int .i64 i, .int .i64 at_, .int .i64 mask] w (NPost p ρ (S.spoil a b i at_ mask) (.int .i64 (S.spoilE a b i at_ mask)) w) := by
  have h0 := h
  obtain ⟨mq, mc, f, g, h⟩ := h
  by_cases hr : S.right a b
  · obtain ⟨h1, h2, h3, h4, h5⟩ := id hr
    go_enter Try.func23, Try.ntmps23
    go_wp2_with fail
    refine (of_calls h h1 h2 h3 h4 h5).mono ?_
    rintro e w1 ⟨f', ρ', qb, rfl, h', hf', hfr, hgr⟩
    obtain ⟨c2, hlk, sl, bs, hrq, hq, hl⟩ := h'.looks hr hf'
    have cq : w1.cell? ⟨qb, 0, none⟩ = some sl := by rw [cell_of_blk hq]; rfl
    have hsimple : ∀ E : Int, E ≠ 0 → S.spoilE a b i at_ mask = E → Hid (NPost p ρ (S.spoil a b i at_ mask) (.int .i64 (S.spoilE a b i at_ mask)) w (.returned (.int .i64 E)) w1) := fun E h0 hE => by
      rw [NetS.spoil, hE, if_neg h0]
      exact ⟨rfl, ρ', ⟨mq, mc, f', g, h'⟩, hfr, hgr⟩
    by_cases hmask : mask < 1 ∨ 255 < mask
    · have hE := hsimple 1 (by omega) (by simp [NetS.spoilE, hr, hmask])
      cases ht : S.at_ a b i with
      | none =>
        obtain ⟨sa, cap, rfl, hLm⟩ := hl.shape
        have hi := NetS.at_none ht
        clear hf' hq hl ht hsimple
        go_wp2_with (go_at_call 31; refine (get_out _ _ _ _ _ _ cq hLm hi).mono ?_; rintro e w2 ⟨rfl, rfl⟩)
        all_goals
          go_ret
          exact hE.out
      | some t =>
        obtain ⟨hi0, hi1, hi2⟩ := NetS.at_some ht
        obtain ⟨gb, cap, cur, m, rfl, hg, h5, h3, h4, h6, hm, hv, hmt⟩ := hl.msg hi2
        have hget := Lib.hid (get_in qb i.toNat gb _ cap _ w1 cq (by unfold maxLen at h4; omega) hi1 hv)
        obtain ⟨j, rfl⟩ := Int.eq_ofNat_of_zero_le hi0
        simp only [Int.toNat_natCast] at *
        clear hf' hq hl ht hsimple hg h6 hv hmt hm hi2
        go_wp2_with (go_at_call 31; refine hget.out.mono ?_; rintro e w2 ⟨rfl, rfl⟩)
        all_goals
          go_ret
          exact hE.out
    have hm1 : 1 ≤ mask := by omega
    have hm2 : mask ≤ 255 := by omega
    cases ht : S.at_ a b i with
    | none =>
      obtain ⟨sa, cap, rfl, hLm⟩ := hl.shape
      have hi := NetS.at_none ht
      have hE := hsimple 11 (by omega) (by simp [NetS.spoilE, hr, hmask, ht])
      clear hf' hq hl ht hsimple hmask
      go_wp2_with (go_at_call 31; refine (get_out _ _ _ _ _ _ cq hLm hi).mono ?_; rintro e w2 ⟨rfl, rfl⟩)
      all_goals
        go_ret
        exact hE.out
    | some t =>
      obtain ⟨hi0, hi1, hi2⟩ := NetS.at_some ht
      obtain ⟨gb, cap, cur, m, rfl, hg, h5, h3, h4, h6, hm, hv, hmt⟩ := hl.msg hi2
      have hget := Lib.hid (get_in qb i.toNat gb _ cap _ w1 cq (by unfold maxLen at h4; omega) hi1 hv)
      have hsz : t.size ≤ 20000 := h'.sz a b t (List.mem_of_getElem? hi2)
      obtain ⟨j, rfl⟩ := Int.eq_ofNat_of_zero_le hi0
      simp only [Int.toNat_natCast] at *
      by_cases hat : at_ < 0 ∨ (t.size : Int) ≤ at_
      · have hE := hsimple 11 (by omega) (by simp [NetS.spoilE, hr, hmask, ht, hat])
        clear hf' hq hl ht hsimple hg h6 hv hmt hm hi2 hmask
        go_wp2_with (go_at_call 31; refine hget.out.mono ?_; rintro e w2 ⟨rfl, rfl⟩)
        all_goals
          go_ret
          exact hE.out
      · have hE0 : S.spoilE a b j at_ mask = 0 := by simp [NetS.spoilE, hr, hmask, ht, hat]
        obtain ⟨k, rfl⟩ := Int.eq_ofNat_of_zero_le (show 0 ≤ at_ by omega)
        have hk : k < t.size := by omega
        have hkd : k < t.data.size := hk
        have hcm : w1.cell? ⟨m, k, none⟩ = some (.int .u8 t.data[k].toNat) := by
          rw [cell_of_blk hmt, bytesOf, Array.getElem?_map, Array.getElem?_eq_getElem hkd]; rfl
        have hfm := free_of_blk hmt k
        have hfin : Hid (NPost p ρ (S.spoil a b j k mask) (.int .i64 (S.spoilE a b j k mask)) w (.returned (.int .i64 0)) (w1.setCell ⟨m, k, none⟩ (.int .u8 (bits BinOp.xor .u8 (t.data[k].toNat : Int) mask)))) := by
          have hrm := hl.role m (List.mem_of_getElem? hm)
          have hsp : S.spoil a b j k mask = S.setq a b ((S.q a b).set j (spoilT t k mask)) := by simp [NetS.spoil, hE0, ht]
          rw [hE0, hsp]
          refine ⟨rfl, ρ', ⟨mq, mc, f', g, h'.spoilt hf' hrq hq hl hm (fun u hu => ?_) ?_ (Fr.setCell (F := fun r => r = m) (Fr.refl _ _) (fun _ => rfl) _)⟩, fr_trans_grows hfr hgr ((Fr.refl _ _).setCell (fun _ => ?_) _), hgr⟩
          · rw [hi2] at hu; cases hu; exact spoilT_size _ _ _
          · rw [blk_setCell_same hmt, spoil_bytes t k mask hk hm1 hm2]
          · show ρ' m ≠ none; rw [hrm]; simp
        clear hf' hq hl ht hsimple hg h6 hv hm hi2 hmask hmt hat
        go_wp2_with (go_at_call 31; refine hget.out.mono ?_; rintro e w2 ⟨rfl, rfl⟩)
        go_ret
        exact hfin.out
  · have hE : Hid (∀ w1, Fr (fun _ => False) w w1 → NPost p ρ (S.spoil a b i at_ mask) (.int .i64 (S.spoilE a b i at_ mask)) w (.returned (.int .i64 1)) w1) := fun w1 hfr => by
      have : S.spoilE a b i at_ mask = 1 := by simp [NetS.spoilE, hr]
      rw [NetS.spoil, this]
      exact h0.same hfr
    have c0 : w.cell? ⟨p, 0, none⟩ = some (.int .i64 S.nodes) := by rw [cell_of_blk h.hp]; rfl
    go_enter Try.func23, Try.ntmps23
    go_wp2_with (first | (go_at_call 30; refine (of_wrong p a b S.nodes _ c0 hr).mono ?_; rintro e w1 ⟨rfl, hfr⟩) | (go_at_call 31; refine (get_nil i _).mono ?_; rintro e w2 ⟨rfl, rfl⟩))
    all_goals
      go_ret
      exact hE.out _ hfr
end Go.Proofs.Ytheogcihnclehaa
