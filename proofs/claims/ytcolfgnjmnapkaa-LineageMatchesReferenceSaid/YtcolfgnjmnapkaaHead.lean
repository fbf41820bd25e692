/- head's examples. -/
import Derived.Test.YtcolfgnjmnapkaaFol
namespace Go.Proofs.Ytcolfgnjmnapkaa
open Go.RowKit Go.Pl

theorem pt_spl {S : LinS} {a b : ByteArray} (hE : followE S (spl a b) = 0) (u x : ByteArray) : (followS S (spl a b)).pt u x = true ↔ S.pt u x = true ∨ (x = b ∧ S.pt u a = true) := by
  rw [followS_pt hE, turn_iff]; simp [spl]
theorem pt_joi {S : LinS} {a b : ByteArray} (hE : followE S (joi a b) = 0) (u x : ByteArray) : (followS S (joi a b)).pt u x = true ↔ (S.pt u x = true ∧ x ≠ b) ∨ (x = a ∧ S.pt u b = true) := by
  rw [followS_pt hE, turn_iff]; simp [joi]
theorem spl_sz {a b : ByteArray} (ha : a.size ≤ maxLen) (hb : b.size ≤ maxLen) : (spl a b).Sz := ⟨ha, hb, (Nat.zero_le _ : 0 ≤ maxLen)⟩
theorem joi_sz {a b : ByteArray} (ha : a.size ≤ maxLen) (hb : b.size ≤ maxLen) : (joi a b).Sz := ⟨ha, hb, (Nat.zero_le _ : 0 ≤ maxLen)⟩
theorem dro_sz {a : ByteArray} (ha : a.size ≤ maxLen) : (dro a).Sz := ⟨ha, (Nat.zero_le _ : 0 ≤ maxLen), (Nat.zero_le _ : 0 ≤ maxLen)⟩

theorem Mine.now {w0 w : World} {p N : Nat} {ρ : Roles} {S : LinS} (m : Mine w0 w p N ρ S) (hN : N ≤ 1000000) {a : ByteArray} (ha : a.size ≤ maxLen) {ys : List ByteArray} (hy : Sorted ys) (hq : ∀ x, x ∈ ys ↔ S.pt a x = true) :
    Calls Try.prog 17 #[.pointer (some ⟨p, 0, none⟩), .string a] w fun e w' => ∃ v, e = .returned v ∧ Kp w' ρ v ys ∧ Fr (fun _ => False) w w' ∧ ∀ k, v.ownBlock = some k → w.heap.size ≤ k :=
  (now_calls m.lin hN ha).mono fun e w' hp => by
    obtain ⟨v, xs, h1, h2, h3, h4, h5, h6⟩ := hp.kp m.lin
    have : xs = ys := sorted_ext h2 hy fun x => by rw [h3, hq]
    subst this
    exact ⟨v, h1, h4, h5, h6⟩
theorem Mine.then_ {w0 w : World} {p N : Nat} {ρ : Roles} {S : LinS} (m : Mine w0 w p N ρ S) (hN : N ≤ 1000000) {a : ByteArray} (ha : a.size ≤ maxLen) {ys : List ByteArray} (hy : Sorted ys) (hq : ∀ x, x ∈ ys ↔ S.pt x a = true) :
    Calls Try.prog 19 #[.pointer (some ⟨p, 0, none⟩), .string a] w fun e w' => ∃ v, e = .returned v ∧ Kp w' ρ v ys ∧ Fr (fun _ => False) w w' ∧ ∀ k, v.ownBlock = some k → w.heap.size ≤ k :=
  (then_calls m.lin hN ha).mono fun e w' hp => by
    obtain ⟨v, xs, h1, h2, h3, h4, h5, h6⟩ := hp.kp m.lin
    have : xs = ys := sorted_ext h2 hy fun x => by rw [h3, hq]
    subst this
    exact ⟨v, h1, h4, h5, h6⟩
theorem Mine.gone {w0 w : World} {p N : Nat} {ρ : Roles} {S : LinS} (m : Mine w0 w p N ρ S) {a : ByteArray} (ha : a.size ≤ maxLen) {g : Bool} (hg : g = true ↔ ∀ y, S.pt a y = false) :
    Calls Try.prog 21 #[.pointer (some ⟨p, 0, none⟩), .string a] w fun e w' => e = .returned (.bool g) ∧ Fr (fun _ => False) w w' :=
  (gone_calls m.lin ha).mono fun e w' hp => by
    obtain ⟨g', h1, h2, h3⟩ := hp
    have : g' = g := by rw [Bool.eq_iff_iff, h2, hg]
    subst this
    exact ⟨h1, h3⟩
theorem Kp.same {w : World} {ρ ρ2 : Roles} {v v2 : Value} {xs ys : List ByteArray} (h : Kp w ρ v xs) (h2 : Kp w ρ2 v2 ys) :
    Calls Try.prog 16 #[v, v2] w (SamePost xs ys w) := by
  obtain ⟨sa, g, cap, k⟩ := strs_of h.own
  obtain ⟨sa2, g2, cap2, k2⟩ := strs_of h2.own
  exact same_calls k k2
theorem Kp.in_ {w : World} {ρ : Roles} {v : Value} {xs : List ByteArray} (h : Kp w ρ v xs) (a : ByteArray) :
    Calls Try.prog 24 #[v, .string a] w fun e w' => e = .returned (.bool (inB xs a)) ∧ w = w' := by
  obtain ⟨sa, g, cap, k⟩ := strs_of h.own
  exact in_calls k a
theorem Kp.built {w : World} {ρ : Roles} {p N : Nat} {S : LinS} (hl : LinAt w p N ρ S) (ys : List ByteArray) (hy : ys.length ≤ 1000) (h0 : 0 < ys.length) : Kp (w.alloc (.cells (ys.map .string).toArray 9)) ρ (.slice (some ⟨w.heap.size, 0, none⟩) ys.length ys.length) ys := by
  refine ⟨⟨by simp, .inr ⟨w.heap.size, ys.length, _, rfl, Nat.zero_le _, blk_alloc_new _ _, Nat.le_refl _, by unfold maxLen; omega, by simp, ?_⟩⟩, fun k hk => ?_⟩
  · show (ys.map Value.string).take (ys.length * 1) = _
    rw [Nat.mul_one, List.take_of_length_le (by simp)]
  · cases hk
    cases e : ρ w.heap.size with
    | none => rfl
    | some x => have := hl.lt w.heap.size (by rw [e]; simp); omega

abbrev sU : ByteArray := ⟨#[117]⟩
abbrev sV : ByteArray := ⟨#[118]⟩
abbrev sW : ByteArray := ⟨#[119]⟩
abbrev sA : ByteArray := ⟨#[97]⟩
abbrev sNew : ByteArray := ⟨#[110, 101, 119]⟩
def hS1 : LinS := followS LinS.new (spl sW sV)
def hS2 : LinS := followS hS1 (spl sV sU)
def hS3 : LinS := followS hS2 (dro sW)
def hS4 : LinS := followS hS3 (joi sV sU)
def hS5 : LinS := followS hS4 (dro sV)
theorem hE1 : followE LinS.new (spl sW sV) = 0 := by decide +kernel
theorem hE2 : followE hS1 (spl sV sU) = 0 := by decide +kernel
theorem hE3 : followE hS2 (dro sW) = 0 := by decide +kernel
theorem hE4 : followE hS3 (joi sV sU) = 0 := by decide +kernel
theorem hE5 : followE hS4 (dro sV) = 0 := by decide +kernel
theorem hE6 : followE hS5 (dro sV) = 11 := by decide +kernel
theorem hE7 : followE hS5 (spl sA sU) = 9 := by decide +kernel
theorem hE8 : followE hS5 (joi sA sA) = 1 := by decide +kernel
theorem ne_uv : (sU = sV) = False := by decide +kernel
theorem ne_uw : (sU = sW) = False := by decide +kernel
theorem ne_vu : (sV = sU) = False := by decide +kernel
theorem ne_vw : (sV = sW) = False := by decide +kernel
theorem ne_wu : (sW = sU) = False := by decide +kernel
theorem ne_wv : (sW = sV) = False := by decide +kernel
theorem p0 (u x : ByteArray) : LinS.new.pt u x = true ↔ u = x := by simp [LinS.new]
theorem p1 (u x : ByteArray) : hS1.pt u x = true ↔ u = x ∨ (x = sV ∧ u = sW) := by rw [hS1, pt_spl hE1, p0, p0]
theorem p2 (u x : ByteArray) : hS2.pt u x = true ↔ (u = x ∨ (x = sV ∧ u = sW)) ∨ (x = sU ∧ (u = sV ∨ u = sW)) := by
  rw [hS2, pt_spl hE2, p1, p1]; simp
theorem p4 (u x : ByteArray) : hS4.pt u x = true ↔ ((hS2.pt u x = true ∧ x ≠ sW) ∧ x ≠ sU) ∨ (x = sV ∧ hS2.pt u sU = true ∧ sU ≠ sW) := by
  rw [hS4, pt_joi hE4, hS3, dropped hE3, dropped hE3]
theorem p5 (u x : ByteArray) : hS5.pt u x = true ↔ hS4.pt u x = true ∧ x ≠ sV := by rw [hS5, dropped hE5]
theorem uvw_sorted : Sorted [sU, sV, sW] := by unfold Sorted; decide +kernel
theorem n2 (x : ByteArray) : x ∈ [sU, sV, sW] ↔ hS2.pt sW x = true := by
  rw [p2]
  simp only [List.mem_cons, List.not_mem_nil, or_false, ne_wv, false_or, and_true]
  constructor
  · rintro (h | h | h)
    · exact .inr h
    · exact .inl (.inr h)
    · exact .inl (.inl h.symm)
  · rintro ((h | h) | h)
    · exact .inr (.inr h.symm)
    · exact .inr (.inl h)
    · exact .inl h
theorem t2 (x : ByteArray) : x ∈ [sU, sV, sW] ↔ hS2.pt x sU = true := by
  rw [p2]
  simp
theorem n4 (x : ByteArray) : x ∈ [sV] ↔ hS4.pt sW x = true := by
  rw [p4, p2, p2]
  simp only [List.mem_singleton, ne_uv, ne_uw, ne_wu, ne_wv, false_or, or_false, and_true, not_false_eq_true, ne_eq]
  constructor
  · intro h; exact .inr h
  · rintro (⟨⟨(h | h) | h, h2⟩, h3⟩ | h)
    · exact absurd h.symm h2
    · exact h
    · exact absurd h h3
    · exact h
theorem t4 (x : ByteArray) : x ∈ [sU, sV, sW] ↔ hS4.pt x sV = true := by
  rw [p4, p2, p2]
  simp only [List.mem_cons, List.not_mem_nil, or_false, ne_uv, ne_vu, ne_vw, ne_uw, false_and, true_and, not_false_eq_true, ne_eq, and_true]
  constructor
  · rintro (h | h | h)
    · exact .inr (.inl h)
    · exact .inr (.inr (.inl h))
    · exact .inr (.inr (.inr h))
  · rintro ((h | h) | (h | h | h))
    · exact .inr (.inl h)
    · exact .inr (.inr h)
    · exact .inl h
    · exact .inr (.inl h)
    · exact .inr (.inr h)
theorem g5 (y : ByteArray) : hS5.pt sW y = false := by
  rw [Bool.eq_false_iff, ne_eq, p5, ← n4]
  rintro ⟨h1, h2⟩
  exact h2 (by simpa using h1)
theorem ne_nu : (sNew = sU) = False := by decide +kernel
theorem ne_nv : (sNew = sV) = False := by decide +kernel
theorem ne_nw : (sNew = sW) = False := by decide +kernel
theorem n5 (x : ByteArray) : x ∈ [sNew] ↔ hS5.pt sNew x = true := by
  rw [p5, p4, p2, p2]
  simp only [List.mem_singleton, ne_nu, ne_nv, ne_nw, and_false, or_false, false_and, ne_eq]
  constructor
  · rintro rfl; exact ⟨⟨⟨rfl, by rw [ne_nw]; exact id⟩, by rw [ne_nu]; exact id⟩, by rw [ne_nv]; exact id⟩
  · rintro ⟨⟨⟨h, _⟩, _⟩, _⟩; exact h.symm

set_option maxRecDepth 100000 in
set_option maxHeartbeats 8000000 in
theorem head_calls (w : World) : Calls Try.prog 10 #[] w fun e w' => e = .returned (.bool true) ∧ Fr (fun _ => False) w w' := by
  go_enter Try.func10, Try.ntmps10
  go_wp2_with fail
  refine (new_calls w).mono ?_
  intro e w0 hnew
  obtain ⟨p, ρ, rfl, m, _⟩ := hnew.mine (Fr.refl _ w)
  clear hnew
  go_wp2_with fail
  refine (split_calls sW sV _).mono ?_
  rintro e w1 ⟨rfl, f1⟩
  have m := m.quiet f1
  clear f1
  go_wp2_with fail
  refine (m.follow (spl sW sV) (spl_sz (by decide) (by decide))).mono ?_
  rintro x w2 ⟨hx, ρ2, m2, _, _⟩
  rw [hE1] at hx
  subst hx
  change Mine w w2 p _ ρ2 hS1 at m2
  clear m
  have m := m2
  clear m2
  go_wp2_with fail
  refine (split_calls sV sU _).mono ?_
  rintro e w3 ⟨rfl, f1⟩
  have m := m.quiet f1
  clear f1
  go_wp2_with fail
  refine (m.follow (spl sV sU) (spl_sz (by decide) (by decide))).mono ?_
  rintro x w4 ⟨hx, ρ4, m2, _, _⟩
  rw [hE2] at hx
  subst hx
  change Mine w w4 p _ ρ4 hS2 at m2
  clear m
  have m := m2
  clear m2
  go_wp2_with fail
  refine (m.now (by omega) (by decide) uvw_sorted n2).mono ?_
  rintro e w5 ⟨v, rfl, kp, f1, _⟩
  have m := m.quiet f1
  clear f1
  have kb := Kp.built m.lin [sU, sV, sW] (by decide) (by decide)
  have kp := kp.quiet (w' := w5.alloc (.cells (([sU, sV, sW] : List ByteArray).map .string).toArray 9)) (by simp)
  have m := m.quiet (w' := w5.alloc (.cells (([sU, sV, sW] : List ByteArray).map .string).toArray 9)) (by simp)
  have hs := Lib.hid (kp.same kb)
  clear kp kb
  go_wp2_with fail
  refine hs.out.mono ?_
  rintro e w6 ⟨hx, f1⟩
  rw [decide_eq_true rfl] at hx
  subst hx
  have m := m.quiet f1
  clear f1 hs
  go_wp2_with fail
  refine (m.then_ (by omega) (by decide) uvw_sorted t2).mono ?_
  rintro e w7 ⟨v, rfl, kp, f1, _⟩
  have m := m.quiet f1
  clear f1
  have kb := Kp.built m.lin [sU, sV, sW] (by decide) (by decide)
  have kp := kp.quiet (w' := w7.alloc (.cells (([sU, sV, sW] : List ByteArray).map .string).toArray 9)) (by simp)
  have m := m.quiet (w' := w7.alloc (.cells (([sU, sV, sW] : List ByteArray).map .string).toArray 9)) (by simp)
  have hs := Lib.hid (kp.same kb)
  clear kp kb
  go_wp2_with fail
  refine hs.out.mono ?_
  rintro e w8 ⟨hx, f1⟩
  rw [decide_eq_true rfl] at hx
  subst hx
  have m := m.quiet f1
  clear f1 hs
  go_wp2_with fail
  refine (drop_calls sW _).mono ?_
  rintro e w9 ⟨rfl, f1⟩
  have m := m.quiet f1
  clear f1
  go_wp2_with fail
  refine (m.follow (dro sW) (dro_sz (by decide))).mono ?_
  rintro x w10 ⟨hx, ρ10, m2, _, _⟩
  rw [hE3] at hx
  subst hx
  change Mine w w10 p _ ρ10 hS3 at m2
  clear m
  have m := m2
  clear m2
  go_wp2_with fail
  refine (join_calls sV sU _).mono ?_
  rintro e w11 ⟨rfl, f1⟩
  have m := m.quiet f1
  clear f1
  go_wp2_with fail
  refine (m.follow (joi sV sU) (joi_sz (by decide) (by decide))).mono ?_
  rintro x w12 ⟨hx, ρ12, m2, _, _⟩
  rw [hE4] at hx
  subst hx
  change Mine w w12 p _ ρ12 hS4 at m2
  clear m
  have m := m2
  clear m2
  go_wp2_with fail
  refine (m.now (by omega) (by decide) (sorted_one _) n4).mono ?_
  rintro e w13 ⟨v, rfl, kp, f1, _⟩
  have m := m.quiet f1
  clear f1
  have kb := Kp.built m.lin [sV] (by decide) (by decide)
  have kp := kp.quiet (w' := w13.alloc (.cells (([sV] : List ByteArray).map .string).toArray 9)) (by simp)
  have m := m.quiet (w' := w13.alloc (.cells (([sV] : List ByteArray).map .string).toArray 9)) (by simp)
  have hs := Lib.hid (kp.same kb)
  clear kp kb
  go_wp2_with fail
  refine hs.out.mono ?_
  rintro e w14 ⟨hx, f1⟩
  rw [decide_eq_true rfl] at hx
  subst hx
  have m := m.quiet f1
  clear f1 hs
  go_wp2_with fail
  refine (m.then_ (by omega) (by decide) uvw_sorted t4).mono ?_
  rintro e w15 ⟨v, rfl, kp, f1, _⟩
  have m := m.quiet f1
  clear f1
  have kb := Kp.built m.lin [sU, sV, sW] (by decide) (by decide)
  have kp := kp.quiet (w' := w15.alloc (.cells (([sU, sV, sW] : List ByteArray).map .string).toArray 9)) (by simp)
  have m := m.quiet (w' := w15.alloc (.cells (([sU, sV, sW] : List ByteArray).map .string).toArray 9)) (by simp)
  have hs := Lib.hid (kp.same kb)
  clear kp kb
  go_wp2_with fail
  refine hs.out.mono ?_
  rintro e w16 ⟨hx, f1⟩
  rw [decide_eq_true rfl] at hx
  subst hx
  have m := m.quiet f1
  clear f1 hs
  go_wp2_with fail
  refine (drop_calls sV _).mono ?_
  rintro e w17 ⟨rfl, f1⟩
  have m := m.quiet f1
  clear f1
  go_wp2_with fail
  refine (m.follow (dro sV) (dro_sz (by decide))).mono ?_
  rintro x w18 ⟨hx, ρ18, m2, _, _⟩
  rw [hE5] at hx
  subst hx
  change Mine w w18 p _ ρ18 hS5 at m2
  clear m
  have m := m2
  clear m2
  go_wp2_with fail
  refine (m.gone (by decide) (g := true) (by simp [g5])).mono ?_
  rintro e w19 ⟨rfl, f1⟩
  have m := m.quiet f1
  clear f1
  go_wp2_with fail
  refine (drop_calls sV _).mono ?_
  rintro e w20 ⟨rfl, f1⟩
  have m := m.quiet f1
  clear f1
  go_wp2_with fail
  refine (m.follow (dro sV) (dro_sz (by decide))).mono ?_
  rintro x w21 ⟨hx, ρ21, m2, _, _⟩
  rw [hE6] at hx
  subst hx
  rw [followS_err (by rw [hE6]; omega)] at m2
  clear m
  have m := m2
  clear m2
  go_wp2_with fail
  refine (split_calls sA sU _).mono ?_
  rintro e w22 ⟨rfl, f1⟩
  have m := m.quiet f1
  clear f1
  go_wp2_with fail
  refine (m.follow (spl sA sU) (spl_sz (by decide) (by decide))).mono ?_
  rintro x w23 ⟨hx, ρ23, m2, _, _⟩
  rw [hE7] at hx
  subst hx
  rw [followS_err (by rw [hE7]; omega)] at m2
  clear m
  have m := m2
  clear m2
  go_wp2_with fail
  refine (join_calls sA sA _).mono ?_
  rintro e w24 ⟨rfl, f1⟩
  have m := m.quiet f1
  clear f1
  go_wp2_with fail
  refine (m.follow (joi sA sA) (joi_sz (by decide) (by decide))).mono ?_
  rintro x w25 ⟨hx, ρ25, m2, _, _⟩
  rw [hE8] at hx
  subst hx
  rw [followS_err (by rw [hE8]; omega)] at m2
  clear m
  have m := m2
  clear m2
  go_wp2_with fail
  refine (drop_calls sA _).mono ?_
  rintro e w26 ⟨rfl, f1⟩
  have m := m.quiet f1
  clear f1
  go_wp2_with fail
  refine (follow_nil (dro sA) _).mono ?_
  rintro e w27 ⟨rfl, f1⟩
  have m := m.quiet f1
  clear f1
  go_wp2_with fail
  refine (gone_nil sA _).mono ?_
  rintro e w28 ⟨rfl, rfl⟩
  go_wp2_with fail
  refine (now_nil sA _).mono ?_
  rintro e w29 ⟨rfl, rfl⟩
  go_wp2_with fail
  refine (m.now (by omega) (by decide) (sorted_one _) n5).mono ?_
  rintro e w30 ⟨v, rfl, kp, f1, _⟩
  have m := m.quiet f1
  clear f1
  have kb := Kp.built m.lin [sNew] (by decide) (by decide)
  have kp := kp.quiet (w' := w30.alloc (.cells (([sNew] : List ByteArray).map .string).toArray 9)) (by simp)
  have m := m.quiet (w' := w30.alloc (.cells (([sNew] : List ByteArray).map .string).toArray 9)) (by simp)
  have hs := Lib.hid (kp.same kb)
  clear kp kb
  go_wp2_with fail
  refine hs.out.mono ?_
  rintro e w31 ⟨hx, f1⟩
  rw [decide_eq_true rfl] at hx
  subst hx
  have m := m.quiet f1
  clear f1 hs
  go_wp2
  go_ret
  exact ⟨rfl, m.fr⟩
end Go.Proofs.Ytcolfgnjmnapkaa
