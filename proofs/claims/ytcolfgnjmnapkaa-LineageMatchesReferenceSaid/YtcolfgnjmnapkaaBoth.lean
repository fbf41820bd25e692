/- LineageBothWays returns true: Now and Then are each other's other side, and both are in increasing order. -/
import Derived.Test.YtcolfgnjmnapkaaRefu
namespace Go.Proofs.Ytcolfgnjmnapkaa
open Go.RowKit Go.Pl

theorem sorted_less {xs : List ByteArray} (h : Sorted xs) {k : Nat} {x y : ByteArray} (hx : xs[k]? = some x) (hy : xs[k + 1]? = some y) : (!Op.bytesLess x.toList y.toList) = false := by
  obtain ⟨h1, rfl⟩ := List.getElem?_eq_some_iff.1 hx
  obtain ⟨h2, rfl⟩ := List.getElem?_eq_some_iff.1 hy
  have := List.pairwise_iff_getElem.1 h k (k + 1) h1 h2 (Nat.lt_succ_self k)
  rw [bytesLess_eq, ByteArray.toList_eq, ByteArray.toList_eq, decide_eq_true this]; rfl

set_option maxRecDepth 100000 in
set_option maxHeartbeats 8000000 in
theorem both_walk (sa : Option Addr) (b0 off cap : Nat) (es : List Edt) (w : World) (h : EdtsV w (.slice sa es.length cap) sa b0 off cap es) (a b : ByteArray) (ha : a.size ≤ maxLen) (hb : b.size ≤ maxLen) :
    Calls Try.prog 4 #[.slice sa es.length cap, .string a, .string b] w fun x w' => x = .returned (.bool true) ∧ Fr (fun _ => False) w w' := by
  have hfew := Lib.hid (fun w' hf => few_calls sa b0 off cap es 40 (by omega) w' h.ix (h.at_.fr (F := fun _ => False) (w' := w') hf (by simp)) h.le h.sz)
  have hfol := Lib.hid (fun w' hf => followed_calls sa b0 off cap es w' h.ix (h.at_.fr (F := fun _ => False) (w' := w') hf (by simp)) h.le h.sz)
  have hn := h.le
  generalize es.length = n at *
  clear h
  have sa1 := ha
  have sb1 := hb
  unfold maxLen at sa1 sb1
  go_enter Try.func4, Try.ntmps4
  go_wp2_with fail
  refine (head_calls w).mono ?_
  rintro e w1 ⟨rfl, f1⟩
  go_wp2_with fail
  refine (hfew.out w1 f1).mono ?_
  rintro e w2 ⟨rfl, rfl⟩
  clear hfew
  by_cases hfw : fewE es 40 = true
  · by_cases b1 : 100 < a.size
    · go_wp2
      go_ret
      exact ⟨rfl, f1⟩
    by_cases b2 : 100 < b.size
    · go_wp2
      go_ret
      exact ⟨rfl, f1⟩
    have hfwH := Lib.hid hfw
    go_wp2_with fail
    refine (hfol.out w1 f1).mono ?_
    intro e w3 hp
    obtain ⟨p, ρ, N, S, rfl, m, hN, _, _, _⟩ := hp.mine f1 hfwH.out
    clear hp hfol
    go_wp2_with fail
    refine (m.now_any (by omega) ha).mono ?_
    rintro e w4 ⟨v, xs, rfl, hxs, hmem, kp, f4, _⟩
    have hxs := Lib.hid hxs
    have hmem := Lib.hid hmem
    have m := m.quiet f4
    clear f4
    go_wp2_with fail
    refine (m.then_any (by omega) hb).mono ?_
    rintro e w5 ⟨v2, ys, rfl, hys, hmem2, kp2, f5, _⟩
    have hys := Lib.hid hys
    have hmem2 := Lib.hid hmem2
    have m := m.quiet f5
    have kp := kp.quiet f5
    clear f5
    obtain ⟨s1, g1, cap1, k1⟩ := strs_of kp.own
    obtain ⟨s2, g2, cap2, k2⟩ := strs_of kp2.own
    obtain rfl := k1.val
    obtain rfl := k2.val
    obtain ⟨n1, hn1⟩ : ∃ n, n = xs.length := ⟨_, rfl⟩
    obtain ⟨n2, hn2⟩ : ∃ n, n = ys.length := ⟨_, rfl⟩
    have hl1 := k1.le
    have hl2 := k2.le
    have hN1 := Lib.hid hn1
    have hN2 := Lib.hid hn2
    have K1 := Lib.hid k1
    have K2 := Lib.hid k2
    have m0 := Lib.hid m
    have kp := Lib.hid kp
    have kp2 := Lib.hid kp2
    rw [← hn1] at hl1 ⊢
    rw [← hn2] at hl2 ⊢
    clear hn1 hn2 k1 k2 m
    go_wp2
    go_loopw [11] (fun i wr => ∃ k : Nat, i = .int .i64 ((k : Int) + 1) ∧ (k = 0 ∨ k + 1 ≤ n1) ∧ ∃ q, wr = w5.drewN q) (fun i _ => n1 - (intOf i).toNat)
    case atStart => exact ⟨0, rfl, .inl rfl, 0, rfl⟩
    case round =>
      obtain ⟨k, rfl, hk, q, rfl⟩ := hrel
      by_cases hlt : k + 1 < n1
      · obtain ⟨x, hx⟩ : ∃ o, xs[k]? = some o := ⟨_, List.getElem?_eq_getElem (by rw [← hN1.out]; omega)⟩
        obtain ⟨y, hy⟩ : ∃ o, xs[k + 1]? = some o := ⟨_, List.getElem?_eq_getElem (by rw [← hN1.out]; exact hlt)⟩
        have c1 := K1.out.at_ k x hx
        have c2 := K1.out.at_ (k + 1) y hy
        have hsa := K1.out.ix k (by rw [← hN1.out]; omega)
        have hless := sorted_less hxs.out hx hy
        have t0 : IntKind.i64.wrap ((k : Int) + 1 - 1) = k := by rw [show (k : Int) + 1 - 1 = k by omega]; exact IntWalk.i64_in _ (by omega)
        have t1 : (0 : Int) ≤ k := by omega
        have t2 : (k : Int) < n1 := by omega
        have t3 : (k : Int) + 1 < n1 := by omega
        have t4 : (0 : Int) ≤ (k : Int) + 1 := by omega
        clear hx hy
        go_wp2
        go_quiet (fail)
        clear t0
        go_wp2
        go_roundw
        case rel => exact ⟨k + 1, by go_num, by omega, _, rfl⟩
        case measure => simp [intOf]; omega
      · have t3 : ¬ (k : Int) + 1 < n1 := by omega
        clear hk hlt
        obtain ⟨q0, hq0⟩ : ∃ q0, q0 = q := ⟨_, rfl⟩
        rw [← hq0]
        clear hq0
        go_wp2
        go_loopw [12] (fun i wr => ∃ k : Nat, i = .int .i64 ((k : Int) + 1) ∧ (k = 0 ∨ k + 1 ≤ n2) ∧ ∃ q, wr = w5.drewN q) (fun i _ => n2 - (intOf i).toNat)
        case atStart => exact ⟨0, rfl, .inl rfl, q0, rfl⟩
        case round =>
          obtain ⟨k, rfl, hk, q, rfl⟩ := hrel
          by_cases hlt : k + 1 < n2
          · obtain ⟨x, hx⟩ : ∃ o, ys[k]? = some o := ⟨_, List.getElem?_eq_getElem (by rw [← hN2.out]; omega)⟩
            obtain ⟨y, hy⟩ : ∃ o, ys[k + 1]? = some o := ⟨_, List.getElem?_eq_getElem (by rw [← hN2.out]; exact hlt)⟩
            have c1 := K2.out.at_ k x hx
            have c2 := K2.out.at_ (k + 1) y hy
            have hsa := K2.out.ix k (by rw [← hN2.out]; omega)
            have hless := sorted_less hys.out hx hy
            have t0 : IntKind.i64.wrap ((k : Int) + 1 - 1) = k := by rw [show (k : Int) + 1 - 1 = k by omega]; exact IntWalk.i64_in _ (by omega)
            have t1 : (0 : Int) ≤ k := by omega
            have t2 : (k : Int) < n2 := by omega
            have t3 : (k : Int) + 1 < n2 := by omega
            have t4 : (0 : Int) ≤ (k : Int) + 1 := by omega
            clear hx hy
            go_wp2
            go_quiet (fail)
            clear t0
            go_wp2
            go_roundw
            case rel => exact ⟨k + 1, by go_num, by omega, _, rfl⟩
            case measure => simp [intOf]; omega
          · have t3 : ¬ (k : Int) + 1 < n2 := by omega
            clear hk hlt
            have mq := m0.out.quiet (w' := w5.drewN q) (by simp)
            have kq := kp.out.quiet (w' := w5.drewN q) (by simp)
            have kq2 := kp2.out.quiet (w' := w5.drewN q) (by simp)
            rw [← hN1.out] at kq
            rw [← hN2.out] at kq2
            have hin : Hid (inB ys a = inB xs b) := inB_eq (by rw [hmem2.out, hmem.out])
            have hgone : Hid ((((n1 : Int) == 0) = true) ↔ ∀ y, S.pt a y = false) := by
              rw [Hid, beq_iff_eq, Int.natCast_eq_zero, hN1.out]
              constructor
              · intro h0 y
                cases hy : S.pt a y with
                | false => rfl
                | true =>
                  have := (hmem.out y).2 hy
                  rw [List.length_eq_zero_iff.1 h0] at this
                  cases this
              · intro h0
                cases hxs : xs with
                | nil => rfl
                | cons z zs =>
                  have := (hmem.out z).1 (by rw [hxs]; simp)
                  rw [h0 z] at this; cases this
            have hg := Lib.hid (mq.gone ha hgone.out)
            have hi1 := Lib.hid (kq.in_ b)
            have hi2 := Lib.hid (kq2.in_ a)
            rw [hin.out] at hi2
            have hfr := Lib.hid mq.fr
            obtain ⟨z, hz⟩ : ∃ z, z = inB xs b := ⟨_, rfl⟩
            rw [← hz] at hi1 hi2
            have tz : (z == z) = true := by simp
            clear hz mq kq kq2 hgone hin
            go_wp2_with fail
            refine hi1.out.mono ?_
            rintro e w7 ⟨rfl, rfl⟩
            go_wp2_with fail
            refine hi2.out.mono ?_
            rintro e w7 ⟨rfl, rfl⟩
            go_wp2_with fail
            refine hg.out.mono ?_
            rintro e w8 ⟨rfl, f8⟩
            have hfr := Lib.hid (hfr.out.trans f8)
            obtain ⟨z2, hz2⟩ : ∃ z, z = ((n1 : Int) == 0) := ⟨_, rfl⟩
            have tz2 : (((n1 : Int) == 0) == ((n1 : Int) == 0)) = true := by simp
            clear hz2 f8
            go_wp2
            go_ret
            exact ⟨rfl, hfr.out⟩
  · rw [Bool.not_eq_true] at hfw
    go_wp2
    go_ret
    exact ⟨rfl, f1⟩
end Go.Proofs.Ytcolfgnjmnapkaa
