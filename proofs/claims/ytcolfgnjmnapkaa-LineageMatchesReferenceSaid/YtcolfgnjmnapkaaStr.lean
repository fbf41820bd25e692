/- In, Same; split, join, drop. -/
import Derived.Test.YtcolfgnjmnapkaaFin
namespace Go.Proofs.Ytcolfgnjmnapkaa
open Go.RowKit Go.Pl

/-- A slice of strings that reads as xs. -/
structure Strs (w : World) (v : Value) (sa : Option Addr) (g cap : Nat) (xs : List ByteArray) : Prop where
  val : v = .slice sa xs.length cap
  ix : ∀ i : Nat, i < xs.length → sa = some ⟨g, 0, none⟩
  at_ : ∀ (i : Nat) (x : ByteArray), xs[i]? = some x → w.cell? ⟨g, i, none⟩ = some (.string x)
  le : xs.length ≤ 9223372036854775807
theorem strs_of {w : World} {B : Nat} {v : Value} {xs : List ByteArray} (h : w.ownsRow B 9 1 v xs.length (xs.map .string)) : ∃ sa g cap, Strs w v sa g cap xs := by
  rcases h.2 with ⟨h1, h2⟩ | ⟨g, cap, cur, h1, _, hb, h3, h4, h5, h6⟩
  · have : xs = [] := List.length_eq_zero_iff.1 h2
    subst this
    exact ⟨none, 0, 0, by rw [h1]; rfl, by simp, by simp, by simp⟩
  · refine ⟨some ⟨g, 0, none⟩, g, cap, h1, fun _ _ => rfl, fun i x hx => ?_, by unfold maxLen at h4; omega⟩
    rw [cell_of_blk hb]
    have hi : i < xs.length := (List.getElem?_eq_some_iff.1 hx).1
    have h7 : (cur.toList.take (xs.length * 1))[i]? = (xs.map Value.string)[i]? := by rw [h6]
    rw [List.getElem?_take_of_lt (by omega), List.getElem?_map, hx] at h7
    rw [← Array.getElem?_toList]; exact h7
theorem Strs.fr {w w' : World} {v sa g cap xs} (h : Strs w v sa g cap xs) {F : Nat → Prop} (hf : Fr F w w') (hd : 0 < xs.length → ¬ F g) : Strs w' v sa g cap xs :=
  ⟨h.val, h.ix, fun i x hx => hf.cell (h.at_ i x hx) (hd (by have := (List.getElem?_eq_some_iff.1 hx).1; omega)), h.le⟩

set_option maxHeartbeats 1000000 in
theorem in_calls {w : World} {v : Value} {sa : Option Addr} {g cap : Nat} {xs : List ByteArray} (h : Strs w v sa g cap xs) (a : ByteArray) :
    Calls Try.prog 24 #[v, .string a] w fun e w' => e = .returned (.bool (inB xs a)) ∧ w = w' := by
  obtain rfl := h.val
  obtain ⟨n, hn⟩ : ∃ n, n = xs.length := ⟨_, rfl⟩
  have hN := Lib.hid hn
  have hl := h.le
  have HX := Lib.hid h.ix
  have HA := Lib.hid h.at_
  rw [← hn] at hl HX ⊢
  clear hn h
  go_enter Try.func24, Try.ntmps24
  go_wp2
  go_loop [5] (fun i => ∃ k : Nat, k ≤ n ∧ i = .int .i64 k ∧ Hid (a ∉ xs.take k)) (fun i => n - (intOf i).toNat)
  case atStart => exact ⟨0, Nat.zero_le _, rfl, by simp [Hid]⟩
  case round =>
    obtain ⟨k, hk, rfl, hno⟩ := hrel
    by_cases hlt : k < n
    · obtain ⟨x, hx⟩ : ∃ o, xs[k]? = some o := ⟨_, List.getElem?_eq_getElem (by rw [← hN.out]; exact hlt)⟩
      have c1 := HA.out k x hx
      have hsa := HX.out k hlt
      have hxH := Lib.hid hx
      clear hx
      by_cases hxa : x = a
      · have t : (x.toList == a.toList) = true := by rw [beq_str]; simpa using hxa
        have hfin : Hid (inB xs a = true) := inB_iff.2 (hxa ▸ List.mem_of_getElem? hxH.out)
        clear hxa
        go_wp2
        go_ret
        exact ⟨by rw [hfin.out]; rfl, rfl⟩
      · have t : (x.toList == a.toList) = false := by rw [beq_str]; simpa using hxa
        have hnx : Hid (a ∉ xs.take (k + 1)) := by
          rw [Hid, List.take_add_one, hxH.out]
          simp only [Option.toList_some, List.mem_append, List.mem_singleton, not_or]
          exact ⟨hno.out, fun e => hxa e.symm⟩
        clear hxa hno
        go_wp2
        go_round
        case rel => exact ⟨k + 1, by omega, by go_num, hnx⟩
        case measure => simp [intOf]; omega
    · have hfin : Hid (inB xs a = false) := by
        have := hno.out
        rw [List.take_of_length_le (by rw [← hN.out]; omega)] at this
        rw [Hid, Bool.eq_false_iff, ne_eq, inB_iff]; exact this
      go_wp2
      go_ret
      exact ⟨by rw [hfin.out]; rfl, rfl⟩

def SamePost (xs ys : List ByteArray) (w : World) (e : Ending) (w' : World) : Prop := e = .returned (.bool (decide (xs = ys))) ∧ Fr (fun _ => False) w w'
theorem take_snoc_eq {α : Type} {a b : List α} {k : Nat} {x : α} (h : a.take k = b.take k) (ha : a[k]? = some x) (hb : b[k]? = some x) : a.take (k + 1) = b.take (k + 1) := by
  rw [List.take_add_one, List.take_add_one, h, ha, hb]

set_option maxHeartbeats 1000000 in
theorem same_calls {w : World} {v v2 : Value} {sa sa2 : Option Addr} {g cap g2 cap2 : Nat} {xs ys : List ByteArray} (h : Strs w v sa g cap xs) (h2 : Strs w v2 sa2 g2 cap2 ys) :
    Calls Try.prog 16 #[v, v2] w (SamePost xs ys w) := by
  obtain rfl := h.val
  obtain rfl := h2.val
  by_cases hlen : xs.length = ys.length
  · obtain ⟨n, hn⟩ : ∃ n, n = xs.length := ⟨_, rfl⟩
    have hN := Lib.hid hn
    have hN2 := Lib.hid (hn.trans hlen)
    have hl := h.le
    have HX := Lib.hid h.ix
    have HA := Lib.hid h.at_
    have HX2 := Lib.hid h2.ix
    have HA2 := Lib.hid h2.at_
    rw [← hlen] at HX2 ⊢
    rw [← hn] at hl HX HX2 ⊢
    clear hn h h2 hlen
    go_enter Try.func16, Try.ntmps16
    go_wp2
    go_loopw [5] (fun i wr => ∃ k : Nat, k ≤ n ∧ i = .int .i64 k ∧ Hid (xs.take k = ys.take k) ∧ ∃ q, wr = w.drewN q) (fun i _ => n - (intOf i).toNat)
    case atStart => exact ⟨0, Nat.zero_le _, rfl, rfl, 0, rfl⟩
    case round =>
      obtain ⟨k, hk, rfl, heq, q, rfl⟩ := hrel
      by_cases hlt : k < n
      · obtain ⟨x, hx⟩ : ∃ o, xs[k]? = some o := ⟨_, List.getElem?_eq_getElem (by rw [← hN.out]; exact hlt)⟩
        obtain ⟨y, hy⟩ : ∃ o, ys[k]? = some o := ⟨_, List.getElem?_eq_getElem (by rw [← hN2.out]; exact hlt)⟩
        have c1 := HA.out k x hx
        have c2 := HA2.out k y hy
        have hsa := HX.out k hlt
        have hsa2 := HX2.out k hlt
        have hxH := Lib.hid hx
        have hyH := Lib.hid hy
        have t1 : (0 : Int) ≤ k := by omega
        have t2 : (k : Int) < n := by omega
        clear hx hy
        by_cases hxy : x = y
        · have t : (!(x.toList == y.toList)) = false := by rw [beq_str]; simpa using hxy
          have hnx : Hid (xs.take (k + 1) = ys.take (k + 1)) := take_snoc_eq heq.out hxH.out (by rw [hxy]; exact hyH.out)
          clear hxy heq
          go_wp2
          go_quiet (fail)
          go_wp2
          go_roundw
          case rel => exact ⟨k + 1, by omega, by go_num, hnx, _, rfl⟩
          case measure => simp [intOf]; omega
        · have t : (!(x.toList == y.toList)) = true := by rw [beq_str]; simpa using hxy
          have hfin : Hid (decide (xs = ys) = false) := by
            refine decide_eq_false ?_
            intro e
            have h1 := hxH.out
            rw [e, hyH.out] at h1
            cases h1
            exact hxy rfl
          clear hxy heq
          go_wp2
          go_quiet (fail)
          go_wp2
          go_ret
          exact ⟨by rw [hfin.out]; rfl, by simp⟩
      · have hfin : Hid (decide (xs = ys) = true) := by
          have := heq.out
          rw [List.take_of_length_le (by rw [← hN.out]; omega), List.take_of_length_le (by rw [← hN2.out]; omega)] at this
          exact decide_eq_true this
        clear heq
        go_wp2
        go_ret
        exact ⟨by rw [hfin.out]; rfl, by simp⟩
  · have hne : ((xs.length : Int) != ys.length) = true := by simp; omega
    have hfin : Hid (decide (xs = ys) = false) := decide_eq_false (fun e => hlen (by rw [e]))
    have l1 := h.le
    have l2 := h2.le
    generalize xs.length = n at *
    generalize ys.length = m at *
    clear h h2 hlen
    go_enter Try.func16, Try.ntmps16
    go_wp2
    go_ret
    exact ⟨by rw [hfin.out]; rfl, by simp⟩

theorem split_calls (a b : ByteArray) (w : World) : Calls Try.prog 25 #[.string a, .string b] w fun e w' => e = .returned (.agg (spl a b).cells) ∧ Fr (fun _ => False) w w' := by
  go_enter Try.func25, Try.ntmps25
  go_wp2
  exact bodyPost_ret (v := .agg (spl a b).cells) (by simp [results, Try.results25, go_sem, spl]; rfl) rfl ⟨rfl, by simp⟩
theorem join_calls (a b : ByteArray) (w : World) : Calls Try.prog 26 #[.string a, .string b] w fun e w' => e = .returned (.agg (joi a b).cells) ∧ Fr (fun _ => False) w w' := by
  go_enter Try.func26, Try.ntmps26
  go_wp2
  exact bodyPost_ret (v := .agg (joi a b).cells) (by simp [results, Try.results26, go_sem, joi]; rfl) rfl ⟨rfl, by simp⟩
theorem drop_calls (a : ByteArray) (w : World) : Calls Try.prog 27 #[.string a] w fun e w' => e = .returned (.agg (dro a).cells) ∧ Fr (fun _ => False) w w' := by
  go_enter Try.func27, Try.ntmps27
  go_wp2
  exact bodyPost_ret (v := .agg (dro a).cells) (by simp [results, Try.results27, go_sem, dro]; rfl) rfl ⟨rfl, by simp⟩
end Go.Proofs.Ytcolfgnjmnapkaa
