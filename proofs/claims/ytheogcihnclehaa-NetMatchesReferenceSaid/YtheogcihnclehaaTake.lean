/- get, take, Count, Lose, Deliver of package net. -/
import Derived.Test.YtheogcihnclehaaSend
namespace Go.Proofs.Ytheogcihnclehaa
open Go.RowKit Go.Pl Go.WideMaps

set_option maxHeartbeats 400000 in
theorem get_nil (i : Int) (w : World) : Calls Try.prog 31 #[.pointer none, .int .i64 i] w fun e w' => e = .returned (.tuple #[.slice none 0 0, .bool false]) ∧ w = w' := by
  go_enter Try.func31, Try.ntmps31
  go_wp2
  go_ret2
  exact ⟨rfl, rfl⟩
set_option maxHeartbeats 400000 in
theorem get_out (q : Nat) (i : Int) (a : Option Addr) (l c : Nat) (w : World) (h : w.cell? ⟨q, 0, none⟩ = some (.slice a l c)) (hl : l ≤ 9223372036854775807) (hi : i < 0 ∨ (l : Int) ≤ i) :
    Calls Try.prog 31 #[.pointer (some ⟨q, 0, none⟩), .int .i64 i] w fun e w' => e = .returned (.tuple #[.slice none 0 0, .bool false]) ∧ w = w' := by
  go_enter Try.func31, Try.ntmps31
  go_wp2
  all_goals
    go_ret2
    exact ⟨rfl, rfl⟩
set_option maxHeartbeats 400000 in
theorem get_in (q i g l c : Nat) (v : Value) (w : World) (h : w.cell? ⟨q, 0, none⟩ = some (.slice (some ⟨g, 0, none⟩) l c)) (hl : l ≤ 9223372036854775807) (hi : i < l) (hv : w.cell? ⟨g, i, none⟩ = some v) :
    Calls Try.prog 31 #[.pointer (some ⟨q, 0, none⟩), .int .i64 i] w fun e w' => e = .returned (.tuple #[v, .bool true]) ∧ w = w' := by
  go_enter Try.func31, Try.ntmps31
  go_wp2
  go_ret2
  exact ⟨rfl, rfl⟩

def TakePost (qb g n cap i : Nat) (cur : Array Value) (w : World) (e : Ending) (w' : World) : Prop := e = .returned (.tuple #[]) ∧
  ∃ cur', w'.heap[g]? = some (.cells cur' 38 (0, 0)) ∧ cur'.size = cur.size ∧ cur'.toList.take (n - 1) = (cur.toList.take n).eraseIdx i ∧ w'.heap[qb]? = some (.cells #[.slice (some ⟨g, 0, none⟩) (n - 1) cap] 70 (0, 0)) ∧ Fr (fun r => r = qb ∨ r = g) w w'

set_option maxHeartbeats 400000 in
theorem take_calls (qb g n cap i : Nat) (cur : Array Value) (w : World) (hq : w.heap[qb]? = some (.cells #[.slice (some ⟨g, 0, none⟩) n cap] 70 (0, 0))) (hg : w.heap[g]? = some (.cells cur 38 (0, 0))) (hs : cur.size = cap) (hn : n ≤ cap) (hc : cap ≤ 9223372036854775807) (hi : i < n)
    (h1 : ∀ u ∈ cur.toList.take n, u.oneCell' = true) : Calls Try.prog 32 #[.pointer (some ⟨qb, 0, none⟩), .int .i64 i] w (TakePost qb g n cap i cur w) := by
  have cq : w.cell? ⟨qb, 0, none⟩ = some (.slice (some ⟨g, 0, none⟩) n cap) := by rw [cell_of_blk hq]; rfl
  have hne : qb ≠ g := by rintro rfl; rw [hq] at hg; simp at hg
  have hD := Lib.hid (delete_calls g n cap i cur w hg hs hn hc hi h1)
  have hfin : Hid (∀ w1, DelPost g n cap i cur w (.returned (.slice (some ⟨g, 0, none⟩) (n - 1) cap)) w1 → (w1.cell? ⟨qb, 0, none⟩ = some (.slice (some ⟨g, 0, none⟩) n cap) ∧ w1.frozen? ⟨qb, 0, none⟩ = false) ∧
      TakePost qb g n cap i cur w (.returned (.tuple #[])) (w1.setCell ⟨qb, 0, none⟩ (.slice (some ⟨g, 0, none⟩) (n - 1) cap))) := by
    rintro w1 ⟨_, cur', h1, h2, h3, h4⟩
    have hq1 := h4.obj hq hne
    refine ⟨⟨by rw [cell_of_blk hq1]; rfl, free_of_blk hq1 0⟩, rfl, cur', ?_, h2, h3, ?_, ?_⟩
    · rw [blk_setCell (by simpa using hne.symm)]; exact h1
    · simpa using blk_setCell_same (off := 0) hq1 _
    · exact (h4.mono fun r _ h => .inr h).setCell (fun _ => .inl rfl) _
  clear hq hg hs h1 hne
  go_enter Try.func32, Try.ntmps32
  go_wp2_with (go_at_call 38; refine hD.out.mono ?_; rintro e w1 hw1; obtain rfl := hw1.1; obtain ⟨⟨cq1, fq1⟩, hf⟩ := hfin.out w1 hw1; clear hw1)
  go_end0
  exact hf

theorem ListAt.one {w : World} {ρ : Roles} {a b : Int} {gb cap : Nat} {bs : List Nat} {ts : List ByteArray} (h : ListAt w ρ a b (.slice (some ⟨gb, 0, none⟩) ts.length cap) bs ts) {cur : Array Value} (hc : w.heap[gb]? = some (.cells cur 38 (0, 0))) :
    cur.toList.take ts.length = List.zipWith mval bs ts ∧ cur.size = cap ∧ ts.length ≤ cap ∧ cap ≤ 9223372036854775807 := by
  rcases h.cells with ⟨h1, h2⟩ | ⟨gb', cap', cur', h1, h2, h3, h4, h5, h6⟩
  · simp at h1
  · simp at h1
    obtain ⟨rfl, rfl⟩ := h1
    rw [hc] at h2
    simp at h2
    subst h2
    exact ⟨h6, h5, h3, by unfold maxLen at h4; omega⟩

set_option maxHeartbeats 400000 in
theorem count_nil (a b : Int) (w : World) : Calls Try.prog 17 #[.pointer none, .int .i64 a, .int .i64 b] w fun e w' => e = .returned (.int .i64 0) ∧ Fr (fun _ => False) w w' := by
  go_enter Try.func17, Try.ntmps17
  go_wp2_with (go_at_call 30; refine (of_nil a b _).mono ?_; rintro e w1 ⟨rfl, hfr⟩)
  go_ret
  exact ⟨rfl, hfr⟩

set_option maxHeartbeats 1000000 in
theorem count_calls {p : Nat} {ρ : Roles} {S : NetS} {w : World} (h : NetAt w p ρ S) (a b : Int) :
    Calls Try.prog 17 #[.pointer (some ⟨p, 0, none⟩), .int .i64 a, .int .i64 b] w (NPost p ρ S (.int .i64 (S.count a b)) w) := by
  have h0 := h
  obtain ⟨mq, mc, f, g, h⟩ := h
  by_cases hr : S.right a b
  · obtain ⟨h1, h2, h3, h4, h5⟩ := id hr
    go_enter Try.func17, Try.ntmps17
    go_wp2_with fail
    refine (of_calls h h1 h2 h3 h4 h5).mono ?_
    rintro e w1 ⟨f', ρ', qb, rfl, h', hf', hfr, hgr⟩
    obtain ⟨c2, hlk, sl, bs, hrq, hq, hl⟩ := h'.looks hr hf'
    have cq : w1.cell? ⟨qb, 0, none⟩ = some sl := by rw [cell_of_blk hq]; rfl
    obtain ⟨sa, cap, rfl, hLm⟩ := hl.shape
    have hE : Hid (NPost p ρ S (.int .i64 (S.count a b)) w (.returned (.int .i64 (S.q a b).length)) w1) := by
      rw [NetS.count, if_pos hr]
      exact ⟨rfl, ρ', ⟨mq, mc, f', g, h'⟩, hfr, hgr⟩
    clear hf' hq hl
    go_wp2
    go_ret
    exact hE.out
  · have hE : Hid (∀ w1, Fr (fun _ => False) w w1 → NPost p ρ S (.int .i64 (S.count a b)) w (.returned (.int .i64 0)) w1) := fun w1 hfr => by
      rw [NetS.count, if_neg hr]
      exact h0.same hfr
    have c0 : w.cell? ⟨p, 0, none⟩ = some (.int .i64 S.nodes) := by rw [cell_of_blk h.hp]; rfl
    go_enter Try.func17, Try.ntmps17
    go_wp2_with (go_at_call 30; refine (of_wrong p a b S.nodes _ c0 hr).mono ?_; rintro e w1 ⟨rfl, hfr⟩)
    go_ret
    exact hE.out _ hfr

/-- The message at an index, in memory. -/
theorem NetS.at_some {S : NetS} {a b i : Int} {t : ByteArray} (h : S.at_ a b i = some t) : 0 ≤ i ∧ i.toNat < (S.q a b).length ∧ (S.q a b)[i.toNat]? = some t := by
  unfold NetS.at_ at h
  split at h
  · rename_i h0
    exact ⟨h0, (List.getElem?_eq_some_iff.1 h).1, h⟩
  · cases h
theorem NetS.at_none {S : NetS} {a b i : Int} (h : S.at_ a b i = none) : i < 0 ∨ ((S.q a b).length : Int) ≤ i := by
  unfold NetS.at_ at h
  split at h
  · rw [List.getElem?_eq_none_iff] at h; omega
  · omega

set_option maxHeartbeats 400000 in
theorem lose_nil (a b i : Int) (w : World) : Calls Try.prog 16 #[.pointer none, .int .i64 a, .int .i64 b, .int .i64 i] w fun e w' => e = .returned (.int .i64 1) ∧ Fr (fun _ => False) w w' := by
  go_enter Try.func16, Try.ntmps16
  go_wp2_with (first | (go_at_call 30; refine (of_nil a b _).mono ?_; rintro e w1 ⟨rfl, hfr⟩) | (go_at_call 31; refine (get_nil i _).mono ?_; rintro e w2 ⟨rfl, rfl⟩))
  go_ret
  exact ⟨rfl, hfr⟩


/-- What get finds where there is a message. -/
theorem ListAt.msg {w : World} {ρ : Roles} {a b : Int} {sl : Value} {bs : List Nat} {ts : List ByteArray} (h : ListAt w ρ a b sl bs ts) {i : Nat} {t : ByteArray} (ht : ts[i]? = some t) :
    ∃ gb cap cur m, sl = .slice (some ⟨gb, 0, none⟩) ts.length cap ∧ w.heap[gb]? = some (.cells cur 38 (0, 0)) ∧ cur.size = cap ∧ ts.length ≤ cap ∧ cap ≤ maxLen ∧ cur.toList.take ts.length = List.zipWith mval bs ts ∧
      bs[i]? = some m ∧ w.cell? ⟨gb, i, none⟩ = some (.slice (some ⟨m, 0, none⟩) t.size t.size) ∧ w.heap[m]? = some (.cells (bytesOf t) 5 (0, 0)) := by
  have hi := (List.getElem?_eq_some_iff.1 ht).1
  rcases h.cells with ⟨h1, h2⟩ | ⟨gb, cap, cur, h1, h2, h3, h4, h5, h6⟩
  · rw [h2] at hi; simp at hi
  · have hb : i < bs.length := by rw [h.len]; exact hi
    refine ⟨gb, cap, cur, bs[i], h1, h2, h5, h3, h4, h6, by simp, ?_, h.at_ i _ t (by simp) ht⟩
    have := congrArg (·[i]?) h6
    simp only [List.getElem?_take, hi, if_true, List.getElem?_zipWith, ht, List.getElem?_eq_getElem hb] at this
    rw [cell_of_blk h2, ← Array.getElem?_toList, this]
    rfl

theorem mvals_one (bs : List Nat) (ts : List ByteArray) : ∀ u ∈ List.zipWith mval bs ts, u.oneCell' = true := by
  intro u hu
  obtain ⟨i, hi⟩ := List.getElem?_of_mem hu
  rw [List.getElem?_zipWith] at hi
  split at hi
  · simp at hi; subst hi; rfl
  · cases hi

/-- Behind a take of the message i. -/
theorem took_done {w w1 w2 : World} {p mq mc : Nat} {f g : Value → Option Value} {ρ ρ1 : Roles} {S : NetS} {a b : Int} {qb gb cap : Nat} {cur : Array Value} {bs : List Nat} {i : Nat} {e : Ending}
    (h : NetR w1 p mq mc f g ρ1 S) (hfr : Fr (Fp ρ) w w1) (hgr : Grows w ρ ρ1) (hf : f (key a b) = some (.pointer (some ⟨qb, 0, none⟩))) (hrq : ρ1 qb = some (3, a, b))
    (hl : ListAt w1 ρ1 a b (.slice (some ⟨gb, 0, none⟩) (S.q a b).length cap) bs (S.q a b)) (hc : cur.size = cap) (hle : (S.q a b).length ≤ cap) (hcm : cap ≤ maxLen) (h6 : cur.toList.take (S.q a b).length = List.zipWith mval bs (S.q a b))
    (hi : i < (S.q a b).length) (ht : TakePost qb gb (S.q a b).length cap i cur w1 e w2) (v : Value) : NPost p ρ (S.setq a b ((S.q a b).eraseIdx i)) v w (.returned v) w2 := by
  obtain ⟨_, cur', h1, h2, h3, h4, h5⟩ := ht
  rw [h6] at h3
  refine ⟨rfl, ρ1, ⟨mq, mc, f, g, h.took hf hrq hl hi hle hcm h1 (by omega) h3 h4 h5⟩, fr_trans_grows hfr hgr (h5.mono ?_), hgr⟩
  rintro r hr (rfl | rfl)
  · show ρ1 _ ≠ none; rw [hrq]; simp
  · show ρ1 _ ≠ none; rw [hl.rsl _ rfl]; simp

set_option maxHeartbeats 1000000 in
theorem lose_calls {p : Nat} {ρ : Roles} {S : NetS} {w : World} (h : NetAt w p ρ S) (a b i : Int) :
    Calls Try.prog 16 #[.pointer (some ⟨p, 0, none⟩), .int .i64 a, .int .i64 b, .int .i64 i] w (NPost p ρ (S.lose a b i) (.int .i64 (S.loseE a b i)) w) := by
  have h0 := h
  obtain ⟨mq, mc, f, g, h⟩ := h
  by_cases hr : S.right a b
  · obtain ⟨h1, h2, h3, h4, h5⟩ := id hr
    go_enter Try.func16, Try.ntmps16
    go_wp2_with fail
    refine (of_calls h h1 h2 h3 h4 h5).mono ?_
    rintro e w1 ⟨f', ρ', qb, rfl, h', hf', hfr, hgr⟩
    obtain ⟨c2, hlk, sl, bs, hrq, hq, hl⟩ := h'.looks hr hf'
    have cq : w1.cell? ⟨qb, 0, none⟩ = some sl := by rw [cell_of_blk hq]; rfl
    obtain ⟨L, hL⟩ : ∃ L, L = (S.q a b).length := ⟨_, rfl⟩
    cases ht : S.at_ a b i with
    | none =>
      obtain ⟨sa, cap, rfl, hLm⟩ := hl.shape
      have hi := NetS.at_none ht
      have hE : Hid (NPost p ρ (S.lose a b i) (.int .i64 (S.loseE a b i)) w (.returned (.int .i64 11)) w1) := by
        have : S.loseE a b i = 11 := by simp [NetS.loseE, hr, ht]
        rw [NetS.lose, this]
        exact ⟨rfl, ρ', ⟨mq, mc, f', g, h'⟩, hfr, hgr⟩
      clear hf' hq hl ht
      go_wp2_with (go_at_call 31; refine (get_out _ _ _ _ _ _ cq hLm hi).mono ?_; rintro e w2 ⟨rfl, rfl⟩)
      go_ret
      exact hE.out
    | some t =>
      obtain ⟨hi0, hi1, hi2⟩ := NetS.at_some ht
      obtain ⟨gb, cap, cur, m, rfl, hg, h5, h3, h4, h6, hm, hv, hmt⟩ := hl.msg hi2
      have hE : Hid (∀ w2 e, TakePost qb gb (S.q a b).length cap i.toNat cur w1 e w2 → NPost p ρ (S.lose a b i) (.int .i64 (S.loseE a b i)) w (.returned (.int .i64 0)) w2) := by
        have : S.loseE a b i = 0 := by simp [NetS.loseE, hr, ht]
        rw [NetS.lose, this]
        exact fun w2 e htk => took_done h' hfr hgr hf' hrq hl h5 h3 h4 h6 hi1 htk _
      have hget := Lib.hid (get_in qb i.toNat gb _ cap _ w1 cq (by unfold maxLen at h4; omega) hi1 hv)
      have htake := Lib.hid (take_calls qb gb _ cap i.toNat cur w1 hq hg h5 h3 (by unfold maxLen at h4; omega) hi1 (by rw [h6]; exact mvals_one _ _))
      obtain ⟨j, rfl⟩ := Int.eq_ofNat_of_zero_le hi0
      simp only [Int.toNat_natCast] at hget htake hE
      clear hf' hq hl ht hg h6 hv hmt hm hi2
      go_wp2_with (first | (go_at_call 31; refine hget.out.mono ?_; rintro e w2 ⟨rfl, rfl⟩) | (go_at_call 32; refine htake.out.mono ?_; rintro e w2 hw2; obtain rfl := hw2.1; have hF := hE.out w2 _ hw2; clear hw2))
      go_ret
      exact hF
  · have hE : Hid (∀ w1, Fr (fun _ => False) w w1 → NPost p ρ (S.lose a b i) (.int .i64 (S.loseE a b i)) w (.returned (.int .i64 1)) w1) := fun w1 hfr => by
      have : S.loseE a b i = 1 := by simp [NetS.loseE, hr]
      rw [NetS.lose, this]
      exact h0.same hfr
    have c0 : w.cell? ⟨p, 0, none⟩ = some (.int .i64 S.nodes) := by rw [cell_of_blk h.hp]; rfl
    go_enter Try.func16, Try.ntmps16
    go_wp2_with (first | (go_at_call 30; refine (of_wrong p a b S.nodes _ c0 hr).mono ?_; rintro e w1 ⟨rfl, hfr⟩) | (go_at_call 31; refine (get_nil i _).mono ?_; rintro e w2 ⟨rfl, rfl⟩))
    go_ret
    exact hE.out _ hfr
end Go.Proofs.Ytheogcihnclehaa
