/- The reference network's methods beside the network's state: Spoil. -/
import Derived.Test.YtheogcihnclehaaRf7
import Derived.Deep.RegionHeld3
import Derived.Deep.Cut
namespace Go.Proofs.Ytheogcihnclehaa
open Go.RowKit Go.Pl Go.WideMaps

theorem flat_set (l1 l2 : List Msg) (m : Msg) (t : ByteArray) : ((l1 ++ m :: l2).flatMap mcells).set (l1.length * 3 + 2) (.string t) = (l1 ++ (m.1, m.2.1, t) :: l2).flatMap mcells := by
  rw [List.flatMap_append, List.flatMap_cons, List.flatMap_append, List.flatMap_cons, List.set_append_right _ _ (by rw [flat_len mcells_len]; omega), flat_len mcells_len, Nat.add_sub_cancel_left]
  rfl

/-- A message's text turns in its place. -/
theorem RefAt.text {w W : World} {r : Nat} {σ : Nat → Prop} {R : RefS} {g L cap : Nat} {cv : Value} (h : RefAt w r σ R (.slice (some ⟨g, 0, none⟩) L cap) cv) (hfr : Fr (fun _ => False) w W) {l1 l2 : List Msg} {m : Msg} (hms : R.ms = l1 ++ m :: l2) (t : ByteArray) :
    (∃ v, W.cell? ⟨g, l1.length * 3 + 2, none⟩ = some v) ∧ W.frozen? ⟨g, l1.length * 3 + 2, none⟩ = false ∧
    RefAt (W.setCell ⟨g, l1.length * 3 + 2, none⟩ (.string t)) r σ { R with ms := l1 ++ (m.1, m.2.1, t) :: l2 } (.slice (some ⟨g, 0, none⟩) L cap) cv ∧ Fr σ w (W.setCell ⟨g, l1.length * 3 + 2, none⟩ (.string t)) := by
  have h2 := h.fr hfr (by simp)
  obtain ⟨hlen, hm⟩ := h2.hm
  rcases hm with ⟨h1, _⟩ | ⟨g', cap', cur, h1, _, h3, h4, h5, h6, h7⟩
  · cases h1
  · have hn : (l1 ++ (m.1, m.2.1, t) :: l2).length = R.ms.length := by rw [hms]; simp
    injection h1 with x1 x2 x3
    simp at x1
    subst x1; subst x3
    have hgl := lt_of_blk h3
    have hi : l1.length < R.ms.length := by rw [hms]; simp
    have hcur : l1.length * 3 + 2 < cur.size := by rw [h6]; omega
    have hgr : g ≠ r := fun e => by have := h2.hp; rw [← e, h3] at this; simp at this
    have hgc : ∀ k, cv.ownBlock = some k → k ≠ g := fun k hk e => h2.mc hk (by rw [e]; rfl)
    refine ⟨⟨_, by rw [cell_of_blk h3, Array.getElem?_eq_getElem hcur]⟩, free_of_blk h3 _, ⟨?_, h.own, ⟨by rw [flat_len mcells_len], .inr ⟨g, cap, _, by rw [hn, x2], Nat.zero_le _, blk_setCell_same h3 _, by rw [hn]; exact h4, h5, by rw [Array.size_setIfInBounds]; exact h6, ?_⟩⟩, ?_, h.om, h.oc, ?_, h.nn⟩, (hfr.mono fun _ _ x => x.elim).setCell (fun _ => h.om g rfl) _⟩
    · rw [blk_setCell (by simp only; exact hgr.symm)]; exact h2.hp
    · show (cur.setIfInBounds _ _).toList.take _ = _
      rw [Array.toList_setIfInBounds, List.take_set, ← flat_set, ← hms, ← h7, hn]
    · refine ownsRow_of_blk h2.hc fun k hk => blk_setCell (by simp only; exact hgc k hk) _
    · intro k hk; have := h2.lt k hk; simpa [World.setCell] using this

theorem rspoil_nil (a b i at_ mask : Int) (w : World) : Calls Try.prog 27 #[.pointer none, .int .i64 a, .int .i64 b, .int .i64 i, .int .i64 at_, .int .i64 mask] w fun e w' => e = .returned (.int .i64 1) ∧ w = w' := by
  go_enter Try.func27, Try.ntmps27
  go_wp2_with (go_at_call 34; refine (right_nil a b _).mono ?_; rintro e w1 ⟨rfl, rfl⟩)
  go_ret
  exact ⟨rfl, rfl⟩

theorem spoil_text (t : ByteArray) (p : Nat) (mask : Int) (hp : p < t.size) : t.extract 0 p ++ ⟨#[t[p] ^^^ UInt8.ofNat mask.toNat]⟩ ++ t.extract (p + 1) t.size = spoilT t p mask := by
  apply ByteArray.ext
  have hp' : p < t.data.size := hp
  rw [ByteArray.data_append, ByteArray.data_append, ByteArray.data_extract, ByteArray.data_extract, spoilT]
  apply Array.ext_getElem?
  intro i
  have hs : t.size = t.data.size := rfl
  simp only [Array.getElem?_append, Array.getElem?_extract, Array.getElem?_modify, Array.size_append, Array.size_extract]
  rcases Nat.lt_trichotomy i p with h | h | h
  · rw [if_pos (by simp; omega), if_pos (by omega), if_pos (by omega), if_neg (by omega), Nat.zero_add]
  · subst h
    rw [if_pos (by simp; omega), if_neg (by omega), if_pos rfl, Array.getElem?_eq_getElem hp']
    have : i - (min i t.data.size - 0) = 0 := by omega
    rw [this]
    rfl
  · have h1 : (#[t[p] ^^^ UInt8.ofNat mask.toNat] : Array UInt8).size = 1 := rfl
    rw [h1, if_neg (by omega), if_neg (by omega : ¬ p = i)]
    by_cases hi : i < t.data.size
    · rw [if_pos (by omega)]
      congr 1; omega
    · rw [if_neg (by omega), Array.getElem?_eq_none (by omega)]

theorem APost.spoilt {w W : World} {r : Nat} {σ : Nat → Prop} {R : RefS} {g L cap : Nat} {cv : Value} {S : NetS} {n : Nat} (h : RefAt w r σ R (.slice (some ⟨g, 0, none⟩) L cap) cv) (ha : Agree S R) (hb : Bd R n) {a b i at_ mask : Int} {l1 l2 : List Msg} {m : Msg}
    (hms : R.ms = l1 ++ m :: l2) (hm : mt a b m = true) (hi : i = (l1.filter (mt a b)).length) (hE0 : S.spoilE a b i at_ mask = 0) (hat : S.at_ a b i = some (txt m)) (hfr : Fr (fun _ => False) w W) :
    (∃ v, W.cell? ⟨g, l1.length * 3 + 2, none⟩ = some v) ∧ W.frozen? ⟨g, l1.length * 3 + 2, none⟩ = false ∧
    APost r σ (S.spoil a b i at_ mask) (n + 1) (.int .i64 (S.spoilE a b i at_ mask)) w (.returned (.int .i64 0)) (W.setCell ⟨g, l1.length * 3 + 2, none⟩ (.string (spoilT (txt m) at_.toNat mask))) := by
  obtain ⟨h1, h2, h3, h4⟩ := h.text hfr hms (spoilT (txt m) at_.toNat mask)
  refine ⟨h1, h2, by rw [hE0], σ, _, ⟨_, _, h3⟩, ?_, ⟨?_, Nat.le_succ_of_le hb.2⟩, h4, fun _ _ => id⟩
  · rw [NetS.spoil, if_pos hE0, hat, hi, Int.toNat_natCast]
    exact agree_set ha hms hm _
  · have := hb.1
    rw [hms] at this
    simp at this ⊢
    omega

set_option maxHeartbeats 1000000 in
theorem rspoil_calls {w : World} {r : Nat} {σ : Nat → Prop} {R : RefS} {mv cv : Value} {S : NetS} {n : Nat} (h : RefAt w r σ R mv cv) (ha : Agree S R) (hb : Bd R n) (hn : n ≤ 900) (a b i at_ mask : Int) (hsz : ∀ m ∈ R.ms, (txt m).size ≤ 20000) :
    Calls Try.prog 27 #[.pointer (some ⟨r, 0, none⟩), .int .i64 a, .int .i64 b, .int .i64 i, .int .i64 at_, .int .i64 mask] w (APost r σ (S.spoil a b i at_ mask) (n + 1) (.int .i64 (S.spoilE a b i at_ mask)) w) := by
  have hno : ∀ E : Int, E ≠ 0 → S.spoilE a b i at_ mask = E → Hid (APost r σ (S.spoil a b i at_ mask) (n + 1) (.int .i64 (S.spoilE a b i at_ mask)) w (.returned (.int .i64 E)) w) := fun E h0 hE => by
    rw [NetS.spoil, hE, if_neg h0]
    exact APost.same h ha hb _
  have hR := Lib.hid (rright_calls h ha a b)
  by_cases hr : S.right a b
  · have hrt : decide (S.right a b) = true := by simpa using hr
    rw [hrt] at hR
    by_cases hmask : mask < 1 ∨ 255 < mask
    · have hE := hno 1 (by omega) (by simp [NetS.spoilE, hr, hmask])
      clear hno h ha hb hr hrt
      rcases hmask with hm | hm
      · have t1 : decide (mask < 1) = true := by simpa using hm
        go_enter Try.func27, Try.ntmps27
        go_wp2_with (go_at_call 34; refine hR.out.mono ?_; rintro e w1 ⟨rfl, rfl⟩)
        go_ret
        exact hE.out
      · have t1 : decide (mask < 1) = false := by simp; omega
        have t2 : decide (255 < mask) = true := by simpa using hm
        go_enter Try.func27, Try.ntmps27
        go_wp2_with (go_at_call 34; refine hR.out.mono ?_; rintro e w1 ⟨rfl, rfl⟩)
        go_ret
        exact hE.out
    have hm1 : 1 ≤ mask := by omega
    have hm2 : mask ≤ 255 := by omega
    have t1 : decide (mask < 1) = false := by simp; omega
    have t2 : decide (255 < mask) = false := by simp; omega
    go_enter Try.func27, Try.ntmps27
    go_wp2_with fail
    refine hR.out.mono ?_
    rintro e w1 ⟨rfl, rfl⟩
    go_wp2_with fail
    refine (rfind_calls h hb hn a b i).mono ?_
    rintro e w1 ⟨rfl, v, rfl, hv⟩
    rcases agree_find ha hv with ⟨rfl, hat⟩ | ⟨l1, m, l2, hms, hm, hi, rfl, hat⟩
    · have hE := hno 11 (by omega) (by simp [NetS.spoilE, hr, hat, hmask])
      clear hno h ha hb hr hrt hv hat hmask
      go_wp2
      go_ret
      exact hE.out
    · have hlt : l1.length < R.ms.length := by rw [hms]; simp
      have hx : R.ms[l1.length]? = some m := by rw [hms]; simp
      have hL : R.ms.length ≤ 900 := by have := hb.1; omega
      have hts : (txt m).size ≤ 20000 := hsz m (List.mem_of_getElem? hx)
      obtain ⟨sa, g, cap, rfl, _, _, hrows⟩ := own_rows mcells_len h.hm
      obtain ⟨rfl, hglt, hc⟩ := hrows _ _ hx
      have d2 : w.cell? ⟨g, l1.length * 3 + 2, none⟩ = some (.string (txt m)) := hc 2 _ rfl
      have c1 := h.c1
      have hgr : g ≠ r := fun e => h.rm (by rw [e]; rfl)
      by_cases hatm : at_ < 0 ∨ ((txt m).size : Int) ≤ at_
      · have hE := hno 11 (by omega) (by simp [NetS.spoilE, hr, hat, hmask, hatm])
        obtain ⟨k, hk⟩ : ∃ k, k = l1.length := ⟨_, rfl⟩
        obtain ⟨L, hLL⟩ : ∃ L, L = R.ms.length := ⟨_, rfl⟩
        rw [← hk] at hlt d2 ⊢
        rw [← hLL] at c1 hL hlt
        have hsa := fun w => index_run (P := Try.prog) (cap := cap) Try.underlying61 size77 (rfl : some (⟨g, 0, none⟩ : Addr) = _) hlt w
        clear hno h ha hb hr hrt hv hat hms hm hi hk hLL hx hrows hc hmask
        rcases hatm with hm | hm
        · have t5 : decide (at_ < 0) = true := by simpa using hm
          go_wp2
          go_ret
          exact hE.out
        · have t5 : decide (at_ < 0) = false := by simp; omega
          go_wp2
          go_ret
          exact hE.out
      · have hE0 : S.spoilE a b i at_ mask = 0 := by simp [NetS.spoilE, hr, hmask, hat, hatm]
        have hfin := Lib.hid (fun W hf => APost.spoilt (W := W) h ha hb hms hm hi hE0 hat hf)
        obtain ⟨p, rfl⟩ := Int.eq_ofNat_of_zero_le (show 0 ≤ at_ by omega)
        have hp : p < (txt m).size := by omega
        rw [Int.toNat_natCast] at hfin
        obtain ⟨k, hk⟩ : ∃ k, k = l1.length := ⟨_, rfl⟩
        obtain ⟨L, hLL⟩ : ∃ L, L = R.ms.length := ⟨_, rfl⟩
        obtain ⟨t, htt⟩ : ∃ t, t = txt m := ⟨_, rfl⟩
        rw [← htt] at hp d2 hts hfin
        rw [← hk] at hlt d2 hfin ⊢
        rw [← hLL] at c1 hL hlt
        have hsa := fun w => index_run (P := Try.prog) (cap := cap) Try.underlying61 size77 (rfl : some (⟨g, 0, none⟩ : Addr) = _) hlt w
        have t5 : decide ((p : Int) < 0) = false := by simp
        have t6 : (p : Int) < t.size := by omega
        clear hno h ha hb hr hrt hv hat hms hm hi hk hLL hx hrows hc hmask hatm hE0 htt
        go_upto_region 8 with fail
        have hx := t[p].toNat_lt
        have hb8 : bits BinOp.xor .u8 (t[p].toNat : Int) mask = ((t[p] ^^^ UInt8.ofNat mask.toNat).toNat : Int) := by
          rw [u8_xor _ _ (by omega) (by omega) (by omega) (by omega), Int.toNat_natCast, UInt8.toNat_xor, UInt8.toNat_ofNat_of_lt' (by have : UInt8.size = 256 := rfl; omega)]
        rw [hb8]
        obtain ⟨x, hxx⟩ : ∃ x, x = t[p] ^^^ UInt8.ofNat mask.toNat := ⟨_, rfl⟩
        rw [← hxx]
        have hxH := Lib.hid hxx
        have hcv : (convert 38 9 (.slice (some ⟨w.heap.size, 0, none⟩) 1 1)).run Try.prog (w.alloc (.cells #[.int .u8 (x.toNat : Int)] 5)).drew = .ok (.string ⟨#[x]⟩) (w.alloc (.cells #[.int .u8 (x.toNat : Int)] 5)).drew :=
          text_of _ 38 9 5 w.heap.size 1 ⟨#[x]⟩ Try.underlying38 Try.underlying5 Try.underlying9 (by show (w.alloc _).heap[w.heap.size]? = _; rw [blk_alloc_new]; simp [bytesOf])
        obtain ⟨⟨v0, hv0⟩, hfz, hfin⟩ := hfin.out ((w.alloc (.cells #[.int .u8 (x.toNat : Int)] 5)).drew) (by simp)
        have c1' : (w.alloc (.cells #[.int .u8 (x.toNat : Int)] 5)).drew.cell? ⟨r, 1, none⟩ = some (.slice (some ⟨g, 0, none⟩) L cap) := by
          have : r < w.heap.size := World.block_lt_of_cell? w _ c1
          exact (World.cell?_of_block (blk_alloc this _)).trans c1
        have hco : ∀ v, (w.alloc (.cells #[.int .u8 (x.toNat : Int)] 5)).setCell ⟨g, k * 3 + 2, none⟩ v = (w.setCell ⟨g, k * 3 + 2, none⟩ v).alloc (.cells #[.int .u8 (x.toNat : Int)] 5) := fun v => World.setCell_alloc_past _ _ _ _ hglt
        have hfinH : Hid (APost r σ (S.spoil a b i p mask) (n + 1) (.int .i64 (S.spoilE a b i p mask)) w (.returned (.int .i64 0)) ((w.setCell ⟨g, k * 3 + 2, none⟩ (.string (spoilT t p mask))).alloc (.cells #[.int .u8 (x.toNat : Int)] 5)).drew) := by
          rw [← hco]; exact hfin
        have t7 : (k : Int) < L := by omega
        have t8 : IntKind.i64.wrap ((p : Int) + 1) = (p : Int) + 1 := IntWalk.i64_in _ (by omega)
        have t9 : (0 : Int) ≤ (p : Int) + 1 := by omega
        have t10 : (p : Int) + 1 ≤ t.size := by omega
        clear hxx hb8 hx hfin
        have c1s : ∀ v, ((w.alloc (.cells #[.int .u8 (x.toNat : Int)] 5)).setCell ⟨g, k * 3 + 2, none⟩ v).drew.cell? ⟨r, 1, none⟩ = some (.slice (some ⟨g, 0, none⟩) L cap) := fun v => by
          refine (World.cell?_of_block (blk_setCell (w := (w.alloc (.cells #[.int .u8 (x.toNat : Int)] 5)).drew) (by exact hgr.symm) v)).trans c1'
        have hcvs : ∀ v, (convert 38 9 (.slice (some ⟨w.heap.size, 0, none⟩) 1 1)).run Try.prog ((w.alloc (.cells #[.int .u8 (x.toNat : Int)] 5)).setCell ⟨g, k * 3 + 2, none⟩ v).drew = .ok (.string ⟨#[x]⟩) ((w.alloc (.cells #[.int .u8 (x.toNat : Int)] 5)).setCell ⟨g, k * 3 + 2, none⟩ v).drew := fun v =>
          text_of _ 38 9 5 w.heap.size 1 ⟨#[x]⟩ Try.underlying38 Try.underlying5 Try.underlying9 (by
            show ((w.alloc _).setCell _ _).heap[w.heap.size]? = _
            rw [blk_setCell (by simp only; omega), blk_alloc_new]; simp [bytesOf])
        simp only [hco] at c1s hcvs
        clear hco
        have hadd1 : ∀ W, (Op.stringOp .add (t.extract 0 p) ⟨#[x]⟩).run Try.prog W = .ok (.string (t.extract 0 p ++ ⟨#[x]⟩)) W := fun W => run_string_add W _ _ (by simp; omega) (by show ((1 : Nat) : Int) ≤ _; omega)
        have hadd2 : ∀ W, (Op.stringOp .add (t.extract 0 p ++ ⟨#[x]⟩) (t.extract (p + 1) t.size)).run Try.prog W = .ok (.string (t.extract 0 p ++ ⟨#[x]⟩ ++ t.extract (p + 1) t.size)) W := fun W => run_string_add W _ _ (by rw [ByteArray.size_append]; show ((_ + 1 : Nat) : Int) ≤ _; simp; omega) (by simp; omega)
        have t11 : (p : Int) ≤ t.size := by omega
        have t12 : (0 : Int) ≤ p := by omega
        go_region_held3 (fun w' => w'.cell? ⟨r, 1, none⟩ = some (.slice (some ⟨g, 0, none⟩) L cap) ∧ (convert 38 9 (.slice (some ⟨w.heap.size, 0, none⟩) 1 1)).run Try.prog w' = .ok (.string ⟨#[x]⟩) w') (first | exact ⟨c1', hcv⟩ | trivial | exact ⟨c1s _, hcvs _⟩) (fail)
        have hst : t.extract 0 p ++ ⟨#[x]⟩ ++ t.extract (p + 1) t.size = spoilT t p mask := by rw [hxH.out]; exact spoil_text t p mask hp
        rw [hst]
        clear hst
        go_wp2
        go_ret
        exact hfinH.out
  · have hrt : decide (S.right a b) = false := by simpa using hr
    have hE := hno 1 (by omega) (by simp [NetS.spoilE, hr])
    rw [hrt] at hR
    clear hno h ha hb hr hrt
    go_enter Try.func27, Try.ntmps27
    go_wp2_with (go_at_call 34; refine hR.out.mono ?_; rintro e w1 ⟨rfl, rfl⟩)
    go_ret
    exact hE.out
end Go.Proofs.Ytheogcihnclehaa
