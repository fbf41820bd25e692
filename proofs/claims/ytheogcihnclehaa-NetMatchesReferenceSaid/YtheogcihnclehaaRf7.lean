/- The reference network's methods beside the network's state: Cut. Printed by gen_rf7.py. -/
import Derived.Test.YtheogcihnclehaaRf6
namespace Go.Proofs.Ytheogcihnclehaa
open Go.RowKit Go.Pl Go.WideMaps

theorem own_base {w : World} {B E c : Nat} {v : Value} {n : Nat} {xs : List Value} (h : w.ownsRow B E c v n xs) : w.ownsRow 0 E c v n xs := by
  refine ⟨h.1, ?_⟩
  rcases h.2 with h1 | ⟨g, cap, cur, h1, _, h2⟩
  · exact .inl h1
  · exact .inr ⟨g, cap, cur, h1, Nat.zero_le _, h2⟩
theorem pcells_one {x : Int × Int} : ∀ u ∈ pcells x, u.oneCell' = true := by
  intro v hv
  simp [pcells] at hv
  rcases hv with rfl | rfl <;> rfl

abbrev keepC (cs : List (Int × Int)) (lo hi : Int) : List (Int × Int) := cs.filter (fun x => !(x.1 == lo && x.2 == hi))
def CutRel (w : World) (cs : List (Int × Int)) (lo hi : Int) (k j : Nat) (v : Value) (wr : World) : Prop :=
  Fr (fun _ => False) w wr ∧ j = (keepC (cs.take k) lo hi).length ∧ wr.ownsRow w.heap.size 45 2 v j ((keepC (cs.take k) lo hi).flatMap pcells)
theorem CutRel.start (w : World) (cs : List (Int × Int)) (lo hi : Int) : CutRel w cs lo hi 0 0 (.slice none 0 0) w := ⟨Fr.refl _ _, by simp, by simp; exact World.ownsRow_nil _ _ _ _⟩
theorem CutRel.no {w wr : World} {cs : List (Int × Int)} {lo hi : Int} {k j : Nat} {v : Value} (h : CutRel w cs lo hi k j v wr) {xa xb : Int} (hx : cs[k]? = some (xa, xb)) (hE : (xa == lo && xb == hi) = true) : CutRel w cs lo hi (k + 1) j v wr := by
  have e : keepC (cs.take (k + 1)) lo hi = keepC (cs.take k) lo hi := by
    rw [keepC, List.take_add_one, hx, List.filter_append]
    simp only [Option.toList, List.filter_cons, List.filter_nil, hE, Bool.not_true, Bool.not_false]
    rw [if_neg (by simp), List.append_nil]
  unfold CutRel
  rw [e]; exact h
theorem CutRel.yes {w wr w3 : World} {cs : List (Int × Int)} {lo hi : Int} {k j : Nat} {v v' : Value} (h : CutRel w cs lo hi k j v wr) {xa xb : Int} (hx : cs[k]? = some (xa, xb)) (hE : (xa == lo && xb == hi) = false)
    (hown : w3.ownsRow w.heap.size 45 2 v' (j + 1) ((keepC (cs.take k) lo hi).flatMap pcells ++ pcells (xa, xb))) (hg : (wr.alloc (.cells #[.int .i64 xa, .int .i64 xb] 45)).grownBy w3 v.ownBlock) : CutRel w cs lo hi (k + 1) (j + 1) v' w3 := by
  obtain ⟨h1, h2, h3⟩ := h
  have e : keepC (cs.take (k + 1)) lo hi = keepC (cs.take k) lo hi ++ [(xa, xb)] := by
    rw [keepC, List.take_add_one, hx, List.filter_append]
    simp only [Option.toList, List.filter_cons, List.filter_nil, hE, Bool.not_true, Bool.not_false]
    rw [if_pos trivial]
  refine ⟨(h1.alloc _).grown hg fun b hb hlt => ?_, by rw [e, List.length_append, ← h2]; rfl, by rw [e, List.flatMap_append]; simpa using hown⟩
  have := (h3.lt b hb).1; omega

theorem rcut_nil (a b : Int) (off : Bool) (w : World) : Calls Try.prog 28 #[.pointer none, .int .i64 a, .int .i64 b, .bool off] w fun e w' => e = .returned (.int .i64 1) ∧ w = w' := by
  go_enter Try.func28, Try.ntmps28
  go_wp2_with (go_at_call 34; refine (right_nil a b _).mono ?_; rintro e w1 ⟨rfl, rfl⟩)
  go_ret
  exact ⟨rfl, rfl⟩

/-- The new list in its place. -/
theorem cut_done {w W : World} {r : Nat} {σ : Nat → Prop} {R : RefS} {mv cv : Value} {S : NetS} {n : Nat} (h : RefAt w r σ R mv cv) (ha : Agree S R) (hb : Bd R n) {a b lo hi : Int} (hr : S.right a b) (hlo : lo = min a b) (hhi : hi = max a b) (off : Bool)
    {v : Value} {j : Nat} (hfr : Fr (fun _ => False) w W) (hj : j = (keepC R.cut lo hi ++ (if off then [(lo, hi)] else [])).length) (hown : W.ownsRow w.heap.size 45 2 v j ((keepC R.cut lo hi ++ (if off then [(lo, hi)] else [])).flatMap pcells)) :
    (W.cell? ⟨r, 2, none⟩ = some cv ∧ W.frozen? ⟨r, 2, none⟩ = false) ∧ APost r σ (S.cutOff a b off) (n + 1) (.int .i64 (S.cutE a b)) w (.returned (.int .i64 0)) (W.setCell ⟨r, 2, none⟩ v) := by
  obtain ⟨hc, σ', h1, h2, h3⟩ := h.cuts hfr hj (own_base hown) (fun k hk => (hown.lt k hk).1)
  refine ⟨hc, by rw [NetS.cutE, if_pos hr], σ', _, ⟨_, _, h1⟩, agree_cut ha hr off ?_, ⟨Nat.le_succ_of_le hb.1, ?_⟩, h2, h3⟩
  · rintro ⟨xa, xb⟩
    rw [← hlo, ← hhi, List.mem_append, List.mem_filter]
    by_cases h5 : xa = lo <;> by_cases h6 : xb = hi <;> cases off <;> simp [h5, h6]
  · have h4 : (keepC R.cut lo hi).length ≤ R.cut.length := List.length_filter_le _ _
    have h5 := hb.2
    show (keepC R.cut lo hi ++ (if off then [(lo, hi)] else [])).length ≤ n + 1
    have h6 : (if off = true then [(lo, hi)] else []).length ≤ 1 := by cases off <;> simp
    rw [List.length_append]
    omega

set_option maxHeartbeats 2000000 in
theorem rcut_lt {w : World} {r : Nat} {σ : Nat → Prop} {R : RefS} {mv cv : Value} {S : NetS} {n : Nat} (h : RefAt w r σ R mv cv) (ha : Agree S R) (hb : Bd R n) (hn : n ≤ 900) (a b : Int) (off : Bool) (hr : S.right a b) (hab : a < b) :
    Calls Try.prog 28 #[.pointer (some ⟨r, 0, none⟩), .int .i64 a, .int .i64 b, .bool off] w (APost r σ (S.cutOff a b off) (n + 1) (.int .i64 (S.cutE a b)) w) := by
  have hrt : decide (S.right a b) = true := by simpa using hr
  have hR := Lib.hid (rright_calls h ha a b)
  rw [hrt] at hR
  have h45 := eq45
  obtain ⟨i0, hi0, hz0, hz1, hz2⟩ := info_parts info45
  have hdone := Lib.hid (fun W v j => cut_done (W := W) (v := v) (j := j) h ha hb hr (lo := a) (hi := b) (Int.min_eq_left (by omega)).symm (Int.max_eq_right (by omega)).symm off)
  have c2 := Lib.hid (fun wr (hf : Fr (fun _ => False) w wr) => hf.cell h.c2 id)
  obtain ⟨sa, g, cap, rfl, _, _, hrows⟩ := own_rows pcells_len h.hc
  have HR := Lib.hid hrows
  obtain ⟨L, hL⟩ : ∃ L, L = R.cut.length := ⟨_, rfl⟩
  have hLn : L ≤ 900 := by have := hb.2; omega
  rw [← hL] at c2 hdone
  have hLH := Lib.hid hL
  generalize hC : R.cut = C at *
  clear hrows hL hC h ha hb hr hrt
  have t3 : a ≤ b := by omega
  have t4 := hab
  clear hab
  go_enter Try.func28, Try.ntmps28
  go_wp2_with (go_at_call 34; refine hR.out.mono ?_; rintro e w1 ⟨rfl, rfl⟩)
  go_loopw [9, 10] (fun v i wr => ∃ k : Nat, k ≤ L ∧ i = .int .i64 k ∧ ∃ j : Nat, j ≤ k ∧ Hid (CutRel w C a b k j v wr)) (fun _ i _ => L - (intOf i).toNat)
  case atStart => exact ⟨0, Nat.zero_le _, rfl, 0, Nat.le_refl _, CutRel.start _ _ _ _⟩
  case round =>
    obtain ⟨k, hk, rfl, j, hj, hrel⟩ := hrel
    obtain ⟨hfr, hjl, hown⟩ := id hrel.out
    obtain ⟨sl, sc, rfl⟩ := ownsRow_slice hown
    have c2r := c2.out _ hfr
    have hbase : w.heap.size ≤ wr.heap.size := hfr.size
    by_cases hlt : k < L
    · obtain ⟨⟨xa, xb⟩, hx⟩ : ∃ x, C[k]? = some x := ⟨_, List.getElem?_eq_getElem (by rw [← hLH.out]; exact hlt)⟩
      obtain ⟨hs, _, hc⟩ := HR.out k _ hx
      have hsa := fun w => index_run (P := Try.prog) Try.underlying62 size45 (cap := cap) hs hlt w
      have d0 : wr.cell? ⟨g, k * 2, none⟩ = some (.int .i64 xa) := hfr.cell (hc 0 _ rfl) id
      have d1 : wr.cell? ⟨g, k * 2 + 1, none⟩ = some (.int .i64 xb) := hfr.cell (hc 1 _ rfl) id
      cases hE : (xa == a && xb == b) with
      | true =>
        have hnx := Lib.hid (hrel.out.no hx hE)
        have hE2 : xa = a ∧ xb = b := by simpa using hE
        obtain ⟨rfl, rfl⟩ := hE2
        clear hs hc hx hrel hown hjl hfr hE
        go_wp2
        go_roundw
        case rel => exact ⟨k + 1, by omega, by go_num, j, by omega, hnx⟩
        case measure => simp [intOf]; omega
      | false =>
        have hstep : Hid (∀ v' w3, w3.ownsRow w.heap.size 45 2 v' (j + 1) ((keepC (C.take k) a b).flatMap pcells ++ pcells (xa, xb)) → (wr.alloc (.cells #[.int .i64 xa, .int .i64 xb] 45)).grownBy w3 (Value.slice sl j sc).ownBlock → CutRel w C a b (k + 1) (j + 1) v' w3) :=
          fun v' w3 h1 h2 => hrel.out.yes hx hE h1 h2
        have hownH := Lib.hid (hown.alloc (.cells #[.int .i64 xa, .int .i64 xb] 45))
        have hnews : Hid (∀ q u, (pcells (xa, xb))[q]? = some u → (wr.alloc (.cells #[.int .i64 xa, .int .i64 xb] 45)).cell? ((⟨wr.heap.size, 0, none⟩ : Addr).add q) = some u) := fun q u hq => by
          rw [Addr.add_lit, Nat.zero_add, cell_of_blk (blk_alloc_new _ _)]
          simpa [pcells] using hq
        have hbase : w.heap.size ≤ (wr.alloc (.cells #[.int .i64 xa, .int .i64 xb] 45)).heap.size := by simp; omega
        clear hs hc hx hrel hown hjl hfr
        go_wp2_with (at_builtin; refine wpList_append_own_at _ rfl _ _ 62 rfl w.heap.size 45 i0 (.agg #[.int .i64 0, .int .i64 0]) 2 16 Try.underlying62 hi0 hz0 hz1 hz2 rfl (by decide) (.slice sl j sc) j _ rfl hownH.out ⟨wr.heap.size, 0, none⟩ 1 1 (pcells (xa, xb)) rfl rfl hnews.out pcells_one (by unfold maxLen; omega) (by omega) hbase ?_; intro v' w3 x1 x2 _ x3; have hnx := Lib.hid (hstep.out v' w3 x1 x2); clear x1 x2 x3)
        go_roundw
        case rel => exact ⟨k + 1, by omega, by go_num, j + 1, by omega, hnx⟩
        case measure => simp [intOf]; omega
    · have htk : C.take k = C := List.take_of_length_le (by rw [← hLH.out]; omega)
      rw [htk] at hjl hown
      have hnlt : ¬ (k : Int) < L := by omega
      cases off with
      | false =>
        obtain ⟨⟨cq, fq⟩, hfin⟩ := hdone.out wr _ j hfr (by simpa using hjl) (by simpa using hown)
        have hfin := Lib.hid hfin
        clear hrel hown hjl hfr hdone htk
        go_wp2
        go_ret
        exact hfin.out
      | true =>
        have hstep : Hid (∀ v' w3, w3.ownsRow w.heap.size 45 2 v' (j + 1) ((keepC C a b).flatMap pcells ++ pcells (a, b)) → (wr.alloc (.cells #[.int .i64 a, .int .i64 b] 45)).grownBy w3 (Value.slice sl j sc).ownBlock → _) := fun v' w3 h1 h2 =>
          hdone.out w3 v' (j + 1) ((hfr.alloc _).grown h2 fun q hq hlt => by have := (hown.lt q hq).1; omega) (by rw [hjl]; simp) (by simpa using h1)
        have hownH := Lib.hid (hown.alloc (.cells #[.int .i64 a, .int .i64 b] 45))
        have hnews : Hid (∀ q u, (pcells (a, b))[q]? = some u → (wr.alloc (.cells #[.int .i64 a, .int .i64 b] 45)).cell? ((⟨wr.heap.size, 0, none⟩ : Addr).add q) = some u) := fun q u hq => by
          rw [Addr.add_lit, Nat.zero_add, cell_of_blk (blk_alloc_new _ _)]
          simpa [pcells] using hq
        have hbase : w.heap.size ≤ (wr.alloc (.cells #[.int .i64 a, .int .i64 b] 45)).heap.size := by simp; omega
        clear hrel hown hjl hfr hdone htk
        go_wp2_with (at_builtin; refine wpList_append_own_at _ rfl _ _ 62 rfl w.heap.size 45 i0 (.agg #[.int .i64 0, .int .i64 0]) 2 16 Try.underlying62 hi0 hz0 hz1 hz2 rfl (by decide) (.slice sl j sc) j _ rfl hownH.out ⟨wr.heap.size, 0, none⟩ 1 1 (pcells (a, b)) rfl rfl hnews.out pcells_one (by unfold maxLen; omega) (by omega) hbase ?_; intro v' w3 x1 x2 _ x3; obtain ⟨⟨cq, fq⟩, hfin⟩ := hstep.out v' w3 x1 x2; obtain ⟨a1, c1', rfl⟩ := ownsRow_slice x1; have hfin := Lib.hid hfin; clear x1 x2 x3)
        go_ret
        exact hfin.out

set_option maxHeartbeats 2000000 in
theorem rcut_gt {w : World} {r : Nat} {σ : Nat → Prop} {R : RefS} {mv cv : Value} {S : NetS} {n : Nat} (h : RefAt w r σ R mv cv) (ha : Agree S R) (hb : Bd R n) (hn : n ≤ 900) (a b : Int) (off : Bool) (hr : S.right a b) (hab : b < a) :
    Calls Try.prog 28 #[.pointer (some ⟨r, 0, none⟩), .int .i64 a, .int .i64 b, .bool off] w (APost r σ (S.cutOff a b off) (n + 1) (.int .i64 (S.cutE a b)) w) := by
  have hrt : decide (S.right a b) = true := by simpa using hr
  have hR := Lib.hid (rright_calls h ha a b)
  rw [hrt] at hR
  have h45 := eq45
  obtain ⟨i0, hi0, hz0, hz1, hz2⟩ := info_parts info45
  have hdone := Lib.hid (fun W v j => cut_done (W := W) (v := v) (j := j) h ha hb hr (lo := b) (hi := a) (Int.min_eq_right (by omega)).symm (Int.max_eq_left (by omega)).symm off)
  have c2 := Lib.hid (fun wr (hf : Fr (fun _ => False) w wr) => hf.cell h.c2 id)
  obtain ⟨sa, g, cap, rfl, _, _, hrows⟩ := own_rows pcells_len h.hc
  have HR := Lib.hid hrows
  obtain ⟨L, hL⟩ : ∃ L, L = R.cut.length := ⟨_, rfl⟩
  have hLn : L ≤ 900 := by have := hb.2; omega
  rw [← hL] at c2 hdone
  have hLH := Lib.hid hL
  generalize hC : R.cut = C at *
  clear hrows hL hC h ha hb hr hrt
  have t3 : ¬ a ≤ b := by omega
  have t4 : ¬ a < b := by omega
  clear hab
  go_enter Try.func28, Try.ntmps28
  go_wp2_with (go_at_call 34; refine hR.out.mono ?_; rintro e w1 ⟨rfl, rfl⟩)
  go_loopw [9, 10] (fun v i wr => ∃ k : Nat, k ≤ L ∧ i = .int .i64 k ∧ ∃ j : Nat, j ≤ k ∧ Hid (CutRel w C b a k j v wr)) (fun _ i _ => L - (intOf i).toNat)
  case atStart => exact ⟨0, Nat.zero_le _, rfl, 0, Nat.le_refl _, CutRel.start _ _ _ _⟩
  case round =>
    obtain ⟨k, hk, rfl, j, hj, hrel⟩ := hrel
    obtain ⟨hfr, hjl, hown⟩ := id hrel.out
    obtain ⟨sl, sc, rfl⟩ := ownsRow_slice hown
    have c2r := c2.out _ hfr
    have hbase : w.heap.size ≤ wr.heap.size := hfr.size
    by_cases hlt : k < L
    · obtain ⟨⟨xa, xb⟩, hx⟩ : ∃ x, C[k]? = some x := ⟨_, List.getElem?_eq_getElem (by rw [← hLH.out]; exact hlt)⟩
      obtain ⟨hs, _, hc⟩ := HR.out k _ hx
      have hsa := fun w => index_run (P := Try.prog) Try.underlying62 size45 (cap := cap) hs hlt w
      have d0 : wr.cell? ⟨g, k * 2, none⟩ = some (.int .i64 xa) := hfr.cell (hc 0 _ rfl) id
      have d1 : wr.cell? ⟨g, k * 2 + 1, none⟩ = some (.int .i64 xb) := hfr.cell (hc 1 _ rfl) id
      cases hE : (xa == b && xb == a) with
      | true =>
        have hnx := Lib.hid (hrel.out.no hx hE)
        have hE2 : xa = b ∧ xb = a := by simpa using hE
        obtain ⟨rfl, rfl⟩ := hE2
        clear hs hc hx hrel hown hjl hfr hE
        go_wp2
        go_roundw
        case rel => exact ⟨k + 1, by omega, by go_num, j, by omega, hnx⟩
        case measure => simp [intOf]; omega
      | false =>
        have hstep : Hid (∀ v' w3, w3.ownsRow w.heap.size 45 2 v' (j + 1) ((keepC (C.take k) b a).flatMap pcells ++ pcells (xa, xb)) → (wr.alloc (.cells #[.int .i64 xa, .int .i64 xb] 45)).grownBy w3 (Value.slice sl j sc).ownBlock → CutRel w C b a (k + 1) (j + 1) v' w3) :=
          fun v' w3 h1 h2 => hrel.out.yes hx hE h1 h2
        have hownH := Lib.hid (hown.alloc (.cells #[.int .i64 xa, .int .i64 xb] 45))
        have hnews : Hid (∀ q u, (pcells (xa, xb))[q]? = some u → (wr.alloc (.cells #[.int .i64 xa, .int .i64 xb] 45)).cell? ((⟨wr.heap.size, 0, none⟩ : Addr).add q) = some u) := fun q u hq => by
          rw [Addr.add_lit, Nat.zero_add, cell_of_blk (blk_alloc_new _ _)]
          simpa [pcells] using hq
        have hbase : w.heap.size ≤ (wr.alloc (.cells #[.int .i64 xa, .int .i64 xb] 45)).heap.size := by simp; omega
        clear hs hc hx hrel hown hjl hfr
        go_wp2_with (at_builtin; refine wpList_append_own_at _ rfl _ _ 62 rfl w.heap.size 45 i0 (.agg #[.int .i64 0, .int .i64 0]) 2 16 Try.underlying62 hi0 hz0 hz1 hz2 rfl (by decide) (.slice sl j sc) j _ rfl hownH.out ⟨wr.heap.size, 0, none⟩ 1 1 (pcells (xa, xb)) rfl rfl hnews.out pcells_one (by unfold maxLen; omega) (by omega) hbase ?_; intro v' w3 x1 x2 _ x3; have hnx := Lib.hid (hstep.out v' w3 x1 x2); clear x1 x2 x3)
        go_roundw
        case rel => exact ⟨k + 1, by omega, by go_num, j + 1, by omega, hnx⟩
        case measure => simp [intOf]; omega
    · have htk : C.take k = C := List.take_of_length_le (by rw [← hLH.out]; omega)
      rw [htk] at hjl hown
      have hnlt : ¬ (k : Int) < L := by omega
      cases off with
      | false =>
        obtain ⟨⟨cq, fq⟩, hfin⟩ := hdone.out wr _ j hfr (by simpa using hjl) (by simpa using hown)
        have hfin := Lib.hid hfin
        clear hrel hown hjl hfr hdone htk
        go_wp2
        go_ret
        exact hfin.out
      | true =>
        have hstep : Hid (∀ v' w3, w3.ownsRow w.heap.size 45 2 v' (j + 1) ((keepC C b a).flatMap pcells ++ pcells (b, a)) → (wr.alloc (.cells #[.int .i64 b, .int .i64 a] 45)).grownBy w3 (Value.slice sl j sc).ownBlock → _) := fun v' w3 h1 h2 =>
          hdone.out w3 v' (j + 1) ((hfr.alloc _).grown h2 fun q hq hlt => by have := (hown.lt q hq).1; omega) (by rw [hjl]; simp) (by simpa using h1)
        have hownH := Lib.hid (hown.alloc (.cells #[.int .i64 b, .int .i64 a] 45))
        have hnews : Hid (∀ q u, (pcells (b, a))[q]? = some u → (wr.alloc (.cells #[.int .i64 b, .int .i64 a] 45)).cell? ((⟨wr.heap.size, 0, none⟩ : Addr).add q) = some u) := fun q u hq => by
          rw [Addr.add_lit, Nat.zero_add, cell_of_blk (blk_alloc_new _ _)]
          simpa [pcells] using hq
        have hbase : w.heap.size ≤ (wr.alloc (.cells #[.int .i64 b, .int .i64 a] 45)).heap.size := by simp; omega
        clear hrel hown hjl hfr hdone htk
        go_wp2_with (at_builtin; refine wpList_append_own_at _ rfl _ _ 62 rfl w.heap.size 45 i0 (.agg #[.int .i64 0, .int .i64 0]) 2 16 Try.underlying62 hi0 hz0 hz1 hz2 rfl (by decide) (.slice sl j sc) j _ rfl hownH.out ⟨wr.heap.size, 0, none⟩ 1 1 (pcells (b, a)) rfl rfl hnews.out pcells_one (by unfold maxLen; omega) (by omega) hbase ?_; intro v' w3 x1 x2 _ x3; obtain ⟨⟨cq, fq⟩, hfin⟩ := hstep.out v' w3 x1 x2; obtain ⟨a1, c1', rfl⟩ := ownsRow_slice x1; have hfin := Lib.hid hfin; clear x1 x2 x3)
        go_ret
        exact hfin.out

theorem rcut_calls {w : World} {r : Nat} {σ : Nat → Prop} {R : RefS} {mv cv : Value} {S : NetS} {n : Nat} (h : RefAt w r σ R mv cv) (ha : Agree S R) (hb : Bd R n) (hn : n ≤ 900) (a b : Int) (off : Bool) :
    Calls Try.prog 28 #[.pointer (some ⟨r, 0, none⟩), .int .i64 a, .int .i64 b, .bool off] w (APost r σ (S.cutOff a b off) (n + 1) (.int .i64 (S.cutE a b)) w) := by
  by_cases hr : S.right a b
  · by_cases hlt : a < b
    · exact rcut_lt h ha hb hn a b off hr hlt
    · exact rcut_gt h ha hb hn a b off hr (by have := hr.2.2.2.2; omega)
  · have hR := Lib.hid (rright_calls h ha a b)
    have hrt : decide (S.right a b) = false := by simpa using hr
    have hE : Hid (APost r σ (S.cutOff a b off) (n + 1) (.int .i64 (S.cutE a b)) w (.returned (.int .i64 1)) w) := by
      rw [NetS.cutOff, NetS.cutE, if_neg hr, if_neg hr]; exact APost.same h ha hb _
    rw [hrt] at hR
    clear h ha hb hr hrt
    go_enter Try.func28, Try.ntmps28
    go_wp2_with (go_at_call 34; refine hR.out.mono ?_; rintro e w1 ⟨rfl, rfl⟩)
    go_ret
    exact hE.out
end Go.Proofs.Ytheogcihnclehaa
