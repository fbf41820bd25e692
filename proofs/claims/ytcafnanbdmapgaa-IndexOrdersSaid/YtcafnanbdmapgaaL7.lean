/- The tree of an index. -/
import Derived.Test.YtcafnanbdmapgaaL6
set_option linter.unusedVariables false
set_option linter.unusedSimpArgs false
namespace Go.Proofs.Ytcafnanbdmapgaa
open Go.RowKit Go.Pl


theorem MapN_range {P : Program} {K t e : TypeId} (ht : P.underlying t = some (.map K e)) {w : World} {b n : Nat} {m} (h : MapN P K w b n m) :
    ∃ o cnt, (Instr.range t (.map (some b))).run P w = .ok (.pointer (some ⟨w.heap.size, 0, none⟩)) (w.alloc o) ∧ Rng P K (w.alloc o) b w.heap.size m (fun k => (m k).isSome = true) cnt ∧ cnt ≤ n := by
  have hlt := h.lt
  obtain ⟨es, clock, hb, h, hs⟩ := h
  refine ⟨_, _, run_range_map w t K e b es clock ht hb, ⟨es, clock, clock, #[], clock, (blk_alloc hlt _).trans hb, h, blk_alloc_new _ _, h.born, rfl, fun x hx => ?_, fun k hk => ?_, Nat.le_refl _, Nat.le_refl _⟩, ?_⟩
  · show (m x.key).isSome = true ↔ _
    rw [(h.at_ x.key x.val).2 ⟨x, hx, rfl, rfl⟩]; simp
  · obtain ⟨v, hv⟩ := Option.isSome_iff_exists.1 hk
    obtain ⟨x, hx, h1, _⟩ := (h.at_ k v).1 hv
    exact ⟨x, hx, h1⟩
  · unfold leftOf
    exact Nat.le_trans (Array.size_filter_le ..) hs

theorem Rng_ne_row {P : Program} {K : TypeId} {w : World} {b r : Nat} {m left cnt} (h : Rng P K w b r m left cnt) {B E c : Nat} {v : Value} {n : Nat} {xs : List Value} (hv : w.ownsRow B E c v n xs) : v.ownBlock ≠ some r := by
  obtain ⟨_, _, _, _, _, _, _, hit, _⟩ := h
  rcases hv.2 with ⟨h1, _⟩ | ⟨g, cap, cur, h1, _, hb, _⟩
  · rw [h1]; simp [Value.ownBlock]
  · rw [h1]
    simp only [Value.ownBlock, ne_eq, Option.some.injEq]
    rintro rfl
    rw [hb] at hit; cases hit

section
variable {o : Oper} {w w' : World} {ρ : Operand → Value} {x y : Operand} {b : Bx} {s : ByteArray} {v : Value} {r : Nat}
theorem run_next (h : (Instr.next (.pointer (some ⟨r, 0, none⟩)) false o.type).run Try.prog w = .ok v w') (ho : o.op = .next x false) (hx : ρ x = .pointer (some ⟨r, 0, none⟩)) : (execOp ρ o).run Try.prog w = .ok (.value v) w' := by
  simp [execOp, ho, hx, h, Result.andThen]
theorem run_entry (h : (Instr.entry (.pointer (some ⟨r, 0, none⟩))).run Try.prog w = .ok v w') (ho : o.op = .entry x) (hx : ρ x = .pointer (some ⟨r, 0, none⟩)) : (execOp ρ o).run Try.prog w = .ok (.value v) w' := by
  simp [execOp, ho, hx, h, Result.andThen]
theorem run_range58 {mb : Nat} (h : (Instr.range 58 (.map (some mb))).run Try.prog w = .ok v w') (ho : o.op = .range 58 x) (hx : ρ x = .map (some mb)) : (execOp ρ o).run Try.prog w = .ok (.value v) w' := by
  simp [execOp, ho, hx, h, Result.andThen]
theorem run_extA {k : Nat} {vs : Array Value} (hk : vs[k]? = some v) (ho : o.op = .extract x k) (hx : ρ x = .tuple vs) : (execOp ρ o).run Try.prog w = .ok (.value v) w := by
  simp [execOp, ho, hx, go_sem, hk]
abbrev lfC (b : Bx) (s : ByteArray) : Array Value := #[.int .i64 b.1.1, .int .i64 b.1.2, .int .i64 b.2.1, .int .i64 b.2.2, .string s, .slice none 0 0]
theorem run_leaf71 (ho : o.op = .build 71 #[(0, x), (1, y)]) (hx : ρ x = .agg (bxC b)) (hy : ρ y = .string s) : (execOp ρ o).run Try.prog w = .ok (.value (.agg (lfC b s))) w := by
  simp [execOp, ho, hx, hy, go_sem]
theorem run_boxl71 (ho : o.op = .box 71 x) (hx : ρ x = .agg (lfC b s)) : (execOp ρ o).run Try.prog w = .ok (.value (.pointer (some ⟨w.heap.size, 0, none⟩))) (w.alloc (.cells (lfC b s) 71)) := by
  simp [execOp, ho, hx, go_sem]
theorem run_st59 {p0 : Option Addr} {u : Value} {g off : Nat} (ho : o.op = .store 59 x y) (hx : ρ x = .pointer (some ⟨g, off, none⟩)) (hy : ρ y = .pointer p0) (hc : w.cell? ⟨g, off, none⟩ = some u) (hz : w.frozen? ⟨g, off, none⟩ = false) : (execOp ρ o).run Try.prog w = .ok .skip (w.setCell ⟨g, off, none⟩ (.pointer p0)) := by
  simp [execOp, ho, hx, hy, go_sem, hc, hz]
end
/-- How the making of the tree ends. -/
def TreeP (w : World) (p mb N : Nat) (S : Nat → Prop) (m : ByteArray → Option Bx) (e : Ending) (w' : World) : Prop :=
  ∃ S' rv', e = .returned rv' ∧ IxAt w' p mb N S' m rv' true ∧ Fr (fun k => k = p) w w' ∧ ∀ k, S' k → S k ∨ w.heap.size ≤ k
/-- What has come of the map's entries. -/
def Came (m : ByteArray → Option Bx) (left : Value → Prop) (L : List En) : Prop := (L.map (·.1)).Nodup ∧ ∀ s b, (s, b) ∈ L ↔ m s = some b ∧ ¬ left (.string s)
theorem Came.start {m : ByteArray → Option Bx} : Came m (fun k => (bxM m k).isSome = true) [] := by
  refine ⟨List.nodup_nil, fun s b => ⟨fun h => (by cases h), fun h => absurd ?_ h.2⟩⟩
  show (bxM m (.string s)).isSome = true
  rw [bxM_str, h.1]; rfl
theorem Came.next {m : ByteArray → Option Bx} {left : Value → Prop} {L : List En} (h : Came m left L) {s : ByteArray} {b : Bx} (hl : left (.string s)) (hm : m s = some b) : Came m (fun x => left x ∧ x ≠ .string s) (L ++ [(s, b)]) := by
  refine ⟨?_, fun t c => ?_⟩
  · rw [List.map_append, List.nodup_append]
    refine ⟨h.1, by simp, ?_⟩
    intro x hx y hy e
    simp at hy; subst hy; subst e
    obtain ⟨z, hz, hze⟩ := List.mem_map.1 hx
    exact ((h.2 z.1 z.2).1 hz).2 (by rw [hze]; exact hl)
  · rw [List.mem_append, h.2]
    constructor
    · rintro (⟨h1, h2⟩ | h1)
      · exact ⟨h1, fun h3 => h2 h3.1⟩
      · simp at h1
        obtain ⟨rfl, rfl⟩ := h1
        exact ⟨hm, fun h3 => h3.2 rfl⟩
    · rintro ⟨h1, h2⟩
      by_cases ht : t = s
      · subst ht
        rw [hm] at h1; cases h1
        exact .inr (by simp)
      · refine .inl ⟨h1, fun h3 => h2 ⟨h3, fun e => ht ?_⟩⟩
        simpa using e
theorem Came.ends {m : ByteArray → Option Bx} {left : Value → Prop} {L : List En} (h : Came m left L) (hn : ∀ k, ¬ left k) : EnOf L m := ⟨h.1, fun s b => ⟨fun h2 => ((h.2 s b).1 h2).1, fun h2 => (h.2 s b).2 ⟨h2, hn _⟩⟩⟩
theorem EnOf.perm {m : ByteArray → Option Bx} {L K : List En} (h : EnOf L m) (hp : K.Perm L) : EnOf K m := ⟨(hp.map _).nodup_iff.2 h.1, fun s b => by rw [hp.mem_iff]; exact h.2 s b⟩
set_option maxRecDepth 100000 in
set_option maxHeartbeats 4000000 in
theorem tree_calls {w : World} {p mb N : Nat} {S0 : Nat → Prop} {m : ByteArray → Option Bx} {rv : Value} {pk : Bool} (h : IxAt w p mb N S0 m rv pk) (hNb : N ≤ 100000) : Calls Try.prog 37 #[.pointer (some ⟨p, 0, none⟩)] w (TreeP w p mb N S0 m) := by
  refine wp_start1 Try.func37 rfl rfl (n := 40) (by decide) fun a E => ?_
  have hf : Fr (fun _ => False) w w := Fr.refl _ _
  have hpl : p < w.heap.size := lt_of_blk h.hp
  have hml : mb < w.heap.size := h.hm.lt
  have hσ : ∀ k, S0 k → k < w.heap.size := h.lt
  refine wp_seq ?_
  refine wp_region_lit ?_
  refine env_put (d := 2) (v := (Value.pointer none)) E rfl (by decide) rfl (wanted_none rfl _) (run_assign rfl rfl) fun a E => ?_
  refine wpList_nil ?_
  refine then_n ?_
  refine wp_seq ?_
  refine wp_seq ?_
  refine wp_region_lit ?_
  refine env_put (d := 6) (v := .pointer (some ⟨p, 0, none⟩)) E rfl (by decide) rfl (wanted_none rfl _) (run_move rfl (E.get 1 rfl)) fun a E => ?_
  refine env_put (d := 7) (v := .pointer (some ⟨p, 0, none⟩)) E rfl (by decide) rfl (wanted_none rfl _) (run_nilchk rfl (E.get 0 rfl)) fun a E => ?_
  refine env_put (d := 8) (v := .pointer (some ⟨p, 2, none⟩)) E rfl (by decide) rfl (wanted_none rfl _) (fa61_2 rfl (E.get 0 rfl)) fun a E => ?_
  refine env_put (d := 9) (v := .bool pk) E rfl (by decide) rfl (wanted_none rfl _) (run_ldb rfl (E.get 0 rfl) (bx h.hp 2 rfl)) fun a E => ?_
  refine env_put (d := 10) (v := .bool (!pk)) E rfl (by decide) rfl (wanted_none rfl _) (run_not rfl (E.get 0 rfl)) fun a E => ?_
  refine wpList_nil ?_
  refine then_n ?_
  cases hq34 : pk with
  | false =>
    rw [hq34] at E
    rw [hq34] at h
    refine wp_cond_true (E.get 0 rfl) ?_
    refine wp_seq ?_
    refine wp_region_lit ?_
    refine env_put (d := 3) (v := .slice none 0 0) E rfl (by decide) rfl (wanted_none rfl _) (run_assign rfl rfl) fun a E => ?_
    refine wpList_nil ?_
    refine then_n ?_
    refine wp_seq ?_
    refine wp_seq ?_
    refine wp_region_lit ?_
    refine env_put (d := 11) (v := .pointer (some ⟨p, 0, none⟩)) E rfl (by decide) rfl (wanted_none rfl _) (run_move rfl (E.get 7 rfl)) fun a E => ?_
    refine env_put (d := 12) (v := .pointer (some ⟨p, 0, none⟩)) E rfl (by decide) rfl (wanted_none rfl _) (run_nilchk rfl (E.get 0 rfl)) fun a E => ?_
    refine env_put (d := 13) (v := .pointer (some ⟨p, 0, none⟩)) E rfl (by decide) rfl (wanted_none rfl _) (fa61_0 rfl (E.get 0 rfl)) fun a E => ?_
    refine env_put (d := 14) (v := .map (some mb)) E rfl (by decide) rfl (wanted_none rfl _) (run_ld58 rfl (E.get 0 rfl) (bx h.hp 0 rfl)) fun a E => ?_
    obtain ⟨oi, cnt, hrun, hr, hcn⟩ := MapN_range Try.underlying58 h.hm
    have f1 : Fr (fun _ => False) w (w.alloc oi) := (Fr.refl _ _).alloc _
    refine env_put (d := 15) (v := .pointer (some ⟨w.heap.size, 0, none⟩)) E rfl (by decide) rfl (wanted_none rfl _) (run_range58 hrun rfl (E.get 0 rfl)) fun a E => ?_
    have h := IxAt.fr h f1 id id (fun _ _ h => h)
    have hf := hf.trans f1
    have hrw : w.heap.size ≤ w.heap.size := Nat.le_refl _
    obtain ⟨r, hre⟩ : ∃ r, r = w.heap.size := ⟨_, rfl⟩
    rw [← hre] at E hr
    obtain ⟨wr, hwr⟩ : ∃ wr, wr = w.alloc oi := ⟨_, rfl⟩
    rw [← hwr] at h hf hr ⊢
    have hrl : r < wr.heap.size := hr.lt
    clear hrun f1 hwr
    refine wpList_nil ?_
    refine then_n ?_
    refine wp_block ?_
    refine wp_loop (fun a w2 => ∃ (C : List Nd) (S : Nat → Prop) (v : Value) (left : Value → Prop) (cnt : Nat), Env 40 [(15, .pointer (some ⟨r, 0, none⟩)), (3, v), (2, Value.pointer none), (0, .pointer (some ⟨p, 0, none⟩))] a ∧ Rng Try.prog 9 w2 mb r (bxM m) left cnt ∧ oNd w2 (r + 1) v C ∧ NdsAt w2 S 0 C ∧ (∀ k, S k → r < k ∧ k < w2.heap.size ∧ v.ownBlock ≠ some k) ∧ Came m left (enL C) ∧ C.length + cnt ≤ N ∧ IxAt w2 p mb N S0 m rv false ∧ Fr (fun _ => False) w w2) (fun _ w9 => w9.rangeLeft mb r) ?_ ?_
    · exact ⟨[], fun _ => False, .slice none 0 0, _, cnt, E.of ⟨E.get 0 rfl, E.get 5 rfl, E.get 11 rfl, E.get 12 rfl, trivial⟩, hr, ow_nil _, (fun c hc => by cases hc), (fun k hk => hk.elim), Came.start, by simpa using hcn, h, hf⟩
    clear E hr h hf hcn
    rintro a w2 ⟨C, S, v, left, cnt, E, hr, hO, hN, hS, hE, hcn, h, hf⟩
    rw [hr.left_eq]
    rcases hr.next 0 with ⟨hno, hrun⟩ | ⟨key, v9, wN, cnt2, hl9, hm9, ⟨l9, hk9⟩, hrun, hr2, hc9, f9, hent⟩
    · skip
      refine wp_seq ?_
      refine wp_region_lit ?_
      refine env_put (d := 16) (v := .tuple #[.bool false]) E rfl (by decide) rfl (wanted_none rfl _) (run_next hrun rfl (E.get 0 rfl)) fun a E => ?_
      refine env_put (d := 17) (v := .bool false) E rfl (by decide) rfl (wanted_none rfl _) (run_extA (v := .bool false) rfl rfl (E.get 0 rfl)) fun a E => ?_
      refine wpList_nil ?_
      refine then_n ?_
      refine wp_seq ?_
      refine wp_cond_false (E.get 0 rfl) ?_
      refine wp_exit ?_
      refine then_e ?_
      refine then_e ?_
      refine blk_e ?_
      refine then_n ?_
      refine wp_region_lit ?_
      refine env_put (d := 28) (v := .pointer (some ⟨p, 0, none⟩)) E rfl (by decide) rfl (wanted_none rfl _) (run_move rfl (E.get 5 rfl)) fun a E => ?_
      refine env_put (d := 29) (v := .pointer (some ⟨p, 0, none⟩)) E rfl (by decide) rfl (wanted_none rfl _) (run_move rfl (E.get 6 rfl)) fun a E => ?_
      refine env_put (d := 30) (v := v) E rfl (by decide) rfl (wanted_none rfl _) (run_move rfl (E.get 5 rfl)) fun a E => ?_
      refine env_callv (d := 31) (R := fun u w8 => PackP w2 S v C (.returned u) w8) E rfl (by decide) rfl (wanted_none rfl _) (run_call1 (enters_of Try.func47 (by kernel_rfl) rfl) rfl rfl (E.get 0 rfl)) ((pack_calls hO hN (fun k hk => ⟨(hS k hk).2.1, (hS k hk).2.2⟩) (by omega)).mono fun e w8 hh => by obtain ⟨u, h1, h2⟩ := hh; exact ⟨u, h1, u, rfl, h2⟩) fun a wp u9 hR E => ?_
      obtain ⟨rv2, hrv, fP, hcase⟩ := hR
      obtain rfl : u9 = rv2 := by injection hrv
      obtain ⟨rp, hrp⟩ : ∃ rp, u9 = .pointer rp := by
        rcases hcase with ⟨e, _⟩ | ⟨S5, n5, p5, b5, L5, e, _⟩
        · exact ⟨_, e⟩
        · exact ⟨_, e⟩
      rw [hrp] at E
      have hp9 := fP.obj h.hp (fun e => by have := (hO.lt e).1; omega)
      refine env_put (d := 32) (v := .pointer (some ⟨p, 0, none⟩)) E rfl (by decide) rfl (wanted_none rfl _) (run_nilchk rfl (E.get 3 rfl)) fun a E => ?_
      refine env_put (d := 33) (v := .pointer (some ⟨p, 1, none⟩)) E rfl (by decide) rfl (wanted_none rfl _) (fa61_1 rfl (E.get 0 rfl)) fun a E => ?_
      refine env_store E rfl (wanted_none rfl _) (run_st59 rfl (E.get 0 rfl) (E.get 2 rfl) (bx hp9 1 rfl) (free_of_blk hp9 1)) fun E => ?_
      have hp8 := blk_setCell_same (off := 1) hp9 (.pointer rp)
      have g1 : Fr (fun k => k = p) wp (wp.setCell ⟨p, 1, none⟩ (.pointer rp)) := (Fr.refl (fun k => k = p) wp).setCell (p := ⟨p, 1, none⟩) (fun _ => rfl) _
      generalize wp.setCell ⟨p, 1, none⟩ (.pointer rp) = wq at hp8 g1 ⊢
      refine env_put (d := 34) (v := .pointer (some ⟨p, 0, none⟩)) E rfl (by decide) rfl (wanted_none rfl _) (run_nilchk rfl (E.get 4 rfl)) fun a E => ?_
      refine env_put (d := 35) (v := .pointer (some ⟨p, 2, none⟩)) E rfl (by decide) rfl (wanted_none rfl _) (fa61_2 rfl (E.get 0 rfl)) fun a E => ?_
      refine env_store E rfl (wanted_none rfl _) (run_st4 rfl (E.get 0 rfl) rfl (bx hp8 2 rfl) (free_of_blk hp8 2)) fun E => ?_
      have hp7 := blk_setCell_same (off := 2) hp8 (.bool true)
      have g2 := g1.setCell (p := ⟨p, 2, none⟩) (fun _ => rfl) (.bool true)
      generalize wq.setCell ⟨p, 2, none⟩ (.bool true) = wz at hp7 g2 ⊢
      refine wpList_nil ?_
      refine then_n ?_
      refine wp_seq ?_
      have hrl9 := hr.lt
      have hmn := Came.ends hE hno
      have fO : Fr (fun _ => False) w wp := hf.trans' fP (fun r1 hr1 e => by have := (hO.lt e).1; omega)
      have hN9 : ∃ S9 : Nat → Prop, (∀ k, S9 k → k < wp.heap.size ∧ r < k) ∧ RootAt wp S9 (.pointer rp) m := by
        rcases hcase with ⟨e, e2⟩ | ⟨S5, n5, p5, b5, L5, e, hN5, hP5, hS5⟩
        · refine ⟨fun _ => False, fun _ h => h.elim, .inl ⟨by rw [← hrp, e], fun s => ?_⟩⟩
          cases hx : m s with
          | none => rfl
          | some c => have := (hmn.2 s c).2 hx; rw [e2] at this; cases this
        · refine ⟨S5, fun k hk => ⟨(hS5 k hk).1, ?_⟩, .inr ⟨n5, p5, b5, L5, by rw [← hrp, e], hN5, hmn.perm hP5⟩⟩
          rcases (hS5 k hk).2 with h9 | h9
          · exact (hS k h9).1
          · omega
      obtain ⟨S9, hS9, hRt⟩ := hN9
      have hm9 : MapN Try.prog 9 wz mb N (bxM m) := (h.hm.fr fP (fun e => by have := (hO.lt e).1; omega)).fr g2 (fun e => h.ne e.symm)
      have h := (⟨hp7, hm9, h.ne, fun hk => by have := (hS9 _ hk).2; omega, fun hk => by have := (hS9 _ hk).2; omega, fun k hk => Nat.lt_of_lt_of_le (hS9 k hk).1 g2.size, h.ok, ⟨_, rfl⟩, fun _ => hRt.fr g2 (fun k hk e => by have := (hS9 k hk).2; omega)⟩ : IxAt wz p mb N S9 m (.pointer rp) true)
      have hfz : Fr (fun k => k = p) w wz := (fO.mono fun _ _ h => h.elim).trans' g2 (fun _ _ e => e)
      refine wp_region_lit ?_
      refine env_put (d := 36) (v := .pointer (some ⟨p, 0, none⟩)) E rfl (by decide) rfl (wanted_none rfl _) (run_move rfl (E.get 13 rfl)) fun a E => ?_
      refine env_put (d := 37) (v := .pointer (some ⟨p, 0, none⟩)) E rfl (by decide) rfl (wanted_none rfl _) (run_nilchk rfl (E.get 0 rfl)) fun a E => ?_
      refine env_put (d := 38) (v := .pointer (some ⟨p, 1, none⟩)) E rfl (by decide) rfl (wanted_none rfl _) (fa61_1 rfl (E.get 0 rfl)) fun a E => ?_
      refine env_put (d := 39) (v := .pointer rp) E rfl (by decide) rfl (wanted_none rfl _) (run_ld59 rfl (E.get 0 rfl) (bx h.hp 1 rfl)) fun a E => ?_
      refine env_set (d := 2) (v := .pointer rp) E rfl (by decide) (wanted_none rfl _) (run_assign rfl (E.get 0 rfl)) fun a E => ?_
      refine wpList_nil ?_
      refine then_n ?_
      refine wp_ret ?_
      exact ret_tmp (t := 2) rfl E (E.get 0 rfl) ⟨S9, _, rfl, h, hfz, fun k hk => .inr (by have := (hS9 k hk).2; omega)⟩
    · skip
      obtain ⟨s9, rfl, hs9⟩ := key9_of hk9
      obtain ⟨bb, hms, rfl⟩ : ∃ bb, m s9 = some bb ∧ v9 = .agg (bxC bb) := by
        rw [bxM_str] at hm9
        cases hx : m s9 with
        | none => rw [hx] at hm9; cases hm9
        | some bb => rw [hx] at hm9; exact ⟨bb, rfl, (Option.some.inj hm9).symm⟩
      refine wp_seq ?_
      refine wp_region_lit ?_
      refine env_put (d := 16) (v := .tuple #[.bool true, .string s9, .agg (bxC bb)]) E rfl (by decide) rfl (wanted_none rfl _) (run_next hrun rfl (E.get 0 rfl)) fun a E => ?_
      have h := IxAt.fr h f9 (by have := hr2.lt; omega) (by have := hr2.lt; omega) (fun k hk e => by have := hσ k hk; omega)
      have hf := hf.trans' f9 (fun r hr e => by omega)
      have hO := hO.fr f9 (fun k hk e => by have := (hO.lt hk).1; omega)
      have hN := hN.fr f9 (fun k hk e => by have := (hS k hk).1; omega)
      have hS := fun k hk => (⟨(hS k hk).1, Nat.lt_of_lt_of_le (hS k hk).2.1 f9.size, (hS k hk).2.2⟩ : r < k ∧ k < wN.heap.size ∧ v.ownBlock ≠ some k)
      clear hrun
      refine env_put (d := 17) (v := .bool true) E rfl (by decide) rfl (wanted_none rfl _) (run_extA (v := .bool true) rfl rfl (E.get 0 rfl)) fun a E => ?_
      refine wpList_nil ?_
      refine then_n ?_
      refine wp_seq ?_
      refine wp_cond_true (E.get 0 rfl) ?_
      refine wp_skip ?_
      refine then_n ?_
      refine wp_block ?_
      refine wp_seq ?_
      have hrl9 := hr2.lt
      have hOo := fun k (hk : v.ownBlock = some k) => (hO.lt hk).2
      refine wp_region_lit ?_
      refine env_put (d := 18) (v := .tuple #[.string s9, .agg (bxC bb)]) E rfl (by decide) rfl (wanted_none rfl _) (run_entry hent rfl (E.get 2 rfl)) fun a E => ?_
      refine env_put (d := 19) (v := .string s9) E rfl (by decide) rfl (wanted_none rfl _) (run_extA (v := .string s9) rfl rfl (E.get 0 rfl)) fun a E => ?_
      refine env_put (d := 20) (v := .agg (bxC bb)) E rfl (by decide) rfl (wanted_none rfl _) (run_extA (v := .agg (bxC bb)) rfl rfl (E.get 1 rfl)) fun a E => ?_
      refine env_alloc26 (d := 5) E rfl (by decide) rfl (wanted_none rfl _) rfl fun a wa b5 eb5 hb5 f8 E => ?_
      refine env_put (d := 4) (v := .string s9) E rfl (by decide) rfl (wanted_none rfl _) (run_assign rfl (E.get 2 rfl)) fun a E => ?_
      refine env_st26 E rfl (wanted_none rfl _) rfl (E.get 1 rfl) (E.get 2 rfl) hb5 fun wb hb5 f1 E => ?_
      have f8 := f8.trans' f1 (fun r hr e => by omega)
      clear f1
      refine wpList_nil ?_
      refine then_n ?_
      refine wp_region_lit ?_
      refine env_put (d := 21) (v := v) E rfl (by decide) rfl (wanted_none rfl _) (run_move rfl (E.get 8 rfl)) fun a E => ?_
      refine env_put (d := 22) (v := .agg (bxC bb)) E rfl (by decide) rfl (wanted_none rfl _) (run_ld26 rfl (E.get 2 rfl) (rng4 (p := bb) hb5 0 rfl rfl rfl rfl)) fun a E => ?_
      refine env_put (d := 23) (v := .string s9) E rfl (by decide) rfl (wanted_none rfl _) (run_move rfl (E.get 2 rfl)) fun a E => ?_
      refine env_put (d := 24) (v := .agg (lfC bb s9)) E rfl (by decide) rfl (wanted_none rfl _) (run_leaf71 rfl (E.get 1 rfl) (E.get 0 rfl)) fun a E => ?_
      have hwz := lt_of_blk hb5
      refine env_put (d := 25) (v := .pointer (some ⟨wb.heap.size, 0, none⟩)) E rfl (by decide) rfl (wanted_none rfl _) (run_boxl71 rfl (E.get 0 rfl)) fun a E => ?_
      have f1 : Fr (fun _ => False) wb (wb.alloc (.cells (lfC bb s9) 71)) := (Fr.refl _ _).alloc _
      have hu : (wb.alloc (.cells (lfC bb s9) 71)).heap[wb.heap.size]? = some (.cells (lfC bb s9) 71 (0, 0)) := blk_alloc_new _ _
      obtain ⟨u, hue⟩ : ∃ u, u = wb.heap.size := ⟨_, rfl⟩
      obtain ⟨wu, hwu⟩ : ∃ wu, wu = wb.alloc (.cells (lfC bb s9) 71) := ⟨_, rfl⟩
      have hun : wN.heap.size ≤ u := by have := f8.size; omega
      rw [← hue] at E hu
      rw [← hwu] at f1 hu ⊢
      have f8 := f8.trans f1
      have hul := lt_of_blk hu
      clear f1 hwu
      refine env_one69 (c := (u, bb, [(s9, bb)])) (d := 26) E rfl (by decide) rfl (wanted_none rfl _) rfl (E.get 0 rfl) fun a w1 bo hso f3 E => ?_
      have f8 := f8.trans f3
      have hu := f3.obj hu id
      clear f3
      have hO := hO.fr f8 (fun _ _ h => h)
      have hws := f8.size
      refine env_app69 (B := r + 1) (d := 27) E rfl (by decide) rfl rfl rfl (E.get 5 rfl) hO (E.get 0 rfl) hso (fun h => by cases h) (by simp; omega) (by omega) fun a w3 v8 hO9 f4 hloc E => ?_
      refine env_set (d := 3) (v := v8) E rfl (by decide) (wanted_none rfl _) (run_assign rfl (E.get 0 rfl)) fun a E => ?_
      refine wpList_nil ?_
      refine blk_n ?_
      refine then_n ?_
      have hu1 := lt_of_blk hu
      have hO5 := hO
      have hr3 := (hr2.fr f8 id id).fr f4 (fun e => by have := (hO.lt e).1; omega) (fun e => by have := (hO.lt e).1; omega)
      have h := (IxAt.fr h f8 id id (fun _ _ h => h)).fr f4 (fun e => by have := (hO.lt e).1; omega) (fun e => by have := (hO.lt e).1; omega) (fun k hk e => by have := (hO.lt e).1; have := hσ k hk; omega)
      have hf := (hf.trans f8).trans' f4 (fun r1 hr1 e => by have := (hO.lt e).1; omega)
      have hu2 := f4.obj hu (fun e => by have := (hO.lt e).2; have := hOo _ e; omega)
      have hNn : NdsAt w3 (fun k => S k ∨ k = u) 0 (C ++ [(u, bb, [(s9, bb)])]) := by
        intro c hc
        rcases List.mem_append.1 hc with hc | hc
        · exact (((hN c hc).fr f8 (fun _ _ h => h)).fr f4 (fun k hk e => (hS k hk).2.2 e)).mono (fun k hk => .inl hk)
        · simp only [List.mem_singleton] at hc
          subst hc
          exact ⟨⟨.inr rfl, h.ok s9 bb hms⟩, s9, hu2, rfl⟩
      have hSn : ∀ k, (S k ∨ k = u) → r < k ∧ k < w3.heap.size ∧ v8.ownBlock ≠ some k := by
        intro k hk
        have hz4 := f4.size
        have hz8 := f8.size
        have hz9 := hu1
        rcases hk with hk | rfl
        · have h9 := hS k hk
          refine ⟨h9.1, by omega, fun e => ?_⟩
          rcases hloc with e2 | e2
          · rw [e2] at e; exact h9.2.2 e
          · rw [e2] at e; have := Option.some.inj e; omega
        · refine ⟨by omega, by omega, fun e => ?_⟩
          rcases hloc with e2 | e2
          · rw [e2] at e; have := hOo _ e; omega
          · rw [e2] at e; have := Option.some.inj e; omega
      have hEn : Came m (fun x => left x ∧ x ≠ .string s9) (enL (C ++ [(u, bb, [(s9, bb)])])) := by
        have := hE.next hl9 hms
        simpa [enL] using this
      refine ⟨⟨_, _, v8, _, cnt2, E.of ⟨E.get 15 rfl, E.get 0 rfl, E.get 16 rfl, E.get 17 rfl, trivial⟩, hr3, hO9, hNn, hSn, hEn, by simp; omega, h, hf⟩, ?_⟩
      rw [hr3.left_eq]; exact hc9
  | true =>
    rw [hq34] at E
    rw [hq34] at h
    refine wp_cond_false (E.get 0 rfl) ?_
    refine wp_skip ?_
    refine then_n ?_
    refine wp_seq ?_
    refine wp_region_lit ?_
    refine env_put (d := 36) (v := .pointer (some ⟨p, 0, none⟩)) E rfl (by decide) rfl (wanted_none rfl _) (run_move rfl (E.get 6 rfl)) fun a E => ?_
    refine env_put (d := 37) (v := .pointer (some ⟨p, 0, none⟩)) E rfl (by decide) rfl (wanted_none rfl _) (run_nilchk rfl (E.get 0 rfl)) fun a E => ?_
    refine env_put (d := 38) (v := .pointer (some ⟨p, 1, none⟩)) E rfl (by decide) rfl (wanted_none rfl _) (fa61_1 rfl (E.get 0 rfl)) fun a E => ?_
    refine env_put (d := 39) (v := rv) E rfl (by decide) rfl (wanted_none rfl _) (run_ld59 rfl (E.get 0 rfl) (bx h.hp 1 rfl)) fun a E => ?_
    refine env_set (d := 2) (v := rv) E rfl (by decide) (wanted_none rfl _) (run_assign rfl (E.get 0 rfl)) fun a E => ?_
    refine wpList_nil ?_
    refine then_n ?_
    refine wp_ret ?_
    exact ret_tmp (t := 2) rfl E (E.get 0 rfl) ⟨S0, rv, rfl, h, hf.mono fun _ _ h => h.elim, fun k hk => .inl hk⟩
end Go.Proofs.Ytcafnanbdmapgaa
