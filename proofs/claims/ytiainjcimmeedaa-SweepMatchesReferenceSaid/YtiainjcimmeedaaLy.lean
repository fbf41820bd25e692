/- What the laws SweepLimit and SweepMoved stand on, in plain words; two segments appended at once. -/
import Derived.Test.YtiainjcimmeedaaParts
set_option linter.unusedVariables false
set_option linter.unusedSimpArgs false
namespace Go.Proofs.Ytiainjcimmeedaa
open Go.RowKit Go.Pl Go.Geo

def sgAt (i : Nat) : Sg := ((100 * (i : Int) - 1000000, 10), (100 * (i : Int) - 1000000 + 50, 20 + (i : Int) % 7))
def sgA : Sg := ((-1000000, 0), (1000000, 5))
def sgZ : Sg := ((-1000000, 5), (1000000, 0))
def bigL (n : Nat) : List Sg := (List.range (n - 2)).map sgAt ++ [sgA, sgZ]
theorem bigL_len {n : Nat} (h : 2 ≤ n) : (bigL n).length = n := by simp [bigL]; omega
theorem bigL_at {n i : Nat} (h : i < n - 2) : (bigL n)[i]? = some (sgAt i) := by
  unfold bigL
  rw [List.getElem?_append_left (by simpa using h), List.getElem?_map, List.getElem?_range h]; rfl
theorem bigL_a {n : Nat} (h : 2 ≤ n) : (bigL n)[n - 2]? = some sgA := by
  unfold bigL
  rw [List.getElem?_append_right (by simp)]; simp
theorem bigL_z {n : Nat} (h : 2 ≤ n) : (bigL n)[n - 1]? = some sgZ := by
  unfold bigL
  rw [List.getElem?_append_right (by simp; omega)]
  simp [show n - 1 - (n - 2) = 1 by omega]
theorem meets_apart_x {s t : Sg} (h : max s.1.1 s.2.1 < min t.1.1 t.2.1) : meetsN s t = 0 := by
  rw [meetsN_comm]
  have h0 : kindR t s = 0 := by rw [kindR_comm]; exact apart_x h
  unfold meetsN; rw [meetsF_eq, h0]; split <;> rfl
theorem meets_apart_y {s t : Sg} (h : max t.1.2 t.2.2 < min s.1.2 s.2.2) : meetsN s t = 0 := by
  have h0 : kindR s t = 0 := by rw [kindR_comm]; exact apart_y h
  unfold meetsN; rw [meetsF_eq, h0]; split <;> rfl
theorem meets_az : meetsN sgA sgZ = 3 := by decide +kernel
theorem big_out {n : Nat} (h : 2 ≤ n) (hn : n ≤ 20000) : outL (bigL n) = [mkM (n - 2) (n - 1) 3] := by
  have hlen := bigL_len h
  have hall : ∀ m ∈ outL (bigL n), m = mkM (n - 2) (n - 1) 3 := by
    intro m hm
    obtain ⟨i, j, s, t, hs, ht, hij, hk, rfl⟩ := mem_outL.1 hm
    have hi := (List.getElem?_eq_some_iff.1 hs).1
    have hj := (List.getElem?_eq_some_iff.1 ht).1
    rw [hlen] at hi hj
    by_cases h1 : i < n - 2
    · rw [bigL_at h1] at hs
      obtain rfl := Option.some.inj hs
      exfalso
      by_cases h2 : j < n - 2
      · rw [bigL_at h2] at ht
        obtain rfl := Option.some.inj ht
        exact hk (meets_apart_x (by simp only [sgAt]; omega))
      · by_cases h3 : j = n - 2
        · subst h3
          rw [bigL_a h] at ht
          obtain rfl := Option.some.inj ht
          exact hk (meets_apart_y (by simp only [sgAt, sgA]; omega))
        · obtain rfl : j = n - 1 := by omega
          rw [bigL_z h] at ht
          obtain rfl := Option.some.inj ht
          exact hk (meets_apart_y (by simp only [sgAt, sgZ]; omega))
    · obtain rfl : i = n - 2 := by omega
      obtain rfl : j = n - 1 := by omega
      rw [bigL_a h] at hs; rw [bigL_z h] at ht
      obtain rfl := Option.some.inj hs
      obtain rfl := Option.some.inj ht
      rw [meets_az]
  have hmem : mkM (n - 2) (n - 1) 3 ∈ outL (bigL n) := mem_outL.2 ⟨n - 2, n - 1, _, _, bigL_a h, bigL_z h, by omega, by rw [meets_az]; decide, by rw [meets_az]⟩
  have hnd := outL_nodup (l := bigL n) (by rw [hlen]; exact hn)
  generalize outL (bigL n) = L at *
  match L, hall, hmem, hnd with
  | [], _, hmem, _ => cases hmem
  | [x], hall, _, _ => rw [hall x (by simp)]
  | x :: y :: L, hall, _, hnd =>
    have h1 := hall x (by simp)
    have h2 := hall y (by simp)
    rw [h1, h2] at hnd
    simp at hnd

theorem out_moved {l : List Sg} {v : Pt} (h : ∀ (t : Nat) (s : Sg), l[t]? = some s → nearS s ∧ nearS (mvS v s)) : outL (l.map (mvS v)) = outL l := by
  refine outL_congr (by simp) ?_
  intro i j s t s' t' hs ht hs' ht'
  rw [List.getElem?_map] at hs ht
  rw [hs'] at hs; rw [ht'] at ht
  obtain rfl := Option.some.inj hs
  obtain rfl := Option.some.inj ht
  obtain ⟨⟨a1, a2⟩, a3, a4⟩ := h i s' hs'
  obtain ⟨⟨b1, b2⟩, b3, b4⟩ := h j t' ht'
  unfold meetsN
  rw [meetsF_eq, meetsF_eq, kindR_mv, if_pos, if_pos]
  · intro p hp; simp only [List.mem_cons, List.not_mem_nil, or_false] at hp; rcases hp with rfl | rfl | rfl | rfl <;> assumption
  · intro p hp; simp only [List.mem_cons, List.not_mem_nil, or_false] at hp; rcases hp with rfl | rfl | rfl | rfl <;> assumption
theorem ptB.rng {w : World} {b : Nat} {p : Pt} (h : ptB w b p) : w.rangeAt b 0 (ptC p).toList := by
  intro j v hv
  rw [cell_of_blk h, Nat.zero_add]; simpa using hv
section
variable {O : Array Oper} {Q : Exit → Act → World → Prop} {rest : List Oper} {o : Oper} {a : Act} {w : World} {n d : Nat} {L : List (Nat × Value)} {x y z : Operand} {b : Nat}
def sg2B (w : World) (b : Nat) (s t : Sg) : Prop := w.heap[b]? = some (.cells ((sgC s).toList ++ (sgC t).toList).toArray 34 (0, 0))
theorem run_two34 {ρ : Operand → Value} {s t : Sg} (ho : o.op = .buildSlice 22 2 #[(0, x), (1, y)]) (h1 : ρ x = .agg (sgC s)) (h2 : ρ y = .agg (sgC t)) : (execOp ρ o).run Try.prog w = .ok (.value (.slice (some ⟨w.heap.size, 0, none⟩) 2 2)) (w.alloc (.cells ((sgC s).toList ++ (sgC t).toList).toArray 34)) := by
  simp [execOp, ho, h1, h2, go_sem]
theorem env_two34 {s t : Sg} (E : Env n L a) (hd : o.dst = some d) (hn : d < n) (hf : (L.map (·.1)).contains d = false) (hw : Region.wanted o (yielded O a.tmps) = true) (ho : o.op = .buildSlice 22 2 #[(0, x), (1, y)]) (hx : a.eval x = .agg (sgC s)) (hy : a.eval y = .agg (sgC t))
    (k : ∀ a' w' b, w.heap.size = b → sg2B w' b s t → Fr (fun _ => False) w w' → Env n ((d, .slice (some ⟨b, 0, none⟩) 2 2) :: L) a' → wpList Try.prog O Q rest a' w') : wpList Try.prog O Q (o :: rest) a w :=
  env_put E hd hn hf hw (run_two34 ho hx hy) fun a' E' => k a' _ _ rfl (blk_alloc_new _ _) ((Fr.refl _ _).alloc _) E'
theorem env_app34t {B : Nat} {v : Value} {A : List Sg} {s t : Sg} (E : Env n L a) (hd : o.dst = some d) (hn : d < n) (hf : (L.map (·.1)).contains d = false) (hg : o.guard = none) (ho : o.op = .call { callee := .builtin .append, args := #[x, y], argTypes := #[22, 22] }) (hx : a.eval x = v) (hv : oS w B v A) (hy : a.eval y = .slice (some ⟨b, 0, none⟩) 2 2) (hb : sg2B w b s t) (hl : A.length ≤ 400000000) (hB : B ≤ w.heap.size)
    (k : ∀ a' w' v', oS w' B v' (A ++ [s, t]) → Fr (fun k => v.ownBlock = some k) w w' → (v'.ownBlock = v.ownBlock ∨ v'.ownBlock = some w.heap.size) → Env n ((d, v') :: L) a' → wpList Try.prog O Q rest a' w') : wpList Try.prog O Q (o :: rest) a w := by
  obtain ⟨i, hi, hz, h1, h2⟩ := parts_of inf34
  refine wpList_append_own_at w hg _ _ 22 ho B 34 i _ 4 32 Try.underlying22 hi hz h1 h2 rfl (by decide) v A.length _ hx hv ⟨b, 0, none⟩ 2 2 ((sgC s).toList ++ (sgC t).toList) hy rfl (fun j u hu => ?_) (fun u hu => ?_) (by unfold maxLen; omega) (by omega) hB fun v' w' c1 c2 c3 c4 => ?_
  · rw [show (⟨b, 0, none⟩ : Addr).add j = ⟨b, j, none⟩ by simp [Addr.add]; exact fun h => h.symm, cell_of_blk hb]; simpa using hu
  · simp only [List.mem_append, List.mem_cons, List.not_mem_nil, or_false] at hu
    rcases hu with (rfl | rfl | rfl | rfl) | (rfl | rfl | rfl | rfl) <;> rfl
  · rw [hd]
    refine k _ w' v' ?_ ((Fr.refl _ _).grown c2 fun k hk _ => hk) c4 (E.put hn hf)
    unfold oS
    rw [List.length_append, List.flatMap_append]
    simpa using c1
end
end Go.Proofs.Ytiainjcimmeedaa
