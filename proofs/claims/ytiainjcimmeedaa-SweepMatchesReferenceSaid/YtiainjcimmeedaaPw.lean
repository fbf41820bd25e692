/- Plain laws on what the sweep hands back: of a beginning, of moved segments, of the list turned round. -/
import Derived.Test.YtiainjcimmeedaaKd
set_option linter.unusedVariables false
set_option linter.unusedSimpArgs false
namespace Go.Proofs.Ytiainjcimmeedaa
open Go.RowKit Go.Pl Go.Geo

def mkM (i j : Nat) (k : Int) : Mt := ⟨Fin.ofNat 20000 i, Fin.ofNat 20000 j, k⟩
def hm (l : List Sg) (i j : Nat) : List Mt := match l[i]?, l[j]? with
  | some s, some t => if i < j ∧ meetsN s t ≠ 0 then [mkM i j (meetsN s t)] else []
  | _, _ => []
theorem hm_ge {l : List Sg} {i j : Nat} (h : l.length ≤ i ∨ l.length ≤ j) : hm l i j = [] := by
  unfold hm
  rcases h with h | h
  · rw [List.getElem?_eq_none h]
  · rw [List.getElem?_eq_none h]; split <;> simp_all
theorem hit_hm (l : List Sg) (i j : Nat) : (Swp.hitS (kAt l) i j).map (mtAt l) = hm l i j := by
  unfold Swp.hitS
  split
  · rename_i h
    have hs := List.getElem?_eq_getElem h.1
    have ht := List.getElem?_eq_getElem h.2
    unfold hm
    rw [hs, ht]
    have e : kAt l ⟨i, h.1⟩ ⟨j, h.2⟩ = meetsN l[i] l[j] := rfl
    rw [e]
    by_cases hc : i < j ∧ meetsN l[i] l[j] ≠ 0
    · simp only [if_pos hc]; rfl
    · simp only [if_neg hc]; rfl
  · rename_i h
    rw [hm_ge (by omega)]; rfl
theorem flat_ext {α : Type} {f : Nat → List α} {n : Nat} (h : ∀ k, n ≤ k → f k = []) : ∀ {N : Nat}, n ≤ N → (List.range N).flatMap f = (List.range n).flatMap f := by
  intro N hN
  obtain ⟨d, rfl⟩ : ∃ d, N = n + d := ⟨N - n, by omega⟩
  induction d with
  | zero => rfl
  | succ d ih => rw [show n + (d + 1) = (n + d) + 1 from rfl, List.range_succ, List.flatMap_append, ih (by omega)]; simp [h (n + d) (by omega)]
theorem flat_nil {α β : Type} {f : α → List β} : ∀ {l : List α}, (∀ x ∈ l, f x = []) → l.flatMap f = []
  | [], _ => rfl
  | x :: l, h => by rw [List.flatMap_cons, h x (by simp), flat_nil (fun y hy => h y (by simp [hy]))]; rfl
theorem outL_nat (l : List Sg) {N : Nat} (hN : l.length ≤ N) : outL l = (List.range N).flatMap fun i => (List.range N).flatMap (hm l i) := by
  have h0 : outL l = (List.range l.length).flatMap fun i => (List.range l.length).flatMap (hm l i) := by
    unfold outL
    rw [Swp.spec_pre]
    unfold Swp.preS
    rw [Swp.rowS_zero, List.append_nil, List.map_flatMap]
    congr 1
    funext i
    unfold Swp.rowS
    rw [List.map_flatMap]
    congr 1
    funext j
    exact hit_hm l i j
  rw [h0, flat_ext (n := l.length) (fun k hk => flat_nil fun j _ => hm_ge (.inl hk)) hN]
  congr 1
  funext i
  rw [flat_ext (n := l.length) (fun j hj => hm_ge (.inr hj)) hN]
theorem filter_flat {α β : Type} {p : β → Bool} {f : α → List β} : ∀ {l : List α}, (l.flatMap f).filter p = l.flatMap fun x => (f x).filter p
  | [] => rfl
  | x :: l => by rw [List.flatMap_cons, List.flatMap_cons, List.filter_append, filter_flat]
theorem outL_take (l : List Sg) (hl : l.length ≤ 20000) (n : Nat) : (outL l).filter (fun m => decide ((m.b.val : Int) < n)) = outL (l.take n) := by
  rw [outL_nat l (Nat.le_refl _), outL_nat (l.take n) (N := l.length) (by simp; omega), filter_flat]
  congr 1
  funext i
  rw [filter_flat]
  congr 1
  funext j
  unfold hm
  rw [List.getElem?_take, List.getElem?_take]
  cases hs : l[i]? with
  | none => simp
  | some s =>
    cases ht : l[j]? with
    | none => by_cases h1 : i < n <;> by_cases h2 : j < n <;> simp [h1, h2]
    | some t =>
      have hj := (List.getElem?_eq_some_iff.1 ht).1
      have e : (mkM i j (meetsN s t)).b.val = j := Nat.mod_eq_of_lt (by omega)
      by_cases hc : i < j ∧ meetsN s t ≠ 0
      · by_cases h2 : j < n
        · have h1 : i < n := by omega
          simp only [h1, h2, if_true, hc, and_self, ne_eq, not_false_eq_true]
          rw [List.filter_cons_of_pos (by rw [e]; simpa using h2)]; rfl
        · simp only [hc, h2, if_true, if_false, and_self, ne_eq, not_false_eq_true]
          rw [List.filter_cons_of_neg (by rw [e]; simpa using h2)]
          by_cases h1 : i < n <;> simp [h1]
      · simp only [if_neg hc]
        by_cases h1 : i < n <;> by_cases h2 : j < n <;> simp [h1, h2, hc]
theorem outL_congr {l l' : List Sg} (hl : l.length = l'.length) (h : ∀ (i j : Nat) (s t s' t' : Sg), l[i]? = some s → l[j]? = some t → l'[i]? = some s' → l'[j]? = some t' → meetsN s t = meetsN s' t') : outL l = outL l' := by
  rw [outL_nat l (Nat.le_refl _), outL_nat l' (N := l.length) (by omega)]
  congr 1
  funext i
  congr 1
  funext j
  unfold hm
  cases hs : l[i]? with
  | none =>
    have hs' : l'[i]? = none := List.getElem?_eq_none (by rw [← hl]; exact List.getElem?_eq_none_iff.1 hs)
    rw [hs']
  | some s =>
    have hi := (List.getElem?_eq_some_iff.1 hs).1
    obtain ⟨s', hs'⟩ : ∃ s', l'[i]? = some s' := ⟨_, List.getElem?_eq_getElem (by omega)⟩
    rw [hs']
    cases ht : l[j]? with
    | none =>
      have ht' : l'[j]? = none := List.getElem?_eq_none (by rw [← hl]; exact List.getElem?_eq_none_iff.1 ht)
      rw [ht']
    | some t =>
      have hj := (List.getElem?_eq_some_iff.1 ht).1
      obtain ⟨t', ht'⟩ : ∃ t', l'[j]? = some t' := ⟨_, List.getElem?_eq_getElem (by omega)⟩
      rw [ht']
      simp only
      rw [h i j s t s' t' hs ht hs' ht']
theorem mem_outL {l : List Sg} {m : Mt} : m ∈ outL l ↔ ∃ i j s t, l[i]? = some s ∧ l[j]? = some t ∧ i < j ∧ meetsN s t ≠ 0 ∧ m = mkM i j (meetsN s t) := by
  rw [outL_nat l (Nat.le_refl _)]
  simp only [List.mem_flatMap, List.mem_range]
  constructor
  · rintro ⟨i, hi, j, hj, h⟩
    unfold hm at h
    rw [List.getElem?_eq_getElem hi, List.getElem?_eq_getElem hj] at h
    simp only at h
    split at h
    · rename_i hc
      exact ⟨i, j, _, _, List.getElem?_eq_getElem hi, List.getElem?_eq_getElem hj, hc.1, hc.2, by simpa using h⟩
    · cases h
  · rintro ⟨i, j, s, t, hs, ht, hij, hk, rfl⟩
    refine ⟨i, (List.getElem?_eq_some_iff.1 hs).1, j, (List.getElem?_eq_some_iff.1 ht).1, ?_⟩
    unfold hm
    rw [hs, ht]
    simp [hij, hk]
theorem mkM_a {i j : Nat} {k : Int} (h : i < 20000) : (mkM i j k).a.val = i := Nat.mod_eq_of_lt h
theorem mkM_b {i j : Nat} {k : Int} (h : j < 20000) : (mkM i j k).b.val = j := Nat.mod_eq_of_lt h
theorem outL_nodup {l : List Sg} (hl : l.length ≤ 20000) : (outL l).Nodup := by
  unfold outL
  refine List.Pairwise.map _ ?_ Swp.spec_sorted
  intro x y h e
  have ha := congrArg (fun m : Mt => (m.a.val : Int)) e
  have hb := congrArg (fun m : Mt => (m.b.val : Int)) e
  rw [mtAt_a hl, mtAt_a hl] at ha
  rw [mtAt_b hl, mtAt_b hl] at hb
  have hxy : x = y := by
    obtain ⟨x1, x2⟩ := x
    obtain ⟨y1, y2⟩ := y
    simp only at ha hb
    rw [Prod.mk.injEq]
    exact ⟨Fin.ext (by omega), Fin.ext (by omega)⟩
  subst hxy
  exact absurd h (by rw [Swp.lt2_asymm h]; simp)
theorem len_le_of_inj {α : Type} [DecidableEq α] {f : α → α} : ∀ {L L' : List α}, L.Nodup → (∀ x ∈ L, f x ∈ L') → (∀ x ∈ L, ∀ y ∈ L, f x = f y → x = y) → L.length ≤ L'.length
  | [], _, _, _, _ => Nat.zero_le _
  | x :: L, L', hn, hm, hi => by
    have h1 : f x ∈ L' := hm x (by simp)
    have hn' := List.nodup_cons.1 hn
    have := len_le_of_inj (L := L) (L' := L'.erase (f x)) hn'.2 (fun y hy => by
      refine (List.mem_erase_of_ne ?_).2 (hm y (by simp [hy]))
      intro e
      have := hi y (by simp [hy]) x (by simp) e
      subst this; exact hn'.1 hy) (fun y hy z hz => hi y (by simp [hy]) z (by simp [hz]))
    rw [List.length_erase_of_mem h1] at this
    have := List.length_pos_of_mem h1
    simp only [List.length_cons]; omega
/-- The list turned round, ends exchanged. -/
def turn (l : List Sg) : List Sg := l.reverse.map fun s => (s.2, s.1)
theorem turn_len (l : List Sg) : (turn l).length = l.length := by simp [turn]
theorem turn_turn (l : List Sg) : turn (turn l) = l := by
  unfold turn
  rw [← List.map_reverse, List.reverse_reverse, List.map_map]
  exact List.map_id _
theorem turn_at {l : List Sg} {i : Nat} {s : Sg} (h : l[i]? = some s) : (turn l)[l.length - 1 - i]? = some (s.2, s.1) := by
  have hi := (List.getElem?_eq_some_iff.1 h).1
  unfold turn
  rw [List.getElem?_map, List.getElem?_reverse (by omega), show l.length - 1 - (l.length - 1 - i) = i by omega, h]; rfl
theorem meetsN_swap (s t : Sg) : meetsN (t.2, t.1) (s.2, s.1) = meetsN s t := by
  rw [meetsN_comm]
  unfold meetsN
  rw [meetsF_eq, meetsF_eq]
  have e : kindR (s.2, s.1) (t.2, t.1) = kindR s t := by rw [kindR_swap, kindR_comm, kindR_swap, kindR_comm]
  rw [e]
  have hiff : (∀ p ∈ [s.2, s.1, t.2, t.1], nearP p) ↔ (∀ p ∈ [s.1, s.2, t.1, t.2], nearP p) := by
    constructor <;> (intro h p hp; simp only [List.mem_cons, List.not_mem_nil, or_false] at hp; apply h; rcases hp with hp | hp | hp | hp <;> simp [hp])
  by_cases h : ∀ p ∈ [s.1, s.2, t.1, t.2], nearP p
  · rw [if_pos h, if_pos (hiff.2 h)]
  · rw [if_neg h, if_neg (fun h2 => h (hiff.1 h2))]
def flipM (n : Nat) (m : Mt) : Mt := mkM (n - 1 - m.b.val) (n - 1 - m.a.val) m.k
theorem flip_mem {l : List Sg} (hl : l.length ≤ 20000) {m : Mt} (h : m ∈ outL l) : flipM l.length m ∈ outL (turn l) := by
  obtain ⟨i, j, s, t, hs, ht, hij, hk, rfl⟩ := mem_outL.1 h
  have hi := (List.getElem?_eq_some_iff.1 hs).1
  have hj := (List.getElem?_eq_some_iff.1 ht).1
  refine mem_outL.2 ⟨l.length - 1 - j, l.length - 1 - i, _, _, turn_at ht, turn_at hs, by omega, by rw [meetsN_swap]; exact hk, ?_⟩
  rw [meetsN_swap]
  unfold flipM
  rw [mkM_a (by omega), mkM_b (by omega)]; rfl
theorem out_lt {l : List Sg} (hl : l.length ≤ 20000) {m : Mt} (h : m ∈ outL l) : m.a.val < m.b.val ∧ m.b.val < l.length := by
  obtain ⟨i, j, s, t, hs, ht, hij, hk, rfl⟩ := mem_outL.1 h
  have hi := (List.getElem?_eq_some_iff.1 hs).1
  have hj := (List.getElem?_eq_some_iff.1 ht).1
  rw [mkM_a (by omega), mkM_b (by omega)]; exact ⟨hij, hj⟩
theorem turn_le {l : List Sg} (hl : l.length ≤ 20000) : (outL l).length ≤ (outL (turn l)).length := by
  refine len_le_of_inj (f := flipM l.length) (outL_nodup hl) (fun x hx => flip_mem hl hx) ?_
  intro x hx y hy e
  have h1 := out_lt hl hx
  have h2 := out_lt hl hy
  have ha := congrArg (fun m : Mt => m.a.val) e
  have hb := congrArg (fun m : Mt => m.b.val) e
  have hk := congrArg (fun m : Mt => m.k) e
  simp only [flipM] at ha hb hk
  rw [mkM_a (by omega), mkM_a (by omega)] at ha
  rw [mkM_b (by omega), mkM_b (by omega)] at hb
  obtain ⟨xa, xb, xk⟩ := x
  obtain ⟨ya, yb, yk⟩ := y
  simp only at h1 h2 ha hb
  have e1 : xa = ya := Fin.ext (by omega)
  have e2 : xb = yb := Fin.ext (by omega)
  have e3 : xk = yk := hk
  rw [e1, e2, e3]
theorem turn_out_len {l : List Sg} (hl : l.length ≤ 20000) : (outL (turn l)).length = (outL l).length := by
  have h1 := turn_le hl
  have h2 := turn_le (l := turn l) (by rw [turn_len]; exact hl)
  rw [turn_turn] at h2
  omega
theorem kind_turn {l : List Sg} (hl : l.length ≤ 20000) {m : Mt} (h : m ∈ outL l) : kindL (outL (turn l)) ((l.length : Int) - 1 - m.a.val) ((l.length : Int) - 1 - m.b.val) = m.k := by
  have hlt := out_lt hl h
  have hf := flip_mem hl h
  have e1 : min ((l.length : Int) - 1 - m.a.val) ((l.length : Int) - 1 - m.b.val) = ((l.length - 1 - m.b.val : Nat) : Int) := by omega
  have e2 : max ((l.length : Int) - 1 - m.a.val) ((l.length : Int) - 1 - m.b.val) = ((l.length - 1 - m.a.val : Nat) : Int) := by omega
  have hh : hasK (flipM l.length m) ((l.length : Int) - 1 - m.a.val) ((l.length : Int) - 1 - m.b.val) = true := by
    unfold hasK flipM
    rw [mkM_a (by omega), mkM_b (by omega), e1, e2]; simp
  unfold kindL
  cases hfi : (outL (turn l)).find? (fun m' => hasK m' ((l.length : Int) - 1 - m.a.val) ((l.length : Int) - 1 - m.b.val)) with
  | none =>
    have := List.find?_eq_none.1 hfi _ hf
    exact absurd hh this
  | some m' =>
    have h3 := List.find?_some hfi
    have h4 := List.mem_of_find?_eq_some hfi
    obtain ⟨i, j, s, t, hs, ht, hij, hk, rfl⟩ := mem_outL.1 h4
    obtain ⟨i2, j2, s2, t2, hs2, ht2, hij2, hk2, he⟩ := mem_outL.1 hf
    have hb := turn_len l
    have hi := (List.getElem?_eq_some_iff.1 hs).1
    have hj := (List.getElem?_eq_some_iff.1 ht).1
    have hi2 := (List.getElem?_eq_some_iff.1 hs2).1
    have hj2 := (List.getElem?_eq_some_iff.1 ht2).1
    rw [he] at hh
    unfold hasK at h3 hh
    rw [mkM_a (by omega), mkM_b (by omega)] at h3 hh
    simp only [Bool.and_eq_true, beq_iff_eq] at h3 hh
    have ei : i = i2 := by omega
    have ej : j = j2 := by omega
    subst ei; subst ej
    rw [hs] at hs2; rw [ht] at ht2
    obtain rfl := Option.some.inj hs2
    obtain rfl := Option.some.inj ht2
    have : (flipM l.length m).k = meetsN s t := by rw [he]; rfl
    show meetsN s t = m.k
    rw [← this]; rfl
end Go.Proofs.Ytiainjcimmeedaa
