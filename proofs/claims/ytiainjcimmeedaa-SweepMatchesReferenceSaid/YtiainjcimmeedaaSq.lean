/- What sweep.All calls on its rows; what it hands back. -/
import Derived.Test.YtiainjcimmeedaaSp
import Derived.Test.YtiainjcimmeedaaSw
set_option linter.unusedVariables false
set_option linter.unusedSimpArgs false
namespace Go.Proofs.Ytiainjcimmeedaa
open Go.RowKit Go.Pl Go.Geo Go.Sort

section
variable (l : List Sg)
def itAt (i : Fin l.length) : It := ⟨Fin.ofNat 20000 i.val, l[i]⟩
def kAt (i j : Fin l.length) : Int := meetsN l[i] l[j]
def yAt (i j : Fin l.length) : Bool := bdM ((itAt l i).yl, (itAt l i).yh) ((itAt l j).yl, (itAt l j).yh)
def mtAt (x : Fin l.length × Fin l.length) : Mt := ⟨Fin.ofNat 20000 x.1.val, Fin.ofNat 20000 x.2.val, kAt l x.1 x.2⟩
/-- What sweep.All hands back. -/
def outL : List Mt := (Swp.spec (kAt l)).map (mtAt l)
variable {l}
theorem itAt_n (hn : l.length ≤ 20000) (i : Fin l.length) : (itAt l i).n = (i.val : Int) := by
  have := i.isLt
  show ((i.val % 20000 : Nat) : Int) = _
  rw [Nat.mod_eq_of_lt (by omega)]

theorem rowB.laid {w : World} {g cap : Nat} {α : Type} {f : α → It} {L : List α} (h : rowB w g cap (L.map f)) : ∃ cur, w.heap[g]? = some (.cells cur 49 (0, 0)) ∧ cur.size = cap * 9 ∧ L.length ≤ cap ∧ cap ≤ maxLen ∧ laid (fun x => itC (f x)) 9 cur L := by
  obtain ⟨cur, h1, h2, h3, h4, h5⟩ := h
  exact ⟨cur, h1, h2, by simpa using h3, h4, fun t x hx j u hu => h5 t (f x) (by rw [List.getElem?_map, hx]; rfl) j u hu⟩
theorem rowB.of_laid {w : World} {g cap : Nat} {α : Type} {f : α → It} {L : List α} {cur : Array Value} (h1 : w.heap[g]? = some (.cells cur 49 (0, 0))) (h2 : cur.size = cap * 9) (h3 : L.length ≤ cap) (h4 : cap ≤ maxLen) (h5 : Ytiainjcimmeedaa.laid (fun x => itC (f x)) 9 cur L) : rowB w g cap (L.map f) := by
  refine ⟨cur, h1, h2, by simpa using h3, h4, fun t y hy j u hu => ?_⟩
  rw [List.getElem?_map] at hy
  cases hx : L[t]? with
  | none => rw [hx] at hy; cases hy
  | some x => rw [hx] at hy; cases hy; exact h5 t x hx j u hu

theorem sortI_row (hn : l.length ≤ 20000) {g : Nat} {w : World} (hr : rowB w g l.length ((List.finRange l.length).map (itAt l))) :
    Calls Try.prog 19 #[.slice (some ⟨g, 0, none⟩) l.length l.length, .func (.func 20) #[] #[]] w fun e w' => e = .returned (.tuple #[]) ∧ ∃ I : List (Fin l.length), I.Perm (List.finRange l.length) ∧ I.Pairwise (fun x y => (itAt l x).xl ≤ (itAt l y).xl) ∧ rowB w' g l.length (I.map (itAt l)) ∧ Fr (fun k => k = g) w w' := by
  by_cases h0 : l.length = 0
  · have hx : List.finRange l.length = [] := List.eq_nil_of_length_eq_zero (by simpa using h0)
    have h : ∀ k, k = 0 → Calls Try.prog 19 #[.slice (some ⟨g, 0, none⟩) k l.length, .func (.func 20) #[] #[]] w fun e w' => e = .returned (.tuple #[]) ∧ w' = w := fun k hk => by subst hk; exact sortI_none _ _ w
    refine (h _ h0).mono ?_
    rintro e w' ⟨rfl, rfl⟩
    exact ⟨rfl, List.finRange l.length, .refl _, by rw [hx]; exact .nil, hr, Fr.refl _ _⟩
  · haveI : Inhabited (Fin l.length) := ⟨⟨0, by omega⟩⟩
    obtain ⟨cur, h1, h2, h3, h4, h5⟩ := hr.laid
    have h := sortI_calls (itAt l) (List.finRange l.length) (cap := l.length) h1 (by rw [h2]; simp) (by simpa using hn) h5
    rw [List.length_finRange] at h
    refine h.mono ?_
    rintro e w' ⟨rfl, L', cur', c1, c2, c3, c4, c5, c6⟩
    exact ⟨rfl, L', c1, c2, rowB.of_laid c3 (c4.trans h2) (by rw [c1.length_eq]; exact h3) h4 c5, c6⟩

theorem mtC_len (x : Mt) : (mtC x).length = 3 := rfl
theorem own_laid {w : World} {B : Nat} {v : Value} {α : Type} {f : α → Mt} {L : List α} (h : w.ownsRow B 36 3 v L.length ((L.map f).flatMap mtC)) : (v = .slice none 0 0 ∧ L = []) ∨ ∃ g cap cur, v = .slice (some ⟨g, 0, none⟩) L.length cap ∧ B ≤ g ∧ w.heap[g]? = some (.cells cur 36 (0, 0)) ∧ cur.size = cap * 3 ∧ L.length ≤ cap ∧ cap ≤ maxLen ∧ laid (fun x => mtC (f x)) 3 cur L := by
  rcases h.2 with ⟨h1, h2⟩ | ⟨g, cap, cur, h1, hB, h2, h3, h4, h5, h6⟩
  · exact .inl ⟨h1, List.eq_nil_of_length_eq_zero h2⟩
  · refine .inr ⟨g, cap, cur, h1, hB, h2, h5, h3, h4, fun t x hx c u hu => ?_⟩
    have ht := (List.getElem?_eq_some_iff.1 hx).1
    have hc : c < 3 := by rw [← mtC_len (f x)]; exact (List.getElem?_eq_some_iff.1 hu).1
    have := flat_at mtC_len (L.map f) t (f x) (by rw [List.getElem?_map, hx]; rfl) c hc
    rw [hu, ← h6, List.getElem?_take_of_lt (by omega), Array.getElem?_toList] at this
    exact this
theorem laid_own {w : World} {B g cap : Nat} {α : Type} {f : α → Mt} {L : List α} {cur : Array Value} (hB : B ≤ g) (h1 : w.heap[g]? = some (.cells cur 36 (0, 0))) (h2 : cur.size = cap * 3) (h3 : L.length ≤ cap) (h4 : cap ≤ maxLen) (h5 : laid (fun x => mtC (f x)) 3 cur L) : w.ownsRow B 36 3 (.slice (some ⟨g, 0, none⟩) L.length cap) L.length ((L.map f).flatMap mtC) := by
  refine ⟨by rw [flat_len mtC_len]; simp, .inr ⟨g, cap, cur, rfl, hB, h1, h3, h4, h2, ?_⟩⟩
  apply List.ext_getElem?
  intro k
  by_cases hk : k < L.length * 3
  · rw [List.getElem?_take_of_lt hk, Array.getElem?_toList]
    obtain ⟨x, hx⟩ : ∃ x, L[k / 3]? = some x := ⟨_, List.getElem?_eq_getElem (by omega)⟩
    have e : k = k / 3 * 3 + k % 3 := by omega
    have hm : k % 3 < 3 := Nat.mod_lt _ (by omega)
    have := flat_at mtC_len (L.map f) (k / 3) (f x) (by rw [List.getElem?_map, hx]; rfl) (k % 3) hm
    rw [← e] at this
    rw [this]
    obtain ⟨u, hu⟩ : ∃ u, (mtC (f x))[k % 3]? = some u := ⟨_, List.getElem?_eq_getElem (by rw [mtC_len]; exact hm)⟩
    rw [hu]
    have := h5 (k / 3) x hx (k % 3) u hu
    rwa [← e] at this
  · rw [List.getElem?_eq_none (by simp; omega), List.getElem?_eq_none (by rw [flat_len mtC_len]; simp; omega)]

theorem sortM_row {α : Type} {f : α → Mt} {L : List α} {B : Nat} {v : Value} {w : World} (hl : L.length < 4611686018427387904) (hr : w.ownsRow B 36 3 v L.length ((L.map f).flatMap mtC)) :
    Calls Try.prog 26 #[v, .func (.func 27) #[] #[]] w fun e w' => e = .returned (.tuple #[]) ∧ ∃ L' : List α, L'.Perm L ∧ L'.Pairwise (fun x y => ¬ cfM (f y) (f x) < 0) ∧ w'.ownsRow B 36 3 v L'.length ((L'.map f).flatMap mtC) ∧ Fr (fun k => B ≤ k) w w' := by
  rcases own_laid hr with ⟨rfl, rfl⟩ | ⟨g, cap, cur, rfl, hB, h1, h2, h3, h4, h5⟩
  · refine (sortM_none none 0 w).mono ?_
    rintro e w' ⟨rfl, rfl⟩
    exact ⟨rfl, [], .refl _, .nil, hr, Fr.refl _ _⟩
  · by_cases h0 : L = []
    · subst h0
      refine (sortM_none _ cap w).mono ?_
      rintro e w' ⟨rfl, rfl⟩
      exact ⟨rfl, [], .refl _, .nil, hr, Fr.refl _ _⟩
    · haveI : Inhabited α := ⟨L.head h0⟩
      refine (sortM_calls f L (cap := cap) h1 (by rw [h2]; exact Nat.mul_le_mul_right 3 h3) hl h5).mono ?_
      rintro e w' ⟨rfl, L', cur', c1, c2, c3, c4, c5, c6⟩
      have hlen := c1.length_eq
      refine ⟨rfl, L', c1, c2, ?_, c6.mono fun r _ hr => by have : r = g := hr; omega⟩
      rw [← hlen]
      exact laid_own hB c3 (c4.trans h2) (by omega) h4 c5

/-- The slice with another length. -/
def delV (k : Nat) : Value → Value
  | .slice p _ cap => .slice p k cap
  | v => v
theorem delete_own {B ga : Nat} {v : Value} {L : List It} {a0 : It} {w : World} (hA : itB w ga a0) (hr : w.ownsRow B 49 9 v L.length (L.flatMap itC)) (hne : v.ownBlock ≠ some ga) :
    Calls Try.prog 23 #[v, .func (.func 24) #[] #[.pointer (some ⟨ga, 0, none⟩)]] w fun e w' => e = .returned (delV (keepL a0 L).length v) ∧ (w'.ownsRow B 49 9 (delV (keepL a0 L).length v) (keepL a0 L).length ((keepL a0 L).flatMap itC) ∧ Fr (fun k => v.ownBlock = some k) w w') := by
  rcases rowB_of hr with ⟨rfl, rfl⟩ | ⟨g, cap, rfl, hB, hR⟩
  · refine (delete_nil _ w).mono ?_
    rintro e w' ⟨rfl, rfl⟩
    exact ⟨rfl, hr, Fr.refl _ _⟩
  · refine (delete_calls a0 ga g cap L w hA hR (fun e => hne (by subst e; rfl))).mono ?_
    rintro e w' ⟨rfl, h1, h2⟩
    exact ⟨rfl, h1.own hB, h2.mono fun r _ hr => by have : r = g := hr; subst this; rfl⟩
theorem delV_block {k : Nat} {B : Nat} {v : Value} {n : Nat} {xs : List Value} {w : World} (h : w.ownsRow B 49 9 v n xs) : (delV k v).ownBlock = v.ownBlock := by
  rcases h.2 with ⟨rfl, _⟩ | ⟨g, cap, cur, rfl, _⟩
  · rfl
  · rfl
theorem keep_stay (a : Fin l.length) (A : List (Fin l.length)) : keepL (itAt l a) (A.map (itAt l)) = (Swp.stay (fun i => (itAt l i).xl) (fun i => (itAt l i).xh) A a).map (itAt l) := by
  unfold keepL Swp.stay
  rw [List.filter_map]
  rfl
end
end Go.Proofs.Ytiainjcimmeedaa
