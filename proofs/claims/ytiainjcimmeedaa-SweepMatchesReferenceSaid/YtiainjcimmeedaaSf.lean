/- slices.SortFunc at items and at meetings. -/
import Derived.Test.YtiainjcimmeedaaSrt0
import Derived.Test.YtiainjcimmeedaaSrt
set_option linter.unusedVariables false
set_option linter.unusedSimpArgs false
namespace Go.Proofs.Ytiainjcimmeedaa
open Go.RowKit Go.Pl Go.Geo Go.Sort Go.Shelf

theorem cfI_neg (x y : It) : cfI x y < 0 ↔ x.xl < y.xl ∨ x.xl = y.xl ∧ x.n < y.n := by
  have : cmpI x.xl y.xl = if x.xl < y.xl then -1 else if y.xl < x.xl then 1 else 0 := rfl
  unfold cfI orI
  generalize cmpI x.xl y.xl = c at *
  split at this
  · subst this; rw [if_pos (by omega)]; omega
  · split at this
    · subst this; rw [if_pos (by omega)]; omega
    · subst this; rw [if_neg (by omega)]; omega
theorem cfM_neg (x y : Mt) : cfM x y < 0 ↔ x.a.val < y.a.val ∨ x.a.val = y.a.val ∧ x.b.val < y.b.val := by
  unfold cfM orI
  split <;> omega
theorem swo_of {α : Type} {lt : α → α → Bool} (a b : α → Int) (h : ∀ x y, lt x y = true ↔ a x < a y ∨ a x = a y ∧ b x < b y) : SWO lt := by
  have h' : ∀ x y, lt x y = false ↔ ¬ (a x < a y ∨ a x = a y ∧ b x < b y) := fun x y => by rw [← h, Bool.not_eq_true]
  refine ⟨fun x => ?_, fun x y z h1 h2 => ?_, fun x y z h1 h2 => ?_⟩
  · rw [h']; omega
  · rw [h] at *; omega
  · rw [h'] at *; omega

section
variable {α : Type} [Inhabited α]
theorem perm_all {d d' : Array α} (h : PermIn 0 d.size d d') : d'.toList.Perm d.toList := by
  have h1 := h.2.2
  have e1 : d.extract 0 d.size = d := by simp
  have e2 : d'.extract 0 d.size = d' := by rw [← h.1]; simp
  rwa [e1, e2] at h1
theorem sorted_all {lt : α → α → Bool} {d' : Array α} {n : Nat} (hn : d'.size = n) (h : SortedIn lt 0 n d') : d'.toList.Pairwise fun x y => lt y x = false := by
  rw [List.pairwise_iff_getElem]
  intro i j hi hj hij
  have := h i j (Nat.zero_le _) hij (by rw [← hn]; simpa using hj)
  rw [getElem!_pos d' i (by simpa using hi), getElem!_pos d' j (by simpa using hj)] at this
  simpa using this

theorem sortI_calls (h : α → It) (L : List α) {g cap : Nat} {w : World} {cur : Array Value} (hb : w.heap[g]? = some (.cells cur 49 (0, 0))) (hsz : L.length * 9 ≤ cur.size) (hl : L.length ≤ 20000) (hd : laid (fun x => itC (h x)) 9 cur L) :
    Calls Try.prog 19 #[.slice (some ⟨g, 0, none⟩) L.length cap, .func (.func 20) #[] #[]] w fun e w' => e = .returned (.tuple #[]) ∧ ∃ L' cur', L'.Perm L ∧ L'.Pairwise (fun x y => (h x).xl ≤ (h y).xl) ∧ w'.heap[g]? = some (.cells cur' 49 (0, 0)) ∧ cur'.size = cur.size ∧ laid (fun x => itC (h x)) 9 cur' L' ∧ Fr (fun k => k = g) w w' := by
  have hO : SWO (ltOf fun x y => cfI (h x) (h y)) := swo_of (fun x => (h x).xl) (fun x => (h x).n) fun x y => by unfold ltOf; rw [decide_eq_true_iff, cfI_neg]
  have := AnyQ.slices_SortFunc Try.sortIt 9 (fun w => Try.isAgg49 w) (fun w => Try.sizeOf49 w) (fun x => itC (h x)) (fun _ => rfl) (fun x v hv => by simp only [itC, List.mem_cons, List.not_mem_nil, or_false] at hv; rcases hv with rfl | rfl | rfl | rfl | rfl | rfl | rfl | rfl | rfl <;> rfl) (fun x y => cfI (h x) (h y)) hO 20 #[] g 0 cap L.toArray w (enters_of Try.func20 (by kernel_rfl) rfl) (fun m os dk hs x y => cmpI_calls (h x) (h y) _) (holds_laid (f := fun x => itC (h x)) (c := 9) (by omega) (fun _ => rfl) hb hd) (lt_of_blk hb) (by simp; omega)
  refine Calls.mono this ?_
  rintro e w' ⟨he, d', m, os, hp, hs, rfl⟩
  have hp' := perm_all hp
  have hs' := sorted_all (hp.1) hs
  have hlen : d'.toList.length = L.length := hp'.length_eq
  obtain ⟨cur', c1, c2, c3, c4⟩ := laid_sorted (f := fun x => itC (h x)) (c := 9) (T := 49) (fun _ => rfl) hb (L := d'.toList) (by rw [hlen]; exact hsz) m os
  refine ⟨he, d'.toList, cur', hp', hs'.imp fun {x y} hxy => ?_, by simpa using c1, c2, c3, by simpa using c4⟩
  unfold ltOf at hxy
  rw [decide_eq_false_iff_not, cfI_neg] at hxy
  omega

theorem sortM_calls (h : α → Mt) (L : List α) {g cap : Nat} {w : World} {cur : Array Value} (hb : w.heap[g]? = some (.cells cur 36 (0, 0))) (hsz : L.length * 3 ≤ cur.size) (hl : L.length < 4611686018427387904) (hd : laid (fun x => mtC (h x)) 3 cur L) :
    Calls Try.prog 26 #[.slice (some ⟨g, 0, none⟩) L.length cap, .func (.func 27) #[] #[]] w fun e w' => e = .returned (.tuple #[]) ∧ ∃ L' cur', L'.Perm L ∧ L'.Pairwise (fun x y => ¬ cfM (h y) (h x) < 0) ∧ w'.heap[g]? = some (.cells cur' 36 (0, 0)) ∧ cur'.size = cur.size ∧ laid (fun x => mtC (h x)) 3 cur' L' ∧ Fr (fun k => k = g) w w' := by
  have hO : SWO (ltOf fun x y => cfM (h x) (h y)) := swo_of (fun x => ((h x).a.val : Int)) (fun x => ((h x).b.val : Int)) fun x y => by unfold ltOf; rw [decide_eq_true_iff, cfM_neg]; omega
  have := AnyQ.slices_SortFunc Try.sortMt 3 (fun w => Try.isAgg36 w) (fun w => Try.sizeOf36 w) (fun x => mtC (h x)) (fun _ => rfl) (fun x v hv => by simp only [mtC, List.mem_cons, List.not_mem_nil, or_false] at hv; rcases hv with rfl | rfl | rfl <;> rfl) (fun x y => cfM (h x) (h y)) hO 27 #[] g 0 cap L.toArray w (enters_of Try.func27 (by kernel_rfl) rfl) (fun m os dk hs x y => cmpM_calls (h x) (h y) _) (holds_laid (f := fun x => mtC (h x)) (c := 3) (by omega) (fun _ => rfl) hb hd) (lt_of_blk hb) (by simpa using hl)
  refine Calls.mono this ?_
  rintro e w' ⟨he, d', m, os, hp, hs, rfl⟩
  have hp' := perm_all hp
  have hs' := sorted_all (hp.1) hs
  have hlen : d'.toList.length = L.length := hp'.length_eq
  obtain ⟨cur', c1, c2, c3, c4⟩ := laid_sorted (f := fun x => mtC (h x)) (c := 3) (T := 36) (fun _ => rfl) hb (L := d'.toList) (by rw [hlen]; exact hsz) m os
  refine ⟨he, d'.toList, cur', hp', hs'.imp fun {x y} hxy => ?_, by simpa using c1, c2, c3, by simpa using c4⟩
  unfold ltOf at hxy
  simpa using hxy
end
/-- At no elements nothing turns. -/
theorem sortI_none (p : Option Addr) (cap : Nat) (w : World) : Calls Try.prog 19 #[.slice p 0 cap, .func (.func 20) #[] #[]] w fun e w' => e = .returned (.tuple #[]) ∧ w' = w := AnyF.slices_SortFunc_none Try.sortIt p cap _ w
theorem sortM_none (p : Option Addr) (cap : Nat) (w : World) : Calls Try.prog 26 #[.slice p 0 cap, .func (.func 27) #[] #[]] w fun e w' => e = .returned (.tuple #[]) ∧ w' = w := AnyF.slices_SortFunc_none Try.sortMt p cap _ w
end Go.Proofs.Ytiainjcimmeedaa
