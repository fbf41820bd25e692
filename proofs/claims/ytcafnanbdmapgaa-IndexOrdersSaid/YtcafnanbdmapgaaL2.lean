/- Rows of nodes; slices.SortFunc at a part of such a row. -/
import Derived.Test.YtcafnanbdmapgaaL1
import Derived.Test.YtcafnanbdmapgaaSrt0
set_option linter.unusedVariables false
set_option linter.unusedSimpArgs false
namespace Go.Proofs.Ytcafnanbdmapgaa
open Go.RowKit Go.Pl Go.Sort Go.Shelf

/-- A node as a part of another: its block, its box, the entries below it. -/
abbrev Nd := Nat × Bx × List En
abbrev ndV (c : Nd) : Value := .pointer (some ⟨c.1, 0, none⟩)
abbrev ndL (c : Nd) : List Value := [ndV c]
theorem ndL_len : ∀ c, (ndL c).length = 1 := fun _ => rfl
abbrev oNd (w : World) (B : Nat) (v : Value) (L : List Nd) : Prop := ow ndL 1 59 w B v L
/-- All nodes are there. -/
def NdsAt (w : World) (S : Nat → Prop) (h : Nat) (C : List Nd) : Prop := ∀ c ∈ C, NdAt w S h c.1 c.2.1 c.2.2
theorem NdsAt.fr {w w' : World} {S F : Nat → Prop} {h : Nat} {C : List Nd} (hN : NdsAt w S h C) (hf : Fr F w w') (hS : ∀ k, S k → ¬ F k) : NdsAt w' S h C := fun c hc => (hN c hc).fr hf hS
theorem NdsAt.mono {w : World} {S S' : Nat → Prop} {h : Nat} {C : List Nd} (hN : NdsAt w S h C) (hS : ∀ k, S k → S' k) : NdsAt w S' h C := fun c hc => (hN c hc).mono hS
theorem NdsAt.perm {w : World} {S : Nat → Prop} {h : Nat} {C D : List Nd} (hN : NdsAt w S h C) (hp : D.Perm C) : NdsAt w S h D := fun c hc => hN c (hp.mem_iff.1 hc)
theorem NdsAt.sub {w : World} {S : Nat → Prop} {h : Nat} {C D : List Nd} (hN : NdsAt w S h C) (hp : ∀ c ∈ D, c ∈ C) : NdsAt w S h D := fun c hc => hN c (hp c hc)
theorem NdAt.nb {w : World} {S : Nat → Prop} : ∀ {n p b L}, NdAt w S n p b L → nb w p b := by
  intro n
  cases n with
  | zero =>
    rintro p b L ⟨_, id, h, _⟩ j u hu
    rw [cell_of_blk h, Nat.zero_add]
    match j, hu with
    | 0, hu => exact hu
    | 1, hu => exact hu
    | 2, hu => exact hu
    | 3, hu => exact hu
    | j + 4, hu => simp at hu
  | succ n =>
    rintro p b L ⟨_, g, off, cap, C, h, _⟩ j u hu
    rw [cell_of_blk h, Nat.zero_add]
    match j, hu with
    | 0, hu => exact hu
    | 1, hu => exact hu
    | 2, hu => exact hu
    | 3, hu => exact hu
    | j + 4, hu => simp at hu
/-- The cells cur hold L from place m on. -/
def cellsN (cur : Array Value) (m : Nat) (L : List Nd) : Prop := ∀ (j : Nat) c, L[j]? = some c → cur[m + j]? = some (ndV c)

section
variable {α : Type} [Inhabited α]
theorem perm_all {d d' : Array α} (h : PermIn 0 d.size d d') : d'.toList.Perm d.toList := by
  have h1 := h.2.2
  have e1 : d.extract 0 d.size = d := by simp
  have e2 : d'.extract 0 d.size = d' := by rw [← h.1]; simp
  rwa [e1, e2] at h1
theorem sw_blk (enc : α → Value) {w : World} {g : Nat} {cur : Array Value} {T : TypeId} (hb : w.heap[g]? = some (.cells cur T (0, 0))) (off m : Nat) (dk : Array α) (os : Array Obj) :
    (sortWorld enc w g off m dk os).heap[g]? = some (.cells (putCells enc off dk cur) T (0, 0)) ∧ Fr (fun k => k = g) w (sortWorld enc w g off m dk os) := by
  have hlt := lt_of_blk hb
  have hsize : (mapBlock (Sort.ahead w m) g (putCells enc off dk)).heap.size = w.heap.size := by
    unfold mapBlock Sort.ahead; simp
  constructor
  · unfold sortWorld putRow grow
    simp only
    rw [Array.getElem?_append_left (by rw [hsize]; exact hlt)]
    unfold mapBlock
    simp only [Array.getElem?_modify, if_true]
    show Option.map _ w.heap[g]? = _
    rw [hb]; rfl
  · unfold sortWorld putRow grow
    refine ⟨rfl, rfl, rfl, ?_, fun r hr hne => ?_⟩
    · simp only [Array.size_append]; rw [hsize]; omega
    · simp only
      rw [Array.getElem?_append_left (by rw [hsize]; exact hr)]
      unfold mapBlock
      simp only [Array.getElem?_modify]
      rw [if_neg (fun e => hne e.symm)]; rfl
end

theorem orI_neg (x y : Int) : orI x y < 0 ↔ x < 0 ∨ (x = 0 ∧ y < 0) := by unfold orI; split <;> omega
theorem cmpI_neg (x y : Int) : cmpI x y < 0 ↔ x < y := by unfold cmpI; split <;> (try split) <;> omega
theorem cmpI_zero (x y : Int) : cmpI x y = 0 ↔ x = y := by unfold cmpI; split <;> (try split) <;> omega
theorem cfB_neg (x y : Bx) : cfB x y < 0 ↔ x.1.2 + x.2.2 < y.1.2 + y.2.2 := cmpI_neg _ _
theorem cfA_neg (x y : Bx) : cfA x y < 0 ↔ x.1.1 + x.2.1 < y.1.1 + y.2.1 ∨ x.1.1 + x.2.1 = y.1.1 + y.2.1 ∧ x.1.2 + x.2.2 < y.1.2 + y.2.2 := by
  unfold cfA
  rw [orI_neg, cmpI_neg, cmpI_zero, cfB_neg]
theorem swo_of {α : Type} {lt : α → α → Bool} (a b : α → Int) (h : ∀ x y, lt x y = true ↔ a x < a y ∨ a x = a y ∧ b x < b y) : SWO lt := by
  have h' : ∀ x y, lt x y = false ↔ ¬ (a x < a y ∨ a x = a y ∧ b x < b y) := fun x y => by rw [← h, Bool.not_eq_true]
  refine ⟨fun x => ?_, fun x y z h1 h2 => ?_, fun x y z h1 h2 => ?_⟩
  · rw [h']; omega
  · rw [h] at *; omega
  · rw [h'] at *; omega
theorem swoA {α : Type} (k : α → Bx) : SWO (ltOf fun x y => cfA (k x) (k y)) :=
  swo_of (fun x => (k x).1.1 + (k x).2.1) (fun x => (k x).1.2 + (k x).2.2) fun x y => by unfold ltOf; rw [decide_eq_true_iff, cfA_neg]
theorem swoB {α : Type} (k : α → Bx) : SWO (ltOf fun x y => cfB (k x) (k y)) :=
  swo_of (fun x => (k x).1.2 + (k x).2.2) (fun _ => 0) fun x y => by unfold ltOf; rw [decide_eq_true_iff, cfB_neg]; omega

/-- How a sort of the part of a row ends. -/
def SrtP (w : World) (g off : Nat) (cur : Array Value) (D : List Nd) (e : Ending) (w' : World) : Prop :=
  e = .returned (.tuple #[]) ∧ ∃ D' cur', D'.Perm D ∧ w'.heap[g]? = some (.cells cur' 59 (0, 0)) ∧ cur'.size = cur.size ∧ cellsN cur' off D' ∧ (∀ i, i < off ∨ off + D.length ≤ i → cur'[i]? = cur[i]?) ∧ Fr (fun k => k = g) w w'

theorem sortN_calls {F : Nat} (cf : Bx → Bx → Int) (eg : ∀ args w, (callFunc F args).run Try.prog w = .ok (.enter F args) w) (hO : ∀ (α : Type) (k : α → Bx), SWO (ltOf fun x y => cf (k x) (k y)))
    (hcmp : ∀ {p q : Nat} {x y : Bx} {w : World}, nb w p x → nb w q y → okB x → okB y → Calls Try.prog F #[.pointer (some ⟨p, 0, none⟩), .pointer (some ⟨q, 0, none⟩)] w fun e w' => e = .returned (.int .i64 (cf x y)) ∧ Gw w w')
    {w : World} {g off cap : Nat} {cur : Array Value} {D : List Nd} (hne : D ≠ []) (hb : w.heap[g]? = some (.cells cur 59 (0, 0))) (hd : cellsN cur off D) (hD : ∀ c ∈ D, nb w c.1 c.2.1 ∧ okB c.2.1 ∧ c.1 ≠ g) (hl : D.length ≤ 10000000) :
    Calls Try.prog 53 #[.slice (some ⟨g, off, none⟩) D.length cap, .func (.func F) #[] #[]] w (SrtP w g off cur D) := by
  let α := { c : Nd // nb w c.1 c.2.1 ∧ okB c.2.1 ∧ c.1 ≠ g }
  have i0 : Inhabited α := ⟨⟨D.head hne, hD _ (List.head_mem hne)⟩⟩
  let d : List α := D.attach.map fun x => ⟨x.1, hD x.1 x.2⟩
  have hdl : d.length = D.length := by simp [d]
  have hdm : d.map (·.1) = D := by simp [d, List.map_attach_eq_pmap, List.map_pmap]
  have hget : ∀ j, j < D.length → D[j]? = some (d.toArray[j]!).1 := by
    intro j hj
    rw [← hdm, List.getElem?_map]
    have h1 : j < d.length := by omega
    rw [List.getElem?_eq_getElem h1, getElem!_pos d.toArray j (by simpa using h1)]
    simp
  have hsz : d.toArray.size = D.length := by simpa using hdl
  have := Any.slices_SortFunc Try.sortN (fun c : α => ndV c.1) (fun _ => rfl) (fun x y => cf x.1.2.1 y.1.2.1) (hO α fun x => x.1.2.1) F #[] g off cap d.toArray w eg
    (fun m os dk hs x y => by
      have hf := (sw_blk (fun c : α => ndV c.1) hb off m dk os).2
      exact (hcmp (x.2.1.fr hf x.2.2.2) (y.2.1.fr hf y.2.2.2) x.2.2.1 y.2.2.1).mono fun e w' h => ⟨h.1, h.2⟩)
    (fun j hj => by
      rw [hsz] at hj
      refine ⟨?_, free_of_blk hb _⟩
      rw [cell_of_blk hb, hd j _ (hget j hj)])
    (lt_of_blk hb) (by rw [hsz]; omega)
  rw [hsz] at this
  refine Calls.mono this ?_
  rintro e w' ⟨he, d', m, os, hp, _, rfl⟩
  rw [← hsz] at hp
  have hp' := perm_all hp
  obtain ⟨h1, h2⟩ := sw_blk (fun c : α => ndV c.1) hb off m d' os
  have hd's : d'.size = D.length := hp.1.trans hsz
  refine ⟨he, d'.toList.map (·.1), _, ?_, h1, ?_, ?_, ?_, h2⟩
  · have := hp'.map (fun x : α => x.1)
    simpa [hdm] using this
  · unfold putCells; simp
  · intro j c hc
    rw [List.getElem?_map] at hc
    have hj : j < d'.size := by
      cases hx : d'.toList[j]? with
      | none => rw [hx] at hc; cases hc
      | some x => simpa using (List.getElem?_eq_some_iff.1 hx).1
    have hjD : j < D.length := by omega
    have hin : off + j < cur.size := by
      have := hd j _ (hget j hjD)
      exact (Array.getElem?_eq_some_iff.1 this).1
    unfold putCells
    rw [Array.getElem?_mapIdx, Array.getElem?_eq_getElem hin]
    simp only [Option.map_some]
    rw [if_pos ⟨by omega, by omega⟩, show off + j - off = j by omega, getElem!_pos d' j hj]
    rw [Array.getElem?_toList, Array.getElem?_eq_getElem hj] at hc
    simp only [Option.map_some, Option.some.injEq] at hc
    rw [hc]
  · intro i hi
    unfold putCells
    rw [Array.getElem?_mapIdx]
    cases cur[i]? with
    | none => rfl
    | some y =>
      simp only [Option.map_some]
      rw [if_neg (by omega)]

theorem sortA_calls {w : World} {g off cap : Nat} {cur : Array Value} {D : List Nd} (hne : D ≠ []) (hb : w.heap[g]? = some (.cells cur 59 (0, 0))) (hd : cellsN cur off D) (hD : ∀ c ∈ D, nb w c.1 c.2.1 ∧ okB c.2.1 ∧ c.1 ≠ g) (hl : D.length ≤ 10000000) :
    Calls Try.prog 53 #[.slice (some ⟨g, off, none⟩) D.length cap, .func (.func 54) #[] #[]] w (SrtP w g off cur D) :=
  sortN_calls cfA (enters_of Try.func54 (by kernel_rfl) rfl) (fun _ k => swoA k) cmpA_calls hne hb hd hD hl
theorem sortB_calls {w : World} {g off cap : Nat} {cur : Array Value} {D : List Nd} (hne : D ≠ []) (hb : w.heap[g]? = some (.cells cur 59 (0, 0))) (hd : cellsN cur off D) (hD : ∀ c ∈ D, nb w c.1 c.2.1 ∧ okB c.2.1 ∧ c.1 ≠ g) (hl : D.length ≤ 10000000) :
    Calls Try.prog 53 #[.slice (some ⟨g, off, none⟩) D.length cap, .func (.func 58) #[] #[]] w (SrtP w g off cur D) :=
  sortN_calls cfB (enters_of Try.func58 (by kernel_rfl) rfl) (fun _ k => swoB k) cmpB_calls hne hb hd hD hl
end Go.Proofs.Ytcafnanbdmapgaa
