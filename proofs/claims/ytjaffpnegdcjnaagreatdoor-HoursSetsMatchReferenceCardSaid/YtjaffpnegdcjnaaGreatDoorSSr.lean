/- slices.SortFunc at spans. -/
import Derived.Test.YtjaffpnegdcjnaaGreatDoorSOw
import Derived.Test.YtjaffpnegdcjnaaGreatDoorSSrt0
set_option linter.unusedVariables false
set_option linter.unusedSimpArgs false
namespace Go.Proofs.YtjaffpnegdcjnaaGreatDoor
open Go.RowKit Go.Pl Go.Sort Go.Shelf
/-- w' is w with draws and new blocks behind it. -/
def Gw (w w' : World) : Prop := ∃ q os, w' = grow (w.drewN q) os
theorem grow_nil (w : World) : grow w #[] = w := by simp [grow]
theorem Gw.refl (w : World) : Gw w w := ⟨0, #[], by rw [grow_nil]; rfl⟩
theorem Gw.drew {w w' : World} (h : Gw w w') : Gw w w'.drew := by
  obtain ⟨q, os, rfl⟩ := h
  exact ⟨q + 1, os, rfl⟩
theorem Gw.alloc {w w' : World} (h : Gw w w') (o : Obj) : Gw w (w'.alloc o) := by
  obtain ⟨q, os, rfl⟩ := h
  refine ⟨q, os ++ #[o], ?_⟩
  simp [World.alloc, grow]
theorem Gw.trans {a b c : World} (h : Gw a b) (k : Gw b c) : Gw a c := by
  obtain ⟨q, os, rfl⟩ := h
  obtain ⟨q2, os2, rfl⟩ := k
  refine ⟨q + q2, os ++ os2, ?_⟩
  simp [grow, World.drewN, Nat.add_assoc]
theorem Gw.fr {w w' : World} (h : Gw w w') : Fr (fun _ => False) w w' := by
  obtain ⟨q, os, rfl⟩ := h
  refine ⟨rfl, rfl, rfl, ?_, fun r hr _ => ?_⟩
  · simp [grow, World.drewN]
  · simp only [grow, World.drewN]
    rw [Array.getElem?_append_left hr]
set_option maxHeartbeats 1000000 in
section
variable {α : Type} [Inhabited α] {c : Nat} {f : α → List Value} {T : TypeId}
/-- The cells cur begin with the elements L. -/
def laid (f : α → List Value) (c : Nat) (cur : Array Value) (L : List α) : Prop := ∀ t x, L[t]? = some x → ∀ j u, (f x)[j]? = some u → cur[t * c + j]? = some u
theorem get!_of {l : List Value} {j : Nat} {u : Value} (h : l[j]? = some u) : l[j]! = u := by rw [List.getElem!_eq_getElem?_getD, h]; rfl
theorem holds_laid (hc : 0 < c) (hf : ∀ x, (f x).length = c) {w : World} {g : Nat} {cur : Array Value} {L : List α} (hb : w.heap[g]? = some (.cells cur T (0, 0))) (h : laid f c cur L) : HoldsK f c w g 0 L.toArray := by
  intro t ht
  rw [size_flatK] at ht
  simp only [List.size_toArray] at ht
  have hq : t / c < L.length := by rw [Nat.div_lt_iff_lt_mul hc]; exact ht
  have hm : t % c < c := Nat.mod_lt _ hc
  obtain ⟨x, hx⟩ : ∃ x, L[t / c]? = some x := ⟨_, List.getElem?_eq_getElem hq⟩
  obtain ⟨u, hu⟩ : ∃ u, (f x)[t % c]? = some u := ⟨_, List.getElem?_eq_getElem (by rw [hf]; exact hm)⟩
  refine ⟨?_, free_of_blk hb _⟩
  rw [get_flatK f c L.toArray t (by simpa using ht)]
  have e1 : L.toArray[t / c]! = x := by
    rw [Array.getElem!_eq_getD, Array.getD_eq_getD_getElem?]
    simp [hx]
  rw [e1, get!_of hu, Nat.zero_add, cell_of_blk hb]
  have := h (t / c) x hx (t % c) u hu
  rw [Nat.mul_comm, Nat.div_add_mod] at this
  exact this
theorem laid_sorted (hf : ∀ x, (f x).length = c) {w : World} {g : Nat} {cur : Array Value} {L : List α} (hb : w.heap[g]? = some (.cells cur T (0, 0))) (hsz : L.length * c ≤ cur.size) (m : Nat) (os : Array Obj) :
    ∃ cur', (sortWorldK f c w g 0 m L.toArray os).heap[g]? = some (.cells cur' T (0, 0)) ∧ cur'.size = cur.size ∧ laid f c cur' L ∧ Fr (fun k => k = g) w (sortWorldK f c w g 0 m L.toArray os) := by
  have hlt := lt_of_blk hb
  have hmod : (mapBlock (Sort.ahead w m) g (putCells id 0 (flatK f c L.toArray))).heap[g]? = some (.cells (putCells id 0 (flatK f c L.toArray) cur) T (0, 0)) := by
    unfold mapBlock
    simp only [Array.getElem?_modify, if_true]
    show Option.map _ w.heap[g]? = _
    rw [hb]; rfl
  have hsize : (mapBlock (Sort.ahead w m) g (putCells id 0 (flatK f c L.toArray))).heap.size = w.heap.size := by
    unfold mapBlock Sort.ahead; simp
  refine ⟨putCells id 0 (flatK f c L.toArray) cur, ?_, ?_, ?_, ?_⟩
  · unfold sortWorldK putRowK putRow grow
    simp only
    rw [Array.getElem?_append_left (by rw [hsize]; exact hlt)]
    exact hmod
  · unfold putCells; simp
  · intro t x hx j u hu
    have hj : j < c := by rw [← hf x]; exact (List.getElem?_eq_some_iff.1 hu).1
    have ht := (List.getElem?_eq_some_iff.1 hx).1
    have hlt2 : t * c + j < L.length * c := by
      have : t * c + c ≤ L.length * c := by rw [← Nat.succ_mul]; exact Nat.mul_le_mul_right c ht
      omega
    unfold putCells
    rw [Array.getElem?_mapIdx, Array.getElem?_eq_getElem (by omega)]
    simp only [Option.map_some, size_flatK, List.size_toArray, Nat.zero_add, Nat.zero_le, true_and, Nat.sub_zero, if_pos hlt2, id]
    rw [get_flatK f c L.toArray _ (by simpa using hlt2)]
    have e1 : (t * c + j) / c = t := by
      rw [Nat.mul_comm, Nat.mul_add_div (by omega), Nat.div_eq_of_lt hj, Nat.add_zero]
    have e2 : (t * c + j) % c = j := by rw [Nat.mul_comm, Nat.mul_add_mod, Nat.mod_eq_of_lt hj]
    rw [e1, e2]
    have e3 : L.toArray[t]! = x := by
      rw [Array.getElem!_eq_getD, Array.getD_eq_getD_getElem?]
      simp [hx]
    rw [e3, get!_of hu]
  · unfold sortWorldK putRowK putRow grow
    refine ⟨rfl, rfl, rfl, ?_, fun r hr hne => ?_⟩
    · simp only [Array.size_append]; rw [hsize]; omega
    · simp only
      rw [Array.getElem?_append_left (by rw [hsize]; exact hr)]
      unfold mapBlock
      simp only [Array.getElem?_modify]
      rw [if_neg (fun e => hne e.symm)]; rfl
end
theorem swo_of {α : Type} {lt : α → α → Bool} (a b : α → Int) (h : ∀ x y, lt x y = true ↔ a x < a y ∨ a x = a y ∧ b x < b y) : SWO lt := by
  have h' : ∀ x y, lt x y = false ↔ ¬ (a x < a y ∨ a x = a y ∧ b x < b y) := fun x y => by rw [← h, Bool.not_eq_true]
  refine ⟨fun x => ?_, fun x y z h1 h2 => ?_, fun x y z h1 h2 => ?_⟩
  · rw [h']; omega
  · rw [h] at *; omega
  · rw [h'] at *; omega
section
variable {α : Type} [Inhabited α]
theorem perm_all {d d' : Array α} (h : PermIn 0 d.size d d') : d'.toList.Perm d.toList := by
  have h1 := h.2.2
  have e1 : d.extract 0 d.size = d := by simp
  have e2 : d'.extract 0 d.size = d' := by rw [← h.1]; simp
  rwa [e1, e2] at h1
theorem sorted_all {lt : α → α → Bool} {d' : Array α} {n : Nat} (hn : d'.size = n) (h : SortedIn lt 0 n d') : d'.toList.Pairwise fun x y => lt y x = false := by
  rw [List.pairwise_iff_getElem]
  intro i j hi hj hij
  have := h i j (Nat.zero_le _) hij (by rw [← hn]; simpa using hj)
  rw [getElem!_pos d' i (by simpa using hi), getElem!_pos d' j (by simpa using hj)] at this
  simpa using this
end
section
variable {P : Program} {O : Array Oper} {Q : Exit → Act → World → Prop} {rest : List Oper} {o : Oper} {a : Act} {w : World} {n d : Nat} {L : List (Nat × Value)} {x y : Operand} {b : Nat} {ds : List Deferred}
theorem env_newG {T : TypeId} {cs : Array Value} (E : EnvD ds n L a) (hd : o.dst = some d) (hn : d < n) (hf : (L.map (·.1)).contains d = false) (hw : Region.wanted o (yielded O a.tmps) = true) (hr : (execOp a.eval o).run P w = .ok (.value (.pointer (some ⟨w.heap.size, 0, none⟩))) (w.alloc (.cells cs T)))
    (k : ∀ a' w' b, w.heap.size = b → w'.heap[b]? = some (.cells cs T (0, 0)) → Gw w w' → EnvD ds n ((d, .pointer (some ⟨b, 0, none⟩)) :: L) a' → wpList P O Q rest a' w') : wpList P O Q (o :: rest) a w :=
  env_put E hd hn hf hw hr fun a' E' => k a' _ _ rfl (blk_alloc_new _ _) ((Gw.refl _).alloc _) E'
end
theorem run_ld91 {o : Oper} {w : World} {ρ : Operand → Value} {x : Operand} {g off : Nat} {v : Value} (ho : o.op = .load 91 x) (hx : ρ x = .pointer (some ⟨g, off, none⟩)) (hc : w.cell? ⟨g, off, none⟩ = some v) : (execOp ρ o).run Tryz.prog w = .ok (.value v) w := by
  simp [execOp, ho, hx, go_sem, hc]
theorem cmp_gw (x y : Int) (w : World) : Calls Tryz.prog 51 #[.int .i64 x, .int .i64 y] w fun e w' => e = .returned (.int .i64 (Lib.compareInt x y)) ∧ Gw w w' := (Tryz.cmp_Compare_int x y w).mono fun e w' h => ⟨h.1, by rw [h.2]; exact Gw.refl _⟩
set_option maxRecDepth 100000 in
set_option maxHeartbeats 4000000 in
theorem key_calls (s : Sp) (w : World) : Calls Tryz.prog 60 #[.agg (spA s)] w fun e w' => e = .returned (.int .i64 s.1) ∧ Gw w w' := by
  refine wp_start1 Tryz.func60 rfl rfl (n := 5) (by decide) fun a E => ?_
  have hf : Gw w w := Gw.refl _
  refine wp_seq ?_
  refine wp_region_lit ?_
  refine env_newG (d := 1) E rfl (by decide) rfl (wanted_none rfl _) (run_box48 rfl (E.get 0 rfl)) fun a w1 b1 eb1 hb1 f1 E => ?_
  have hnb1 : w.heap.size ≤ b1 := by have := hf.fr.size; omega
  have hf := hf.trans f1
  clear f1
  refine ep (v := .int .i64 0) E (run_assign rfl rfl) fun a E => ?_
  refine wpList_nil ?_
  refine then_n ?_
  refine wp_seq ?_
  refine wp_region_lit ?_
  refine ep (v := .pointer (some ⟨b1, 0, none⟩)) E (fa48_0 rfl (E.get 1 rfl)) fun a E => ?_
  refine ep (v := .int .i64 s.1) E (run_ldi rfl (E.get 0 rfl) (bx hb1 0 rfl)) fun a E => ?_
  refine env_set (d := 2) (v := .int .i64 s.1) E rfl (by decide) (wanted_none rfl _) (run_assign rfl (E.get 0 rfl)) fun a E => ?_
  refine wpList_nil ?_
  refine then_n ?_
  refine wp_ret ?_
  refine ret_tmp (t := 2) rfl E (E.get 0 rfl) ⟨rfl, hf⟩
set_option maxRecDepth 100000 in
set_option maxHeartbeats 4000000 in
theorem cmpSp_calls {c3 : Nat} (s t : Sp) {w : World} (hc3 : w.heap[c3]? = some (.cells #[.func (.func 60) #[] #[]] 91 (0, 0))) : Calls Tryz.prog 83 #[.agg (spA s), .agg (spA t), .pointer (some ⟨c3, 0, none⟩)] w fun e w' => e = .returned (.int .i64 (Lib.compareInt s.1 t.1)) ∧ Gw w w' := by
  refine wp_start3 Tryz.func83 rfl rfl (n := 13) (by decide) fun a E => ?_
  have hf : Gw w w := Gw.refl _
  refine wp_seq ?_
  refine wp_region_lit ?_
  refine env_newG (d := 3) E rfl (by decide) rfl (wanted_none rfl _) (run_box48 rfl (E.get 0 rfl)) fun a w1 b2 eb2 hb2 f1 E => ?_
  have hnb2 : w.heap.size ≤ b2 := by have := hf.fr.size; omega
  have hc3 := f1.fr.obj hc3 id
  have hf := hf.trans f1
  clear f1
  refine env_newG (d := 4) E rfl (by decide) rfl (wanted_none rfl _) (run_box48 rfl (E.get 2 rfl)) fun a w1 b3 eb3 hb3 f1 E => ?_
  have hnb3 : w.heap.size ≤ b3 := by have := hf.fr.size; omega
  have hlb2b3 : b2 < b3 := by have := lt_of_blk hb2; omega
  have hc3 := f1.fr.obj hc3 id
  have hb2 := f1.fr.obj hb2 id
  have hf := hf.trans f1
  clear f1
  refine ep (v := .int .i64 0) E (run_assign rfl rfl) fun a E => ?_
  refine wpList_nil ?_
  refine then_n ?_
  refine wp_seq ?_
  refine wp_region_invx (G := Unit) () (n := 13) (base := [(4, .pointer (some ⟨b3, 0, none⟩)), (3, .pointer (some ⟨b2, 0, none⟩)), (0, .agg (spA s)), (1, .agg (spA t)), (2, .pointer (some ⟨c3, 0, none⟩))]) (U := [(5, .int .i64 0, 7)]) (T := fun γ => [some (6, .func (.func 60) #[] #[]), some (7, .agg (spA s)), some (8, .int .i64 s.1), some (9, .func (.func 60) #[] #[]), some (10, .agg (spA t)), some (11, .int .i64 t.1), some (12, .int .i64 (Lib.compareInt s.1 t.1)), some (5, .int .i64 (Lib.compareInt s.1 t.1))]) (M := fun γ ls9 wm => Gw w1 wm) (by kernel_rfl) (by kernel_rfl) (fun _ => by kernel_rfl) (E.of ⟨E.get 1 rfl, E.get 2 rfl, E.get 3 rfl, E.get 4 rfl, E.get 5 rfl, trivial⟩) (fun x hx => by simp only [List.mem_cons, List.not_mem_nil, or_false] at hx; subst hx; exact E.get 0 rfl) (Gw.refl _).drew ?_ ?_
  · intro j9 o9 γ ls9 a w5 ho hl E D DL DL2 hB hM
    have hc3 := hM.fr.obj hc3 id
    have hb2 := hM.fr.obj hb2 id
    have hb3 := hM.fr.obj hb3 id
    match j9, ho, hl, D, DL, hB with
    | 0, ho, hl, D, DL, hB =>
      obtain rfl := Option.some.inj ho
      clear ho
      exact ⟨fun _ => valx rfl (run_ld91 rfl (E.get 4 rfl) (bx hc3 0 rfl)) rfl hM, fun h => by rw [wanted_none rfl] at h; cases h⟩
    | 1, ho, hl, D, DL, hB =>
      obtain rfl := Option.some.inj ho
      clear ho
      exact ⟨fun _ => valx rfl (run_ld48 rfl (E.get 1 rfl) (rng2 (p := s) hb2 0 rfl rfl)) rfl hM, fun h => by rw [wanted_none rfl] at h; cases h⟩
    | 2, ho, hl, D, DL, hB =>
      obtain rfl := Option.some.inj ho
      clear ho
      exact ⟨fun _ => callx rfl (run_callf1 (enters_of Tryz.func60 (by kernel_rfl) rfl) rfl (D 0 _ rfl rfl) (D 1 _ rfl rfl) rfl) (key_calls s _) rfl fun w9 f1 => hM.trans f1, fun h => by rw [wanted_none rfl] at h; cases h⟩
    | 3, ho, hl, D, DL, hB =>
      obtain rfl := Option.some.inj ho
      clear ho
      exact ⟨fun _ => valx rfl (run_ld91 rfl (E.get 4 rfl) (bx hc3 0 rfl)) rfl hM, fun h => by rw [wanted_none rfl] at h; cases h⟩
    | 4, ho, hl, D, DL, hB =>
      obtain rfl := Option.some.inj ho
      clear ho
      exact ⟨fun _ => valx rfl (run_ld48 rfl (E.get 0 rfl) (rng2 (p := t) hb3 0 rfl rfl)) rfl hM, fun h => by rw [wanted_none rfl] at h; cases h⟩
    | 5, ho, hl, D, DL, hB =>
      obtain rfl := Option.some.inj ho
      clear ho
      exact ⟨fun _ => callx rfl (run_callf1 (enters_of Tryz.func60 (by kernel_rfl) rfl) rfl (D 3 _ rfl rfl) (D 4 _ rfl rfl) rfl) (key_calls t _) rfl fun w9 f1 => hM.trans f1, fun h => by rw [wanted_none rfl] at h; cases h⟩
    | 6, ho, hl, D, DL, hB =>
      obtain rfl := Option.some.inj ho
      clear ho
      exact ⟨fun _ => callx rfl (run_call2 (enters_of Tryz.func51 (by kernel_rfl) rfl) rfl rfl (D 2 _ rfl rfl) (D 5 _ rfl rfl)) (cmp_gw s.1 t.1 _) rfl fun w9 f1 => hM.trans f1, fun h => by rw [wanted_none rfl] at h; cases h⟩
    | 7, ho, hl, D, DL, hB =>
      obtain rfl := Option.some.inj ho
      clear ho
      exact ⟨fun _ => valx rfl (run_assign rfl (D 6 _ rfl rfl)) rfl hM, fun h => by rw [wanted_none rfl] at h; cases h⟩
    | j9 + 8, ho, hl, D, DL, hB => exact absurd ho (by simp)
  · rintro _ a w5 E V hM
    have E := E.add (v := .int .i64 (Lib.compareInt s.1 t.1)) (V 7 _ rfl)
    clear V
    have hc3 := hM.fr.obj hc3 id
    have hb2 := hM.fr.obj hb2 id
    have hb3 := hM.fr.obj hb3 id
    have hf := hf.trans hM
    clear hM
    refine then_n ?_
    refine wp_ret ?_
    refine ret_tmp (t := 5) rfl E (E.get 0 rfl) ⟨rfl, hf⟩
theorem cmpI_neg (x y : Int) : Lib.compareInt x y < 0 ↔ x < y := by
  have := @cmp_lt x y
  simpa using this
theorem sortSp_calls {w : World} {B c3 : Nat} {v : Value} {L : List Sp} (hO : oSp w B v L) (hc3 : w.heap[c3]? = some (.cells #[.func (.func 60) #[] #[]] 91 (0, 0))) (hn : ∀ k, v.ownBlock = some k → k ≠ c3) (hl : L.length ≤ 20000) :
    Calls Tryz.prog 101 #[v, .func (.func 83) #[] #[.pointer (some ⟨c3, 0, none⟩)]] w fun e w' => e = .returned (.tuple #[]) ∧ ∃ L', L'.Perm L ∧ L'.Pairwise (fun x y => x.1 ≤ y.1) ∧ oSp w' B v L' ∧ Fr (fun k => v.ownBlock = some k) w w' := by
  rcases hO.2 with ⟨rfl, h2⟩ | ⟨g, cap, cur, rfl, hB, h3, h4, h5, h6, h7⟩
  · have hL : L = [] := List.eq_nil_of_length_eq_zero h2
    subst hL
    refine Calls.mono (AnyF.slices_SortFunc_none Tryz.sortSp none 0 _ w) ?_
    rintro e w' ⟨rfl, rfl⟩
    exact ⟨rfl, [], .refl _, .nil, hO, Fr.refl _ _⟩
  · have hgc : g ≠ c3 := hn g rfl
    have hO' : SWO (ltOf fun x y : Sp => Lib.compareInt x.1 y.1) := swo_of (fun x => x.1) (fun _ => 0) fun x y => by unfold ltOf; rw [decide_eq_true_iff, cmpI_neg]; omega
    have hd : laid spL 2 cur L := by
      intro t x hx j u hu
      have hj : j < 2 := (List.getElem?_eq_some_iff.1 hu).1
      have ht := (List.getElem?_eq_some_iff.1 hx).1
      have := flat_at spL_len L t x hx j hj
      rw [hu, ← h7, List.getElem?_take_of_lt (by omega), Array.getElem?_toList] at this
      exact this
    have hsz : L.length * 2 ≤ cur.size := by omega
    have := AnyQ.slices_SortFunc Tryz.sortSp 2 (fun w => Tryz.isAgg48 w) (fun w => Tryz.sizeOf48 w) spL (fun _ => rfl) spL_one (fun x y => Lib.compareInt x.1 y.1) hO' 83 #[.pointer (some ⟨c3, 0, none⟩)] g 0 cap L.toArray w (enters_of Tryz.func83 (by kernel_rfl) rfl) (fun m os dk hs x y => by
      obtain ⟨cur', c1, c2, c3', c4⟩ := laid_sorted (f := spL) (c := 2) (T := 48) (fun _ => rfl) h3 (L := dk.toList) (by simp only [Array.length_toList]; rw [show dk.size = L.length by simpa using hs]; exact hsz) m os
      have hc := c4.obj hc3 (fun e => hgc e.symm)
      exact cmpSp_calls x y (by simpa using hc)) (holds_laid (f := spL) (c := 2) (by omega) (fun _ => rfl) h3 hd) (lt_of_blk h3) (by simp; omega)
    refine Calls.mono this ?_
    rintro e w' ⟨he, d', m, os, hp, hs, rfl⟩
    have hp' := perm_all hp
    have hs' := sorted_all (hp.1) hs
    have hlen : d'.toList.length = L.length := hp'.length_eq
    obtain ⟨cur', c1, c2, c3', c4⟩ := laid_sorted (f := spL) (c := 2) (T := 48) (fun _ => rfl) h3 (L := d'.toList) (by rw [hlen]; exact hsz) m os
    refine ⟨he, d'.toList, hp', hs'.imp fun {x y} hxy => ?_, ⟨flat_len spL_len _, .inr ⟨g, cap, cur', by rw [hlen], hB, by simpa using c1, by rw [hlen]; exact h4, h5, by rw [c2]; exact h6, ?_⟩⟩, (by simpa using c4 : Fr (fun k => k = g) w _).mono fun r _ hr => by rw [hr]; rfl⟩
    · unfold ltOf at hxy
      rw [decide_eq_false_iff_not, cmpI_neg] at hxy
      omega
    · apply List.ext_getElem?
      intro k
      by_cases hk : k < d'.toList.length * 2
      · rw [List.getElem?_take_of_lt hk, Array.getElem?_toList]
        obtain ⟨x, hx⟩ : ∃ x, d'.toList[k / 2]? = some x := ⟨_, List.getElem?_eq_getElem (by omega)⟩
        have e : k = k / 2 * 2 + k % 2 := by omega
        have hm : k % 2 < 2 := Nat.mod_lt _ (by omega)
        have := flat_at spL_len d'.toList (k / 2) x hx (k % 2) hm
        rw [← e] at this
        rw [this]
        obtain ⟨u, hu⟩ : ∃ u, (spL x)[k % 2]? = some u := ⟨_, List.getElem?_eq_getElem (by rw [spL_len]; exact hm)⟩
        rw [hu]
        have := c3' (k / 2) x hx (k % 2) u hu
        rwa [← e] at this
      · rw [List.getElem?_eq_none (by simp at hk ⊢; omega), List.getElem?_eq_none (by rw [flat_len spL_len]; omega)]
end Go.Proofs.YtjaffpnegdcjnaaGreatDoor
