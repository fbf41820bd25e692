/- The index: In. -/
import Derived.Test.YtcafnanbdmapgaaL8
set_option linter.unusedVariables false
set_option linter.unusedSimpArgs false
namespace Go.Proofs.Ytcafnanbdmapgaa
open Go.RowKit Go.Pl

theorem len_sub {α : Type} [DecidableEq α] : ∀ (l k : List α), l.Nodup → (∀ x ∈ l, x ∈ k) → l.length ≤ k.length
  | [], k, _, _ => Nat.zero_le _
  | a :: l, k, hn, hs => by
    have ha := hs a (by simp)
    have h1 := len_sub l (k.erase a) (List.nodup_cons.1 hn).2 (fun x hx => by
      have hxa : x ≠ a := fun e => (List.nodup_cons.1 hn).1 (e ▸ hx)
      exact (List.mem_erase_of_ne hxa).2 (hs x (by simp [hx])))
    rw [List.length_erase_of_mem ha] at h1
    have := List.length_pos_of_mem ha
    simp only [List.length_cons]
    omega
theorem EnOf.len {w : World} {mb N : Nat} {m : ByteArray → Option Bx} {L : List En} (h : EnOf L m) (hm : MapN Try.prog 9 w mb N (bxM m)) : L.length ≤ N := by
  obtain ⟨es, c, _, hE, hs⟩ := hm
  have h1 : (L.map (·.1)).length ≤ (es.toList.map fun e => match e.key with | .string s => s | _ => ByteArray.empty).length := by
    refine len_sub _ _ h.1 fun s hs => ?_
    obtain ⟨x, hx, rfl⟩ := List.mem_map.1 hs
    have h2 := (h.2 x.1 x.2).1 hx
    obtain ⟨e, he, hk, _⟩ := (hE.at_ (.string x.1) (.agg (bxC x.2))).1 (by rw [bxM_str, h2]; rfl)
    exact List.mem_map.2 ⟨e, he, by rw [hk]⟩
  simp only [List.length_map, Array.length_toList] at h1
  omega
section
variable {o : Oper} {w : World} {ρ : Operand → Value} {x y z : Operand} {g off : Nat} {v v1 v2 v3 : Value}
theorem run_pn29t (ho : o.op = .binOp .eql 29 x y 29) (hx : ρ x = .pointer none) (hy : ρ y = .pointer none) : (execOp ρ o).run Try.prog w = .ok (.value (.bool true)) w := by
  simp [execOp, ho, hx, hy, go_sem]
theorem run_pn59t (ho : o.op = .binOp .eql 59 x y 59) (hx : ρ x = .pointer none) (hy : ρ y = .pointer none) : (execOp ρ o).run Try.prog w = .ok (.value (.bool true)) w := by
  simp [execOp, ho, hx, hy, go_sem]
theorem run_alloc42 (ho : o.op = .alloc 42) : (execOp ρ o).run Try.prog w = .ok (.value (.pointer (some ⟨w.heap.size, 0, none⟩))) (w.alloc (.cells #[.slice none 0 0] 42)) := by
  simp [execOp, ho, go_sem]
theorem run_alloc68 (ho : o.op = .alloc 68) : (execOp ρ o).run Try.prog w = .ok (.value (.pointer (some ⟨w.heap.size, 0, none⟩))) (w.alloc (.cells #[.nilFunc] 68)) := by
  simp [execOp, ho, go_sem]
theorem run_mkf35 (ho : o.op = .makeFunc (.func 35) #[] #[x, y, z]) (hx : ρ x = v1) (hy : ρ y = v2) (hz : ρ z = v3) : (execOp ρ o).run Try.prog w = .ok (.value (.func (.func 35) #[] #[v1, v2, v3])) w := by
  simp [execOp, ho, hx, hy, hz, go_sem]
theorem run_st68 {u : Value} {f : Fn} {a b : Array Value} (ho : o.op = .store 68 x y) (hx : ρ x = .pointer (some ⟨g, off, none⟩)) (hy : ρ y = .func f a b) (hc : w.cell? ⟨g, off, none⟩ = some u) (hz : w.frozen? ⟨g, off, none⟩ = false) : (execOp ρ o).run Try.prog w = .ok .skip (w.setCell ⟨g, off, none⟩ (.func f a b)) := by
  have hs := run_store Try.prog w ⟨g, off, none⟩ (.func f a b) .plain rfl
  simp [execOp, ho, hx, hy, go_sem, hc, hz, hs]
end
section
variable {O : Array Oper} {Q : Exit → Act → World → Prop} {rest : List Oper} {o : Oper} {a : Act} {w : World} {n d : Nat} {L : List (Nat × Value)} {x y : Operand} {ds : List Deferred}
theorem env_alloc42 (E : EnvD ds n L a) (hd : o.dst = some d) (hn : d < n) (hf : (L.map (·.1)).contains d = false) (hw : Region.wanted o (yielded O a.tmps) = true) (ho : o.op = .alloc 42)
    (k : ∀ a' w' b, w.heap.size = b → w'.heap[b]? = some (.cells #[.slice none 0 0] 42 (0, 0)) → Fr (fun _ => False) w w' → EnvD ds n ((d, .pointer (some ⟨b, 0, none⟩)) :: L) a' → wpList Try.prog O Q rest a' w') : wpList Try.prog O Q (o :: rest) a w :=
  env_put E hd hn hf hw (run_alloc42 ho) fun a' E' => k a' _ _ rfl (blk_alloc_new _ _) ((Fr.refl _ _).alloc _) E'
theorem env_alloc68 (E : EnvD ds n L a) (hd : o.dst = some d) (hn : d < n) (hf : (L.map (·.1)).contains d = false) (hw : Region.wanted o (yielded O a.tmps) = true) (ho : o.op = .alloc 68)
    (k : ∀ a' w' b, w.heap.size = b → w'.heap[b]? = some (.cells #[.nilFunc] 68 (0, 0)) → Fr (fun _ => False) w w' → EnvD ds n ((d, .pointer (some ⟨b, 0, none⟩)) :: L) a' → wpList Try.prog O Q rest a' w') : wpList Try.prog O Q (o :: rest) a w :=
  env_put E hd hn hf hw (run_alloc68 ho) fun a' E' => k a' _ _ rfl (blk_alloc_new _ _) ((Fr.refl _ _).alloc _) E'
end
/-- What the walk over the tree leaves, whatever the root. -/
def WkR (w : World) (bo B : Nat) (m : ByteArray → Option Bx) (q : Bx) (e : Ending) (w' : World) : Prop :=
  e = .returned (.tuple #[]) ∧ ∃ v' L, EnOf L m ∧ w'.heap[bo]? = some (.cells #[v'] 42 (0, 0)) ∧ oStr w' B v' (mtIds L q) ∧ Fr (fun k => k = bo ∨ B ≤ k) w w'
/-- What In hands back. -/
def InR (m : ByteArray → Option Bx) (q : Bx) (R : List ByteArray) : Prop := R.Pairwise sl ∧ ∀ s, s ∈ R ↔ ∃ c, m s = some c ∧ mtB c q
theorem InR.of {m : ByteArray → Option Bx} {L : List En} (h : EnOf L m) (q : Bx) : InR m q (srtS (mtIds L q)) := by
  refine ⟨srtS_lt (List.Nodup.sublist ((List.filter_sublist).map _) h.1), fun s => ?_⟩
  rw [(srtS_perm _).mem_iff]
  unfold mtIds
  constructor
  · intro hs
    obtain ⟨x, hx, rfl⟩ := List.mem_map.1 hs
    have h1 := List.mem_filter.1 hx
    exact ⟨x.2, (h.2 x.1 x.2).1 h1.1, by simpa using h1.2⟩
  · rintro ⟨c, h1, h2⟩
    exact List.mem_map.2 ⟨(s, c), List.mem_filter.2 ⟨(h.2 s c).2 h1, by simpa using h2⟩, rfl⟩
/-- An index that was asked, and keeps its entries. -/
def IxKeep (w : World) (p mb N : Nat) (S : Nat → Prop) (m : ByteArray → Option Bx) (C : Nat) (w' : World) : Prop := ∃ S' rv' pk', IxAt w' p mb N S' m rv' pk' ∧ Fr (fun k => k = p) w w' ∧ ∀ k, S' k → (S k ∨ w.heap.size ≤ k) ∧ k < C
def InP (w : World) (p mb N : Nat) (S : Nat → Prop) (m : ByteArray → Option Bx) (q : Bx) (e : Ending) (w' : World) : Prop :=
  ∃ v R C, e = .returned v ∧ w.heap.size ≤ C ∧ oStr w' C v R ∧ (if okB q then InR m q R else R = []) ∧ IxKeep w p mb N S m C w'

set_option maxRecDepth 100000 in
set_option maxHeartbeats 4000000 in
theorem walk_nil {v1 v2 v3 : Value} (w : World) : Calls Try.prog 35 #[.pointer none, v1, v2, v3] w fun e w' => e = .returned (.tuple #[]) ∧ Fr (fun _ => False) w w' := by
  refine wp_start4 Try.func35 rfl rfl (n := 43) (by decide) fun a E => ?_
  have hf : Fr (fun _ => False) w w := Fr.refl _ _
  refine wp_seq ?_
  refine wp_seq ?_
  refine wp_region_invg (n := 43) (base := [(0, Value.pointer none), (1, v1), (2, v2), (3, v3)]) (T := [some (7, Value.pointer none), some (8, .bool true), some (9, .bool true), some (10, undef), some (11, undef), some (12, undef), some (13, undef), some (14, undef), some (15, undef), some (16, undef), some (17, .bool true)]) (M := fun _ wm => Fr (fun _ => False) w wm) (by kernel_rfl) (by kernel_rfl) (by kernel_rfl) (E.of ⟨E.get 0 rfl, E.get 1 rfl, E.get 2 rfl, E.get 3 rfl, trivial⟩) (Fr.refl _ _).drew ?_ ?_
  · intro j9 o9 t9 ls9 a w5 ho hT0 hl E D DL hM
    match j9, ho, hT0, hl, D, DL with
    | 0, ho, hT0, hl, D, DL =>
      obtain rfl := Option.some.inj ho
      obtain rfl := Option.some.inj hT0
      clear ho hT0
      exact ⟨fun _ => val_wp (run_move rfl (E.get 0 rfl)) rfl hM, fun h => by rw [wanted_none rfl] at h; cases h⟩
    | 1, ho, hT0, hl, D, DL =>
      obtain rfl := Option.some.inj ho
      obtain rfl := Option.some.inj hT0
      clear ho hT0
      exact ⟨fun _ => val_wp (run_pn59t rfl (D 0 _ rfl rfl) rfl) rfl hM, fun h => by rw [wanted_none rfl] at h; cases h⟩
    | 2, ho, hT0, hl, D, DL =>
      obtain rfl := Option.some.inj ho
      obtain rfl := Option.some.inj hT0
      clear ho hT0
      exact ⟨fun _ => val_wp (run_move rfl (D 1 _ rfl rfl)) rfl hM, fun h => by rw [wanted_none rfl] at h; cases h⟩
    | 3, ho, hT0, hl, D, DL =>
      obtain rfl := Option.some.inj ho
      obtain rfl := Option.some.inj hT0
      clear ho hT0
      exact ⟨fun h => (by rw [w_no (g := 2) (s := 9) (b := false) E rfl rfl (by decide) (D 2 _ rfl rfl)] at h; cases h), fun _ => ⟨fun x hx => by cases hx; rfl, hM⟩⟩
    | 4, ho, hT0, hl, D, DL =>
      obtain rfl := Option.some.inj ho
      obtain rfl := Option.some.inj hT0
      clear ho hT0
      exact ⟨fun h => (by rw [w_no (g := 2) (s := 9) (b := false) E rfl rfl (by decide) (D 2 _ rfl rfl)] at h; cases h), fun _ => ⟨fun x hx => by cases hx; rfl, hM⟩⟩
    | 5, ho, hT0, hl, D, DL =>
      obtain rfl := Option.some.inj ho
      obtain rfl := Option.some.inj hT0
      clear ho hT0
      exact ⟨fun h => (by rw [w_no (g := 2) (s := 9) (b := false) E rfl rfl (by decide) (D 2 _ rfl rfl)] at h; cases h), fun _ => ⟨fun x hx => by cases hx; rfl, hM⟩⟩
    | 6, ho, hT0, hl, D, DL =>
      obtain rfl := Option.some.inj ho
      obtain rfl := Option.some.inj hT0
      clear ho hT0
      exact ⟨fun h => (by rw [w_no (g := 2) (s := 9) (b := false) E rfl rfl (by decide) (D 2 _ rfl rfl)] at h; cases h), fun _ => ⟨fun x hx => by cases hx; rfl, hM⟩⟩
    | 7, ho, hT0, hl, D, DL =>
      obtain rfl := Option.some.inj ho
      obtain rfl := Option.some.inj hT0
      clear ho hT0
      exact ⟨fun h => (by rw [w_no (g := 2) (s := 9) (b := false) E rfl rfl (by decide) (D 2 _ rfl rfl)] at h; cases h), fun _ => ⟨fun x hx => by cases hx; rfl, hM⟩⟩
    | 8, ho, hT0, hl, D, DL =>
      obtain rfl := Option.some.inj ho
      obtain rfl := Option.some.inj hT0
      clear ho hT0
      exact ⟨fun h => (by rw [w_no (g := 2) (s := 9) (b := false) E rfl rfl (by decide) (D 2 _ rfl rfl)] at h; cases h), fun _ => ⟨fun x hx => by cases hx; rfl, hM⟩⟩
    | 9, ho, hT0, hl, D, DL =>
      obtain rfl := Option.some.inj ho
      obtain rfl := Option.some.inj hT0
      clear ho hT0
      exact ⟨fun h => (by rw [w_no (g := 2) (s := 9) (b := false) E rfl rfl (by decide) (D 2 _ rfl rfl)] at h; cases h), fun _ => ⟨fun x hx => by cases hx; rfl, hM⟩⟩
    | 10, ho, hT0, hl, D, DL =>
      obtain rfl := Option.some.inj ho
      obtain rfl := Option.some.inj hT0
      clear ho hT0
      exact ⟨fun _ => val_wp (run_pick_t rfl (D 2 _ rfl rfl) rfl) rfl hM, fun h => by rw [wanted_none rfl] at h; cases h⟩
    | j9 + 11, ho, hT0, hl, D, DL => exact absurd hT0 (by simp)
  · intro a w5 E V hM
    have E := E.add (V 10 _ rfl)
    clear V
    have hf := hf.trans hM
    clear hM
    refine then_n ?_
    refine wp_cond_true (E.get 0 rfl) ?_
    refine wp_ret ?_
    refine then_r ?_
    exact (ret_nil rfl E ⟨rfl, hf⟩).2
theorem walkR_calls {w : World} {p mb N bq bo bw B : Nat} {S : Nat → Prop} {m : ByteArray → Option Bx} {rv : Value} {q : Bx} (h : IxAt w p mb N S m rv true) (hN : N ≤ 100000) (hbo : bo < B) (hbq : bq < B) (hbw : bw < B) (nq : bq ≠ bo) (nw : bw ≠ bo) (hS : ∀ k, S k → k < B ∧ k ≠ bo) (hq : bxB w bq q) (hu : w.heap[bo]? = some (.cells #[.slice none 0 0] 42 (0, 0)))
    (hw : w.heap[bw]? = some (.cells #[(.func (.func 35) #[] #[.pointer (some ⟨bq, 0, none⟩), .pointer (some ⟨bo, 0, none⟩), .pointer (some ⟨bw, 0, none⟩)])] 68 (0, 0))) (hB : B ≤ w.heap.size) : Calls Try.prog 35 #[rv, .pointer (some ⟨bq, 0, none⟩), .pointer (some ⟨bo, 0, none⟩), .pointer (some ⟨bw, 0, none⟩)] w (WkR w bo B m q) := by
  rcases h.tree rfl with ⟨rfl, hn⟩ | ⟨n, pn, b, L, rfl, hNd, hE⟩
  · refine (walk_nil w).mono ?_
    rintro e w' ⟨he, hf⟩
    exact ⟨he, _, [], ⟨List.nodup_nil, fun s b => ⟨fun h => (by cases h), fun h => by rw [hn s] at h; cases h⟩⟩, hf.obj hu id, ow_nil _, hf.mono fun _ _ h => h.elim⟩
  · refine (walk_calls hbo hbq hbw nq nw hS n hNd (A := []) hq hu (ow_nil _) hw hB (by have := hE.len h.hm; simp; omega)).mono ?_
    rintro e w' ⟨he, v', h1, h2, h3⟩
    exact ⟨he, v', L, hE, h1, by simpa using h2, h3⟩

set_option maxRecDepth 100000 in
set_option maxHeartbeats 4000000 in
theorem in_nil (b : Bx) (w : World) : Calls Try.prog 19 #[.pointer none, .agg (bxC b)] w fun e w' => e = .returned (.slice none 0 0) ∧ Fr (fun _ => False) w w' := by
  refine wp_start2 Try.func19 rfl rfl (n := 52) (by decide) fun a E => ?_
  have hf : Fr (fun _ => False) w w := Fr.refl _ _
  refine wp_seq ?_
  refine wp_region_lit ?_
  have hfz := hf.size
  refine env_box26 (d := 3) E rfl (by decide) rfl (wanted_none rfl _) rfl (E.get 1 rfl) fun a w1 b35 eb35 hb35 f1 E => ?_
  have hf := hf.trans f1
  clear f1
  have hnb35 : w.heap.size ≤ b35 := by omega
  clear hfz eb35
  refine env_put (d := 4) (v := .slice none 0 0) E rfl (by decide) rfl (wanted_none rfl _) (run_assign rfl rfl) fun a E => ?_
  refine wpList_nil ?_
  refine then_n ?_
  refine wp_seq ?_
  refine wp_seq ?_
  refine wp_region_lit ?_
  refine env_put (d := 7) (v := Value.pointer none) E rfl (by decide) rfl (wanted_none rfl _) (run_move rfl (E.get 2 rfl)) fun a E => ?_
  refine env_put (d := 8) (v := .bool true) E rfl (by decide) rfl (wanted_none rfl _) (run_pn29t rfl (E.get 0 rfl) rfl) fun a E => ?_
  refine env_put (d := 9) (v := .bool true) E rfl (by decide) rfl (wanted_none rfl _) (run_move rfl (E.get 0 rfl)) fun a E => ?_
  refine env_skip (d := 10) (g := 2) (s := 9) E rfl (by decide) rfl rfl rfl (by decide) (E.get 0 rfl) fun a E => ?_
  refine env_skip (d := 11) (g := 2) (s := 9) E rfl (by decide) rfl rfl rfl (by decide) (E.get 1 rfl) fun a E => ?_
  refine env_skip (d := 12) (g := 2) (s := 9) E rfl (by decide) rfl rfl rfl (by decide) (E.get 2 rfl) fun a E => ?_
  refine env_skip (d := 13) (g := 2) (s := 9) E rfl (by decide) rfl rfl rfl (by decide) (E.get 3 rfl) fun a E => ?_
  refine env_skip (d := 14) (g := 2) (s := 9) E rfl (by decide) rfl rfl rfl (by decide) (E.get 4 rfl) fun a E => ?_
  refine env_skip (d := 15) (g := 2) (s := 9) E rfl (by decide) rfl rfl rfl (by decide) (E.get 5 rfl) fun a E => ?_
  refine env_skip (d := 16) (g := 2) (s := 9) E rfl (by decide) rfl rfl rfl (by decide) (E.get 6 rfl) fun a E => ?_
  refine env_skip (d := 17) (g := 2) (s := 9) E rfl (by decide) rfl rfl rfl (by decide) (E.get 7 rfl) fun a E => ?_
  refine env_skip (d := 18) (g := 2) (s := 9) E rfl (by decide) rfl rfl rfl (by decide) (E.get 8 rfl) fun a E => ?_
  refine env_skip (d := 19) (g := 2) (s := 9) E rfl (by decide) rfl rfl rfl (by decide) (E.get 9 rfl) fun a E => ?_
  refine env_skip (d := 20) (g := 2) (s := 9) E rfl (by decide) rfl rfl rfl (by decide) (E.get 10 rfl) fun a E => ?_
  refine env_skip (d := 21) (g := 2) (s := 9) E rfl (by decide) rfl rfl rfl (by decide) (E.get 11 rfl) fun a E => ?_
  refine env_skip (d := 22) (g := 2) (s := 9) E rfl (by decide) rfl rfl rfl (by decide) (E.get 12 rfl) fun a E => ?_
  refine env_skip (d := 23) (g := 2) (s := 9) E rfl (by decide) rfl rfl rfl (by decide) (E.get 13 rfl) fun a E => ?_
  refine env_skip (d := 24) (g := 2) (s := 9) E rfl (by decide) rfl rfl rfl (by decide) (E.get 14 rfl) fun a E => ?_
  refine env_put (d := 25) (v := .bool true) E rfl (by decide) rfl (wanted_none rfl _) (run_pick_t rfl (E.get 15 rfl) rfl) fun a E => ?_
  refine env_put (d := 26) (v := .bool true) E rfl (by decide) rfl (wanted_none rfl _) (run_move rfl (E.get 0 rfl)) fun a E => ?_
  refine env_skip (d := 27) (g := 19) (s := 26) E rfl (by decide) rfl rfl rfl (by decide) (E.get 0 rfl) fun a E => ?_
  refine env_skip (d := 28) (g := 19) (s := 26) E rfl (by decide) rfl rfl rfl (by decide) (E.get 1 rfl) fun a E => ?_
  refine env_skip (d := 29) (g := 19) (s := 26) E rfl (by decide) rfl rfl rfl (by decide) (E.get 2 rfl) fun a E => ?_
  refine env_skip (d := 30) (g := 19) (s := 26) E rfl (by decide) rfl rfl rfl (by decide) (E.get 3 rfl) fun a E => ?_
  refine env_skip (d := 31) (g := 19) (s := 26) E rfl (by decide) rfl rfl rfl (by decide) (E.get 4 rfl) fun a E => ?_
  refine env_skip (d := 32) (g := 19) (s := 26) E rfl (by decide) rfl rfl rfl (by decide) (E.get 5 rfl) fun a E => ?_
  refine env_skip (d := 33) (g := 19) (s := 26) E rfl (by decide) rfl rfl rfl (by decide) (E.get 6 rfl) fun a E => ?_
  refine env_put (d := 34) (v := .bool true) E rfl (by decide) rfl (wanted_none rfl _) (run_pick_t rfl (E.get 7 rfl) rfl) fun a E => ?_
  refine env_put (d := 35) (v := .bool true) E rfl (by decide) rfl (wanted_none rfl _) (run_move rfl (E.get 0 rfl)) fun a E => ?_
  refine env_skip (d := 36) (g := 28) (s := 35) E rfl (by decide) rfl rfl rfl (by decide) (E.get 0 rfl) fun a E => ?_
  refine env_skip (d := 37) (g := 28) (s := 35) E rfl (by decide) rfl rfl rfl (by decide) (E.get 1 rfl) fun a E => ?_
  refine env_skip (d := 38) (g := 28) (s := 35) E rfl (by decide) rfl rfl rfl (by decide) (E.get 2 rfl) fun a E => ?_
  refine env_skip (d := 39) (g := 28) (s := 35) E rfl (by decide) rfl rfl rfl (by decide) (E.get 3 rfl) fun a E => ?_
  refine env_skip (d := 40) (g := 28) (s := 35) E rfl (by decide) rfl rfl rfl (by decide) (E.get 4 rfl) fun a E => ?_
  refine env_skip (d := 41) (g := 28) (s := 35) E rfl (by decide) rfl rfl rfl (by decide) (E.get 5 rfl) fun a E => ?_
  refine env_skip (d := 42) (g := 28) (s := 35) E rfl (by decide) rfl rfl rfl (by decide) (E.get 6 rfl) fun a E => ?_
  refine env_put (d := 43) (v := .bool true) E rfl (by decide) rfl (wanted_none rfl _) (run_pick_t rfl (E.get 7 rfl) rfl) fun a E => ?_
  refine wpList_nil ?_
  refine then_n ?_
  refine wp_cond_true (E.get 0 rfl) ?_
  refine wp_seq ?_
  refine wp_region_lit ?_
  refine env_set (d := 4) (v := .slice none 0 0) E rfl (by decide) (wanted_none rfl _) (run_assign rfl rfl) fun a E => ?_
  refine wpList_nil ?_
  refine then_n ?_
  refine wp_ret ?_
  refine then_r ?_
  exact ret_tmp (t := 4) rfl E (E.get 0 rfl) ⟨rfl, hf⟩
set_option maxRecDepth 100000 in
set_option maxHeartbeats 4000000 in
theorem put_nil (s0 : ByteArray) (b : Bx) (w : World) : Calls Try.prog 29 #[.pointer none, .string s0, .agg (bxC b)] w fun e w' => e = .returned (.int .i64 1) ∧ Fr (fun _ => False) w w' := by
  refine wp_start3 Try.func29 rfl rfl (n := 73) (by decide) fun a E => ?_
  have hf : Fr (fun _ => False) w w := Fr.refl _ _
  refine wp_seq ?_
  refine wp_region_lit ?_
  have hfz := hf.size
  refine env_box26 (d := 5) E rfl (by decide) rfl (wanted_none rfl _) rfl (E.get 2 rfl) fun a w1 b36 eb36 hb36 f1 E => ?_
  have hf := hf.trans f1
  clear f1
  have hnb36 : w.heap.size ≤ b36 := by omega
  clear hfz eb36
  refine env_put (d := 6) (v := .int .i64 0) E rfl (by decide) rfl (wanted_none rfl _) (run_assign rfl rfl) fun a E => ?_
  refine wpList_nil ?_
  refine then_n ?_
  refine wp_seq ?_
  refine wp_seq ?_
  refine wp_region_lit ?_
  refine env_put (d := 9) (v := Value.pointer none) E rfl (by decide) rfl (wanted_none rfl _) (run_move rfl (E.get 2 rfl)) fun a E => ?_
  refine env_put (d := 10) (v := .bool true) E rfl (by decide) rfl (wanted_none rfl _) (run_pn29t rfl (E.get 0 rfl) rfl) fun a E => ?_
  refine env_put (d := 11) (v := .bool true) E rfl (by decide) rfl (wanted_none rfl _) (run_move rfl (E.get 0 rfl)) fun a E => ?_
  refine env_skip (d := 12) (g := 2) (s := 11) E rfl (by decide) rfl rfl rfl (by decide) (E.get 0 rfl) fun a E => ?_
  refine env_skip (d := 13) (g := 2) (s := 11) E rfl (by decide) rfl rfl rfl (by decide) (E.get 1 rfl) fun a E => ?_
  refine env_skip (d := 14) (g := 2) (s := 11) E rfl (by decide) rfl rfl rfl (by decide) (E.get 2 rfl) fun a E => ?_
  refine env_skip (d := 15) (g := 2) (s := 11) E rfl (by decide) rfl rfl rfl (by decide) (E.get 3 rfl) fun a E => ?_
  refine env_skip (d := 16) (g := 2) (s := 11) E rfl (by decide) rfl rfl rfl (by decide) (E.get 4 rfl) fun a E => ?_
  refine env_skip (d := 17) (g := 2) (s := 11) E rfl (by decide) rfl rfl rfl (by decide) (E.get 5 rfl) fun a E => ?_
  refine env_skip (d := 18) (g := 2) (s := 11) E rfl (by decide) rfl rfl rfl (by decide) (E.get 6 rfl) fun a E => ?_
  refine env_skip (d := 19) (g := 2) (s := 11) E rfl (by decide) rfl rfl rfl (by decide) (E.get 7 rfl) fun a E => ?_
  refine env_skip (d := 20) (g := 2) (s := 11) E rfl (by decide) rfl rfl rfl (by decide) (E.get 8 rfl) fun a E => ?_
  refine env_skip (d := 21) (g := 2) (s := 11) E rfl (by decide) rfl rfl rfl (by decide) (E.get 9 rfl) fun a E => ?_
  refine env_skip (d := 22) (g := 2) (s := 11) E rfl (by decide) rfl rfl rfl (by decide) (E.get 10 rfl) fun a E => ?_
  refine env_skip (d := 23) (g := 2) (s := 11) E rfl (by decide) rfl rfl rfl (by decide) (E.get 11 rfl) fun a E => ?_
  refine env_skip (d := 24) (g := 2) (s := 11) E rfl (by decide) rfl rfl rfl (by decide) (E.get 12 rfl) fun a E => ?_
  refine env_skip (d := 25) (g := 2) (s := 11) E rfl (by decide) rfl rfl rfl (by decide) (E.get 13 rfl) fun a E => ?_
  refine env_skip (d := 26) (g := 2) (s := 11) E rfl (by decide) rfl rfl rfl (by decide) (E.get 14 rfl) fun a E => ?_
  refine env_put (d := 27) (v := .bool true) E rfl (by decide) rfl (wanted_none rfl _) (run_pick_t rfl (E.get 15 rfl) rfl) fun a E => ?_
  refine env_put (d := 28) (v := .bool true) E rfl (by decide) rfl (wanted_none rfl _) (run_move rfl (E.get 0 rfl)) fun a E => ?_
  refine env_skip (d := 29) (g := 19) (s := 28) E rfl (by decide) rfl rfl rfl (by decide) (E.get 0 rfl) fun a E => ?_
  refine env_skip (d := 30) (g := 19) (s := 28) E rfl (by decide) rfl rfl rfl (by decide) (E.get 1 rfl) fun a E => ?_
  refine env_skip (d := 31) (g := 19) (s := 28) E rfl (by decide) rfl rfl rfl (by decide) (E.get 2 rfl) fun a E => ?_
  refine env_skip (d := 32) (g := 19) (s := 28) E rfl (by decide) rfl rfl rfl (by decide) (E.get 3 rfl) fun a E => ?_
  refine env_skip (d := 33) (g := 19) (s := 28) E rfl (by decide) rfl rfl rfl (by decide) (E.get 4 rfl) fun a E => ?_
  refine env_skip (d := 34) (g := 19) (s := 28) E rfl (by decide) rfl rfl rfl (by decide) (E.get 5 rfl) fun a E => ?_
  refine env_skip (d := 35) (g := 19) (s := 28) E rfl (by decide) rfl rfl rfl (by decide) (E.get 6 rfl) fun a E => ?_
  refine env_put (d := 36) (v := .bool true) E rfl (by decide) rfl (wanted_none rfl _) (run_pick_t rfl (E.get 7 rfl) rfl) fun a E => ?_
  refine env_put (d := 37) (v := .bool true) E rfl (by decide) rfl (wanted_none rfl _) (run_move rfl (E.get 0 rfl)) fun a E => ?_
  refine env_skip (d := 38) (g := 28) (s := 37) E rfl (by decide) rfl rfl rfl (by decide) (E.get 0 rfl) fun a E => ?_
  refine env_skip (d := 39) (g := 28) (s := 37) E rfl (by decide) rfl rfl rfl (by decide) (E.get 1 rfl) fun a E => ?_
  refine env_skip (d := 40) (g := 28) (s := 37) E rfl (by decide) rfl rfl rfl (by decide) (E.get 2 rfl) fun a E => ?_
  refine env_skip (d := 41) (g := 28) (s := 37) E rfl (by decide) rfl rfl rfl (by decide) (E.get 3 rfl) fun a E => ?_
  refine env_skip (d := 42) (g := 28) (s := 37) E rfl (by decide) rfl rfl rfl (by decide) (E.get 4 rfl) fun a E => ?_
  refine env_skip (d := 43) (g := 28) (s := 37) E rfl (by decide) rfl rfl rfl (by decide) (E.get 5 rfl) fun a E => ?_
  refine env_skip (d := 44) (g := 28) (s := 37) E rfl (by decide) rfl rfl rfl (by decide) (E.get 6 rfl) fun a E => ?_
  refine env_put (d := 45) (v := .bool true) E rfl (by decide) rfl (wanted_none rfl _) (run_pick_t rfl (E.get 7 rfl) rfl) fun a E => ?_
  refine wpList_nil ?_
  refine then_n ?_
  refine wp_cond_true (E.get 0 rfl) ?_
  refine wp_seq ?_
  refine wp_region_lit ?_
  refine env_set (d := 6) (v := .int .i64 1) E rfl (by decide) (wanted_none rfl _) (run_assign rfl rfl) fun a E => ?_
  refine wpList_nil ?_
  refine then_n ?_
  refine wp_ret ?_
  refine then_r ?_
  exact ret_tmp (t := 6) rfl E (E.get 0 rfl) ⟨rfl, hf⟩
set_option maxRecDepth 100000 in
set_option maxHeartbeats 4000000 in
theorem in_calls {w : World} {p mb N : Nat} {S : Nat → Prop} {m : ByteArray → Option Bx} {rv : Value} {pk : Bool} (h : IxAt w p mb N S m rv pk) (hNb : N ≤ 100000) (b : Bx) : Calls Try.prog 19 #[.pointer (some ⟨p, 0, none⟩), .agg (bxC b)] w (InP w p mb N S m b) := by
  have h0 := h
  refine wp_start2 Try.func19 rfl rfl (n := 52) (by decide) fun a E => ?_
  have hf : Fr (fun _ => False) w w := Fr.refl _ _
  have hpl : p < w.heap.size := lt_of_blk h.hp
  have hml : mb < w.heap.size := h.hm.lt
  have hσ : ∀ k, S k → k < w.heap.size := h.lt
  refine wp_seq ?_
  refine wp_region_lit ?_
  have hfz := hf.size
  refine env_box26 (d := 3) E rfl (by decide) rfl (wanted_none rfl _) rfl (E.get 1 rfl) fun a w1 b37 eb37 hb37 f1 E => ?_
  have h := IxAt.fr h f1 id id (fun _ _ h => h)
  have hf := hf.trans f1
  clear f1
  have hnb37 : w.heap.size ≤ b37 := by omega
  clear hfz eb37
  refine env_put (d := 4) (v := .slice none 0 0) E rfl (by decide) rfl (wanted_none rfl _) (run_assign rfl rfl) fun a E => ?_
  refine wpList_nil ?_
  refine then_n ?_
  refine wp_seq ?_
  refine wp_seq ?_
  refine wp_region_lit ?_
  refine env_put (d := 7) (v := .pointer (some ⟨p, 0, none⟩)) E rfl (by decide) rfl (wanted_none rfl _) (run_move rfl (E.get 2 rfl)) fun a E => ?_
  refine env_put (d := 8) (v := .bool false) E rfl (by decide) rfl (wanted_none rfl _) (run_pn29 rfl (E.get 0 rfl) rfl) fun a E => ?_
  refine env_put (d := 9) (v := .bool false) E rfl (by decide) rfl (wanted_none rfl _) (run_move rfl (E.get 0 rfl)) fun a E => ?_
  refine env_put (d := 10) (v := .pointer (some ⟨b37, 0, none⟩)) E rfl (by decide) rfl (w_yes (g := 2) (s := 9) E rfl rfl (by decide) (E.get 0 rfl)) (fa26_0 rfl (E.get 4 rfl)) fun a E => ?_
  refine env_put (d := 11) (v := .pointer (some ⟨b37, 0, none⟩)) E rfl (by decide) rfl (w_yes (g := 2) (s := 9) E rfl rfl (by decide) (E.get 1 rfl)) (fa24_0 rfl (E.get 0 rfl)) fun a E => ?_
  refine env_put (d := 12) (v := .int .i64 b.1.1) E rfl (by decide) rfl (w_yes (g := 2) (s := 9) E rfl rfl (by decide) (E.get 2 rfl)) (run_ldi rfl (E.get 0 rfl) (bx hb37 0 rfl)) fun a E => ?_
  refine env_put (d := 13) (v := .pointer (some ⟨b37, 0, none⟩)) E rfl (by decide) rfl (w_yes (g := 2) (s := 9) E rfl rfl (by decide) (E.get 3 rfl)) (fa26_0 rfl (E.get 7 rfl)) fun a E => ?_
  refine env_put (d := 14) (v := .pointer (some ⟨b37, 1, none⟩)) E rfl (by decide) rfl (w_yes (g := 2) (s := 9) E rfl rfl (by decide) (E.get 4 rfl)) (fa24_1 rfl (E.get 0 rfl)) fun a E => ?_
  refine env_put (d := 15) (v := .int .i64 b.1.2) E rfl (by decide) rfl (w_yes (g := 2) (s := 9) E rfl rfl (by decide) (E.get 5 rfl)) (run_ldi rfl (E.get 0 rfl) (bx hb37 1 rfl)) fun a E => ?_
  refine env_put (d := 16) (v := .pointer (some ⟨b37, 2, none⟩)) E rfl (by decide) rfl (w_yes (g := 2) (s := 9) E rfl rfl (by decide) (E.get 6 rfl)) (fa26_1 rfl (E.get 10 rfl)) fun a E => ?_
  refine env_put (d := 17) (v := .pointer (some ⟨b37, 2, none⟩)) E rfl (by decide) rfl (w_yes (g := 2) (s := 9) E rfl rfl (by decide) (E.get 7 rfl)) (fa24_0 rfl (E.get 0 rfl)) fun a E => ?_
  refine env_put (d := 18) (v := .int .i64 b.2.1) E rfl (by decide) rfl (w_yes (g := 2) (s := 9) E rfl rfl (by decide) (E.get 8 rfl)) (run_ldi rfl (E.get 0 rfl) (bx hb37 2 rfl)) fun a E => ?_
  refine env_put (d := 19) (v := .pointer (some ⟨b37, 2, none⟩)) E rfl (by decide) rfl (w_yes (g := 2) (s := 9) E rfl rfl (by decide) (E.get 9 rfl)) (fa26_1 rfl (E.get 13 rfl)) fun a E => ?_
  refine env_put (d := 20) (v := .pointer (some ⟨b37, 3, none⟩)) E rfl (by decide) rfl (w_yes (g := 2) (s := 9) E rfl rfl (by decide) (E.get 10 rfl)) (fa24_1 rfl (E.get 0 rfl)) fun a E => ?_
  refine env_put (d := 21) (v := .int .i64 b.2.2) E rfl (by decide) rfl (w_yes (g := 2) (s := 9) E rfl rfl (by decide) (E.get 11 rfl)) (run_ldi rfl (E.get 0 rfl) (bx hb37 3 rfl)) fun a E => ?_
  refine env_four87 (d := 22) E rfl (by decide) rfl (w_yes (g := 2) (s := 9) E rfl rfl (by decide) (E.get 12 rfl)) rfl (E.get 9 rfl) (E.get 6 rfl) (E.get 3 rfl) (E.get 0 rfl) fun a w1 b38 hs4 f1 E => ?_
  have h := IxAt.fr h f1 id id (fun _ _ h => h)
  have hb37 := f1.obj hb37 id
  have hf := hf.trans f1
  clear f1
  refine env_call (d := 23) (v := .bool (List.all [b.1.1, b.1.2, b.2.1, b.2.2] fun n9 => decide (isI n9))) E rfl (by decide) rfl (w_yes (g := 2) (s := 9) E rfl rfl (by decide) (E.get 13 rfl)) (run_call1 (enters_of Try.func34 (by kernel_rfl) rfl) rfl rfl (E.get 0 rfl)) (val_calls hs4 (by simp)) fun a w1 f1 E => ?_
  have h := IxAt.fr h f1 id id (fun _ _ h => h)
  have hb37 := f1.obj hb37 id
  have hs4 := hs4.fr f1 (fun _ _ h => h)
  have hf := hf.trans f1
  clear f1
  refine env_put (d := 24) (v := .bool (!(List.all [b.1.1, b.1.2, b.2.1, b.2.2] fun n9 => decide (isI n9)))) E rfl (by decide) rfl (w_yes (g := 2) (s := 9) E rfl rfl (by decide) (E.get 14 rfl)) (run_not rfl (E.get 0 rfl)) fun a E => ?_
  refine env_put (d := 25) (v := .bool (!(List.all [b.1.1, b.1.2, b.2.1, b.2.2] fun n9 => decide (isI n9)))) E rfl (by decide) rfl (wanted_none rfl _) (run_pick_f rfl (E.get 15 rfl) (E.get 0 rfl)) fun a E => ?_
  refine env_put (d := 26) (v := .bool (!(List.all [b.1.1, b.1.2, b.2.1, b.2.2] fun n9 => decide (isI n9)))) E rfl (by decide) rfl (wanted_none rfl _) (run_move rfl (E.get 0 rfl)) fun a E => ?_
  cases hq39 : (List.all [b.1.1, b.1.2, b.2.1, b.2.2] fun n9 => decide (isI n9)) with
  | false =>
    rw [hq39] at E
    refine env_skip (d := 27) (g := 19) (s := 26) E rfl (by decide) rfl rfl rfl (by decide) (E.get 0 rfl) fun a E => ?_
    refine env_skip (d := 28) (g := 19) (s := 26) E rfl (by decide) rfl rfl rfl (by decide) (E.get 1 rfl) fun a E => ?_
    refine env_skip (d := 29) (g := 19) (s := 26) E rfl (by decide) rfl rfl rfl (by decide) (E.get 2 rfl) fun a E => ?_
    refine env_skip (d := 30) (g := 19) (s := 26) E rfl (by decide) rfl rfl rfl (by decide) (E.get 3 rfl) fun a E => ?_
    refine env_skip (d := 31) (g := 19) (s := 26) E rfl (by decide) rfl rfl rfl (by decide) (E.get 4 rfl) fun a E => ?_
    refine env_skip (d := 32) (g := 19) (s := 26) E rfl (by decide) rfl rfl rfl (by decide) (E.get 5 rfl) fun a E => ?_
    refine env_skip (d := 33) (g := 19) (s := 26) E rfl (by decide) rfl rfl rfl (by decide) (E.get 6 rfl) fun a E => ?_
    refine env_put (d := 34) (v := .bool true) E rfl (by decide) rfl (wanted_none rfl _) (run_pick_t rfl (E.get 7 rfl) rfl) fun a E => ?_
    refine env_put (d := 35) (v := .bool true) E rfl (by decide) rfl (wanted_none rfl _) (run_move rfl (E.get 0 rfl)) fun a E => ?_
    refine env_skip (d := 36) (g := 28) (s := 35) E rfl (by decide) rfl rfl rfl (by decide) (E.get 0 rfl) fun a E => ?_
    refine env_skip (d := 37) (g := 28) (s := 35) E rfl (by decide) rfl rfl rfl (by decide) (E.get 1 rfl) fun a E => ?_
    refine env_skip (d := 38) (g := 28) (s := 35) E rfl (by decide) rfl rfl rfl (by decide) (E.get 2 rfl) fun a E => ?_
    refine env_skip (d := 39) (g := 28) (s := 35) E rfl (by decide) rfl rfl rfl (by decide) (E.get 3 rfl) fun a E => ?_
    refine env_skip (d := 40) (g := 28) (s := 35) E rfl (by decide) rfl rfl rfl (by decide) (E.get 4 rfl) fun a E => ?_
    refine env_skip (d := 41) (g := 28) (s := 35) E rfl (by decide) rfl rfl rfl (by decide) (E.get 5 rfl) fun a E => ?_
    refine env_skip (d := 42) (g := 28) (s := 35) E rfl (by decide) rfl rfl rfl (by decide) (E.get 6 rfl) fun a E => ?_
    refine env_put (d := 43) (v := .bool true) E rfl (by decide) rfl (wanted_none rfl _) (run_pick_t rfl (E.get 7 rfl) rfl) fun a E => ?_
    refine wpList_nil ?_
    refine then_n ?_
    refine wp_cond_true (E.get 0 rfl) ?_
    refine wp_seq ?_
    refine wp_region_lit ?_
    refine env_set (d := 4) (v := .slice none 0 0) E rfl (by decide) (wanted_none rfl _) (run_assign rfl rfl) fun a E => ?_
    refine wpList_nil ?_
    refine then_n ?_
    refine wp_ret ?_
    refine then_r ?_
    have hno : ¬ okB b := fun hok => by
      have hal := okB_all hok
      first | (rw [hal] at hq39; exact Bool.noConfusion hq39) | (obtain ⟨_, _, q1, q2⟩ := hok; omega)
    refine ret_tmp (t := 4) rfl E (E.get 0 rfl) ?_
    exact ⟨_, [], w.heap.size, rfl, Nat.le_refl _, ow_nil _, by rw [if_neg hno], S, rv, pk, h, hf.mono fun _ _ h => h.elim, fun k hk => ⟨.inl hk, h0.lt k hk⟩⟩
  | true =>
    rw [hq39] at E
    refine env_put (d := 27) (v := .pointer (some ⟨b37, 0, none⟩)) E rfl (by decide) rfl (w_yes (g := 19) (s := 26) E rfl rfl (by decide) (E.get 0 rfl)) (fa26_0 rfl (E.get 21 rfl)) fun a E => ?_
    refine env_put (d := 28) (v := .pointer (some ⟨b37, 0, none⟩)) E rfl (by decide) rfl (w_yes (g := 19) (s := 26) E rfl rfl (by decide) (E.get 1 rfl)) (fa24_0 rfl (E.get 0 rfl)) fun a E => ?_
    refine env_put (d := 29) (v := .int .i64 b.1.1) E rfl (by decide) rfl (w_yes (g := 19) (s := 26) E rfl rfl (by decide) (E.get 2 rfl)) (run_ldi rfl (E.get 0 rfl) (bx hb37 0 rfl)) fun a E => ?_
    refine env_put (d := 30) (v := .pointer (some ⟨b37, 2, none⟩)) E rfl (by decide) rfl (w_yes (g := 19) (s := 26) E rfl rfl (by decide) (E.get 3 rfl)) (fa26_1 rfl (E.get 24 rfl)) fun a E => ?_
    refine env_put (d := 31) (v := .pointer (some ⟨b37, 2, none⟩)) E rfl (by decide) rfl (w_yes (g := 19) (s := 26) E rfl rfl (by decide) (E.get 4 rfl)) (fa24_0 rfl (E.get 0 rfl)) fun a E => ?_
    refine env_put (d := 32) (v := .int .i64 b.2.1) E rfl (by decide) rfl (w_yes (g := 19) (s := 26) E rfl rfl (by decide) (E.get 5 rfl)) (run_ldi rfl (E.get 0 rfl) (bx hb37 2 rfl)) fun a E => ?_
    refine env_put (d := 33) (v := .bool (decide (b.2.1 < b.1.1))) E rfl (by decide) rfl (w_yes (g := 19) (s := 26) E rfl rfl (by decide) (E.get 6 rfl)) (run_igtr (E.get 3 rfl) (E.get 0 rfl) Try.underlying3 rfl) fun a E => ?_
    refine env_put (d := 34) (v := .bool (decide (b.2.1 < b.1.1))) E rfl (by decide) rfl (wanted_none rfl _) (run_pick_f rfl (E.get 7 rfl) (E.get 0 rfl)) fun a E => ?_
    refine env_put (d := 35) (v := .bool (decide (b.2.1 < b.1.1))) E rfl (by decide) rfl (wanted_none rfl _) (run_move rfl (E.get 0 rfl)) fun a E => ?_
    cases hq40 : (decide (b.2.1 < b.1.1)) with
    | false =>
      rw [hq40] at E
      refine env_put (d := 36) (v := .pointer (some ⟨b37, 0, none⟩)) E rfl (by decide) rfl (w_yes (g := 28) (s := 35) E rfl rfl (by decide) (E.get 0 rfl)) (fa26_0 rfl (E.get 30 rfl)) fun a E => ?_
      refine env_put (d := 37) (v := .pointer (some ⟨b37, 1, none⟩)) E rfl (by decide) rfl (w_yes (g := 28) (s := 35) E rfl rfl (by decide) (E.get 1 rfl)) (fa24_1 rfl (E.get 0 rfl)) fun a E => ?_
      refine env_put (d := 38) (v := .int .i64 b.1.2) E rfl (by decide) rfl (w_yes (g := 28) (s := 35) E rfl rfl (by decide) (E.get 2 rfl)) (run_ldi rfl (E.get 0 rfl) (bx hb37 1 rfl)) fun a E => ?_
      refine env_put (d := 39) (v := .pointer (some ⟨b37, 2, none⟩)) E rfl (by decide) rfl (w_yes (g := 28) (s := 35) E rfl rfl (by decide) (E.get 3 rfl)) (fa26_1 rfl (E.get 33 rfl)) fun a E => ?_
      refine env_put (d := 40) (v := .pointer (some ⟨b37, 3, none⟩)) E rfl (by decide) rfl (w_yes (g := 28) (s := 35) E rfl rfl (by decide) (E.get 4 rfl)) (fa24_1 rfl (E.get 0 rfl)) fun a E => ?_
      refine env_put (d := 41) (v := .int .i64 b.2.2) E rfl (by decide) rfl (w_yes (g := 28) (s := 35) E rfl rfl (by decide) (E.get 5 rfl)) (run_ldi rfl (E.get 0 rfl) (bx hb37 3 rfl)) fun a E => ?_
      refine env_put (d := 42) (v := .bool (decide (b.2.2 < b.1.2))) E rfl (by decide) rfl (w_yes (g := 28) (s := 35) E rfl rfl (by decide) (E.get 6 rfl)) (run_igtr (E.get 3 rfl) (E.get 0 rfl) Try.underlying3 rfl) fun a E => ?_
      refine env_put (d := 43) (v := .bool (decide (b.2.2 < b.1.2))) E rfl (by decide) rfl (wanted_none rfl _) (run_pick_f rfl (E.get 7 rfl) (E.get 0 rfl)) fun a E => ?_
      refine wpList_nil ?_
      refine then_n ?_
      cases hq41 : (decide (b.2.2 < b.1.2)) with
      | false =>
        rw [hq41] at E
        refine wp_cond_false (E.get 0 rfl) ?_
        refine wp_skip ?_
        refine then_n ?_
        refine wp_seq ?_
        have khq40 := of_decide_eq_false hq40
        have khq41 := of_decide_eq_false hq41
        have hok : okB b := okB_of hq39 (by omega) (by omega)
        have hsz0 := hf.size
        have hbq0 := lt_of_blk hb37
        refine wp_region_lit ?_
        refine env_alloc42 (d := 5) E rfl (by decide) rfl (wanted_none rfl _) rfl fun a w1 bo ebo hbo f1 E => ?_
        have h := IxAt.fr h f1 id id (fun _ _ h => h)
        have hb37 := f1.obj hb37 id
        have hf := hf.trans f1
        clear f1
        have hbol := lt_of_blk hbo
        refine wpList_nil ?_
        refine then_n ?_
        refine wp_seq ?_
        refine wp_region_lit ?_
        refine env_alloc68 (d := 6) E rfl (by decide) rfl (wanted_none rfl _) rfl fun a w1 bw ebw hbw f1 E => ?_
        have h := IxAt.fr h f1 id id (fun _ _ h => h)
        have hb37 := f1.obj hb37 id
        have hbo := f1.obj hbo id
        have hf := hf.trans f1
        clear f1
        have hbwl := lt_of_blk hbw
        refine wpList_nil ?_
        refine then_n ?_
        refine wp_seq ?_
        refine wp_region_lit ?_
        refine env_put (d := 44) (v := (.func (.func 35) #[] #[.pointer (some ⟨b37, 0, none⟩), .pointer (some ⟨bo, 0, none⟩), .pointer (some ⟨bw, 0, none⟩)])) E rfl (by decide) rfl (wanted_none rfl _) (run_mkf35 rfl (E.get 40 rfl) (E.get 1 rfl) (E.get 0 rfl)) fun a E => ?_
        refine env_store E rfl (wanted_none rfl _) (run_st68 rfl (E.get 1 rfl) (E.get 0 rfl) (bx hbw 0 rfl) (free_of_blk hbw 0)) fun E => ?_
        have hbw2 := blk_setCell_same (off := 0) hbw (.func (.func 35) #[] #[.pointer (some ⟨b37, 0, none⟩), .pointer (some ⟨bo, 0, none⟩), .pointer (some ⟨bw, 0, none⟩)])
        have g1 := (Fr.refl (fun k => k = bw) w1).setCell (p := ⟨bw, 0, none⟩) (fun _ => rfl) (.func (.func 35) #[] #[.pointer (some ⟨b37, 0, none⟩), .pointer (some ⟨bo, 0, none⟩), .pointer (some ⟨bw, 0, none⟩)])
        obtain ⟨w6, hw6⟩ : ∃ w6, w6 = w1.setCell ⟨bw, 0, none⟩ (.func (.func 35) #[] #[.pointer (some ⟨b37, 0, none⟩), .pointer (some ⟨bo, 0, none⟩), .pointer (some ⟨bw, 0, none⟩)]) := ⟨_, rfl⟩
        rw [← hw6] at hbw2 g1 ⊢
        have h := IxAt.fr h g1 (by omega) (by omega) (fun k hk e => by have := hσ k hk; omega)
        have hf := hf.trans' g1 (fun r hr e => by omega)
        have hbo := g1.obj hbo (by omega)
        have hq := g1.obj hb37 (by omega)
        have hwz := lt_of_blk hbw2
        have hg1 := g1.size
        have hbqb := lt_of_blk hq
        have hbob := lt_of_blk hbo
        clear hbw g1 hw6
        refine wpList_nil ?_
        refine then_n ?_
        refine wp_seq ?_
        refine wp_region_invx (G := Value × (Nat → Prop) × Nat) (undef, (fun _ => False), 0) (n := 52) (base := [(6, .pointer (some ⟨bw, 0, none⟩)), (5, .pointer (some ⟨bo, 0, none⟩)), (0, .pointer (some ⟨p, 0, none⟩))]) (U := []) (T := fun γ => [some (45, (.func (.func 35) #[] #[.pointer (some ⟨b37, 0, none⟩), .pointer (some ⟨bo, 0, none⟩), .pointer (some ⟨bw, 0, none⟩)])), some (46, .pointer (some ⟨p, 0, none⟩)), some (47, γ.1), some (48, .tuple #[])]) (M := fun γ ls9 wm => Fr (fun k => k = p ∨ k = bo) w6 wm ∧ (ls9 3 = false → wm.heap[bo]? = some (.cells #[.slice none 0 0] 42 (0, 0))) ∧ (ls9 2 = false → IxAt wm p mb N S m rv pk) ∧ (ls9 2 = true → IxAt wm p mb N γ.2.1 m γ.1 true ∧ (∀ k, γ.2.1 k → (S k ∨ w6.heap.size ≤ k) ∧ k < γ.2.2) ∧ w6.heap.size ≤ γ.2.2 ∧ γ.2.2 ≤ wm.heap.size) ∧ (ls9 3 = true → ∃ v9 L9, EnOf L9 m ∧ wm.heap[bo]? = some (.cells #[v9] 42 (0, 0)) ∧ oStr wm γ.2.2 v9 (mtIds L9 b))) (by kernel_rfl) (by kernel_rfl) (fun _ => by kernel_rfl) (E.of ⟨E.get 1 rfl, E.get 2 rfl, E.get 42 rfl, trivial⟩) (fun x hx => by cases hx) ⟨(Fr.refl _ _).drew, fun _ => hbo, fun _ => h.fr (Fr.refl (fun _ => False) w6).drew id id (fun _ _ h => h), fun e => absurd e Bool.false_ne_true, fun e => absurd e Bool.false_ne_true⟩ ?_ ?_
        · intro j9 o9 γ ls9 a w5 ho hl E D DL DL2 hB hM
          obtain ⟨m1, m2, m3, m4, m5⟩ := hM
          have hbw5 := m1.obj hbw2 (by omega)
          have hq5 := m1.obj hq (by omega)
          match j9, ho, hl, D, DL, hB with
          | 0, ho, hl, D, DL, hB =>
            obtain rfl := Option.some.inj ho
            exact ⟨fun _ => valx rfl (run_ld68 rfl (E.get 0 rfl) (bx hbw5 0 rfl)) rfl ⟨m1, m2, m3, m4, m5⟩, fun h => by rw [wanted_none rfl] at h; cases h⟩
          | 1, ho, hl, D, DL, hB =>
            obtain rfl := Option.some.inj ho
            exact ⟨fun _ => valx rfl (run_move rfl (E.get 2 rfl)) rfl ⟨m1, m2, m3, m4, m5⟩, fun h => by rw [wanted_none rfl] at h; cases h⟩
          | 2, ho, hl, D, DL, hB =>
            have h39 : ls9 3 = false := by
              cases h8 : ls9 3 with
              | false => rfl
              | true => exact absurd (hl.symm.trans (DL2 3 2 rfl h8)) (by decide)
            have h7 := m3 hl
            have hbo7 := m2 h39
            obtain rfl := Option.some.inj ho
            refine ⟨fun _ => callxw (run_call1 (enters_of Try.func37 (by kernel_rfl) rfl) rfl rfl (D 1 _ rfl rfl)) ((tree_calls h7 hNb).mono fun e9 w9 ⟨S9, r9, h1, h2, h3, h4⟩ => ⟨r9, h1, (⟨S9, h2, h3, h4⟩ : ∃ S9, IxAt w9 p mb N S9 m r9 true ∧ Fr (fun k => k = p) w5 w9 ∧ ∀ k, S9 k → S k ∨ w5.heap.size ≤ k)⟩) rfl fun v9 w9 f9 => ?_, fun h => by rw [wanted_none rfl] at h; cases h⟩
            obtain ⟨S9, h2, h3, h4⟩ := f9
            refine ⟨(v9, S9, w9.heap.size), rfl, (fun j hj => match j, hj with | 0, _ => rfl | 1, _ => rfl | 2, hj => absurd (hl.symm.trans hj) (by decide) | 3, _ => rfl | j9 + 4, _ => rfl), ?_⟩
            refine ⟨m1.trans' h3 (fun _ _ e => .inl e), fun _ => h3.obj hbo7 (by omega), fun e => by simp at e, fun _ => ⟨h2, fun k hk => ⟨?_, h2.lt k hk⟩, (show w6.heap.size ≤ w9.heap.size by have := m1.size; have := h3.size; omega), Nat.le_refl _⟩, fun e => by simp [h39] at e⟩
            rcases h4 k hk with h9 | h9
            · exact .inl h9
            · right; have := m1.size; omega
          | 3, ho, hl, D, DL, hB =>
            have h29 := DL 2 rfl
            obtain ⟨h7, h8, h9, h10⟩ := m4 h29
            have hbo7 := m2 hl
            obtain rfl := Option.some.inj ho
            refine ⟨fun _ => callx rfl (run_callf1c (enters_of Try.func35 (by kernel_rfl) rfl) rfl (D 0 _ rfl rfl) (D 2 _ rfl rfl)) ((walkR_calls (B := γ.2.2) h7 hNb (by omega) (by omega) (by omega) (by omega) (by omega) (fun k hk => ⟨(h8 k hk).2, by rcases (h8 k hk).1 with h | h; (have := hσ k h; omega); omega⟩) hq5 hbo7 hbw5 h10).mono fun e9 w9 hh => ⟨hh.1, hh.2⟩) rfl fun w9 f9 => ?_, fun h => by rw [wanted_none rfl] at h; cases h⟩
            obtain ⟨v9, L9, e1, e2, e3, e4⟩ := f9
            refine ⟨m1.trans' e4 (fun r hr e => by rcases e with e | e; exact .inr e; omega), fun e => by simp at e, fun e => by simp [h29] at e, fun _ => ⟨h7.fr e4 (by omega) (by have := h7.ne; omega) (fun k hk e => by rcases (h8 k hk).1 with h | h; (have := hσ k h; have := (h8 k hk).2; omega); (have := (h8 k hk).2; omega)), h8, h9, by have := e4.size; omega⟩, fun _ => ⟨v9, L9, e1, e2, e3⟩⟩
          | j9 + 4, ho, hl, D, DL, hB => exact absurd ho (by simp)
        · rintro ⟨rv2, S2, B2⟩ a w7 E V hM
          clear V
          obtain ⟨m1, _, _, m4, m5⟩ := hM
          obtain ⟨h7, h8, h9, h10⟩ := m4 rfl
          obtain ⟨v9, L9, hE9, hbo, hO⟩ := m5 rfl
          dsimp only at h7 h8 h9 h10 hO
          have hw6s := hf.size
          refine then_n ?_
          refine wp_seq ?_
          refine wp_region_lit ?_
          refine env_put (d := 49) (v := v9) E rfl (by decide) rfl (wanted_none rfl _) (run_ld42 rfl (E.get 1 rfl) (bx hbo 0 rfl)) fun a E => ?_
          have hlen9 := hE9.len h7.hm
          refine env_call (d := 50) (v := .tuple #[]) (F := fun w8 => oStr w8 B2 v9 (srtS (mtIds L9 b)) ∧ Fr (fun k => v9.ownBlock = some k) w7 w8) E rfl (by decide) rfl (wanted_none rfl _) (run_call1 (enters_of Try.func38 (by kernel_rfl) rfl) rfl rfl (E.get 0 rfl)) (sortS_calls hO (by have := mtIds_le L9 b; omega)) fun a w8 f9 E => ?_
          obtain ⟨hO8, f8⟩ := f9
          have hbo8 := f8.obj hbo (fun e => by have := (hO.lt e).1; omega)
          have hbo := hbo8
          have h18 := h7.fr f8 (fun e => by have := (hO.lt e).1; omega) (fun e => by have := (hO.lt e).1; omega) (fun k hk e => by have := (hO.lt e).1; have := (h8 k hk).2; omega)
          have f18 : Fr (fun k => k = p) w w8 := (hf.mono (fun _ _ h => h.elim)).trans' (m1.trans' f8 (fun r hr e => by have := (hO.lt e).1; omega)) (fun r hr e => by rcases e with e | e; exact e; omega)
          refine wpList_nil ?_
          refine then_n ?_
          refine wp_seq ?_
          refine wp_region_lit ?_
          refine env_put (d := 51) (v := v9) E rfl (by decide) rfl (wanted_none rfl _) (run_ld42 rfl (E.get 3 rfl) (bx hbo 0 rfl)) fun a E => ?_
          refine env_put (d := 4) (v := v9) E rfl (by decide) rfl (wanted_none rfl _) (run_assign rfl (E.get 0 rfl)) fun a E => ?_
          refine wpList_nil ?_
          refine then_n ?_
          refine wp_ret ?_
          refine ret_tmp (t := 4) rfl E (E.get 0 rfl) ?_
          exact ⟨_, _, B2, rfl, by omega, hO8, by rw [if_pos hok]; exact InR.of hE9 b, S2, rv2, true, h18, f18, fun k hk => ⟨by rcases (h8 k hk).1 with h | h; exact .inl h; exact .inr (by omega), (h8 k hk).2⟩⟩
      | true =>
        rw [hq41] at E
        refine wp_cond_true (E.get 0 rfl) ?_
        refine wp_seq ?_
        refine wp_region_lit ?_
        refine env_set (d := 4) (v := .slice none 0 0) E rfl (by decide) (wanted_none rfl _) (run_assign rfl rfl) fun a E => ?_
        refine wpList_nil ?_
        refine then_n ?_
        refine wp_ret ?_
        refine then_r ?_
        have khq40 := of_decide_eq_false hq40
        have khq41 := of_decide_eq_true hq41
        have hno : ¬ okB b := fun hok => by
          have hal := okB_all hok
          first | (rw [hal] at hq39; exact Bool.noConfusion hq39) | (obtain ⟨_, _, q1, q2⟩ := hok; omega)
        refine ret_tmp (t := 4) rfl E (E.get 0 rfl) ?_
        exact ⟨_, [], w.heap.size, rfl, Nat.le_refl _, ow_nil _, by rw [if_neg hno], S, rv, pk, h, hf.mono fun _ _ h => h.elim, fun k hk => ⟨.inl hk, h0.lt k hk⟩⟩
    | true =>
      rw [hq40] at E
      refine env_skip (d := 36) (g := 28) (s := 35) E rfl (by decide) rfl rfl rfl (by decide) (E.get 0 rfl) fun a E => ?_
      refine env_skip (d := 37) (g := 28) (s := 35) E rfl (by decide) rfl rfl rfl (by decide) (E.get 1 rfl) fun a E => ?_
      refine env_skip (d := 38) (g := 28) (s := 35) E rfl (by decide) rfl rfl rfl (by decide) (E.get 2 rfl) fun a E => ?_
      refine env_skip (d := 39) (g := 28) (s := 35) E rfl (by decide) rfl rfl rfl (by decide) (E.get 3 rfl) fun a E => ?_
      refine env_skip (d := 40) (g := 28) (s := 35) E rfl (by decide) rfl rfl rfl (by decide) (E.get 4 rfl) fun a E => ?_
      refine env_skip (d := 41) (g := 28) (s := 35) E rfl (by decide) rfl rfl rfl (by decide) (E.get 5 rfl) fun a E => ?_
      refine env_skip (d := 42) (g := 28) (s := 35) E rfl (by decide) rfl rfl rfl (by decide) (E.get 6 rfl) fun a E => ?_
      refine env_put (d := 43) (v := .bool true) E rfl (by decide) rfl (wanted_none rfl _) (run_pick_t rfl (E.get 7 rfl) rfl) fun a E => ?_
      refine wpList_nil ?_
      refine then_n ?_
      refine wp_cond_true (E.get 0 rfl) ?_
      refine wp_seq ?_
      refine wp_region_lit ?_
      refine env_set (d := 4) (v := .slice none 0 0) E rfl (by decide) (wanted_none rfl _) (run_assign rfl rfl) fun a E => ?_
      refine wpList_nil ?_
      refine then_n ?_
      refine wp_ret ?_
      refine then_r ?_
      have khq40 := of_decide_eq_true hq40
      have hno : ¬ okB b := fun hok => by
        have hal := okB_all hok
        first | (rw [hal] at hq39; exact Bool.noConfusion hq39) | (obtain ⟨_, _, q1, q2⟩ := hok; omega)
      refine ret_tmp (t := 4) rfl E (E.get 0 rfl) ?_
      exact ⟨_, [], w.heap.size, rfl, Nat.le_refl _, ow_nil _, by rw [if_neg hno], S, rv, pk, h, hf.mono fun _ _ h => h.elim, fun k hk => ⟨.inl hk, h0.lt k hk⟩⟩
end Go.Proofs.Ytcafnanbdmapgaa
