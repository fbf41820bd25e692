/- Iterating over rows: slices.Values, Collect, AppendSeq. -/
import Derived.Test.YtjaffpnegdcjnaaGreatDoorSA5
import Derived.Test.YtjaffpnegdcjnaaGreatDoorSRn
set_option linter.unusedVariables false
set_option linter.unusedSimpArgs false
namespace Go.Proofs.YtjaffpnegdcjnaaGreatDoor
open Go.RowKit Go.Pl
section
variable {o : Oper} {w : World} {ρ : Operand → Value} {x y : Operand} {b off : Nat} {u v : Value}
theorem run_box22 {p : Option Addr} {n c : Nat} (ho : o.op = .box 22 x) (hx : ρ x = .slice p n c) : (execOp ρ o).run Tryz.prog w = .ok (.value (.pointer (some ⟨w.heap.size, 0, none⟩))) (w.alloc (.cells #[.slice p n c] 22)) := by
 simp [execOp, ho, hx, go_sem]
theorem run_box91 {f : Fn} {a c : Array Value} (ho : o.op = .box 91 x) (hx : ρ x = .func f a c) : (execOp ρ o).run Tryz.prog w = .ok (.value (.pointer (some ⟨w.heap.size, 0, none⟩))) (w.alloc (.cells #[.func f a c] 91)) := by
 simp [execOp, ho, hx, go_sem]
theorem run_mkfn {f : Nat} (ho : o.op = .makeFunc (.func f) #[] #[x]) (hx : ρ x = v) : (execOp ρ o).run Tryz.prog w = .ok (.value (.func (.func f) #[] #[v])) w := by
 simp [execOp, ho, hx, go_sem]
theorem run_st22v (hs : ∃ p n c, v = .slice p n c) (ho : o.op = .store 22 x y) (hx : ρ x = .pointer (some ⟨b, off, none⟩)) (hy : ρ y = v) (hc : w.cell? ⟨b, off, none⟩ = some u) (hz : w.frozen? ⟨b, off, none⟩ = false) : (execOp ρ o).run Tryz.prog w = .ok .skip (w.setCell ⟨b, off, none⟩ v) := by
 obtain ⟨p, n, c, rfl⟩ := hs
 exact run_st22 ho hx hy hc hz
end
theorem ow.sl {α : Type} {f : α → List Value} {c : Nat} {E : TypeId} (hf : ∀ x, (f x).length = c) {w : World} {B : Nat} {v : Value} {L : List α} (h : ow f c E w B v L) : ∃ p n c, v = .slice p n c := by
 obtain ⟨p, cap, hv, _⟩ := h.src hf
 exact ⟨p, _, cap, hv⟩
theorem rnd_r {R S : World → Prop} {a : Act} {W : World} (h : S W) : rndP R S .ret a W := h
theorem rnd_n {R S : World → Prop} {a : Act} {W : World} (h : R W) : rndP R S .normal a W := h
/-- What an iterator over a row needs. -/
def ValK (c1 G : Nat) (p : Option Addr) (cap : Nat) (L : List Sp) (W : World) : Prop := W.heap[c1]? = some (.cells #[.slice p L.length cap] 22 (0, 0)) ∧ srcAt spL 2 W G p L ∧ G ≤ W.heap.size
theorem ValK.fr {c1 G : Nat} {p : Option Addr} {cap : Nat} {L : List Sp} {W W' : World} {F : Nat → Prop} (h : ValK c1 G p cap L W) (f : Fr F W W') (h1 : ¬ F c1) (h2 : ∀ r, r < G → ¬ F r) : ValK c1 G p cap L W' := ⟨f.obj h.1 h1, h.2.1.fr f h2, Nat.le_trans h.2.2 f.size⟩
def valv (L : List Sp) : List (Array Value) := L.map fun s => #[.agg (spA s)]
set_option maxRecDepth 100000 in
set_option maxHeartbeats 4000000 in
theorem values_yields {c1 G cap : Nat} {p : Option Addr} {L : List Sp} (hl : L.length ≤ 400000000) : IterOf Tryz.prog 102 #[.pointer (some ⟨c1, 0, none⟩)] (valv L) (ValK c1 G p cap L) := by
 intro l J S w hJF hSF hKp hround hJ
 refine wp_start2 Tryz.func102 rfl rfl (n := 16) (by decide) fun a E => ?_
 obtain ⟨hc1, hsp, hG⟩ := hKp _ _ hJ
 have hcl := lt_of_blk hc1
 refine wp_seq ?_
 refine wp_region_lit ?_
 refine ep (v := .slice (p) L.length cap) E (run_ld22 rfl (E.get 1 rfl) (bx hc1 0 rfl)) fun a E => ?_
 refine ep (v := .int .i64 (L.length : Int)) E (run_len22 rfl (E.get 0 rfl)) fun a E => ?_
 refine ep (v := .int .i64 0) E (run_move rfl rfl) fun a E => ?_
 refine wpList_nil ?_
 refine then_n ?_
 refine wp_block ?_
 refine wp_loop (fun a w2 => ∃ (k : Nat), Env 16 [(0, .func (.yield l) #[] #[]), (1, .pointer (some ⟨c1, 0, none⟩)), (5, .slice (p) L.length cap), (6, .int .i64 (L.length : Int)), (7, .int .i64 (k : Int))] a ∧ k ≤ L.length ∧ J k w2) (fun a _ => L.length - (intOf (a.eval (.tmp 7))).toNat) ?_ ?_
 ·exact ⟨0, E.of ⟨E.get 3 rfl, E.get 4 rfl, E.get 2 rfl, E.get 1 rfl, E.get 0 rfl, trivial⟩, Nat.zero_le _, hJ⟩
 clear E
 rintro a w2 ⟨k, E, hk, hJ⟩
 have hmu : L.length - (intOf (a.eval (.tmp 7))).toNat = L.length - k := by rw [E.get 4 rfl]; first | rfl | (simp [intOf]; done) | (simp only [intOf]; omega)
 rw [hmu]
 clear hmu
 have hf : Fr (fun _ => False) w2 w2 := Fr.refl _ _
 obtain ⟨hc1, hsp, hG⟩ := hKp _ _ hJ
 refine wp_seq ?_
 refine wp_region_lit ?_
 refine ep (v := .bool (decide ((k : Int) < (L.length : Int)))) E (run_ilss (E.get 4 rfl) (E.get 3 rfl) Tryz.underlying3 rfl) fun a E => ?_
 refine wpList_nil ?_
 refine then_n ?_
 refine wp_seq ?_
 cases hq2 : (decide ((k : Int) < (L.length : Int))) with
 | false =>
  rw [hq2] at E
  have hie : k = L.length := by have := of_decide_eq_false hq2; omega
  refine wp_cond_false (E.get 0 rfl) ?_
  refine wp_exit ?_
  refine then_e ?_
  refine then_e ?_
  refine blk_e ?_
  refine (ret_nil rfl E ⟨⟨_, rfl⟩, .inl ?_⟩).1
  unfold valv
  rw [List.length_map, ← hie]; exact hJ
 | true =>
  rw [hq2] at E
  have hlt : k < L.length := by have := of_decide_eq_true hq2; omega
  obtain ⟨y, hy⟩ : ∃ y, L[k]? = some y := ⟨_, List.getElem?_eq_getElem hlt⟩
  obtain ⟨g3, off3, hpe3, hgl3, hrow3⟩ := hsp.at hlt
  replace hrow3 := hrow3 k y hy
  refine wp_cond_true (E.get 0 rfl) ?_
  refine wp_skip ?_
  refine then_n ?_
  refine wp_seq ?_
  refine wp_block ?_
  refine wp_seq ?_
  refine wp_region_lit ?_
  refine ep (v := .pointer (some ⟨g3, (off3 + k * 2), none⟩)) E (run_index22 (i := k) rfl ((E.get 3 rfl).trans (by rw [hpe3])) (E.get 5 rfl) hlt) fun a E => ?_
  refine ep (v := .agg (spA y)) E (run_ld48 rfl (E.get 0 rfl) hrow3) fun a E => ?_
  refine env_new (d := 4) E rfl (by decide) rfl (wanted_none rfl _) (run_alloc48 rfl) fun a w1 b4 eb4 hb4 f1 E => ?_
  have hnb4 : w2.heap.size ≤ b4 := by have := hf.size; omega
  have hlc1b4 : c1 < b4 := by have := lt_of_blk hc1; omega
  have hsp := srcAt.fr hsp f1 (fun r hr => id)
  have hc1 := f1.obj hc1 id
  have hrow3 := fun j u hu => f1.cell (hrow3 j u hu) id
  have hf := hf.trans' f1 (fun _ _ h => h.elim)
  clear f1
  refine env_st48 E rfl (wanted_none rfl _) rfl (E.get 0 rfl) (E.get 1 rfl) hb4 fun w1 hb4n f1 E => ?_
  have hsp := srcAt.fr hsp f1 (fun r hr => (fun e => by (try simp only at e); omega))
  have hc1 := f1.obj hc1 (fun e => by (try simp only at e); omega)
  have hrow3 := fun j u hu => f1.cell (hrow3 j u hu) (fun e => by (try simp only at e); omega)
  have hf := hf.trans' f1 (fun r hr => (fun e => by (try simp only at e); omega))
  clear f1
  replace hb4 := hb4n
  refine wpList_nil ?_
  refine then_n ?_
  refine wp_seq ?_
  refine envI_region ?_
  refine envI_put (d := 11) (v := .func (.yield l) #[] #[]) E rfl (by decide) rfl (wanted_none rfl _) (run_move rfl (E.get 4 rfl)) fun a E => ?_
  refine envI_put (d := 12) (v := .agg (spA y)) E rfl (by decide) rfl (wanted_none rfl _) (run_ld48 rfl (E.get 1 rfl) (rng2 (p := y) hb4 0 rfl rfl)) fun a E => ?_
  refine envI_yield (d := 13) E rfl (by decide) rfl (wanted_none rfl _) rfl (E.get 1 rfl) (E.get 0 rfl) (hround k _ _ (hJF _ _ _ hJ hf) (by unfold valv; rw [List.getElem?_map, hy]; rfl)) fun a w3 bb hbb E => ?_
  refine envI_put (d := 14) (v := .bool (!bb)) E rfl (by decide) rfl (wanted_none rfl _) (run_not rfl (E.get 0 rfl)) fun a E => ?_
  refine envI_nil ?_
  refine then_n ?_
  cases hq5 : bb with
  | false =>
   rw [hq5] at E
   have hS : S w3 := hbb.elim (fun h9 => by rw [hq5] at h9; cases h9.1) (fun h9 => h9.2)
   refine wp_cond_true (E.get 0 rfl) ?_
   refine wp_ret ?_
   refine blk_r ?_
   refine then_r ?_
   refine then_r ?_
   refine blk_r ?_
   refine (ret_nil rfl E ⟨⟨_, rfl⟩, .inr hS⟩).2
  | true =>
   rw [hq5] at E
   have hJ : J (k + 1) w3 := hbb.elim (fun h9 => h9.2) (fun h9 => by rw [hq5] at h9; cases h9.1)
   refine wp_cond_false (E.get 0 rfl) ?_
   refine wp_skip ?_
   refine blk_n ?_
   refine then_n ?_
   refine wp_region_lit ?_
   refine ep (v := .int .i64 ((k : Int) + 1)) E (run_iadd Tryz.underlying3 (E.get 12 rfl) rfl (by omega) (by omega) rfl) fun a E => ?_
   refine env_set (d := 7) (v := .int .i64 ((k : Int) + 1)) E rfl (by decide) (wanted_none rfl _) (run_move rfl (E.get 0 rfl)) fun a E => ?_
   refine wpList_nil ?_
   refine then_n ?_
   refine ⟨⟨k + 1, E.of ⟨E.get 10 rfl, E.get 11 rfl, E.get 12 rfl, E.get 13 rfl, E.get 0 rfl, trivial⟩, hlt, hJ⟩, ?_⟩
   rw [E.get 0 rfl]; simp only [intOf]; omega
set_option maxRecDepth 100000 in
set_option maxHeartbeats 4000000 in
theorem appendSeq_calls {w : World} {gf : Nat} {lb : Array Value} {L : List Sp} {Kp : World → Prop} (hl : L.length ≤ 20000) (eg : ∀ args w, (callFunc gf args).run Tryz.prog w = .ok (.enter gf args) w) (hY : IterOf Tryz.prog gf lb (valv L) Kp) (hK : ∀ W, Fr (fun _ => False) w W → Kp W) :
  Calls Tryz.prog 109 #[.slice none 0 0, .func (.func gf) #[] lb] w fun e w' => ∃ v, e = .returned v ∧ oSp w' w.heap.size v L ∧ Fr (fun _ => False) w w' := by
 refine wp_startM2 Tryz.func109 rfl rfl (n := 13) (by decide) fun a E => ?_
 have hf : Fr (fun _ => False) w w := Fr.refl _ _
 refine wp_seq ?_
 refine wp_region_lit ?_
 refine env_new (d := 2) E rfl (by decide) rfl (wanted_none rfl _) (run_box22 rfl (E.get 0 rfl)) fun a w1 b6 eb6 hb6 f1 E => ?_
 have hnb6 : w.heap.size ≤ b6 := by have := hf.size; omega
 have hf := hf.trans' f1 (fun _ _ h => h.elim)
 clear f1
 refine ep (v := .slice none 0 0) E (run_assign rfl rfl) fun a E => ?_
 refine wpList_nil ?_
 refine then_n ?_
 refine wp_seq ?_
 refine wp_seq ?_
 refine wp_region_lit ?_
 refine ep (v := .func (.func gf) #[] lb) E (run_move rfl (E.get 3 rfl)) fun a E => ?_
 refine wpList_nil ?_
 refine then_n ?_
 refine wp_block ?_
 obtain ⟨wr, hwr⟩ : ∃ wr, wr = w1 := ⟨_, rfl⟩
 rw [← hwr]
 have hcr := hb6
 rw [← hwr] at hcr
 have hfr : Fr (fun _ => False) w wr := hwr ▸ hf
 have hcw := lt_of_blk hcr
 have hwc : w.heap.size ≤ b6 := hnb6
 refine wp_rangeF (fun k W => ∃ v, W.heap[b6]? = some (.cells #[v] 22 (0, 0)) ∧ oSp W (wr.heap.size + 2) v (L.take k) ∧ Fr (fun _ => False) w W) (fun _ => False) (fun v a W => ∃ s b5, v = #[.agg (spA s)] ∧ wr.heap.size + 2 ≤ b5 ∧ W.heap[b5]? = some (.cells (spA s) 48 (0, 0)) ∧ Env 13 [(5, .pointer (some ⟨b5, 0, none⟩)), (2, .pointer (some ⟨b6, 0, none⟩))] a) (E.get 0 rfl) eg (vs := valv L) hY (fun v hv => by obtain ⟨s, _, rfl⟩ := List.mem_map.1 hv; rfl) ?_ (fun _ _ h _ => h) ?_ ⟨_, hcr, ow_nil _, hfr⟩ ?_ ?_ ?_ ?_ (fun _ h _ => h.elim)
 ·rintro k W W' ⟨v, h1, h2, h3⟩ f
  exact ⟨v, f.obj h1 (by omega), h2.fr f (fun b hb e => by have := (h2.lt hb).1; omega), h3.trans' f (fun r hr e => by have := hfr.size; omega)⟩
 ·rintro k W ⟨v, h1, h2, h3⟩
  exact hK W h3
 ·rintro v a W W' ⟨s, b5, h1, h2, h3, h4⟩ f
  exact ⟨s, b5, h1, h2, f.obj h3 (by omega), h4⟩
 ·intro l v W K hv hW hK
  obtain ⟨s, _, rfl⟩ := List.mem_map.1 hv
  have E := env_zip1 (d := 7) (x := .agg (spA s)) (E.of (L' := [(2, .pointer (some ⟨b6, 0, none⟩))]) ⟨(E.get 2 rfl), trivial⟩) (by decide) rfl
  have hf : Fr (fun _ => False) W W := Fr.refl _ _
  refine wpR_region_lit (by kernel_rfl) (fun ⟨_, _, h⟩ => h) ?_
  refine env_new (d := 5) E rfl (by decide) rfl (wanted_none rfl _) (run_alloc48 rfl) fun a w1 b7 eb7 hb7 f1 E => ?_
  have hnb7 : W.heap.size ≤ b7 := by have := hf.size; omega
  have hf := hf.trans' f1 (fun _ _ h => h.elim)
  clear f1
  refine env_st48 E rfl (wanted_none rfl _) rfl (E.get 0 rfl) (E.get 1 rfl) hb7 fun w1 hb7n f1 E => ?_
  have hf := hf.trans' f1 (fun r hr => (fun e => by (try simp only at e); omega))
  clear f1
  replace hb7 := hb7n
  refine wpList_nil ?_
  exact hK _ _ ⟨s, b7, rfl, by omega, hb7, E.of ⟨E.get 0 rfl, E.get 2 rfl, trivial⟩⟩ hf
 ·rintro k v a9 W hv ⟨dv, hc2, hO, hF⟩ ⟨s, b5, hvs, hb5, hs5, E⟩ hW -
  have hf : Fr (fun b => b = b6 ∨ wr.heap.size + 2 ≤ b) W W := Fr.refl _ _
  obtain ⟨y, hy, rfl⟩ : ∃ y, L[k]? = some y ∧ y = s := by
   unfold valv at hv
   rw [List.getElem?_map] at hv
   cases hq : L[k]? with
   | none => rw [hq] at hv; cases hv
   | some y =>
    rw [hq] at hv
    subst hvs
    simp only [Option.map_some, Option.some.injEq, Array.mk.injEq, List.cons.injEq, Value.agg.injEq, and_true, spA] at hv
    exact ⟨y, rfl, by obtain ⟨y1, y2⟩ := y; obtain ⟨s1, s2⟩ := s; simpa using hv⟩
  have hlt : k < L.length := (List.getElem?_eq_some_iff.1 hy).1
  obtain ⟨B, hB⟩ : ∃ B, B = wr.heap.size + 2 := ⟨_, rfl⟩
  rw [← hB] at hO
  have hBs : B ≤ W.heap.size := by omega
  have hBc : b6 < B := by omega
  have hl5 : b6 < b5 := by omega
  refine wpIn_block ?_
  refine wpR_region_lit (by kernel_rfl) (fun ⟨_, _, h⟩ => h) ?_
  refine ep (v := dv) E (run_ld22 rfl (E.get 1 rfl) (bx hc2 0 rfl)) fun a E => ?_
  refine ep (v := .agg (spA y)) E (run_ld48 rfl (E.get 1 rfl) (rng2 (p := y) hs5 0 rfl rfl)) fun a E => ?_
  refine env_one22 (d := 10) E rfl (by decide) rfl (wanted_none rfl _) rfl (E.get 0 rfl) fun a w1 b8 eb8 hbb8 f1 E => ?_
  have hc2 := f1.obj hc2 id
  have hs5 := f1.obj hs5 id
  have hBs := Nat.le_trans hBs f1.size
  have hO := ow.fr hO f1 (fun _ _ => id)
  have hf := hf.trans' f1 (fun _ _ h => h.elim)
  clear f1
  have hsb8 := src_one (f := spL) (c := 2) (G := w1.heap.size) hbb8 (lt_of_blk hbb8)
  clear hbb8 eb8
  refine env_app22 (d := 11) E rfl (by decide) rfl rfl rfl (E.get 2 rfl) hO (E.get 0 rfl) hsb8 (fun h => by cases h) (by simp only [List.length_take, List.length_cons, List.length_nil]; omega) hBs fun a w1 ov9 hO2 f1 hloc E => ?_
  have hc2 := f1.obj hc2 (fun e => by have := (hO.lt e).1; (try simp only at e); omega)
  have hBs := Nat.le_trans hBs f1.size
  have hf := hf.trans' f1 (fun r hr => (fun e => by have := (hO.lt e).1; (try simp only at e); omega))
  clear f1
  replace hO := hO2
  clear hloc
  refine env_st1 (j := 0) E rfl (wanted_none rfl _) hc2 (run_st22v (ow.sl spL_len hO) rfl (E.get 5 rfl) (E.get 0 rfl) (bx hc2 0 rfl) (free_of_blk hc2 0)) fun w1 hc2n f1 E => ?_
  replace hc2n : w1.heap[b6]? = some (.cells #[ov9] 22 (0, 0)) := hc2n
  have hBs := Nat.le_trans hBs f1.size
  have hO := ow.fr hO f1 (fun k hk e => by have := (hO.lt hk).1; (try simp only at e); omega)
  have hf := hf.trans' f1 (fun r hr => (fun e => by (try simp only at e); omega))
  clear f1
  replace hc2 := hc2n
  refine wpList_nil ?_
  refine blk_n ?_
  refine rnd_n ⟨⟨_, hc2, ?_, ?_⟩, ?_, ?_⟩
  ·rw [List.take_add_one, hy, ← hB]; exact hO
  ·exact hF.trans' hf (fun r hr e => by omega)
  ·exact hf.blk _ (by omega) (by omega)
  ·exact hf.blk _ (by omega) (by omega)
 ·rintro W ⟨dv, hc2, hO, hF⟩ hDk
  have E := env_mark (D := wr.heap.size) E
 
  refine blk_n ?_
  refine then_n ?_
  refine wp_seq ?_
  refine wp_region_lit ?_
  refine ep (v := dv) E (run_ld22 rfl (E.get 2 rfl) (bx hc2 0 rfl)) fun a E => ?_
  refine env_set (d := 4) (v := dv) E rfl (by decide) (wanted_none rfl _) (run_assign rfl (E.get 0 rfl)) fun a E => ?_
  refine wpList_nil ?_
  refine then_n ?_
  refine wp_ret ?_
  have hL : L.take (valv L).length = L := by unfold valv; rw [List.length_map]; exact List.take_length
  rw [hL] at hO
  exact retM_tmp (t := 4) rfl E (E.get 0 rfl) ((MarksOk.nil _).cons hDk (fun h => by cases h)) (fun w9 f9 => ⟨_, rfl, (hO.base (by have := hfr.size; omega)).fr f9 (fun b hb e => by have := (hO.lt hb).1; rcases isMark_cons.1 e with e | e; omega; cases e), hF.trans' f9 (fun r hr e => by rcases isMark_cons.1 e with e | e; (have := hfr.size; omega); cases e)⟩)
set_option maxRecDepth 100000 in
set_option maxHeartbeats 4000000 in
theorem collect_calls {w : World} {gf : Nat} {lb : Array Value} {L : List Sp} {Kp : World → Prop} (hl : L.length ≤ 20000) (eg : ∀ args w, (callFunc gf args).run Tryz.prog w = .ok (.enter gf args) w) (hY : IterOf Tryz.prog gf lb (valv L) Kp) (hK : ∀ W, Fr (fun _ => False) w W → Kp W) :
  Calls Tryz.prog 100 #[.func (.func gf) #[] lb] w fun e w' => ∃ v, e = .returned v ∧ oSp w' w.heap.size v L ∧ Fr (fun _ => False) w w' := by
 refine wp_start1 Tryz.func100 rfl rfl (n := 5) (by decide) fun a E => ?_
 have hf : Fr (fun _ => False) w w := Fr.refl _ _
 refine wp_seq ?_
 refine wp_region_lit ?_
 refine ep (v := .slice none 0 0) E (run_assign rfl rfl) fun a E => ?_
 refine wpList_nil ?_
 refine then_n ?_
 refine wp_seq ?_
 refine wp_region_lit ?_
 refine ep (v := .func (.func gf) #[] lb) E (run_move rfl (E.get 1 rfl)) fun a E => ?_
 refine env_callv (d := 4) (R := fun u w8 => oSp w8 w.heap.size u L ∧ Fr (fun _ => False) w w8) E rfl (by decide) rfl (wanted_none rfl _) (run_call2 (enters_of Tryz.func109 (by kernel_rfl) rfl) rfl rfl rfl (E.get 0 rfl)) ((appendSeq_calls hl eg hY hK).mono fun e w8 h => by obtain ⟨v, rfl, h⟩ := h; exact ⟨_, rfl, h⟩) fun a w1 rv ⟨hrv, f1⟩ E => ?_
 have hf := hf.trans' f1 (fun _ _ h => h.elim)
 clear f1
 refine env_set (d := 2) (v := rv) E rfl (by decide) (wanted_none rfl _) (run_assign rfl (E.get 0 rfl)) fun a E => ?_
 refine wpList_nil ?_
 refine then_n ?_
 refine wp_ret ?_
 exact ret_tmp (t := 2) rfl E (E.get 0 rfl) ⟨_, rfl, hrv, hf⟩
set_option maxRecDepth 100000 in
set_option maxHeartbeats 4000000 in
theorem values_calls (p : Option Addr) (n c : Nat) (w : World) : Calls Tryz.prog 82 #[.slice p n c] w fun e w' => ∃ b, e = .returned (.func (.func 102) #[] #[.pointer (some ⟨b, 0, none⟩)]) ∧ w'.heap[b]? = some (.cells #[.slice p n c] 22 (0, 0)) ∧ w.heap.size ≤ b ∧ Fr (fun _ => False) w w' := by
 refine wp_start1 Tryz.func82 rfl rfl (n := 4) (by decide) fun a E => ?_
 have hf : Fr (fun _ => False) w w := Fr.refl _ _
 refine wp_seq ?_
 refine wp_region_lit ?_
 refine env_new (d := 1) E rfl (by decide) rfl (wanted_none rfl _) (run_box22 rfl (E.get 0 rfl)) fun a w1 b10 eb10 hb10 f1 E => ?_
 have hnb10 : w.heap.size ≤ b10 := by have := hf.size; omega
 have hf := hf.trans' f1 (fun _ _ h => h.elim)
 clear f1
 refine ep (v := Value.nilFunc) E (run_assign rfl rfl) fun a E => ?_
 refine wpList_nil ?_
 refine then_n ?_
 refine wp_seq ?_
 refine wp_region_lit ?_
 refine ep (v := .func (.func 102) #[] #[.pointer (some ⟨b10, 0, none⟩)]) E (run_mkfn rfl (E.get 1 rfl)) fun a E => ?_
 refine env_set (d := 2) (v := .func (.func 102) #[] #[.pointer (some ⟨b10, 0, none⟩)]) E rfl (by decide) (wanted_none rfl _) (run_assign rfl (E.get 0 rfl)) fun a E => ?_
 refine wpList_nil ?_
 refine then_n ?_
 refine wp_ret ?_
 exact ret_tmp (t := 2) rfl E (E.get 0 rfl) ⟨b10, rfl, hb10, hnb10, hf⟩
end Go.Proofs.YtjaffpnegdcjnaaGreatDoor
