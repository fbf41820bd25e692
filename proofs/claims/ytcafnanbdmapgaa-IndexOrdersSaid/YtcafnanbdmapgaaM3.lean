/- The queue: Push, Pop. -/
import Derived.Test.YtcafnanbdmapgaaM2
set_option linter.unusedVariables false
set_option linter.unusedSimpArgs false
namespace Go.Proofs.Ytcafnanbdmapgaa
open Go.RowKit Go.Pl

theorem app78 {o : Oper} {ρ : Operand → Value} {x y : Operand} {w : World} {B G : Nat} {v : Value} {A S : List Wt} {p : Option Addr} {cap : Nat} (ho : o.op = .call { callee := .builtin .append, args := #[x, y], argTypes := #[78, 78] }) (hx : ρ x = v) (hy : ρ y = .slice p S.length cap) (hv : oWt w B v A) (hsrc : srcAt wtL 2 w G p S) (hcp : p = none → cap = 0) (hl : A.length + S.length ≤ 400000000) (hB : B ≤ w.heap.size) :
    ∃ v' w', (execOp ρ o).run Try.prog w = .ok (.value v') w' ∧ oWt w' B v' (A ++ S) ∧ Fr (fun k => v.ownBlock = some k) w w' ∧ (v'.ownBlock = v.ownBlock ∨ v'.ownBlock = some w.heap.size) :=
  appR wtL_len (by omega) (fun s u hu => by simp at hu; rcases hu with rfl | rfl <;> rfl) Try.underlying78 info76z rfl (by decide) ho hx hy hv hsrc hcp hl hB
theorem oWt_slice {w : World} {B : Nat} {v : Value} {X : List Wt} (h : oWt w B v X) : ∃ p n c, v = .slice p n c := by
  obtain ⟨p, c, h, _⟩ := h.src wtL_len; exact ⟨p, _, c, h⟩
theorem oWt_pop {w : World} {B cap : Nat} {p : Option Addr} {Y : List Wt} {x : Wt} (h : oWt w B (.slice p (Y.length + 1) cap) (Y ++ [x])) : oWt w B (.slice p Y.length cap) Y := by
  rcases h.2 with ⟨h1, h2⟩ | ⟨g, c2, cur, h1, hB, h3, h4, h5, h6, h7⟩
  · simp at h2
  · simp only [Value.slice.injEq] at h1
    obtain ⟨rfl, _, rfl⟩ := h1
    simp only [List.length_append, List.length_singleton] at h4 h7
    refine ⟨by rw [flat_len wtL_len], .inr ⟨g, cap, cur, rfl, hB, h3, by omega, h5, h6, ?_⟩⟩
    have h8 := congrArg (List.take (Y.length * 2)) h7
    rw [List.take_take, Nat.min_eq_left (by omega)] at h8
    rw [h8, flat_take wtL_len]
    rw [List.take_append_of_le_length (Nat.le_refl _), List.take_length]
section
variable {o : Oper} {w : World} {ρ : Operand → Value} {x y : Operand} {n cap i : Nat} {p : Option Addr} {s : Wt} {g : Nat}
theorem run_one78 (ho : o.op = .buildSlice 78 1 #[(0, x)]) (hx : ρ x = .agg (wtC s)) : (execOp ρ o).run Try.prog w = .ok (.value (.slice (some ⟨w.heap.size, 0, none⟩) 1 1)) (w.alloc (.cells (wtC s) 76)) := by
  simp [execOp, ho, hx, go_sem]
theorem run_sto78 {z : Int} (hz : z = (i : Int)) (ho : o.op = .slice 78 x none (some y) none) (hx : ρ x = .slice (some ⟨g, 0, none⟩) n cap) (hy : ρ y = .int .i64 z) (hle : n ≤ cap) (hi : i < n) : (execOp ρ o).run Try.prog w = .ok (.value (.slice (some ⟨g, 0, none⟩) i cap)) w := by
  subst hz
  have h1 : (i : Int) ≤ cap := by omega
  have h0 : (0 : Int) ≤ i := by omega
  have h3 : cap ≠ 0 := by omega
  simp [execOp, ho, hx, hy, go_sem, h1, h0, h3]
theorem run_index78z {z : Int} (hz : z = (i : Int)) (ho : o.op = .indexAddr 78 x y) (hx : ρ x = .slice (some ⟨g, 0, none⟩) n cap) (hy : ρ y = .int .i64 z) (hi : i < n) : (execOp ρ o).run Try.prog w = .ok (.value (.pointer (some ⟨g, 0 + i * 2, none⟩))) w := by
  subst hz; exact run_index78 ho hx hy hi
end
section
variable {O : Array Oper} {Q : Exit → Act → World → Prop} {rest : List Oper} {o : Oper} {a : Act} {w : World} {n d : Nat} {L : List (Nat × Value)} {x y : Operand} {ds : List Deferred} {s : Wt} {b : Nat}
theorem env_alloc76 (E : EnvD ds n L a) (hd : o.dst = some d) (hn : d < n) (hf : (L.map (·.1)).contains d = false) (hw : Region.wanted o (yielded O a.tmps) = true) (ho : o.op = .alloc 76)
    (k : ∀ a' w' b, w.heap.size = b → w'.heap[b]? = some (.cells #[.pointer none, .int .i64 0] 76 (0, 0)) → Fr (fun _ => False) w w' → EnvD ds n ((d, .pointer (some ⟨b, 0, none⟩)) :: L) a' → wpList Try.prog O Q rest a' w') : wpList Try.prog O Q (o :: rest) a w :=
  env_put E hd hn hf hw (run_alloc76 ho) fun a' E' => k a' _ _ rfl (blk_alloc_new _ _) ((Fr.refl _ _).alloc _) E'
theorem wtB_set {u0 u1 : Value} (h : w.heap[b]? = some (.cells #[u0, u1] 76 (0, 0))) (s : Wt) : wtB ((w.setCell ⟨b, 0, none⟩ (.pointer (some ⟨s.c.1, 0, none⟩))).setCell ⟨b, 0 + 1, none⟩ (.int .i64 s.far)) b s := by
  have h1 := blk_setCell_same (off := 0) h (.pointer (some ⟨s.c.1, 0, none⟩))
  have h2 := blk_setCell_same (off := 0 + 1) h1 (.int .i64 s.far)
  exact h2
theorem env_st76 {u0 u1 : Value} (E : EnvD ds n L a) (hd : o.dst = none) (hw : Region.wanted o (yielded O a.tmps) = true) (ho : o.op = .store 76 x y) (hx : a.eval x = .pointer (some ⟨b, 0, none⟩)) (hy : a.eval y = .agg (wtC s)) (h : w.heap[b]? = some (.cells #[u0, u1] 76 (0, 0)))
    (k : ∀ w', wtB w' b s → Fr (fun k => k = b) w w' → EnvD ds n L a → wpList Try.prog O Q rest a w') : wpList Try.prog O Q (o :: rest) a w :=
  env_store E hd hw (run_st76 (off := 0) ho hx hy (bx h 0 rfl) (bx h (0 + 1) rfl) (free_of_blk h _) (free_of_blk h _)) fun E => k _ (wtB_set h s) (Fr.two _ _ _ _ _ _) E
theorem wtB_rng {b : Nat} (h : wtB w b s) : w.rangeAt b 0 (wtL s) := fun j u hu => by
  rw [cell_of_blk h, Nat.zero_add]
  match j, hu with
  | 0, hu => exact hu
  | 1, hu => exact hu
  | j + 2, hu => simp at hu
end

set_option maxRecDepth 100000 in
set_option maxHeartbeats 4000000 in
theorem pushq_calls {w : World} {q B : Nat} {v : Value} {X : List Wt} (hQ : QAt w q B v X) (hB : B ≤ w.heap.size) (hl9 : X.length ≤ 1000000) (x : Wt) : Calls Try.prog 112 #[.pointer (some ⟨q, 0, none⟩), .iface 76 (.agg (wtC x))] w fun e w' => e = .returned (.tuple #[]) ∧ ∃ v', QAt w' q B v' (X ++ [x]) ∧ (v'.ownBlock = v.ownBlock ∨ ∀ k, v'.ownBlock = some k → w.heap.size ≤ k) ∧ Fr (fun k => k = q ∨ v.ownBlock = some k) w w' := by
  refine wp_start2 Try.func112 rfl rfl (n := 22) (by decide) fun a E => ?_
  have hf : Fr (fun _ => False) w w := Fr.refl _ _
  have hOl := fun k (hk : v.ownBlock = some k) => (hQ.2.lt hk).2
  have hql := lt_of_blk hQ.1
  have hne := hQ.ne
  refine wp_seq ?_
  refine wp_region_lit ?_
  refine env_put (d := 7) (v := .iface 76 (.agg (wtC x))) E rfl (by decide) rfl (wanted_none rfl _) (run_move rfl (E.get 1 rfl)) fun a E => ?_
  refine env_put (d := 8) (v := .tuple #[.agg (wtC x), .bool true]) E rfl (by decide) rfl (wanted_none rfl _) (run_ta76 rfl (E.get 0 rfl)) fun a E => ?_
  refine env_put (d := 6) (v := .tuple #[.agg (wtC x), .bool true]) E rfl (by decide) rfl (wanted_none rfl _) (run_move rfl (E.get 0 rfl)) fun a E => ?_
  refine env_put (d := 9) (v := .agg (wtC x)) E rfl (by decide) rfl (wanted_none rfl _) (run_ext0 rfl (E.get 0 rfl)) fun a E => ?_
  refine env_put (d := 10) (v := .bool true) E rfl (by decide) rfl (wanted_none rfl _) (run_ext1 rfl (E.get 1 rfl)) fun a E => ?_
  refine env_alloc76 (d := 4) E rfl (by decide) rfl (wanted_none rfl _) rfl fun a w1 b4 eb4 hb4 f1 E => ?_
  have hQ := hQ.fr f1 id (fun _ _ h => h)
  have hf := hf.trans f1
  clear f1
  refine env_st76 E rfl (wanted_none rfl _) rfl (E.get 0 rfl) (E.get 2 rfl) hb4 fun w1 hb4 f1 E => ?_
  have hQ := hQ.fr f1 (by omega) (fun k hk e => by have := hOl k hk; omega)
  have hf := hf.trans' f1 (fun r hr e => by omega)
  clear f1
  refine env_put (d := 5) (v := .bool true) E rfl (by decide) rfl (wanted_none rfl _) (run_assign rfl (E.get 1 rfl)) fun a E => ?_
  refine wpList_nil ?_
  refine then_n ?_
  refine wp_seq ?_
  refine wp_region_lit ?_
  refine env_put (d := 11) (v := .bool true) E rfl (by decide) rfl (wanted_none rfl _) (run_move rfl (E.get 0 rfl)) fun a E => ?_
  refine wpList_nil ?_
  refine then_n ?_
  refine wp_cond_true (E.get 0 rfl) ?_
  refine wp_region_invx (G := Nat × Value) (0, undef) (n := 22) (base := [(0, .pointer (some ⟨q, 0, none⟩)), (4, .pointer (some ⟨b4, 0, none⟩))]) (U := []) (T := fun γ => [some (12, .pointer (some ⟨q, 0, none⟩)), some (13, .pointer (some ⟨q, 0, none⟩)), some (14, .pointer (some ⟨q, 0, none⟩)), some (15, .pointer (some ⟨q, 0, none⟩)), some (16, v), some (17, .agg (wtC x)), some (18, .slice (some ⟨γ.1, 0, none⟩) 1 1), some (19, γ.2), some (20, .pointer (some ⟨q, 0, none⟩)), some (21, .pointer (some ⟨q, 0, none⟩)), none]) (M := fun γ ls9 wm => Fr (fun k => k = q ∨ v.ownBlock = some k) w1 wm ∧ (ls9 10 = false → quB wm q v) ∧ (ls9 7 = false → oWt wm B v X) ∧ (ls9 6 = true → ls9 7 = false → srcAt wtL 2 wm wm.heap.size (some ⟨γ.1, 0, none⟩) [x]) ∧ (ls9 7 = true → oWt wm B γ.2 (X ++ [x]) ∧ (γ.2.ownBlock = v.ownBlock ∨ ∀ k, γ.2.ownBlock = some k → w1.heap.size ≤ k)) ∧ (ls9 10 = true → quB wm q γ.2)) (by kernel_rfl) (by kernel_rfl) (fun _ => by kernel_rfl) (E.of ⟨E.get 8 rfl, E.get 2 rfl, trivial⟩) (fun x hx => by cases hx) ⟨(Fr.refl _ _).drew, fun _ => (Fr.refl (fun _ => False) _).drew.obj hQ.1 id, fun _ => hQ.2.fr (Fr.refl (fun _ => False) _).drew (fun _ _ h => h), fun e => absurd e Bool.false_ne_true, fun e => absurd e Bool.false_ne_true, fun e => absurd e Bool.false_ne_true⟩ ?_ ?_
  · intro j9 o9 γ ls9 a w5 ho hl E D DL DL2 hB hM
    obtain ⟨m1, m2, m3, m4, m5, m6⟩ := hM
    have hb5 := m1.obj hb4 (fun e => by rcases e with e | e; omega; have := hOl _ e; omega)
    match j9, ho, hl, D, DL, hB with
    | 0, ho, hl, D, DL, hB =>
      obtain rfl := Option.some.inj ho
      exact ⟨fun _ => valx rfl (run_move rfl (E.get 0 rfl)) rfl ⟨m1, m2, m3, m4, m5, m6⟩, fun h => by rw [wanted_none rfl] at h; cases h⟩
    | 1, ho, hl, D, DL, hB =>
      obtain rfl := Option.some.inj ho
      exact ⟨fun _ => valx rfl (run_move rfl (E.get 0 rfl)) rfl ⟨m1, m2, m3, m4, m5, m6⟩, fun h => by rw [wanted_none rfl] at h; cases h⟩
    | 2, ho, hl, D, DL, hB =>
      obtain rfl := Option.some.inj ho
      exact ⟨fun _ => valx rfl (run_nilchk rfl (D 1 _ rfl rfl)) rfl ⟨m1, m2, m3, m4, m5, m6⟩, fun h => by rw [wanted_none rfl] at h; cases h⟩
    | 3, ho, hl, D, DL, hB =>
      obtain rfl := Option.some.inj ho
      exact ⟨fun _ => valx rfl (fa80_0 rfl (D 2 _ rfl rfl)) rfl ⟨m1, m2, m3, m4, m5, m6⟩, fun h => by rw [wanted_none rfl] at h; cases h⟩
    | 4, ho, hl, D, DL, hB =>
      have n10 : ls9 10 = false := by
        cases h8 : ls9 10 with
        | false => rfl
        | true => exact absurd (hl.symm.trans (DL2 7 4 rfl (DL2 10 7 rfl h8))) (by decide)
      obtain rfl := Option.some.inj ho
      exact ⟨fun _ => valx rfl (run_ld78 rfl (D 3 _ rfl rfl) (bx (m2 n10) 0 rfl)) rfl ⟨m1, m2, m3, m4, m5, m6⟩, fun h => by rw [wanted_none rfl] at h; cases h⟩
    | 5, ho, hl, D, DL, hB =>
      obtain rfl := Option.some.inj ho
      exact ⟨fun _ => valx rfl (run_ld76 rfl (E.get 1 rfl) (wtB_rng hb5)) rfl ⟨m1, m2, m3, m4, m5, m6⟩, fun h => by rw [wanted_none rfl] at h; cases h⟩
    | 6, ho, hl, D, DL, hB =>
      have n7 : ls9 7 = false := by
        cases h8 : ls9 7 with
        | false => rfl
        | true => exact absurd (hl.symm.trans (DL2 7 6 rfl h8)) (by decide)
      have n10 : ls9 10 = false := by
        cases h8 : ls9 10 with
        | false => rfl
        | true => exact absurd (hl.symm.trans (DL2 7 6 rfl (DL2 10 7 rfl h8))) (by decide)
      obtain rfl := Option.some.inj ho
      exact ⟨fun _ => valxw (w5.heap.size, γ.2) rfl (run_one78 rfl (D 5 _ rfl rfl)) rfl (fun j hj => match j, hj with | 6, hj => absurd (hl.symm.trans hj) (by decide) | 0, _ => rfl | 1, _ => rfl | 2, _ => rfl | 3, _ => rfl | 4, _ => rfl | 5, _ => rfl | 7, _ => rfl | 8, _ => rfl | 9, _ => rfl | 10, _ => rfl | j9 + 11, _ => rfl) ⟨m1.alloc _, fun h => ((Fr.refl (fun _ => False) w5).alloc _).obj (m2 h) id, fun h => (m3 h).fr ((Fr.refl (fun _ => False) w5).alloc _) (fun _ _ h => h), fun _ _ => src_one (f := wtL) (blk_alloc_new _ _) (by simp), fun h => (by simp [n7] at h), fun h => (by simp [n10] at h)⟩, fun h => by rw [wanted_none rfl] at h; cases h⟩
    | 7, ho, hl, D, DL, hB =>
      have n10 : ls9 10 = false := by
        cases h8 : ls9 10 with
        | false => rfl
        | true => exact absurd (hl.symm.trans (DL2 10 7 rfl h8)) (by decide)
      have d6 := DL 6 rfl
      have hO5 := m3 hl
      have hs5 := m4 d6 hl
      have hz5 := m1.size
      have hz6 := hf.size
      obtain ⟨v9, w9, c0, c1, c2, c3⟩ := app78 (o := o9) (ρ := a.eval) (congrArg Oper.op (Option.some.inj ho)).symm (D 4 _ rfl rfl) (D 6 _ rfl rfl) hO5 hs5 (fun h => by cases h) (by simp; omega) (by omega)
      obtain rfl := Option.some.inj ho
      exact ⟨fun _ => valxw (γ.1, v9) rfl c0 rfl (fun j hj => match j, hj with | 7, hj => absurd (hl.symm.trans hj) (by decide) | 0, _ => rfl | 1, _ => rfl | 2, _ => rfl | 3, _ => rfl | 4, _ => rfl | 5, _ => rfl | 6, _ => rfl | 8, _ => rfl | 9, _ => rfl | 10, _ => rfl | j9 + 11, _ => rfl) ⟨m1.trans' c2 (fun r _ e => .inr e), fun h => c2.obj (m2 n10) hne, fun h => (by simp at h), fun _ h => (by simp at h), fun _ => ⟨c1, by rcases c3 with e | e; exact .inl e; exact .inr (fun k hk => by rw [e] at hk; have := Option.some.inj hk; omega)⟩, fun h => (by simp [n10] at h)⟩, fun h => by rw [wanted_none rfl] at h; cases h⟩
    | 8, ho, hl, D, DL, hB =>
      obtain rfl := Option.some.inj ho
      exact ⟨fun _ => valx rfl (run_nilchk rfl (D 0 _ rfl rfl)) rfl ⟨m1, m2, m3, m4, m5, m6⟩, fun h => by rw [wanted_none rfl] at h; cases h⟩
    | 9, ho, hl, D, DL, hB =>
      obtain rfl := Option.some.inj ho
      exact ⟨fun _ => valx rfl (fa80_0 rfl (D 8 _ rfl rfl)) rfl ⟨m1, m2, m3, m4, m5, m6⟩, fun h => by rw [wanted_none rfl] at h; cases h⟩
    | 10, ho, hl, D, DL, hB =>
      have d7 := DL 7 rfl
      obtain ⟨hO9, hl9o⟩ := m5 d7
      have hq9 := m2 hl
      obtain ⟨pn, nn, cn, hvv⟩ := oWt_slice hO9
      have hn9 := ow_ne_struct (by decide) hO9 hq9
      obtain rfl := Option.some.inj ho
      exact ⟨fun _ => storex rfl (run_st78 hvv rfl (D 9 _ rfl rfl) (D 7 _ rfl rfl) (bx hq9 0 rfl) (free_of_blk hq9 0)) rfl ⟨m1.setCell (p := ⟨q, 0, none⟩) (fun _ => .inl rfl) _, fun h => (by simp at h), fun h => (by simp [d7] at h), fun _ h => (by simp [d7] at h), fun _ => ⟨hO9.fr ((Fr.refl (fun k => k = q) w5).setCell (p := ⟨q, 0, none⟩) (fun _ => rfl) _) (fun k hk e => hn9 (by rw [hk, e])), hl9o⟩, fun _ => blk_setCell_same (off := 0) hq9 _⟩, fun h => by rw [wanted_none rfl] at h; cases h⟩
    | j9 + 11, ho, hl, D, DL, hB => exact absurd ho (by simp)
  · rintro ⟨bo, v9⟩ a w9 E V hM
    clear V
    obtain ⟨m1, _, _, _, m5, m6⟩ := hM
    have hQ9 : QAt w9 q B v9 (X ++ [x]) := ⟨m6 rfl, (m5 rfl).1⟩
    have hloc9 := (m5 rfl).2
    have hfz := hf.size
    exact (ret_nil rfl E ⟨rfl, v9, hQ9, by rcases hloc9 with e | e; exact .inl e; exact .inr (fun k hk => Nat.le_trans hfz (e k hk)), (hf.mono fun _ _ h => h.elim).trans' m1 (fun _ _ e => e)⟩).1
set_option maxRecDepth 100000 in
set_option maxHeartbeats 4000000 in
theorem popq_calls {w : World} {q B : Nat} {v : Value} {Y : List Wt} {x : Wt} (hQ : QAt w q B v (Y ++ [x])) (hl9 : Y.length ≤ 1000000) : Calls Try.prog 111 #[.pointer (some ⟨q, 0, none⟩)] w fun e w' => e = .returned (.iface 76 (.agg (wtC x))) ∧ ∃ v', QAt w' q B v' Y ∧ v'.ownBlock = v.ownBlock ∧ Fr (fun k => k = q) w w' := by
  refine wp_start1 Try.func111 rfl rfl (n := 32) (by decide) fun a E => ?_
  have hf : Fr (fun _ => False) w w := Fr.refl _ _
  obtain ⟨hq, hO⟩ := hQ
  obtain ⟨g, cap, hv, hcap⟩ := oWt_open hO (by simp)
  have hln : (Y ++ [x]).length = Y.length + 1 := by simp
  rw [hln] at hv hcap
  subst hv
  have hxl : (Y ++ [x])[Y.length]? = some x := by simp
  have hrow := oWt_row hO _ _ hxl
  have hgl : g < w.heap.size := (hO.lt (k := g) rfl).2
  have hql := lt_of_blk hq
  have hne : g ≠ q := fun e => ow_ne_struct (by decide) hO hq (by rw [← e]; rfl)
  refine wp_seq ?_
  refine wp_region_lit ?_
  refine env_put (d := 2) (v := Value.nilIface) E rfl (by decide) rfl (wanted_none rfl _) (run_assign rfl rfl) fun a E => ?_
  refine wpList_nil ?_
  refine then_n ?_
  refine wp_seq ?_
  refine wp_region_invx (G := Nat) 0 (n := 32) (base := [(0, .pointer (some ⟨q, 0, none⟩))]) (U := []) (T := fun γ => [some (4, .pointer (some ⟨q, 0, none⟩)), some (5, .pointer (some ⟨q, 0, none⟩)), some (6, .pointer (some ⟨q, 0, none⟩)), some (7, .slice (some ⟨g, 0, none⟩) (Y.length + 1) cap), some (8, .pointer (some ⟨q, 0, none⟩)), some (9, .pointer (some ⟨q, 0, none⟩)), some (10, .pointer (some ⟨q, 0, none⟩)), some (11, .slice (some ⟨g, 0, none⟩) (Y.length + 1) cap), some (12, .int .i64 ((Y.length + 1 : Nat) : Int)), some (13, .int .i64 (((Y.length + 1 : Nat) : Int) - 1)), some (14, .pointer (some ⟨g, (0 + Y.length * 2), none⟩)), some (15, .agg (wtC x)), some (3, .pointer (some ⟨γ, 0, none⟩)), none]) (M := fun γ ls9 wm => Fr (fun _ => False) w wm ∧ (ls9 12 = true → ls9 13 = false → w.heap.size ≤ γ ∧ wm.heap[γ]? = some (.cells #[.pointer none, .int .i64 0] 76 (0, 0))) ∧ (ls9 13 = true → w.heap.size ≤ γ ∧ wtB wm γ x)) (by kernel_rfl) (by kernel_rfl) (fun _ => by kernel_rfl) (E.of ⟨E.get 1 rfl, trivial⟩) (fun x hx => by cases hx) ⟨(Fr.refl _ _).drew, fun e => absurd e Bool.false_ne_true, fun e => absurd e Bool.false_ne_true⟩ ?_ ?_
  · intro j9 o9 γ ls9 a w5 ho hl E D DL DL2 hB hM
    obtain ⟨m1, m2, m3⟩ := hM
    have hq5 := m1.obj hq id
    have hr5 : w5.rangeAt g (0 + Y.length * 2) (wtL x) := fun m u hu => m1.cell (hrow m u hu) id
    match j9, ho, hl, D, DL, hB with
    | 0, ho, hl, D, DL, hB =>
      obtain rfl := Option.some.inj ho
      exact ⟨fun _ => valx rfl (run_move rfl (E.get 0 rfl)) rfl ⟨m1, m2, m3⟩, fun h => by rw [wanted_none rfl] at h; cases h⟩
    | 1, ho, hl, D, DL, hB =>
      obtain rfl := Option.some.inj ho
      exact ⟨fun _ => valx rfl (run_nilchk rfl (D 0 _ rfl rfl)) rfl ⟨m1, m2, m3⟩, fun h => by rw [wanted_none rfl] at h; cases h⟩
    | 2, ho, hl, D, DL, hB =>
      obtain rfl := Option.some.inj ho
      exact ⟨fun _ => valx rfl (fa80_0 rfl (D 1 _ rfl rfl)) rfl ⟨m1, m2, m3⟩, fun h => by rw [wanted_none rfl] at h; cases h⟩
    | 3, ho, hl, D, DL, hB =>
      obtain rfl := Option.some.inj ho
      exact ⟨fun _ => valx rfl (run_ld78 rfl (D 2 _ rfl rfl) (bx hq5 0 rfl)) rfl ⟨m1, m2, m3⟩, fun h => by rw [wanted_none rfl] at h; cases h⟩
    | 4, ho, hl, D, DL, hB =>
      obtain rfl := Option.some.inj ho
      exact ⟨fun _ => valx rfl (run_move rfl (E.get 0 rfl)) rfl ⟨m1, m2, m3⟩, fun h => by rw [wanted_none rfl] at h; cases h⟩
    | 5, ho, hl, D, DL, hB =>
      obtain rfl := Option.some.inj ho
      exact ⟨fun _ => valx rfl (run_nilchk rfl (D 4 _ rfl rfl)) rfl ⟨m1, m2, m3⟩, fun h => by rw [wanted_none rfl] at h; cases h⟩
    | 6, ho, hl, D, DL, hB =>
      obtain rfl := Option.some.inj ho
      exact ⟨fun _ => valx rfl (fa80_0 rfl (D 5 _ rfl rfl)) rfl ⟨m1, m2, m3⟩, fun h => by rw [wanted_none rfl] at h; cases h⟩
    | 7, ho, hl, D, DL, hB =>
      obtain rfl := Option.some.inj ho
      exact ⟨fun _ => valx rfl (run_ld78 rfl (D 6 _ rfl rfl) (bx hq5 0 rfl)) rfl ⟨m1, m2, m3⟩, fun h => by rw [wanted_none rfl] at h; cases h⟩
    | 8, ho, hl, D, DL, hB =>
      obtain rfl := Option.some.inj ho
      exact ⟨fun _ => valx rfl (run_len78 rfl (D 7 _ rfl rfl)) rfl ⟨m1, m2, m3⟩, fun h => by rw [wanted_none rfl] at h; cases h⟩
    | 9, ho, hl, D, DL, hB =>
      obtain rfl := Option.some.inj ho
      exact ⟨fun _ => valx rfl (run_isub Try.underlying3 (D 8 _ rfl rfl) rfl (by omega) (by omega) rfl) rfl ⟨m1, m2, m3⟩, fun h => by rw [wanted_none rfl] at h; cases h⟩
    | 10, ho, hl, D, DL, hB =>
      obtain rfl := Option.some.inj ho
      exact ⟨fun _ => valx rfl (run_index78z (i := Y.length) (by omega) rfl (D 3 _ rfl rfl) (D 9 _ rfl rfl) (by omega)) rfl ⟨m1, m2, m3⟩, fun h => by rw [wanted_none rfl] at h; cases h⟩
    | 11, ho, hl, D, DL, hB =>
      obtain rfl := Option.some.inj ho
      exact ⟨fun _ => valx rfl (run_ld76 rfl (D 10 _ rfl rfl) hr5) rfl ⟨m1, m2, m3⟩, fun h => by rw [wanted_none rfl] at h; cases h⟩
    | 12, ho, hl, D, DL, hB =>
      have n13 : ls9 13 = false := by
        cases h8 : ls9 13 with
        | false => rfl
        | true => exact absurd (hl.symm.trans (DL2 13 12 rfl h8)) (by decide)
      obtain rfl := Option.some.inj ho
      exact ⟨fun _ => valxw w5.heap.size rfl (run_alloc76 rfl) rfl (fun j hj => match j, hj with | 12, hj => absurd (hl.symm.trans hj) (by decide) | 0, _ => rfl | 1, _ => rfl | 2, _ => rfl | 3, _ => rfl | 4, _ => rfl | 5, _ => rfl | 6, _ => rfl | 7, _ => rfl | 8, _ => rfl | 9, _ => rfl | 10, _ => rfl | 11, _ => rfl | 13, _ => rfl | j9 + 14, _ => rfl) ⟨m1.alloc _, fun _ _ => ⟨m1.size, blk_alloc_new _ _⟩, fun h => (by simp [n13] at h)⟩, fun h => by rw [wanted_none rfl] at h; cases h⟩
    | 13, ho, hl, D, DL, hB =>
      have d12 := DL 12 rfl
      obtain ⟨hgz, hb9⟩ := m2 d12 hl
      obtain rfl := Option.some.inj ho
      exact ⟨fun _ => storex rfl (run_st76 (s := x) (off := 0) rfl (D 12 _ rfl rfl) (D 11 _ rfl rfl) (bx hb9 0 rfl) (bx hb9 (0 + 1) rfl) (free_of_blk hb9 _) (free_of_blk hb9 _)) rfl ⟨m1.trans' (Fr.two _ _ _ _ _ _) (fun r hr e => by omega), fun _ h => (by simp at h), fun _ => ⟨hgz, wtB_set hb9 x⟩⟩, fun h => by rw [wanted_none rfl] at h; cases h⟩
    | j9 + 14, ho, hl, D, DL, hB => exact absurd ho (by simp)
  · rintro b4 a w6 E V hM
    have E := E.add (v := .pointer (some ⟨b4, 0, none⟩)) (V 12 _ rfl)
    clear V
    obtain ⟨f1, _, m3⟩ := hM
    obtain ⟨hgz, hb4⟩ := m3 rfl
    have hq := f1.obj hq id
    have hO := hO.fr f1 (fun _ _ h => h)
    have hf := hf.trans f1
    refine then_n ?_
    refine wp_seq ?_
    refine wp_region_invx (G := Unit) () (n := 32) (base := [(0, .pointer (some ⟨q, 0, none⟩)), (3, .pointer (some ⟨b4, 0, none⟩))]) (U := []) (T := fun γ => [some (16, .pointer (some ⟨q, 0, none⟩)), some (17, .pointer (some ⟨q, 0, none⟩)), some (18, .pointer (some ⟨q, 0, none⟩)), some (19, .pointer (some ⟨q, 0, none⟩)), some (20, .slice (some ⟨g, 0, none⟩) (Y.length + 1) cap), some (21, .pointer (some ⟨q, 0, none⟩)), some (22, .pointer (some ⟨q, 0, none⟩)), some (23, .pointer (some ⟨q, 0, none⟩)), some (24, .slice (some ⟨g, 0, none⟩) (Y.length + 1) cap), some (25, .int .i64 ((Y.length + 1 : Nat) : Int)), some (26, .int .i64 (((Y.length + 1 : Nat) : Int) - 1)), some (27, .slice (some ⟨g, 0, none⟩) Y.length cap), some (28, .pointer (some ⟨q, 0, none⟩)), some (29, .pointer (some ⟨q, 0, none⟩)), none]) (M := fun γ ls9 wm => Fr (fun k => k = q) w6 wm ∧ (ls9 14 = false → quB wm q (.slice (some ⟨g, 0, none⟩) (Y.length + 1) cap)) ∧ (ls9 14 = true → quB wm q (.slice (some ⟨g, 0, none⟩) Y.length cap))) (by kernel_rfl) (by kernel_rfl) (fun _ => by kernel_rfl) (E.of ⟨E.get 1 rfl, E.get 0 rfl, trivial⟩) (fun x hx => by cases hx) ⟨(Fr.refl _ _).drew, fun _ => (Fr.refl (fun _ => False) _).drew.obj hq id, fun e => absurd e Bool.false_ne_true⟩ ?_ ?_
    · intro j9 o9 γ ls9 a w5 ho hl E D DL DL2 hB hM
      obtain ⟨m1, m2, m3⟩ := hM
      match j9, ho, hl, D, DL, hB with
      | 0, ho, hl, D, DL, hB =>
        obtain rfl := Option.some.inj ho
        exact ⟨fun _ => valx rfl (run_move rfl (E.get 0 rfl)) rfl ⟨m1, m2, m3⟩, fun h => by rw [wanted_none rfl] at h; cases h⟩
      | 1, ho, hl, D, DL, hB =>
        obtain rfl := Option.some.inj ho
        exact ⟨fun _ => valx rfl (run_move rfl (E.get 0 rfl)) rfl ⟨m1, m2, m3⟩, fun h => by rw [wanted_none rfl] at h; cases h⟩
      | 2, ho, hl, D, DL, hB =>
        obtain rfl := Option.some.inj ho
        exact ⟨fun _ => valx rfl (run_nilchk rfl (D 1 _ rfl rfl)) rfl ⟨m1, m2, m3⟩, fun h => by rw [wanted_none rfl] at h; cases h⟩
      | 3, ho, hl, D, DL, hB =>
        obtain rfl := Option.some.inj ho
        exact ⟨fun _ => valx rfl (fa80_0 rfl (D 2 _ rfl rfl)) rfl ⟨m1, m2, m3⟩, fun h => by rw [wanted_none rfl] at h; cases h⟩
      | 4, ho, hl, D, DL, hB =>
        have n14 : ls9 14 = false := by
          cases h8 : ls9 14 with
          | false => rfl
          | true => exact absurd (hl.symm.trans (DL2 14 4 rfl h8)) (by decide)
        obtain rfl := Option.some.inj ho
        exact ⟨fun _ => valx rfl (run_ld78 rfl (D 3 _ rfl rfl) (bx (m2 n14) 0 rfl)) rfl ⟨m1, m2, m3⟩, fun h => by rw [wanted_none rfl] at h; cases h⟩
      | 5, ho, hl, D, DL, hB =>
        obtain rfl := Option.some.inj ho
        exact ⟨fun _ => valx rfl (run_move rfl (E.get 0 rfl)) rfl ⟨m1, m2, m3⟩, fun h => by rw [wanted_none rfl] at h; cases h⟩
      | 6, ho, hl, D, DL, hB =>
        obtain rfl := Option.some.inj ho
        exact ⟨fun _ => valx rfl (run_nilchk rfl (D 5 _ rfl rfl)) rfl ⟨m1, m2, m3⟩, fun h => by rw [wanted_none rfl] at h; cases h⟩
      | 7, ho, hl, D, DL, hB =>
        obtain rfl := Option.some.inj ho
        exact ⟨fun _ => valx rfl (fa80_0 rfl (D 6 _ rfl rfl)) rfl ⟨m1, m2, m3⟩, fun h => by rw [wanted_none rfl] at h; cases h⟩
      | 8, ho, hl, D, DL, hB =>
        have n14 : ls9 14 = false := by
          cases h8 : ls9 14 with
          | false => rfl
          | true => exact absurd (hl.symm.trans (DL2 14 8 rfl h8)) (by decide)
        obtain rfl := Option.some.inj ho
        exact ⟨fun _ => valx rfl (run_ld78 rfl (D 7 _ rfl rfl) (bx (m2 n14) 0 rfl)) rfl ⟨m1, m2, m3⟩, fun h => by rw [wanted_none rfl] at h; cases h⟩
      | 9, ho, hl, D, DL, hB =>
        obtain rfl := Option.some.inj ho
        exact ⟨fun _ => valx rfl (run_len78 rfl (D 8 _ rfl rfl)) rfl ⟨m1, m2, m3⟩, fun h => by rw [wanted_none rfl] at h; cases h⟩
      | 10, ho, hl, D, DL, hB =>
        obtain rfl := Option.some.inj ho
        exact ⟨fun _ => valx rfl (run_isub Try.underlying3 (D 9 _ rfl rfl) rfl (by omega) (by omega) rfl) rfl ⟨m1, m2, m3⟩, fun h => by rw [wanted_none rfl] at h; cases h⟩
      | 11, ho, hl, D, DL, hB =>
        obtain rfl := Option.some.inj ho
        exact ⟨fun _ => valx rfl (run_sto78 (i := Y.length) (by omega) rfl (D 4 _ rfl rfl) (D 10 _ rfl rfl) (by omega) (by omega)) rfl ⟨m1, m2, m3⟩, fun h => by rw [wanted_none rfl] at h; cases h⟩
      | 12, ho, hl, D, DL, hB =>
        obtain rfl := Option.some.inj ho
        exact ⟨fun _ => valx rfl (run_nilchk rfl (D 0 _ rfl rfl)) rfl ⟨m1, m2, m3⟩, fun h => by rw [wanted_none rfl] at h; cases h⟩
      | 13, ho, hl, D, DL, hB =>
        obtain rfl := Option.some.inj ho
        exact ⟨fun _ => valx rfl (fa80_0 rfl (D 12 _ rfl rfl)) rfl ⟨m1, m2, m3⟩, fun h => by rw [wanted_none rfl] at h; cases h⟩
      | 14, ho, hl, D, DL, hB =>
        have hq9 := m2 hl
        obtain rfl := Option.some.inj ho
        exact ⟨fun _ => storex rfl (run_st78 rfl rfl (D 13 _ rfl rfl) (D 11 _ rfl rfl) (bx hq9 0 rfl) (free_of_blk hq9 0)) rfl ⟨m1.setCell (p := ⟨q, 0, none⟩) (fun _ => rfl) _, fun h => (by simp at h), fun _ => blk_setCell_same (off := 0) hq9 _⟩, fun h => by rw [wanted_none rfl] at h; cases h⟩
      | j9 + 15, ho, hl, D, DL, hB => exact absurd ho (by simp)
    · rintro _ a w9 E V hM
      clear V
      obtain ⟨f1, _, m3⟩ := hM
      have hb4 := f1.obj hb4 (by omega)
      have hO := oWt_pop hO
      have hO := hO.fr f1 (fun k hk e => by cases hk; exact hne e)
      have hq := m3 rfl
      refine then_n ?_
      refine wp_seq ?_
      refine wp_region_lit ?_
      refine env_put (d := 30) (v := .agg (wtC x)) E rfl (by decide) rfl (wanted_none rfl _) (run_ld76 rfl (E.get 1 rfl) (wtB_rng hb4)) fun a E => ?_
      refine env_put (d := 31) (v := .iface 76 (.agg (wtC x))) E rfl (by decide) rfl (wanted_none rfl _) (run_mki76 rfl (E.get 0 rfl)) fun a E => ?_
      refine env_put (d := 2) (v := .iface 76 (.agg (wtC x))) E rfl (by decide) rfl (wanted_none rfl _) (run_assign rfl (E.get 0 rfl)) fun a E => ?_
      refine wpList_nil ?_
      refine then_n ?_
      refine wp_ret ?_
      exact ret_tmp (t := 2) rfl E (E.get 0 rfl) ⟨rfl, .slice (some ⟨g, 0, none⟩) Y.length cap, ⟨hq, hO⟩, rfl, (hf.mono fun _ _ h => h.elim).trans' f1 (fun _ _ e => e)⟩
end Go.Proofs.Ytcafnanbdmapgaa
set_option linter.unusedVariables false
set_option linter.unusedSimpArgs false
namespace Go.Proofs.Ytcafnanbdmapgaa
open Go.RowKit Go.Pl

/-- The one at a is not less than the one at b. -/
def gE (f : Nat → Wt) (a b : Nat) : Prop := ¬ LsW (f a) (f b)
def sw (f : Nat → Wt) (i j : Nat) : Nat → Wt := fun k => if k = j then f i else if k = i then f j else f k
theorem sw_j (f : Nat → Wt) (i j : Nat) : sw f i j j = f i := by simp [sw]
theorem sw_i (f : Nat → Wt) (i j : Nat) : sw f i j i = f j := by
  unfold sw; split
  · rename_i h; rw [h]
  · simp
theorem sw_o (f : Nat → Wt) {i j k : Nat} (h1 : k ≠ i) (h2 : k ≠ j) : sw f i j k = f k := by simp [sw, h1, h2]
def Hp (f : Nat → Wt) (n : Nat) : Prop := ∀ k, 1 ≤ k → k < n → gE f k ((k - 1) / 2)
def HpUp (f : Nat → Wt) (n j : Nat) : Prop := (∀ k, 1 ≤ k → k < n → k ≠ j → gE f k ((k - 1) / 2)) ∧ ∀ k, 1 ≤ k → k < n → (k - 1) / 2 = j → 1 ≤ j → gE f k ((j - 1) / 2)
def HpDn (f : Nat → Wt) (n i : Nat) : Prop := (∀ k, 1 ≤ k → k < n → (k - 1) / 2 ≠ i → gE f k ((k - 1) / 2)) ∧ ∀ k, 1 ≤ k → k < n → (k - 1) / 2 = i → 1 ≤ i → gE f k ((i - 1) / 2)
theorem LsW.asymm {x y : Wt} (h : LsW x y) : ¬ LsW y x := fun k => LsW.irrefl _ (LsW.trans h k)
section
variable {f : Nat → Wt} {n i j : Nat}
theorem HpUp.stop0 (h : HpUp f n 0) : Hp f n := fun k h1 h2 => h.1 k h1 h2 (by omega)
theorem HpUp.stop (h : HpUp f n j) (hn : ¬ LsW (f j) (f ((j - 1) / 2))) : Hp f n := fun k h1 h2 => by
  by_cases hk : k = j
  · subst hk; exact hn
  · exact h.1 k h1 h2 hk
theorem HpUp.step (h : HpUp f n j) (h1 : 1 ≤ j) (hj : j < n) (hl : LsW (f j) (f ((j - 1) / 2))) : HpUp (sw f ((j - 1) / 2) j) n ((j - 1) / 2) := by
  obtain ⟨i, hi⟩ : ∃ i, i = (j - 1) / 2 := ⟨_, rfl⟩
  rw [← hi] at hl ⊢
  refine ⟨fun k hk1 hk2 hki => ?_, fun k hk1 hk2 hkp hi1 => ?_⟩
  · unfold gE
    by_cases hkj : k = j
    · subst hkj
      rw [← hi, sw_j, sw_i]; exact hl.asymm
    · rw [sw_o f hki hkj]
      by_cases hp : (k - 1) / 2 = j
      · rw [hp, sw_j]
        have := h.2 k hk1 hk2 hp h1
        rw [← hi] at this
        exact this
      · by_cases hp2 : (k - 1) / 2 = i
        · rw [hp2, sw_i]
          have := h.1 k hk1 hk2 hkj
          rw [hp2] at this
          exact fun h3 => this (LsW.trans h3 hl)
        · rw [sw_o f hp2 hp]; exact h.1 k hk1 hk2 hkj
  · unfold gE
    rw [sw_o f (k := (i - 1) / 2) (by omega) (by omega)]
    have hii := h.1 i hi1 (by omega) (by omega)
    by_cases hkj : k = j
    · subst hkj; rw [sw_j]; exact hii
    · rw [sw_o f (by omega) hkj]
      have := h.1 k hk1 hk2 hkj
      rw [hkp] at this
      exact LsW.ntrans this hii
theorem HpDn.stop (h : HpDn f n i) (hn : n ≤ 2 * i + 1) : Hp f n := fun k h1 h2 => h.1 k h1 h2 (by omega)
theorem HpDn.stop2 (h : HpDn f n i) (hc : ∀ c, 1 ≤ c → c < n → (c - 1) / 2 = i → ¬ LsW (f c) (f j)) (hn : ¬ LsW (f j) (f i)) : Hp f n := fun k h1 h2 => by
  by_cases hk : (k - 1) / 2 = i
  · unfold gE; rw [hk]; exact LsW.ntrans (hc k h1 h2 hk) hn
  · exact h.1 k h1 h2 hk
theorem HpDn.step (h : HpDn f n i) (hji : (j - 1) / 2 = i) (h1 : 1 ≤ j) (hj : j < n) (hc : ∀ c, 1 ≤ c → c < n → (c - 1) / 2 = i → ¬ LsW (f c) (f j)) (hl : LsW (f j) (f i)) : HpDn (sw f i j) n j := by
  refine ⟨fun k hk1 hk2 hkp => ?_, fun k hk1 hk2 hkp _ => ?_⟩
  · unfold gE
    by_cases hkj : k = j
    · subst hkj; rw [hji, sw_j, sw_i]; exact hl.asymm
    · by_cases hki : k = i
      · subst hki
        rw [sw_i, sw_o f (k := (k - 1) / 2) (by omega) (by omega)]
        exact h.2 j h1 hj hji hk1
      · rw [sw_o f hki hkj]
        by_cases hp : (k - 1) / 2 = i
        · rw [hp, sw_i]; exact hc k hk1 hk2 hp
        · rw [sw_o f hp hkp]; exact h.1 k hk1 hk2 hp
  · unfold gE
    rw [hji, sw_i, sw_o f (by omega) (by omega)]
    have := h.1 k hk1 hk2 (by omega)
    rw [hkp] at this
    exact this
theorem Hp.min (h : Hp f n) : ∀ k, k < n → ¬ LsW (f k) (f 0) := by
  intro k
  induction k using Nat.strongRecOn with
  | _ k ih =>
    intro hk
    by_cases h0 : k = 0
    · subst h0; exact LsW.irrefl _
    · exact LsW.ntrans (h k (by omega) hk) (ih _ (by omega) (by omega))
end
/-- A list as a function. -/
def fx (X : List Wt) (k : Nat) : Wt := X[k]?.getD ⟨(0, ((0, 0), (0, 0)), []), 0, 0⟩
theorem fx_of {X : List Wt} {k : Nat} {x : Wt} (h : X[k]? = some x) : fx X k = x := by unfold fx; rw [h]; rfl
theorem fx_at {X : List Wt} {k : Nat} (h : k < X.length) : X[k]? = some (fx X k) := by unfold fx; rw [List.getElem?_eq_getElem h]; rfl
abbrev swp (X : List Wt) (i j : Nat) (x y : Wt) : List Wt := (X.set i y).set j x
theorem fx_swp {X : List Wt} {i j : Nat} {x y : Wt} (hx : X[i]? = some x) (hy : X[j]? = some y) : fx (swp X i j x y) = sw (fx X) i j := by
  have hi := (List.getElem?_eq_some_iff.1 hx).1
  have hj := (List.getElem?_eq_some_iff.1 hy).1
  funext k
  unfold fx sw
  rw [List.getElem?_set]
  by_cases hkj : j = k
  · subst hkj
    rw [if_pos rfl, if_pos (by rw [List.length_set]; exact hj), if_pos rfl]
    simp [hx]
  · rw [if_neg hkj, if_neg (fun e => hkj e.symm), List.getElem?_set]
    by_cases hki : i = k
    · subst hki
      rw [if_pos rfl, if_pos hi, if_pos rfl]
      simp [hy]
    · rw [if_neg hki, if_neg (fun e => hki e.symm)]
theorem swp_len {X : List Wt} {i j : Nat} {x y : Wt} : (swp X i j x y).length = X.length := by simp
theorem swp_perm {X : List Wt} {i j : Nat} {x y : Wt} (hx : X[i]? = some x) (hy : X[j]? = some y) : (swp X i j x y).Perm X := by
  obtain ⟨hi, hx⟩ := List.getElem?_eq_some_iff.1 hx
  obtain ⟨hj, hy⟩ := List.getElem?_eq_some_iff.1 hy
  have h := Array.swap_perm (xs := X.toArray) (i := i) (j := j) (by simpa using hi) (by simpa using hj)
  have h2 := Array.perm_iff_toList_perm.1 h
  rw [Array.toList_swap] at h2
  simpa [hx, hy] using h2
/-- The queue in memory, with its nodes. -/
def HAt (w : World) (q B : Nat) (v : Value) (S : Nat → Prop) (X : List Wt) : Prop := QAt w q B v X ∧ ∀ x ∈ X, WtAt w S x
theorem HAt.fr {w w' : World} {q B : Nat} {v : Value} {S F : Nat → Prop} {X : List Wt} (h : HAt w q B v S X) (f : Fr F w w') (h1 : ¬ F q) (h2 : ∀ k, v.ownBlock = some k → ¬ F k) (h3 : ∀ k, S k → ¬ F k) : HAt w' q B v S X := ⟨h.1.fr f h1 h2, fun x hx => (h.2 x hx).fr f h3⟩
end Go.Proofs.Ytcafnanbdmapgaa
