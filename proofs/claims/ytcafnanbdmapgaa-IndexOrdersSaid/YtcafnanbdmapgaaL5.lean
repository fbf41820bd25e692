/- Packing: steps and plain laws. -/
import Derived.Test.YtcafnanbdmapgaaMk
set_option linter.unusedVariables false
set_option linter.unusedSimpArgs false
namespace Go.Proofs.Ytcafnanbdmapgaa
open Go.RowKit Go.Pl

abbrev ndC (b : Bx) (v : Value) : Array Value := #[.int .i64 b.1.1, .int .i64 b.1.2, .int .i64 b.2.1, .int .i64 b.2.2, .string ByteArray.empty, v]
/-- A node that is being made. -/
abbrev ndB (w : World) (u : Nat) (b : Bx) (v : Value) : Prop := w.heap[u]? = some (.cells (ndC b v) 71 (0, 0))
section
variable {o : Oper} {w : World} {ρ : Operand → Value} {x y : Operand} {u off g n c : Nat} {b t : Bx} {v : Value} {p : Option Addr}
theorem oNd_slice {B : Nat} {L : List Nd} (h : oNd w B v L) : ∃ p n c, v = .slice p n c := by
  obtain ⟨p, c, h, _⟩ := h.src ndL_len; exact ⟨p, _, c, h⟩
theorem run_build71 (hv : ∃ p n c, v = .slice p n c) (ho : o.op = .build 71 #[(0, x), (2, y)]) (hx : ρ x = .agg (bxC b)) (hy : ρ y = v) : (execOp ρ o).run Try.prog w = .ok (.value (.agg (ndC b v))) w := by
  obtain ⟨p, n, c, rfl⟩ := hv
  simp [execOp, ho, hx, hy, go_sem]
  rfl
theorem run_box71 (ho : o.op = .box 71 x) (hx : ρ x = .agg (ndC b v)) : (execOp ρ o).run Try.prog w = .ok (.value (.pointer (some ⟨w.heap.size, 0, none⟩))) (w.alloc (.cells (ndC b v) 71)) := by
  simp [execOp, ho, hx, go_sem]
theorem ndB.set (h : ndB w u b v) (t : Bx) : ndB ((((w.setCell ⟨u, 0, none⟩ (.int .i64 t.1.1)).setCell ⟨u, 1, none⟩ (.int .i64 t.1.2)).setCell ⟨u, 2, none⟩ (.int .i64 t.2.1)).setCell ⟨u, 3, none⟩ (.int .i64 t.2.2)) u t v := by
  have h1 := blk_setCell_same (off := 0) h (.int .i64 t.1.1)
  have h2 := blk_setCell_same (off := 1) h1 (.int .i64 t.1.2)
  have h3 := blk_setCell_same (off := 2) h2 (.int .i64 t.2.1)
  have h4 := blk_setCell_same (off := 3) h3 (.int .i64 t.2.2)
  exact h4
theorem run_st26n (ho : o.op = .store 26 x y) (hx : ρ x = .pointer (some ⟨u, 0, none⟩)) (hy : ρ y = .agg (bxC t)) (h : ndB w u b v) :
    (execOp ρ o).run Try.prog w = .ok .skip ((((w.setCell ⟨u, 0, none⟩ (.int .i64 t.1.1)).setCell ⟨u, 1, none⟩ (.int .i64 t.1.2)).setCell ⟨u, 2, none⟩ (.int .i64 t.2.1)).setCell ⟨u, 3, none⟩ (.int .i64 t.2.2)) := by
  have c0 : w.cell? ⟨u, 0, none⟩ = some (.int .i64 b.1.1) := bx h 0 rfl
  have c1 : w.cell? ⟨u, 1, none⟩ = some (.int .i64 b.1.2) := bx h 1 rfl
  have c2 : w.cell? ⟨u, 2, none⟩ = some (.int .i64 b.2.1) := bx h 2 rfl
  have c3 : w.cell? ⟨u, 3, none⟩ = some (.int .i64 b.2.2) := bx h 3 rfl
  have z0 := free_of_blk h 0
  have z1 := free_of_blk h 1
  have z2 := free_of_blk h 2
  have z3 := free_of_blk h 3
  simp [execOp, ho, hx, hy, go_sem, c0, c1, c2, c3, z0, z1, z2, z3]
theorem run_alloc69 (ho : o.op = .alloc 69) : (execOp ρ o).run Try.prog w = .ok (.value (.pointer (some ⟨w.heap.size, 0, none⟩))) (w.alloc (.cells #[.slice none 0 0] 69)) := by
  simp [execOp, ho, go_sem]
theorem run_st69 {u0 : Value} (hv : v = .slice p n c) (ho : o.op = .store 69 x y) (hx : ρ x = .pointer (some ⟨g, off, none⟩)) (hy : ρ y = v) (hc : w.cell? ⟨g, off, none⟩ = some u0) (hz : w.frozen? ⟨g, off, none⟩ = false) : (execOp ρ o).run Try.prog w = .ok .skip (w.setCell ⟨g, off, none⟩ v) := by
  subst hv
  simp [execOp, ho, hx, hy, go_sem, hc, hz]
end
section
variable {O : Array Oper} {Q : Exit → Act → World → Prop} {rest : List Oper} {o : Oper} {a : Act} {w : World} {n d : Nat} {L : List (Nat × Value)} {x y : Operand} {ds : List Deferred}
theorem env_alloc69 (E : EnvD ds n L a) (hd : o.dst = some d) (hn : d < n) (hf : (L.map (·.1)).contains d = false) (hw : Region.wanted o (yielded O a.tmps) = true) (ho : o.op = .alloc 69)
    (k : ∀ a' w' b, w.heap.size = b → w'.heap[b]? = some (.cells #[.slice none 0 0] 69 (0, 0)) → Fr (fun _ => False) w w' → EnvD ds n ((d, .pointer (some ⟨b, 0, none⟩)) :: L) a' → wpList Try.prog O Q rest a' w') : wpList Try.prog O Q (o :: rest) a w :=
  env_put E hd hn hf hw (run_alloc69 ho) fun a' E' => k a' _ _ rfl (blk_alloc_new _ _) ((Fr.refl _ _).alloc _) E'
end
/-- What packing hands back. -/
def PackP (w : World) (S0 : Nat → Prop) (v0 : Value) (C0 : List Nd) (e : Ending) (w' : World) : Prop :=
  ∃ rv, e = .returned rv ∧ Fr (fun k => v0.ownBlock = some k) w w' ∧ ((rv = .pointer none ∧ enL C0 = []) ∨ ∃ S n p b L, rv = .pointer (some ⟨p, 0, none⟩) ∧ NdAt w' S n p b L ∧ L.Perm (enL C0) ∧ ∀ k, S k → k < w'.heap.size ∧ (S0 k ∨ w.heap.size ≤ k))

theorem rndP_n {R : World → Prop} {a : Act} {W : World} (h : R W) : rndP R .normal a W := h
theorem chs_len {g off N n : Nat} (hn : 1 ≤ n) : (chs g off N n).length = (N + n - 1) / n := by simp [chs]
theorem chs_cov {N n : Nat} (hn : 1 ≤ n) : N ≤ (N + n - 1) / n * n := by
  have h1 := Nat.div_add_mod (N + n - 1) n
  have h2 := Nat.mod_lt (N + n - 1) (show 0 < n by omega)
  rw [Nat.mul_comm] at h1
  omega
theorem chs_pos {N n : Nat} (hn : 1 ≤ n) (hN : 1 ≤ N) : 1 ≤ (N + n - 1) / n := by
  rw [Nat.le_div_iff_mul_le (by omega)]; omega
section
variable {wr wk W wi2 wu w2 w1 w3 : World} {g nx c1 c2 c3 c4 N cap s h k li e N0 j u : Nat} {S S1 S2 S3 : Nat → Prop} {C D E E0 E1 N1 N2 F0 : List Nd} {nv nw va v9 : Value} {cur2 cr : Array Value} {b0 : Bx}
theorem out_next (hDl : D.length = N) (H : OutI wr g nx c1 c2 N cap s h S D k wk S1 N1 nv cr) (J : InI wr wk li g nx c1 c2 c3 c4 N cap s k E0.length h N1.length S D E1 cur2 ((E0.length + 8 - 1) / 8) W S2 N2 nw) (hks : k * s < N) (hE0 : E0 = (D.drop (k * s)).take s) (hE0l : E0.length = min s (N - k * s)) (hE1 : E1.Perm E0)
    (hout : ∀ i, i < 0 + k * s ∨ 0 + k * s + E0.length ≤ i → cur2[i]? = cr[i]?) (hs8 : 8 ≤ s) (hlt1 : 1 < N) : OutI wr g nx c1 c2 N cap s h S D (k + 1) W S2 N2 nw cur2 := by
  have hk1 : (k + 1) * s = k * s + s := by rw [Nat.add_mul, Nat.one_mul]
  refine ⟨J.hb, fun j c hj hjk => ?_, J.hx, J.hO, J.k1, J.k2, J.hN, J.hN1, J.hS1, fun b hb => ⟨(J.hSl b hb).1, (J.hSl b hb).2.1⟩, ?_, ?_, H.hf.trans' J.hf (fun r hr e => ?_)⟩
  · rw [hout j (.inr (by omega))]; exact H.hd j c hj (by omega)
  · rw [hk1, List.take_add]
    have h1 : E1.take ((E0.length + 8 - 1) / 8 * 8) = E1 := List.take_of_length_le (by rw [hE1.length_eq]; exact chs_cov (by omega))
    have h2 := J.hP
    rw [h1] at h2
    rw [← hE0]
    refine h2.trans ?_
    show (enL (D.take (k * s)) ++ enL E1).Perm (List.flatMap _ (D.take (k * s) ++ E0))
    rw [List.flatMap_append]
    exact (List.Perm.refl _).append (hE1.flatMap_right _)
  · have h1 := H.hc
    have h2 := J.hc
    rw [hk1]
    have h3 : k = 0 ∨ 1 ≤ k := by omega
    rcases h3 with rfl | h3
    · simp only [Nat.zero_mul, Nat.zero_add] at *
      omega
    · have h4 := h1.2 h3
      omega
  · rcases e with e | e | e
    · exact .inl e
    · exact .inr e
    · omega
theorem out_rec (lo : Low wr g nx c1 c2 S) (J : InI wr wk li g nx c1 c2 c3 c4 N cap s k e h N0 S D E cur2 j W S2 N2 nw) (hwk : wr.heap.size + 2 ≤ wk.heap.size) : W.heap[wr.heap.size]? = wk.heap[wr.heap.size]? ∧ W.heap[wr.heap.size + 1]? = wk.heap[wr.heap.size + 1]? := by
  have := lo.lg; have := lo.lx
  exact ⟨J.hf.blk _ (by omega) (by omega), J.hf.blk _ (by omega) (by omega)⟩
/-- What the making of one node turns. -/
theorem in_fr (lo : Low wr g nx c1 c2 S) (hwk2 : wr.heap.size + 2 ≤ wk.heap.size) (hwki : wk.heap.size ≤ li) (hwj : li + 1 ≤ wi2.heap.size) (hul : wi2.heap.size ≤ u) (fu : Fr (fun _ => False) wi2 wu) (hF : Fr (fun b => b = u) wu w2) (f3 : Fr (fun _ => False) w2 w1) (f4 : Fr (fun k => nw.ownBlock = some k) w1 w3) (v9 : Value) :
    Fr (fun b => b = nx ∨ nw.ownBlock = some b) w2 (w3.setCell ⟨nx, 0, none⟩ v9) ∧ Fr (fun b => b = u ∨ b = nx ∨ nw.ownBlock = some b) wu (w3.setCell ⟨nx, 0, none⟩ v9) ∧ Fr (fun b => b = nx ∨ nw.ownBlock = some b) wi2 (w3.setCell ⟨nx, 0, none⟩ v9) := by
  have h1 : Fr (fun b => b = nx ∨ nw.ownBlock = some b) w2 (w3.setCell ⟨nx, 0, none⟩ v9) := ((f3.mono fun _ _ h => h.elim).trans' f4 (fun _ _ e => .inr e)).setCell (p := ⟨nx, 0, none⟩) (fun _ => .inl rfl) v9
  have h2 : Fr (fun b => b = u ∨ b = nx ∨ nw.ownBlock = some b) wu (w3.setCell ⟨nx, 0, none⟩ v9) := (hF.mono fun _ _ e => .inl e).trans' h1 (fun _ _ e => .inr e)
  refine ⟨h1, h2, (fu.mono fun _ _ h => h.elim).trans' h2 fun r hr e => ?_⟩
  rcases e with e | e
  · omega
  · exact e
theorem in_rec (lo : Low wr g nx c1 c2 S) (hwk2 : wr.heap.size + 2 ≤ wk.heap.size) (hwki : wk.heap.size ≤ li) (hwj : li + 1 ≤ wi2.heap.size) (hul : wi2.heap.size ≤ u) (J : InI wr wk li g nx c1 c2 c3 c4 N cap s k e h N0 S D E cur2 j wi2 S2 N2 nw) (fu : Fr (fun _ => False) wi2 wu) (hF : Fr (fun b => b = u) wu w2) (f3 : Fr (fun _ => False) w2 w1) (f4 : Fr (fun k => nw.ownBlock = some k) w1 w3) (v9 : Value) :
    (w3.setCell ⟨nx, 0, none⟩ v9).heap[li]? = wi2.heap[li]? := by
  obtain ⟨_, _, hT⟩ := in_fr lo hwk2 hwki hwj hul fu hF f3 f4 v9
  have := lo.lx
  exact hT.blk li (by omega) (fun e => by rcases e with e | e; omega; exact J.hOl e)
theorem in_next (lo : Low wr g nx c1 c2 S) (hwk2 : wr.heap.size + 2 ≤ wk.heap.size) (hwki : wk.heap.size ≤ li) (hwj : li + 1 ≤ wi2.heap.size) (hul : wi2.heap.size ≤ u) (hau : va.ownBlock ≠ some u) (J : InI wr wk li g nx c1 c2 c3 c4 N cap s k e h N0 S D E1 cur2 j wi2 S2 N2 nw)
    (hF0 : F0 = (E1.drop (j * 8)).take 8) (hFne : F0 ≠ []) (hok0 : okB b0) (hOa : oNd wu wi2.heap.size va F0) (hNF : NdsAt wu S h F0) (hu : ndB w2 u (accB b0 F0) va) (fu : Fr (fun _ => False) wi2 wu) (hF : Fr (fun b => b = u) wu w2) (f3 : Fr (fun _ => False) w2 w1) (f4 : Fr (fun k => nw.ownBlock = some k) w1 w3)
    (hO9 : oNd w3 (wr.heap.size + 2) v9 (N2 ++ [(u, accB b0 F0, enL F0)])) (hloc : v9.ownBlock = nw.ownBlock ∨ v9.ownBlock = some w1.heap.size) (hx9 : w3.heap[nx]? = some (.cells #[nw] 69 (0, 0))) (hS3 : S3 = fun b => S2 b ∨ b = u ∨ va.ownBlock = some b ∨ S b) :
    InI wr wk li g nx c1 c2 c3 c4 N cap s k e h N0 S D E1 cur2 (j + 1) (w3.setCell ⟨nx, 0, none⟩ v9) S3 (N2 ++ [(u, accB b0 F0, enL F0)]) v9 := by
  obtain ⟨h2, hu2, hT⟩ := in_fr lo hwk2 hwki hwj hul fu hF f3 f4 v9
  have z1 := fu.size
  have z2 := hF.size
  have z3 := f3.size
  have z4 := h2.size
  have hlg := lo.lg
  have hlx := lo.lx
  have hl1 := lo.l1
  have hl2 := lo.l2
  have hgx := lo.gx
  have own : ∀ b, nw.ownBlock = some b → wr.heap.size + 2 ≤ b ∧ b < wi2.heap.size := fun b hb => J.hO.lt hb
  have hul2 : u < w2.heap.size := lt_of_blk hu
  have h8 : F0.length ≤ 8 := by rw [hF0, List.length_take]; omega
  have hk1 : (j + 1) * 8 = j * 8 + 8 := by omega
  obtain ⟨a, ca, cur, hva, hba, hca, hcl, hal⟩ := oNd_cells hOa hFne
  have hal2 : a < wu.heap.size := lt_of_blk hba
  have hau2 : a ≠ u := fun e => hau (by rw [hva, e]; rfl)
  have hSS3 : ∀ b, S b → S3 b := fun b hb => by rw [hS3]; exact .inr (.inr (.inr hb))
  have hSb : ∀ b, S b → ¬ (b = u ∨ b = nx ∨ nw.ownBlock = some b) := fun b hb e => by
    have h9 := lo.lS b hb
    rcases e with e | e | e
    · omega
    · exact h9.2.2 e
    · have := (own b e).1; omega
  refine ⟨hT.obj J.hb ?_, blk_setCell_same (off := 0) hx9 v9, hO9.fr ((Fr.refl (fun b => b = nx) w3).setCell (p := ⟨nx, 0, none⟩) (fun _ => rfl) v9) (fun b hb e => by have := (hO9.lt hb).1; omega), ?_, hT.obj J.k1 ?_, hT.obj J.k2 ?_, hT.obj J.k3 ?_, hT.obj J.k4 ?_,
    J.hN.fr hT (fun b hb e => hSb b hb (.inr e)), ?_, ?_, ?_, ?_, ?_, J.hf.trans' hT ?_⟩
  · rintro (e | e)
    · exact hgx e
    · have := (own _ e).1; omega
  · rcases hloc with e | e
    · rw [e]; exact J.hOl
    · rw [e]; intro e2; have := Option.some.inj e2; omega
  · rintro (e | e)
    · exact lo.gc1.2 e
    · have := (own _ e).1; omega
  · rintro (e | e)
    · exact lo.gc2.2 e
    · have := (own _ e).1; omega
  · rintro (q | q)
    · have h9 := J.k3; rw [q, J.hx] at h9
      simp only [Option.some.injEq, Obj.cells.injEq] at h9
      have h10 := h9.1
      have h11 : nw = .slice (some ⟨g, 0 + k * s, none⟩) e e := by simpa using h10
      have := (own g (by rw [h11]; rfl)).1
      omega
    · exact ow_ne_struct (by decide) J.hO J.k3 q
  · rintro (e | e)
    · have h9 := J.k4; rw [e, J.hx] at h9
      simp at h9
    · exact ow_ne_struct (by decide) J.hO J.k4 e
  · intro c hc
    rcases List.mem_append.1 hc with hc | hc
    · refine ((J.hN1 c hc).fr hT (fun b hb e => ?_)).mono (fun b hb => by rw [hS3]; exact .inl hb)
      rcases e with e | e
      · rcases J.hS1 b hb with h9 | h9
        · exact (lo.lS b h9).2.2 e
        · omega
      · exact (J.hSl b hb).2.1 e
    · simp only [List.mem_singleton] at hc
      subst hc
      refine new_node (a := a) (cap := ca) hFne h8 ?_ (by rw [hS3]; exact .inr (.inl rfl)) (by rw [hS3]; exact .inr (.inr (.inl (by rw [hva]; rfl)))) (fun i c hc => ?_) ((hNF.fr hu2 hSb).mono hSS3) (accB_ok _ _ hok0 fun c hc => (hNF c hc).ok) (fun c hc => accB_in _ _ _ ⟨c, hc, by unfold inB; omega⟩)
      · have h9 := h2.obj hu (fun e => by rcases e with e | e; omega; have := (own _ e).2; omega)
        rw [hva] at h9
        exact h9
      · have h9 := hu2.obj hba (fun e => by rcases e with e | e | e; exact hau2 e; omega; have := (own _ e).2; omega)
        rw [cell_of_blk h9]; exact hcl i c hc
  · intro b hb
    rw [hS3] at hb
    rcases hb with hb | hb | hb | hb
    · exact J.hS1 b hb
    · right; omega
    · right; have := (hOa.lt hb).1; omega
    · exact .inl hb
  · intro b hb
    rw [hS3] at hb
    rcases hb with hb | hb | hb | hb
    · have h9 := J.hSl b hb
      refine ⟨by have := hT.size; omega, ?_, h9.2.2⟩
      rcases hloc with e | e
      · rw [e]; exact h9.2.1
      · rw [e]; intro e2; have := Option.some.inj e2; omega
    · refine ⟨by omega, ?_, by omega⟩
      rcases hloc with e | e
      · rw [e]; intro e2; have := (own _ e2).2; omega
      · rw [e]; intro e2; have := Option.some.inj e2; omega
    · have h9 := hOa.lt hb
      refine ⟨by omega, ?_, by omega⟩
      rcases hloc with e | e
      · rw [e]; intro e2; have := (own _ e2).2; omega
      · rw [e]; intro e2; have := Option.some.inj e2; omega
    · have h9 := lo.lS b hb
      refine ⟨by have := hT.size; omega, ?_, by omega⟩
      intro e2; have := (hO9.lt e2).1; omega
  · rw [hk1, List.take_add, ← hF0]
    show (List.flatMap _ (N2 ++ [(u, accB b0 F0, enL F0)])).Perm (enL (D.take (k * s)) ++ List.flatMap _ (E1.take (j * 8) ++ F0))
    rw [List.flatMap_append, List.flatMap_append, ← List.append_assoc]
    refine J.hP.append ?_
    simp
  · rw [List.length_append, J.hc]; simp; omega
  · intro r hr e
    rcases e with e | e
    · exact .inr (.inl e)
    · exact .inr (.inr (own _ e).1)
end

end Go.Proofs.Ytcafnanbdmapgaa
