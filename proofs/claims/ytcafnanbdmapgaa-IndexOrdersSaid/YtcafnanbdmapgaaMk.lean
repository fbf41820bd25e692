/- A function that leaves with marks of ranges over functions among its deferred calls: over whatever program. -/
import Derived.Test.YtcafnanbdmapgaaRn
import Derived.Test.YtcafnanbdmapgaaWa
import Derived.Test.YtcafnanbdmapgaaL3
set_option linter.unusedVariables false
set_option linter.unusedSimpArgs false
namespace Go.Pl
open Go.RowKit
variable {P : Program} {w w' : World} {ds : List Deferred}
abbrev mkD (D : Nat) : Deferred := { target := .collected D, args := #[] }
def isMark (ds : List Deferred) (k : Nat) : Prop := mkD k ∈ ds
/-- The marks' blocks: each once, each without a call. -/
def MarksOk (w : World) (ds : List Deferred) : Prop := ds.Nodup ∧ ∀ d ∈ ds, ∃ D, d = mkD D ∧ w.heap[D]? = some (.deferred (some []))
theorem MarksOk.nil (w : World) : MarksOk w [] := ⟨List.nodup_nil, fun _ h => by cases h⟩
theorem mkD_inj {a b : Nat} (h : mkD a = mkD b) : a = b := by
  simp only [mkD, Deferred.mk.injEq, Target.collected.injEq] at h; exact h.1
theorem MarksOk.at (h : MarksOk w ds) {k : Nat} (hk : isMark ds k) : w.heap[k]? = some (.deferred (some [])) := by
  obtain ⟨D, h1, h2⟩ := h.2 _ hk
  rw [mkD_inj h1]; exact h2
theorem MarksOk.fr {F : Nat → Prop} (h : MarksOk w ds) (hf : Fr F w w') (hF : ∀ k, isMark ds k → ¬ F k) : MarksOk w' ds :=
  ⟨h.1, fun d hd => by
    obtain ⟨D, h1, h2⟩ := h.2 d hd
    exact ⟨D, h1, hf.obj h2 (hF D (by unfold isMark; rw [← h1]; exact hd))⟩⟩
theorem MarksOk.cons (h : MarksOk w ds) {D : Nat} (hD : w.heap[D]? = some (.deferred (some []))) (hn : ¬ isMark ds D) : MarksOk w (mkD D :: ds) :=
  ⟨List.nodup_cons.2 ⟨hn, h.1⟩, fun d hd => by
    rcases List.mem_cons.1 hd with rfl | hd
    · exact ⟨D, rfl, hD⟩
    · exact h.2 d hd⟩
theorem isMark_cons {D k : Nat} : isMark (mkD D :: ds) k ↔ k = D ∨ isMark ds k := by
  unfold isMark
  rw [List.mem_cons]
  constructor
  · rintro (h | h)
    · exact .inl (mkD_inj h)
    · exact .inr h
  · rintro (rfl | h)
    · exact .inl rfl
    · exact .inr h

theorem leavesM {fn : Func} {tmps : Array Value} {R : Ending → World → Prop} : ∀ (ds : List Deferred) (w : World), MarksOk w ds →
    (∀ w', Fr (isMark ds) w w' → ∃ v, (results fn tmps).run P w' = .ok v w' ∧ R (.returned v) w') → LeavesInM Fence.wide 0 P fn tmps R ds .returning w := by
  intro ds
  induction ds with
  | nil => intro w _ h; exact h w (Fr.refl _ _)
  | cons d ds ih =>
    intro w hm h
    obtain ⟨D, rfl, hD⟩ := hm.2 d (by simp)
    refine ⟨by simp, .inl ⟨D, _, rfl, run_takeDeferred hD, ih _ ⟨(List.nodup_cons.1 hm.1).2, fun e he => ?_⟩ fun w' hf => h w' ?_⟩⟩
    · obtain ⟨D2, rfl, h2⟩ := hm.2 e (by simp [he])
      refine ⟨D2, rfl, (World.putObj_heap_other ?_).trans h2⟩
      rintro rfl
      exact (List.nodup_cons.1 hm.1).1 he
    · exact ((Fr.putObj w D (.deferred none)).mono (fun k _ hk => isMark_cons.2 (.inl hk))).trans' hf (fun k _ hk => isMark_cons.2 (.inr hk))
theorem wp_startM1 {f : FuncId} {fn : Func} {c : Code} {R : Ending → World → Prop} {n : Nat} {v0 : Value} (hf : P.funcs[f]? = some fn) (hb : fn.body = some c) (hn : fn.ntmps = n) (h2 : 1 ≤ n) (k : ∀ a, Env n [(0, v0)] a → c.wp P (bodyPostM Fence.wide 0 P fn R) a w) : Calls P f #[v0] w R := by
  refine (callsIn_wide (n := 0)).1 (callsIn_of_wp_marks hf hb trivial ((wpIn_wide (n := 0)).2 (k _ ⟨?_, ?_, rfl⟩)))
  · simp [hn]; omega
  · intro x hx
    simp only [List.mem_cons, List.not_mem_nil, or_false] at hx
    subst hx
    show (#[v0] ++ Array.replicate (fn.ntmps - 1) undef).getD 0 undef = v0
    rw [Array.getD_eq_getD_getElem?, Array.getElem?_append_left (by simp)]; rfl
theorem retM_tmp {fn : Func} {R : Ending → World → Prop} {n : Nat} {L : List (Nat × Value)} {a : Act} {t : Tmp} {v : Value} (hr : fn.results = #[.tmp t]) (E : EnvD ds n L a) (hv : a.eval (.tmp t) = v) (hm : MarksOk w ds) (h : ∀ w', Fr (isMark ds) w w' → R (.returned v) w') : bodyPostM Fence.wide 0 P fn R .ret a w := by
  show LeavesInM Fence.wide 0 P fn a.tmps R a.defers .returning w
  rw [E.df]
  refine leavesM ds w hm fun w' hf => ⟨v, ?_, h w' hf⟩
  unfold results
  rw [hr]
  have : a.tmps.getD t undef = v := hv
  rw [Array.getD_eq_getD_getElem?] at this
  simp [this]
def lenOf : Value → Nat
  | .slice _ n _ => n
  | _ => 0
end Go.Pl
set_option linter.unusedVariables false
set_option linter.unusedSimpArgs false
namespace Go.Proofs.Ytcafnanbdmapgaa
open Go.RowKit Go.Pl
abbrev enL (C : List Nd) : List En := C.flatMap (·.2.2)

theorem oNd_cells {w : World} {B : Nat} {v : Value} {C : List Nd} (h : oNd w B v C) (hne : C ≠ []) : ∃ g cap cur, v = .slice (some ⟨g, 0, none⟩) C.length cap ∧ w.heap[g]? = some (.cells cur 59 (0, 0)) ∧ C.length ≤ cap ∧ cellsN cur 0 C ∧ B ≤ g := by
  rcases h.2 with ⟨h1, h2⟩ | ⟨g, cap, cur, h1, hB, h3, h4, h5, h6, h7⟩
  · exact absurd (List.eq_nil_of_length_eq_zero h2) hne
  · refine ⟨g, cap, cur, h1, h3, h4, fun j c hc => ?_, hB⟩
    have hi := (List.getElem?_eq_some_iff.1 hc).1
    have := flat_at ndL_len C j c hc 0 (by omega)
    rw [← h7] at this
    simp only [Nat.mul_one, Nat.add_zero] at this
    rw [List.getElem?_take_of_lt hi, Array.getElem?_toList] at this
    rw [Nat.zero_add]; exact this
theorem oNd_open {w : World} {B cap : Nat} {p : Option Addr} {C : List Nd} {N : Nat} (hl : C.length = N) (h : oNd w B (.slice p N cap) C) (hne : 0 < N) : ∃ g cur, p = some ⟨g, 0, none⟩ ∧ w.heap[g]? = some (.cells cur 59 (0, 0)) ∧ C.length ≤ cap ∧ cellsN cur 0 C ∧ B ≤ g := by
  obtain ⟨g, cap2, cur, h1, h2, h3, h4, h5⟩ := oNd_cells h (by rintro rfl; simp at hl; omega)
  simp only [Value.slice.injEq] at h1
  obtain ⟨rfl, _, rfl⟩ := h1
  exact ⟨g, cur, rfl, h2, h3, h4, h5⟩

theorem arB_ok {a b : Bx} (ha : okB a) (hb : okB b) : okB (arB a b) := by
  obtain ⟨⟨⟨x1, x2⟩, x3, x4⟩, ⟨⟨x5, x6⟩, x7, x8⟩, x9, x10⟩ := ha
  obtain ⟨⟨⟨y1, y2⟩, y3, y4⟩, ⟨⟨y5, y6⟩, y7, y8⟩, y9, y10⟩ := hb
  unfold arB
  refine ⟨⟨⟨?_, ?_⟩, ?_, ?_⟩, ⟨⟨?_, ?_⟩, ?_, ?_⟩, ?_, ?_⟩ <;> simp only <;> omega
theorem arB_inl {x a b : Bx} (h : inB x a) : inB x (arB a b) := by unfold inB arB at *; simp only; omega
theorem arB_inr {x a b : Bx} (h : inB x b) : inB x (arB a b) := by unfold inB arB at *; simp only; omega
/-- The box around a box and the nodes' boxes. -/
def accB (b : Bx) (L : List Nd) : Bx := L.foldl (fun b c => arB b c.2.1) b
theorem accB_snoc (b : Bx) (L : List Nd) (c : Nd) : accB b (L ++ [c]) = arB (accB b L) c.2.1 := by simp [accB]
theorem accB_take {b : Bx} {L : List Nd} {i : Nat} {c : Nd} (h : L[i]? = some c) : accB b (L.take (i + 1)) = arB (accB b (L.take i)) c.2.1 := by
  rw [List.take_add_one, h]; exact accB_snoc _ _ _
theorem accB_cons (b : Bx) (c : Nd) (L : List Nd) : accB b (c :: L) = accB (arB b c.2.1) L := rfl
theorem accB_ok : ∀ (L : List Nd) (b : Bx), okB b → (∀ c ∈ L, okB c.2.1) → okB (accB b L)
  | [], b, hb, _ => hb
  | c :: L, b, hb, h => accB_ok L _ (arB_ok hb (h c (by simp))) fun d hd => h d (by simp [hd])
theorem accB_in0 : ∀ (L : List Nd) (b x : Bx), inB x b → inB x (accB b L)
  | [], b, x, h => h
  | c :: L, b, x, h => accB_in0 L _ x (arB_inl h)
theorem accB_in : ∀ (L : List Nd) (b x : Bx), (∃ c ∈ L, inB x c.2.1) → inB x (accB b L)
  | [], b, x, ⟨c, hc, _⟩ => by cases hc
  | c :: L, b, x, ⟨d, hd, hx⟩ => by
    rcases List.mem_cons.1 hd with rfl | hd
    · exact accB_in0 L _ x (arB_inr hx)
    · exact accB_in L _ x ⟨d, hd, hx⟩

theorem new_node {W : World} {S : Nat → Prop} {h u a cap : Nat} {b : Bx} {F : List Nd} (hF : F ≠ []) (h8 : F.length ≤ 8) (hu : W.heap[u]? = some (.cells #[.int .i64 b.1.1, .int .i64 b.1.2, .int .i64 b.2.1, .int .i64 b.2.2, .string ByteArray.empty, .slice (some ⟨a, 0, none⟩) F.length cap] 71 (0, 0))) (hSu : S u) (hSa : S a)
    (hcl : ∀ (i : Nat) c, F[i]? = some c → W.cell? ⟨a, 0 + i, none⟩ = some (ndV c)) (hN : NdsAt W S h F) (hok : okB b) (hin : ∀ c ∈ F, inB c.2.1 b) : NdAt W S (h + 1) u b (enL F) := by
  refine ⟨⟨hSu, hok⟩, a, 0, cap, F, hu, hSa, hF, h8, fun i c hc => ⟨hcl i c hc, hN c (List.mem_of_getElem? hc)⟩, rfl, fun x hx => ?_⟩
  obtain ⟨c, hc, hxc⟩ := List.mem_flatMap.1 hx
  have h1 := (hN c hc).in_ x hxc
  have h2 := hin c hc
  unfold inB at *; omega

/-- Between two strips: k strips are packed. -/
structure OutI (wr : World) (g nx c1 c2 N cap s h : Nat) (S : Nat → Prop) (D : List Nd) (k : Nat) (W : World) (S1 : Nat → Prop) (N1 : List Nd) (nv : Value) (cur1 : Array Value) : Prop where
  hb : W.heap[g]? = some (.cells cur1 59 (0, 0))
  hd : ∀ (j : Nat) c, D[j]? = some c → k * s ≤ j → cur1[j]? = some (ndV c)
  hx : W.heap[nx]? = some (.cells #[nv] 69 (0, 0))
  hO : oNd W (wr.heap.size + 2) nv N1
  k1 : W.heap[c1]? = some (.cells #[.slice (some ⟨g, 0, none⟩) N cap] 69 (0, 0))
  k2 : W.heap[c2]? = some (.cells #[.int .i64 (s : Int)] 3 (0, 0))
  hN : NdsAt W S h D
  hN1 : NdsAt W S1 (h + 1) N1
  hS1 : ∀ b, S1 b → S b ∨ wr.heap.size + 2 ≤ b
  hSl : ∀ b, S1 b → b < W.heap.size ∧ nv.ownBlock ≠ some b
  hP : (enL N1).Perm (enL (D.take (k * s)))
  hc : N1.length ≤ min (k * s) N ∧ (1 ≤ k → N1.length + 1 ≤ min (k * s) N)
  hf : Fr (fun b => b = g ∨ b = nx) wr W
/-- The blocks of the packing lie below the loop's own. -/
structure Low (wr : World) (g nx c1 c2 : Nat) (S : Nat → Prop) : Prop where
  lg : g < wr.heap.size
  lx : nx < wr.heap.size
  l1 : c1 < wr.heap.size
  l2 : c2 < wr.heap.size
  lS : ∀ b, S b → b < wr.heap.size ∧ b ≠ g ∧ b ≠ nx
  gx : g ≠ nx
  gc1 : c1 ≠ g ∧ c1 ≠ nx
  gc2 : c2 ≠ g ∧ c2 ≠ nx
section
variable {wr wk W W' : World} {g nx c1 c2 c3 c4 N cap s h k li e N0 : Nat} {S S1 : Nat → Prop} {D E N1 : List Nd} {nv : Value} {cur1 : Array Value}
theorem OutI.fr (H : OutI wr g nx c1 c2 N cap s h S D k W S1 N1 nv cur1) (lo : Low wr g nx c1 c2 S) (f : Fr (fun b => b = wr.heap.size ∨ b = wr.heap.size + 1) W W') : OutI wr g nx c1 c2 N cap s h S D k W' S1 N1 nv cur1 := by
  have := lo.lg; have := lo.lx; have := lo.l1; have := lo.l2
  exact ⟨f.obj H.hb (by omega), H.hd, f.obj H.hx (by omega), H.hO.fr f (fun b hb e => by have := (H.hO.lt hb).1; omega), f.obj H.k1 (by omega), f.obj H.k2 (by omega),
    H.hN.fr f (fun b hb e => by have := (lo.lS b hb).1; omega), H.hN1.fr f (fun b hb e => by
      rcases H.hS1 b hb with h | h
      · have := (lo.lS b h).1; omega
      · omega), H.hS1, fun b hb => ⟨Nat.lt_of_lt_of_le (H.hSl b hb).1 f.size, (H.hSl b hb).2⟩, H.hP, H.hc, H.hf.trans' f (fun r hr e => by omega)⟩
/-- Within a strip: j parts of it are packed. -/
structure InI (wr wk : World) (li g nx c1 c2 c3 c4 N cap s k e h N0 : Nat) (S : Nat → Prop) (D E : List Nd) (cur2 : Array Value) (j : Nat) (W : World) (S1 : Nat → Prop) (N1 : List Nd) (nv : Value) : Prop where
  hb : W.heap[g]? = some (.cells cur2 59 (0, 0))
  hx : W.heap[nx]? = some (.cells #[nv] 69 (0, 0))
  hO : oNd W (wr.heap.size + 2) nv N1
  hOl : nv.ownBlock ≠ some li
  k1 : W.heap[c1]? = some (.cells #[.slice (some ⟨g, 0, none⟩) N cap] 69 (0, 0))
  k2 : W.heap[c2]? = some (.cells #[.int .i64 (s : Int)] 3 (0, 0))
  k3 : W.heap[c3]? = some (.cells #[.slice (some ⟨g, 0 + k * s, none⟩) e e] 69 (0, 0))
  k4 : W.heap[c4]? = some (.cells #[.int .i64 ((8 : Nat) : Int)] 3 (0, 0))
  hN : NdsAt W S h D
  hN1 : NdsAt W S1 (h + 1) N1
  hS1 : ∀ b, S1 b → S b ∨ wr.heap.size + 2 ≤ b
  hSl : ∀ b, S1 b → b < W.heap.size ∧ nv.ownBlock ≠ some b ∧ b ≠ li
  hP : (enL N1).Perm (enL (D.take (k * s)) ++ enL (E.take (j * 8)))
  hc : N1.length = N0 + j
  hf : Fr (fun b => b = g ∨ b = nx ∨ wr.heap.size + 2 ≤ b) wk W
theorem InI.fr {cur2 : Array Value} {j : Nat} (H : InI wr wk li g nx c1 c2 c3 c4 N cap s k e h N0 S D E cur2 j W S1 N1 nv) (lo : Low wr g nx c1 c2 S) (hw : wr.heap.size + 2 ≤ wk.heap.size) (hli : wk.heap.size ≤ li) (h3 : c3 ≠ li) (h4 : c4 ≠ li) (f : Fr (fun b => b = li) W W') : InI wr wk li g nx c1 c2 c3 c4 N cap s k e h N0 S D E cur2 j W' S1 N1 nv := by
  have := lo.lg; have := lo.lx; have := lo.l1; have := lo.l2
  exact ⟨f.obj H.hb (by omega), f.obj H.hx (by omega), H.hO.fr f (fun b hb e => H.hOl (by rw [← e]; exact hb)), H.hOl, f.obj H.k1 (by omega), f.obj H.k2 (by omega), f.obj H.k3 h3, f.obj H.k4 h4,
    H.hN.fr f (fun b hb e => by have := (lo.lS b hb).1; omega), H.hN1.fr f (fun b hb e => (H.hSl b hb).2.2 e), H.hS1, fun b hb => ⟨Nat.lt_of_lt_of_le (H.hSl b hb).1 f.size, (H.hSl b hb).2⟩, H.hP, H.hc, H.hf.trans' f (fun r hr e => by omega)⟩
end
/-- The temporaries with which a round begins. -/
theorem env_zip1 {ds : List Deferred} {n d : Nat} {L : List (Nat × Value)} {a : Act} {x : Value} (E : EnvD ds n L a) (hn : d < n) (hf : (L.map (·.1)).contains d = false) : Env n ((d, x) :: L) { tmps := ((#[d] : Array Tmp).zip #[x]).foldl (fun t (p, v) => t.setIfInBounds p v) a.tmps, defers := [] } := by
  have h := E.put (v := x) hn hf
  refine ⟨?_, ?_, rfl⟩
  · have := h.size
    simpa [Act.put] using this
  · intro y hy
    have := h.at_ y hy
    simpa [Act.put, Act.eval] using this
theorem env_mark {ds : List Deferred} {n D : Nat} {L : List (Nat × Value)} {a : Act} (E : EnvD ds n L a) : EnvD (mkD D :: ds) n L { a with defers := { target := .collected D, args := #[] } :: a.defers } :=
  ⟨E.size, E.at_, by simp only; rw [E.df]⟩
end Go.Proofs.Ytcafnanbdmapgaa
