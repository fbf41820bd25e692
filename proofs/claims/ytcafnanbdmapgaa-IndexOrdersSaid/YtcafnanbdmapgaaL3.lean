/- slices.Chunk, slices.Clone, append at rows of nodes. -/
import Derived.Test.YtcafnanbdmapgaaL2
import Derived.Deep.QuietTactic
import Derived.BigQuiet
import Derived.Lib.Hide
import Derived.Deep.RegionLaw
set_option linter.unusedVariables false
set_option linter.unusedSimpArgs false
namespace Go.Proofs.Ytcafnanbdmapgaa
open Go.RowKit Go.Pl

theorem info59 : (Try.prog.info? 59).map (fun i => (i.zero, i.size, i.bytes)) = some (some (.pointer none), 1, 8) := by kernel_rfl
section
variable {O : Array Oper} {Q : Exit → Act → World → Prop} {rest : List Oper} {o : Oper} {a : Act} {w : World} {n d : Nat} {L : List (Nat × Value)} {x y : Operand} {ds : List Deferred} {ρ : Operand → Value}
theorem run_emp69 (ho : o.op = .buildSlice 69 0 #[]) : (execOp ρ o).run Try.prog w = .ok (.value (.slice (some ⟨w.heap.size, 0, none⟩) 0 0)) (w.alloc (.cells #[] 59)) := by
  simp [execOp, ho, go_sem]
theorem run_one69 {c : Nd} (ho : o.op = .buildSlice 69 1 #[(0, x)]) (hx : ρ x = ndV c) : (execOp ρ o).run Try.prog w = .ok (.value (.slice (some ⟨w.heap.size, 0, none⟩) 1 1)) (w.alloc (.cells #[ndV c] 59)) := by
  simp [execOp, ho, hx, go_sem]
theorem app69 {B G : Nat} {v : Value} {A S : List Nd} {p : Option Addr} {cap : Nat} (ho : o.op = .call { callee := .builtin .append, args := #[x, y], argTypes := #[69, 69] }) (hx : ρ x = v) (hy : ρ y = .slice p S.length cap) (hv : oNd w B v A) (hsrc : srcAt ndL 1 w G p S) (hcp : p = none → cap = 0) (hl : A.length + S.length ≤ 400000000) (hB : B ≤ w.heap.size) :
    ∃ v' w', (execOp ρ o).run Try.prog w = .ok (.value v') w' ∧ oNd w' B v' (A ++ S) ∧ Fr (fun k => v.ownBlock = some k) w w' ∧ (v'.ownBlock = v.ownBlock ∨ v'.ownBlock = some w.heap.size) :=
  appR ndL_len (by omega) (fun s u hu => by simp at hu; subst hu; rfl) Try.underlying69 info59 rfl (by decide) ho hx hy hv hsrc hcp hl hB
theorem env_app69 {B G : Nat} {v : Value} {A S : List Nd} {p : Option Addr} {cap : Nat} (En : EnvD ds n L a) (hd : o.dst = some d) (hn : d < n) (hfr : (L.map (·.1)).contains d = false) (hg : o.guard = none) (ho : o.op = .call { callee := .builtin .append, args := #[x, y], argTypes := #[69, 69] }) (hx : a.eval x = v) (hv : oNd w B v A) (hy : a.eval y = .slice p S.length cap) (hsrc : srcAt ndL 1 w G p S) (hcp : p = none → cap = 0) (hl : A.length + S.length ≤ 400000000) (hB : B ≤ w.heap.size)
    (k : ∀ a' w' v', oNd w' B v' (A ++ S) → Fr (fun k => v.ownBlock = some k) w w' → (v'.ownBlock = v.ownBlock ∨ v'.ownBlock = some w.heap.size) → EnvD ds n ((d, v') :: L) a' → wpList Try.prog O Q rest a' w') : wpList Try.prog O Q (o :: rest) a w := by
  obtain ⟨i0, hi0, hz0, hz1, hz2⟩ := info_parts info59
  exact env_appR ndL_len (by omega) (fun s u hu => by simp at hu; subst hu; rfl) Try.underlying69 hi0 hz0 hz1 hz2 rfl (by decide) En hd hn hfr hg ho hx hv hy hsrc hcp hl hB k
theorem env_emp69 {B : Nat} (En : EnvD ds n L a) (hd : o.dst = some d) (hn : d < n) (hf : (L.map (·.1)).contains d = false) (hw : Region.wanted o (yielded O a.tmps) = true) (ho : o.op = .buildSlice 69 0 #[]) (hB : B ≤ w.heap.size)
    (k : ∀ a' w' b, w.heap.size = b → oNd w' B (.slice (some ⟨b, 0, none⟩) 0 0) [] → Fr (fun _ => False) w w' → EnvD ds n ((d, .slice (some ⟨b, 0, none⟩) 0 0) :: L) a' → wpList Try.prog O Q rest a' w') : wpList Try.prog O Q (o :: rest) a w :=
  env_put En hd hn hf hw (run_emp69 ho) fun a' E' => k a' _ _ rfl (ow_empty w hB) ((Fr.refl _ _).alloc _) E'
theorem src_one69 {b G : Nat} {c : Nd} (hb : w.heap[b]? = some (.cells #[ndV c] 59 (0, 0))) (hG : b < G) : srcAt ndL 1 w G (some ⟨b, 0, none⟩) [c] := src_one hb hG
theorem env_one69 {c : Nd} (En : EnvD ds n L a) (hd : o.dst = some d) (hn : d < n) (hf : (L.map (·.1)).contains d = false) (hw : Region.wanted o (yielded O a.tmps) = true) (ho : o.op = .buildSlice 69 1 #[(0, x)]) (hx : a.eval x = ndV c)
    (k : ∀ a' w' b, srcAt ndL 1 w' w'.heap.size (some ⟨b, 0, none⟩) [c] → Fr (fun _ => False) w w' → EnvD ds n ((d, .slice (some ⟨b, 0, none⟩) 1 1) :: L) a' → wpList Try.prog O Q rest a' w') : wpList Try.prog O Q (o :: rest) a w :=
  env_put En hd hn hf hw (run_one69 ho hx) fun a' E' => k a' _ _ (src_one69 (blk_alloc_new _ _) (by simp)) ((Fr.refl _ _).alloc _) E'
end
/-- What slices.Chunk hands back. -/
def ChkP (w : World) (g off N cap n : Nat) (e : Ending) (w' : World) : Prop :=
  ∃ c1 c2, e = .returned (.func (.func 74) #[] #[.pointer (some ⟨c1, 0, none⟩), .pointer (some ⟨c2, 0, none⟩)]) ∧ w'.heap[c1]? = some (.cells #[.slice (some ⟨g, off, none⟩) N cap] 69 (0, 0)) ∧ w'.heap[c2]? = some (.cells #[.int .i64 (n : Int)] 3 (0, 0)) ∧ Fr (fun _ => False) w w' ∧ w.heap.size ≤ c1 ∧ w.heap.size ≤ c2
theorem chunk_calls (g off N cap n : Nat) (w : World) (hn : 1 ≤ n) : Calls Try.prog 57 #[.slice (some ⟨g, off, none⟩) N cap, .int .i64 (n : Int)] w (ChkP w g off N cap n) := by
  have hfin : Hid (ChkP w g off N cap n (.returned (.func (.func 74) #[] #[.pointer (some ⟨w.heap.size, 0, none⟩), .pointer (some ⟨w.heap.size + 1, 0, none⟩)])) ((w.alloc (.cells #[.slice (some ⟨g, off, none⟩) N cap] 69)).alloc (.cells #[.int .i64 (n : Int)] 3))) :=
    ⟨_, _, rfl, (blk_alloc (by simp) _).trans (blk_alloc_new _ _), blk_alloc_at (by simp) _, ((Fr.refl _ _).alloc _).alloc _, Nat.le_refl _, by simp⟩
  have t1 : decide ((n : Int) < 1) = false := decide_eq_false (by omega)
  clear hn
  go_enter Try.func57, Try.ntmps57
  go_wp2
  go_ret
  exact hfin.out

set_option maxRecDepth 100000 in
set_option maxHeartbeats 4000000 in
theorem clone_calls {w : World} {G cap : Nat} {ad : Addr} {S : List Nd} (hs : srcAt ndL 1 w G (some ad) S) (hl : S.length ≤ 1000000) : Calls Try.prog 59 #[.slice (some ad) S.length cap] w fun e w' => ∃ v', e = .returned v' ∧ oNd w' w.heap.size v' S ∧ Fr (fun _ => False) w w' := by
  refine wp_start1 Try.func59 rfl rfl (n := 8) (by decide) fun a E => ?_
  have hf : Fr (fun _ => False) w w := Fr.refl _ _
  have hw0 : w.heap.size ≤ w.heap.size := Nat.le_refl _
  refine wp_seq ?_
  refine wp_region_lit ?_
  refine env_put (d := 2) (v := .slice none 0 0) E rfl (by decide) rfl (wanted_none rfl _) (run_assign rfl rfl) fun a E => ?_
  refine wpList_nil ?_
  refine then_n ?_
  refine wp_seq ?_
  refine wp_seq ?_
  refine wp_region_lit ?_
  refine env_put (d := 3) (v := .slice (some ad) S.length cap) E rfl (by decide) rfl (wanted_none rfl _) (run_move rfl (E.get 1 rfl)) fun a E => ?_
  refine env_put (d := 4) (v := .bool false) E rfl (by decide) rfl (wanted_none rfl _) (run_snn69 rfl (E.get 0 rfl) rfl) fun a E => ?_
  refine wpList_nil ?_
  refine then_n ?_
  refine wp_cond_false (E.get 0 rfl) ?_
  refine wp_skip ?_
  refine then_n ?_
  refine wp_seq ?_
  refine wp_region_lit ?_
  refine env_emp69 (B := w.heap.size) (d := 5) E rfl (by decide) rfl (wanted_none rfl _) rfl hf.size fun a w1 b1 eb1 hO f1 E => ?_
  have hs := hs.fr f1 (fun _ _ h => h)
  have hf := hf.trans f1
  clear f1
  refine env_put (d := 6) (v := .slice (some ad) S.length cap) E rfl (by decide) rfl (wanted_none rfl _) (run_move rfl (E.get 4 rfl)) fun a E => ?_
  refine env_app69 (B := w.heap.size) (d := 7) E rfl (by decide) rfl rfl rfl (E.get 1 rfl) hO (E.get 0 rfl) hs (fun h => by cases h) (by simp; omega) hf.size fun a w1 v2 hO2 f1 hloc E => ?_
  have hf := hf.trans' f1 (fun r hr e => by have := (hO.lt e).1; omega)
  refine env_set (d := 2) (v := v2) E rfl (by decide) (wanted_none rfl _) (run_assign rfl (E.get 0 rfl)) fun a E => ?_
  refine wpList_nil ?_
  refine then_n ?_
  refine wp_ret ?_
  exact ret_tmp (t := 2) rfl E (E.get 0 rfl) ⟨_, rfl, hO2, hf⟩
end Go.Proofs.Ytcafnanbdmapgaa
