/- Two networks of one call; the loop that performs operations on both. -/
import Derived.Test.YtheogcihnclehaaFin
import Derived.OpenShut
namespace Go.Proofs.Ytheogcihnclehaa
open Go.RowKit Go.Pl Go.WideMaps

theorem Mine.go {w0 w : World} {p : Nat} {ρ : Roles} {S S' S2 : NetS} {v v' : Value} {f : FuncId} {args : Array Value} (m : Mine w0 w p ρ S) (h : Calls Try.prog f args w (NPost p ρ S' v w)) (hv : v = v') (hS : S' = S2) :
    Calls Try.prog f args w fun e w' => e = .returned v' ∧ ∃ ρ', Mine w0 w' p ρ' S2 := by
  subst hS; exact m.next h hv
theorem Mine.quiet {w0 w w' : World} {p : Nat} {ρ : Roles} {S : NetS} (m : Mine w0 w p ρ S) (hf : Fr (fun _ => False) w w') : Mine w0 w' p ρ S :=
  ⟨m.net.fr hf (by simp), m.fr.trans hf, m.fresh⟩

structure Two (w0 w : World) (p : Nat) (ρ : Roles) (S : NetS) (p2 : Nat) (ρ2 : Roles) (S2 : NetS) : Prop where
  a : Mine w0 w p ρ S
  b : Mine w0 w p2 ρ2 S2
  dj : ∀ r, ρ r ≠ none → ρ2 r = none
theorem Two.symm {w0 w p ρ S p2 ρ2 S2} (h : Two w0 w p ρ S p2 ρ2 S2) : Two w0 w p2 ρ2 S2 p ρ S :=
  ⟨h.b, h.a, fun r hr => by
    cases e : ρ r with
    | none => rfl
    | some x => exact absurd (h.dj r (by rw [e]; simp)) hr⟩
theorem Two.quiet {w0 w w' p ρ S p2 ρ2 S2} (h : Two w0 w p ρ S p2 ρ2 S2) (hf : Fr (fun _ => False) w w') : Two w0 w' p ρ S p2 ρ2 S2 := ⟨h.a.quiet hf, h.b.quiet hf, h.dj⟩
theorem Two.step {w0 w w' p ρ S p2 ρ2 S2} (h : Two w0 w p ρ S p2 ρ2 S2) {S' : NetS} {v : Value} {e : Ending} (hp : NPost p ρ S' v w e w') : e = .returned v ∧ ∃ ρ', Two w0 w' p ρ' S' p2 ρ2 S2 := by
  obtain ⟨he, ρ', h1, h2, h3⟩ := hp
  have hlt := h.b.net.lt
  refine ⟨he, ρ', ⟨h1, h.a.fr.trans' h2 (fun r hr hne => by have := h.a.fresh r hne; omega), fun r hr => ?_⟩, ⟨h.b.net.fr h2 (fun r hr hne => ?_), h.a.fr.trans' h2 (fun r hr hne => by have := h.a.fresh r hne; omega), h.b.fresh⟩, fun r hr => ?_⟩
  · by_cases hl : r < w.heap.size
    · exact h.a.fresh r (h3 r hl hr)
    · have := h.a.fr.size; omega
  · exact hr (h.dj r hne)
  · by_cases hl : r < w.heap.size
    · exact h.dj r (h3 r hl hr)
    · cases e : ρ2 r with
      | none => rfl
      | some x => exact absurd (hlt r (by rw [e]; simp)) hl
theorem Two.go {w0 w p ρ S p2 ρ2 S2} (h : Two w0 w p ρ S p2 ρ2 S2) {S' S3 : NetS} {v v' : Value} {f : FuncId} {args : Array Value} (hc : Calls Try.prog f args w (NPost p ρ S' v w)) (hv : v = v') (hS : S' = S3) :
    Calls Try.prog f args w fun e w' => e = .returned v' ∧ ∃ ρ', Two w0 w' p ρ' S3 p2 ρ2 S2 := by
  subst hv; subst hS; exact hc.mono fun e w' hp => h.step hp
theorem Two.go2 {w0 w p ρ S p2 ρ2 S2} (h : Two w0 w p ρ S p2 ρ2 S2) {S' S3 : NetS} {v v' : Value} {f : FuncId} {args : Array Value} (hc : Calls Try.prog f args w (NPost p2 ρ2 S' v w)) (hv : v = v') (hS : S' = S3) :
    Calls Try.prog f args w fun e w' => e = .returned v' ∧ ∃ ρ', Two w0 w' p ρ S p2 ρ' S3 := by
  subst hv; subst hS; exact hc.mono fun e w' hp => by
    obtain ⟨he, ρ', h'⟩ := h.symm.step hp
    exact ⟨he, ρ', h'.symm⟩
/-- A second network beside the first. -/
theorem Mine.second {w0 w w' : World} {p : Nat} {ρ : Roles} {S : NetS} (m : Mine w0 w p ρ S) {n : Int} {e : Ending} (h : NewPost n w e w') :
    ∃ p2 ρ2, e = .returned (.tuple #[.pointer (some ⟨p2, 0, none⟩), .int .i64 0]) ∧ Two w0 w' p ρ S p2 ρ2 (NetS.new n) := by
  obtain ⟨p2, ρ2, he, h1, h2, h3⟩ := h
  have := m.net.lt
  refine ⟨p2, ρ2, he, m.quiet h2, ⟨h1, m.fr.trans h2, fun r hr => Nat.le_trans m.fr.size (h3 r hr)⟩, fun r hr => ?_⟩
  cases e : ρ2 r with
  | none => rfl
  | some x => have h4 := h3 r (by rw [e]; simp); have := this r hr; omega

/-- .. and what it leaves of a block that is no part of the first network. -/
theorem Two.goK {w0 w p ρ S p2 ρ2 S2} (h : Two w0 w p ρ S p2 ρ2 S2) {S' S3 : NetS} {v v' : Value} {f : FuncId} {args : Array Value} (hc : Calls Try.prog f args w (NPost p ρ S' v w)) (hv : v = v') (hS : S' = S3) {L : Nat} {o : Obj} (hL : w.heap[L]? = some o) (h1 : ρ L = none) (h2 : ρ2 L = none) :
    Calls Try.prog f args w fun e w' => e = .returned v' ∧ ∃ ρ', Two w0 w' p ρ' S3 p2 ρ2 S2 ∧ w'.heap[L]? = some o ∧ ρ' L = none ∧ ρ2 L = none := by
  subst hv; subst hS
  refine hc.mono fun e w' hp => ?_
  obtain ⟨he, ρ', hT⟩ := h.step hp
  obtain ⟨_, ρ3, g1, g2, g3⟩ := hp
  obtain ⟨_, ρ4, hT⟩ := h.step (S' := S') (v := v) ⟨he, ρ3, g1, g2, g3⟩
  have hlt := lt_of_blk hL
  have hlt2 := h.b.net.lt
  refine ⟨he, ρ3, ⟨⟨g1, hT.a.fr, fun r hr => ?_⟩, hT.b, fun r hr => ?_⟩, g2.obj hL (by simp [h1]), ?_, h2⟩
  · by_cases hl : r < w.heap.size
    · exact h.a.fresh r (g3 r hl hr)
    · have := h.a.fr.size; omega
  · by_cases hl : r < w.heap.size
    · exact h.dj r (g3 r hl hr)
    · cases e : ρ2 r with
      | none => rfl
      | some x => exact absurd (hlt2 r (by rw [e]; simp)) hl
  · cases e : ρ3 L with
    | none => rfl
    | some x => exact absurd h1 (g3 L hlt (by rw [e]; simp))
theorem Two.goK2 {w0 w p ρ S p2 ρ2 S2} (h : Two w0 w p ρ S p2 ρ2 S2) {S' S3 : NetS} {v v' : Value} {f : FuncId} {args : Array Value} (hc : Calls Try.prog f args w (NPost p2 ρ2 S' v w)) (hv : v = v') (hS : S' = S3) {L : Nat} {o : Obj} (hL : w.heap[L]? = some o) (h1 : ρ L = none) (h2 : ρ2 L = none) :
    Calls Try.prog f args w fun e w' => e = .returned v' ∧ ∃ ρ', Two w0 w' p ρ S p2 ρ' S3 ∧ w'.heap[L]? = some o ∧ ρ L = none ∧ ρ' L = none := by
  refine (h.symm.goK hc hv hS hL h2 h1).mono fun e w' hp => ?_
  obtain ⟨he, ρ', hT, g1, g2, g3⟩ := hp
  exact ⟨he, ρ', hT.symm, g1, g3, g2⟩

theorem OpsAt.eight {w : World} {b off k : Nat} {os : List Opr} {o : Opr} (h : OpsAt w b off os) (ho : os[k]? = some o) :
    w.cell? ⟨b, off + k * 8, none⟩ = some (.int .i64 o.kind) ∧ w.cell? ⟨b, off + k * 8 + 1, none⟩ = some (.int .i64 o.a) ∧ w.cell? ⟨b, off + k * 8 + 2, none⟩ = some (.int .i64 o.b) ∧ w.cell? ⟨b, off + k * 8 + 3, none⟩ = some (.int .i64 o.index) ∧
    w.cell? ⟨b, off + k * 8 + 4, none⟩ = some (.int .i64 o.at_) ∧ w.cell? ⟨b, off + k * 8 + 5, none⟩ = some (.int .i64 o.mask) ∧ w.cell? ⟨b, off + k * 8 + 6, none⟩ = some (.string o.text) ∧ w.cell? ⟨b, off + k * 8 + 7, none⟩ = some (.bool o.flag) :=
  ⟨h k o ho 0 _ rfl, h k o ho 1 _ rfl, h k o ho 2 _ rfl, h k o ho 3 _ rfl, h k o ho 4 _ rfl, h k o ho 5 _ rfl, h k o ho 6 _ rfl, h k o ho 7 _ rfl⟩

def runS (S : NetS) (os : List Opr) : NetS := os.foldl (fun S o => doS S (thr o)) S
theorem runS_snoc (S : NetS) (os : List Opr) (k : Nat) (o : Opr) (h : os[k]? = some o) : runS S (os.take (k + 1)) = doS (runS S (os.take k)) (thr o) := by
  simp [runS, List.take_add_one, h]
theorem doS_nodes (S : NetS) (o : Opr) : (doS S o).nodes = S.nodes := by
  unfold doS NetS.send NetS.deliver NetS.lose NetS.spoil NetS.cutOff NetS.drop NetS.setq
  (repeat' split) <;> rfl
theorem runS_nodes (os : List Opr) : ∀ S : NetS, (runS S os).nodes = S.nodes := by
  unfold runS
  induction os with
  | nil => intro S; rfl
  | cons o os ih => intro S; rw [List.foldl_cons, ih, doS_nodes]

/-- all's outcome beside another network. -/
theorem Two.all {w0 w w' p ρ S p2 ρ2 S2} (h : Two w0 w p ρ S p2 ρ2 S2) {e : Ending} (ha : AllPost p ρ S w e w') :
    ∃ g cap vals ρ', e = .returned (.slice (some ⟨g, 0, none⟩) 9 cap) ∧ Two w0 w' p ρ' (allS S 9) p2 ρ2 S2 ∧ w.heap.size ≤ g ∧ Lists w' w.heap.size ρ' (.slice (some ⟨g, 0, none⟩) 9 cap) vals (allQ S 9) := by
  obtain ⟨v, rfl, ρ', vals, h1, h2, h3, h4⟩ := ha
  have hown := h4.own
  rw [allQ_length] at hown
  rcases hown.2 with ⟨_, h0⟩ | ⟨g, cap, cur, rfl, hg, _⟩
  · cases h0
  · obtain ⟨_, ρ3, hT⟩ := h.step (S' := allS S 9) (v := .slice (some ⟨g, 0, none⟩) 9 cap) (e := .returned (.slice (some ⟨g, 0, none⟩) 9 cap)) (w' := w') ⟨rfl, ρ', h1, h2, h3⟩
    refine ⟨g, cap, vals, ρ', rfl, ?_, hg, h4⟩
    have hlt := h.b.net.lt
    refine ⟨⟨h1, hT.a.fr, fun r hr => ?_⟩, hT.b, fun r hr => ?_⟩
    · by_cases hl : r < w.heap.size
      · exact h.a.fresh r (h3 r hl hr)
      · have := h.a.fr.size; omega
    · by_cases hl : r < w.heap.size
      · exact h.dj r (h3 r hl hr)
      · cases e : ρ2 r with
        | none => rfl
        | some x => exact absurd (hlt r (by rw [e]; simp)) hl

/-- What all returns reads as lists, also behind what is done to other blocks. -/
theorem Lists.rds {w w' : World} {B : Nat} {ρ : Roles} {g cap : Nat} {vals : List Value} {lls : List (List ByteArray)} {F : Nat → Prop} (h : Lists w B ρ (.slice (some ⟨g, 0, none⟩) lls.length cap) vals lls) (hle : lls.length ≤ 9223372036854775807)
    (hf : Fr F w w') (hF : ∀ r, B ≤ r → r < w.heap.size → ¬ F r) : Rds w' g lls := by
  refine ⟨fun i l hl => ?_, hle⟩
  have hi := (List.getElem?_eq_some_iff.1 hl).1
  rcases h.own.2 with ⟨h1, _⟩ | ⟨g', cap', cur, h1, hB, h2, h3, h4, h5, h6⟩
  · simp at h1
  · simp at h1
    obtain ⟨rfl, rfl⟩ := h1
    have hv : i < vals.length := by rw [h.len]; exact hi
    refine ⟨vals[i], ?_, ?_⟩
    · have := congrArg (·[i]?) h6
      simp only [List.getElem?_take, Nat.mul_one, hi, if_true, List.getElem?_eq_getElem hv] at this
      have hc : w.cell? ⟨g, i, none⟩ = some vals[i] := by rw [cell_of_blk h2, ← Array.getElem?_toList, this]
      exact hf.cell hc (hF g hB (lt_of_blk h2))
    · have hs := h.at_ i vals[i] l (by simp) hl
      refine hs.rd.fr hf fun k hk => ?_
      have := hs.own.lt k hk
      exact hF k this.1 this.2
end Go.Proofs.Ytheogcihnclehaa
