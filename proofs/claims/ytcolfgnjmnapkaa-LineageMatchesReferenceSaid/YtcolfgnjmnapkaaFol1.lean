/- The lineage: Follow; the loop over the sets. -/
import Derived.Test.YtcolfgnjmnapkaaFol0
namespace Go.Proofs.Ytcolfgnjmnapkaa
open Go.RowKit Go.Pl Go.WideMaps

/-- The block of the edit, as the call has boxed it. -/
structure Ed (w : World) (M : Nat) (op : Int) (id other oid : ByteArray) : Prop where
  c0 : w.cell? ⟨M, 0, none⟩ = some (.int .i64 op)
  c1 : w.cell? ⟨M, 1, none⟩ = some (.string id)
  c2 : w.cell? ⟨M, 2, none⟩ = some (.string other)
  c9 : w.cell? ⟨M, 9, none⟩ = some (.string oid)
theorem Ed.fr {w w' : World} {M op id other oid} (h : Ed w M op id other oid) {F : Nat → Prop} (hf : Fr F w w') (hd : ¬ F M) : Ed w' M op id other oid :=
  ⟨hf.cell h.c0 hd, hf.cell h.c1 hd, hf.cell h.c2 hd, hf.cell h.c9 hd⟩
theorem Ed.box (w : World) (e : Edt) : Ed (w.alloc (.cells e.cells 38)) w.heap.size e.op e.id e.other e.oid := by
  refine ⟨?_, ?_, ?_, ?_⟩ <;> rw [cell_of_blk (blk_alloc_new w _)] <;> rfl

def Inner (ρ : Roles) : Nat → Prop := fun k => ∃ a, ρ k = some (2, a)
structure LoopR (w : World) (p mp N : Nat) (f : Value → Option Value) (ρ : Roles) (S : LinS) (G : (ByteArray → Bool) → ByteArray → Bool) (r : Nat) (wr : World) : Prop where
  ex : ∃ left cnt, Rng Try.prog 9 wr mp r f left cnt ∧ ∀ a b, f (.string a) = some (.map (some b)) → (left (.string a) → MapN Try.prog 9 wr b N (setM (S.pt a))) ∧ (¬ left (.string a) → MapN Try.prog 9 wr b (N + 1) (setM (G (S.pt a))))
  fr : Fr (Inner ρ) w wr

theorem LinR.role {w : World} {p mp N f ρ S} (h : LinR w p mp N f ρ S) {a : ByteArray} {b : Nat} (hf : f (.string a) = some (.map (some b))) : ρ b = some (2, a) ∧ S.men a = true ∧ MapN Try.prog 9 w b N (setM (S.pt a)) := by
  rcases h.hS a with ⟨h1, _⟩ | ⟨b', h1, h2, h3, h4⟩
  · rw [h1] at hf; cases hf
  · rw [h1] at hf; cases hf; exact ⟨h3, h2, h4⟩

theorem LoopR.start {w : World} {p mp N : Nat} {f ρ S} (h : LinR w p mp N f ρ S) (G : (ByteArray → Bool) → ByteArray → Bool) :
    ∃ o, (Instr.range 53 (.map (some mp))).run Try.prog w = .ok (.pointer (some ⟨w.heap.size, 0, none⟩)) (w.alloc o) ∧ LoopR w p mp N f ρ S G w.heap.size (w.alloc o) := by
  obtain ⟨o, cnt, h1, h2, _⟩ := h.hm.range Try.underlying53
  refine ⟨o, h1, ⟨_, cnt, h2, fun a b hf => ⟨fun _ => ?_, fun hn => absurd (by rw [hf]; rfl) hn⟩⟩, by simp⟩
  exact (h.role hf).2.2.fr (F := fun _ => False) (by simp) (by simp)

/-- A round: either nothing is left, or a set has come. -/
theorem LoopR.step {w wr : World} {p mp N : Nat} {f ρ S G} {r : Nat} (h : LinR w p mp N f ρ S) (hL : LoopR w p mp N f ρ S G r wr) (hr : r = w.heap.size) :
    ((Instr.next (.pointer (some ⟨r, 0, none⟩)) false 0).run Try.prog wr = .ok (.tuple #[.bool false]) wr ∧ ∀ a b, f (.string a) = some (.map (some b)) → MapN Try.prog 9 wr b (N + 1) (setM (G (S.pt a)))) ∨
    ∃ x b w1, f (.string x) = some (.map (some b)) ∧ x.size ≤ maxLen ∧ (Instr.next (.pointer (some ⟨r, 0, none⟩)) false 0).run Try.prog wr = .ok (.tuple #[.bool true, .string x, .map (some b)]) w1 ∧
      (Instr.entry (.pointer (some ⟨r, 0, none⟩))).run Try.prog w1 = .ok (.tuple #[.string x, .map (some b)]) w1 ∧ MapN Try.prog 9 w1 b N (setM (S.pt x)) ∧ Fr (fun k => k = r) wr w1 ∧
      ∀ w2, Fr (fun k => k = b) w1 w2 → MapN Try.prog 9 w2 b (N + 1) (setM (G (S.pt x))) → LoopR w p mp N f ρ S G r w2 ∧ w2.rangeLeft mp r < wr.rangeLeft mp r := by
  obtain ⟨left, cnt, hrg, hsets⟩ := hL.ex
  rcases hrg.next 0 with ⟨hno, hnx⟩ | ⟨key, v, w1, cnt1, hl, hfk, hkk, hnx, hrg1, hlt, hf1, hen⟩
  · exact .inl ⟨hnx, fun a b hf => (hsets a b hf).2 (hno _)⟩
  · obtain ⟨x, b, rfl, hxs, rfl, hm, hρ, _⟩ := h.entry hfk
    have hbr : ∀ a b, f (.string a) = some (.map (some b)) → b ≠ r := fun a b hf e => by
      have := h.lt b (by rw [(h.role hf).1]; simp); omega
    refine .inr ⟨x, b, w1, hfk, hxs, hnx, hen, ((hsets x b hfk).1 hl).fr hf1 (hbr x b hfk), hf1, fun w2 hf2 hset => ⟨⟨⟨_, cnt1, hrg1.fr hf2 ?_ ?_, fun a b' hf => ?_⟩, ?_⟩, ?_⟩⟩
    · rintro rfl; rw [h.rm] at hρ; simp at hρ
    · exact fun e => hbr x b hfk e.symm
    · by_cases e : a = x
      · subst e
        rw [hf] at hfk; cases hfk
        exact ⟨fun hl => absurd rfl hl.2, fun _ => hset⟩
      · have hne : b' ≠ b := by
          rintro rfl
          have h1 := (h.role hf).1
          rw [hρ] at h1; simp at h1; exact e h1.symm
        have hk : ∀ {n s}, MapN Try.prog 9 wr b' n s → MapN Try.prog 9 w2 b' n s := fun hm => (hm.fr hf1 (hbr a b' hf)).fr hf2 hne
        exact ⟨fun hl => hk ((hsets a b' hf).1 hl.1), fun hn => hk ((hsets a b' hf).2 fun hl => hn ⟨hl, by simpa using e⟩)⟩
    · refine (hL.fr.trans' hf1 fun k hk e => ?_).trans' hf2 fun k hk e => ?_
      · omega
      · subst e; exact ⟨x, hρ⟩
    · rw [(hrg1.fr hf2 (by rintro rfl; rw [h.rm] at hρ; simp at hρ) (fun e => hbr x b hfk e.symm)).left_eq, hrg.left_eq]; exact hlt

theorem LoopR.done {w wr : World} {p mp N : Nat} {f ρ S G} {r : Nat} (h : LinR w p mp N f ρ S) (hL : LoopR w p mp N f ρ S G r wr) (hall : ∀ a b, f (.string a) = some (.map (some b)) → MapN Try.prog 9 wr b (N + 1) (setM (G (S.pt a))))
    (hout : ∀ a, S.men a = false → ∀ y, G (S.pt a) y = S.pt a y) : LinAt wr p (N + 1) ρ { S with pt := fun a => G (S.pt a) } ∧ Fr (Fp ρ) w wr := by
  have hp : ¬ Inner ρ p := fun ⟨a, ha⟩ => by rw [h.rp] at ha; simp at ha
  have hm : ¬ Inner ρ mp := fun ⟨a, ha⟩ => by rw [h.rm] at ha; simp at ha
  refine ⟨⟨mp, f, hL.fr.obj h.hp hp, h.rp, h.rm, (h.hm.fr hL.fr hm).mono (Nat.le_succ N), fun a => ?_, fun r hr => Nat.lt_of_lt_of_le (h.lt r hr) hL.fr.size, Nat.le_succ_of_le h.n1⟩, hL.fr.mono fun k _ ⟨a, ha⟩ => by show ρ k ≠ none; rw [ha]; simp⟩
  rcases h.hS a with ⟨h1, h2, h3⟩ | ⟨b, h1, h2, h3, h4⟩
  · exact .inl ⟨h1, h2, fun y => (hout a h2 y).trans (h3 y)⟩
  · exact .inr ⟨b, h1, h2, h3, hall a b h1⟩

theorem LPost.pre {p N : Nat} {ρ : Roles} {S' : LinS} {v : Value} {w w1 w' : World} {e : Ending} (hf : Fr (fun _ => False) w w1) (h : LPost p N ρ S' v w1 e w') : LPost p N ρ S' v w e w' := by
  obtain ⟨h0, ρ', h1, h2, h3⟩ := h
  exact ⟨h0, ρ', h1, (hf.mono fun _ _ h => h.elim).trans h2, fun r hr => h3 r (Nat.lt_of_lt_of_le hr hf.size)⟩

/-- The call's start: the edit is boxed. -/
structure Boxed (w W0 : World) (M p mp N : Nat) (f : Value → Option Value) (ρ : Roles) (S : LinS) (e : Edt) : Prop where
  r : LinR W0 p mp N f ρ S
  e : Ed W0 M e.op e.id e.other e.oid
  nn : ρ M = none
  lt : M < W0.heap.size
  fr : Fr (fun _ => False) w W0
theorem LinR.boxed {w : World} {p mp N f ρ S} (h : LinR w p mp N f ρ S) (e : Edt) : Boxed w (w.alloc (.cells e.cells 38)) w.heap.size p mp N f ρ S e := by
  refine ⟨h.fr (F := fun _ => False) (by simp) (by simp), Ed.box w e, ?_, by simp, by simp⟩
  cases hx : ρ w.heap.size with
  | none => rfl
  | some x => have := h.lt w.heap.size (by rw [hx]; simp); omega
theorem Boxed.drewN {w W0 M p mp N f ρ S e} (h : Boxed w W0 M p mp N f ρ S e) (n : Nat) : Boxed w (W0.drewN n) M p mp N f ρ S e :=
  ⟨h.r.fr (F := fun _ => False) (by simp) (by simp), h.e.fr (F := fun _ => False) (by simp) (by simp), h.nn, h.lt, h.fr.drewN n⟩
theorem Boxed.next {w W0 W1 M p mp N f ρ S e} (h : Boxed w W0 M p mp N f ρ S e) (hf : Fr (fun _ => False) W0 W1) : Boxed w W1 M p mp N f ρ S e :=
  ⟨h.r.fr hf (by simp), h.e.fr hf (by simp), h.nn, Nat.lt_of_lt_of_le h.lt hf.size, h.fr.trans hf⟩
theorem Boxed.look {w W0 M p mp N f ρ S e} (h : Boxed w W0 M p mp N f ρ S e) {a : ByteArray} (ha : a.size ≤ maxLen) :
    ∃ v, (Instr.lookup 53 (.map (some mp)) (.string a) true).run Try.prog W0 = .ok (.tuple #[v, .bool (S.men a)]) W0 := by
  obtain ⟨l, hk⟩ := key9 ha
  have := h.r.hm.at.look_ok law9 Try.underlying53 hk (zero60 W0)
  rw [h.r.men a] at this
  exact ⟨_, this⟩

theorem loop_post {w W0 w1 wr : World} {M p mp mp1 N N1 : Nat} {f f1 : Value → Option Value} {ρ ρ1 : Roles} {S S1 S' : LinS} {e : Edt} {G} {r : Nat} (hB : Boxed w W0 M p mp N f ρ S e) (hfr : Fr (Fp ρ) W0 w1) (hg : Grows W0 ρ ρ1) (h1 : LinR w1 p mp1 N1 f1 ρ1 S1) (hN : N1 + 1 ≤ N + 3)
    (hL : LoopR w1 p mp1 N1 f1 ρ1 S1 G r wr) (hall : ∀ a b, f1 (.string a) = some (.map (some b)) → MapN Try.prog 9 wr b (N1 + 1) (setM (G (S1.pt a)))) (hout : ∀ a, S1.men a = false → ∀ y, G (S1.pt a) y = S1.pt a y)
    (hS : { S1 with pt := fun a => G (S1.pt a) } = S') (v : Value) : LPost p (N + 3) ρ S' v w (.returned v) wr := by
  obtain ⟨d1, d2⟩ := hL.done h1 hall hout
  exact LPost.pre hB.fr ⟨rfl, ρ1, hS ▸ d1.mono hN, hfr.trans' d2 (fun k hk hne => hg k hk hne), hg⟩
theorem follow_same {w W0 : World} {M p mp N : Nat} {f : Value → Option Value} {ρ : Roles} {S : LinS} {e : Edt} (hB : Boxed w W0 M p mp N f ρ S e) {E : Int} (h0 : E ≠ 0) (hE : followE S e = E) :
    LPost p (N + 3) ρ (followS S e) (.int .i64 (followE S e)) w (.returned (.int .i64 E)) W0 := by
  rw [followS, hE, if_pos h0]
  exact LPost.pre hB.fr ⟨rfl, ρ, ⟨mp, f, hB.r.mono (by omega)⟩, Fr.refl _ _, fun _ _ => id⟩
/-- What mention leaves, behind the boxed edit. -/
theorem men_next {w0 w1 : World} {M p N : Nat} {ρ : Roles} {S : LinS} {e : Edt} (hE : Ed w0 M e.op e.id e.other e.oid) (hn : ρ M = none) (hM : M < w0.heap.size) {a : ByteArray} {x : Ending} (hp : MenPost p N ρ S a w0 x w1) :
    x = .returned (.tuple #[]) ∧ ∃ ρ1, LinAt w1 p (N + 1) ρ1 (S.mention a) ∧ Fr (Fp ρ) w0 w1 ∧ Grows w0 ρ ρ1 ∧ Ed w1 M e.op e.id e.other e.oid ∧ ρ1 M = none ∧ M < w1.heap.size := by
  obtain ⟨h0, ρ1, h1, h2, h3⟩ := hp
  refine ⟨h0, ρ1, h1, h2, h3, hE.fr h2 (by simp [hn]), ?_, Nat.lt_of_lt_of_le hM h2.size⟩
  cases hx : ρ1 M with
  | none => rfl
  | some y => exact absurd hn (h3 M hM (by rw [hx]; simp))
end Go.Proofs.Ytcolfgnjmnapkaa
