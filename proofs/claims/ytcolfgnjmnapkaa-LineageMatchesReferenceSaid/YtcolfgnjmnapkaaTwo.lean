/- Two lineages of one call; lists kept beside both; how long a list of parts is. -/
import Derived.Test.YtcolfgnjmnapkaaRemo
import Derived.Laws.AppendOwnNone
namespace Go.Proofs.Ytcolfgnjmnapkaa
open Go.RowKit Go.Pl

/-- Two lineages of one call. -/
structure Two (w0 w : World) (p N : Nat) (ρ : Roles) (S : LinS) (p2 N2 : Nat) (ρ2 : Roles) (S2 : LinS) : Prop where
  a : Mine w0 w p N ρ S
  b : Mine w0 w p2 N2 ρ2 S2
  dj : ∀ r, ρ r ≠ none → ρ2 r = none
theorem Two.symm {w0 w p N ρ S p2 N2 ρ2 S2} (h : Two w0 w p N ρ S p2 N2 ρ2 S2) : Two w0 w p2 N2 ρ2 S2 p N ρ S :=
  ⟨h.b, h.a, fun r hr => by
    cases e : ρ r with
    | none => rfl
    | some x => exact absurd (h.dj r (by rw [e]; simp)) hr⟩
theorem Two.quiet {w0 w w' p N ρ S p2 N2 ρ2 S2} (h : Two w0 w p N ρ S p2 N2 ρ2 S2) (hf : Fr (fun _ => False) w w') : Two w0 w' p N ρ S p2 N2 ρ2 S2 := ⟨h.a.quiet hf, h.b.quiet hf, h.dj⟩
theorem Two.follow {w0 w p N ρ S p2 N2 ρ2 S2} (h : Two w0 w p N ρ S p2 N2 ρ2 S2) (e : Edt) (hs : e.Sz) :
    Calls Try.prog 14 #[.pointer (some ⟨p, 0, none⟩), .agg e.cells] w fun x w' => x = .returned (.int .i64 (followE S e)) ∧ ∃ ρ', Two w0 w' p (N + 3) ρ' (followS S e) p2 N2 ρ2 S2 ∧ Fr (Fp ρ) w w' ∧ Grows w ρ ρ' :=
  (h.a.follow e hs).mono fun x w' ⟨hx, ρ', m, hf, hg⟩ => by
    have hlt := h.b.lin.lt
    refine ⟨hx, ρ', ⟨m, ⟨h.b.lin.fr hf (fun r hr hne => hr (h.dj r hne)), m.fr, h.b.fresh⟩, fun r hr => ?_⟩, hf, hg⟩
    by_cases hl : r < w.heap.size
    · exact h.dj r (hg r hl hr)
    · cases e : ρ2 r with
      | none => rfl
      | some y => exact absurd (hlt r (by rw [e]; simp)) hl
theorem Two.of {w0 w w' : World} {p N : Nat} {ρ : Roles} {S : LinS} (m : Mine w0 w p N ρ S) (hf : Fr (fun _ => False) w w') {p2 N2 : Nat} {ρ2 : Roles} {S2 : LinS} (m2 : Mine w0 w' p2 N2 ρ2 S2) (hnew : ∀ r, ρ2 r ≠ none → w.heap.size ≤ r) : Two w0 w' p N ρ S p2 N2 ρ2 S2 :=
  ⟨m.quiet hf, m2, fun r hr => by
    cases e : ρ2 r with
    | none => rfl
    | some x => have h1 := hnew r (by rw [e]; simp); have := m.lin.lt r hr; omega⟩

/-- A list that was read, and is kept beside two lineages. -/
structure Kpp (w : World) (ρ ρ2 : Roles) (v : Value) (xs : List ByteArray) : Prop where
  a : Kp w ρ v xs
  b : ∀ k, v.ownBlock = some k → ρ2 k = none
theorem Kpp.quiet {w w' ρ ρ2 v xs} (h : Kpp w ρ ρ2 v xs) (hf : Fr (fun _ => False) w w') : Kpp w' ρ ρ2 v xs := ⟨h.a.quiet hf, h.b⟩
theorem Kpp.symm {w ρ ρ2 v xs} (h : Kpp w ρ ρ2 v xs) : Kpp w ρ2 ρ v xs := ⟨⟨h.a.own, h.b⟩, h.a.no⟩
theorem Kpp.step {w w' : World} {ρ ρ' ρ2 : Roles} {v xs} (h : Kpp w ρ ρ2 v xs) (hf : Fr (Fp ρ) w w') (hg : Grows w ρ ρ') : Kpp w' ρ' ρ2 v xs := ⟨h.a.step hf hg, h.b⟩
theorem Kp.both {w w' : World} {ρ ρ2 : Roles} {p N : Nat} {S : LinS} {v xs} (h : Kp w' ρ v xs) (hl : LinAt w p N ρ2 S) (hv : ∀ k, v.ownBlock = some k → w.heap.size ≤ k) : Kpp w' ρ ρ2 v xs :=
  ⟨h, fun k hk => by
    have := hv k hk
    cases e : ρ2 k with
    | none => rfl
    | some x => have := hl.lt k (by rw [e]; simp); omega⟩

theorem nodup_le {α : Type} [DecidableEq α] : ∀ {l l' : List α}, l.Nodup → (∀ x ∈ l, x ∈ l') → l.length ≤ l'.length
  | [], _, _, _ => by simp
  | x :: t, l', hn, h => by
    obtain ⟨h1, h2⟩ := List.nodup_cons.1 hn
    have hx := h x (by simp)
    have := nodup_le (l' := l'.erase x) h2 fun y hy => (List.mem_erase_of_ne (by rintro rfl; exact h1 hy)).2 (h y (by simp [hy]))
    have h3 := List.length_erase_of_mem hx
    have h4 := List.length_pos_of_mem hx
    simp only [List.length_cons]; omega

theorem LinAt.pt_len {w : World} {p N : Nat} {ρ : Roles} {S : LinS} (h : LinAt w p N ρ S) {a : ByteArray} {xs : List ByteArray} (hn : xs.Nodup) (hx : ∀ x ∈ xs, S.pt a x = true) : xs.length ≤ N := by
  obtain ⟨mp, f, h⟩ := h
  rcases h.hS a with ⟨_, _, h3⟩ | ⟨b, _, _, _, h4⟩
  · have := nodup_le (l' := [a]) hn fun x hm => by
      have := hx x hm
      rw [h3] at this
      have : a = x := by simpa using this
      simp [this]
    have := h.n1
    simp at *; omega
  · obtain ⟨es, c, hb, he, hs⟩ := h4
    have := nodup_le (l' := es.toList.map fun e => match e.key with | .string s => s | _ => ByteArray.empty) hn fun x hm => by
      have h5 : setM (S.pt a) (.string x) = some (.bool true) := by rw [setM_str, if_pos (hx x hm)]
      obtain ⟨e, h6, h7, _⟩ := (he.at_ _ _).1 h5
      exact List.mem_map.2 ⟨e, h6, by rw [h7]⟩
    simp at this; omega

/-- The round of the loop that follows the further edits on both. -/
structure GoR (w : World) (p p2 : Nat) (X0 : LinS) (v : Value) (ps : List ByteArray) (k : Nat) (N1 N2 : Nat) (ρ : Roles) (X : LinS) (ρ2 : Roles) (Y : LinS) (wr : World) : Prop where
  t : Two w wr p N1 ρ X p2 N2 ρ2 Y
  g : Goes X0 X Y
  kp : Kpp wr ρ ρ2 v ps
  n1 : N1 ≤ 91 + 3 * k
  n2 : N2 ≤ 1 + 3 * k
/-- .. that collects what became of the parts. -/
structure AllR (wB : World) (Y : LinS) (ps : List ByteArray) (k L : Nat) (out : Value) (al : List ByteArray) (wr : World) : Prop where
  own : wr.ownsRow wB.heap.size 9 1 out L (al.map .string)
  len : al.length = L
  le : L ≤ k * 1000
  mem : ∀ z, z ∈ al ↔ ∃ q ∈ ps.take k, Y.pt q z = true
  fr : Fr (fun _ => False) wB wr
end Go.Proofs.Ytcolfgnjmnapkaa
