/- The lineage: Follow, at every edit; a lineage of one call; followed. -/
import Derived.Test.YtcolfgnjmnapkaaFolA
import Derived.Test.YtcolfgnjmnapkaaFolB
import Derived.Test.YtcolfgnjmnapkaaFolC
import Derived.Test.YtcolfgnjmnapkaaFolD
import Derived.Test.YtcolfgnjmnapkaaFolE
import Derived.Test.YtcolfgnjmnapkaaStr
namespace Go.Proofs.Ytcolfgnjmnapkaa
open Go.RowKit Go.Pl

theorem follow_calls {w : World} {p N : Nat} {ρ S} (h : LinAt w p N ρ S) (e : Edt) (hs : e.Sz) :
    Calls Try.prog 14 #[.pointer (some ⟨p, 0, none⟩), .agg e.cells] w (LPost p (N + 3) ρ (followS S e) (.int .i64 (followE S e)) w) := by
  by_cases hb : e.bad
  · have hE : followE S e = 1 := by rw [followE, if_pos hb]
    refine (follow_bad p e w hb).mono ?_
    rintro x w' ⟨rfl, hf⟩
    rw [followS_err (by omega), hE]
    exact ⟨rfl, ρ, (h.mono (by omega)).fr hf (by simp), hf.mono (fun _ _ h => h.elim), fun _ _ => id⟩
  · have hb' := hb
    unfold Edt.bad at hb'
    simp only [not_or, not_and] at hb'
    obtain ⟨h1, h2, h3⟩ := hb'
    by_cases o1 : e.op = 1
    · exact follow_put h e o1 hs.oid
    by_cases o5 : e.op = 5
    · exact follow_drop h e o5 hs.id hs.other
    by_cases o6 : e.op = 6
    · exact follow_split h e o6 hs.id (h3 (.inl o6)) hs.other
    by_cases o7 : e.op = 7
    · exact follow_join h e o7 hs.id (h3 (.inr o7)) hs.other
    exact follow_mid h e (by omega) hs.id hs.other

/-- A lineage that the call itself has made. -/
structure Mine (w0 w : World) (p N : Nat) (ρ : Roles) (S : LinS) : Prop where
  lin : LinAt w p N ρ S
  fr : Fr (fun _ => False) w0 w
  fresh : ∀ r, ρ r ≠ none → w0.heap.size ≤ r
theorem Mine.quiet {w0 w w' p N ρ S} (m : Mine w0 w p N ρ S) (hf : Fr (fun _ => False) w w') : Mine w0 w' p N ρ S := ⟨m.lin.fr hf (by simp), m.fr.trans hf, m.fresh⟩
theorem Mine.step {w0 w w' : World} {p N N' : Nat} {ρ : Roles} {S S' : LinS} {v : Value} {e : Ending} (m : Mine w0 w p N ρ S) (h : LPost p N' ρ S' v w e w') :
    e = .returned v ∧ ∃ ρ', Mine w0 w' p N' ρ' S' ∧ Fr (Fp ρ) w w' ∧ Grows w ρ ρ' := by
  obtain ⟨he, ρ', h1, h2, h3⟩ := h
  refine ⟨he, ρ', ⟨h1, m.fr.trans' h2 (fun r hr hne => by have := m.fresh r hne; omega), fun r hr => ?_⟩, h2, h3⟩
  by_cases hlt : r < w.heap.size
  · exact m.fresh r (h3 r hlt hr)
  · have := m.fr.size; omega
theorem Mine.follow {w0 w : World} {p N : Nat} {ρ : Roles} {S : LinS} (m : Mine w0 w p N ρ S) (e : Edt) (hs : e.Sz) :
    Calls Try.prog 14 #[.pointer (some ⟨p, 0, none⟩), .agg e.cells] w fun x w' => x = .returned (.int .i64 (followE S e)) ∧ ∃ ρ', Mine w0 w' p (N + 3) ρ' (followS S e) ∧ Fr (Fp ρ) w w' ∧ Grows w ρ ρ' :=
  (follow_calls m.lin e hs).mono fun _ _ hp => m.step hp
theorem NewPost.mine {w0 w : World} {e : Ending} {w' : World} (hf : Fr (fun _ => False) w0 w) (h : NewPost w e w') : ∃ p ρ, e = .returned (.pointer (some ⟨p, 0, none⟩)) ∧ Mine w0 w' p 1 ρ LinS.new ∧ ∀ r, ρ r ≠ none → w.heap.size ≤ r := by
  obtain ⟨p, ρ, h1, h2, h3, h4⟩ := h
  exact ⟨p, ρ, h1, ⟨h2, hf.trans h3, fun r hr => Nat.le_trans hf.size (h4 r hr)⟩, h4⟩

/-- A list that was read from a lineage and is kept. -/
structure Kp (w : World) (ρ : Roles) (v : Value) (xs : List ByteArray) : Prop where
  own : w.ownsRow 0 9 1 v xs.length (xs.map .string)
  no : ∀ k, v.ownBlock = some k → ρ k = none
theorem Kp.quiet {w w' ρ v xs} (h : Kp w ρ v xs) (hf : Fr (fun _ => False) w w') : Kp w' ρ v xs := ⟨ownsRow_fr h.own hf (by simp), h.no⟩
theorem Kp.step {w w' : World} {ρ ρ' : Roles} {v xs} (h : Kp w ρ v xs) (hf : Fr (Fp ρ) w w') (hg : Grows w ρ ρ') : Kp w' ρ' v xs :=
  ⟨ownsRow_fr h.own hf fun k hk hne => hne (h.no k hk), fun k hk => by
    cases e : ρ' k with
    | none => rfl
    | some x => exact absurd (h.no k hk) (hg k (h.own.lt k hk).2 (by rw [e]; simp))⟩
/-- What Now and Then hand back. -/
theorem ListPost.kp {q : ByteArray → Prop} {w : World} {e : Ending} {w' : World} {p N : Nat} {ρ : Roles} {S : LinS} (h : ListPost q w e w') (hl : LinAt w p N ρ S) :
    ∃ v xs, e = .returned v ∧ Sorted xs ∧ (∀ x, x ∈ xs ↔ q x) ∧ Kp w' ρ v xs ∧ Fr (fun _ => False) w w' ∧ ∀ k, v.ownBlock = some k → w.heap.size ≤ k := by
  obtain ⟨v, xs, h1, h2, h3, h4, h5⟩ := h
  refine ⟨v, xs, h1, h2, h3, ⟨ownsRow_base_a h4 (Nat.zero_le _), fun k hk => ?_⟩, h5, fun k hk => (h4.lt k hk).1⟩
  have := (h4.lt k hk).1
  cases e : ρ k with
  | none => rfl
  | some x => have := hl.lt k (by rw [e]; simp); omega

theorem EdtsAt.cells {w : World} {b off k : Nat} {es : List Edt} {e : Edt} (h : EdtsAt w b off es) (ho : es[k]? = some e) :
    w.cell? ⟨b, off + k * 15, none⟩ = some (.int .i64 e.op) ∧ w.cell? ⟨b, off + k * 15 + 1, none⟩ = some (.string e.id) ∧ w.cell? ⟨b, off + k * 15 + 2, none⟩ = some (.string e.other) ∧ w.cell? ⟨b, off + k * 15 + 3, none⟩ = some e.v3 ∧
    w.cell? ⟨b, off + k * 15 + 4, none⟩ = some e.v4 ∧ w.cell? ⟨b, off + k * 15 + 5, none⟩ = some e.v5 ∧ w.cell? ⟨b, off + k * 15 + 6, none⟩ = some e.v6 ∧ w.cell? ⟨b, off + k * 15 + 7, none⟩ = some e.v7 ∧ w.cell? ⟨b, off + k * 15 + 8, none⟩ = some e.v8 ∧
    w.cell? ⟨b, off + k * 15 + 9, none⟩ = some (.string e.oid) ∧ w.cell? ⟨b, off + k * 15 + 10, none⟩ = some e.v10 ∧ w.cell? ⟨b, off + k * 15 + 11, none⟩ = some e.v11 ∧ w.cell? ⟨b, off + k * 15 + 12, none⟩ = some e.v12 ∧
    w.cell? ⟨b, off + k * 15 + 13, none⟩ = some e.v13 ∧ w.cell? ⟨b, off + k * 15 + 14, none⟩ = some e.v14 :=
  ⟨h k e ho 0 _ rfl, h k e ho 1 _ rfl, h k e ho 2 _ rfl, h k e ho 3 _ rfl, h k e ho 4 _ rfl, h k e ho 5 _ rfl, h k e ho 6 _ rfl, h k e ho 7 _ rfl, h k e ho 8 _ rfl, h k e ho 9 _ rfl, h k e ho 10 _ rfl, h k e ho 11 _ rfl, h k e ho 12 _ rfl, h k e ho 13 _ rfl, h k e ho 14 _ rfl⟩

def FollowedPost (es : List Edt) (w : World) (e : Ending) (w' : World) : Prop :=
  ∃ p ρ, e = .returned (.pointer (some ⟨p, 0, none⟩)) ∧ Mine w w' p (1 + 3 * es.length) ρ (runL LinS.new es)
set_option maxHeartbeats 1000000 in
theorem followed_calls (sa : Option Addr) (b off cap : Nat) (es : List Edt) (w : World) (hix : ∀ k : Nat, k < es.length → sa = some ⟨b, off, none⟩) (h : EdtsAt w b off es) (hl : es.length ≤ 9223372036854775807) (ht : ∀ e ∈ es, e.Sz) :
    Calls Try.prog 23 #[.slice sa es.length cap] w (FollowedPost es w) := by
  obtain ⟨n, hn⟩ : ∃ n, n = es.length := ⟨_, rfl⟩
  have hN := Lib.hid hn
  rw [← hn] at hl hix ⊢
  have H := Lib.hid h
  have HT := Lib.hid ht
  have HX := Lib.hid hix
  clear hn h ht hix
  go_enter Try.func23, Try.ntmps23
  go_wp2_with fail
  refine (new_calls w).mono ?_
  intro e w1 hnew
  obtain ⟨p, ρ, rfl, m, _⟩ := hnew.mine (Fr.refl _ w)
  clear hnew
  go_wp2
  go_loopw [4] (fun i wr => ∃ k : Nat, k ≤ n ∧ i = .int .i64 k ∧ ∃ ρ, Mine w wr p (1 + 3 * k) ρ (runL LinS.new (es.take k))) (fun i _ => n - (intOf i).toNat)
  case atStart => exact ⟨0, Nat.zero_le _, rfl, ρ, m⟩
  case round =>
    clear m
    obtain ⟨k, hk, rfl, ρ1, m⟩ := hrel
    by_cases hlt : k < n
    · obtain ⟨e, ho⟩ : ∃ o, es[k]? = some o := ⟨_, List.getElem?_eq_getElem (by rw [← hN.out]; exact hlt)⟩
      have hsa := fun w => index_run (P := Try.prog) Try.underlying22 size38 (cap := cap) (HX.out k hlt) hlt w
      have hA := H.out.fr m.fr (by simp)
      obtain ⟨c0, c1, c2, c3, c4, c5, c6, c7, c8, c9, c10, c11, c12, c13, c14⟩ := hA.cells ho
      have hsn := Lib.hid (runL_snoc LinS.new es k e ho)
      have hcall := Lib.hid (m.follow e (HT.out e (List.mem_of_getElem? ho)))
      clear hA ho m
      go_wp2_with fail
      refine hcall.out.mono ?_
      rintro x w2 ⟨rfl, ρ2, m2, _, _⟩
      rw [← hsn.out] at m2
      clear c0 c1 c2 c3 c4 c5 c6 c7 c8 c9 c10 c11 c12 c13 c14 hcall hsa
      go_wp2
      go_roundw
      case rel => exact ⟨k + 1, by omega, by go_num, ρ2, by rw [show 1 + 3 * (k + 1) = 1 + 3 * k + 3 by omega]; exact m2⟩
      case measure => simp [intOf]; omega
    · have hkn : k = n := by omega
      have e0 : es.take k = es := List.take_of_length_le (by rw [← hN.out]; omega)
      rw [e0] at m
      have hfin : Hid (FollowedPost es w (.returned (.pointer (some ⟨p, 0, none⟩))) wr) := ⟨p, ρ1, rfl, by rw [← hN.out, ← hkn]; exact m⟩
      clear m e0 hkn
      go_wp2
      go_ret
      exact hfin.out
end Go.Proofs.Ytcolfgnjmnapkaa
