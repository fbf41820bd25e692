/- The law's own do, over package net; head's example. -/
import Derived.Test.YtheogcihnclehaaSpl
import Derived.Test.YtheogcihnclehaaCut
namespace Go.Proofs.Ytheogcihnclehaa
open Go.RowKit Go.Pl Go.WideMaps

structure Opr where
  kind : Int
  a : Int
  b : Int
  index : Int
  at_ : Int
  mask : Int
  text : ByteArray
  flag : Bool
abbrev Opr.cells (o : Opr) : Array Value := #[.int .i64 o.kind, .int .i64 o.a, .int .i64 o.b, .int .i64 o.index, .int .i64 o.at_, .int .i64 o.mask, .string o.text, .bool o.flag]
def doS (S : NetS) (o : Opr) : NetS :=
  if o.kind = 0 then S.send o.a o.b o.text else if o.kind = 1 then S.deliver o.a o.b o.index o.flag else if o.kind = 2 then S.lose o.a o.b o.index
  else if o.kind = 3 then S.spoil o.a o.b o.index o.at_ o.mask else if o.kind = 4 then S.cutOff o.a o.b o.flag else S
def doT (S : NetS) (o : Opr) : ByteArray := if o.kind = 1 then S.deliverT o.a o.b o.index else ByteArray.empty
def doK (S : NetS) (o : Opr) : Int := if o.kind < 0 ∨ 4 < o.kind then S.count o.a o.b else 0
def doE (S : NetS) (o : Opr) : Int :=
  if o.kind = 0 then S.sendE o.a o.b o.text else if o.kind = 1 then S.deliverE o.a o.b o.index else if o.kind = 2 then S.loseE o.a o.b o.index
  else if o.kind = 3 then S.spoilE o.a o.b o.index o.at_ o.mask else if o.kind = 4 then S.cutE o.a o.b else 0
def doV (S : NetS) (o : Opr) : Value := .tuple #[.string (doT S o), .int .i64 (doK S o), .int .i64 (doE S o)]

theorem NetAt.fr {w w' : World} {p : Nat} {ρ : Roles} {S : NetS} (h : NetAt w p ρ S) {F : Nat → Prop} (hf : Fr F w w') (hd : ∀ r, ρ r ≠ none → ¬ F r) : NetAt w' p ρ S := by
  obtain ⟨mq, mc, f, g, h⟩ := h
  exact ⟨mq, mc, f, g, h.fr hf hd⟩
theorem NPost.pre {p : Nat} {ρ : Roles} {S' : NetS} {v v' : Value} {w w1 w' : World} {e : Ending} (hf : Fr (fun _ => False) w w1) (h : NPost p ρ S' v w1 e w') : NPost p ρ S' v' w (.returned v') w' := by
  obtain ⟨_, ρ', h1, h2, h3⟩ := h
  exact ⟨rfl, ρ', h1, (hf.mono fun _ _ h => h.elim).trans h2, fun r hr => h3 r (Nat.lt_of_lt_of_le hr hf.size)⟩

set_option maxHeartbeats 2000000 in
theorem do_calls {p : Nat} {ρ : Roles} {S : NetS} {w : World} (h : NetAt w p ρ S) (o : Opr) (ht : o.text.size ≤ 9223372036854775807) :
    Calls Try.prog 13 #[.pointer (some ⟨p, 0, none⟩), .agg o.cells] w (NPost p ρ (doS S o) (doV S o) w) := by
  obtain ⟨kind, a, b, index, at_, mask, text, flag⟩ := o
  have hfr : Fr (fun _ => False) w (w.alloc (.cells (Opr.cells ⟨kind, a, b, index, at_, mask, text, flag⟩) 35)) := by simp
  have h' := h.fr hfr (by simp)
  by_cases k0 : kind = 0
  · subst k0
    have hE : Hid (∀ w1 e, NPost p ρ (S.send a b text) (.int .i64 (S.sendE a b text)) (w.alloc (.cells (Opr.cells ⟨0, a, b, index, at_, mask, text, flag⟩) 35)) e w1 → NPost p ρ (doS S ⟨0, a, b, index, at_, mask, text, flag⟩) (doV S ⟨0, a, b, index, at_, mask, text, flag⟩) w (.returned (.tuple #[.string ByteArray.empty, .int .i64 0, .int .i64 (S.sendE a b text)])) w1) := fun w1 e h => h.pre hfr
    go_enter Try.func13, Try.ntmps13
    go_wp2_with (go_at_call 15; refine (send_calls h' a b text ht).mono ?_; rintro e w1 hw1; obtain rfl := hw1.1; have hF := hE.out w1 _ hw1; clear hw1)
    go_ret3
    exact hF
  by_cases k1 : kind = 1
  · subst k1
    have hE : Hid (∀ w1 e, NPost p ρ (S.deliver a b index flag) (DV S a b index) (w.alloc (.cells (Opr.cells ⟨1, a, b, index, at_, mask, text, flag⟩) 35)) e w1 → NPost p ρ (doS S ⟨1, a, b, index, at_, mask, text, flag⟩) (doV S ⟨1, a, b, index, at_, mask, text, flag⟩) w (.returned (.tuple #[.string (S.deliverT a b index), .int .i64 0, .int .i64 (S.deliverE a b index)])) w1) := fun w1 e h => h.pre hfr
    go_enter Try.func13, Try.ntmps13
    go_wp2_with (go_at_call 22; refine (deliver_calls h' a b index flag).mono ?_; rintro e w1 hw1; obtain rfl := hw1.1; have hF := hE.out w1 _ hw1; clear hw1)
    go_ret3
    exact hF
  by_cases k2 : kind = 2
  · subst k2
    have hE : Hid (∀ w1 e, NPost p ρ (S.lose a b index) (.int .i64 (S.loseE a b index)) (w.alloc (.cells (Opr.cells ⟨2, a, b, index, at_, mask, text, flag⟩) 35)) e w1 → NPost p ρ (doS S ⟨2, a, b, index, at_, mask, text, flag⟩) (doV S ⟨2, a, b, index, at_, mask, text, flag⟩) w (.returned (.tuple #[.string ByteArray.empty, .int .i64 0, .int .i64 (S.loseE a b index)])) w1) := fun w1 e h => h.pre hfr
    go_enter Try.func13, Try.ntmps13
    go_wp2_with (go_at_call 16; refine (lose_calls h' a b index).mono ?_; rintro e w1 hw1; obtain rfl := hw1.1; have hF := hE.out w1 _ hw1; clear hw1)
    go_ret3
    exact hF
  by_cases k3 : kind = 3
  · subst k3
    have hE : Hid (∀ w1 e, NPost p ρ (S.spoil a b index at_ mask) (.int .i64 (S.spoilE a b index at_ mask)) (w.alloc (.cells (Opr.cells ⟨3, a, b, index, at_, mask, text, flag⟩) 35)) e w1 → NPost p ρ (doS S ⟨3, a, b, index, at_, mask, text, flag⟩) (doV S ⟨3, a, b, index, at_, mask, text, flag⟩) w (.returned (.tuple #[.string ByteArray.empty, .int .i64 0, .int .i64 (S.spoilE a b index at_ mask)])) w1) := fun w1 e h => h.pre hfr
    go_enter Try.func13, Try.ntmps13
    go_wp2_with (go_at_call 23; refine (spoil_calls h' a b index at_ mask).mono ?_; rintro e w1 hw1; obtain rfl := hw1.1; have hF := hE.out w1 _ hw1; clear hw1)
    go_ret3
    exact hF
  by_cases k4 : kind = 4
  · subst k4
    have hE : Hid (∀ w1 e, NPost p ρ (S.cutOff a b flag) (.int .i64 (S.cutE a b)) (w.alloc (.cells (Opr.cells ⟨4, a, b, index, at_, mask, text, flag⟩) 35)) e w1 → NPost p ρ (doS S ⟨4, a, b, index, at_, mask, text, flag⟩) (doV S ⟨4, a, b, index, at_, mask, text, flag⟩) w (.returned (.tuple #[.string ByteArray.empty, .int .i64 0, .int .i64 (S.cutE a b)])) w1) := fun w1 e h => h.pre hfr
    go_enter Try.func13, Try.ntmps13
    go_wp2_with (go_at_call 21; refine (cut_calls h' a b flag).mono ?_; rintro e w1 hw1; obtain rfl := hw1.1; have hF := hE.out w1 _ hw1; clear hw1)
    go_ret3
    exact hF
  have hV : doV S ⟨kind, a, b, index, at_, mask, text, flag⟩ = .tuple #[.string ByteArray.empty, .int .i64 (S.count a b), .int .i64 0] ∧ doS S ⟨kind, a, b, index, at_, mask, text, flag⟩ = S := by
    have : kind < 0 ∨ 4 < kind := by omega
    simp [doV, doT, doK, doE, doS, k0, k1, k2, k3, k4, this]
  have hE : Hid (∀ w1 e, NPost p ρ S (.int .i64 (S.count a b)) (w.alloc (.cells (Opr.cells ⟨kind, a, b, index, at_, mask, text, flag⟩) 35)) e w1 → NPost p ρ (doS S ⟨kind, a, b, index, at_, mask, text, flag⟩) (doV S ⟨kind, a, b, index, at_, mask, text, flag⟩) w (.returned (.tuple #[.string ByteArray.empty, .int .i64 (S.count a b), .int .i64 0])) w1) := fun w1 e h => by
    rw [hV.1, hV.2]; exact h.pre hfr
  have j0 : (kind == 0) = false := by simpa using k0
  have j1 : (kind == 1) = false := by simpa using k1
  have j2 : (kind == 2) = false := by simpa using k2
  have j3 : (kind == 3) = false := by simpa using k3
  have j4 : (kind == 4) = false := by simpa using k4
  clear k0 k1 k2 k3 k4 hV
  go_enter Try.func13, Try.ntmps13
  go_wp2_with (go_at_call 17; refine (count_calls h' a b).mono ?_; rintro e w1 hw1; obtain rfl := hw1.1; have hF := hE.out w1 _ hw1; clear hw1)
  go_ret3
  exact hF
end Go.Proofs.Ytheogcihnclehaa
