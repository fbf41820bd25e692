/- LineageCommutes returns true: two edits without a common Id lead to the same parts in either order. -/
import Derived.Test.YtcolfgnjmnapkaaGd
import Derived.Test.YtcolfgnjmnapkaaTwo
import Derived.Deep.Cut
import Derived.Deep.DeepCutAuto
namespace Go.Proofs.Ytcolfgnjmnapkaa
open Go.RowKit Go.Pl

abbrev twoCells (a b : Edt) : Array Value := #[.int .i64 a.op, .string a.id, .string a.other, a.v3, a.v4, a.v5, a.v6, a.v7, a.v8, .string a.oid, a.v10, a.v11, a.v12, a.v13, a.v14, .int .i64 b.op, .string b.id, .string b.other, b.v3, b.v4, b.v5, b.v6, b.v7, b.v8, .string b.oid, b.v10, b.v11, b.v12, b.v13, b.v14]
theorem edts_two (w : World) (a b : Edt) : EdtsAt (w.alloc (.cells (twoCells a b) 38)) w.heap.size 0 [a, b] := by
  intro i x hx j v hv
  rw [cell_of_blk (blk_alloc_new _ _)]
  have hj : j < 15 := by
    have := (Array.getElem?_eq_some_iff.1 hv).1
    simpa using this
  match i, hx with
  | 0, hx =>
    simp at hx; subst hx
    rw [← hv]
    have : ∀ j : Fin 15, (twoCells a b)[0 + 0 * 15 + j.val]? = a.cells[j.val]? := by
      intro j; match j with
      | 0 => rfl | 1 => rfl | 2 => rfl | 3 => rfl | 4 => rfl | 5 => rfl | 6 => rfl | 7 => rfl | 8 => rfl | 9 => rfl | 10 => rfl | 11 => rfl | 12 => rfl | 13 => rfl | 14 => rfl
    exact this ⟨j, hj⟩
  | 1, hx =>
    simp at hx; subst hx
    rw [← hv]
    have : ∀ j : Fin 15, (twoCells a b)[0 + 1 * 15 + j.val]? = b.cells[j.val]? := by
      intro j; match j with
      | 0 => rfl | 1 => rfl | 2 => rfl | 3 => rfl | 4 => rfl | 5 => rfl | 6 => rfl | 7 => rfl | 8 => rfl | 9 => rfl | 10 => rfl | 11 => rfl | 12 => rfl | 13 => rfl | 14 => rfl
    exact this ⟨j, hj⟩
  | i + 2, hx => simp at hx

def Cond (a b : Edt) : Prop := (a.id.toList.isEmpty && b.id.toList.isEmpty) = false ∧ (a.other.toList.isEmpty && decide (6 ≤ a.op)) = false ∧ (b.other.toList.isEmpty && decide (6 ≤ b.op)) = false ∧ ((a.op == 1) && a.oid.toList.isEmpty) = false ∧ ((b.op == 1) && b.oid.toList.isEmpty) = false
theorem Cond.names {a b : Edt} (h : Cond a b) (ha : apartB a b = true) : ∀ x, a.Names x → ¬ b.Names x := by
  obtain ⟨h1, h2, h3, h4, h5⟩ := h
  have emp : ∀ x : ByteArray, x.toList.isEmpty = true ↔ x = ByteArray.empty := fun x => by
    have := isEmpty_iff x
    cases h : x.toList.isEmpty with
    | true =>
      refine ⟨fun _ => Classical.byContradiction fun hx => ?_, fun _ => rfl⟩
      rw [this.2 hx] at h; cases h
    | false => exact ⟨fun h2 => (by cases h2), fun hx => absurd hx (this.1 h)⟩
  simp only [Bool.and_eq_false_iff] at h1 h2 h3 h4 h5
  simp only [← Bool.not_eq_true, emp, decide_eq_true_eq, beq_iff_eq] at h1 h2 h3 h4 h5
  have hap := apartB_iff.1 ha
  intro x hx hy
  have key : ∀ y ∈ a.ids, ∀ z ∈ b.ids, x = y → x = z → x = ByteArray.empty := fun y hy z hz e1 e2 => by
    have := hap y hy z hz (e1.symm.trans e2)
    rw [e1]; exact this
  unfold Edt.ids at key
  have o6 : ∀ e : Edt, e.two → 6 ≤ e.op := fun e he => by unfold Edt.two at he; omega
  rcases hx with ⟨o1, e1⟩ | ⟨o1, e1⟩ | ⟨o1, e1⟩ <;> rcases hy with ⟨p1, e2⟩ | ⟨p1, e2⟩ | ⟨p1, e2⟩
  · have := key _ (by simp) _ (by simp) e1 e2
    rw [e1] at this; rcases h4 with h4 | h4; exact h4 o1; exact h4 this
  · have := key _ (by simp) _ (by simp) e1 e2
    rw [e1] at this; rcases h4 with h4 | h4; exact h4 o1; exact h4 this
  · have := key _ (by simp) _ (by simp) e1 e2
    rw [e1] at this; rcases h4 with h4 | h4; exact h4 o1; exact h4 this
  · have := key _ (by simp) _ (by simp) e1 e2
    rw [e2] at this; rcases h5 with h5 | h5; exact h5 p1; exact h5 this
  · have := key _ (by simp) _ (by simp) e1 e2
    have t2 := this
    rw [e1] at this; rw [e2] at t2
    rcases h1 with h1 | h1; exact h1 this; exact h1 t2
  · have := key _ (by simp) _ (by simp) e1 e2
    rw [e2] at this; rcases h3 with h3 | h3; exact h3 this; exact h3 (o6 b p1)
  · have := key _ (by simp) _ (by simp) e1 e2
    rw [e1] at this; rcases h2 with h2 | h2; exact h2 this; exact h2 (o6 a o1)
  · have := key _ (by simp) _ (by simp) e1 e2
    rw [e1] at this; rcases h2 with h2 | h2; exact h2 this; exact h2 (o6 a o1)
  · have := key _ (by simp) _ (by simp) e1 e2
    rw [e1] at this; rcases h2 with h2 | h2; exact h2 this; exact h2 (o6 a o1)

theorem grow_none {w : World} {ρ ρ' : Roles} {M : Nat} (g : Grows w ρ ρ') (hl : M < w.heap.size) (h : ρ M = none) : ρ' M = none := by
  cases hx : ρ' M with
  | none => rfl
  | some y => exact absurd h (g M hl (by rw [hx]; simp))

set_option maxRecDepth 100000 in
set_option maxHeartbeats 16000000 in
theorem commutes_walk (sa : Option Addr) (b00 off cap : Nat) (es : List Edt) (w : World) (h : EdtsV w (.slice sa es.length cap) sa b00 off cap es) (a b : Edt) (ha : a.Sz) (hb : b.Sz) (id : ByteArray) (hid : id.size ≤ maxLen) :
    Calls Try.prog 8 #[.slice sa es.length cap, .agg a.cells, .agg b.cells, .string id] w fun x w' => x = .returned (.bool true) ∧ Fr (fun _ => False) w w' := by
  have hfew := Lib.hid (fun w' hf => few_calls sa b00 off cap es 40 (by omega) w' h.ix (h.at_.fr (F := fun _ => False) (w' := w') hf (by simp)) h.le h.sz)
  have hfol := Lib.hid (fun w' hf => followed_calls sa b00 off cap es w' h.ix (h.at_.fr (F := fun _ => False) (w' := w') hf (by simp)) h.le h.sz)
  have hn := h.le
  generalize es.length = n at *
  clear h
  have si1 := hid
  unfold maxLen at si1
  have haH := Lib.hid ha
  have hbH := Lib.hid hb
  clear ha hb
  have hA : EdB ((w.alloc (.cells a.cells 38)).alloc (.cells b.cells 38)) w.heap.size a := (blk_alloc (w := w.alloc (.cells a.cells 38)) (by simp) _).trans (blk_alloc_new _ _)
  have hB : EdB ((w.alloc (.cells a.cells 38)).alloc (.cells b.cells 38)) (w.heap.size + 1) b := blk_alloc_at (by simp) _
  have f0 : Fr (fun _ => False) w ((w.alloc (.cells a.cells 38)).alloc (.cells b.cells 38)) := by simp
  go_enter Try.func8, Try.ntmps8
  go_wp2_with fail
  obtain ⟨M, hMe⟩ : ∃ M, M = w.heap.size := ⟨_, rfl⟩
  rw [← hMe] at hA hB ⊢
  have hMH := Lib.hid hMe
  clear hMe
  generalize (w.alloc (.cells a.cells 38)).alloc (.cells b.cells 38) = W at *
  refine (head_calls W).mono ?_
  rintro x w1 ⟨rfl, f1⟩
  have hA := hA.fr f1 (by simp)
  have hB := hB.fr f1 (by simp)
  have f1 := f0.trans f1
  clear f0
  have hAH := Lib.hid hA
  have hBH := Lib.hid hB
  clear hA hB
  go_upto_region 2 with fail
  refine cut_act (fun A0 a' w' => ∃ c : Bool, Ch 17 A0 a' ∧ a'.eval (.tmp 89) = .bool c ∧ Hid (c = false → fewE es 40 = true ∧ apartB a b = true ∧ Cond a b) ∧ Hid (Fr (fun _ => False) w1 w')) ?_
  intro A0 hA0
  have z0 : A0.tmps.size = 136 := by rw [hA0]; rfl
  have e0 : A0.eval (.tmp 0) = .slice sa n cap := by rw [hA0]; rfl
  have e3 : A0.eval (.tmp 3) = .string id := by rw [hA0]; rfl
  have e5 : A0.eval (.tmp 5) = .pointer (some ⟨M, 0, none⟩) := by rw [hA0]; rfl
  have e6 : A0.eval (.tmp 6) = .pointer (some ⟨M + 1, 0, none⟩) := by rw [hA0]; rfl
  have hA0H := Lib.hid hA0
  clear hA0
  constructor
  · rintro a' wx ⟨c, hch, v89, hc, hfr⟩
    have hz : a'.tmps.size = 136 := hch.size.trans z0
    have d0 : a'.defers = [] := hch.df.trans (by rw [hA0H.out])
    have x0 := (hch.low 0 (by decide)).trans e0
    have x1 : a'.eval (.tmp 1) = .agg a.cells := (hch.low 1 (by decide)).trans (by rw [hA0H.out]; rfl)
    have x2 : a'.eval (.tmp 2) = .agg b.cells := (hch.low 2 (by decide)).trans (by rw [hA0H.out]; rfl)
    have x3 := (hch.low 3 (by decide)).trans e3
    have x5 := (hch.low 5 (by decide)).trans e5
    have x6 := (hch.low 6 (by decide)).trans e6
    have x8 : a'.eval (.tmp 8) = .bool false := (hch.low 8 (by decide)).trans (by rw [hA0H.out]; rfl)
    have x9 : a'.eval (.tmp 9) = .bool true := (hch.low 9 (by decide)).trans (by rw [hA0H.out]; rfl)
    rw [frame_lit hz, d0]
    clear hz d0 hch e0 e3 e5 e6 z0 hA0H
    generalize a'.eval = ρ at *
    rw [show (List.range 136).map (fun i => ρ (.tmp i)) = [ρ (.tmp 0), ρ (.tmp 1), ρ (.tmp 2), ρ (.tmp 3), ρ (.tmp 4), ρ (.tmp 5), ρ (.tmp 6), ρ (.tmp 7), ρ (.tmp 8), ρ (.tmp 9), ρ (.tmp 10), ρ (.tmp 11), ρ (.tmp 12), ρ (.tmp 13), ρ (.tmp 14), ρ (.tmp 15), ρ (.tmp 16), ρ (.tmp 17), ρ (.tmp 18), ρ (.tmp 19), ρ (.tmp 20), ρ (.tmp 21), ρ (.tmp 22), ρ (.tmp 23), ρ (.tmp 24), ρ (.tmp 25), ρ (.tmp 26), ρ (.tmp 27), ρ (.tmp 28), ρ (.tmp 29), ρ (.tmp 30), ρ (.tmp 31), ρ (.tmp 32), ρ (.tmp 33), ρ (.tmp 34), ρ (.tmp 35), ρ (.tmp 36), ρ (.tmp 37), ρ (.tmp 38), ρ (.tmp 39), ρ (.tmp 40), ρ (.tmp 41), ρ (.tmp 42), ρ (.tmp 43), ρ (.tmp 44), ρ (.tmp 45), ρ (.tmp 46), ρ (.tmp 47), ρ (.tmp 48), ρ (.tmp 49), ρ (.tmp 50), ρ (.tmp 51), ρ (.tmp 52), ρ (.tmp 53), ρ (.tmp 54), ρ (.tmp 55), ρ (.tmp 56), ρ (.tmp 57), ρ (.tmp 58), ρ (.tmp 59), ρ (.tmp 60), ρ (.tmp 61), ρ (.tmp 62), ρ (.tmp 63), ρ (.tmp 64), ρ (.tmp 65), ρ (.tmp 66), ρ (.tmp 67), ρ (.tmp 68), ρ (.tmp 69), ρ (.tmp 70), ρ (.tmp 71), ρ (.tmp 72), ρ (.tmp 73), ρ (.tmp 74), ρ (.tmp 75), ρ (.tmp 76), ρ (.tmp 77), ρ (.tmp 78), ρ (.tmp 79), ρ (.tmp 80), ρ (.tmp 81), ρ (.tmp 82), ρ (.tmp 83), ρ (.tmp 84), ρ (.tmp 85), ρ (.tmp 86), ρ (.tmp 87), ρ (.tmp 88), ρ (.tmp 89), ρ (.tmp 90), ρ (.tmp 91), ρ (.tmp 92), ρ (.tmp 93), ρ (.tmp 94), ρ (.tmp 95), ρ (.tmp 96), ρ (.tmp 97), ρ (.tmp 98), ρ (.tmp 99), ρ (.tmp 100), ρ (.tmp 101), ρ (.tmp 102), ρ (.tmp 103), ρ (.tmp 104), ρ (.tmp 105), ρ (.tmp 106), ρ (.tmp 107), ρ (.tmp 108), ρ (.tmp 109), ρ (.tmp 110), ρ (.tmp 111), ρ (.tmp 112), ρ (.tmp 113), ρ (.tmp 114), ρ (.tmp 115), ρ (.tmp 116), ρ (.tmp 117), ρ (.tmp 118), ρ (.tmp 119), ρ (.tmp 120), ρ (.tmp 121), ρ (.tmp 122), ρ (.tmp 123), ρ (.tmp 124), ρ (.tmp 125), ρ (.tmp 126), ρ (.tmp 127), ρ (.tmp 128), ρ (.tmp 129), ρ (.tmp 130), ρ (.tmp 131), ρ (.tmp 132), ρ (.tmp 133), ρ (.tmp 134), ρ (.tmp 135)] from rfl, x0, x1, x2, x3, x5, x6, x8, x9, v89]
    clear x0 x1 x2 x3 x5 x6 x8 x9 v89
    cases c with
    | true =>
      have hF := Lib.hid (f1.trans hfr.out)
      go_wp2
      go_ret
      exact ⟨rfl, hF.out⟩
    | false =>
      obtain ⟨k1, k2, k3⟩ := hc.out rfl
      have hnames := Cond.names k3 k2
      have nA : ∀ S, followE (followS S b) a = followE S a := fun S => followE_apart hnames
      have nB : ∀ S, followE (followS S a) b = followE S b := fun S => followE_apart fun x h1 h2 => hnames x h2 h1
      have hcm : ∀ S : LinS, ∀ u x, (followS (followS S a) b).pt u x = (followS (followS S b) a).pt u x := fun S u x => commutes hnames u x
      have k1 := Lib.hid k1
      have nA := Lib.hid nA
      have nB := Lib.hid nB
      have hcm := Lib.hid hcm
      have f2 := f1.trans hfr.out
      have hA := hAH.out.fr hfr.out (by simp)
      have hB := hBH.out.fr hfr.out (by simp)
      clear hc k2 k3 hnames hfr hAH hBH hfew f1
      go_wp2_with fail
      refine (hfol.out wx f2).mono ?_
      intro x w3 hp
      obtain ⟨p, ρ1, N, S, rfl, m, hN, _, hnew, hS⟩ := hp.mine f2 k1.out
      have hMlt := hA.lt
      have hMlt2 := hB.lt
      have hA := hA.fr hp.fr (by simp)
      have hB := hB.fr hp.fr (by simp)
      have r1 : ρ1 M = none := by
        cases hx : ρ1 M with
        | none => rfl
        | some y => have := hnew M (by rw [hx]; simp); omega
      have r2 : ρ1 (M + 1) = none := by
        cases hx : ρ1 (M + 1) with
        | none => rfl
        | some y => have := hnew (M + 1) (by rw [hx]; simp); omega
      have hSH := Lib.hid hS
      clear hp hnew hMlt hMlt2 hS
      go_wp2_with fail
      refine (hfol.out w3 m.fr).mono ?_
      intro x w4 hp
      obtain ⟨p2, ρ2, N2, S2, rfl, m2, hN2, _, hnew2, hS2⟩ := hp.mine m.fr k1.out
      obtain rfl : S2 = S := hS2.trans hSH.out.symm
      have hMlt := hA.lt
      have hMlt2 := hB.lt
      have hA := hA.fr hp.fr (by simp)
      have hB := hB.fr hp.fr (by simp)
      have r3 : ρ2 M = none := by
        cases hx : ρ2 M with
        | none => rfl
        | some y => have := hnew2 M (by rw [hx]; simp); omega
      have r4 : ρ2 (M + 1) = none := by
        cases hx : ρ2 (M + 1) with
        | none => rfl
        | some y => have := hnew2 (M + 1) (by rw [hx]; simp); omega
      have t := Two.of m hp.fr m2 hnew2
      clear hp hnew2 hS2 hSH m m2 hfol hMlt hMlt2 k1 f2
      -- x follows a
      obtain ⟨c0, c1, c2, c3, c4, c5, c6, c7, c8, c9, c10, c11, c12, c13, c14⟩ := hA.cells
      go_wp2_with fail
      refine (t.follow a haH.out).mono ?_
      rintro x w5 ⟨rfl, ρ3, t2, f5, g5⟩
      clear c0 c1 c2 c3 c4 c5 c6 c7 c8 c9 c10 c11 c12 c13 c14
      have q1 := grow_none g5 hA.lt r1
      have q2 := grow_none g5 hB.lt r2
      have hA := hA.fr f5 (by simp [r1])
      have hB := hB.fr f5 (by simp [r2])
      clear f5 g5 t r1 r2
      -- x follows b
      obtain ⟨c0, c1, c2, c3, c4, c5, c6, c7, c8, c9, c10, c11, c12, c13, c14⟩ := hB.cells
      go_wp2_with fail
      refine (t2.follow b hbH.out).mono ?_
      rintro x w6 ⟨rfl, ρ4, t3, f6, g6⟩
      clear c0 c1 c2 c3 c4 c5 c6 c7 c8 c9 c10 c11 c12 c13 c14
      rw [nB.out]
      have hA := hA.fr f6 (by simp [q1])
      have hB := hB.fr f6 (by simp [q2])
      have t3 := t3.symm
      clear f6 g6 t2 q1 q2
      -- y follows b
      obtain ⟨c0, c1, c2, c3, c4, c5, c6, c7, c8, c9, c10, c11, c12, c13, c14⟩ := hB.cells
      go_wp2_with fail
      refine (t3.follow b hbH.out).mono ?_
      rintro x w7 ⟨rfl, ρ5, t4, f7, g7⟩
      clear c0 c1 c2 c3 c4 c5 c6 c7 c8 c9 c10 c11 c12 c13 c14
      have hA := hA.fr f7 (by simp [r3])
      clear f7 g7 t3 r3 r4 hB
      -- y follows a
      obtain ⟨c0, c1, c2, c3, c4, c5, c6, c7, c8, c9, c10, c11, c12, c13, c14⟩ := hA.cells
      go_wp2_with fail
      refine (t4.follow a haH.out).mono ?_
      rintro x w8 ⟨rfl, ρ6, t5, f8, g8⟩
      clear c0 c1 c2 c3 c4 c5 c6 c7 c8 c9 c10 c11 c12 c13 c14
      rw [nA.out]
      clear f8 g8 t4 hA nA nB
      obtain ⟨E1, hE1⟩ : ∃ E, E = followE S2 a := ⟨_, rfl⟩
      obtain ⟨E2, hE2⟩ : ∃ E, E = followE S2 b := ⟨_, rfl⟩
      rw [← hE1, ← hE2]
      have u1 : (E1 == E1) = true := by simp
      have u2 : (E2 == E2) = true := by simp
      clear hE1 hE2
      have t := t5.symm
      clear t5
      go_wp2_with fail
      refine (t.a.now_any (by omega) hid).mono ?_
      rintro x w9 ⟨v, xs, rfl, hxs, hmem, kp, f9, hv⟩
      have hxs := Lib.hid hxs
      have hmem := Lib.hid hmem
      have t := t.quiet f9
      clear f9 hv
      go_wp2_with fail
      refine (t.b.now (by omega) hid hxs.out (fun x => by rw [hmem.out, hcm.out])).mono ?_
      rintro x w10 ⟨v2, rfl, kp2, f10, _⟩
      have kp := kp.quiet f10
      have t := t.quiet f10
      have hs := Lib.hid (kp.same kp2)
      clear f10 kp kp2 hxs hmem
      go_wp2_with fail
      refine hs.out.mono ?_
      rintro x w11 ⟨hx, f11⟩
      rw [decide_eq_true rfl] at hx
      subst hx
      have t := t.quiet f11
      clear f11 hs
      go_wp2_with fail
      refine (t.a.then_any (by omega) hid).mono ?_
      rintro x w12 ⟨v3, ys, rfl, hys, hmem, kp, f12, _⟩
      have hys := Lib.hid hys
      have hmem := Lib.hid hmem
      have t := t.quiet f12
      clear f12
      go_wp2_with fail
      refine (t.b.then_ (by omega) hid hys.out (fun x => by rw [hmem.out, hcm.out])).mono ?_
      rintro x w13 ⟨v4, rfl, kp2, f13, _⟩
      have kp := kp.quiet f13
      have t := t.quiet f13
      have hs := Lib.hid (kp.same kp2)
      clear f13 kp kp2 hys hmem
      go_wp2_with fail
      refine hs.out.mono ?_
      rintro x w14 ⟨hx, f14⟩
      rw [decide_eq_true rfl] at hx
      subst hx
      have hF := Lib.hid (t.a.fr.trans f14)
      clear f14 hs t
      go_wp2
      go_ret
      exact ⟨rfl, hF.out⟩
  refine wp_region_lit ?_
  -- the last: five tests
  refine mid22 (fun a' w' => ∃ q : Bool, Ch 17 A0 a' ∧ a'.eval (.tmp 38) = .bool q ∧ EdB w' M a ∧ EdB w' (M + 1) b ∧ Fr (fun _ => False) w1 w' ∧ (q = false → fewE es 40 = true ∧ apartB a b = true)) ?_ ?_
  · rintro a1 w2 ⟨q, h1, v38, hA, hB, f2, hq⟩
    obtain ⟨a0, a1', a2', _, _, _, _, _, _, a9, _⟩ := hA.cells
    obtain ⟨b0, b1, b2, _, _, _, _, _, _, b9, _⟩ := hB.cells
    refine block43 (g := 21) (g2 := 25) (s := 38) (u := 46) (v := 47) (n := 136) (pa := 5) (pb := 6) (s1 := 39) (s2 := 40) (s3 := 41) (s4 := 42) (t1 := 43) (t2 := 44) (t3 := 45) (q := q) (x := a.id.toList.isEmpty) (y := b.id.toList.isEmpty) (by decide) (by decide) (by decide) (h1.size.trans z0) rfl rfl rfl rfl rfl rfl rfl rfl rfl rfl rfl rfl rfl rfl rfl rfl 
      (fun a h => run_field38 (b := M) (f := 1) rfl h (by decide)) (fun a h => run_load9 rfl h a1') (fun a h => run_eqs rfl h rfl) (fun a h => (run_move (x := .tmp 41) rfl).trans (by rw [h]))
      (fun a h => run_field38 (b := M + 1) (f := 1) rfl h (by decide)) (fun a h => run_load9 rfl h b1) (fun a h => run_eqs rfl h rfl)
      rfl rfl rfl rfl rfl rfl v38 ((h1.low 5 (by decide)).trans e5) ((h1.low 6 (by decide)).trans e6) fun c0 k0 w0 => ?_
    have g0 := h1.trans (k0.mono (lo' := 17) (by decide))
    refine st_put (d := 48) g0 z0 rfl (by decide) (by decide) (wanted_none rfl _) (run_move rfl) fun d0 i0 j0 x0 => ?_
    have y0 := x0.trans w0
    refine block43 (g := 31) (g2 := 35) (s := 48) (u := 56) (v := 57) (n := 136) (pa := 5) (pb := 5) (s1 := 49) (s2 := 50) (s3 := 51) (s4 := 52) (t1 := 53) (t2 := 54) (t3 := 55) (q := ((q) || (a.id.toList.isEmpty && b.id.toList.isEmpty))) (x := a.other.toList.isEmpty) (y := decide (6 ≤ a.op)) (by decide) (by decide) (by decide) (i0.size.trans z0) rfl rfl rfl rfl rfl rfl rfl rfl rfl rfl rfl rfl rfl rfl rfl rfl 
      (fun a h => run_field38 (b := M) (f := 2) rfl h (by decide)) (fun a h => run_load9 rfl h a2') (fun a h => run_eqs rfl h rfl) (fun a h => (run_move (x := .tmp 51) rfl).trans (by rw [h]))
      (fun a h => run_field38 (b := M) (f := 0) rfl h (by decide)) (fun a h => run_load3 rfl h a0) (fun a h => run_geq rfl h rfl)
      rfl rfl rfl rfl rfl rfl y0 ((i0.low 5 (by decide)).trans e5) ((i0.low 5 (by decide)).trans e5) fun c1 k1 w1 => ?_
    have g1 := i0.trans (k1.mono (lo' := 17) (by decide))
    refine st_put (d := 58) g1 z0 rfl (by decide) (by decide) (wanted_none rfl _) (run_move rfl) fun d1 i1 j1 x1 => ?_
    have y1 := x1.trans w1
    refine block43 (g := 41) (g2 := 45) (s := 58) (u := 66) (v := 67) (n := 136) (pa := 6) (pb := 6) (s1 := 59) (s2 := 60) (s3 := 61) (s4 := 62) (t1 := 63) (t2 := 64) (t3 := 65) (q := ((((q) || (a.id.toList.isEmpty && b.id.toList.isEmpty))) || (a.other.toList.isEmpty && decide (6 ≤ a.op)))) (x := b.other.toList.isEmpty) (y := decide (6 ≤ b.op)) (by decide) (by decide) (by decide) (i1.size.trans z0) rfl rfl rfl rfl rfl rfl rfl rfl rfl rfl rfl rfl rfl rfl rfl rfl 
      (fun a h => run_field38 (b := M + 1) (f := 2) rfl h (by decide)) (fun a h => run_load9 rfl h b2) (fun a h => run_eqs rfl h rfl) (fun a h => (run_move (x := .tmp 61) rfl).trans (by rw [h]))
      (fun a h => run_field38 (b := M + 1) (f := 0) rfl h (by decide)) (fun a h => run_load3 rfl h b0) (fun a h => run_geq rfl h rfl)
      rfl rfl rfl rfl rfl rfl y1 ((i1.low 6 (by decide)).trans e6) ((i1.low 6 (by decide)).trans e6) fun c2 k2 w2 => ?_
    have g2 := i1.trans (k2.mono (lo' := 17) (by decide))
    refine st_put (d := 68) g2 z0 rfl (by decide) (by decide) (wanted_none rfl _) (run_move rfl) fun d2 i2 j2 x2 => ?_
    have y2 := x2.trans w2
    refine block44 (g := 51) (g2 := 55) (s := 68) (u := 77) (v := 78) (n := 136) (pa := 5) (pb := 5) (s1 := 69) (s2 := 70) (s3 := 71) (s4 := 72) (t1 := 73) (t2 := 74) (t3 := 75) (t4 := 76) (q := ((((((q) || (a.id.toList.isEmpty && b.id.toList.isEmpty))) || (a.other.toList.isEmpty && decide (6 ≤ a.op)))) || (b.other.toList.isEmpty && decide (6 ≤ b.op)))) (x := (a.op == 1)) (y := a.oid.toList.isEmpty) (by decide) (by decide) (by decide) (i2.size.trans z0) rfl rfl rfl rfl rfl rfl rfl rfl rfl rfl rfl rfl rfl rfl rfl rfl rfl rfl 
      (fun a h => run_field38 (b := M) (f := 0) rfl h (by decide)) (fun a h => run_load3 rfl h a0) (fun a h => run_eqi rfl h rfl) (fun a h => (run_move (x := .tmp 71) rfl).trans (by rw [h]))
      (fun a h => run_field8 (b := M) rfl h) (fun a h => run_field36 (b := M) rfl h) (fun a h => run_load9 rfl h a9) (fun a h => run_eqs rfl h rfl)
      rfl rfl rfl rfl rfl rfl y2 ((i2.low 5 (by decide)).trans e5) ((i2.low 5 (by decide)).trans e5) fun c3 k3 w3 => ?_
    have g3 := i2.trans (k3.mono (lo' := 17) (by decide))
    refine st_put (d := 79) g3 z0 rfl (by decide) (by decide) (wanted_none rfl _) (run_move rfl) fun d3 i3 j3 x3 => ?_
    have y3 := x3.trans w3
    refine block44 (g := 62) (g2 := 66) (s := 79) (u := 88) (v := 89) (n := 136) (pa := 6) (pb := 6) (s1 := 80) (s2 := 81) (s3 := 82) (s4 := 83) (t1 := 84) (t2 := 85) (t3 := 86) (t4 := 87) (q := ((((((((q) || (a.id.toList.isEmpty && b.id.toList.isEmpty))) || (a.other.toList.isEmpty && decide (6 ≤ a.op)))) || (b.other.toList.isEmpty && decide (6 ≤ b.op)))) || ((a.op == 1) && a.oid.toList.isEmpty))) (x := (b.op == 1)) (y := b.oid.toList.isEmpty) (by decide) (by decide) (by decide) (i3.size.trans z0) rfl rfl rfl rfl rfl rfl rfl rfl rfl rfl rfl rfl rfl rfl rfl rfl rfl rfl 
      (fun a h => run_field38 (b := M + 1) (f := 0) rfl h (by decide)) (fun a h => run_load3 rfl h b0) (fun a h => run_eqi rfl h rfl) (fun a h => (run_move (x := .tmp 82) rfl).trans (by rw [h]))
      (fun a h => run_field8 (b := M + 1) rfl h) (fun a h => run_field36 (b := M + 1) rfl h) (fun a h => run_load9 rfl h b9) (fun a h => run_eqs rfl h rfl)
      rfl rfl rfl rfl rfl rfl y3 ((i3.low 6 (by decide)).trans e6) ((i3.low 6 (by decide)).trans e6) fun c4 k4 w4 => ?_
    have g4 := i3.trans (k4.mono (lo' := 17) (by decide))
    refine wpList_nil ⟨_, g4, w4, fun hc => ?_, f2⟩
    simp only [Bool.or_eq_false_iff] at hc
    obtain ⟨⟨⟨⟨⟨h1, h2⟩, h3⟩, h4⟩, h5⟩, h6⟩ := hc
    exact ⟨(hq h1).1, (hq h1).2, h2, h3, h4, h5, h6⟩
  intro tail5
  refine mid4 (fun a' w' => Ch 17 A0 a' ∧ a'.eval (.tmp 20) = .bool (!fewE es 40) ∧ w' = w1) ?_ ?_
  · rintro a1 w2 ⟨h1, v20, rfl⟩
    refine mid7 (fun a' w' => ∃ q : Bool, Ch 17 A0 a' ∧ a'.eval (.tmp 27) = .bool q ∧ EdB w' M a ∧ EdB w' (M + 1) b ∧ Fr (fun _ => False) w2 w' ∧ (q = false → fewE es 40 = true)) ?_ ?_
    · rintro a2 w3 ⟨q, h2, v27, hA, hB, f3, hq⟩
      refine mid5 (fun a' w' => ∃ q : Bool, Ch 17 A0 a' ∧ a'.eval (.tmp 32) = .bool q ∧ EdB w' M a ∧ EdB w' (M + 1) b ∧ Fr (fun _ => False) w2 w' ∧ (q = false → fewE es 40 = true)) ?_ ?_
      · rintro a3 w4 ⟨q, h3, v32, hA, hB, f4, hq⟩
        cases q with
        | true =>
          refine half_skip4 (g := 15) (s1 := 33) (s2 := 34) (s3 := 35) (s4 := 36) (s := 32) (u := 37) (m := 38) (n := 136) (t := 36) h3 z0 (by decide) rfl rfl rfl rfl rfl rfl rfl rfl rfl (by decide) (by decide) (by decide) (by decide) (by decide) (by decide) (by decide) rfl rfl rfl rfl rfl rfl v32 fun a4 h4 v38 => ?_
          exact tail5 _ _ ⟨true, h4, v38, hA, hB, f4, fun h => by cases h⟩
        | false =>
          refine st_put (d := 33) h3 z0 rfl (by decide) (by decide) (w_yes (g := 15) (s := 32) rfl rfl (by rw [h3.size, z0]; decide) v32) (run_load38 rfl ((h3.low 5 (by decide)).trans e5) hA) fun a4 h4 k4 v33 => ?_
          refine st_put (d := 34) h4 z0 rfl (by decide) (by decide) (w_yes (g := 15) (s := 32) rfl rfl (by rw [h4.size, z0]; decide) ((k4.low 32 (by decide)).trans v32)) (run_load38 rfl ((h4.low 6 (by decide)).trans e6) hB) fun a5 h5 k5 v34 => ?_
          have v32' := (k5.low 32 (by decide)).trans ((k4.low 32 (by decide)).trans v32)
          refine st_callq (d := 35) h5 z0 rfl (by decide) (by decide) (w_yes (g := 15) (s := 32) rfl rfl (by rw [h5.size, z0]; decide) v32') (run_call2 rfl rfl ((k5.low 33 (by decide)).trans v33) v34 (enters_of Try.func28 (by kernel_rfl) rfl)) (apart_calls a b w4) fun a6 w5 f5 h6 k6 v35 => ?_
          refine st_put (d := 36) h6 z0 rfl (by decide) (by decide) (w_yes (g := 15) (s := 32) rfl rfl (by rw [h6.size, z0]; decide) ((k6.low 32 (by decide)).trans v32')) (run_not rfl v35) fun a7 h7 k7 v36 => ?_
          refine st_put (d := 37) h7 z0 rfl (by decide) (by decide) (wanted_none rfl _) (run_pick rfl ((k7.low 32 (by decide)).trans ((k6.low 32 (by decide)).trans v32'))) fun a8 h8 k8 v37 => ?_
          refine st_put (d := 38) h8 z0 rfl (by decide) (by decide) (wanted_none rfl _) (run_move rfl) fun a9 h9 k9 v38 => ?_
          rw [v37] at v38
          have v38 : a9.eval (.tmp 38) = .bool (!apartB a b) := v38.trans v36
          exact tail5 _ _ ⟨_, h9, v38, hA.fr f5 (by simp), hB.fr f5 (by simp), f4.trans f5, fun h => ⟨hq rfl, by simpa using h⟩⟩
      · intro tail4
        cases q with
        | true =>
          refine half_skip3 (g := 10) (s1 := 28) (s2 := 29) (s3 := 30) (s := 27) (u := 31) (m := 32) (n := 136) (t := 30) h2 z0 (by decide) rfl rfl rfl rfl rfl rfl rfl (by decide) (by decide) (by decide) (by decide) (by decide) (by decide) rfl rfl rfl rfl rfl rfl v27 fun a4 h4 v32 => ?_
          exact tail4 _ _ ⟨true, h4, v32, hA, hB, f3, fun h => by cases h⟩
        | false =>
          refine st_put (d := 28) h2 z0 rfl (by decide) (by decide) (w_yes (g := 10) (s := 27) rfl rfl (by rw [h2.size, z0]; decide) v27) (run_move rfl) fun a4 h4 k4 v28 => ?_
          have v28 : a4.eval (.tmp 28) = .string id := v28.trans ((h2.low 3 (by decide)).trans e3)
          have v27' := (k4.low 27 (by decide)).trans v27
          refine st_put (d := 29) h4 z0 rfl (by decide) (by decide) (w_yes (g := 10) (s := 27) rfl rfl (by rw [h4.size, z0]; decide) v27') (run_lens rfl v28) fun a5 h5 k5 v29 => ?_
          have v27' := (k5.low 27 (by decide)).trans v27'
          refine st_put (d := 30) h5 z0 rfl (by decide) (by decide) (w_yes (g := 10) (s := 27) rfl rfl (by rw [h5.size, z0]; decide) v27') (run_gtr rfl v29 rfl) fun a6 h6 k6 v30 => ?_
          have v27' := (k6.low 27 (by decide)).trans v27'
          refine st_put (d := 31) h6 z0 rfl (by decide) (by decide) (wanted_none rfl _) (run_pick rfl v27') fun a7 h7 k7 v31 => ?_
          refine st_put (d := 32) h7 z0 rfl (by decide) (by decide) (wanted_none rfl _) (run_move rfl) fun a8 h8 k8 v32 => ?_
          rw [v31] at v32
          exact tail4 _ _ ⟨_, h8, v32.trans v30, hA, hB, f3, fun _ => hq rfl⟩
    · intro tail3
      by_cases hfw : fewE es 40 = true
      case neg =>
        rw [Bool.not_eq_true] at hfw
        rw [hfw] at v20
        refine half_skip5 (g := 3) (s1 := 21) (s2 := 22) (s3 := 23) (s4 := 24) (s5 := 25) (s := 20) (u := 26) (m := 27) (n := 136) (t := 25) h1 z0 (by decide) rfl rfl rfl rfl rfl rfl rfl rfl rfl rfl rfl (by decide) (by decide) (by decide) (by decide) (by decide) (by decide) (by decide) (by decide) rfl rfl rfl rfl rfl rfl v20 fun a4 h4 v27 => ?_
        exact tail3 _ _ ⟨true, h4, v27, hAH.out, hBH.out, Fr.refl _ _, fun h => by cases h⟩
      case pos =>
        rw [hfw] at v20
        have v20 : a1.eval (.tmp 20) = .bool false := v20
        refine st_put (d := 21) h1 z0 rfl (by decide) (by decide) (w_yes (g := 3) (s := 20) rfl rfl (by rw [h1.size, z0]; decide) v20) (run_load38 rfl ((h1.low 5 (by decide)).trans e5) hAH.out) fun a4 h4 k4 v21 => ?_
        have v20 := (k4.low 20 (by decide)).trans v20
        refine st_put (d := 22) h4 z0 rfl (by decide) (by decide) (w_yes (g := 3) (s := 20) rfl rfl (by rw [h4.size, z0]; decide) v20) (run_load38 rfl ((h4.low 6 (by decide)).trans e6) hBH.out) fun a5 h5 k5 v22 => ?_
        have v20 := (k5.low 20 (by decide)).trans v20
        refine st_put (d := 23) h5 z0 rfl (by decide) (by decide) (w_yes (g := 3) (s := 20) rfl rfl (by rw [h5.size, z0]; decide) v20) (run_two (c := a) (d := b) rfl ((k5.low 21 (by decide)).trans v21) v22) fun a6 h6 k6 v23 => ?_
        have v20 := (k6.low 20 (by decide)).trans v20
        have hone := few_calls (some ⟨w2.heap.size, 0, none⟩) w2.heap.size 0 2 [a, b] 2 (by omega) (w2.alloc (.cells (twoCells a b) 38)) (by simp) (edts_two w2 a b) (by simp) (by simp [haH.out, hbH.out])
        have hone : Calls Try.prog 11 #[.slice (some ⟨w2.heap.size, 0, none⟩) 2 2, .int .i64 2] (w2.alloc (.cells (twoCells a b) 38)) (fun e w' => e = .returned (.bool (fewE [a, b] 2)) ∧ w2.alloc (.cells (twoCells a b) 38) = w') := hone
        refine st_callq (d := 24) h6 z0 rfl (by decide) (by decide) (w_yes (g := 3) (s := 20) rfl rfl (by rw [h6.size, z0]; decide) v20) (run_call2 rfl rfl v23 rfl (enters_of Try.func11 (by kernel_rfl) rfl)) hone fun a7 w5 f5 h7 k7 v24 => ?_
        subst f5
        have v20 := (k7.low 20 (by decide)).trans v20
        refine st_put (d := 25) h7 z0 rfl (by decide) (by decide) (w_yes (g := 3) (s := 20) rfl rfl (by rw [h7.size, z0]; decide) v20) (run_not rfl v24) fun a8 h8 k8 v25 => ?_
        have v20 := (k8.low 20 (by decide)).trans v20
        refine st_put (d := 26) h8 z0 rfl (by decide) (by decide) (wanted_none rfl _) (run_pick rfl v20) fun a9 h9 k9 v26 => ?_
        refine st_put (d := 27) h9 z0 rfl (by decide) (by decide) (wanted_none rfl _) (run_move rfl) fun a10 h10 k10 v27 => ?_
        rw [v26] at v27
        have hf2 : Fr (fun _ => False) w2 (w2.alloc (.cells (twoCells a b) 38)) := by simp
        exact tail3 _ _ ⟨_, h10, v27.trans v25, hAH.out.fr hf2 (by simp), hBH.out.fr hf2 (by simp), hf2, fun _ => hfw⟩
  intro tail2
  have h0 := Ch.refl 17 A0
  refine st_put (d := 17) h0 z0 rfl (by decide) (by decide) (wanted_none rfl _) (run_move rfl) fun a1 h1 k1 v17 => ?_
  have v17 : a1.eval (.tmp 17) = .slice sa n cap := v17.trans e0
  refine st_callq (d := 18) (F := fun w' => w1 = w') h1 z0 rfl (by decide) (by decide) (wanted_none rfl _) (run_call2 rfl rfl v17 rfl (enters_of Try.func11 (by kernel_rfl) rfl)) (hfew.out w1 f1) fun a2 w2 f2 h2 k2 v18 => ?_
  subst f2
  refine st_put (d := 19) h2 z0 rfl (by decide) (by decide) (wanted_none rfl _) (run_not rfl v18) fun a3 h3 k3 v19 => ?_
  refine st_put (d := 20) h3 z0 rfl (by decide) (by decide) (wanted_none rfl _) (run_move rfl) fun a4 h4 k4 v20 => ?_
  exact tail2 _ _ ⟨h4, v20.trans v19, rfl⟩
end Go.Proofs.Ytcolfgnjmnapkaa
