/- Part 5 of the proof: the texts Hp, Ya, Yb, Yc, Yd, Ye, Yf, Yg, Yh, Yi, Yj, Yk, Du, Yl, Yq, Yr, Ys. -/
import Derived.Test.YtbflfefahheidaaGreatDoorK4
/- The heap of arcs. -/
set_option linter.unusedVariables false
set_option linter.unusedSimpArgs false
namespace Go.Proofs.YtbflfefahheidaaGreatDoor
open Go.RowKit Go.Pl
theorem tsubz {P : Program} {w : World} {t : TypeId} (m n k : Int) (ht : P.underlying t = some (.int .i64)) (e : m - n = k) (h : -9223372036854775808 ≤ m - n ∧ m - n ≤ 9223372036854775807 := by omega) : Ft.ok P w (.g2 (fun x y => .binOp .sub t x y t) (vI m) (vI n) (vI k)) := e ▸ tsub m n ht h
abbrev A101 (Φ : Ending → World → Prop) := AtO Tryz.prog (bodyOf Tryz.f101) (whole (bodyPost Tryz.prog Tryz.f101 Φ)) [] 23
theorem up_calls {w : World} {G : Nat → Prop} {q j0 : Nat} {v : Value} {X : List (Nat × Int)} (hM0 : Mm G w w (QM q v X)) (hl : X.length ≤ 1500000000000) (hj0 : j0 < X.length) : Calls Tryz.prog 101 #[.iface 115 (vP q 0), vI (j0 : Int)] w fun e w' => ∃ (u : Value) (Mn : List Ent), e = .returned u ∧ (u = .tuple #[] ∧ ∃ v' X', X'.Perm X ∧ Mn = QM q v' X') ∧ Mm G w w' Mn := by
  refine beg Tryz.func101 rfl rfl [(0, .iface 115 (vP q 0)), (1, vI (j0 : Int))] rfl rfl fun Φ hΦ => ?_
  have hM := hM0
  refine seg 0 0 [] f0 ?_
  have lp18 : ∀ (m20 : Nat) (v1 : Value) (X1 : List (Nat × Int)) (j : Nat) (w2 : World), X1.Perm X → j < X1.length → Mm G w w2 [bk q #[v1] 117, rw_ reL 2 124 v1 X1] → m20 = j → A101 Φ (some (0, 0)) [(0, .iface 115 (vP q 0)), (1, vI (j : Int))] w2 := by
   refine srec fun m20 ih19 v1 X1 j w2 hp hj hM hm20 => ?_
   have hle := hp.length_eq
   obtain ⟨qa21, ca21, e21, s21⟩ := (hM.src (j := 1) rfl reT.len).op
   subst e21
   refine seg 1 4 [(4, vI (((j - 1) / 2 : Nat) : Int)), (11, vB ((((j - 1) / 2 : Nat) : Int) == (j : Int)))] (fc (tsub (j : Int) 1 Tryz.underlying3) (fc (quo2 j (by omega)) f0)) ?_
   cases h22 : ((((j - 1) / 2 : Nat) : Int) == (j : Int)) with
   | false =>
    have rh22 := ef h22
    have hj1 : 1 ≤ j := by have h9 : ¬ ((((j - 1) / 2 : Nat) : Int) = (j : Int)) := fun e => by rw [e] at h22; simp at h22
                           omega
    refine inv2 1 7 15 [(12, .iface 115 (vP q 0)), (13, vI (j : Int)), (14, vI (((j - 1) / 2 : Nat) : Int))] "Less" #[3, 3] (by decide) f0 (mq_less (hM.get 0 rfl)) (enters_of Tryz.func236 (by kernel_rfl) rfl) (K := fun u w8 => (∃ b, u = vB b) ∧ Fr (fun _ => False) _ w8) ((lessq_calls ((hM.src (j := 1) rfl reT.len).p.2) (i := j) (j := ((j - 1) / 2)) (by omega) (by omega)).mono fun e w8 ⟨⟨b, h1⟩, h2⟩ => ⟨_, h1, ⟨b, rfl⟩, h2⟩) fun u w1 ⟨⟨b23, hu⟩, f1⟩ => ?_
    have hM := hM.q f1
    subst hu
    refine seg 1 10 [(17, vB (!b23))] f0 ?_
    cases h24 : b23 with
    | false =>
     exact rt0 rfl f0 (hΦ _ _ ⟨_, _, rfl, ⟨rfl, _, _, hp, rfl⟩, hM⟩)
    | true =>
     obtain ⟨x25, hx25⟩ := geb (l := X1) (i := ((j - 1) / 2)) (by omega)
     obtain ⟨y25, hy25⟩ := geb (l := X1) (i := j) (by omega)
     refine inv2 2 3 21 [(18, .iface 115 (vP q 0)), (19, vI (((j - 1) / 2 : Nat) : Int)), (20, vI (j : Int))] "Swap" #[3, 3] (by decide) f0 (mq_swap (hM.get 0 rfl)) (enters_of Tryz.func239 (by kernel_rfl) rfl) (memK (K := fun u Mn => u = .tuple #[] ∧ Mn = [rw_ reL 2 124 (vL qa21 X1.length ca21) ((X1.set ((j - 1) / 2) y25).set j x25)]) [0] [1] hM rfl rfl (by decide) (fun hm => (swapq_calls hm hx25 hy25))) fun u w1 ⟨Mn, hK, hM⟩ => ?_
     obtain ⟨rfl, rfl⟩ := hK
     refine seg 0 0 [(1, vI (((j - 1) / 2 : Nat) : Int))] f0 (fewer _ (ih19 _ (by omega) (vL qa21 X1.length ca21) ((X1.set ((j - 1) / 2) y25).set j x25) ((j - 1) / 2) _ ((swp_perm hx25 hy25).trans hp) (by rw [List.length_set, List.length_set]; omega) hM rfl))
   | true =>
    have rh22 := et h22
    exact rt0 rfl f0 (hΦ _ _ ⟨_, _, rfl, ⟨rfl, _, _, hp, rfl⟩, hM⟩)
  exact fewer _ (lp18 _ v X j0 _ (List.Perm.refl _) hj0 hM rfl)
abbrev A102 (Φ : Ending → World → Prop) := AtO Tryz.prog (bodyOf Tryz.f102) (whole (bodyPost Tryz.prog Tryz.f102 Φ)) [] 48
theorem down_calls {w : World} {G : Nat → Prop} {q n : Nat} {v : Value} {X : List (Nat × Int)} (hM0 : Mm G w w (QM q v X)) (hl : X.length ≤ 1500000000000) (hn : n ≤ X.length) : Calls Tryz.prog 102 #[.iface 115 (vP q 0), vI 0, vI (n : Int)] w fun e w' => ∃ (u : Value) (Mn : List Ent), e = .returned u ∧ ((∃ b, u = vB b) ∧ ∃ v' X', X'.Perm X ∧ Mn = QM q v' X') ∧ Mm G w w' Mn := by
  refine beg Tryz.func102 rfl rfl [(0, .iface 115 (vP q 0)), (1, vI 0), (2, vI (n : Int))] rfl rfl fun Φ hΦ => ?_
  have hM := hM0
  refine seg 2 0 [(7, vI 0)] f0 ?_
  have lp26 : ∀ (m28 : Nat) (v1 : Value) (X1 : List (Nat × Int)) (i : Nat) (w2 : World), X1.Perm X → i ≤ n → Mm G w w2 [bk q #[v1] 117, rw_ reL 2 124 v1 X1] → m28 = n - i → A102 Φ (some (2, 0)) [(7, vI (i : Int)), (0, .iface 115 (vP q 0)), (1, vI 0), (2, vI (n : Int))] w2 := by
   refine srec fun m28 ih27 v1 X1 i w2 hp hi hM hm28 => ?_
   have hle := hp.length_eq
   obtain ⟨qa29, ca29, e29, s29⟩ := (hM.src (j := 1) rfl reT.len).op
   subst e29
   refine seg 3 4 [(8, vI ((2 * (i : Int)) + 1)), (18, vB (decide ((n : Int) ≤ ((2 * (i : Int)) + 1))))] (fc (tmul 2 (i : Int) Tryz.underlying3) (fc (tadd (2 * (i : Int)) 1 Tryz.underlying3) f0)) ?_
   cases h30 : (decide ((n : Int) ≤ ((2 * (i : Int)) + 1))) with
   | false =>
    have rh30 := df h30
    refine seg 3 7 [(21, vB (decide (((2 * (i : Int)) + 1) < 0)))] f0 ?_
    cases h31 : (decide (((2 * (i : Int)) + 1) < 0)) with
    | false =>
     have rh31 := df h31
     refine seg 6 4 [(9, vI ((2 * (i : Int)) + 1)), (10, vI (((2 * (i : Int)) + 1) + 1)), (28, vB (decide ((((2 * (i : Int)) + 1) + 1) < (n : Int))))] (fc (tadd ((2 * (i : Int)) + 1) 1 Tryz.underlying3) f0) ?_
     cases h32 : (decide ((((2 * (i : Int)) + 1) + 1) < (n : Int))) with
     | false =>
      have rh32 := df h32
      refine inv2 8 3 38 [(35, .iface 115 (vP q 0)), (36, vI ((2 * (i : Int)) + 1)), (37, vI (i : Int))] "Less" #[3, 3] (by decide) f0 (mq_less (hM.get 0 rfl)) (enters_of Tryz.func236 (by kernel_rfl) rfl) (K := fun u w8 => (∃ b, u = vB b) ∧ Fr (fun _ => False) _ w8) ((lessq_calls ((hM.src (j := 1) rfl reT.len).p.2) (i := (2 * i + 1)) (j := i) (by omega) (by omega)).mono fun e w8 ⟨⟨b, h1⟩, h2⟩ => ⟨_, h1, ⟨b, rfl⟩, h2⟩) fun u w1 ⟨⟨b33, hu⟩, f1⟩ => ?_
      have hM := hM.q f1
      subst hu
      refine seg 8 5 [(39, vB (!b33))] f0 ?_
      cases h34 : b33 with
      | false =>
       exact rt1 6 (vB (decide (0 < (i : Int)))) rfl f0 (hΦ _ _ ⟨_, _, rfl, ⟨⟨_, rfl⟩, _, _, hp, rfl⟩, hM⟩)
      | true =>
       obtain ⟨x35, hx35⟩ := geb (l := X1) (i := i) (by omega)
       obtain ⟨y35, hy35⟩ := geb (l := X1) (i := (2 * i + 1)) (by omega)
       refine inv2 9 3 43 [(40, .iface 115 (vP q 0)), (41, vI (i : Int)), (42, vI ((2 * (i : Int)) + 1))] "Swap" #[3, 3] (by decide) f0 (mq_swap (hM.get 0 rfl)) (enters_of Tryz.func239 (by kernel_rfl) rfl) (memK (K := fun u Mn => u = .tuple #[] ∧ Mn = [rw_ reL 2 124 (vL qa29 X1.length ca29) ((X1.set i y35).set (2 * i + 1) x35)]) [0] [1] hM rfl rfl (by decide) (fun hm => (swapq_calls hm hx35 hy35))) fun u w1 ⟨Mn, hK, hM⟩ => ?_
       obtain ⟨rfl, rfl⟩ := hK
       refine seg 2 0 [(7, vI ((2 * (i : Int)) + 1))] f0 (fewer _ (ih27 _ (by omega) (vL qa29 X1.length ca29) ((X1.set i y35).set (2 * i + 1) x35) (2 * i + 1) _ ((swp_perm hx35 hy35).trans hp) (by omega) hM rfl))
     | true =>
      have rh32 := dt h32
      refine inv2 6 7 32 [(29, .iface 115 (vP q 0)), (30, vI (((2 * (i : Int)) + 1) + 1)), (31, vI ((2 * (i : Int)) + 1))] "Less" #[3, 3] (by decide) f0 (mq_less (hM.get 0 rfl)) (enters_of Tryz.func236 (by kernel_rfl) rfl) (K := fun u w8 => (∃ b, u = vB b) ∧ Fr (fun _ => False) _ w8) ((lessq_calls ((hM.src (j := 1) rfl reT.len).p.2) (i := (2 * i + 1 + 1)) (j := (2 * i + 1)) (by omega) (by omega)).mono fun e w8 ⟨⟨b, h1⟩, h2⟩ => ⟨_, h1, ⟨b, rfl⟩, h2⟩) fun u w1 ⟨⟨b36, hu⟩, f1⟩ => ?_
      have hM := hM.q f1
      subst hu
      refine seg 6 9 [(33, vB b36)] f0 ?_
      cases h37 : b36 with
      | false =>
       refine inv2 8 3 38 [(35, .iface 115 (vP q 0)), (36, vI ((2 * (i : Int)) + 1)), (37, vI (i : Int))] "Less" #[3, 3] (by decide) f0 (mq_less (hM.get 0 rfl)) (enters_of Tryz.func236 (by kernel_rfl) rfl) (K := fun u w8 => (∃ b, u = vB b) ∧ Fr (fun _ => False) _ w8) ((lessq_calls ((hM.src (j := 1) rfl reT.len).p.2) (i := (2 * i + 1)) (j := i) (by omega) (by omega)).mono fun e w8 ⟨⟨b, h1⟩, h2⟩ => ⟨_, h1, ⟨b, rfl⟩, h2⟩) fun u w1 ⟨⟨b38, hu⟩, f1⟩ => ?_
       have hM := hM.q f1
       subst hu
       refine seg 8 5 [(39, vB (!b38))] f0 ?_
       cases h39 : b38 with
       | false =>
        exact rt1 6 (vB (decide (0 < (i : Int)))) rfl f0 (hΦ _ _ ⟨_, _, rfl, ⟨⟨_, rfl⟩, _, _, hp, rfl⟩, hM⟩)
       | true =>
        obtain ⟨x40, hx40⟩ := geb (l := X1) (i := i) (by omega)
        obtain ⟨y40, hy40⟩ := geb (l := X1) (i := (2 * i + 1)) (by omega)
        refine inv2 9 3 43 [(40, .iface 115 (vP q 0)), (41, vI (i : Int)), (42, vI ((2 * (i : Int)) + 1))] "Swap" #[3, 3] (by decide) f0 (mq_swap (hM.get 0 rfl)) (enters_of Tryz.func239 (by kernel_rfl) rfl) (memK (K := fun u Mn => u = .tuple #[] ∧ Mn = [rw_ reL 2 124 (vL qa29 X1.length ca29) ((X1.set i y40).set (2 * i + 1) x40)]) [0] [1] hM rfl rfl (by decide) (fun hm => (swapq_calls hm hx40 hy40))) fun u w1 ⟨Mn, hK, hM⟩ => ?_
        obtain ⟨rfl, rfl⟩ := hK
        refine seg 2 0 [(7, vI ((2 * (i : Int)) + 1))] f0 (fewer _ (ih27 _ (by omega) (vL qa29 X1.length ca29) ((X1.set i y40).set (2 * i + 1) x40) (2 * i + 1) _ ((swp_perm hx40 hy40).trans hp) (by omega) hM rfl))
      | true =>
       refine inv2 8 3 38 [(9, vI (((2 * (i : Int)) + 1) + 1)), (35, .iface 115 (vP q 0)), (36, vI (((2 * (i : Int)) + 1) + 1)), (37, vI (i : Int))] "Less" #[3, 3] (by decide) f0 (mq_less (hM.get 0 rfl)) (enters_of Tryz.func236 (by kernel_rfl) rfl) (K := fun u w8 => (∃ b, u = vB b) ∧ Fr (fun _ => False) _ w8) ((lessq_calls ((hM.src (j := 1) rfl reT.len).p.2) (i := (2 * i + 1 + 1)) (j := i) (by omega) (by omega)).mono fun e w8 ⟨⟨b, h1⟩, h2⟩ => ⟨_, h1, ⟨b, rfl⟩, h2⟩) fun u w1 ⟨⟨b41, hu⟩, f1⟩ => ?_
       have hM := hM.q f1
       subst hu
       refine seg 8 5 [(39, vB (!b41))] f0 ?_
       cases h42 : b41 with
       | false =>
        exact rt1 6 (vB (decide (0 < (i : Int)))) rfl f0 (hΦ _ _ ⟨_, _, rfl, ⟨⟨_, rfl⟩, _, _, hp, rfl⟩, hM⟩)
       | true =>
        obtain ⟨x43, hx43⟩ := geb (l := X1) (i := i) (by omega)
        obtain ⟨y43, hy43⟩ := geb (l := X1) (i := (2 * i + 1 + 1)) (by omega)
        refine inv2 9 3 43 [(40, .iface 115 (vP q 0)), (41, vI (i : Int)), (42, vI (((2 * (i : Int)) + 1) + 1))] "Swap" #[3, 3] (by decide) f0 (mq_swap (hM.get 0 rfl)) (enters_of Tryz.func239 (by kernel_rfl) rfl) (memK (K := fun u Mn => u = .tuple #[] ∧ Mn = [rw_ reL 2 124 (vL qa29 X1.length ca29) ((X1.set i y43).set (2 * i + 1 + 1) x43)]) [0] [1] hM rfl rfl (by decide) (fun hm => (swapq_calls hm hx43 hy43))) fun u w1 ⟨Mn, hK, hM⟩ => ?_
        obtain ⟨rfl, rfl⟩ := hK
        refine seg 2 0 [(7, vI (((2 * (i : Int)) + 1) + 1))] f0 (fewer _ (ih27 _ (by omega) (vL qa29 X1.length ca29) ((X1.set i y43).set (2 * i + 1 + 1) x43) (2 * i + 1 + 1) _ ((swp_perm hx43 hy43).trans hp) (by omega) hM rfl))
    | true =>
     have rh31 := dt h31
     omega
   | true =>
    have rh30 := dt h30
    exact rt1 6 (vB (decide (0 < (i : Int)))) rfl f0 (hΦ _ _ ⟨_, _, rfl, ⟨⟨_, rfl⟩, _, _, hp, rfl⟩, hM⟩)
  exact fewer _ (lp26 _ v X 0 _ (List.Perm.refl _) (Nat.zero_le _) hM rfl)
theorem hpush_calls {w : World} {G : Nat → Prop} {q : Nat} {v : Value} {X : List (Nat × Int)} (hM0 : Mm G w w (QM q v X)) (hl : X.length < 1500000000000) (x : Nat × Int) : Calls Tryz.prog 64 #[.iface 115 (vP q 0), .iface 124 (.agg #[vI (x.1 : Int), vI x.2])] w fun e w' => ∃ (u : Value) (Mn : List Ent), e = .returned u ∧ (u = .tuple #[] ∧ ∃ v' X', X'.Perm (X ++ [x]) ∧ Mn = QM q v' X') ∧ Mm G w w' Mn := by
  refine beg Tryz.func64 rfl rfl [(0, .iface 115 (vP q 0)), (1, .iface 124 (.agg #[vI (x.1 : Int), vI x.2]))] rfl rfl fun Φ hΦ => ?_
  have hM := hM0
  obtain ⟨qa44, ca44, e44, s44⟩ := (hM.src (j := 1) rfl reT.len).op
  subst e44
  have hlx : (X ++ [x]).length = X.length + 1 := by simp
  refine inv1 0 2 6 [(4, .iface 115 (vP q 0)), (5, .iface 124 (.agg #[vI (x.1 : Int), vI x.2]))] "Push" #[20] (by decide) f0 mq_push (enters_of Tryz.func238 (by kernel_rfl) rfl) (memK (K := fun u Mn => u = .tuple #[] ∧ ∃ v, Mn = QM q v (X ++ [x])) [] [0, 1] hM rfl rfl (by decide) (fun hm => (pushq_calls hm hl x))) fun u w1 ⟨Mn, hK, hM⟩ => ?_
  obtain ⟨rfl, v45, rfl⟩ := hK
  obtain ⟨qa46, ca46, e46, s46⟩ := (hM.src (j := 1) rfl reT.len).op
  subst e46
  refine inv0 1 2 9 [(7, .iface 115 (vP q 0)), (8, .iface 115 (vP q 0))] "Len" #[] (by decide) f0 (mq_len (hM.get 0 rfl)) (enters_of Tryz.func235 (by kernel_rfl) rfl) (valK lenq_calls) fun u w1 ⟨hu, f1⟩ => ?_
  subst hu
  have hM := hM.q f1
  refine calM 1 4 11 [(10, vI (X.length : Int))] (K := fun u Mn => u = .tuple #[] ∧ ∃ v' X', X'.Perm (X ++ [x]) ∧ Mn = QM q v' X') [] [0, 1] (fc (tsubz ((X ++ [x]).length : Int) 1 (X.length : Int) Tryz.underlying3 (by omega)) f0) hM rfl rfl (by decide) (fun hm => (up_calls (j0 := X.length) hm (by omega) (by omega))) fun u Mn w1 hK hM => ?_
  obtain ⟨rfl, v47, Y48, hY48, rfl⟩ := hK
  obtain ⟨qa49, ca49, e49, s49⟩ := (hM.src (j := 1) rfl reT.len).op
  subst e49
  exact rt0 rfl f0 (hΦ _ _ ⟨_, _, rfl, ⟨rfl, _, _, hY48, rfl⟩, hM⟩)
theorem hpop_calls {w : World} {G : Nat → Prop} {q : Nat} {v : Value} {X : List (Nat × Int)} (hM0 : Mm G w w (QM q v X)) (hl : X.length ≤ 1500000000000) (h0 : 0 < X.length) : Calls Tryz.prog 65 #[.iface 115 (vP q 0)] w fun e w' => ∃ (u : Value) (Mn : List Ent), e = .returned u ∧ (∃ x v' X', X.Perm (x :: X') ∧ u = .iface 124 (.agg #[vI (x.1 : Int), vI x.2]) ∧ Mn = QM q v' X') ∧ Mm G w w' Mn := by
  refine beg Tryz.func65 rfl rfl [(0, .iface 115 (vP q 0))] rfl rfl fun Φ hΦ => ?_
  have hM := hM0
  obtain ⟨qa50, ca50, e50, s50⟩ := (hM.src (j := 1) rfl reT.len).op
  subst e50
  refine inv0 1 1 5 [(4, .iface 115 (vP q 0))] "Len" #[] (by decide) f0 (mq_len (hM.get 0 rfl)) (enters_of Tryz.func235 (by kernel_rfl) rfl) (valK lenq_calls) fun u w1 ⟨hu, f1⟩ => ?_
  subst hu
  have hM := hM.q f1
  obtain ⟨x51, hx51⟩ := geb (l := X) (i := 0) (by omega)
  obtain ⟨y51, hy51⟩ := geb (l := X) (i := (X.length - 1)) (by omega)
  refine inv2 2 2 9 [(3, vI ((X.length - 1 : Nat) : Int)), (7, .iface 115 (vP q 0)), (8, vI ((X.length - 1 : Nat) : Int))] "Swap" #[3, 3] (by decide) (fc (tsubz (X.length : Int) 1 ((X.length - 1 : Nat) : Int) Tryz.underlying3 (by omega)) f0) (mq_swap (hM.get 0 rfl)) (enters_of Tryz.func239 (by kernel_rfl) rfl) (memK (K := fun u Mn => u = .tuple #[] ∧ Mn = [rw_ reL 2 124 (vL qa50 X.length ca50) ((X.set 0 y51).set (X.length - 1) x51)]) [0] [1] hM rfl rfl (by decide) (fun hm => (swapq_calls hm hx51 hy51))) fun u w1 ⟨Mn, hK, hM⟩ => ?_
  obtain ⟨rfl, rfl⟩ := hK
  refine calM 3 2 12 [(10, .iface 115 (vP q 0)), (11, vI ((X.length - 1 : Nat) : Int))] (K := fun u Mn => (∃ b, u = vB b) ∧ ∃ v' X', X'.Perm ((X.set 0 y51).set (X.length - 1) x51) ∧ Mn = QM q v' X') [] [0, 1] f0 hM rfl rfl (by decide) (fun hm => (down_calls (n := (X.length - 1)) hm (by simp only [List.length_set]; omega) (by simp only [List.length_set]; omega))) fun u Mn w1 hK hM => ?_
  obtain ⟨⟨_, rfl⟩, v52, Y53, hY53, rfl⟩ := hK
  obtain ⟨qa55, ca55, e55, s55⟩ := (hM.src (j := 1) rfl reT.len).op
  subst e55
  have hpm := hY53.trans (swp_perm hx51 hy51)
  have hln := hpm.length_eq
  obtain ⟨Z, x, hZ⟩ : ∃ Z x, Y53 = Z ++ [x] := ⟨_, _, (List.dropLast_concat_getLast (l := Y53) (by intro e; rw [e] at hln; simp only [List.length_set, List.length_nil] at hln; omega)).symm⟩
  subst hZ
  refine inv0 4 1 14 [(13, .iface 115 (vP q 0))] "Pop" #[] (by decide) f0 mq_pop (enters_of Tryz.func237 (by kernel_rfl) rfl) (memK (K := fun u Mn => u = .iface 124 (.agg #[vI (x.1 : Int), vI x.2]) ∧ ∃ v, Mn = QM q v Z) [] [0, 1] hM rfl rfl (by decide) (fun hm => (popq_calls (by simp) hm))) fun u w1 ⟨Mn, hK, hM⟩ => ?_
  obtain ⟨rfl, v56, rfl⟩ := hK
  exact rt1 2 (.iface 124 (.agg #[vI (x.1 : Int), vI x.2])) rfl f0 (hΦ _ _ ⟨_, _, rfl, ⟨x, _, Z, hpm.symm.trans (List.perm_append_comm (l₁ := Z) (l₂ := [x])), rfl, rfl⟩, hM⟩)
end Go.Proofs.YtbflfefahheidaaGreatDoor
/- The least table of a network of arcs: what is reached, and when; over no program. -/
set_option linter.unusedVariables false
set_option linter.unusedSimpArgs false
namespace Go.Pl
open Go.RowKit
/-- A network: its arcs, those that begin at the first node, when one comes to an arc's end, and what may follow. -/
structure NetW where
 n : Nat
 st : Nat → Bool
 ps : Nat → Int → Option Int
 al : Nat → Nat → Bool
structure NetW.Ok (N : NetW) (B : Int) : Prop where
 gt : ∀ {i : Nat} {m x : Int}, i < N.n → 0 ≤ m → N.ps i m = some x → m < x
 mono : ∀ {i : Nat} {m m' x : Int}, 0 ≤ m → m ≤ m' → N.ps i m' = some x → ∃ y, y ≤ x ∧ N.ps i m = some y
 le : ∀ {i : Nat} {m x : Int}, i < N.n → 0 ≤ m → N.ps i m = some x → x ≤ B
/-- An arc's end is reached at a minute. -/
inductive Rch (N : NetW) (m0 : Int) : Nat → Int → Prop
 | base {i : Nat} {x : Int} : i < N.n → N.st i = true → N.ps i m0 = some x → Rch N m0 i x
 | step {i k : Nat} {m x : Int} : Rch N m0 i m → k < N.n → N.al i k = true → N.ps k m = some x → Rch N m0 k x
theorem Rch.lt {N : NetW} {m0 : Int} {i : Nat} {m : Int} (h : Rch N m0 i m) : i < N.n := by cases h <;> assumption
theorem Rch.ge {N : NetW} {B m0 : Int} (hN : N.Ok B) (h0 : 0 ≤ m0) {i : Nat} {m : Int} (h : Rch N m0 i m) : m0 < m := by
 induction h with
 | base h1 h2 h3 => exact hN.gt h1 h0 h3
 | step h1 h2 h3 h4 ih => have := hN.gt h2 (by omega) h4; omega
theorem Rch.le {N : NetW} {B m0 : Int} (hN : N.Ok B) (h0 : 0 ≤ m0) {i : Nat} {m : Int} (h : Rch N m0 i m) : m ≤ B := by
 cases h with
 | base h1 h2 h3 => exact hN.le h1 h0 h3
 | step h1 h2 h3 h4 => exact hN.le h2 (by have := h1.ge hN h0; omega) h4
/-- From another network, with what is not worse. -/
theorem Rch.cmp {N N' : NetW} {B m0 m1 : Int} (hN : N.Ok B) (h0 : 0 ≤ m0) (h1 : 0 ≤ m1) (hN' : N'.Ok B) (hm : m1 ≤ m0) (hn : ∀ i, i < N.n → i < N'.n) (hs : ∀ i, i < N.n → N.st i = true → N'.st i = true) (ha : ∀ i k, i < N.n → k < N.n → N.al i k = true → N'.al i k = true)
  (hp : ∀ {i : Nat} {m x : Int}, i < N.n → 0 ≤ m → N.ps i m = some x → ∃ y, y ≤ x ∧ N'.ps i m = some y) {i : Nat} {m : Int} (h : Rch N m0 i m) : ∃ y, y ≤ m ∧ Rch N' m1 i y := by
 induction h with
 | base a b c =>
  obtain ⟨y, hy, c⟩ := hp a h0 c
  obtain ⟨z, hz, c⟩ := hN'.mono h1 hm c
  exact ⟨z, by omega, .base (hn _ a) (hs _ a b) c⟩
 | step a b c d ih =>
  obtain ⟨u, hu, hr⟩ := ih
  have hg := a.ge hN h0
  obtain ⟨y, hy, d⟩ := hp b (by omega) d
  have hg2 := hr.ge hN' h1
  obtain ⟨z, hz, d⟩ := hN'.mono (by omega) hu d
  exact ⟨z, by omega, .step hr (hn _ b) (ha _ _ a.lt b c) d⟩
/-- The successors of an arc that is reached at a minute are in the table. -/
def Cl (N : NetW) (t : Nat → Option Int) (i : Nat) (m : Int) : Prop := ∀ k, k < N.n → N.al i k = true → ∀ x, N.ps k m = some x → ∃ y, y ≤ x ∧ t k = some y
/-- The table of the earliest minutes. -/
structure Tab (N : NetW) (m0 : Int) (t : Nat → Option Int) : Prop where
 snd : ∀ i m, t i = some m → Rch N m0 i m
 bas : ∀ i, i < N.n → N.st i = true → ∀ x, N.ps i m0 = some x → ∃ y, y ≤ x ∧ t i = some y
 stp : ∀ i m, t i = some m → Cl N t i m
theorem Tab.le {N : NetW} {B m0 : Int} (hN : N.Ok B) (h0 : 0 ≤ m0) {t : Nat → Option Int} (hT : Tab N m0 t) {i : Nat} {m : Int} (h : Rch N m0 i m) : ∃ y, y ≤ m ∧ t i = some y := by
 induction h with
 | base a b c => exact hT.bas _ a b _ c
 | step a b c d ih =>
  obtain ⟨u, hu, ht⟩ := ih
  have hg := (hT.snd _ _ ht).ge hN h0
  obtain ⟨z, hz, d⟩ := hN.mono (by omega) hu d
  obtain ⟨y, hy, e⟩ := hT.stp _ _ ht _ b c _ d
  exact ⟨y, by omega, e⟩
theorem Tab.least {N : NetW} {B m0 : Int} (hN : N.Ok B) (h0 : 0 ≤ m0) {t : Nat → Option Int} (hT : Tab N m0 t) {i : Nat} {m y : Int} (h : Rch N m0 i m) (e : t i = some y) : y ≤ m := by
 obtain ⟨z, hz, e2⟩ := hT.le hN h0 h
 rw [e] at e2; cases e2; exact hz
theorem Tab.uniq {N : NetW} {B m0 : Int} (hN : N.Ok B) (h0 : 0 ≤ m0) {t u : Nat → Option Int} (hT : Tab N m0 t) (hU : Tab N m0 u) : t = u := by
 funext i
 cases ht : t i with
 | none =>
  cases hu : u i with
  | none => rfl
  | some m =>
   obtain ⟨y, _, e⟩ := hT.le hN h0 (hU.snd _ _ hu)
   rw [ht] at e; cases e
 | some m =>
  obtain ⟨y, hy, e⟩ := hU.le hN h0 (hT.snd _ _ ht)
  have := hT.least hN h0 (hU.snd _ _ e) ht
  rw [e]; congr 1; omega
theorem Tab.out {N : NetW} {m0 : Int} {t : Nat → Option Int} (hT : Tab N m0 t) {i : Nat} (h : N.n ≤ i) : t i = none := by
 cases e : t i with
 | none => rfl
 | some m => have := (hT.snd _ _ e).lt; omega
/-! ### how it is found -/
def TLe (t' t : Nat → Option Int) : Prop := ∀ i m, t i = some m → ∃ y, y ≤ m ∧ t' i = some y
theorem TLe.refl (t : Nat → Option Int) : TLe t t := fun i m h => ⟨m, Int.le_refl _, h⟩
theorem TLe.trans {a b c : Nat → Option Int} (h : TLe a b) (k : TLe b c) : TLe a c := fun i m e => by
 obtain ⟨y, hy, e⟩ := k i m e
 obtain ⟨z, hz, e⟩ := h i y e
 exact ⟨z, by omega, e⟩
theorem Cl.mono {N : NetW} {t t' : Nat → Option Int} {i : Nat} {m : Int} (h : Cl N t i m) (k : TLe t' t) : Cl N t' i m := fun j hj ha x hx => by
 obtain ⟨y, hy, e⟩ := h j hj ha x hx
 obtain ⟨z, hz, e⟩ := k j y e
 exact ⟨z, by omega, e⟩
/-- A minute is better than the one in the table. -/
def bet (t : Nat → Option Int) (i : Nat) (x : Int) : Bool := match t i with
 | some o => decide (x < o)
 | none => true
def tput (t : Nat → Option Int) (i : Nat) (x : Int) : Nat → Option Int := fun k => bif Nat.beq k i then some x else t k
theorem tput_same (t : Nat → Option Int) (i : Nat) (x : Int) : tput t i x i = some x := by unfold tput; simp
theorem tput_other (t : Nat → Option Int) {i k : Nat} (x : Int) (h : k ≠ i) : tput t i x k = t k := by
 unfold tput
 rw [show Nat.beq k i = false from by cases e : Nat.beq k i with | false => rfl | true => exact absurd (Nat.eq_of_beq_eq_true e) h]; rfl
theorem tput_le {t : Nat → Option Int} {i : Nat} {x : Int} (h : bet t i x = true) : TLe (tput t i x) t := fun k m e => by
 by_cases hk : k = i
 ·subst hk
  refine ⟨x, ?_, tput_same _ _ _⟩
  unfold bet at h; rw [e] at h
  have := of_decide_eq_true h
  omega
 ·exact ⟨m, Int.le_refl _, by rw [tput_other _ _ hk]; exact e⟩
theorem bet_no {t : Nat → Option Int} {i : Nat} {x : Int} (h : bet t i x = false) : ∃ y, y ≤ x ∧ t i = some y := by
 unfold bet at h
 split at h
 ·rename_i o e
  have := of_decide_eq_false h
  exact ⟨o, by omega, e⟩
 ·cases h
structure TInv (N : NetW) (m0 : Int) (t : Nat → Option Int) (W : List (Nat × Int)) (X : Nat → Int → Prop) : Prop where
 snd : ∀ i m, t i = some m → Rch N m0 i m
 wait : ∀ x ∈ W, Rch N m0 x.1 x.2 ∧ ∃ m, m ≤ x.2 ∧ t x.1 = some m
 don : ∀ i m, t i = some m → (i, m) ∈ W ∨ Cl N t i m ∨ X i m
theorem TInv.nil (N : NetW) (m0 : Int) (X : Nat → Int → Prop) : TInv N m0 (fun _ => none) [] X := ⟨fun _ _ h => (by cases h), fun _ h => (by cases h), fun _ _ h => (by cases h)⟩
theorem TInv.put {N : NetW} {m0 : Int} {t : Nat → Option Int} {W W' : List (Nat × Int)} {X : Nat → Int → Prop} (h : TInv N m0 t W X) {i : Nat} {x : Int} (hb : bet t i x = true) (hr : Rch N m0 i x) (hW : W'.Perm (W ++ [(i, x)])) : TInv N m0 (tput t i x) W' X := by
 have hle := tput_le hb
 refine ⟨fun k m e => ?_, fun y hy => ?_, fun k m e => ?_⟩
 ·by_cases hk : k = i
  ·subst hk; rw [tput_same] at e; cases e; exact hr
  ·rw [tput_other _ _ hk] at e; exact h.snd k m e
 ·rcases List.mem_append.1 (hW.mem_iff.1 hy) with hy | hy
  ·obtain ⟨h1, m, hm, e⟩ := h.wait y hy
   obtain ⟨z, hz, e⟩ := hle _ _ e
   exact ⟨h1, z, by omega, e⟩
  ·rw [List.mem_singleton] at hy; subst hy
   exact ⟨hr, x, Int.le_refl _, tput_same _ _ _⟩
 ·by_cases hk : k = i
  ·subst hk; rw [tput_same] at e; cases e
   exact .inl (hW.mem_iff.2 (by simp))
  ·rw [tput_other _ _ hk] at e
   rcases h.don k m e with h1 | h1 | h1
   ·exact .inl (hW.mem_iff.2 (List.mem_append_left _ h1))
   ·exact .inr (.inl (h1.mono hle))
   ·exact .inr (.inr h1)
theorem TInv.stale {N : NetW} {m0 : Int} {t : Nat → Option Int} {W W' : List (Nat × Int)} {X : Nat → Int → Prop} (h : TInv N m0 t W X) {x : Nat × Int} (hW : W.Perm (x :: W')) {m : Int} (e : t x.1 = some m) (hm : m < x.2) : TInv N m0 t W' X :=
 ⟨h.snd, fun y hy => h.wait y (hW.mem_iff.2 (.tail _ hy)), fun i k ek => by
  rcases h.don i k ek with h1 | h1 | h1
  ·rcases List.mem_cons.1 (hW.mem_iff.1 h1) with h2 | h2
   ·subst h2
    rw [e] at ek; cases ek
    exact absurd hm (Int.lt_irrefl _)
   ·exact .inl h2
  ·exact .inr (.inl h1)
  ·exact .inr (.inr h1)⟩
theorem TInv.pop {N : NetW} {m0 : Int} {t : Nat → Option Int} {W W' : List (Nat × Int)} (h : TInv N m0 t W fun _ _ => False) {x : Nat × Int} (hW : W.Perm (x :: W')) : TInv N m0 t W' fun i m => (i, m) = x :=
 ⟨h.snd, fun y hy => h.wait y (hW.mem_iff.2 (.tail _ hy)), fun i k ek => by
  rcases h.don i k ek with h1 | h1 | h1
  ·rcases List.mem_cons.1 (hW.mem_iff.1 h1) with h2 | h2
   ·exact .inr (.inr h2)
   ·exact .inl h2
  ·exact .inr (.inl h1)
  ·exact h1.elim⟩
theorem TInv.close {N : NetW} {m0 : Int} {t : Nat → Option Int} {W : List (Nat × Int)} {x : Nat × Int} (h : TInv N m0 t W fun i m => (i, m) = x) (hc : Cl N t x.1 x.2) : TInv N m0 t W fun _ _ => False :=
 ⟨h.snd, h.wait, fun i k ek => by
  rcases h.don i k ek with h1 | h1 | h1
  ·exact .inl h1
  ·exact .inr (.inl h1)
  ·cases h1; exact .inr (.inl hc)⟩
theorem TInv.tab {N : NetW} {m0 : Int} {t : Nat → Option Int} (h : TInv N m0 t [] fun _ _ => False) (hb : ∀ i, i < N.n → N.st i = true → ∀ x, N.ps i m0 = some x → ∃ y, y ≤ x ∧ t i = some y) : Tab N m0 t :=
 ⟨h.snd, hb, fun i m e => by
  rcases h.don i m e with h1 | h1 | h1
  ·cases h1
  ·exact h1
  ·exact h1.elim⟩
/-- Successors are done as9 far as9 some of the indices. -/
def ClL (N : NetW) (t : Nat → Option Int) (al : Nat → Bool) (m : Int) (l : List Nat) : Prop := ∀ k ∈ l, al k = true → ∀ x, N.ps k m = some x → ∃ y, y ≤ x ∧ t k = some y
theorem ClL.nil (N : NetW) (t : Nat → Option Int) (al : Nat → Bool) (m : Int) : ClL N t al m [] := fun _ h => (by cases h)
theorem ClL.mono {N : NetW} {t t' : Nat → Option Int} {al : Nat → Bool} {m : Int} {l : List Nat} (h : ClL N t al m l) (k : TLe t' t) : ClL N t' al m l := fun j hj ha x hx => by
 obtain ⟨y, hy, e⟩ := h j hj ha x hx
 obtain ⟨z, hz, e⟩ := k j y e
 exact ⟨z, by omega, e⟩
theorem ClL.snoc {N : NetW} {t : Nat → Option Int} {al : Nat → Bool} {m : Int} {l : List Nat} (h : ClL N t al m l) {k : Nat} (hk : al k = true → ∀ x, N.ps k m = some x → ∃ y, y ≤ x ∧ t k = some y) : ClL N t al m (l ++ [k]) := fun j hj ha x hx => by
 rcases List.mem_append.1 hj with hj | hj
 ·exact h j hj ha x hx
 ·rw [List.mem_singleton] at hj; subst hj; exact hk ha x hx
/-! ### it ends -/
def sumF (f : Nat → Nat) : Nat → Nat
 | 0 => 0
 | n + 1 => sumF f n + f n
theorem sumF_congr {f g : Nat → Nat} : ∀ {n : Nat}, (∀ k, k < n → f k = g k) → sumF f n = sumF g n
 | 0, _ => rfl
 | n + 1, h => by unfold sumF; rw [sumF_congr fun k hk => h k (by omega), h n (by omega)]
theorem sumF_lt {f g : Nat → Nat} {i : Nat} (ho : ∀ k, k ≠ i → f k = g k) (hi : f i < g i) : ∀ {n : Nat}, i < n → sumF f n < sumF g n
 | n + 1, h => by
  unfold sumF
  by_cases e : i = n
  ·subst e; rw [sumF_congr fun k hk => ho k (by omega)]; omega
  ·have := sumF_lt ho hi (n := n) (by omega)
   rw [ho n fun h => e h.symm]; omega
theorem sumF_le {f : Nat → Nat} {b : Nat} (h : ∀ k, f k ≤ b) : ∀ n, sumF f n ≤ n * b
 | 0 => by simp [sumF]
 | n + 1 => by
  have := sumF_le h n; have := h n
  unfold sumF; rw [Nat.succ_mul]; omega
def valT (B : Nat) (t : Nat → Option Int) (i : Nat) : Nat := match t i with
 | some m => min m.toNat B
 | none => B + 1
theorem valT_le (B : Nat) (t : Nat → Option Int) (i : Nat) : valT B t i ≤ B + 1 := by unfold valT; split <;> omega
/-- What is left to be done. -/
def wgt (N : NetW) (B : Nat) (t : Nat → Option Int) : Nat := sumF (valT B t) N.n
theorem wgt_le (N : NetW) (B : Nat) (t : Nat → Option Int) : wgt N B t ≤ N.n * (B + 1) := sumF_le (valT_le B t) _
theorem wgt_put {N : NetW} {B : Nat} {t : Nat → Option Int} {i : Nat} {x : Int} (hi : i < N.n) (hb : bet t i x = true) (h0 : 0 ≤ x) (hB : x ≤ B) (ht : ∀ m, t i = some m → m ≤ B) : wgt N B (tput t i x) < wgt N B t := by
 refine sumF_lt (i := i) (fun k hk => ?_) ?_ hi
 ·unfold valT; rw [tput_other _ _ hk]
 ·unfold valT; rw [tput_same]
  unfold bet at hb
  split at hb
  ·rename_i o e
   have := of_decide_eq_true hb
   have := ht o e
   show min x.toNat B < min o.toNat B
   omega
  ·show min x.toNat B < B + 1
   omega
/-- The table in memory. -/
def tabV (t : Nat → Option Int) : Value → Option Value
 | .int .i64 (.ofNat k) => (t k).map fun m => .int .i64 m
 | _ => none
/-- What a try at an arc does. -/
def TryP (N : NetW) (i : Nat) (mi : Int) (t : Nat → Option Int) (W : List (Nat × Int)) (t' : Nat → Option Int) (W' : List (Nat × Int)) : Prop :=
 (∃ x, N.ps i mi = some x ∧ bet t i x = true ∧ t' = tput t i x ∧ W'.Perm (W ++ [(i, x)])) ∨ ((∀ x, N.ps i mi = some x → bet t i x = false) ∧ t' = t ∧ W' = W)
section
variable {N : NetW} {i : Nat} {mi m0 : Int} {t t' : Nat → Option Int} {W W' : List (Nat × Int)} {X : Nat → Int → Prop}
theorem TryP.inv (h : TryP N i mi t W t' W') (hI : TInv N m0 t W X) (hr : ∀ x, N.ps i mi = some x → Rch N m0 i x) : TInv N m0 t' W' X := by
 rcases h with ⟨x, h1, h2, rfl, h3⟩ | ⟨_, rfl, rfl⟩
 ·exact hI.put h2 (hr x h1) h3
 ·exact hI
theorem TryP.le (h : TryP N i mi t W t' W') : TLe t' t := by
 rcases h with ⟨x, h1, h2, rfl, h3⟩ | ⟨_, rfl, rfl⟩
 ·exact tput_le h2
 ·exact TLe.refl _
theorem TryP.done (h : TryP N i mi t W t' W') : ∀ x, N.ps i mi = some x → ∃ y, y ≤ x ∧ t' i = some y := by
 intro x hx
 rcases h with ⟨x', h1, h2, rfl, h3⟩ | ⟨h1, rfl, rfl⟩
 ·rw [h1] at hx; cases hx; exact ⟨_, Int.le_refl _, tput_same _ _ _⟩
 ·exact bet_no (h1 x hx)
theorem TryP.wgt {B : Nat} (h : TryP N i mi t W t' W') (hN : N.Ok (B : Int)) (h0 : 0 ≤ m0) (hI : TInv N m0 t W X) (hr : ∀ x, N.ps i mi = some x → Rch N m0 i x) : (wgt N B t' = wgt N B t ∧ W'.length = W.length) ∨ (wgt N B t' < wgt N B t ∧ W'.length = W.length + 1) := by
 rcases h with ⟨x, h1, h2, rfl, h3⟩ | ⟨_, rfl, rfl⟩
 ·have hx := hr x h1
  refine .inr ⟨wgt_put hx.lt h2 (by have := hx.ge hN h0; omega) (hx.le hN h0) fun m e => (hI.snd i m e).le hN h0, ?_⟩
  rw [h3.length_eq]; simp
 ·exact .inl ⟨rfl, rfl⟩
end
theorem tabV_at (t : Nat → Option Int) (k : Nat) : tabV t (.int .i64 (k : Int)) = (t k).map fun m => .int .i64 m := rfl
theorem tabV_nil : tabV (fun _ => none) = fun _ => none := by
 funext v
 unfold tabV
 split <;> rfl
theorem tabV_upd (t : Nat → Option Int) (k : Nat) (x : Int) : upd (tabV t) (.int .i64 (k : Int)) (.int .i64 x) = tabV (tput t k x) := by
 funext v
 by_cases e : v = .int .i64 (k : Int)
 ·subst e; rw [upd_same, tabV_at, tput_same]; rfl
 ·rw [upd_other _ e]
  unfold tabV
  split
  ·rename_i j
   rw [tput_other _ _ fun h => e (by rw [h]; rfl)]
  ·rfl
end Go.Pl
/- Tables of minutes. -/
set_option linter.unusedVariables false
set_option linter.unusedSimpArgs false
namespace Go.Proofs.YtbflfefahheidaaGreatDoor
open Go.RowKit Go.Pl
theorem law3 : Maps.Keyed Tryz.prog 3 := Maps.int_keyed Tryz.underlying3
theorem key3 {n : Int} (h : -9223372036854775808 ≤ n ∧ n ≤ 9223372036854775807) : ∃ l, keyOf Tryz.prog 3 (vI n) = some l := ⟨_, Maps.keyOf_int_mk Tryz.underlying3 (by
  show (decide (IntKind.i64.min ≤ n) && decide (n ≤ IntKind.i64.max)) = true
  have h1 : IntKind.i64.min = -9223372036854775808 := by rfl
  have h2 : IntKind.i64.max = 9223372036854775807 := by rfl
  rw [h1, h2]; simp only [Bool.and_eq_true, decide_eq_true_eq]; exact h)⟩
theorem zero3 (w : World) : (zeroValue 3).run Tryz.prog w = .ok (vI 0) w := by kernel_rfl
theorem tab_ok (t : Nat → Option Int) (i : Nat) : (.tuple #[((tabV t) (vI (i : Int))).getD (vI 0), .bool ((tabV t) (vI (i : Int))).isSome] : Value) = .tuple #[vI ((t i).getD 0), vB (t i).isSome] := by
  rw [tabV_at]; cases t i <;> rfl
abbrev tbE (b n : Nat) (t : Nat → Option Int) : Ent := mp Tryz.prog 3 b n (tabV t)
/-- The network of a map for a profile, from a node. -/
def netOf (prof : Bys) (os : List ObR) (from_ : Bys) : NetW where
  n := (AS os).length
  st i := match (AS os)[i]? with | some a => a.1 == from_ | none => false
  ps i m := match (AS os)[i]? with | some a => passP prof os a m | none => none
  al i k := match (AS os)[i]?, (AS os)[k]? with | some a, some b => allowB prof os a b | _, _ => false
theorem less60_calls {w : World} (m n : Int) : Calls Tryz.prog 60 #[vI m, vI n] w fun e w' => e = .returned (vB (decide (m < n))) ∧ Fr (fun _ => False) w w' := by
  refine beg Tryz.func60 rfl rfl [(0, vI m), (1, vI n)] rfl rfl fun Φ hΦ => ?_
  have hM := Mm.nil (fun _ => False) w
  exact rt1 4 (vB (decide (m < n))) rfl f0 (hΦ _ _ ⟨rfl, hM.fr⟩)
theorem tget_calls {w : World} {b n : Nat} {t : Nat → Option Int} (hm : MapN Tryz.prog 3 w b n (tabV t)) {i : Nat} (hi : i ≤ 4000000000000000000) : Calls Tryz.prog 31 #[.agg #[.map (some b)], vI (i : Int)] w fun e w' => e = .returned (.tuple #[vI ((t i).getD 0), vB (t i).isSome]) ∧ Fr (fun _ => False) w w' := by
  refine beg Tryz.func31 rfl rfl [(0, .agg #[.map (some b)]), (1, vI (i : Int))] rfl rfl fun Φ hΦ => ?_
  have hM := Mm.nil (fun _ => False) w
  refine newm 0 0 2 [] (cs := #[.map (some b)]) (T := 73) (v := fun b => vP b 0) f0 hM fun b194 w1 hM => rt2 4 5 (vI ((t i).getD 0)) (vB (t i).isSome) rfl rfl (fc (ldm 71 0 0 hM rfl rfl) (fc (rz2 (lkoN 71 (vI (i : Int)) (vI 0) (hm.fr hM.fr id) law3 Tryz.underlying71 (key3 (by omega)) (zero3 _)) (tab_ok t i)) f0)) (hΦ _ _ ⟨rfl, hM.fr⟩)
theorem better_calls {w : World} {G : Nat → Prop} {b n : Nat} {t : Nat → Option Int} (hM0 : Mm G w w [tbE b n t]) {i : Nat} (hi : i ≤ 4000000000000000000) (x : Int) : Calls Tryz.prog 63 #[.agg #[.map (some b)], vI (i : Int), vI x, .func (.func 60) #[] #[]] w fun e w' => ∃ (u : Value) (Mn : List Ent), e = .returned u ∧ (u = vB (bet t i x) ∧ ∃ n', Mn = [tbE b n' (bif bet t i x then tput t i x else t)]) ∧ Mm G w w' Mn := by
  refine beg Tryz.func63 rfl rfl [(0, .agg #[.map (some b)]), (1, vI (i : Int)), (2, vI x), (3, .func (.func 60) #[] #[])] rfl rfl fun Φ hΦ => ?_
  have hM := hM0
  refine newm 0 0 4 [] (cs := #[.map (some b)]) (T := 73) (v := fun b => vP b 0) f0 hM fun b195 w1 hM => seg 2 2 [(9, vI ((t i).getD 0)), (19, vB (t i).isSome)] (fc (ldm 71 1 0 hM rfl rfl) (fc (rz2 (lkoN 71 (vI (i : Int)) (vI 0) (hM.get 0 rfl) law3 Tryz.underlying71 (key3 (by omega)) (zero3 _)) (tab_ok t i)) f0)) ?_
  cases h196 : (t i).isSome with
  | false =>
   refine mup 4 4 [(27, .map (some b)), (28, vI (i : Int)), (29, vI x)] 71 0 (vI (i : Int)) (vI x) (fc (ldm 71 1 0 hM rfl rfl) f0) hM rfl law3 Tryz.underlying71 (key3 (by omega)) fun w1 hM => ?_
   have hb : bet t i x = true := by
     unfold bet
     cases e : t i with
     | none => simp_all
     | some o => simp_all
   rw [tabV_upd] at hM
   exact rt1 8 (vB true) rfl f0 (hΦ _ _ ⟨_, [tbE b (n + 1) (tput t i x)], rfl, ⟨by rw [hb], _, by rw [hb]; rfl⟩, hM.pick [0]⟩)
  | true =>
   refine calm 2 5 23 [(20, .func (.func 60) #[] #[]), (21, vI x), (22, vI ((t i).getD 0))] f0 hM (less60_calls x ((t i).getD 0)) fun w1 hM => seg 2 8 [(25, vB (!(decide (x < ((t i).getD 0)))))] f0 ?_
   cases h197 : (decide (x < ((t i).getD 0))) with
   | false =>
    have rh197 := df h197
    have hb : bet t i x = false := by
      unfold bet
      cases e : t i with
      | none => simp_all
      | some o => simp_all
    exact rt1 8 (vB false) rfl f0 (hΦ _ _ ⟨_, [tbE b n t], rfl, ⟨by rw [hb], _, by rw [hb]; rfl⟩, hM.pick [0]⟩)
   | true =>
    have rh197 := dt h197
    refine mup 4 4 [(27, .map (some b)), (28, vI (i : Int)), (29, vI x)] 71 0 (vI (i : Int)) (vI x) (fc (ldm 71 1 0 hM rfl rfl) f0) hM rfl law3 Tryz.underlying71 (key3 (by omega)) fun w1 hM => ?_
    have hb : bet t i x = true := by
      unfold bet
      cases e : t i with
      | none => simp_all
      | some o => simp_all
    rw [tabV_upd] at hM
    exact rt1 8 (vB true) rfl f0 (hΦ _ _ ⟨_, [tbE b (n + 1) (tput t i x)], rfl, ⟨by rw [hb], _, by rw [hb]; rfl⟩, hM.pick [0]⟩)
end Go.Proofs.YtbflfefahheidaaGreatDoor
/- The try at an arc. -/
set_option linter.unusedVariables false
set_option linter.unusedSimpArgs false
namespace Go.Proofs.YtbflfefahheidaaGreatDoor
open Go.RowKit Go.Pl
theorem find_vl {r : Int} : ∀ {l : List Sp} {lo : Int}, vl lo l = true → match l.find? (fun s => decide (r < s.2)) with | some s => s ∈ l ∧ r < s.2 ∧ (∀ y, r ≤ y → y < s.1 → ¬ mn l y) | none => ∀ y, r ≤ y → ¬ mn l y := by
  intro l
  induction l with
  | nil => intro lo _ y _ h; exact mn_nil y h
  | cons t l ih =>
    intro lo h
    obtain ⟨h1, h2, h3, h4⟩ := vl_cons.1 h
    by_cases hr : r < t.2
    · rw [List.find?_cons_of_pos (by simpa using hr)]
      refine ⟨by simp, hr, fun y hy1 hy2 hm => ?_⟩
      rcases mn_cons.1 hm with h5 | h5
      · omega
      · have := vl_lo h4 h5; omega
    · rw [List.find?_cons_of_neg (by simpa using hr)]
      have := ih h4
      split at this
      · rename_i s he
        obtain ⟨h5, h6, h7⟩ := this
        refine ⟨by simp [h5], h6, fun y hy1 hy2 hm => ?_⟩
        rcases mn_cons.1 hm with h8 | h8
        · omega
        · exact h7 y hy1 hy2 h8
      · intro y hy1 hm
        rcases mn_cons.1 hm with h8 | h8
        · omega
        · exact this y hy1 h8
theorem next_all {l : List Sp} {m : Int} (hv : vl (-1) l = true) (h0 : 0 ≤ m) (hne : l ≠ []) : m ≤ nextA l m ∧ nextA l m < m + 10080 ∧ mn l (nextA l m % 10080) ∧ ∀ x, m ≤ x → x < nextA l m → ¬ mn l (x % 10080) := by
  have hf := find_vl (r := m % 10080) hv
  have hw := vl_wk (Int.le_refl _) hv
  unfold nextA
  split
  · rename_i s he
    rw [he] at hf
    obtain ⟨h1, h2, h3⟩ := hf
    obtain ⟨w1, w2, w3⟩ := hw s h1
    refine ⟨by omega, by omega, ⟨s, h1, by omega, by omega⟩, fun x hx1 hx2 => ?_⟩
    have := h3 (x % 10080) (by omega) (by omega)
    exact this
  · rename_i he
    rw [he] at hf
    obtain ⟨s, l', rfl⟩ := List.exists_cons_of_ne_nil hne
    obtain ⟨w1, w2, w3⟩ := hw s (by simp)
    have hs : (s :: l').headD (0, 0) = s := rfl
    rw [hs]
    have hlt : s.1 < m % 10080 := by
      rcases Int.lt_or_le s.1 (m % 10080) with h | h
      · exact h
      · exact absurd ⟨s, by simp, Int.le_refl _, w2⟩ (hf s.1 h)
    refine ⟨by omega, by omega, ⟨s, by simp, by omega, by omega⟩, fun x hx1 hx2 hm => ?_⟩
    rcases Int.lt_or_le x (m - m % 10080 + 10080) with h | h
    · exact hf _ (by omega) hm
    · obtain ⟨g1, g2, g3, g4⟩ := vl_cons.1 hv
      rcases mn_cons.1 hm with h5 | h5
      · omega
      · have := vl_lo g4 h5; omega
theorem nextP_mono {l : List Sp} {m m' : Int} (h0 : 0 ≤ m) (hm : m ≤ m') (h : (nextP l m').2 = true) : (nextP l m).2 = true ∧ (nextP l m).1 ≤ (nextP l m').1 := by
  unfold nextP at h ⊢
  split at h
  · rename_i hc
    simp only [Bool.and_eq_true, Bool.not_eq_true'] at hc
    obtain ⟨⟨h1, h2⟩, h3⟩ := hc
    have hb : minuteB m = true := by
      unfold minuteB at h2 ⊢
      simp only [Bool.and_eq_true, decide_eq_true_eq] at h2 ⊢
      omega
    have hne : l ≠ [] := by rintro rfl; cases h3
    rw [h1, h2, hb, h3]
    refine ⟨rfl, ?_⟩
    show nextA l m ≤ nextA l m'
    obtain ⟨a1, _, _, a4⟩ := next_all h1 h0 hne
    obtain ⟨b1, _, b3, _⟩ := next_all h1 (show 0 ≤ m' by omega) hne
    rcases Int.lt_or_le (nextA l m') (nextA l m) with h | h
    · exact absurd b3 (a4 _ (by omega) h)
    · exact h
  · cases h
theorem road_rng {prof : Bys} {os : List ObR} {a : Arc} (ha : a ∈ AS os) : 1 ≤ (roadW prof os a.2.2.1).speed ∧ (roadW prof os a.2.2.1).speed ≤ 9999999 := by
  obtain ⟨b, hb⟩ := way_mem ha
  unfold roadW
  rw [hb]
  exact speed_rng _
theorem takes_rng {len sp : Int} (h1 : 1 ≤ len) (h2 : len < 4294967296) (h3 : 1 ≤ sp) (h4 : sp ≤ 9999999) : 1 ≤ (len + sp - 1) / sp ∧ (len + sp - 1) / sp ≤ 4304967296 := by
  refine ⟨Int.le_ediv_of_mul_le (by omega) (by omega), ?_⟩
  have := Int.ediv_le_self (a := len + sp - 1) sp (by omega)
  omega
theorem passP_gt {prof : Bys} {os : List ObR} {a : Arc} (ha : a ∈ AS os) (hb : ArcB a) {m x : Int} (h0 : 0 ≤ m) (h : passP prof os a m = some x) : m < x ∧ x ≤ 6000000000 := by
  have hr := road_rng (prof := prof) ha
  unfold passP at h
  simp only at h
  generalize roadW prof os a.2.2.1 = r at h hr
  have ht := takes_rng hb.pos hb.lt hr.1 hr.2
  cases h1 : (r.closed || (r.oneway && !fwd a.1 a.2.1 r.refs) || decide (1000000000 < m)) with
  | true => rw [h1] at h; cases h
  | false =>
    rw [h1] at h
    simp only [Bool.or_eq_false_iff, decide_eq_false_iff_not] at h1
    cases h2 : r.limited with
    | false =>
      rw [h2] at h
      simp only [cond_false, Option.some.injEq] at h
      omega
    | true =>
      rw [h2] at h
      cases h3 : (!((nextP r.hours m).2) || decide (1000000000 < (nextP r.hours m).1)) with
      | true => rw [h3] at h; cases h
      | false =>
        rw [h3] at h
        simp only [cond_true, cond_false, Option.some.injEq] at h
        simp only [Bool.or_eq_false_iff, decide_eq_false_iff_not, Bool.not_eq_false'] at h3
        have := nextP_ge h3.1
        omega
theorem passP_mono {prof : Bys} {os : List ObR} {a : Arc} {m m' x : Int} (h0 : 0 ≤ m) (hm : m ≤ m') (h : passP prof os a m' = some x) : ∃ y, y ≤ x ∧ passP prof os a m = some y := by
  unfold passP at h ⊢
  simp only at h ⊢
  generalize roadW prof os a.2.2.1 = r at h
  cases h1 : (r.closed || (r.oneway && !fwd a.1 a.2.1 r.refs) || decide (1000000000 < m')) with
  | true => rw [h1] at h; cases h
  | false =>
    rw [h1] at h
    have h1' : (r.closed || (r.oneway && !fwd a.1 a.2.1 r.refs) || decide (1000000000 < m)) = false := by
      simp only [Bool.or_eq_false_iff, decide_eq_false_iff_not] at h1 ⊢
      exact ⟨h1.1, by omega⟩
    rw [h1']
    cases h2 : r.limited with
    | false =>
      rw [h2] at h
      simp only [cond_false, Option.some.injEq] at h ⊢
      exact ⟨_, by omega, rfl⟩
    | true =>
      rw [h2] at h
      cases h3 : (!((nextP r.hours m').2) || decide (1000000000 < (nextP r.hours m').1)) with
      | true => rw [h3] at h; cases h
      | false =>
        rw [h3] at h
        simp only [Bool.or_eq_false_iff, decide_eq_false_iff_not, Bool.not_eq_false'] at h3
        obtain ⟨n1, n2⟩ := nextP_mono h0 hm h3.1
        have h4 : (!((nextP r.hours m).2) || decide (1000000000 < (nextP r.hours m).1)) = false := by
          rw [n1]; simp only [Bool.not_true, Bool.false_or, decide_eq_false_iff_not]; omega
        rw [h4]
        simp only [cond_true, cond_false, Option.some.injEq] at h ⊢
        exact ⟨_, by omega, rfl⟩
theorem netOf_ok {prof : Bys} {os : List ObR} (hok : ∀ a ∈ AS os, ArcB a) (f : Bys) : (netOf prof os f).Ok 6000000000 := by
  refine ⟨fun {i m x} hi h0 h => ?_, fun {i m m' x} h0 hm h => ?_, fun {i m x} hi h0 h => ?_⟩
  · obtain ⟨a, ha⟩ := geb (l := AS os) (i := i) hi
    have h : (match (AS os)[i]? with | some a => passP prof os a m | none => none) = some x := h
    rw [ha] at h
    exact (passP_gt (gm ha) (hok a (gm ha)) h0 h).1
  · have h : (match (AS os)[i]? with | some a => passP prof os a m' | none => none) = some x := h
    show ∃ y, y ≤ x ∧ (match (AS os)[i]? with | some a => passP prof os a m | none => none) = some y
    cases ha : (AS os)[i]? with
    | none => rw [ha] at h; cases h
    | some a => rw [ha] at h; exact passP_mono h0 hm h
  · obtain ⟨a, ha⟩ := geb (l := AS os) (i := i) hi
    have h : (match (AS os)[i]? with | some a => passP prof os a m | none => none) = some x := h
    rw [ha] at h
    exact (passP_gt (gm ha) (hok a (gm ha)) h0 h).2
theorem idxs_at {l : List Arc} {s : Bys} {j : Nat} {z : Int} (h : (idxs l s)[j]? = some z) : ∃ k a, z = ((k : Nat) : Int) ∧ l[k]? = some a ∧ a.1 = s := by
  have h := List.mem_of_getElem? h
  unfold idxs at h
  obtain ⟨⟨a, k⟩, hx, rfl⟩ := List.mem_map.1 h
  obtain ⟨h1, h2⟩ := List.mem_filter.1 hx
  exact ⟨k, a, rfl, List.mk_mem_zipIdx_iff_getElem?.1 h1, by simpa using h2⟩
theorem idxs_mem {l : List Arc} {s : Bys} {k : Nat} {a : Arc} (h : l[k]? = some a) (hs : a.1 = s) : k ∈ (idxs l s).map Int.toNat := by
  unfold idxs
  rw [List.map_map, List.mem_map]
  exact ⟨(a, k), List.mem_filter.2 ⟨List.mk_mem_zipIdx_iff_getElem?.2 h, by simpa using hs⟩, rfl⟩
theorem StF.frB {wS w w' : World} {G : Nat → Prop} {bs ca bo br bb no nr nb : Nat} {qa : Option Addr} {prof : Bys} {os : List ObR} {T : OutT} {T2 : RdT} (h : StF wS bs ca bo br bb no nr nb qa prof os T T2) (hf : Fr (fun _ => False) wS w) (hG : ∀ k, G k → wS.heap.size ≤ k) (f : Fr G w w') : StF w' bs ca bo br bb no nr nb qa prof os T T2 :=
  h.fr (hf.trans' f fun r hr hg => by have := hG r hg; omega)
theorem pass2_calls {w : World} {bs ca bo br bb no nr nb : Nat} {qa : Option Addr} {prof : Bys} {os : List ObR} {T : OutT} {T2 : RdT} (hS : StF w bs ca bo br bb no nr nb qa prof os T T2) (hT2 : T2.map (·.1) = waysR os) (f : Bys) {i : Nat} (hi : i < (AS os).length) {mi : Int} (hm0 : 0 ≤ mi) (hm1 : mi ≤ 4000000000000000000) : Calls Tryz.prog 62 #[vP bs 0, vI (i : Int), vI mi] w fun e w' => e = .returned (.tuple #[vI (((netOf prof os f).ps i mi).getD 0), vB ((netOf prof os f).ps i mi).isSome]) ∧ Fr (fun _ => False) w w' :=
  (pass_calls hS hT2 hi hm0 hm1).mono fun e w' ⟨⟨a, ha, he⟩, h⟩ => ⟨by
    have e2 : (netOf prof os f).ps i mi = passP prof os a mi := by
      show (match (AS os)[i]? with | some a => passP prof os a mi | none => none) = _
      rw [ha]
    rw [he, e2]
    exact (match passP prof os a mi with | none => rfl | some _ => rfl), h⟩
theorem allow2_calls {w : World} {bs ca bo br bb no nr nb : Nat} {qa : Option Addr} {prof : Bys} {os : List ObR} {T : OutT} {T2 : RdT} (hS : StF w bs ca bo br bb no nr nb qa prof os T T2) (f : Bys) {i k : Nat} (hi : i < (AS os).length) (hk : k < (AS os).length) : Calls Tryz.prog 66 #[vP bs 0, vI (i : Int), vI (k : Int)] w fun e w' => e = .returned (vB ((netOf prof os f).al i k)) ∧ Fr (fun _ => False) w w' :=
  (allowed_calls hS hi hk).mono fun e w' ⟨⟨a, b, ha, hb, he⟩, h⟩ => ⟨by
    have e2 : (netOf prof os f).al i k = allowB prof os a b := by
      show (match (AS os)[i]?, (AS os)[k]? with | some a, some b => allowB prof os a b | _, _ => false) = _
      rw [ha, hb]
    rw [he, e2], h⟩
/-- What earliest owns. -/
abbrev TM (c3 bs c7 b c8 c9 q n : Nat) (t : Nat → Option Int) (v : Value) (X : List (Nat × Int)) : List Ent :=
  [bk c3 #[vP bs 0] 69, bk c7 #[.map (some b)] 73, bk c8 #[.func (.func 60) #[] #[]] 92, bk c9 #[.iface 115 (vP q 0)] 119, tbE b n t, bk q #[v] 117, rw_ reL 2 124 v X]
theorem try_calls {wS w : World} {G : Nat → Prop} {bs ca bo br bb no nr nb : Nat} {qa : Option Addr} {prof : Bys} {os : List ObR} {T : OutT} {T2 : RdT} (hS : StF wS bs ca bo br bb no nr nb qa prof os T T2) (hT2 : T2.map (·.1) = waysR os) (f : Bys) (hf : Fr (fun _ => False) wS w) (hG : ∀ k, G k → wS.heap.size ≤ k) {c3 c7 b c8 c9 q n : Nat} {t : Nat → Option Int} {v : Value} {X : List (Nat × Int)} (hM0 : Mm G w w (TM c3 bs c7 b c8 c9 q n t v X)) (hl : X.length < 1500000000000) {i : Nat} (hi : i < (AS os).length) (hi2 : (AS os).length ≤ 400000000) {mi : Int} (hm0 : 0 ≤ mi) (hm1 : mi ≤ 4000000000000000000) : Calls Tryz.prog 61 #[vI (i : Int), vI mi, vP c3 0, vP c7 0, vP c8 0, vP c9 0] w fun e w' => ∃ (u : Value) (Mn : List Ent), e = .returned u ∧ (u = .tuple #[] ∧ ∃ n' t' v' X', TryP (netOf prof os f) i mi t X t' X' ∧ Mn = TM c3 bs c7 b c8 c9 q n' t' v' X') ∧ Mm G w w' Mn := by
  obtain ⟨o, ho⟩ : ∃ o, o = (netOf prof os f).ps i mi := ⟨_, rfl⟩
  refine beg Tryz.func61 rfl rfl [(0, vI (i : Int)), (1, vI mi), (2, vP c3 0), (3, vP c7 0), (4, vP c8 0), (5, vP c9 0)] rfl rfl fun Φ hΦ => ?_
  have hM := hM0
  refine calm 0 3 14 [(11, vP bs 0), (12, vI (i : Int)), (13, vI mi)] (fc (ldm 69 0 0 hM rfl rfl) f0) hM (ho ▸ pass2_calls (hS.frB hf hG hM.fr) hT2 f hi hm0 hm1) fun w1 hM => seg 1 2 [(8, vI (o.getD 0)), (18, vB o.isSome)] f0 ?_
  cases h198 : o.isSome with
  | false =>
   have hn : o = none := by cases o with | none => rfl | some x => cases h198
   exact rt0 rfl f0 (hΦ _ _ ⟨_, TM c3 bs c7 b c8 c9 q n t v X, rfl, ⟨rfl, _, _, _, _, .inr ⟨fun x hx => (by rw [← ho, hn] at hx; cases hx), rfl, rfl⟩, rfl⟩, hM.pick [0, 1, 2, 3, 4, 5, 6]⟩)
  | true =>
   refine calM 1 6 23 [(19, .agg #[.map (some b)]), (20, vI (i : Int)), (21, vI (o.getD 0)), (22, .func (.func 60) #[] #[])] (K := fun u Mn => u = vB (bet t i (o.getD 0)) ∧ ∃ n', Mn = [tbE b n' (bif bet t i (o.getD 0) then tput t i (o.getD 0) else t)]) [0, 1, 2, 3, 5, 6] [4] (fc (lam 73 1 0 1 hM rfl) (fc (ldm 92 2 0 hM rfl rfl) f0)) hM rfl rfl (by decide) (fun hm => (better_calls hm (by omega) (o.getD 0))) fun u Mn w1 hK hM => ?_
   obtain ⟨rfl, n199, rfl⟩ := hK
   refine seg 1 8 [(24, vB (bet t i (o.getD 0)))] f0 ?_
   cases h200 : (bet t i (o.getD 0)) with
   | false =>
    obtain ⟨x, hx⟩ := Option.isSome_iff_exists.1 h198
    have hx0 : o.getD 0 = x := by rw [hx]; rfl
    rw [h200] at hM
    exact rt0 rfl f0 (hΦ _ _ ⟨_, TM c3 bs c7 b c8 c9 q n199 t v X, rfl, ⟨rfl, _, _, _, _, .inr ⟨fun y hy => (by rw [← ho, hx] at hy; cases hy; rw [← hx0]; exact h200), rfl, rfl⟩, rfl⟩, hM.pick [0, 1, 2, 3, 6, 4, 5]⟩)
   | true =>
    refine calM 2 5 30 [(25, .iface 115 (vP q 0)), (29, .iface 124 (.agg #[vI (i : Int), vI (o.getD 0)]))] (K := fun u Mn => u = .tuple #[] ∧ ∃ v' X', X'.Perm (X ++ [(i, o.getD 0)]) ∧ Mn = QM q v' X') [0, 1, 2, 3, 6] [4, 5] (fc (ldm 119 3 0 hM rfl rfl) f0) hM rfl rfl (by decide) (fun hm => (hpush_calls hm hl (i, o.getD 0))) fun u Mn w1 hK hM => ?_
    obtain ⟨rfl, v2, X2, hX2, rfl⟩ := hK
    obtain ⟨x, hx⟩ := Option.isSome_iff_exists.1 h198
    have hx0 : o.getD 0 = x := by rw [hx]; rfl
    rw [h200] at hM
    exact rt0 rfl f0 (hΦ _ _ ⟨_, TM c3 bs c7 b c8 c9 q n199 (tput t i (o.getD 0)) v2 X2, rfl, ⟨rfl, _, _, _, _, .inl ⟨o.getD 0, by rw [← ho, hx0]; exact hx, h200, rfl, hX2⟩, rfl⟩, hM.pick [0, 1, 2, 3, 4, 5, 6]⟩)
end Go.Proofs.YtbflfefahheidaaGreatDoor
/- The earliest minutes of all arcs. -/
set_option linter.unusedVariables false
set_option linter.unusedSimpArgs false
namespace Go.Proofs.YtbflfefahheidaaGreatDoor
open Go.RowKit Go.Pl
theorem lit0_ {α : Type} {f : α → List Value} {c E : Nat} {F0 : Nat → Prop} {w0 w : World} {M : List Ent} (h : Mm F0 w0 w M) {j b : Nat} (hj : M[j]? = some (bk b #[] E)) : Mm F0 w0 w (M.set j (rw_ f c E (vL (some ⟨b, 0, none⟩) 0 0) [])) :=
  h.put j hj (Fr.refl (fun _ => False) _) (fun _ _ h => h.elim) (show ow f c E w 0 _ [] from ⟨by simp, .inr ⟨b, 0, #[], rfl, Nat.zero_le _, h.get j hj, Nat.le_refl _, by unfold maxLen; omega, by simp, by simp⟩⟩) fun k e => .inl (by
    have e : some b = some k := e
    exact (Option.some.inj e).symm)
theorem out_src {w : World} {bs ca bo br bb no nr nb : Nat} {qa : Option Addr} {prof : Bys} {os : List ObR} {T : OutT} {T2 : RdT} (hS : StF w bs ca bo br bb no nr nb qa prof os T T2) (hTr : ∀ s, rowOf T s = idxs (AS os) s) (s : Bys) : ∃ p c, (outF T (vS s)).getD (vL none 0 0) = vL p (idxs (AS os) s).length c ∧ SrcP inL 1 w p c (idxs (AS os) s) := by
  have h := hTr s
  unfold rowOf at h
  rw [outF_at]
  cases hf : T.find? (fun x => x.1 == s) with
  | none =>
    rw [hf] at h
    have h : ([] : List Int) = idxs (AS os) s := h
    rw [← h]
    obtain ⟨p, c, h1, h2⟩ := (Src.nil (f := inL) (c := 1) w).op
    exact ⟨p, c, h1, h2⟩
  | some x =>
    rw [hf] at h
    have h : x.2.2 = idxs (AS os) s := h
    rw [← h]
    exact (hS.rows x (List.mem_of_find?_eq_some hf)).op
theorem netOf_st {prof : Bys} {os : List ObR} {f : Bys} {k : Nat} {a : Arc} (h : (AS os)[k]? = some a) (hf : a.1 = f) : (netOf prof os f).st k = true := by
  show (match (AS os)[k]? with | some a => a.1 == f | none => false) = true
  rw [h]; simpa using hf
theorem netOf_bas {prof : Bys} {os : List ObR} {f : Bys} {t : Nat → Option Int} {m0 : Int} (h : ClL (netOf prof os f) t (fun _ => true) m0 ((idxs (AS os) f).map Int.toNat)) : ∀ i, i < (netOf prof os f).n → (netOf prof os f).st i = true → ∀ x, (netOf prof os f).ps i m0 = some x → ∃ y, y ≤ x ∧ t i = some y := by
  intro i hi hs x hx
  obtain ⟨a, ha⟩ := geb (l := AS os) (i := i) hi
  have hs : (match (AS os)[i]? with | some a => a.1 == f | none => false) = true := hs
  rw [ha] at hs
  exact h i (idxs_mem ha (by simpa using hs)) rfl x hx
theorem netOf_cl {prof : Bys} {os : List ObR} {f : Bys} {t : Nat → Option Int} {i : Nat} {m : Int} {a : Arc} (ha : (AS os)[i]? = some a) (h : ClL (netOf prof os f) t ((netOf prof os f).al i) m ((idxs (AS os) a.2.1).map Int.toNat)) : Cl (netOf prof os f) t i m := by
  intro k hk hal x hx
  obtain ⟨b, hb⟩ := geb (l := AS os) (i := k) hk
  have h2 : (match (AS os)[i]?, (AS os)[k]? with | some a, some b => allowB prof os a b | _, _ => false) = true := hal
  rw [ha, hb] at h2
  unfold allowB at h2
  simp only [Bool.and_eq_true] at h2
  exact h k (idxs_mem hb (et h2.1).symm) hal x hx
abbrev A30 (Φ : Ending → World → Prop) := AtO Tryz.prog (bodyOf Tryz.f30) (whole (bodyPost Tryz.prog Tryz.f30 Φ)) [] 88
theorem earliest_calls {w : World} {bs ca bo br bb no nr nb : Nat} {qa : Option Addr} {prof : Bys} {os : List ObR} {T : OutT} {T2 : RdT} (hS : StF w bs ca bo br bb no nr nb qa prof os T T2) (hT2 : T2.map (·.1) = waysR os) (hTr : ∀ s, rowOf T s = idxs (AS os) s) (hn : (AS os).length ≤ 240) {f : Bys} (hf63 : B63 f) {m0 : Int} (h0 : 0 ≤ m0) (h1 : m0 ≤ 1000000000000) : Calls Tryz.prog 30 #[vP bs 0, vS f, vI m0] w fun e w' => ∃ b n t, e = .returned (.agg #[.map (some b)]) ∧ Tab (netOf prof os f) m0 t ∧ Mm (fun _ => False) w w' [tbE b n t] := by
  have bb9 := hS.arcs.bnd
  have hNo := netOf_ok (prof := prof) hS.ok f
  obtain ⟨po, co, eo, so⟩ := out_src hS hTr f
  have bso := so.bnd
  obtain ⟨W0, hW0⟩ : ∃ z, z = (AS os).length * 6000000001 := ⟨_, rfl⟩
  refine beg Tryz.func30 rfl rfl [(0, vP bs 0), (1, vS f), (2, vI m0)] rfl rfl fun Φ hΦ => ?_
  have hM := Mm.nil (fun _ => False) w
  refine newm 0 0 3 [] (cs := #[vP bs 0]) (T := 69) (v := fun b => vP b 0) f0 hM fun b201 w1 hM => newm 0 1 6 [] (cs := #[.map none]) (T := 73) (v := fun b => vP b 0) f0 hM fun b202 w1 hM => newmp 1 0 18 [] 3 f0 hM fun b203 w1 hM => varm 1 2 7 [(19, .agg #[.map (some b203)])] [] 73 (.agg #[.map (some b203)]) f0 hM fun b204 w1 hM => varm 2 0 8 [] [] 92 (.func (.func 60) #[] #[]) f0 hM fun b205 w1 hM => newm 3 0 20 [] (cs := #[]) (T := 124) (v := fun b => vL (some ⟨b, 0, none⟩) 0 0) f0 hM fun b206 w1 hM => newm 3 1 21 [] (cs := #[vL (some ⟨b206, 0, none⟩) 0 0]) (T := 117) (v := fun b => vP b 0) f0 hM fun b207 w1 hM => varm 3 3 9 [(22, .iface 115 (vP b207 0))] [] 119 (.iface 115 (vP b207 0)) f0 hM fun b208 w1 hM => ?_
  have hM := lit0_ hM (f := reL) (c := 2) (j := 5) rfl
  refine seg 6 0 [(10, .func (.func 61) #[] #[vP b201 0, vP b204 0, vP b205 0, vP b208 0]), (29, vL po (idxs (AS os) f).length co), (30, vI ((idxs (AS os) f).length : Int)), (31, vI 0)] (fc (ldm 69 0 0 hM rfl rfl) (fc (ld0 76 hM (bx hS.blk 2 rfl)) (fc (rz2 (lkN 76 (vS f) (vL none 0 0) (hS.out.fr hM.fr id) law9 Tryz.underlying76 (key9 hf63) (zero29 _)) eo) f0))) ?_
  have lp209 : ∀ (m211 : Nat) (n1 : Nat) (t1 : Nat → Option Int) (v1 : Value) (X1 : List (Nat × Int)) (j : Nat) (w2 : World), TInv (netOf prof os f) m0 t1 X1 (fun _ _ => False) → ClL (netOf prof os f) t1 (fun _ => true) m0 (((idxs (AS os) f).take j).map Int.toNat) → j ≤ (idxs (AS os) f).length → wgt (netOf prof os f) 6000000000 t1 + X1.length ≤ W0 → Mm (fun _ => False) w w2 [bk b202 #[.map none] 73, bk b201 #[vP bs 0] 69, bk b204 #[.map (some b203)] 73, bk b205 #[.func (.func 60) #[] #[]] 92, bk b208 #[.iface 115 (vP b207 0)] 119, mp Tryz.prog 3 b203 n1 (tabV t1), bk b207 #[v1] 117, rw_ reL 2 124 v1 X1] → m211 = (idxs (AS os) f).length - j → A30 Φ (some (6, 0)) [(31, vI (j : Int)), (30, vI ((idxs (AS os) f).length : Int)), (29, vL po (idxs (AS os) f).length co), (10, .func (.func 61) #[] #[vP b201 0, vP b204 0, vP b205 0, vP b208 0]), (9, vP b208 0), (7, vP b204 0), (6, vP b202 0), (3, vP b201 0), (2, vI m0)] w2 := by
   refine srec fun m211 ih210 n1 t1 v1 X1 j w2 hI hC hj hw hM hm211 => seg 6 1 [(32, vB (decide ((j : Int) < ((idxs (AS os) f).length : Int))))] f0 ?_
   cases h212 : (decide ((j : Int) < ((idxs (AS os) f).length : Int))) with
   | false =>
    have rh212 := df h212
    rw [show (idxs (AS os) f).take j = idxs (AS os) f from List.take_of_length_le (by omega)] at hC
    refine seg 10 0 [] f0 ?_
    have lp213 : ∀ (m215 : Nat) (n4 : Nat) (t4 : Nat → Option Int) (v4 : Value) (X4 : List (Nat × Int)) (w2 : World), TInv (netOf prof os f) m0 t4 X4 (fun _ _ => False) → ClL (netOf prof os f) t4 (fun _ => true) m0 ((idxs (AS os) f).map Int.toNat) → wgt (netOf prof os f) 6000000000 t4 + X4.length ≤ W0 → Mm (fun _ => False) w w2 [bk b202 #[.map none] 73, bk b201 #[vP bs 0] 69, bk b204 #[.map (some b203)] 73, bk b205 #[.func (.func 60) #[] #[]] 92, bk b208 #[.iface 115 (vP b207 0)] 119, mp Tryz.prog 3 b203 n4 (tabV t4), bk b207 #[v4] 117, rw_ reL 2 124 v4 X4] → m215 = 2 * wgt (netOf prof os f) 6000000000 t4 + X4.length → A30 Φ (some (10, 0)) [(10, .func (.func 61) #[] #[vP b201 0, vP b204 0, vP b205 0, vP b208 0]), (9, vP b208 0), (7, vP b204 0), (6, vP b202 0), (3, vP b201 0)] w2 := by
     refine srec fun m215 ih214 n4 t4 v4 X4 w2 hI hC hw hM hm215 => ?_
     obtain ⟨qb216, cb216, e216, s216⟩ := (hM.src (j := 7) rfl reT.len).op
     subst e216
     refine inv0 10 1 41 [(40, .iface 115 (vP b207 0))] "Len" #[] (by decide) (fc (ldm 119 4 0 hM rfl rfl) f0) (mq_len (hM.get 6 rfl)) (enters_of Tryz.func235 (by kernel_rfl) rfl) (valK lenq_calls) fun u w1 ⟨hu, f1⟩ => ?_
     subst hu
     have hM := hM.q f1
     refine seg 10 3 [(42, vB (decide (0 < (X4.length : Int))))] f0 ?_
     cases h217 : (decide (0 < (X4.length : Int))) with
     | false =>
      have rh217 := df h217
      refine stm 20 1 [(87, .agg #[.map (some b203)])] 73 0 0 (.agg #[.map (some b203)]) (fc (lam 73 2 0 1 hM rfl) f0) hM rfl fun w1 hM => ?_
      have hX0 : X4 = [] := List.eq_nil_of_length_eq_zero (by omega)
      rw [hX0] at hI
      exact rtc 6 73 rfl (run_loadW 73 0 hM rfl rfl) f0 (hΦ _ _ ⟨_, _, t4, rfl, hI.tab (netOf_bas hC), hM.pick [5]⟩)
     | true =>
      have rh217 := dt h217
      refine calM 11 1 44 [(43, .iface 115 (vP b207 0))] (K := fun u Mn => ∃ x v' X', X4.Perm (x :: X') ∧ u = .iface 124 (.agg #[vI (x.1 : Int), vI x.2]) ∧ Mn = QM b207 v' X') [0, 1, 2, 3, 4, 5] [6, 7] (fc (ldm 119 4 0 hM rfl rfl) f0) hM rfl rfl (by decide) (fun hm => (hpop_calls hm (by omega) (by omega))) fun u Mn w1 hK hM => ?_
      obtain ⟨x, v5, X5, hXp, rfl, rfl⟩ := hK
      have hln := hXp.length_eq
      rw [List.length_cons] at hln
      obtain ⟨hrx, m9, hm9, hx9⟩ := hI.wait x (hXp.mem_iff.2 (.head _))
      have hx1 : x.1 < (AS os).length := hrx.lt
      have hgx := hrx.ge hNo h0
      have hlx := hrx.le hNo h0
      have hx2 : t4 x.1 = some m9 := hx9
      have hM := hM.pick [0, 1, 2, 3, 4, 5, 6, 7]
      refine varm 11 3 13 [(45, .agg #[vI (x.1 : Int), vI x.2])] [] 124 (.agg #[vI (x.1 : Int), vI x.2]) f0 hM fun b218 w1 hM => calm 12 3 50 [(47, .agg #[.map (some b203)]), (49, vI (x.1 : Int))] (fc (lam 73 2 0 1 hM rfl) (fc (ldm 3 8 0 hM rfl rfl) f0)) hM (tget_calls (hM.get 5 rfl) (i := x.1) (by omega)) fun w1 hM => seg 13 4 [(56, vB (decide (((t4 x.1).getD 0) < x.2)))] (fc (ldm 3 8 1 hM rfl rfl) f0) ?_
      cases h219 : (decide (((t4 x.1).getD 0) < x.2)) with
      | false =>
       have rh219 := df h219
       have hxe : m9 = x.2 := by
         have := df h219
         rw [hx2] at this
         have : ¬ m9 < x.2 := this
         omega
       obtain ⟨a, ha, g220, o220, q220, r220⟩ := hS.arcs.el (i := x.1) (by omega)
       obtain ⟨po2, co2, eo2, so2⟩ := out_src hS hTr a.2.1
       have bso2 := so2.bnd
       refine seg 14 0 [] f0 ?_
       have hM := hM.q ((Fr.refl _ _).drew)
       refine drq [(70, vL po2 (idxs (AS os) a.2.1).length co2), (71, vI ((idxs (AS os) a.2.1).length : Int)), (72, vI 0)] rfl (fc (ldm 69 1 0 hM rfl rfl) (fc (ld0 76 hM (bx hS.blk 2 rfl)) (fc (ldm 69 1 0 hM rfl rfl) (fc (ld0 75 hM (bx hS.blk 1 rfl)) (fc (ldm 3 8 0 hM rfl rfl) (fc (ix 75 ca q220 (gl ha)) (fc (ld0 9 hM (r220 1 _ rfl)) (fc (rz2 (lkN 76 (vS a.2.1) (vL none 0 0) (hS.out.fr hM.fr id) law9 Tryz.underlying76 (key9 (hS.ok a (gm ha)).f2) (zero29 _)) eo2) f0)))))))) (seg 15 0 [] f0 ?_)
       have lp221 : ∀ (m223 : Nat) (n3 : Nat) (t3 : Nat → Option Int) (v3 : Value) (X3 : List (Nat × Int)) (j3 : Nat) (w2 : World), TInv (netOf prof os f) m0 t3 X3 (fun i m => (i, m) = x) → ClL (netOf prof os f) t3 (fun _ => true) m0 ((idxs (AS os) f).map Int.toNat) → ClL (netOf prof os f) t3 ((netOf prof os f).al x.1) x.2 (((idxs (AS os) a.2.1).take j3).map Int.toNat) → j3 ≤ (idxs (AS os) a.2.1).length → wgt (netOf prof os f) 6000000000 t3 + X3.length ≤ W0 → 2 * wgt (netOf prof os f) 6000000000 t3 + X3.length < m215 → Mm (fun _ => False) w w2 [bk b202 #[.map none] 73, bk b218 #[vI (x.1 : Int), vI x.2] 124, bk b201 #[vP bs 0] 69, bk b204 #[.map (some b203)] 73, bk b205 #[.func (.func 60) #[] #[]] 92, bk b208 #[.iface 115 (vP b207 0)] 119, mp Tryz.prog 3 b203 n3 (tabV t3), bk b207 #[v3] 117, rw_ reL 2 124 v3 X3] → m223 = (idxs (AS os) a.2.1).length - j3 → A30 Φ (some (15, 0)) [(72, vI (j3 : Int)), (71, vI ((idxs (AS os) a.2.1).length : Int)), (70, vL po2 (idxs (AS os) a.2.1).length co2), (13, vP b218 0), (10, .func (.func 61) #[] #[vP b201 0, vP b204 0, vP b205 0, vP b208 0]), (9, vP b208 0), (7, vP b204 0), (6, vP b202 0), (3, vP b201 0)] w2 := by
        refine srec fun m223 ih222 n3 t3 v3 X3 j3 w2 hI3 hC3 hD hj3 hw3 hmu hM hm223 => seg 15 1 [(73, vB (decide ((j3 : Int) < ((idxs (AS os) a.2.1).length : Int))))] f0 ?_
        cases h224 : (decide ((j3 : Int) < ((idxs (AS os) a.2.1).length : Int))) with
        | false =>
         have rh224 := df h224
         refine seg 10 0 [] f0 ?_
         have hM := hM.pick [0, 2, 3, 4, 5, 6, 7, 8]
         exact fewer _ (ih214 _ (by omega) n3 t3 v3 X3 _ (hI3.close (netOf_cl ha (by rw [List.take_of_length_le (by omega)] at hD; exact hD))) hC3 hw3 hM rfl)
        | true =>
         have rh224 := dt h224
         obtain ⟨z, hz, g225, o225, q225, r225⟩ := so2.el (i := j3) (by omega)
         obtain ⟨k, b, ek, hk, hb⟩ := idxs_at hz
         subst ek
         have hkl := gl hk
         refine calm 17 4 80 [(17, vI (k : Int)), (76, vP bs 0), (78, vI (x.1 : Int)), (79, vI (k : Int))] (fc (ix 29 co2 q225 (gl hz)) (fc (ld0 3 hM (r225 0 _ rfl)) (fc (ldm 69 2 0 hM rfl rfl) (fc (ldm 3 1 0 hM rfl rfl) f0)))) hM (allow2_calls (hS.fr hM.fr) f hx1 hkl) fun w1 hM => ?_
         cases h226 : ((netOf prof os f).al x.1 k) with
         | false =>
          refine seg 15 0 [(72, vI ((j3 : Int) + 1))] (fc (tadd (j3 : Int) 1 Tryz.underlying3) f0) (fewer _ (ih222 _ (by have := gl hz; omega) n3 t3 v3 X3 (j3 + 1) _ hI3 hC3 (by rw [gt_ hz, List.map_append]; exact hD.snoc fun q9 => by rw [show Int.toNat (k : Int) = k from rfl, h226] at q9; cases q9) (gl hz) hw3 hmu hM rfl))
         | true =>
          have hrc : ∀ y, (netOf prof os f).ps k x.2 = some y → Rch (netOf prof os f) m0 k y := fun y hy => .step hrx hkl h226 hy
          refine calM 18 4 85 [(81, .func (.func 61) #[] #[vP b201 0, vP b204 0, vP b205 0, vP b208 0]), (82, vI (k : Int)), (84, vI x.2)] (K := fun u Mn => u = .tuple #[] ∧ ∃ n' t' v' X', TryP (netOf prof os f) k x.2 t3 X3 t' X' ∧ Mn = TM b201 bs b204 b203 b205 b208 b207 n' t' v' X') [0, 1] [2, 3, 4, 5, 6, 7, 8] (fc (ldm 3 1 1 hM rfl rfl) f0) hM rfl rfl (by decide) (fun hm => (try_calls hS hT2 f hM.fr (fun k ⟨e, he, hk⟩ => (hM.pick [2, 3, 4, 5, 6, 7, 8]).ge he hk) hm (by omega) (gl hk) (by omega) (by omega) (by omega))) fun u Mn w1 hK hM => ?_
          obtain ⟨rfl, n227, t227, v227, X227, hP227, rfl⟩ := hK
          refine seg 15 0 [(72, vI ((j3 : Int) + 1))] (fc (tadd (j3 : Int) 1 Tryz.underlying3) f0) (fewer _ (ih222 _ (by have := gl hz; omega) n227 t227 v227 X227 (j3 + 1) _ (hP227.inv hI3 hrc) (hC3.mono hP227.le) (by rw [gt_ hz, List.map_append]; exact (hD.mono hP227.le).snoc fun _ => hP227.done) (gl hz) (by rcases hP227.wgt (B := 6000000000) hNo h0 hI3 hrc with ⟨q1, q2⟩ | ⟨q1, q2⟩ <;> omega) (by rcases hP227.wgt (B := 6000000000) hNo h0 hI3 hrc with ⟨q1, q2⟩ | ⟨q1, q2⟩ <;> omega) hM rfl))
       exact fewer _ (lp221 _ n4 t4 v5 X5 0 _ (hI.pop hXp) hC (ClL.nil _ _ _ _) (Nat.zero_le _) (by omega) (by omega) (hM.pick [0, 8, 1, 2, 3, 4, 5, 6, 7]) rfl)
      | true =>
       have rh219 := dt h219
       refine seg 10 0 [] f0 ?_
       have hM := hM.pick [0, 1, 2, 3, 4, 5, 6, 7]
       exact fewer _ (ih214 _ (by omega) n4 t4 v5 X5 _ (hI.stale hXp hx2 (by simpa [hx2] using (dt h219))) hC (by omega) hM rfl)
    exact fewer _ (lp213 _ n1 t1 v1 X1 _ hI hC hw hM rfl)
   | true =>
    have rh212 := dt h212
    obtain ⟨z, hz, g228, o228, q228, r228⟩ := so.el (i := j) (by omega)
    obtain ⟨k, b, ek, hk, hb⟩ := idxs_at hz
    subst ek
    have hrc : ∀ x, (netOf prof os f).ps k m0 = some x → Rch (netOf prof os f) m0 k x := fun x hx => .base (gl hk) (netOf_st hk hb) hx
    have hkl := gl hk
    refine calM 8 3 38 [(35, .func (.func 61) #[] #[vP b201 0, vP b204 0, vP b205 0, vP b208 0]), (36, vI (k : Int)), (37, vI m0)] (K := fun u Mn => u = .tuple #[] ∧ ∃ n' t' v' X', TryP (netOf prof os f) k m0 t1 X1 t' X' ∧ Mn = TM b201 bs b204 b203 b205 b208 b207 n' t' v' X') [0] [1, 2, 3, 4, 5, 6, 7] (fc (ix 29 co q228 (gl hz)) (fc (ld0 3 hM (r228 0 _ rfl)) f0)) hM rfl rfl (by decide) (fun hm => (try_calls hS hT2 f hM.fr (fun k ⟨e, he, hk⟩ => (hM.pick [1, 2, 3, 4, 5, 6, 7]).ge he hk) hm (by omega) (gl hk) (by omega) (by omega) (by omega))) fun u Mn w1 hK hM => ?_
    obtain ⟨rfl, n229, t229, v229, X229, hP229, rfl⟩ := hK
    refine seg 6 0 [(31, vI ((j : Int) + 1))] (fc (tadd (j : Int) 1 Tryz.underlying3) f0) (fewer _ (ih210 _ (by have := gl hz; omega) n229 t229 v229 X229 (j + 1) _ (hP229.inv hI hrc) (by rw [gt_ hz, List.map_append]; exact (hC.mono hP229.le).snoc fun _ => hP229.done) (gl hz) (by rcases hP229.wgt (B := 6000000000) hNo h0 hI hrc with ⟨q1, q2⟩ | ⟨q1, q2⟩ <;> omega) hM rfl))
  exact fewer _ (lp209 _ 0 (fun _ => none) (vL (some ⟨b206, 0, none⟩) 0 0) [] 0 _ (TInv.nil _ _ _) (ClL.nil _ _ _ _) (Nat.zero_le _) (by rw [hW0]; exact wgt_le _ _ _) (tabV_nil ▸ hM.pick [1, 0, 3, 4, 7, 2, 6, 5]) rfl)
end Go.Proofs.YtbflfefahheidaaGreatDoor
/- The arc before; the error of arguments. -/
set_option linter.unusedVariables false
set_option linter.unusedSimpArgs false
namespace Go.Proofs.YtbflfefahheidaaGreatDoor
open Go.RowKit Go.Pl
/-- Whether an arc is the first one of a trip. -/
def befA (N : NetW) (m0 : Int) (t : Nat → Option Int) (i : Nat) : Bool := (N.ps i m0).isSome && N.st i && ((N.ps i m0).getD 0 == (t i).getD 0)
/-- Whether one comes by arc k to the end of arc i at its minute. -/
def befB (N : NetW) (t : Nat → Option Int) (i k : Nat) : Bool := (t k).isSome && N.al k i && ((N.ps i ((t k).getD 0)).isSome && ((N.ps i ((t k).getD 0)).getD 0 == (t i).getD 0))
/-- The arc before an arc of a trip. -/
def befP (N : NetW) (m0 : Int) (t : Nat → Option Int) (i : Nat) : Option Nat := bif befA N m0 t i then none else (List.range N.n).find? (befB N t i)
theorem find_rng {n k : Nat} {p : Nat → Bool} (h : ∀ j, j < k → p j = false) (hk : k < n) (hp : p k = true) : (List.range n).find? p = some k := by
  rw [List.find?_range_eq_some]
  exact ⟨hp, by simpa using hk, fun j hj => by rw [h j hj]; rfl⟩
theorem find_rng0 {n k : Nat} {p : Nat → Bool} (h : ∀ j, j < k → p j = false) (hk : n ≤ k) : (List.range n).find? p = none := by
  rw [List.find?_eq_none]
  intro j hj
  rw [h j (Nat.lt_of_lt_of_le (List.mem_range.1 hj) hk)]; simp
abbrev A32 (Φ : Ending → World → Prop) := AtO Tryz.prog (bodyOf Tryz.f32) (whole (bodyPost Tryz.prog Tryz.f32 Φ)) [] 88
theorem before_calls {w : World} {bs ca bo br bb no nr nb : Nat} {qa : Option Addr} {prof : Bys} {os : List ObR} {T : OutT} {T2 : RdT} (hS : StF w bs ca bo br bb no nr nb qa prof os T T2) (hT2 : T2.map (·.1) = waysR os) (hl9 : (AS os).length ≤ 400000000) {b n : Nat} {t : Nat → Option Int} (hm : MapN Tryz.prog 3 w b n (tabV t)) (ht : ∀ k m, t k = some m → 0 ≤ m ∧ m ≤ 6000000000) {f : Bys} {m0 : Int} (h0 : 0 ≤ m0) (h1 : m0 ≤ 1000000000000) {i : Nat} (hi : i < (AS os).length) : Calls Tryz.prog 32 #[vP bs 0, .agg #[.map (some b)], vS f, vI m0, vI (i : Int)] w fun e w' => e = .returned (.tuple #[vI (((befP (netOf prof os f) m0 t i).getD 0 : Nat) : Int), vB (befP (netOf prof os f) m0 t i).isSome]) ∧ Fr (fun _ => False) w w' := by
  have bb9 := hS.arcs.bnd
  obtain ⟨a, ha⟩ := geb (l := AS os) (i := i) hi
  have hst : (netOf prof os f).st i = (a.1 == f) := by
    show (match (AS os)[i]? with | some a => a.1 == f | none => false) = _
    rw [ha]
  have htg : ∀ k, 0 ≤ (t k).getD 0 ∧ (t k).getD 0 ≤ 6000000000 := fun k => by
    cases e : t k with
    | none => exact ⟨Int.le_refl _, by show (0 : Int) ≤ _; omega⟩
    | some m => exact ht k m e
  refine beg Tryz.func32 rfl rfl [(0, vP bs 0), (1, .agg #[.map (some b)]), (2, vS f), (3, vI m0), (4, vI (i : Int))] rfl rfl fun Φ hΦ => ?_
  have hM := Mm.nil (fun _ => False) w
  refine newm 0 0 6 [] (cs := #[.map (some b)]) (T := 73) (v := fun b => vP b 0) f0 hM fun b230 w1 hM => calm 1 2 24 [(22, .agg #[.map (some b)]), (23, vI (i : Int))] (fc (lam 73 0 0 1 hM rfl) f0) hM (tget_calls (hm.fr hM.fr id) (i := i) (by omega)) fun w1 hM => calm 2 3 31 [(12, vI ((t i).getD 0)), (28, vP bs 0), (29, vI (i : Int)), (30, vI m0)] f0 hM (pass2_calls (hS.fr hM.fr) hT2 f hi h0 (by omega)) fun w1 hM => ?_
  obtain ⟨a9, ha9, ga, oa, qq, ra⟩ := hS.arcs.el (i := i) hi
  rw [ha] at ha9
  cases ha9
  refine seg 3 2 [(14, vI (((netOf prof os f).ps i m0).getD 0)), (35, vB ((netOf prof os f).ps i m0).isSome)] f0 ?_
  cases h231 : ((netOf prof os f).ps i m0).isSome with
  | false =>
   have hA : befA (netOf prof os f) m0 t i = false := by unfold befA; simp only [hst, h231] <;> rfl
   refine seg 6 0 [(56, vI ((AS os).length : Int)), (57, vI 0)] (fc (ld0 75 hM (bx hS.blk 1 rfl)) f0) ?_
   have lp232 : ∀ (m234 : Nat) (k : Nat) (w2 : World), k ≤ (AS os).length → (∀ j, j < k → befB (netOf prof os f) t i j = false) → Mm (fun _ => False) w w2 [bk b230 #[.map (some b)] 73] → m234 = (AS os).length - k → A32 Φ (some (6, 0)) [(57, vI (k : Int)), (56, vI ((AS os).length : Int)), (12, vI ((t i).getD 0)), (6, vP b230 0), (0, vP bs 0), (4, vI (i : Int))] w2 := by
    refine srec fun m234 ih233 k w2 hk hno hM hm234 => seg 6 1 [(58, vB (decide ((k : Int) < ((AS os).length : Int))))] f0 ?_
    cases h235 : (decide ((k : Int) < ((AS os).length : Int))) with
    | false =>
     have rh235 := df h235
     have hb : befP (netOf prof os f) m0 t i = none := by
       unfold befP; rw [hA]; exact find_rng0 hno (by show (AS os).length ≤ k; omega)
     exact rt2 10 11 (vI 0) (vB false) rfl rfl f0 (hΦ _ _ ⟨by rw [hb]; rfl, hM.fr⟩)
    | true =>
     have rh235 := dt h235
     refine calm 8 2 63 [(16, vI (k : Int)), (61, .agg #[.map (some b)]), (62, vI (k : Int))] (fc (lam 73 0 0 1 hM rfl) f0) hM (tget_calls (hm.fr hM.fr id) (i := k) (by omega)) fun w1 hM => seg 9 2 [(17, vI ((t k).getD 0)), (67, vB (t k).isSome)] f0 ?_
     cases h236 : (t k).isSome with
     | false =>
      refine seg 6 0 [(57, vI ((k : Int) + 1))] (fc (tadd (k : Int) 1 Tryz.underlying3) f0) (fewer _ (ih233 _ (by omega) (k + 1) _ (by omega) (fun j hj => by rcases Nat.lt_succ_iff_lt_or_eq.1 hj with hj | rfl; exact hno j hj; unfold befB; simp only [h235, h236] <;> rfl) hM rfl))
     | true =>
      refine calm 9 5 71 [(68, vP bs 0), (69, vI (k : Int)), (70, vI (i : Int))] f0 hM (allow2_calls (hS.fr hM.fr) f (i := k) (k := i) (by omega) hi) fun w1 hM => seg 9 7 [(72, vB ((netOf prof os f).al k i))] f0 ?_
      cases h237 : ((netOf prof os f).al k i) with
      | false =>
       refine seg 6 0 [(57, vI ((k : Int) + 1))] (fc (tadd (k : Int) 1 Tryz.underlying3) f0) (fewer _ (ih233 _ (by omega) (k + 1) _ (by omega) (fun j hj => by rcases Nat.lt_succ_iff_lt_or_eq.1 hj with hj | rfl; exact hno j hj; unfold befB; simp only [h235, h236, h237] <;> rfl) hM rfl))
      | true =>
       refine calm 10 3 77 [(74, vP bs 0), (75, vI (i : Int)), (76, vI ((t k).getD 0))] f0 hM (pass2_calls (hS.fr hM.fr) hT2 f hi (htg k).1 (by have := (htg k).2; omega)) fun w1 hM => seg 11 2 [(19, vI (((netOf prof os f).ps i ((t k).getD 0)).getD 0)), (81, vB ((netOf prof os f).ps i ((t k).getD 0)).isSome)] f0 ?_
       cases h238 : ((netOf prof os f).ps i ((t k).getD 0)).isSome with
       | false =>
        refine seg 6 0 [(57, vI ((k : Int) + 1))] (fc (tadd (k : Int) 1 Tryz.underlying3) f0) (fewer _ (ih233 _ (by omega) (k + 1) _ (by omega) (fun j hj => by rcases Nat.lt_succ_iff_lt_or_eq.1 hj with hj | rfl; exact hno j hj; unfold befB; simp only [h235, h236, h237, h238] <;> rfl) hM rfl))
       | true =>
        refine seg 11 6 [(85, vB ((((netOf prof os f).ps i ((t k).getD 0)).getD 0) == ((t i).getD 0)))] f0 ?_
        cases h239 : ((((netOf prof os f).ps i ((t k).getD 0)).getD 0) == ((t i).getD 0)) with
        | false =>
         have rh239 := ef h239
         refine seg 6 0 [(57, vI ((k : Int) + 1))] (fc (tadd (k : Int) 1 Tryz.underlying3) f0) (fewer _ (ih233 _ (by omega) (k + 1) _ (by omega) (fun j hj => by rcases Nat.lt_succ_iff_lt_or_eq.1 hj with hj | rfl; exact hno j hj; unfold befB; simp only [h235, h236, h237, h238, h239] <;> rfl) hM rfl))
        | true =>
         have rh239 := et h239
         have hb : befP (netOf prof os f) m0 t i = some k := by
           unfold befP; rw [hA]; exact find_rng hno (by show k < (AS os).length; omega) (by unfold befB; simp only [h236, h237, h238, h239] <;> rfl)
         exact rt2 10 11 (vI (k : Int)) (vB true) rfl rfl f0 (hΦ _ _ ⟨by rw [hb]; rfl, hM.fr⟩)
   exact fewer _ (lp232 _ 0 _ (Nat.zero_le _) (fun j hj => absurd hj (Nat.not_lt_zero _)) hM rfl)
  | true =>
   refine seg 3 14 [(47, vB (a.1 == f))] (fc (ld0 75 hM (bx hS.blk 1 rfl)) (fc (ix 75 ca qq (gl ha)) (fc (ld0 9 hM (ra 0 _ rfl)) (fc (seq 9 a.1 f) f0)))) ?_
   cases h240 : (a.1 == f) with
   | false =>
    have rh240 := ef h240
    have hA : befA (netOf prof os f) m0 t i = false := by unfold befA; simp only [hst, h231, h240] <;> rfl
    refine seg 6 0 [(56, vI ((AS os).length : Int)), (57, vI 0)] (fc (ld0 75 hM (bx hS.blk 1 rfl)) f0) ?_
    have lp241 : ∀ (m243 : Nat) (k : Nat) (w2 : World), k ≤ (AS os).length → (∀ j, j < k → befB (netOf prof os f) t i j = false) → Mm (fun _ => False) w w2 [bk b230 #[.map (some b)] 73] → m243 = (AS os).length - k → A32 Φ (some (6, 0)) [(57, vI (k : Int)), (56, vI ((AS os).length : Int)), (12, vI ((t i).getD 0)), (6, vP b230 0), (0, vP bs 0), (4, vI (i : Int))] w2 := by
     refine srec fun m243 ih242 k w2 hk hno hM hm243 => seg 6 1 [(58, vB (decide ((k : Int) < ((AS os).length : Int))))] f0 ?_
     cases h244 : (decide ((k : Int) < ((AS os).length : Int))) with
     | false =>
      have rh244 := df h244
      have hb : befP (netOf prof os f) m0 t i = none := by
        unfold befP; rw [hA]; exact find_rng0 hno (by show (AS os).length ≤ k; omega)
      exact rt2 10 11 (vI 0) (vB false) rfl rfl f0 (hΦ _ _ ⟨by rw [hb]; rfl, hM.fr⟩)
     | true =>
      have rh244 := dt h244
      refine calm 8 2 63 [(16, vI (k : Int)), (61, .agg #[.map (some b)]), (62, vI (k : Int))] (fc (lam 73 0 0 1 hM rfl) f0) hM (tget_calls (hm.fr hM.fr id) (i := k) (by omega)) fun w1 hM => seg 9 2 [(17, vI ((t k).getD 0)), (67, vB (t k).isSome)] f0 ?_
      cases h245 : (t k).isSome with
      | false =>
       refine seg 6 0 [(57, vI ((k : Int) + 1))] (fc (tadd (k : Int) 1 Tryz.underlying3) f0) (fewer _ (ih242 _ (by omega) (k + 1) _ (by omega) (fun j hj => by rcases Nat.lt_succ_iff_lt_or_eq.1 hj with hj | rfl; exact hno j hj; unfold befB; simp only [h244, h245] <;> rfl) hM rfl))
      | true =>
       refine calm 9 5 71 [(68, vP bs 0), (69, vI (k : Int)), (70, vI (i : Int))] f0 hM (allow2_calls (hS.fr hM.fr) f (i := k) (k := i) (by omega) hi) fun w1 hM => seg 9 7 [(72, vB ((netOf prof os f).al k i))] f0 ?_
       cases h246 : ((netOf prof os f).al k i) with
       | false =>
        refine seg 6 0 [(57, vI ((k : Int) + 1))] (fc (tadd (k : Int) 1 Tryz.underlying3) f0) (fewer _ (ih242 _ (by omega) (k + 1) _ (by omega) (fun j hj => by rcases Nat.lt_succ_iff_lt_or_eq.1 hj with hj | rfl; exact hno j hj; unfold befB; simp only [h244, h245, h246] <;> rfl) hM rfl))
       | true =>
        refine calm 10 3 77 [(74, vP bs 0), (75, vI (i : Int)), (76, vI ((t k).getD 0))] f0 hM (pass2_calls (hS.fr hM.fr) hT2 f hi (htg k).1 (by have := (htg k).2; omega)) fun w1 hM => seg 11 2 [(19, vI (((netOf prof os f).ps i ((t k).getD 0)).getD 0)), (81, vB ((netOf prof os f).ps i ((t k).getD 0)).isSome)] f0 ?_
        cases h247 : ((netOf prof os f).ps i ((t k).getD 0)).isSome with
        | false =>
         refine seg 6 0 [(57, vI ((k : Int) + 1))] (fc (tadd (k : Int) 1 Tryz.underlying3) f0) (fewer _ (ih242 _ (by omega) (k + 1) _ (by omega) (fun j hj => by rcases Nat.lt_succ_iff_lt_or_eq.1 hj with hj | rfl; exact hno j hj; unfold befB; simp only [h244, h245, h246, h247] <;> rfl) hM rfl))
        | true =>
         refine seg 11 6 [(85, vB ((((netOf prof os f).ps i ((t k).getD 0)).getD 0) == ((t i).getD 0)))] f0 ?_
         cases h248 : ((((netOf prof os f).ps i ((t k).getD 0)).getD 0) == ((t i).getD 0)) with
         | false =>
          have rh248 := ef h248
          refine seg 6 0 [(57, vI ((k : Int) + 1))] (fc (tadd (k : Int) 1 Tryz.underlying3) f0) (fewer _ (ih242 _ (by omega) (k + 1) _ (by omega) (fun j hj => by rcases Nat.lt_succ_iff_lt_or_eq.1 hj with hj | rfl; exact hno j hj; unfold befB; simp only [h244, h245, h246, h247, h248] <;> rfl) hM rfl))
         | true =>
          have rh248 := et h248
          have hb : befP (netOf prof os f) m0 t i = some k := by
            unfold befP; rw [hA]; exact find_rng hno (by show k < (AS os).length; omega) (by unfold befB; simp only [h245, h246, h247, h248] <;> rfl)
          exact rt2 10 11 (vI (k : Int)) (vB true) rfl rfl f0 (hΦ _ _ ⟨by rw [hb]; rfl, hM.fr⟩)
    exact fewer _ (lp241 _ 0 _ (Nat.zero_le _) (fun j hj => absurd hj (Nat.not_lt_zero _)) hM rfl)
   | true =>
    have rh240 := et h240
    refine seg 3 18 [(51, vB ((((netOf prof os f).ps i m0).getD 0) == ((t i).getD 0)))] f0 ?_
    cases h249 : ((((netOf prof os f).ps i m0).getD 0) == ((t i).getD 0)) with
    | false =>
     have rh249 := ef h249
     have hA : befA (netOf prof os f) m0 t i = false := by unfold befA; simp only [hst, h231, h240, h249] <;> rfl
     refine seg 6 0 [(56, vI ((AS os).length : Int)), (57, vI 0)] (fc (ld0 75 hM (bx hS.blk 1 rfl)) f0) ?_
     have lp250 : ∀ (m252 : Nat) (k : Nat) (w2 : World), k ≤ (AS os).length → (∀ j, j < k → befB (netOf prof os f) t i j = false) → Mm (fun _ => False) w w2 [bk b230 #[.map (some b)] 73] → m252 = (AS os).length - k → A32 Φ (some (6, 0)) [(57, vI (k : Int)), (56, vI ((AS os).length : Int)), (12, vI ((t i).getD 0)), (6, vP b230 0), (0, vP bs 0), (4, vI (i : Int))] w2 := by
      refine srec fun m252 ih251 k w2 hk hno hM hm252 => seg 6 1 [(58, vB (decide ((k : Int) < ((AS os).length : Int))))] f0 ?_
      cases h253 : (decide ((k : Int) < ((AS os).length : Int))) with
      | false =>
       have rh253 := df h253
       have hb : befP (netOf prof os f) m0 t i = none := by
         unfold befP; rw [hA]; exact find_rng0 hno (by show (AS os).length ≤ k; omega)
       exact rt2 10 11 (vI 0) (vB false) rfl rfl f0 (hΦ _ _ ⟨by rw [hb]; rfl, hM.fr⟩)
      | true =>
       have rh253 := dt h253
       refine calm 8 2 63 [(16, vI (k : Int)), (61, .agg #[.map (some b)]), (62, vI (k : Int))] (fc (lam 73 0 0 1 hM rfl) f0) hM (tget_calls (hm.fr hM.fr id) (i := k) (by omega)) fun w1 hM => seg 9 2 [(17, vI ((t k).getD 0)), (67, vB (t k).isSome)] f0 ?_
       cases h254 : (t k).isSome with
       | false =>
        refine seg 6 0 [(57, vI ((k : Int) + 1))] (fc (tadd (k : Int) 1 Tryz.underlying3) f0) (fewer _ (ih251 _ (by omega) (k + 1) _ (by omega) (fun j hj => by rcases Nat.lt_succ_iff_lt_or_eq.1 hj with hj | rfl; exact hno j hj; unfold befB; simp only [h253, h254] <;> rfl) hM rfl))
       | true =>
        refine calm 9 5 71 [(68, vP bs 0), (69, vI (k : Int)), (70, vI (i : Int))] f0 hM (allow2_calls (hS.fr hM.fr) f (i := k) (k := i) (by omega) hi) fun w1 hM => seg 9 7 [(72, vB ((netOf prof os f).al k i))] f0 ?_
        cases h255 : ((netOf prof os f).al k i) with
        | false =>
         refine seg 6 0 [(57, vI ((k : Int) + 1))] (fc (tadd (k : Int) 1 Tryz.underlying3) f0) (fewer _ (ih251 _ (by omega) (k + 1) _ (by omega) (fun j hj => by rcases Nat.lt_succ_iff_lt_or_eq.1 hj with hj | rfl; exact hno j hj; unfold befB; simp only [h253, h254, h255] <;> rfl) hM rfl))
        | true =>
         refine calm 10 3 77 [(74, vP bs 0), (75, vI (i : Int)), (76, vI ((t k).getD 0))] f0 hM (pass2_calls (hS.fr hM.fr) hT2 f hi (htg k).1 (by have := (htg k).2; omega)) fun w1 hM => seg 11 2 [(19, vI (((netOf prof os f).ps i ((t k).getD 0)).getD 0)), (81, vB ((netOf prof os f).ps i ((t k).getD 0)).isSome)] f0 ?_
         cases h256 : ((netOf prof os f).ps i ((t k).getD 0)).isSome with
         | false =>
          refine seg 6 0 [(57, vI ((k : Int) + 1))] (fc (tadd (k : Int) 1 Tryz.underlying3) f0) (fewer _ (ih251 _ (by omega) (k + 1) _ (by omega) (fun j hj => by rcases Nat.lt_succ_iff_lt_or_eq.1 hj with hj | rfl; exact hno j hj; unfold befB; simp only [h253, h254, h255, h256] <;> rfl) hM rfl))
         | true =>
          refine seg 11 6 [(85, vB ((((netOf prof os f).ps i ((t k).getD 0)).getD 0) == ((t i).getD 0)))] f0 ?_
          cases h257 : ((((netOf prof os f).ps i ((t k).getD 0)).getD 0) == ((t i).getD 0)) with
          | false =>
           have rh257 := ef h257
           refine seg 6 0 [(57, vI ((k : Int) + 1))] (fc (tadd (k : Int) 1 Tryz.underlying3) f0) (fewer _ (ih251 _ (by omega) (k + 1) _ (by omega) (fun j hj => by rcases Nat.lt_succ_iff_lt_or_eq.1 hj with hj | rfl; exact hno j hj; unfold befB; simp only [h253, h254, h255, h256, h257] <;> rfl) hM rfl))
          | true =>
           have rh257 := et h257
           have hb : befP (netOf prof os f) m0 t i = some k := by
             unfold befP; rw [hA]; exact find_rng hno (by show k < (AS os).length; omega) (by unfold befB; simp only [h254, h255, h256, h257] <;> rfl)
           exact rt2 10 11 (vI (k : Int)) (vB true) rfl rfl f0 (hΦ _ _ ⟨by rw [hb]; rfl, hM.fr⟩)
     exact fewer _ (lp250 _ 0 _ (Nat.zero_le _) (fun j hj => absurd hj (Nat.not_lt_zero _)) hM rfl)
    | true =>
     have rh249 := et h249
     have hb : befP (netOf prof os f) m0 t i = none := by
       unfold befP befA; simp only [hst, h231, h240, h249] <;> rfl
     exact rt2 10 11 (vI 0) (vB false) rfl rfl f0 (hΦ _ _ ⟨by rw [hb]; rfl, hM.fr⟩)
/-- The kind of the object with an Id. -/
def kindI (os : List ObR) (id : Bys) : Int := match os[(findI (pure_ os) id).toNat]? with
  | some b => b.o.kind
  | none => 0
def noNode (os : List ObR) (id : Bys) : Bool := !(kindI os id == 1)
theorem rng_blk {w : World} {b : Nat} {cs : Array Value} {T : TypeId} (h : w.heap[b]? = some (.cells cs T (0, 0))) : w.rangeAt b 0 cs.toList := fun j u hu => by
  rw [cell_of_blk h, Nat.zero_add]; simpa using hu
/-- The error of arguments. -/
def chkP (os : List ObR) (prof : Bys) (m0 : Int) (ids : List Bys) : Int :=
  bif !(validMap (pure_ os)) || (!(nameB prof) || (decide (m0 < 0) || decide (9999999 < m0))) then 1
  else bif ids.any (fun id => decide (findI (pure_ os) id < 0)) then 11
  else bif ids.any (noNode os) then 13 else 0
theorem findI_at {l : List Ob} {id : Bys} (h : ¬ findI l id < 0) : ∃ k o, findI l id = ((k : Nat) : Int) ∧ l[k]? = some o ∧ o.id = id := by
  unfold findI at h ⊢
  cases e : l.findIdx? (fun o => o.id == id) with
  | none => rw [e] at h; exact absurd (by decide) h
  | some k =>
    obtain ⟨h1, h2, h3⟩ := List.findIdx?_eq_some_iff_getElem.1 e
    exact ⟨k, l[k], rfl, List.getElem?_eq_getElem h1, by simpa using h2⟩
theorem chk1_calls {w : World} {c4 : Nat} {v : Value} {os : List ObR} (hm : ObsV w v os) {id : Bys} (hf : ¬ findI (pure_ os) id < 0) (hc4 : w.heap[c4]? = some (.cells #[v] 24 (0, 0))) : Calls Tryz.prog 55 #[vS id, vP c4 0] w fun e w' => e = .returned (vB (noNode os id)) ∧ Fr (fun _ => False) w w' := by
  have hm0 := hm; obtain ⟨hs0, hob⟩ := hm0
  obtain ⟨p0, cp0, hp0, sp0⟩ := hs0.op
  subst hp0; have bp0 := sp0.bnd
  obtain ⟨k, o9, hk, hk2, hk3⟩ := findI_at hf
  have hkl : k < os.length := by rw [← pure_len]; exact gl hk2
  refine beg Tryz.func55 rfl rfl [(0, vS id), (1, vP c4 0)] rfl rfl fun Φ hΦ => ?_
  have hM := Mm.nil (fun _ => False) w
  refine seg 1 0 [] f0 ?_
  obtain ⟨y, hy, g259, o259, q259, r259⟩ := sp0.el (i := k) (by omega)
  refine drc [(3, vB (!(y.o.kind == 1)))] hM (fun w5 hM => (fc (ld0 22 hM (bx hc4 0 rfl)) (fc (la0 24 hM (rng_blk hc4)) (fc (tcl (find_calls (hm.fr hM.fr) id)) (fc (ix 22 cp0 q259 (gl hy) (z := (findI (pure_ os) id)) (hz := hk)) (fc (ld0 3 hM (r259 1 _ rfl)) f0)))))) fun w5 hM => rt1 3 (vB (!(y.o.kind == 1))) rfl f0 (hΦ _ _ ⟨by unfold noNode kindI; rw [hk]; simp only [Int.toNat_natCast, hy], hM.fr⟩)
abbrev A28 (Φ : Ending → World → Prop) := AtO Tryz.prog (bodyOf Tryz.f28) (whole (bodyPost Tryz.prog Tryz.f28 Φ)) [] 41
theorem checked_calls {w : World} {v : Value} {os : List ObR} (hm : ObsV w v os) {prof : Bys} (hp63 : prof.length ≤ 9223372036854775807) (m0 : Int) {pi : Option Addr} {ci : Nat} {ids : List Bys} (hids : SrcP stL 1 w pi ci ids) : Calls Tryz.prog 28 #[.agg #[v], vS prof, vI m0, vL pi ids.length ci] w fun e w' => e = .returned (vI (chkP os prof m0 ids)) ∧ Fr (fun _ => False) w w' := by
  have hm0 := hm; obtain ⟨hs0, hob⟩ := hm0
  obtain ⟨p0, cp0, hp0, sp0⟩ := hs0.op
  subst hp0; have bp0 := sp0.bnd
  have bi := hids.bnd
  refine beg Tryz.func28 rfl rfl [(0, .agg #[vL p0 os.length cp0]), (1, vS prof), (2, vI m0), (3, vL pi ids.length ci)] rfl rfl fun Φ hΦ => ?_
  have hM := Mm.nil (fun _ => False) w
  refine newm 0 0 4 [] (cs := #[vL p0 os.length cp0]) (T := 24) (v := fun b => vP b 0) f0 hM fun b260 w1 hM => calm 1 1 12 [(11, .agg #[vL p0 os.length cp0])] (fc (lam 24 0 0 1 hM rfl) f0) hM (validMap_calls (hm.fr hM.fr)) fun w1 hM => seg 1 4 [(14, vB (!(validMap (pure_ os))))] f0 ?_
  cases h261 : (validMap (pure_ os)) with
  | false =>
   exact rt1 8 (vI 1) rfl f0 (hΦ _ _ ⟨by unfold chkP; simp only [h261] <;> rfl, hM.fr⟩)
  | true =>
   refine calm 1 5 16 [(15, vS prof)] f0 hM (name_calls hp63 _) fun w1 hM => seg 1 9 [(19, vB (!(nameB prof)))] f0 ?_
   cases h262 : (nameB prof) with
   | false =>
    exact rt1 8 (vI 1) rfl f0 (hΦ _ _ ⟨by unfold chkP; simp only [h261, h262] <;> rfl, hM.fr⟩)
   | true =>
    refine seg 1 13 [(23, vB (decide (m0 < 0)))] f0 ?_
    cases h263 : (decide (m0 < 0)) with
    | false =>
     have rh263 := df h263
     refine seg 1 16 [(26, vB (decide (9999999 < m0)))] f0 ?_
     cases h264 : (decide (9999999 < m0)) with
     | false =>
      have rh264 := df h264
      refine seg 4 0 [(27, vL pi ids.length ci), (28, vI (ids.length : Int)), (29, vI 0)] f0 ?_
      have lp265 : ∀ (m267 : Nat) (j : Nat) (w2 : World), j ≤ ids.length → (ids.take j).any (fun id => decide (findI (pure_ os) id < 0)) = false → Mm (fun _ => False) w w2 [bk b260 #[vL p0 os.length cp0] 24] → m267 = ids.length - j → A28 Φ (some (4, 0)) [(29, vI (j : Int)), (28, vI (ids.length : Int)), (27, vL pi ids.length ci), (4, vP b260 0), (3, vL pi ids.length ci)] w2 := by
       refine srec fun m267 ih266 j w2 hj hno hM hm267 => seg 4 1 [(30, vB (decide ((j : Int) < (ids.length : Int))))] f0 ?_
       cases h268 : (decide ((j : Int) < (ids.length : Int))) with
       | false =>
        have rh268 := df h268
        rw [List.take_of_length_le (by omega)] at hno
        refine calm 9 2 40 [(38, vL pi ids.length ci), (39, .func (.func 55) #[] #[vP b260 0])] f0 hM (cfS_any (hids.b hM.fr) (fun _ h => h.elim) (enters_of Tryz.func55 (by kernel_rfl) rfl) (noNode os) fun z hz w9 f9 => by rw [app11]; exact chk1_calls ((hm.fr hM.fr).fr f9) (fun h9 => by have := List.any_eq_false.1 hno z hz; simp [h9] at this) (f9.obj (hM.get 0 rfl) fun h => h)) fun w1 hM => ?_
        cases h269 : (ids.any (noNode os)) with
        | false =>
         exact rt1 8 (vI 0) rfl f0 (hΦ _ _ ⟨by unfold chkP; simp only [h261, h262, h263, h264, h269, hno] <;> rfl, hM.fr⟩)
        | true =>
         exact rt1 8 (vI 13) rfl f0 (hΦ _ _ ⟨by unfold chkP; simp only [h261, h262, h263, h264, h269, hno] <;> rfl, hM.fr⟩)
       | true =>
        have rh268 := dt h268
        obtain ⟨s, hs, g270, o270, q270, r270⟩ := hids.el (i := j) (by omega)
        refine calm 6 2 35 [(33, .agg #[vL p0 os.length cp0]), (34, vS s)] (fc (ix 28 ci q270 (gl hs)) (fc (ld0 9 hM (r270 0 _ rfl)) (fc (lam 24 0 0 1 hM rfl) f0))) hM (find_calls (hm.fr hM.fr) s) fun w1 hM => seg 6 4 [(36, vB (decide ((findI (pure_ os) s) < 0)))] f0 ?_
        cases h271 : (decide ((findI (pure_ os) s) < 0)) with
        | false =>
         have rh271 := df h271
         refine seg 4 0 [(29, vI ((j : Int) + 1))] (fc (tadd (j : Int) 1 Tryz.underlying3) f0) (fewer _ (ih266 _ (by have := gl hs; omega) (j + 1) _ (gl hs) (by rw [gt_ hs, List.any_append, hno]; simp only [List.any_cons, List.any_nil, h271]; rfl) hM rfl))
        | true =>
         have rh271 := dt h271
         have hAll : ids.any (fun id => decide (findI (pure_ os) id < 0)) = true := List.any_eq_true.2 ⟨s, gm hs, h271⟩
         exact rt1 8 (vI 11) rfl f0 (hΦ _ _ ⟨by unfold chkP; simp only [h261, h262, h263, h264, hAll] <;> rfl, hM.fr⟩)
      exact fewer _ (lp265 _ 0 _ (Nat.zero_le _) rfl hM rfl)
     | true =>
      have rh264 := dt h264
      exact rt1 8 (vI 1) rfl f0 (hΦ _ _ ⟨by unfold chkP; simp only [h261, h262, h263, h264] <;> rfl, hM.fr⟩)
    | true =>
     have rh263 := dt h263
     exact rt1 8 (vI 1) rfl f0 (hΦ _ _ ⟨by unfold chkP; simp only [h261, h262, h263] <;> rfl, hM.fr⟩)
end Go.Proofs.YtbflfefahheidaaGreatDoor
/- Lists that are reversed. -/
set_option linter.unusedVariables false
set_option linter.unusedSimpArgs false
namespace Go.Proofs.YtbflfefahheidaaGreatDoor
open Go.RowKit Go.Pl
theorem stT : ElT Tryz.prog stL 1 28 9 := ⟨fun _ => rfl, by decide, fun x u hu => by
  unfold stL at hu
  rw [List.mem_singleton] at hu
  subst hu; rfl, Tryz.underlying28, elOK_info (by kernel_rfl)⟩
/-- A list that is reversed as9 far as9 some place from both ends. -/
def RevI {α : Type} (X : List α) (i : Nat) (X' : List α) : Prop := X'.length = X.length ∧ ∀ p, p < X.length → X'[p]? = if p < i ∨ X.length - 1 - i < p then X[X.length - 1 - p]? else X[p]?
theorem RevI.zero {α : Type} (X : List α) : RevI X 0 X := ⟨rfl, fun p hp => by rw [if_neg (by omega)]⟩
theorem RevI.step {α : Type} {X X' : List α} {i : Nat} {x y : α} (h : RevI X i X') (hi : i < X.length - 1 - i) (hx : X'[i]? = some x) (hy : X'[X.length - 1 - i]? = some y) : RevI X (i + 1) ((X'.set i y).set (X.length - 1 - i) x) := by
  obtain ⟨h1, h2⟩ := h
  have e1 := h2 i (by omega)
  rw [if_neg (by omega), hx] at e1
  have e2 := h2 (X.length - 1 - i) (by omega)
  rw [if_neg (by omega), hy] at e2
  refine ⟨by simp [h1], fun p hp => ?_⟩
  rw [List.getElem?_set, List.getElem?_set]
  by_cases hp1 : X.length - 1 - i = p
  · subst hp1
    rw [if_pos rfl, if_pos (by simp [h1]; omega), if_pos (by omega), show X.length - 1 - (X.length - 1 - i) = i by omega]; exact e1
  · rw [if_neg hp1]
    by_cases hp2 : i = p
    · subst hp2
      rw [if_pos rfl, if_pos (by omega), if_pos (by omega)]; exact e2
    · rw [if_neg hp2, h2 p hp]
      by_cases hc : p < i ∨ X.length - 1 - i < p
      · rw [if_pos hc, if_pos (by omega)]
      · rw [if_neg hc, if_neg (by omega)]
theorem RevI.fin {α : Type} {X X' : List α} {i : Nat} (h : RevI X i X') (hi : X.length ≤ 2 * i + 1) (hi2 : 2 * i ≤ X.length + 1) : X' = X.reverse := by
  obtain ⟨h1, h2⟩ := h
  refine List.ext_getElem? fun p => ?_
  rcases Nat.lt_or_ge p X.length with hp | hp
  · rw [h2 p hp, List.getElem?_reverse hp]
    by_cases hc : p < i ∨ X.length - 1 - i < p
    · rw [if_pos hc]
    · rw [if_neg hc]
      congr 1
      omega
  · rw [List.getElem?_eq_none (by omega), List.getElem?_eq_none (by simpa using hp)]
abbrev A33 (Φ : Ending → World → Prop) := AtO Tryz.prog (bodyOf Tryz.f33) (whole (bodyPost Tryz.prog Tryz.f33 Φ)) [] 28
theorem revS_calls {w : World} {G : Nat → Prop} {p : Option Addr} {c : Nat} {X : List Bys} (hM0 : Mm G w w [rw_ stL 1 9 (vL p X.length c) X]) : Calls Tryz.prog 33 #[vL p X.length c] w fun e w' => ∃ (u : Value) (Mn : List Ent), e = .returned u ∧ (u = .tuple #[] ∧ Mn = [rw_ stL 1 9 (vL p X.length c) X.reverse]) ∧ Mm G w w' Mn := by
  have bX := ((hM0.src (j := 0) rfl stT.len).p).2.bnd
  refine beg Tryz.func33 rfl rfl [(0, vL p X.length c)] rfl rfl fun Φ hΦ => ?_
  have hM := hM0
  refine seg 1 0 [(2, vI 0), (3, vI ((X.length : Int) - 1))] (fc (tsub (X.length : Int) 1 Tryz.underlying3) f0) ?_
  have lp272 : ∀ (m274 : Nat) (i : Nat) (z : Int) (X1 : List Bys) (w2 : World), RevI X i X1 → z = (X.length : Int) - 1 - (i : Int) → 2 * i ≤ X.length + 1 → Mm G w w2 [rw_ stL 1 9 (vL p X.length c) X1] → m274 = X.length - i → A33 Φ (some (1, 0)) [(3, vI z), (2, vI (i : Int)), (0, vL p X.length c)] w2 := by
   refine srec fun m274 ih273 i z X1 w2 hr hz hi hM hm274 => seg 1 3 [(9, vB (decide ((i : Int) < z)))] f0 ?_
   cases h275 : (decide ((i : Int) < z)) with
   | false =>
    have rh275 := df h275
    have hR := hr.fin (by omega) hi
    subst hR
    exact rt0 rfl f0 (hΦ _ _ ⟨_, _, rfl, ⟨rfl, rfl⟩, hM⟩)
   | true =>
    have rh275 := dt h275
    have hl1 := hr.1
    obtain ⟨x, hx⟩ := geb (l := X1) (i := i) (by omega)
    obtain ⟨y, hy⟩ := geb (l := X1) (i := X.length - 1 - i) (by omega)
    refine seg 3 0 [] f0 ?_
    obtain ⟨g282, eg282, -⟩ := hM.el stT (j := 0) rfl hy
    obtain ⟨g283, eg283, -⟩ := hM.el stT (j := 0) rfl hx
    obtain ⟨y284, hy284⟩ := geb (l := (X1.set i y)) (i := (X.length - 1 - i)) (by simp only [List.length_set]; omega)
    refine drx [7, 11, 13, 15] (fun γ => [some (vS y), some (vS x), none, none]) _ (fun γ l => [rw_ stL 1 9 (vL p X.length c) (bif l.getD 3 false then ((X1.set i y).set (X.length - 1 - i) x) else (bif l.getD 2 false then (X1.set i y) else X1))]) (fun γ => []) hM (fun γ => rfl) (fun γ l w5 hM => (fc (ix 28 c eg282 (show (X.length - 1 - i) < X.length by omega) (z := z) (hz := (by omega))) (fc (ix 28 c eg283 (show i < X.length by omega)) (fc (ix 28 c eg283 (show i < X.length by omega)) (fc (ix 28 c eg282 (show (X.length - 1 - i) < X.length by omega) (z := z) (hz := (by omega))) f0))))) ⟨ar_ldr (m := X.length) (cap := c) 0 7 9 0 0 (X.length - 1 - i) 21 X1 (fun γ => vS y) stT eg282 hy (fun γ => rfl), ar_ldr (m := X.length) (cap := c) 1 11 9 0 0 i 25 X1 (fun γ => vS x) stT eg283 hx (fun γ => rfl), ar_str (m := X.length) (cap := c) 2 13 9 0 0 i X1 y (fun γ => vS y) stT eg283 hx (fun γ => rfl), ar_str (m := X.length) (cap := c) 3 15 9 0 0 (X.length - 1 - i) (X1.set i y) x (fun γ => vS x) stT eg282 hy284 (fun γ => rfl), trivial⟩ fun γ285 w1 hM => ?_
    replace hM : Mm G w w1 [rw_ stL 1 9 (vL p X.length c) ((X1.set i y).set (X.length - 1 - i) x)] := hM
    refine seg 1 0 [(2, vI ((i : Int) + 1)), (3, vI (z - 1))] (fc (tadd (i : Int) 1 Tryz.underlying3) (fc (tsub z 1 Tryz.underlying3) f0)) (fewer _ (ih273 _ (by omega) (i + 1) (z - 1) ((X1.set i y).set (X.length - 1 - i) x) _ (hr.step (by omega) hx hy) (by omega) (by omega) hM rfl))
  exact fewer _ (lp272 _ 0 ((X.length : Int) - 1) X _ (RevI.zero X) (by omega) (Nat.zero_le _) hM rfl)
abbrev A34 (Φ : Ending → World → Prop) := AtO Tryz.prog (bodyOf Tryz.f34) (whole (bodyPost Tryz.prog Tryz.f34 Φ)) [] 28
theorem revI_calls {w : World} {G : Nat → Prop} {p : Option Addr} {c : Nat} {X : List Int} (hM0 : Mm G w w [rw_ inL 1 3 (vL p X.length c) X]) : Calls Tryz.prog 34 #[vL p X.length c] w fun e w' => ∃ (u : Value) (Mn : List Ent), e = .returned u ∧ (u = .tuple #[] ∧ Mn = [rw_ inL 1 3 (vL p X.length c) X.reverse]) ∧ Mm G w w' Mn := by
  have bX := ((hM0.src (j := 0) rfl inT.len).p).2.bnd
  refine beg Tryz.func34 rfl rfl [(0, vL p X.length c)] rfl rfl fun Φ hΦ => ?_
  have hM := hM0
  refine seg 1 0 [(2, vI 0), (3, vI ((X.length : Int) - 1))] (fc (tsub (X.length : Int) 1 Tryz.underlying3) f0) ?_
  have lp286 : ∀ (m288 : Nat) (i : Nat) (z : Int) (X1 : List Int) (w2 : World), RevI X i X1 → z = (X.length : Int) - 1 - (i : Int) → 2 * i ≤ X.length + 1 → Mm G w w2 [rw_ inL 1 3 (vL p X.length c) X1] → m288 = X.length - i → A34 Φ (some (1, 0)) [(3, vI z), (2, vI (i : Int)), (0, vL p X.length c)] w2 := by
   refine srec fun m288 ih287 i z X1 w2 hr hz hi hM hm288 => seg 1 3 [(9, vB (decide ((i : Int) < z)))] f0 ?_
   cases h289 : (decide ((i : Int) < z)) with
   | false =>
    have rh289 := df h289
    have hR := hr.fin (by omega) hi
    subst hR
    exact rt0 rfl f0 (hΦ _ _ ⟨_, _, rfl, ⟨rfl, rfl⟩, hM⟩)
   | true =>
    have rh289 := dt h289
    have hl1 := hr.1
    obtain ⟨x, hx⟩ := geb (l := X1) (i := i) (by omega)
    obtain ⟨y, hy⟩ := geb (l := X1) (i := X.length - 1 - i) (by omega)
    refine seg 3 0 [] f0 ?_
    obtain ⟨g296, eg296, -⟩ := hM.el inT (j := 0) rfl hy
    obtain ⟨g297, eg297, -⟩ := hM.el inT (j := 0) rfl hx
    obtain ⟨y298, hy298⟩ := geb (l := (X1.set i y)) (i := (X.length - 1 - i)) (by simp only [List.length_set]; omega)
    refine drx [7, 11, 13, 15] (fun γ => [some (vI y), some (vI x), none, none]) _ (fun γ l => [rw_ inL 1 3 (vL p X.length c) (bif l.getD 3 false then ((X1.set i y).set (X.length - 1 - i) x) else (bif l.getD 2 false then (X1.set i y) else X1))]) (fun γ => []) hM (fun γ => rfl) (fun γ l w5 hM => (fc (ix 29 c eg296 (show (X.length - 1 - i) < X.length by omega) (z := z) (hz := (by omega))) (fc (ix 29 c eg297 (show i < X.length by omega)) (fc (ix 29 c eg297 (show i < X.length by omega)) (fc (ix 29 c eg296 (show (X.length - 1 - i) < X.length by omega) (z := z) (hz := (by omega))) f0))))) ⟨ar_ldr (m := X.length) (cap := c) 0 7 3 0 0 (X.length - 1 - i) 21 X1 (fun γ => vI y) inT eg296 hy (fun γ => rfl), ar_ldr (m := X.length) (cap := c) 1 11 3 0 0 i 25 X1 (fun γ => vI x) inT eg297 hx (fun γ => rfl), ar_str (m := X.length) (cap := c) 2 13 3 0 0 i X1 y (fun γ => vI y) inT eg297 hx (fun γ => rfl), ar_str (m := X.length) (cap := c) 3 15 3 0 0 (X.length - 1 - i) (X1.set i y) x (fun γ => vI x) inT eg296 hy298 (fun γ => rfl), trivial⟩ fun γ299 w1 hM => ?_
    replace hM : Mm G w w1 [rw_ inL 1 3 (vL p X.length c) ((X1.set i y).set (X.length - 1 - i) x)] := hM
    refine seg 1 0 [(2, vI ((i : Int) + 1)), (3, vI (z - 1))] (fc (tadd (i : Int) 1 Tryz.underlying3) (fc (tsub z 1 Tryz.underlying3) f0)) (fewer _ (ih287 _ (by omega) (i + 1) (z - 1) ((X1.set i y).set (X.length - 1 - i) x) _ (hr.step (by omega) hx hy) (by omega) (by omega) hM rfl))
  exact fewer _ (lp286 _ 0 ((X.length : Int) - 1) X _ (RevI.zero X) (by omega) (Nat.zero_le _) hM rfl)
end Go.Proofs.YtbflfefahheidaaGreatDoor
/- Trips, plain. -/
set_option linter.unusedVariables false
set_option linter.unusedSimpArgs false
namespace Go.Proofs.YtbflfefahheidaaGreatDoor
open Go.RowKit Go.Pl
theorem rt2c {P : Program} {B : Code} {fn : Func} {Φ : Ending → World → Prop} {n : Nat} {p : Option (Nat × Nat)} {L : Frm} {w : World} {F : List Ft} (t T t2 : Nat) {g : Nat} {v : Value} (u : Value) (hr : fn.results = #[.cell t T, .tmp t2]) (hn : (t == t2) = false) (hv : (Instr.loadAt T (vP g 0)).run P w = .ok v w) (hF : AllF P w F) (k : Φ (.returned (.tuple #[v, u])) w) (h : finL (go P w n B p L 1000000 0 F) [(t, vP g 0), (t2, u)] L = finR (go P w n B p L 1000000 0 F) [(t, vP g 0), (t2, u)] := by kernel_rfl) : AtO P B (whole (bodyPost P fn Φ)) [] n p L w :=
 fin_ [(t, vP g 0), (t2, u)] hF h fun a E => by
  have hv' : a.eval (.tmp t) = vP g 0 := E.at_ t _ (by simp [Go.Pl.look])
  have hu' : a.eval (.tmp t2) = u := E.at_ t2 _ (by simp [Go.Pl.look, hn])
  have key : ∃ u, (results fn a.tmps).run P w = .ok u w ∧ Φ (.returned u) w := ⟨.tuple #[v, u], by
   have hl : a.tmps.getD t undef = vP g 0 := hv'
   have hl2 : a.tmps.getD t2 undef = u := hu'
   simp only [Instr.loadAt, Instr.sureAddr, Sem.run_bind, Sem.run_pure, Result.andThen_ok] at hv
   have hl' : a.tmps[t]?.getD undef = vP g 0 := by simpa using hl
   have hl2' : a.tmps[t2]?.getD undef = u := by simpa using hl2
   simp [results, hr, hl', hl2', asAddr, hv], k⟩
  exact ⟨⟨E.df, key⟩, ⟨E.df, key⟩⟩
/-- A slice's literal is a row of one's own. -/
theorem lit_row {α : Type} {f : α → List Value} {c E b : Nat} {cs : Array Value} {F0 : Nat → Prop} {w0 w : World} {M : List Ent} (h : Mm F0 w0 w M) {j : Nat} (hj : M[j]? = some (bk b cs E)) (L : List α) (n : Nat) (hL : L.flatMap f = cs.toList) (hn : L.length = n) (hc : cs.size = n * c) (hm : n ≤ 9223372036854775807 := by decide) : Mm F0 w0 w (M.set j (rw_ f c E (vL (some ⟨b, 0, none⟩) n n) L)) :=
 h.put j hj (Fr.refl (fun _ => False) _) (fun _ _ h => h.elim) (show ow f c E w 0 _ L from by
  refine ⟨by rw [hL, hn]; simpa using hc, .inr ⟨b, n, cs, by rw [hn], Nat.zero_le _, h.get j hj, by omega, by unfold maxLen; omega, hc, ?_⟩⟩
  rw [hL, hn, ← hc]
  exact List.take_of_length_le (by simp)) fun k e => .inl (by
  have e : some b = some k := e
  exact (Option.some.inj e).symm)
/-- A slice's literal as9 a source. -/
theorem src_lit {α : Type} {f : α → List Value} {c : Nat} {w : World} {b : Nat} {cs : Array Value} {T : TypeId} (hb : w.heap[b]? = some (.cells cs T (0, 0))) (L : List α) (n : Nat) (hf : ∀ x, (f x).length = c) (hL : L.flatMap f = cs.toList) (hn : L.length = n) (hm : n ≤ 9223372036854775807 := by decide) : SrcP f c w (some ⟨b, 0, none⟩) n L :=
 ⟨by omega, hm, .inr ⟨b, 0, rfl, lt_of_blk hb, fun i y hy j u hu => by
  have hi := (List.getElem?_eq_some_iff.1 hu).1
  rw [hf] at hi
  rw [cell_of_blk hb, Nat.zero_add]
  have := flat_at hf L i y hy j hi
  rw [hL, hu, Array.getElem?_toList] at this
  exact this⟩, fun h => by cases h⟩
/-- Entries as9 one. -/
def grpE (Ms : List Ent) : Ent where
 B := BlM Ms
 H := fun w => (∀ e ∈ Ms, e.H w) ∧ Ms.Pairwise fun x y => ∀ k, x.B k → ¬ y.B k
 lt := fun h ⟨e, he, hk⟩ => e.lt (h.1 e he) hk
 fr := fun h f hn => ⟨fun e he => e.fr (h.1 e he) f fun k hk => hn k ⟨e, he, hk⟩, h.2⟩
theorem Mm_grp {F0 : Nat → Prop} {w0 w : World} {A Ms : List Ent} (h : Mm F0 w0 w (A ++ Ms)) : Mm F0 w0 w (A ++ [grpE Ms]) := by
 have hnd := List.pairwise_append.1 h.nd
 refine ⟨h.fr, fun x hx => ?_, fun x hx k hk hl => ?_, ?_⟩
 ·rcases List.mem_append.1 hx with hx | hx
  ·exact h.at_ x (List.mem_append_left _ hx)
  ·rw [List.mem_singleton] at hx
   subst hx
   exact ⟨fun e he => h.at_ e (List.mem_append_right _ he), hnd.2.1⟩
 ·rcases List.mem_append.1 hx with hx | hx
  ·exact h.own x (List.mem_append_left _ hx) k hk hl
  ·rw [List.mem_singleton] at hx
   subst hx
   obtain ⟨e, he, hk⟩ := hk
   exact h.own e (List.mem_append_right _ he) k hk hl
 ·refine List.pairwise_append.2 ⟨hnd.1, List.pairwise_singleton _ _, fun x hx y hy k hxk hyk => ?_⟩
  rw [List.mem_singleton] at hy
  subst hy
  obtain ⟨e, he, hk⟩ := hyk
  exact hnd.2.2 x hx e he k hxk hk
theorem Mm_wk {F0 G : Nat → Prop} {w0 w : World} {M : List Ent} (h : Mm F0 w0 w M) (hG : ∀ k, F0 k → G k) : Mm G w0 w M := ⟨h.fr.mono fun r _ h => hG r h, h.at_, fun e he k hk hl => hG k (h.own e he k hk hl), h.nd⟩
/-- What is left of a network's memory beside its block and its arcs. -/
noncomputable abbrev stR (bo br bb no nr nb : Nat) (prof : Bys) (os : List ObR) (T : OutT) (T2 : RdT) : List Ent :=
 [mp Tryz.prog 9 bo no (outF T), bagE inL 1 3 (T.map (·.2)), mp Tryz.prog 9 br nr (rdF prof T2), bagE spL 2 141 (hrB T2), mp Tryz.prog 114 bb nb (setT (bans prof os))]
theorem stF_of {F0 : Nat → Prop} {w0 w wV : World} {M : List Ent} {bs ca bo br bb no nr nb : Nat} {qa : Option Addr} {prof : Bys} {v : Value} {os : List ObR} {T : OutT} {T2 : RdT} (h : Mm F0 w0 w M) {i j k : Nat} (hi : M[i]? = some (bk bs #[vS prof, vL qa (AS os).length ca, .map (some bo), .map (some br), .map (some bb)] 80)) (hj : M[j]? = some (rw_ arL 4 47 (vL qa (AS os).length ca) (AS os))) (hk : M[k]? = some (grpE (stR bo br bb no nr nb prof os T T2))) (hm : ObsV wV v os) (hf : Fr (fun _ => False) wV w) (hT2 : T2.map (·.1) = waysR os) : StF w bs ca bo br bb no nr nb qa prof os T T2 := by
 obtain ⟨hg, -⟩ := h.get k hk
 have g0 : MapN Tryz.prog 9 w bo no (outF T) := hg (mp Tryz.prog 9 bo no (outF T)) (by simp)
 have g1 := (hg (bagE inL 1 3 (T.map (·.2))) (by simp)).1
 have g2 : MapN Tryz.prog 9 w br nr (rdF prof T2) := hg (mp Tryz.prog 9 br nr (rdF prof T2)) (by simp)
 have g3 := (hg (bagE spL 2 141 (hrB T2)) (by simp)).1
 have g4 : MapN Tryz.prog 114 w bb nb (setT (bans prof os)) := hg (mp Tryz.prog 114 bb nb (setT (bans prof os))) (by simp)
 refine ⟨h.get i hi, ((h.src hj arT.len).p).2, g0, fun x hx => ?_, g2, fun x hx => ?_, fun x hx => ?_, g4, fun a ha => arcs_b (fun b hb => (hm.2 b hb).bnd) a (nub_mem ha)⟩
 ·have := g1 x.2 (List.mem_map.2 ⟨x, hx, rfl⟩)
  exact ow.src inT.len this
 ·have := g3 (x.2, hoursL x.1.o) (List.mem_map.2 ⟨x, hx, rfl⟩)
  exact ow.src (f := spL) (c := 2) (fun _ => rfl) this
 ·have h1 : x.1 ∈ waysR os := hT2 ▸ List.mem_map.2 ⟨x, hx, rfl⟩
  unfold waysR at h1
  rw [List.mem_reverse, List.mem_filter] at h1
  exact ((hm.fr hf).2 x.1 h1.1).refs
/-- Whether an arc is taken in the place of the last one so far. -/
def lastB (t : Nat → Option Int) (l : Option Nat) (k : Nat) : Bool := match l with
 | none => true
 | some j => decide ((t k).getD 0 < (t j).getD 0)
/-- The first of the arcs that lead to a node at the least minute. -/
def lastF (A : List Arc) (t : Nat → Option Int) (g : Bys) : Nat → Option Nat
 | 0 => none
 | k + 1 => match A[k]? with
  | some a => bif (t k).isSome && (a.2.1 == g) && lastB t (lastF A t g k) k then some k else lastF A t g k
  | none => lastF A t g k
theorem lastF_step {A : List Arc} {t : Nat → Option Int} {g : Bys} {k : Nat} {a : Arc} (h : A[k]? = some a) : lastF A t g (k + 1) = bif (t k).isSome && (a.2.1 == g) && lastB t (lastF A t g k) k then some k else lastF A t g k := by
 show (match A[k]? with | some a => bif (t k).isSome && (a.2.1 == g) && lastB t (lastF A t g k) k then some k else lastF A t g k | none => lastF A t g k) = _
 rw [h]
theorem lastF_lt {A : List Arc} {t : Nat → Option Int} {g : Bys} : ∀ {n j : Nat}, lastF A t g n = some j → j < n ∧ j < A.length ∧ (t j).isSome = true
 | 0, j, h => by cases h
 | n + 1, j, h => by
  cases ha : A[n]? with
  | none =>
   unfold lastF at h; rw [ha] at h
   have := lastF_lt h
   exact ⟨by omega, this.2⟩
  | some a =>
   rw [lastF_step ha] at h
   cases hc : ((t n).isSome && (a.2.1 == g) && lastB t (lastF A t g n) n) with
   | true =>
    rw [hc] at h; cases h
    simp only [Bool.and_eq_true] at hc
    exact ⟨Nat.lt_succ_self _, gl ha, hc.1.1⟩
   | false =>
    rw [hc] at h
    have := lastF_lt h
    exact ⟨by omega, this.2⟩
/-- The arcs of a trip, from the last one back. -/
def bkF (N : NetW) (m0 : Int) (t : Nat → Option Int) : Nat → Nat → List Nat
 | 0, i => [i]
 | F + 1, i => i :: match befP N m0 t i with
  | some k => bkF N m0 t F k
  | none => []
theorem bkF_succ (N : NetW) (m0 : Int) (t : Nat → Option Int) (F i : Nat) : bkF N m0 t (F + 1) i = i :: match befP N m0 t i with | some k => bkF N m0 t F k | none => [] := rfl
def bkP (N : NetW) (m0 : Int) (t : Nat → Option Int) (i : Nat) : List Nat := bkF N m0 t ((t i).getD 0).toNat i
/-- Every arc before another one is reached ahead of it. -/
def BefOk (N : NetW) (m0 : Int) (t : Nat → Option Int) : Prop := ∀ i k, i < N.n → befP N m0 t i = some k → k < N.n ∧ (t k).isSome = true ∧ 0 ≤ (t k).getD 0 ∧ (t k).getD 0 < (t i).getD 0
theorem befOk_of {N : NetW} {B m0 : Int} {t : Nat → Option Int} (hN : N.Ok B) (h0 : 0 ≤ m0) (hT : Tab N m0 t) : BefOk N m0 t := by
 intro i k hi h
 unfold befP at h
 cases hA : befA N m0 t i with
 | true => rw [hA] at h; cases h
 | false =>
  rw [hA] at h
  have h : (List.range N.n).find? (befB N t i) = some k := h
  have h1 := List.find?_some h
  have h2 := List.mem_range.1 (List.mem_of_find?_eq_some h)
  unfold befB at h1
  simp only [Bool.and_eq_true] at h1
  obtain ⟨⟨h3, h4⟩, h5, h6⟩ := h1
  obtain ⟨m, hm⟩ := Option.isSome_iff_exists.1 h3
  obtain ⟨x, hx⟩ := Option.isSome_iff_exists.1 h5
  have hg := (hT.snd _ _ hm).ge hN h0
  rw [hm] at hx h6 ⊢
  have hx : N.ps i m = some x := hx
  have h6 := et h6
  have h6 : (N.ps i m).getD 0 = (t i).getD 0 := h6
  rw [hx] at h6
  have := hN.gt hi (by omega) hx
  have h7 : x = (t i).getD 0 := h6
  exact ⟨h2, rfl, by show (0 : Int) ≤ m; omega, by show m < _; omega⟩
theorem bkF_any {N : NetW} {m0 : Int} {t : Nat → Option Int} (hB : BefOk N m0 t) : ∀ (F : Nat) (i : Nat), i < N.n → ((t i).getD 0).toNat ≤ F → bkF N m0 t F i = bkP N m0 t i := by
 intro F
 induction F using Nat.strongRecOn with
 | _ F ih =>
  intro i hi hF
  unfold bkP
  cases F with
  | zero => rw [show ((t i).getD 0).toNat = 0 by omega]
  | succ F =>
   cases hb : befP N m0 t i with
   | none =>
    rw [bkF_succ, hb]
    cases ((t i).getD 0).toNat with
    | zero => rfl
    | succ n => rw [bkF_succ, hb]
   | some k =>
    obtain ⟨h1, _, h2, h3⟩ := hB i k hi hb
    obtain ⟨n, hn⟩ : ∃ n, ((t i).getD 0).toNat = n + 1 := ⟨((t i).getD 0).toNat - 1, by omega⟩
    rw [hn, bkF_succ, bkF_succ, hb]
    simp only
    rw [ih F (Nat.lt_succ_self _) k h1 (by omega)]
    rcases Nat.lt_or_ge n (F + 1) with h | h
    ·rw [ih n h k h1 (by omega)]
    ·have : n = F := by omega
     rw [this, ih F (Nat.lt_succ_self _) k h1 (by omega)]
theorem bkP_eq {N : NetW} {m0 : Int} {t : Nat → Option Int} (hB : BefOk N m0 t) {i : Nat} (hi : i < N.n) : bkP N m0 t i = i :: match befP N m0 t i with | some k => bkP N m0 t k | none => [] := by
 rw [← bkF_any hB (((t i).getD 0).toNat + 1) i hi (Nat.le_succ _)]
 rw [bkF_succ]
 cases hb : befP N m0 t i with
 | none => rfl
 | some k =>
  obtain ⟨h1, _, h2, h3⟩ := hB i k hi hb
  show i :: bkF N m0 t _ k = _
  rw [bkF_any hB _ k h1 (by omega)]
theorem bkF_len (N : NetW) (m0 : Int) (t : Nat → Option Int) : ∀ (F i : Nat), (bkF N m0 t F i).length ≤ F + 1
 | 0, i => by simp [bkF]
 | F + 1, i => by
  rw [bkF_succ]
  cases befP N m0 t i with
  | none => simp
  | some k => have := bkF_len N m0 t F k; simp only [List.length_cons]; omega
theorem bkP_len {N : NetW} {m0 : Int} {t : Nat → Option Int} {i : Nat} (h : (t i).getD 0 ≤ 6000000000) : (bkP N m0 t i).length ≤ 6000000001 := by
 have := bkF_len N m0 t ((t i).getD 0).toNat i
 unfold bkP; omega
def toN (A : List Arc) (j : Nat) : Bys := match A[j]? with
 | some a => a.2.1
 | none => []
theorem toN_at {A : List Arc} {j : Nat} {a : Arc} (h : A[j]? = some a) : toN A j = a.2.1 := by unfold toN; rw [h]
/-- What Trip answers. -/
def TripR (prof : Bys) (os : List ObR) (f g : Bys) (m0 c : Int) (nd : List Bys) (mi : List Int) : Prop :=
 (¬ chkP os prof m0 [f, g] = 0 ∧ c = chkP os prof m0 [f, g] ∧ nd = [] ∧ mi = []) ∨ (chkP os prof m0 [f, g] = 0 ∧ f = g ∧ c = 0 ∧ nd = [f] ∧ mi = [m0]) ∨
 (chkP os prof m0 [f, g] = 0 ∧ f ≠ g ∧ ∃ t, Tab (netOf prof os f) m0 t ∧ ((lastF (AS os) t g (AS os).length = none ∧ c = 12 ∧ nd = [] ∧ mi = []) ∨
  ∃ i, lastF (AS os) t g (AS os).length = some i ∧ c = 0 ∧ nd = ((bkP (netOf prof os f) m0 t i).map (toN (AS os)) ++ [f]).reverse ∧ mi = ((bkP (netOf prof os f) m0 t i).map (fun j => (t j).getD 0) ++ [m0]).reverse))
theorem chkP_ok {os : List ObR} {prof : Bys} {m0 : Int} {ids : List Bys} (h : chkP os prof m0 ids = 0) : validMap (pure_ os) = true ∧ nameB prof = true ∧ 0 ≤ m0 ∧ m0 ≤ 9999999 ∧ ids.any (fun id => decide (findI (pure_ os) id < 0)) = false ∧ ids.any (noNode os) = false := by
 unfold chkP at h
 cases h1 : (!(validMap (pure_ os)) || (!(nameB prof) || (decide (m0 < 0) || decide (9999999 < m0)))) with
 | true => rw [h1] at h; cases h
 | false =>
  rw [h1] at h
  simp only [Bool.or_eq_false_iff, Bool.not_eq_false', decide_eq_false_iff_not] at h1
  cases h2 : ids.any (fun id => decide (findI (pure_ os) id < 0)) with
  | true => rw [h2] at h; cases h
  | false =>
   rw [h2] at h
   cases h3 : ids.any (noNode os) with
   | true => rw [h3] at h; cases h
   | false => exact ⟨h1.1, h1.2.1, by omega, by omega, rfl, rfl⟩
end Go.Proofs.YtbflfefahheidaaGreatDoor
/- Trips. -/
set_option linter.unusedVariables false
set_option linter.unusedSimpArgs false
namespace Go.Proofs.YtbflfefahheidaaGreatDoor
open Go.RowKit Go.Pl
def lastZ (l : Option Nat) : Int := match l with
  | none => -1
  | some j => j
def bestZ (t : Nat → Option Int) (l : Option Nat) : Int := match l with
  | none => 0
  | some j => (t j).getD 0
theorem lastB_neg {t : Nat → Option Int} {l : Option Nat} {k : Nat} (h : lastZ l < 0) : lastB t l k = true := by
  cases l with
  | none => rfl
  | some j => have : ((j : Nat) : Int) < 0 := h; omega
theorem lastB_pos {t : Nat → Option Int} {l : Option Nat} {k : Nat} (h : ¬ lastZ l < 0) : lastB t l k = decide ((t k).getD 0 < bestZ t l) := by
  cases l with
  | none => exact absurd (by decide) h
  | some j => rfl
theorem bkP_next {N : NetW} {m0 : Int} {t : Nat → Option Int} (hB : BefOk N m0 t) {i : Nat} (hi : i < N.n) : [i] ++ (bif (befP N m0 t i).isSome then bkP N m0 t ((befP N m0 t i).getD 0) else []) = bkP N m0 t i := by
  rw [bkP_eq hB hi]
  cases befP N m0 t i <;> rfl
theorem bef_next {N : NetW} {m0 : Int} {t : Nat → Option Int} (hB : BefOk N m0 t) {i : Nat} (hi : i < N.n) : ((befP N m0 t i).isSome = true → (befP N m0 t i).getD 0 < N.n ∧ (t ((befP N m0 t i).getD 0)).isSome = true) ∧ (bif (befP N m0 t i).isSome then ((t ((befP N m0 t i).getD 0)).getD 0).toNat + 1 else 0) < ((t i).getD 0).toNat + 1 := by
  cases h : befP N m0 t i with
  | none => exact ⟨fun h => (by cases h), by simp⟩
  | some k =>
    obtain ⟨h1, h2, h3, h4⟩ := hB i k hi h
    exact ⟨fun _ => ⟨h1, h2⟩, by show ((t k).getD 0).toNat + 1 < _; omega⟩
theorem srcP_one {α : Type} {f : α → List Value} {c : Nat} {w : World} {b : Nat} {x : α} {T : TypeId} (hb : w.heap[b]? = some (.cells (f x).toArray T (0, 0))) : SrcP f c w (some ⟨b, 0, none⟩) 1 [x] :=
  ⟨Nat.le_refl _, by omega, .inr ⟨b, 0, rfl, lt_of_blk hb, fun i y hy => by
    cases i with
    | zero =>
      simp only [List.getElem?_cons_zero, Option.some.injEq] at hy
      subst hy
      intro j u hu
      rw [cell_of_blk hb]
      simpa using hu
    | succ i => simp at hy⟩, fun h => by cases h⟩
abbrev A12 (Φ : Ending → World → Prop) := AtO Tryz.prog (bodyOf Tryz.f12) (whole (bodyPost Tryz.prog Tryz.f12 Φ)) [] 143
theorem trip_calls {w : World} {v : Value} {os : List ObR} (hmv : ObsV w v os) {prof f g : Bys} (hp63 : prof.length ≤ 9223372036854775807) (hf63 : B63 f) (hlen : validMap (pure_ os) = true → (arcsP os).length ≤ 240) (hTe : Te w) (m0 : Int) : Calls Tryz.prog 12 #[.agg #[v], vS prof, vS f, vS g, vI m0] w fun e w' => ∃ v1 v2 c nd mi, e = .returned (.tuple #[.agg #[v1, v2], vI c]) ∧ TripR prof os f g m0 c nd mi ∧ Mm (fun _ => False) w w' [rw_ stL 1 9 v1 nd, rw_ inL 1 3 v2 mi] := by
  have hm0 := hmv; obtain ⟨hs0, hob⟩ := hm0
  obtain ⟨p0, cp0, hp0, sp0⟩ := hs0.op
  subst hp0; have bp0 := sp0.bnd
  refine beg Tryz.func12 rfl rfl [(0, .agg #[vL p0 os.length cp0]), (1, vS prof), (2, vS f), (3, vS g), (4, vI m0)] rfl rfl fun Φ hΦ => ?_
  have hM := Mm.nil (fun _ => False) w
  refine newm 0 0 5 [] (cs := #[vL p0 os.length cp0]) (T := 24) (v := fun b => vP b 0) f0 hM fun b300 w1 hM => newm 0 1 10 [] (cs := #[vL none 0 0, vL none 0 0]) (T := 31) (v := fun b => vP b 0) f0 hM fun b301 w1 hM => newm 1 5 30 [(25, .agg #[vL p0 os.length cp0]), (26, vS prof), (27, vI m0), (28, vS f), (29, vS g)] (cs := #[vS f, vS g]) (T := 9) (v := fun b => vL (some ⟨b, 0, none⟩) 2 2) (fc (lam 24 0 0 1 hM rfl) f0) hM fun b302 w1 hM => calm 1 6 31 [] f0 hM (checked_calls (hmv.fr hM.fr) hp63 m0 (ids := [f, g]) (src_two (f := stL) (c := 1) (fun _ => rfl) (by decide) (hM.get 2 rfl))) fun w1 hM => seg 2 2 [(12, vI (chkP os prof m0 [f, g])), (33, vB (!((chkP os prof m0 [f, g]) == 0)))] f0 ?_
  cases h303 : ((chkP os prof m0 [f, g]) == 0) with
  | false =>
   have rh303 := ef h303
   refine stm 3 2 [(34, .agg #[vL none 0 0, vL none 0 0]), (35, vI (chkP os prof m0 [f, g]))] 31 1 0 (.agg #[vL none 0 0, vL none 0 0]) f0 hM rfl fun w1 hM => ?_
   have hl9 := run_loadW 31 1 (P := Tryz.prog) (n := 2) hM rfl rfl
   exact rt2c 10 31 11 (vI (chkP os prof m0 [f, g])) rfl rfl hl9 f0 (hΦ _ _ ⟨(vL none 0 0), (vL none 0 0), _, [], [], rfl, .inl ⟨ef h303, rfl, rfl, rfl⟩, (hM.pick (M' := []) []).row.row⟩)
  | true =>
   have rh303 := et h303
   refine seg 4 3 [(38, vB (f == g))] (fc (seq 9 f g) f0) ?_
   cases h304 : (f == g) with
   | false =>
    have rh304 := ef h304
    have hchk := et h303
    obtain ⟨hvm, -, h0, h1, hany, hno⟩ := chkP_ok hchk
    have hnn : (AS os).length ≤ 240 := Nat.le_trans (nub_len _) (hlen hvm)
    have hNo := netOf_ok (prof := prof) (fun a ha => arcs_b (fun b hb => (hmv.2 b hb).bnd) a (nub_mem ha) : ∀ a ∈ AS os, ArcB a) f
    skip
    refine calM 6 2 46 [(44, .agg #[vL p0 os.length cp0]), (45, vS prof)] (K := fun u Mn => ∃ bs ca bo br bb no nr nb qa T T2, u = vP bs 0 ∧ (∀ s, rowOf T s = idxs (AS os) s) ∧ T2.map (·.1) = waysR os ∧ Mn = stM bs ca bo br bb no nr nb qa prof os T T2) [0, 1, 2] [] (fc (lam 24 0 0 1 hM rfl) f0) hM rfl rfl (by decide) (fun hm => ((pathOf_calls (hmv.fr hM.fr) hvm (by have := hlen hvm; omega) (hTe.fr hM.fr)).mono fun e w8 ⟨bs, ca, bo, br, bb, no, nr, nb, qa, T, T2, h1, _, h2, h3, h4⟩ => ⟨_, _, h1, ⟨bs, ca, bo, br, bb, no, nr, nb, qa, T, T2, rfl, h2, h3, rfl⟩, Mm_wk h4 fun _ h => h.elim⟩)) fun u Mn w1 hK hM => ?_
    obtain ⟨bs, ca, bo, br, bb, no, nr, nb, qa, T, T2, rfl, hTr, hT2, rfl⟩ := hK
    have hM := Mm_grp (A := [bk b300 #[vL p0 os.length cp0] 24, bk b301 #[vL none 0 0, vL none 0 0] 31, bk b302 #[vS f, vS g] 9, bk bs #[vS prof, vL qa (AS os).length ca, .map (some bo), .map (some br), .map (some bb)] 80, rw_ arL 4 47 (vL qa (AS os).length ca) (AS os)]) (Ms := stR bo br bb no nr nb prof os T T2) hM
    refine calM 7 3 50 [(13, vP bs 0), (47, vP bs 0), (48, vS f), (49, vI m0)] (K := fun u Mn => ∃ b n t, u = .agg #[.map (some b)] ∧ Tab (netOf prof os f) m0 t ∧ Mn = [tbE b n t]) [0, 1, 2, 3, 4, 5] [] f0 hM rfl rfl (by decide) (fun hm => ((earliest_calls (stF_of hM (i := 3) (j := 4) (k := 5) rfl rfl rfl hmv hM.fr hT2) hT2 hTr hnn hf63 h0 (by omega)).mono fun e w8 ⟨b, n, t, h1, h2, h3⟩ => ⟨_, _, h1, ⟨b, n, t, rfl, h2, rfl⟩, Mm_wk h3 fun _ h => h.elim⟩)) fun u Mn w1 hK hM => ?_
    obtain ⟨b, n, t, rfl, hT, rfl⟩ := hK
    have hB := befOk_of hNo h0 hT
    have htb : ∀ k m, t k = some m → 0 ≤ m ∧ m ≤ 6000000000 := fun k m e => ⟨by have := (hT.snd k m e).ge hNo h0; omega, (hT.snd k m e).le hNo h0⟩
    refine varm 7 4 14 [] [] 73 (.agg #[.map (some b)]) f0 hM fun b305 w1 hM => seg 10 0 [(15, vI (-1)), (16, vI 0), (54, vL qa (AS os).length ca), (55, vI ((AS os).length : Int)), (56, vI 0)] (fc (ldm 75 3 1 hM rfl rfl) f0) ?_
    have lp306 : ∀ (m308 : Nat) (k : Nat) (lz : Int) (bz : Int) (w2 : World), k ≤ (AS os).length → lz = lastZ (lastF (AS os) t g k) → bz = bestZ t (lastF (AS os) t g k) → Mm (fun _ => False) w w2 [bk b300 #[vL p0 os.length cp0] 24, bk b301 #[vL none 0 0, vL none 0 0] 31, bk b302 #[vS f, vS g] 9, bk bs #[vS prof, vL qa (AS os).length ca, .map (some bo), .map (some br), .map (some bb)] 80, rw_ arL 4 47 (vL qa (AS os).length ca) (AS os), grpE (stR bo br bb no nr nb prof os T T2), mp Tryz.prog 3 b n (tabV t), bk b305 #[.map (some b)] 73] → m308 = (AS os).length - k → A12 Φ (some (10, 0)) [(56, vI (k : Int)), (55, vI ((AS os).length : Int)), (54, vL qa (AS os).length ca), (16, vI bz), (15, vI lz), (14, vP b305 0), (13, vP bs 0), (10, vP b301 0), (2, vS f), (3, vS g), (4, vI m0)] w2 := by
     refine srec fun m308 ih307 k lz bz w2 hk hlz hbz hM hm308 => seg 10 1 [(57, vB (decide ((k : Int) < ((AS os).length : Int))))] f0 ?_
     cases h309 : (decide ((k : Int) < ((AS os).length : Int))) with
     | false =>
      have rh309 := df h309
      have hkn : k = (AS os).length := by omega
      subst hkn
      refine seg 16 2 [(87, vB (decide (lz < 0)))] f0 ?_
      cases h310 : (decide (lz < 0)) with
      | false =>
       have rh310 := df h310
       have hlz9 := df h310
       obtain ⟨i0, hi0⟩ : ∃ i, lastF (AS os) t g (AS os).length = some i := by
         cases hl : lastF (AS os) t g (AS os).length with
         | none => rw [hl] at hlz; exact absurd (hlz ▸ (by decide : (-1 : Int) < 0)) hlz9
         | some i => exact ⟨i, rfl⟩
       rw [hi0] at hlz
       have hlz : lz = (i0 : Int) := hlz
       subst hlz
       obtain ⟨hi1, -, hi2⟩ := lastF_lt hi0
       have hbl := bkP_len (N := netOf prof os f) (m0 := m0) (t := t) (i := i0) (by cases e : t i0 with | none => (show (0 : Int) ≤ _; omega) | some m => exact (htb i0 m e).2)
       refine newm 18 0 21 [] (cs := #[vL none 0 0, vL none 0 0]) (T := 31) (v := fun b => vP b 0) f0 hM fun b311 w1 hM => ?_
       have hM := hM.row (f := stL) (c := 1) (E := 9)
       have hM := hM.row (f := inL) (c := 1) (E := 3)
       refine seg 20 0 [(22, vB true)] f0 ?_
       have lp312 : ∀ (m314 : Nat) (i : Nat) (more : Bool) (L : List Nat) (v1 : Value) (v2 : Value) (w2 : World), L ++ (bif more then bkP (netOf prof os f) m0 t i else []) = bkP (netOf prof os f) m0 t i0 → (more = true → i < (AS os).length ∧ (t i).isSome = true) → Mm (fun _ => False) w w2 [bk b300 #[vL p0 os.length cp0] 24, bk b301 #[vL none 0 0, vL none 0 0] 31, bk b302 #[vS f, vS g] 9, bk bs #[vS prof, vL qa (AS os).length ca, .map (some bo), .map (some br), .map (some bb)] 80, rw_ arL 4 47 (vL qa (AS os).length ca) (AS os), grpE (stR bo br bb no nr nb prof os T T2), mp Tryz.prog 3 b n (tabV t), bk b305 #[.map (some b)] 73, bk b311 #[v1, v2] 31, rw_ stL 1 9 v1 (L.map (toN (AS os))), rw_ inL 1 3 v2 (L.map fun j => (t j).getD 0)] → m314 = (bif more then ((t i).getD 0).toNat + 1 else 0) → A12 Φ (some (20, 0)) [(22, vB more), (21, vP b311 0), (15, vI (i : Int)), (14, vP b305 0), (13, vP bs 0), (10, vP b301 0), (2, vS f), (4, vI m0)] w2 := by
        refine srec fun m314 ih313 i more L v1 v2 w2 hL hmr hM hm314 => seg 20 1 [(89, vB more)] f0 ?_
        cases h315 : more with
        | false =>
         subst h315
         have hL : L = _ := (List.append_nil L).symm.trans hL
         have hLl : L.length ≤ 6000000001 := by rw [hL]; exact hbl
         refine seg 24 0 [] f0 ?_
         have hM := hM.nl
         have hM := hM.nl
         refine drx [1, 3, 4, 6, 8, 9, 11, 13] (fun γ => [some (v1), some (vL (some ⟨(bn (γ 1)), 0, none⟩) 1 1), some (vL (slp (γ 2)) ((L.map (toN (AS os))) ++ [f]).length (slc (γ 2))), some (v2), some (vL (some ⟨(bn (γ 4)), 0, none⟩) 1 1), some (vL (slp (γ 5)) ((L.map fun j => (t j).getD 0) ++ [m0]).length (slc (γ 5))), none, none]) _ (fun γ l => [bk b300 #[vL p0 os.length cp0] 24, bk b301 #[vL none 0 0, vL none 0 0] 31, bk b302 #[vS f, vS g] 9, bk bs #[vS prof, vL qa (AS os).length ca, .map (some bo), .map (some br), .map (some bb)] 80, rw_ arL 4 47 (vL qa (AS os).length ca) (AS os), grpE (stR bo br bb no nr nb prof os T T2), mp Tryz.prog 3 b n (tabV t), bk b305 #[.map (some b)] 73, bk b311 #[(bif l.getD 6 false then vL (slp (γ 2)) ((L.map (toN (AS os))) ++ [f]).length (slc (γ 2)) else v1), (bif l.getD 7 false then vL (slp (γ 5)) ((L.map fun j => (t j).getD 0) ++ [m0]).length (slc (γ 5)) else v2)] 31, (bif l.getD 2 false then rw_ stL 1 9 (vL (slp (γ 2)) ((L.map (toN (AS os))) ++ [f]).length (slc (γ 2))) ((L.map (toN (AS os))) ++ [f]) else rw_ stL 1 9 v1 (L.map (toN (AS os)))), (bif l.getD 5 false then rw_ inL 1 3 (vL (slp (γ 5)) ((L.map fun j => (t j).getD 0) ++ [m0]).length (slc (γ 5))) ((L.map fun j => (t j).getD 0) ++ [m0]) else rw_ inL 1 3 v2 (L.map fun j => (t j).getD 0)), (bif l.getD 1 false then bk (bn (γ 1)) #[vS f] 9 else nilE), (bif l.getD 4 false then bk (bn (γ 4)) #[vI m0] 3 else nilE)]) (fun γ => []) hM (fun γ => rfl) (fun γ l w5 hM => f0) ⟨ar_ld 0 1 28 8 0 125 (fun γ => b311) (fun γ l => #[(bif l.getD 6 false then vL (slp (γ 2)) ((L.map (toN (AS os))) ++ [f]).length (slc (γ 2)) else v1), (bif l.getD 7 false then vL (slp (γ 5)) ((L.map fun j => (t j).getD 0) ++ [m0]).length (slc (γ 5)) else v2)]) 31 (fun γ => v1), ar_new 1 3 11 127 (fun γ => #[vS f]) 9 (fun b => vL (some ⟨b, 0, none⟩) 1 1), ar_appv 2 4 9 128 28 9 0 (fun γ => v1) (L.map (toN (AS os))) [f] (fun γ => (bn (γ 1))) 1 stT (by simp only [List.length_map, List.length_cons, List.length_nil]; omega) (fun γ fr wm hM => src_one (f := stL) (x := f) (hM.get 11 (e := bk ((bn (γ 1))) (stL f).toArray 9) (by kernel_rfl)) (Nat.lt_succ_self _)), ar_ld 3 6 29 8 1 130 (fun γ => b311) (fun γ l => #[(bif l.getD 6 false then vL (slp (γ 2)) ((L.map (toN (AS os))) ++ [f]).length (slc (γ 2)) else v1), (bif l.getD 7 false then vL (slp (γ 5)) ((L.map fun j => (t j).getD 0) ++ [m0]).length (slc (γ 5)) else v2)]) 31 (fun γ => v2), ar_new 4 8 12 132 (fun γ => #[vI m0]) 3 (fun b => vL (some ⟨b, 0, none⟩) 1 1), ar_appv 5 9 10 133 29 3 0 (fun γ => v2) (L.map fun j => (t j).getD 0) [m0] (fun γ => (bn (γ 4))) 1 inT (by simp only [List.length_map, List.length_cons, List.length_nil]; omega) (fun γ fr wm hM => src_one (f := inL) (x := m0) (hM.get 12 (e := bk ((bn (γ 4))) (inL m0).toArray 3) (by kernel_rfl)) (Nat.lt_succ_self _)), ar_st 6 11 28 8 0 (fun γ => b311) (fun γ l => #[(bif l.getD 6 false then vL (slp (γ 2)) ((L.map (toN (AS os))) ++ [f]).length (slc (γ 2)) else v1), (bif l.getD 7 false then vL (slp (γ 5)) ((L.map fun j => (t j).getD 0) ++ [m0]).length (slc (γ 5)) else v2)]) 31 (fun γ => vL (slp (γ 2)) ((L.map (toN (AS os))) ++ [f]).length (slc (γ 2))), ar_st 7 13 29 8 1 (fun γ => b311) (fun γ l => #[(bif l.getD 6 false then vL (slp (γ 2)) ((L.map (toN (AS os))) ++ [f]).length (slc (γ 2)) else v1), (bif l.getD 7 false then vL (slp (γ 5)) ((L.map fun j => (t j).getD 0) ++ [m0]).length (slc (γ 5)) else v2)]) 31 (fun γ => vL (slp (γ 5)) ((L.map fun j => (t j).getD 0) ++ [m0]).length (slc (γ 5))), trivial⟩ fun γ316 w1 hM => ?_
         replace hM : Mm (fun _ => False) w w1 [bk b300 #[vL p0 os.length cp0] 24, bk b301 #[vL none 0 0, vL none 0 0] 31, bk b302 #[vS f, vS g] 9, bk bs #[vS prof, vL qa (AS os).length ca, .map (some bo), .map (some br), .map (some bb)] 80, rw_ arL 4 47 (vL qa (AS os).length ca) (AS os), grpE (stR bo br bb no nr nb prof os T T2), mp Tryz.prog 3 b n (tabV t), bk b305 #[.map (some b)] 73, bk b311 #[vL (slp (γ316 2)) ((L.map (toN (AS os))) ++ [f]).length (slc (γ316 2)), vL (slp (γ316 5)) ((L.map fun j => (t j).getD 0) ++ [m0]).length (slc (γ316 5))] 31, rw_ stL 1 9 (vL (slp (γ316 2)) ((L.map (toN (AS os))) ++ [f]).length (slc (γ316 2))) ((L.map (toN (AS os))) ++ [f]), rw_ inL 1 3 (vL (slp (γ316 5)) ((L.map fun j => (t j).getD 0) ++ [m0]).length (slc (γ316 5))) ((L.map fun j => (t j).getD 0) ++ [m0]), bk (bn (γ316 1)) #[vS f] 9, bk (bn (γ316 4)) #[vI m0] 3] := hM
         refine calM 25 2 138 [(137, vL (slp (γ316 2)) ((L.map (toN (AS os))) ++ [f]).length (slc (γ316 2)))] (K := fun u Mn => u = .tuple #[] ∧ Mn = [rw_ stL 1 9 (vL (slp (γ316 2)) ((L.map (toN (AS os))) ++ [f]).length (slc (γ316 2))) ((L.map (toN (AS os))) ++ [f]).reverse]) [0, 1, 2, 3, 4, 5, 6, 7, 8, 10, 11, 12] [9] (fc (ldm 28 8 0 hM rfl rfl) f0) hM rfl rfl (by decide) (fun hm => (revS_calls hm)) fun u Mn w1 hK hM => ?_
         obtain ⟨rfl, rfl⟩ := hK
         refine calM 26 2 141 [(140, vL (slp (γ316 5)) ((L.map fun j => (t j).getD 0) ++ [m0]).length (slc (γ316 5)))] (K := fun u Mn => u = .tuple #[] ∧ Mn = [rw_ inL 1 3 (vL (slp (γ316 5)) ((L.map fun j => (t j).getD 0) ++ [m0]).length (slc (γ316 5))) ((L.map fun j => (t j).getD 0) ++ [m0]).reverse]) [0, 1, 2, 3, 4, 5, 6, 7, 8, 10, 11, 12] [9] (fc (ldm 29 8 1 hM rfl rfl) f0) hM rfl rfl (by decide) (fun hm => (revI_calls hm)) fun u Mn w1 hK hM => ?_
         obtain ⟨rfl, rfl⟩ := hK
         refine stm 27 1 [(142, .agg #[vL (slp (γ316 2)) ((L.map (toN (AS os))) ++ [f]).length (slc (γ316 2)), vL (slp (γ316 5)) ((L.map fun j => (t j).getD 0) ++ [m0]).length (slc (γ316 5))])] 31 1 0 (.agg #[vL (slp (γ316 2)) ((L.map (toN (AS os))) ++ [f]).length (slc (γ316 2)), vL (slp (γ316 5)) ((L.map fun j => (t j).getD 0) ++ [m0]).length (slc (γ316 5))]) (fc (lam 31 8 0 2 hM rfl) f0) hM rfl fun w1 hM => ?_
         have hl9 := run_loadW 31 1 (P := Tryz.prog) (n := 2) hM rfl rfl
         exact rt2c 10 31 11 (vI 0) rfl rfl hl9 f0 (hΦ _ _ ⟨(vL (slp (γ316 2)) ((L.map (toN (AS os))) ++ [f]).length (slc (γ316 2))), (vL (slp (γ316 5)) ((L.map fun j => (t j).getD 0) ++ [m0]).length (slc (γ316 5))), _, _, _, rfl, .inr (.inr ⟨et h303, ef h304, t, hT, .inr ⟨i0, hi0, rfl, by rw [← hL], by rw [← hL]⟩⟩), hM.pick [11, 12]⟩)
        | true =>
         subst h315
         have hil : i < (AS os).length := (hmr rfl).1
         obtain ⟨a, ha⟩ := geb (l := AS os) (i := i) hil
         have hLl : L.length + (bkP (netOf prof os f) m0 t i).length ≤ 6000000001 := by rw [← List.length_append]; exact (congrArg List.length hL : _ = _) ▸ hbl
         refine calm 22 2 102 [(100, .agg #[.map (some b)]), (101, vI (i : Int))] (fc (lam 73 7 0 1 hM rfl) f0) hM (tget_calls (hM.get 6 rfl) (i := i) (by omega)) fun w1 hM => seg 23 0 [(23, vI ((t i).getD 0))] f0 ?_
         obtain ⟨g319, eg319, -⟩ := hM.el arT (j := 4) rfl ha
         have hM := hM.nl
         have hM := hM.nl
         refine drx [1, 10, 11, 13, 15, 16, 18, 20] (fun γ => [some (v1), some (vL (some ⟨(bn (γ 1)), 0, none⟩) 1 1), some (vL (slp (γ 2)) ((L.map (toN (AS os))) ++ [a.2.1]).length (slc (γ 2))), some (v2), some (vL (some ⟨(bn (γ 4)), 0, none⟩) 1 1), some (vL (slp (γ 5)) ((L.map fun j => (t j).getD 0) ++ [((t i).getD 0)]).length (slc (γ 5))), none, none]) _ (fun γ l => [bk b300 #[vL p0 os.length cp0] 24, bk b301 #[vL none 0 0, vL none 0 0] 31, bk b302 #[vS f, vS g] 9, bk bs #[vS prof, vL qa (AS os).length ca, .map (some bo), .map (some br), .map (some bb)] 80, rw_ arL 4 47 (vL qa (AS os).length ca) (AS os), grpE (stR bo br bb no nr nb prof os T T2), mp Tryz.prog 3 b n (tabV t), bk b305 #[.map (some b)] 73, bk b311 #[(bif l.getD 6 false then vL (slp (γ 2)) ((L.map (toN (AS os))) ++ [a.2.1]).length (slc (γ 2)) else v1), (bif l.getD 7 false then vL (slp (γ 5)) ((L.map fun j => (t j).getD 0) ++ [((t i).getD 0)]).length (slc (γ 5)) else v2)] 31, (bif l.getD 2 false then rw_ stL 1 9 (vL (slp (γ 2)) ((L.map (toN (AS os))) ++ [a.2.1]).length (slc (γ 2))) ((L.map (toN (AS os))) ++ [a.2.1]) else rw_ stL 1 9 v1 (L.map (toN (AS os)))), (bif l.getD 5 false then rw_ inL 1 3 (vL (slp (γ 5)) ((L.map fun j => (t j).getD 0) ++ [((t i).getD 0)]).length (slc (γ 5))) ((L.map fun j => (t j).getD 0) ++ [((t i).getD 0)]) else rw_ inL 1 3 v2 (L.map fun j => (t j).getD 0)), (bif l.getD 1 false then bk (bn (γ 1)) #[vS a.2.1] 9 else nilE), (bif l.getD 4 false then bk (bn (γ 4)) #[vI ((t i).getD 0)] 3 else nilE)]) (fun γ => []) hM (fun γ => rfl) (fun γ l w5 hM => (fc (ldm 75 3 1 hM rfl rfl) (fc (ix 75 ca eg319 (gl ha)) (fc (ldr 9 4 1 arT hM rfl eg319 ha rfl) f0)))) ⟨ar_ld 0 1 28 8 0 106 (fun γ => b311) (fun γ l => #[(bif l.getD 6 false then vL (slp (γ 2)) ((L.map (toN (AS os))) ++ [a.2.1]).length (slc (γ 2)) else v1), (bif l.getD 7 false then vL (slp (γ 5)) ((L.map fun j => (t j).getD 0) ++ [((t i).getD 0)]).length (slc (γ 5)) else v2)]) 31 (fun γ => v1), ar_new 1 10 11 115 (fun γ => #[vS a.2.1]) 9 (fun b => vL (some ⟨b, 0, none⟩) 1 1), ar_appv 2 11 9 116 28 9 0 (fun γ => v1) (L.map (toN (AS os))) [a.2.1] (fun γ => (bn (γ 1))) 1 stT (by simp only [List.length_map, List.length_cons, List.length_nil]; omega) (fun γ fr wm hM => src_one (f := stL) (x := a.2.1) (hM.get 11 (e := bk ((bn (γ 1))) (stL a.2.1).toArray 9) (by kernel_rfl)) (Nat.lt_succ_self _)), ar_ld 3 13 29 8 1 118 (fun γ => b311) (fun γ l => #[(bif l.getD 6 false then vL (slp (γ 2)) ((L.map (toN (AS os))) ++ [a.2.1]).length (slc (γ 2)) else v1), (bif l.getD 7 false then vL (slp (γ 5)) ((L.map fun j => (t j).getD 0) ++ [((t i).getD 0)]).length (slc (γ 5)) else v2)]) 31 (fun γ => v2), ar_new 4 15 12 120 (fun γ => #[vI ((t i).getD 0)]) 3 (fun b => vL (some ⟨b, 0, none⟩) 1 1), ar_appv 5 16 10 121 29 3 0 (fun γ => v2) (L.map fun j => (t j).getD 0) [((t i).getD 0)] (fun γ => (bn (γ 4))) 1 inT (by simp only [List.length_map, List.length_cons, List.length_nil]; omega) (fun γ fr wm hM => src_one (f := inL) (x := ((t i).getD 0)) (hM.get 12 (e := bk ((bn (γ 4))) (inL ((t i).getD 0)).toArray 3) (by kernel_rfl)) (Nat.lt_succ_self _)), ar_st 6 18 28 8 0 (fun γ => b311) (fun γ l => #[(bif l.getD 6 false then vL (slp (γ 2)) ((L.map (toN (AS os))) ++ [a.2.1]).length (slc (γ 2)) else v1), (bif l.getD 7 false then vL (slp (γ 5)) ((L.map fun j => (t j).getD 0) ++ [((t i).getD 0)]).length (slc (γ 5)) else v2)]) 31 (fun γ => vL (slp (γ 2)) ((L.map (toN (AS os))) ++ [a.2.1]).length (slc (γ 2))), ar_st 7 20 29 8 1 (fun γ => b311) (fun γ l => #[(bif l.getD 6 false then vL (slp (γ 2)) ((L.map (toN (AS os))) ++ [a.2.1]).length (slc (γ 2)) else v1), (bif l.getD 7 false then vL (slp (γ 5)) ((L.map fun j => (t j).getD 0) ++ [((t i).getD 0)]).length (slc (γ 5)) else v2)]) 31 (fun γ => vL (slp (γ 5)) ((L.map fun j => (t j).getD 0) ++ [((t i).getD 0)]).length (slc (γ 5))), trivial⟩ fun γ320 w1 hM => ?_
         replace hM : Mm (fun _ => False) w w1 [bk b300 #[vL p0 os.length cp0] 24, bk b301 #[vL none 0 0, vL none 0 0] 31, bk b302 #[vS f, vS g] 9, bk bs #[vS prof, vL qa (AS os).length ca, .map (some bo), .map (some br), .map (some bb)] 80, rw_ arL 4 47 (vL qa (AS os).length ca) (AS os), grpE (stR bo br bb no nr nb prof os T T2), mp Tryz.prog 3 b n (tabV t), bk b305 #[.map (some b)] 73, bk b311 #[vL (slp (γ320 2)) ((L.map (toN (AS os))) ++ [a.2.1]).length (slc (γ320 2)), vL (slp (γ320 5)) ((L.map fun j => (t j).getD 0) ++ [((t i).getD 0)]).length (slc (γ320 5))] 31, rw_ stL 1 9 (vL (slp (γ320 2)) ((L.map (toN (AS os))) ++ [a.2.1]).length (slc (γ320 2))) ((L.map (toN (AS os))) ++ [a.2.1]), rw_ inL 1 3 (vL (slp (γ320 5)) ((L.map fun j => (t j).getD 0) ++ [((t i).getD 0)]).length (slc (γ320 5))) ((L.map fun j => (t j).getD 0) ++ [((t i).getD 0)]), bk (bn (γ320 1)) #[vS a.2.1] 9, bk (bn (γ320 4)) #[vI ((t i).getD 0)] 3] := hM
         refine calm 21 5 96 [(91, vP bs 0), (92, .agg #[.map (some b)]), (93, vS f), (94, vI m0), (95, vI (i : Int))] (fc (lam 73 7 0 1 hM rfl) f0) hM (before_calls (stF_of hM (i := 3) (j := 4) (k := 5) rfl rfl rfl hmv hM.fr hT2) hT2 (by omega) (hM.get 6 rfl) htb (f := f) h0 (by omega) hil) fun w1 hM => seg 20 0 [(15, vI (((befP (netOf prof os f) m0 t i).getD 0 : Nat) : Int)), (22, vB (befP (netOf prof os f) m0 t i).isSome)] f0 ?_
         have hM := hM.pick [0, 1, 2, 3, 4, 5, 6, 7, 8, 9, 10]
         replace hM : Mm (fun _ => False) w _ [bk b300 #[vL p0 os.length cp0] 24, bk b301 #[vL none 0 0, vL none 0 0] 31, bk b302 #[vS f, vS g] 9, bk bs #[vS prof, vL qa (AS os).length ca, .map (some bo), .map (some br), .map (some bb)] 80, rw_ arL 4 47 (vL qa (AS os).length ca) (AS os), grpE (stR bo br bb no nr nb prof os T T2), mp Tryz.prog 3 b n (tabV t), bk b305 #[.map (some b)] 73, bk b311 #[vL (slp (γ320 2)) ((L.map (toN (AS os))) ++ [a.2.1]).length (slc (γ320 2)), vL (slp (γ320 5)) ((L.map fun j => (t j).getD 0) ++ [((t i).getD 0)]).length (slc (γ320 5))] 31, rw_ stL 1 9 (vL (slp (γ320 2)) ((L.map (toN (AS os))) ++ [a.2.1]).length (slc (γ320 2))) ((L.map (toN (AS os))) ++ [a.2.1]), rw_ inL 1 3 (vL (slp (γ320 5)) ((L.map fun j => (t j).getD 0) ++ [((t i).getD 0)]).length (slc (γ320 5))) ((L.map fun j => (t j).getD 0) ++ [((t i).getD 0)])] := hM
         obtain ⟨u1, hu1⟩ : ∃ z, z = vL (slp (γ320 2)) ((L.map (toN (AS os))) ++ [a.2.1]).length (slc (γ320 2)) := ⟨_, rfl⟩
         obtain ⟨u2, hu2⟩ : ∃ z, z = vL (slp (γ320 5)) ((L.map fun j => (t j).getD 0) ++ [((t i).getD 0)]).length (slc (γ320 5)) := ⟨_, rfl⟩
         rw [← hu1, ← hu2] at hM
         have e1 : ((L.map (toN (AS os))) ++ [a.2.1]) = ((L ++ [i]).map (toN (AS os))) := by rw [List.map_append]; simp [toN_at ha]
         have e2 : ((L.map fun j => (t j).getD 0) ++ [((t i).getD 0)]) = ((L ++ [i]).map fun j => (t j).getD 0) := by rw [List.map_append]; rfl
         rw [e1, e2] at hM
         exact fewer _ (ih313 _ (by rw [hm314]; exact (bef_next hB hil).2) ((befP (netOf prof os f) m0 t i).getD 0) (befP (netOf prof os f) m0 t i).isSome (L ++ [i]) u1 u2 _ (by rw [List.append_assoc, bkP_next hB hil]; exact hL) (bef_next hB hil).1 hM rfl)
       exact fewer _ (lp312 _ i0 true [] (vL none 0 0) (vL none 0 0) _ rfl (fun _ => ⟨hi1, hi2⟩) hM rfl)
      | true =>
       have rh310 := dt h310
       refine stm 17 1 [(88, .agg #[vL none 0 0, vL none 0 0])] 31 1 0 (.agg #[vL none 0 0, vL none 0 0]) f0 hM rfl fun w1 hM => ?_
       have hl9 := run_loadW 31 1 (P := Tryz.prog) (n := 2) hM rfl rfl
       have hnone : lastF (AS os) t g (AS os).length = none := by
         cases hl : lastF (AS os) t g (AS os).length with
         | none => rfl
         | some i => rw [hl] at hlz; have h9 := dt h310; have : lz = (i : Int) := hlz; omega
       exact rt2c 10 31 11 (vI 12) rfl rfl hl9 f0 (hΦ _ _ ⟨(vL none 0 0), (vL none 0 0), _, [], [], rfl, .inr (.inr ⟨et h303, ef h304, t, hT, .inl ⟨hnone, rfl, rfl, rfl⟩⟩), (hM.pick (M' := []) []).row.row⟩)
     | true =>
      have rh309 := dt h309
      obtain ⟨a, ha⟩ := geb (l := AS os) (i := k) (by omega)
      obtain ⟨g321, eg321, -⟩ := hM.el arT (j := 4) rfl ha
      refine newm 11 3 18 [(58, vI (k : Int)), (60, .agg #[vS a.1, vS a.2.1, vS a.2.2.1, vI a.2.2.2])] (cs := #[vS [], vS [], vS [], vI 0]) (T := 47) (v := fun b => vP b 0) (fc (ix 75 ca eg321 (gl ha)) (fc (lar 47 4 0 4 arT hM rfl eg321 ha) f0)) hM fun b322 w1 hM => stm 11 5 [(17, vI (k : Int))] 47 8 0 (.agg #[vS a.1, vS a.2.1, vS a.2.2.1, vI a.2.2.2]) f0 hM rfl fun w1 hM => calm 12 2 64 [(62, .agg #[.map (some b)]), (63, vI (k : Int))] (fc (lam 73 7 0 1 hM rfl) f0) hM (tget_calls (hM.get 6 rfl) (i := k) (by omega)) fun w1 hM => seg 13 2 [(19, vI ((t k).getD 0)), (68, vB (t k).isSome)] f0 ?_
      cases h323 : (t k).isSome with
      | false =>
       refine seg 10 0 [(56, vI ((k : Int) + 1))] (fc (tadd (k : Int) 1 Tryz.underlying3) f0) ?_
       have e9 : lastF (AS os) t g (k + 1) = lastF (AS os) t g k := by rw [lastF_step ha]; simp only [h323] <;> rfl
       exact fewer _ (ih307 _ (by have := gl ha; omega) (k + 1) lz bz _ (gl ha) (by rw [e9]; exact hlz) (by rw [e9]; exact hbz) (hM.pick [0, 1, 2, 3, 4, 5, 6, 7]) rfl)
      | true =>
       refine seg 13 8 [(74, vB (a.2.1 == g))] (fc (ldm 9 8 1 hM rfl rfl) (fc (seq 9 a.2.1 g) f0)) ?_
       cases h324 : (a.2.1 == g) with
       | false =>
        have rh324 := ef h324
        refine seg 10 0 [(56, vI ((k : Int) + 1))] (fc (tadd (k : Int) 1 Tryz.underlying3) f0) ?_
        have e9 : lastF (AS os) t g (k + 1) = lastF (AS os) t g k := by rw [lastF_step ha]; simp only [h323, h324] <;> rfl
        exact fewer _ (ih307 _ (by have := gl ha; omega) (k + 1) lz bz _ (gl ha) (by rw [e9]; exact hlz) (by rw [e9]; exact hbz) (hM.pick [0, 1, 2, 3, 4, 5, 6, 7]) rfl)
       | true =>
        have rh324 := et h324
        refine seg 13 11 [(77, vB (decide (lz < 0)))] f0 ?_
        cases h325 : (decide (lz < 0)) with
        | false =>
         have rh325 := df h325
         refine seg 13 16 [(82, vB (decide (((t k).getD 0) < bz)))] f0 ?_
         cases h326 : (decide (((t k).getD 0) < bz)) with
         | false =>
          have rh326 := df h326
          refine seg 10 0 [(56, vI ((k : Int) + 1))] (fc (tadd (k : Int) 1 Tryz.underlying3) f0) ?_
          have hBB : lastB t (lastF (AS os) t g k) k = false := by rw [lastB_pos (by rw [← hlz]; exact df h325), ← hbz]; exact h326
          have e9 : lastF (AS os) t g (k + 1) = lastF (AS os) t g k := by rw [lastF_step ha]; simp only [h323, h324, hBB] <;> rfl
          exact fewer _ (ih307 _ (by have := gl ha; omega) (k + 1) lz bz _ (gl ha) (by rw [e9]; exact hlz) (by rw [e9]; exact hbz) (hM.pick [0, 1, 2, 3, 4, 5, 6, 7]) rfl)
         | true =>
          have rh326 := dt h326
          refine seg 10 0 [(15, vI (k : Int)), (16, vI ((t k).getD 0)), (56, vI ((k : Int) + 1))] (fc (tadd (k : Int) 1 Tryz.underlying3) f0) ?_
          have hBB : lastB t (lastF (AS os) t g k) k = true := by rw [lastB_pos (by rw [← hlz]; exact df h325), ← hbz]; exact h326
          have e9 : lastF (AS os) t g (k + 1) = some k := by rw [lastF_step ha]; simp only [h323, h324, hBB] <;> rfl
          exact fewer _ (ih307 _ (by have := gl ha; omega) (k + 1) (k : Int) ((t k).getD 0) _ (gl ha) (by rw [e9]; rfl) (by rw [e9]; rfl) (hM.pick [0, 1, 2, 3, 4, 5, 6, 7]) rfl)
        | true =>
         have rh325 := dt h325
         refine seg 10 0 [(15, vI (k : Int)), (16, vI ((t k).getD 0)), (56, vI ((k : Int) + 1))] (fc (tadd (k : Int) 1 Tryz.underlying3) f0) ?_
         have hBB : lastB t (lastF (AS os) t g k) k = true := lastB_neg (by rw [← hlz]; exact dt h325)
         have e9 : lastF (AS os) t g (k + 1) = some k := by rw [lastF_step ha]; simp only [h323, h324, hBB] <;> rfl
         exact fewer _ (ih307 _ (by have := gl ha; omega) (k + 1) (k : Int) ((t k).getD 0) _ (gl ha) (by rw [e9]; rfl) (by rw [e9]; rfl) (hM.pick [0, 1, 2, 3, 4, 5, 6, 7]) rfl)
    exact fewer _ (lp306 _ 0 (-1) 0 _ (Nat.zero_le _) rfl rfl hM rfl)
   | true =>
    have rh304 := et h304
    refine newm 5 1 40 [(39, vS f)] (cs := #[vS f]) (T := 9) (v := fun b => vL (some ⟨b, 0, none⟩) 1 1) f0 hM fun b327 w1 hM => newm 5 3 42 [(41, vI m0)] (cs := #[vI m0]) (T := 3) (v := fun b => vL (some ⟨b, 0, none⟩) 1 1) f0 hM fun b328 w1 hM => stm 5 5 [(43, .agg #[vL (some ⟨b327, 0, none⟩) 1 1, vL (some ⟨b328, 0, none⟩) 1 1])] 31 1 0 (.agg #[vL (some ⟨b327, 0, none⟩) 1 1, vL (some ⟨b328, 0, none⟩) 1 1]) f0 hM rfl fun w1 hM => ?_
    have hl9 := run_loadW 31 1 (P := Tryz.prog) (n := 2) hM rfl rfl
    have hM := lit_row hM (f := stL) (c := 1) (j := 3) rfl [f] 1 rfl rfl rfl
    have hM := lit_row hM (f := inL) (c := 1) (j := 4) rfl [m0] 1 rfl rfl rfl
    exact rt2c 10 31 11 (vI 0) rfl rfl hl9 f0 (hΦ _ _ ⟨(vL (some ⟨b327, 0, none⟩) 1 1), (vL (some ⟨b328, 0, none⟩) 1 1), _, [f], [m0], rfl, .inr (.inl ⟨et h303, et h304, rfl, rfl, rfl⟩), hM.pick [3, 4]⟩)
end Go.Proofs.YtbflfefahheidaaGreatDoor
/- What is within reach. -/
set_option linter.unusedVariables false
set_option linter.unusedSimpArgs false
namespace Go.Proofs.YtbflfefahheidaaGreatDoor
open Go.RowKit Go.Pl
/-! ### tables by Ids -/
def rwL (x : Bys × Int) : List Value := [vS x.1, vI x.2]
theorem rwT : ElT Tryz.prog rwL 2 35 56 := ⟨fun _ => rfl, by decide, fun x u hu => by
  unfold rwL at hu
  rcases List.mem_cons.1 hu with rfl | hu
  · rfl
  · rw [List.mem_singleton] at hu
    subst hu; rfl, Tryz.underlying35, elOK_info (by kernel_rfl)⟩
def tabS (t : Bys → Option Int) : Value → Option Value
  | .string s => (t s.toList).map fun m => .int .i64 m
  | _ => none
theorem tabS_at (t : Bys → Option Int) (s : Bys) : tabS t (vS s) = (t s).map fun m => .int .i64 m := by
  show (t (ofL s).toList).map _ = _
  rw [ofL_toList]
def putS (t : Bys → Option Int) (s : Bys) (x : Int) : Bys → Option Int := fun k => bif k == s then some x else t k
theorem putS_same (t : Bys → Option Int) (s : Bys) (x : Int) : putS t s x s = some x := by unfold putS; simp
theorem putS_other (t : Bys → Option Int) {s k : Bys} (x : Int) (h : k ≠ s) : putS t s x k = t k := by
  unfold putS
  rw [show (k == s) = false by simpa using h]; rfl
theorem tabS_upd (t : Bys → Option Int) (s : Bys) (x : Int) : upd (tabS t) (vS s) (vI x) = tabS (putS t s x) := by
  funext v
  by_cases e : v = vS s
  · subst e; rw [upd_same, tabS_at, putS_same]; rfl
  · rw [upd_other _ e]
    cases v with
    | string b =>
      show (t b.toList).map _ = (putS t s x b.toList).map _
      rw [putS_other _ _ (vS_ne e)]
    | _ => rfl
theorem tabS_one (s : Bys) (x : Int) : upd (fun _ => none) (vS s) (vI x) = tabS (putS (fun _ => none) s x) := by
  rw [← tabS_upd]; congr 1; funext v; cases v <;> rfl
def betO (o : Option Int) (x : Int) : Bool := match o with
  | some y => decide (x < y)
  | none => true
theorem tabS_ok (t : Bys → Option Int) (s : Bys) : (.tuple #[((tabS t) (vS s)).getD (vI 0), .bool ((tabS t) (vS s)).isSome] : Value) = .tuple #[vI ((t s).getD 0), vB (t s).isSome] := by
  rw [tabS_at]; cases t s <;> rfl
abbrev tbS (b n : Nat) (t : Bys → Option Int) : Ent := mp Tryz.prog 9 b n (tabS t)
theorem tabV_inv {t : Nat → Option Int} {key v : Value} (h : tabV t key = some v) : ∃ k m, key = vI ((k : Nat) : Int) ∧ t k = some m ∧ v = vI m := by
  unfold tabV at h
  split at h
  · rename_i k
    obtain ⟨m, hm, rfl⟩ := Option.map_eq_some_iff.1 h
    exact ⟨k, m, rfl, hm, rfl⟩
  · cases h
theorem less40_calls {w : World} (m n : Int) : Calls Tryz.prog 40 #[vI m, vI n] w fun e w' => e = .returned (vB (decide (m < n))) ∧ Fr (fun _ => False) w w' := by
  refine beg Tryz.func40 rfl rfl [(0, vI m), (1, vI n)] rfl rfl fun Φ hΦ => ?_
  have hM := Mm.nil (fun _ => False) w
  exact rt1 4 (vB (decide (m < n))) rfl f0 (hΦ _ _ ⟨rfl, hM.fr⟩)
theorem sget_calls {w : World} {b n : Nat} {u : Bys → Option Int} (hm : MapN Tryz.prog 9 w b n (tabS u)) {s : Bys} (hs : B63 s) : Calls Tryz.prog 41 #[.agg #[.map (some b)], vS s] w fun e w' => e = .returned (.tuple #[vI ((u s).getD 0), vB (u s).isSome]) ∧ Fr (fun _ => False) w w' := by
  refine beg Tryz.func41 rfl rfl [(0, .agg #[.map (some b)]), (1, vS s)] rfl rfl fun Φ hΦ => ?_
  have hM := Mm.nil (fun _ => False) w
  refine newm 0 0 2 [] (cs := #[.map (some b)]) (T := 90) (v := fun b => vP b 0) f0 hM fun b329 w1 hM => rt2 4 5 (vI ((u s).getD 0)) (vB (u s).isSome) rfl rfl (fc (ldm 88 0 0 hM rfl rfl) (fc (rz2 (lkoN 88 (vS s) (vI 0) (hm.fr hM.fr id) law9 Tryz.underlying88 (key9 hs) (zero3 _)) (tabS_ok u s)) f0)) (hΦ _ _ ⟨rfl, hM.fr⟩)
theorem sbetter0_calls {w : World} {G : Nat → Prop} {b n : Nat} {u : Bys → Option Int} (hM0 : Mm G w w [tbS b n u]) {s : Bys} (hs : B63 s) (x : Int) : Calls Tryz.prog 39 #[.agg #[.map (some b)], vS s, vI x, .func (.func 40) #[] #[]] w fun e w' => e = .returned (vB (betO (u s) x)) ∧ Mm G w w' [tbS b (bif betO (u s) x then n + 1 else n) (bif betO (u s) x then putS u s x else u)] := by
  refine beg Tryz.func39 rfl rfl [(0, .agg #[.map (some b)]), (1, vS s), (2, vI x), (3, .func (.func 40) #[] #[])] rfl rfl fun Φ hΦ => ?_
  have hM := hM0
  refine newm 0 0 4 [] (cs := #[.map (some b)]) (T := 90) (v := fun b => vP b 0) f0 hM fun b330 w1 hM => seg 2 2 [(9, vI ((u s).getD 0)), (19, vB (u s).isSome)] (fc (ldm 88 1 0 hM rfl rfl) (fc (rz2 (lkoN 88 (vS s) (vI 0) (hM.get 0 rfl) law9 Tryz.underlying88 (key9 hs) (zero3 _)) (tabS_ok u s)) f0)) ?_
  cases h331 : (u s).isSome with
  | false =>
   refine mup 4 4 [(27, .map (some b)), (28, vS s), (29, vI x)] 88 0 (vS s) (vI x) (fc (ldm 88 1 0 hM rfl rfl) f0) hM rfl law9 Tryz.underlying88 (key9 hs) fun w1 hM => ?_
   have hb : betO (u s) x = true := by
     unfold betO
     cases e : u s with
     | none => simp_all
     | some o => simp_all
   rw [tabS_upd] at hM
   exact rt1 8 (vB true) rfl f0 (hΦ _ _ ⟨by rw [hb], by rw [hb]; exact hM.pick [0]⟩)
  | true =>
   refine calm 2 5 23 [(20, .func (.func 40) #[] #[]), (21, vI x), (22, vI ((u s).getD 0))] f0 hM (less40_calls x ((u s).getD 0)) fun w1 hM => seg 2 8 [(25, vB (!(decide (x < ((u s).getD 0)))))] f0 ?_
   cases h332 : (decide (x < ((u s).getD 0))) with
   | false =>
    have rh332 := df h332
    have hb : betO (u s) x = false := by
      unfold betO
      cases e : u s with
      | none => simp_all
      | some o => simp_all
    exact rt1 8 (vB false) rfl f0 (hΦ _ _ ⟨by rw [hb], by rw [hb]; exact hM.pick [0]⟩)
   | true =>
    have rh332 := dt h332
    refine mup 4 4 [(27, .map (some b)), (28, vS s), (29, vI x)] 88 0 (vS s) (vI x) (fc (ldm 88 1 0 hM rfl rfl) f0) hM rfl law9 Tryz.underlying88 (key9 hs) fun w1 hM => ?_
    have hb : betO (u s) x = true := by
      unfold betO
      cases e : u s with
      | none => simp_all
      | some o => simp_all
    rw [tabS_upd] at hM
    exact rt1 8 (vB true) rfl f0 (hΦ _ _ ⟨by rw [hb], by rw [hb]; exact hM.pick [0]⟩)
theorem sbetter_calls {w : World} {b n : Nat} {u : Bys → Option Int} (hm : (tbS b n u).H w) {s : Bys} (hs : B63 s) (x : Int) : Calls Tryz.prog 39 #[.agg #[.map (some b)], vS s, vI x, .func (.func 40) #[] #[]] w fun e w' => e = .returned (vB (betO (u s) x)) ∧ Fr (tbS b n u).B w w' ∧ (tbS b (n + 1) (bif betO (u s) x then putS u s x else u)).H w' ∧ ∀ k, (tbS b (n + 1) (bif betO (u s) x then putS u s x else u)).B k → (tbS b n u).B k ∨ w.heap.size ≤ k :=
  (sbetter0_calls (n := n) (G := (tbS b n u).B) ⟨Fr.refl _ _, fun e he => by rw [List.mem_singleton] at he; subst he; exact hm, fun e he k hk _ => by rw [List.mem_singleton] at he; subst he; exact hk, List.pairwise_singleton _ _⟩ hs x).mono fun e w' ⟨h1, h2⟩ => ⟨h1, h2.fr, MapN.mono (h2.get 0 rfl) (by cases betO (u s) x <;> simp), fun k hk => .inl hk⟩
/-- The nodes that were met so far, with the least minutes. -/
structure FirstOk (A : List Arc) (t : Nat → Option Int) (f : Bys) (m0 wi : Int) (P : Nat → Prop) (u : Bys → Option Int) : Prop where
  own : u f = some 0
  snd : ∀ s d, s ≠ f → u s = some d → ∃ k m a, t k = some m ∧ A[k]? = some a ∧ a.2.1 = s ∧ d = m - m0 ∧ d ≤ wi
  cmp : ∀ k m a, P k → t k = some m → A[k]? = some a → m - m0 ≤ wi → ∃ d, d ≤ m - m0 ∧ u a.2.1 = some d
theorem FirstOk.zero {A : List Arc} {t : Nat → Option Int} {f : Bys} {m0 wi : Int} {P : Nat → Prop} (hP : ∀ k m, t k = some m → ¬ P k) : FirstOk A t f m0 wi P (putS (fun _ => none) f 0) :=
  ⟨putS_same _ _ _, fun s d hs h => (by rw [putS_other _ _ hs] at h; cases h), fun k m a h1 h2 => absurd h1 (hP k m h2)⟩
theorem FirstOk.step {A : List Arc} {t : Nat → Option Int} {f : Bys} {m0 wi : Int} {P Q : Nat → Prop} {u : Bys → Option Int} (h : FirstOk A t f m0 wi P u) {k : Nat} {m : Int} {a : Arc} (ht : t k = some m) (ha : A[k]? = some a) (hm : m0 ≤ m) (hd : m - m0 ≤ wi) (hQ : ∀ j, Q j → P j ∨ j = k) : FirstOk A t f m0 wi Q (bif betO (u a.2.1) (m - m0) then putS u a.2.1 (m - m0) else u) := by
  have hcm : ∀ (s : Bys) d, u s = some d → ∃ d', d' ≤ d ∧ (bif betO (u a.2.1) (m - m0) then putS u a.2.1 (m - m0) else u) s = some d' := by
    intro s d hs
    cases hb : betO (u a.2.1) (m - m0) with
    | false => exact ⟨d, Int.le_refl _, hs⟩
    | true =>
      by_cases e : s = a.2.1
      · subst e
        rw [hs] at hb
        have := of_decide_eq_true hb
        exact ⟨m - m0, by omega, putS_same _ _ _⟩
      · exact ⟨d, Int.le_refl _, by show putS u a.2.1 (m - m0) s = _; rw [putS_other _ _ e]; exact hs⟩
  refine ⟨?_, fun s d hs hu => ?_, fun j m' b hj hj2 hj3 hj4 => ?_⟩
  · cases hb : betO (u a.2.1) (m - m0) with
    | false => exact h.own
    | true =>
      show putS u a.2.1 (m - m0) f = some 0
      by_cases e : f = a.2.1
      · rw [← e, h.own] at hb
        have := of_decide_eq_true hb
        omega
      · rw [putS_other _ _ e]; exact h.own
  · cases hb : betO (u a.2.1) (m - m0) with
    | false => rw [hb] at hu; exact h.snd s d hs hu
    | true =>
      rw [hb] at hu
      have hu : putS u a.2.1 (m - m0) s = some d := hu
      by_cases e : s = a.2.1
      · subst e; rw [putS_same] at hu; cases hu
        exact ⟨k, m, a, ht, ha, rfl, rfl, hd⟩
      · rw [putS_other _ _ e] at hu; exact h.snd s d hs hu
  · rcases hQ j hj with hj | rfl
    · obtain ⟨d, h1, h2⟩ := h.cmp j m' b hj hj2 hj3 hj4
      obtain ⟨d', h3, h4⟩ := hcm _ _ h2
      exact ⟨d', by omega, h4⟩
    · rw [ht] at hj2; cases hj2
      rw [ha] at hj3; cases hj3
      cases hb : betO (u a.2.1) (m - m0) with
      | true => exact ⟨m - m0, Int.le_refl _, putS_same _ _ _⟩
      | false =>
        cases hu : u a.2.1 with
        | none => rw [hu] at hb; cases hb
        | some y =>
          rw [hu] at hb
          have := of_decide_eq_false hb
          exact ⟨y, by omega, hu⟩
theorem FirstOk.skip {A : List Arc} {t : Nat → Option Int} {f : Bys} {m0 wi : Int} {P Q : Nat → Prop} {u : Bys → Option Int} (h : FirstOk A t f m0 wi P u) {k : Nat} {m : Int} (ht : t k = some m) (hd : ¬ m - m0 ≤ wi) (hQ : ∀ j, Q j → P j ∨ j = k) : FirstOk A t f m0 wi Q u :=
  ⟨h.own, h.snd, fun j m' b hj hj2 hj3 hj4 => by
    rcases hQ j hj with hj | rfl
    · exact h.cmp j m' b hj hj2 hj3 hj4
    · rw [ht] at hj2; cases hj2; exact absurd hj4 hd⟩
/-- The rows of nodes in a table. -/
def rowsP (os : List ObR) (u : Bys → Option Int) : List (Bys × Int) := os.flatMap fun b => bif (u b.o.id).isSome && (b.o.kind == 1) then [(b.o.id, (u b.o.id).getD 0)] else []
theorem rowsP_snoc {os : List ObR} {u : Bys → Option Int} {i : Nat} {y : ObR} (h : os[i]? = some y) : rowsP (os.take (i + 1)) u = rowsP (os.take i) u ++ bif (u y.o.id).isSome && (y.o.kind == 1) then [(y.o.id, (u y.o.id).getD 0)] else [] := by
  rw [gt_ h]; unfold rowsP; rw [List.flatMap_append]; simp
theorem rowsP_len (os : List ObR) (u : Bys → Option Int) : (rowsP os u).length ≤ os.length := by
  induction os with
  | nil => simp [rowsP]
  | cons b os ih =>
    unfold rowsP at ih ⊢
    rw [List.flatMap_cons, List.length_append, List.length_cons]
    cases (u b.o.id).isSome && (b.o.kind == 1) <;> simp only [cond_true, cond_false, List.length_nil, List.length_singleton] <;> omega
/-- What Reach answers. -/
def ReachR (prof : Bys) (os : List ObR) (f : Bys) (wi m0 c : Int) (rows : List (Bys × Int)) : Prop :=
  ((wi < 0 ∨ 10080 < wi) ∧ c = 1 ∧ rows = []) ∨ (¬ (wi < 0 ∨ 10080 < wi) ∧ ¬ chkP os prof m0 [f] = 0 ∧ c = chkP os prof m0 [f] ∧ rows = []) ∨
  (¬ (wi < 0 ∨ 10080 < wi) ∧ chkP os prof m0 [f] = 0 ∧ c = 0 ∧ ∃ t u, Tab (netOf prof os f) m0 t ∧ FirstOk (AS os) t f m0 wi (fun _ => True) u ∧ rows = rowsP os u)
abbrev A14 (Φ : Ending → World → Prop) := AtO Tryz.prog (bodyOf Tryz.f14) (whole (bodyPost Tryz.prog Tryz.f14 Φ)) [] 102
theorem reach_calls {w : World} {v : Value} {os : List ObR} (hmv : ObsV w v os) {prof f : Bys} (hp63 : prof.length ≤ 9223372036854775807) (hf63 : B63 f) (hlen : validMap (pure_ os) = true → (arcsP os).length ≤ 240) (hol : os.length ≤ 1000000) (hTe : Te w) (wi m0 : Int) : Calls Tryz.prog 14 #[.agg #[v], vS prof, vS f, vI wi, vI m0] w fun e w' => ∃ v1 c rows, e = .returned (.tuple #[v1, vI c]) ∧ ReachR prof os f wi m0 c rows ∧ Mm (fun _ => False) w w' [rw_ rwL 2 56 v1 rows] := by
  have hm0 := hmv; obtain ⟨hs0, hob⟩ := hm0
  obtain ⟨p0, cp0, hp0, sp0⟩ := hs0.op
  subst hp0; have bp0 := sp0.bnd
  refine beg Tryz.func14 rfl rfl [(0, .agg #[vL p0 os.length cp0]), (1, vS prof), (2, vS f), (3, vI wi), (4, vI m0)] rfl rfl fun Φ hΦ => ?_
  have hM := Mm.nil (fun _ => False) w
  refine newm 0 0 5 [] (cs := #[vL p0 os.length cp0]) (T := 24) (v := fun b => vP b 0) f0 hM fun b333 w1 hM => seg 1 3 [(24, vB (decide (wi < 0)))] f0 ?_
  cases h334 : (decide (wi < 0)) with
  | false =>
   have rh334 := df h334
   refine seg 1 6 [(27, vB (decide (10080 < wi)))] f0 ?_
   cases h335 : (decide (10080 < wi)) with
   | false =>
    have rh335 := df h335
    refine newm 3 4 32 [(28, .agg #[vL p0 os.length cp0]), (29, vS prof), (30, vI m0), (31, vS f)] (cs := #[vS f]) (T := 9) (v := fun b => vL (some ⟨b, 0, none⟩) 1 1) (fc (lam 24 0 0 1 hM rfl) f0) hM fun b336 w1 hM => calm 3 5 33 [] f0 hM (checked_calls (hmv.fr hM.fr) hp63 m0 (ids := [f]) (srcP_one (f := stL) (x := f) (hM.get 1 rfl))) fun w1 hM => seg 4 2 [(12, vI (chkP os prof m0 [f])), (35, vB (!((chkP os prof m0 [f]) == 0)))] f0 ?_
    cases h337 : ((chkP os prof m0 [f]) == 0) with
    | false =>
     have rh337 := ef h337
     exact rt2 10 11 (vL none 0 0) (vI (chkP os prof m0 [f])) rfl rfl f0 (hΦ _ _ ⟨_, _, [], rfl, .inr (.inl ⟨(fun h => h.elim (df h334) (df h335)), ef h337, rfl, rfl⟩), (hM.pick (M' := []) []).row⟩)
    | true =>
     have rh337 := et h337
     have hchk := et h337
     obtain ⟨hvm, -, h0, h1, hany, hno⟩ := chkP_ok hchk
     have hnn : (AS os).length ≤ 240 := Nat.le_trans (nub_len _) (hlen hvm)
     have hNo := netOf_ok (prof := prof) (fun a ha => arcs_b (fun b hb => (hmv.2 b hb).bnd) a (nub_mem ha) : ∀ a ∈ AS os, ArcB a) f
     skip
     refine calM 6 2 39 [(37, .agg #[vL p0 os.length cp0]), (38, vS prof)] (K := fun u Mn => ∃ bs ca bo br bb no nr nb qa T T2, u = vP bs 0 ∧ (∀ s, rowOf T s = idxs (AS os) s) ∧ T2.map (·.1) = waysR os ∧ Mn = stM bs ca bo br bb no nr nb qa prof os T T2) [0, 1] [] (fc (lam 24 0 0 1 hM rfl) f0) hM rfl rfl (by decide) (fun hm => ((pathOf_calls (hmv.fr hM.fr) hvm (by have := hlen hvm; omega) (hTe.fr hM.fr)).mono fun e w8 ⟨bs, ca, bo, br, bb, no, nr, nb, qa, T, T2, h1, _, h2, h3, h4⟩ => ⟨_, _, h1, ⟨bs, ca, bo, br, bb, no, nr, nb, qa, T, T2, rfl, h2, h3, rfl⟩, Mm_wk h4 fun _ h => h.elim⟩)) fun u Mn w1 hK hM => ?_
     obtain ⟨bs, ca, bo, br, bb, no, nr, nb, qa, T, T2, rfl, hTr, hT2, rfl⟩ := hK
     have hM := Mm_grp (A := [bk b333 #[vL p0 os.length cp0] 24, bk b336 #[vS f] 9, bk bs #[vS prof, vL qa (AS os).length ca, .map (some bo), .map (some br), .map (some bb)] 80, rw_ arL 4 47 (vL qa (AS os).length ca) (AS os)]) (Ms := stR bo br bb no nr nb prof os T T2) hM
     refine newmp 7 0 40 [(13, vP bs 0)] 9 f0 hM fun b338 w1 hM => ins 7 2 [(41, vS f)] 88 5 (vS f) (vI 0) f0 hM rfl law9 Tryz.underlying88 (key9 hf63) fun w1 hM => varm 7 5 14 [(43, .agg #[.map (some b338)])] [] 90 (.agg #[.map (some b338)]) f0 hM fun b339 w1 hM => ?_
     rw [tabS_one] at hM
     refine calM 8 3 47 [(44, vP bs 0), (45, vS f), (46, vI m0)] (K := fun u Mn => ∃ b n t, u = .agg #[.map (some b)] ∧ Tab (netOf prof os f) m0 t ∧ Mn = [tbE b n t]) [0, 1, 2, 3, 4, 5, 6] [] f0 hM rfl rfl (by decide) (fun hm => ((earliest_calls (stF_of hM (i := 2) (j := 3) (k := 4) rfl rfl rfl hmv hM.fr hT2) hT2 hTr hnn hf63 h0 (by omega)).mono fun e w8 ⟨b, n, t, h1, h2, h3⟩ => ⟨_, _, h1, ⟨b, n, t, rfl, h2, rfl⟩, Mm_wk h3 fun _ h => h.elim⟩)) fun u Mn w1 hK hM => ?_
     obtain ⟨b, n, t, rfl, hT, rfl⟩ := hK
     have hB := befOk_of hNo h0 hT
     have htb : ∀ k m, t k = some m → 0 ≤ m ∧ m ≤ 6000000000 := fun k m e => ⟨by have := (hT.snd k m e).ge hNo h0; omega, (hT.snd k m e).le hNo h0⟩
     refine rgm 8 5 49 [(48, .map (some b))] 71 7 (by decide) f0 hM rfl Tryz.underlying71 fun r340 c341 w1 hM => seg 9 0 [] f0 ?_
     have lp342 : ∀ (m344 : Nat) (left : Value → Prop) (cnt : Nat) (u : Bys → Option Int) (nu : Nat) (w2 : World), FirstOk (AS os) t f m0 wi (fun k => ¬ left (vI (k : Int))) u → Mm (fun _ => False) w w2 [bk b333 #[vL p0 os.length cp0] 24, bk b336 #[vS f] 9, bk bs #[vS prof, vL qa (AS os).length ca, .map (some bo), .map (some br), .map (some bb)] 80, rw_ arL 4 47 (vL qa (AS os).length ca) (AS os), grpE (stR bo br bb no nr nb prof os T T2), mp Tryz.prog 9 b338 nu (tabS u), bk b339 #[.map (some b338)] 90, rngE Tryz.prog 3 b r340 n (tabV t) left cnt] → m344 = cnt → A14 Φ (some (9, 0)) [(49, vP r340 0), (14, vP b339 0), (13, vP bs 0), (5, vP b333 0), (3, vI wi), (4, vI m0)] w2 := by
      refine srec fun m344 ih343 left cnt u nu w2 hF hM hm344 => nxm 9 0 50 [] 7 (by decide) f0 hM rfl (fun hno => ?_) (fun key345 val345 cnt345 w1 hleft345 hval345 hkey345 hcnt345 hM hent => ?_)
      · skip
        have hF := (⟨hF.own, hF.snd, fun k m a _ h2 h3 h4 => hF.cmp k m a (hno _) h2 h3 h4⟩ : FirstOk (AS os) t f m0 wi (fun _ => True) u)
        have hM := hM.unrng (j := 7) rfl
        have hM := hM.row (f := rwL) (c := 2) (E := 56)
        refine seg 15 0 [(17, vL none 0 0), (74, vL p0 os.length cp0), (75, vI (os.length : Int)), (76, vI 0)] (fc (ldm 22 0 0 hM rfl rfl) f0) ?_
        have lp346 : ∀ (m348 : Nat) (i : Nat) (vo : Value) (w2 : World), i ≤ os.length → Mm (fun _ => False) w w2 [bk b333 #[vL p0 os.length cp0] 24, bk b336 #[vS f] 9, bk bs #[vS prof, vL qa (AS os).length ca, .map (some bo), .map (some br), .map (some bb)] 80, rw_ arL 4 47 (vL qa (AS os).length ca) (AS os), grpE (stR bo br bb no nr nb prof os T T2), mp Tryz.prog 9 b338 nu (tabS u), bk b339 #[.map (some b338)] 90, mp Tryz.prog 3 b n (tabV t), rw_ rwL 2 56 vo (rowsP (os.take i) u)] → m348 = os.length - i → A14 Φ (some (15, 0)) [(76, vI (i : Int)), (75, vI (os.length : Int)), (74, vL p0 os.length cp0), (17, vo), (14, vP b339 0)] w2 := by
         refine srec fun m348 ih347 i vo w2 hi hM hm348 => seg 15 1 [(77, vB (decide ((i : Int) < (os.length : Int))))] f0 ?_
         cases h349 : (decide ((i : Int) < (os.length : Int))) with
         | false =>
          have rh349 := df h349
          exact rt2 10 11 vo (vI 0) rfl rfl f0 (hΦ _ _ ⟨_, _, _, rfl, .inr (.inr ⟨(fun h => h.elim (df h334) (df h335)), et h337, rfl, t, u, hT, hF, rfl⟩), (show rowsP (os.take i) u = rowsP os u by rw [List.take_of_length_le (by omega)]) ▸ hM.pick (M' := [rw_ rwL 2 56 vo (rowsP (os.take i) u)]) [8]⟩)
         | true =>
          have rh349 := dt h349
          obtain ⟨y, hy, g350, o350, q350, r350⟩ := sp0.el (i := i) (by omega)
          refine varm 16 2 19 [(79, .agg #[vS y.o.id, vI y.o.kind, vI y.o.x, vI y.o.y, vL y.pr y.o.refs.length y.cr, vL y.pt y.o.tags.length y.ct])] [] 64 (.agg #[vS y.o.id, vI y.o.kind, vI y.o.x, vI y.o.y, vL y.pr y.o.refs.length y.cr, vL y.pt y.o.tags.length y.ct]) (fc (ix 22 cp0 q350 (gl hy)) (fc (la0 64 hM r350) f0)) hM fun b351 w1 hM => calm 17 3 84 [(81, .agg #[.map (some b338)]), (83, vS y.o.id)] (fc (lam 90 6 0 1 hM rfl) (fc (ldm 9 9 0 hM rfl rfl) f0)) hM (sget_calls (hM.get 5 rfl) (hob _ (gm hy)).bnd.id) fun w1 hM => seg 18 2 [(20, vI ((u y.o.id).getD 0)), (88, vB (u y.o.id).isSome)] f0 ?_
          cases h352 : (u y.o.id).isSome with
          | false =>
           refine seg 15 0 [(76, vI ((i : Int) + 1))] (fc (tadd (i : Int) 1 Tryz.underlying3) f0) ?_
           have hM := hM.pick [0, 1, 2, 3, 4, 5, 6, 7, 8]
           replace hM : Mm (fun _ => False) w _ [bk b333 #[vL p0 os.length cp0] 24, bk b336 #[vS f] 9, bk bs #[vS prof, vL qa (AS os).length ca, .map (some bo), .map (some br), .map (some bb)] 80, rw_ arL 4 47 (vL qa (AS os).length ca) (AS os), grpE (stR bo br bb no nr nb prof os T T2), mp Tryz.prog 9 b338 nu (tabS u), bk b339 #[.map (some b338)] 90, mp Tryz.prog 3 b n (tabV t), rw_ rwL 2 56 vo (rowsP (os.take i) u)] := hM
           obtain ⟨u1, hu1⟩ : ∃ z, z = vo := ⟨_, rfl⟩
           rw [← hu1] at hM
           have e1 : (rowsP (os.take i) u) = rowsP (os.take (i + 1)) u := by rw [rowsP_snoc hy]; simp only [h352, Bool.and_true, Bool.true_and, Bool.false_and, Bool.and_false, cond_true, cond_false, List.append_nil] <;> rfl
           rw [e1, hu1] at hM
           exact fewer _ (ih347 _ (by have := gl hy; omega) (i + 1) vo _ (gl hy) hM rfl)
          | true =>
           refine seg 18 6 [(92, vB (y.o.kind == 1))] (fc (ldm 3 9 1 hM rfl rfl) f0) ?_
           cases h353 : (y.o.kind == 1) with
           | false =>
            have rh353 := ef h353
            refine seg 15 0 [(76, vI ((i : Int) + 1))] (fc (tadd (i : Int) 1 Tryz.underlying3) f0) ?_
            have hM := hM.pick [0, 1, 2, 3, 4, 5, 6, 7, 8]
            replace hM : Mm (fun _ => False) w _ [bk b333 #[vL p0 os.length cp0] 24, bk b336 #[vS f] 9, bk bs #[vS prof, vL qa (AS os).length ca, .map (some bo), .map (some br), .map (some bb)] 80, rw_ arL 4 47 (vL qa (AS os).length ca) (AS os), grpE (stR bo br bb no nr nb prof os T T2), mp Tryz.prog 9 b338 nu (tabS u), bk b339 #[.map (some b338)] 90, mp Tryz.prog 3 b n (tabV t), rw_ rwL 2 56 vo (rowsP (os.take i) u)] := hM
            obtain ⟨u1, hu1⟩ : ∃ z, z = vo := ⟨_, rfl⟩
            rw [← hu1] at hM
            have e1 : (rowsP (os.take i) u) = rowsP (os.take (i + 1)) u := by rw [rowsP_snoc hy]; simp only [h352, h353, Bool.and_true, Bool.true_and, Bool.false_and, Bool.and_false, cond_true, cond_false, List.append_nil] <;> rfl
            rw [e1, hu1] at hM
            exact fewer _ (ih347 _ (by have := gl hy; omega) (i + 1) vo _ (gl hy) hM rfl)
           | true =>
            have rh353 := et h353
            refine newm 19 5 98 [(93, vo), (97, .agg #[vS y.o.id, vI ((u y.o.id).getD 0)])] (cs := #[vS y.o.id, vI ((u y.o.id).getD 0)]) (T := 56) (v := fun b => vL (some ⟨b, 0, none⟩) 1 1) (fc (ldm 9 9 0 hM rfl rfl) f0) hM fun b354 w1 hM => appm 19 6 99 [] (cap := 1) (by decide) rwT f0 hM (j := 8) rfl (src_one (f := rwL) (x := (y.o.id, ((u y.o.id).getD 0))) (hM.get 10 rfl) (Nat.lt_succ_self _)) (fun h => by cases h) (by have := rowsP_len (os.take i) u; simp only [List.length_take, List.length_cons, List.length_nil] at this ⊢; omega) fun v355 w1 hM => ?_
            obtain ⟨qa355, ca355, e355, -⟩ := (hM.src (j := 8) rfl rwT.len).op
            subst e355
            refine seg 15 0 [(17, vL qa355 ((rowsP (os.take i) u) ++ [(y.o.id, ((u y.o.id).getD 0))]).length ca355), (76, vI ((i : Int) + 1))] (fc (tadd (i : Int) 1 Tryz.underlying3) f0) ?_
            have hM := hM.pick [0, 1, 2, 3, 4, 5, 6, 7, 8]
            replace hM : Mm (fun _ => False) w _ [bk b333 #[vL p0 os.length cp0] 24, bk b336 #[vS f] 9, bk bs #[vS prof, vL qa (AS os).length ca, .map (some bo), .map (some br), .map (some bb)] 80, rw_ arL 4 47 (vL qa (AS os).length ca) (AS os), grpE (stR bo br bb no nr nb prof os T T2), mp Tryz.prog 9 b338 nu (tabS u), bk b339 #[.map (some b338)] 90, mp Tryz.prog 3 b n (tabV t), rw_ rwL 2 56 (vL qa355 ((rowsP (os.take i) u) ++ [(y.o.id, ((u y.o.id).getD 0))]).length ca355) ((rowsP (os.take i) u) ++ [(y.o.id, ((u y.o.id).getD 0))])] := hM
            obtain ⟨u1, hu1⟩ : ∃ z, z = vL qa355 ((rowsP (os.take i) u) ++ [(y.o.id, ((u y.o.id).getD 0))]).length ca355 := ⟨_, rfl⟩
            rw [← hu1] at hM
            have e1 : ((rowsP (os.take i) u) ++ [(y.o.id, ((u y.o.id).getD 0))]) = rowsP (os.take (i + 1)) u := by rw [rowsP_snoc hy]; simp only [h352, h353, Bool.and_true, Bool.true_and, Bool.false_and, Bool.and_false, cond_true, cond_false, List.append_nil] <;> rfl
            rw [e1, hu1] at hM
            exact fewer _ (ih347 _ (by have := gl hy; omega) (i + 1) (vL qa355 ((rowsP (os.take i) u) ++ [(y.o.id, ((u y.o.id).getD 0))]).length ca355) _ (gl hy) hM rfl)
        exact fewer _ (lp346 _ 0 (vL none 0 0) _ (Nat.zero_le _) hM rfl)
      · skip
        obtain ⟨k, m, ek, hkm, ev⟩ := tabV_inv hval345
        subst ek
        subst ev
        obtain ⟨hkl, hm1⟩ : k < (AS os).length ∧ 0 ≤ m ∧ m ≤ 6000000000 := ⟨(hT.snd k m hkm).lt, htb k m hkm⟩
        have hmg := (hT.snd k m hkm).ge hNo h0
        obtain ⟨a, ha⟩ := geb (l := AS os) (i := k) hkl
        refine onev 10 0 52 [] (by decide) f0 (op_entry hent) (seg 11 5 [(15, vI (k : Int)), (16, vI m), (59, vB (decide ((m - m0) ≤ wi)))] (fc (tsub m m0 Tryz.underlying3) f0) ?_)
        cases h356 : (decide ((m - m0) ≤ wi)) with
        | false =>
         have rh356 := df h356
         refine seg 9 0 [] f0 (fewer _ (ih343 _ (by rw [hm344]; exact hcnt345) (fun x => left x ∧ x ≠ (vI (k : Int))) cnt345 u nu _ (hF.skip hkm (df h356) (fun j hj => by by_cases e : j = k; exact .inr e; exact .inl fun hl => hj ⟨hl, fun e2 => e (by injection e2 with _ e3; exact Int.ofNat.inj e3)⟩)) hM rfl))
        | true =>
         have rh356 := dt h356
         refine seg 12 0 [] f0 ?_
         obtain ⟨g359, eg359, -⟩ := hM.el arT (j := 3) rfl ha
         refine drx [12] (fun γ => [some (vB (betO (u a.2.1) (m - m0)))]) _ (fun γ l => [bk b333 #[vL p0 os.length cp0] 24, bk b336 #[vS f] 9, bk bs #[vS prof, vL qa (AS os).length ca, .map (some bo), .map (some br), .map (some bb)] 80, rw_ arL 4 47 (vL qa (AS os).length ca) (AS os), grpE (stR bo br bb no nr nb prof os T T2), (bif l.getD 0 false then mp Tryz.prog 9 b338 (nu + 1) (tabS (bif betO (u a.2.1) (m - m0) then putS u a.2.1 (m - m0) else u)) else mp Tryz.prog 9 b338 nu (tabS u)), bk b339 #[.map (some b338)] 90, rngE Tryz.prog 3 b r340 n (tabV t) (fun x => left x ∧ x ≠ (vI (k : Int))) cnt345]) (fun γ => []) hM (fun γ => rfl) (fun γ l w5 hM => (fc (lam 90 6 0 1 hM rfl) (fc (ldm 75 2 1 hM rfl rfl) (fc (ix 75 ca eg359 (gl ha)) (fc (ldr 9 3 1 arT hM rfl eg359 ha rfl) (fc (tsub m m0 Tryz.underlying3) f0)))))) ⟨ar_cal 0 12 5 72 (f := 39) (fun γ => #[.agg #[.map (some b338)], vS a.2.1, vI (m - m0), .func (.func 40) #[] #[]]) (vB (betO (u a.2.1) (m - m0))) (mp Tryz.prog 9 b338 nu (tabS u)) (mp Tryz.prog 9 b338 (nu + 1) (tabS (bif betO (u a.2.1) (m - m0) then putS u a.2.1 (m - m0) else u))) (fun γ wm hH hf => sbetter_calls hH (arcs_b (fun b hb => (hmv.2 b hb).bnd) a (nub_mem (gm ha))).f2 (m - m0)), trivial⟩ fun γ360 w1 hM => ?_
         replace hM : Mm (fun _ => False) w w1 [bk b333 #[vL p0 os.length cp0] 24, bk b336 #[vS f] 9, bk bs #[vS prof, vL qa (AS os).length ca, .map (some bo), .map (some br), .map (some bb)] 80, rw_ arL 4 47 (vL qa (AS os).length ca) (AS os), grpE (stR bo br bb no nr nb prof os T T2), mp Tryz.prog 9 b338 (nu + 1) (tabS (bif betO (u a.2.1) (m - m0) then putS u a.2.1 (m - m0) else u)), bk b339 #[.map (some b338)] 90, rngE Tryz.prog 3 b r340 n (tabV t) (fun x => left x ∧ x ≠ (vI (k : Int))) cnt345] := hM
         refine seg 9 0 [] f0 (fewer _ (ih343 _ (by rw [hm344]; exact hcnt345) (fun x => left x ∧ x ≠ (vI (k : Int))) cnt345 (bif betO (u a.2.1) (m - m0) then putS u a.2.1 (m - m0) else u) (nu + 1) _ (hF.step hkm ha (by omega) (dt h356) (fun j hj => by by_cases e : j = k; exact .inr e; exact .inl fun hl => hj ⟨hl, fun e2 => e (by injection e2 with _ e3; exact Int.ofNat.inj e3)⟩)) hM rfl))
     exact fewer _ (lp342 _ (fun k => ((tabV t) k).isSome = true) c341 (putS (fun _ => none) f 0) (0 + 1) _ (FirstOk.zero fun k m hk h9 => h9 (by show ((tabV t) (vI (k : Int))).isSome = true; rw [tabV_at, hk]; rfl)) hM rfl)
   | true =>
    have rh335 := dt h335
    exact rt2 10 11 (vL none 0 0) (vI 1) rfl rfl f0 (hΦ _ _ ⟨_, _, [], rfl, .inl ⟨.inr (dt h335), rfl, rfl⟩, (hM.pick (M' := []) []).row⟩)
  | true =>
   have rh334 := dt h334
   exact rt2 10 11 (vL none 0 0) (vI 1) rfl rfl f0 (hΦ _ _ ⟨_, _, [], rfl, .inl ⟨.inl (dt h334), rfl, rfl⟩, (hM.pick (M' := []) []).row⟩)
end Go.Proofs.YtbflfefahheidaaGreatDoor
/- Moderate maps, equal trips, the last minute. -/
set_option linter.unusedVariables false
set_option linter.unusedSimpArgs false
namespace Go.Proofs.YtbflfefahheidaaGreatDoor
open Go.RowKit Go.Pl
/-! ### moderate maps -/
def cntR (l : List ObR) : Int := (l.map fun b => bif b.o.kind == 2 then (b.o.refs.length : Int) else 0).sum
theorem cntR_snoc {l : List ObR} {i : Nat} {y : ObR} (h : l[i]? = some y) : cntR (l.take (i + 1)) = cntR (l.take i) + bif y.o.kind == 2 then (y.o.refs.length : Int) else 0 := by
  rw [gt_ h]; unfold cntR; simp
def few37 (l : List ObR) (m : Nat) : Bool := decide ((l.length : Int) ≤ (m : Int)) && decide (cntR (l.take (m + 1)) ≤ 40)
def fewP (l : List ObR) : Bool := few13 (pure_ l) 24 && few37 l 24
theorem few13_refs {l : List ObR} {n : Int} (h : few13 (pure_ l) n = true) : ∀ b ∈ l, b.o.refs.length ≤ 12 := by
  intro b hb
  unfold few13 at h
  rw [Bool.and_eq_true] at h
  have := List.all_eq_true.1 h.2 b.o (List.mem_map.2 ⟨b, hb, rfl⟩)
  unfold fewO at this
  simp only [Bool.and_eq_true, decide_eq_true_eq] at this
  exact this.1.1.1.1
abbrev A27 (Φ : Ending → World → Prop) := AtO Tryz.prog (bodyOf Tryz.f27) (whole (bodyPost Tryz.prog Tryz.f27 Φ)) [] 44
theorem few37_calls {w : World} {v : Value} {os : List ObR} (hm : ObsV w v os) {m : Nat} (hm9 : m ≤ 1000000) (hr : ∀ b ∈ os, b.o.refs.length ≤ 12) : Calls Tryz.prog 27 #[.agg #[v], vI (m : Int)] w fun e w' => e = .returned (vB (few37 os m)) ∧ Fr (fun _ => False) w w' := by
  have hm0 := hm; obtain ⟨hs0, hob⟩ := hm0
  obtain ⟨p0, cp0, hp0, sp0⟩ := hs0.op
  subst hp0; have bp0 := sp0.bnd
  refine beg Tryz.func27 rfl rfl [(0, .agg #[vL p0 os.length cp0]), (1, vI (m : Int))] rfl rfl fun Φ hΦ => ?_
  have hM := Mm.nil (fun _ => False) w
  have hmm : (m : Int) ≤ 1000000 := by omega
  refine newm 0 0 2 [] (cs := #[vL p0 os.length cp0]) (T := 24) (v := fun b => vP b 0) f0 hM fun b361 w1 hM => seg 3 0 [(5, vI 0), (6, vI 0)] f0 ?_
  have lp362 : ∀ (m364 : Nat) (i : Nat) (n : Int) (w2 : World), i ≤ os.length → i ≤ m + 1 → n = cntR (os.take i) → 0 ≤ n ∧ n ≤ 12 * (i : Int) → Mm (fun _ => False) w w2 [bk b361 #[vL p0 os.length cp0] 24] → m364 = os.length - i → A27 Φ (some (3, 0)) [(6, vI (i : Int)), (5, vI n), (2, vP b361 0), (1, vI (m : Int))] w2 := by
   refine srec fun m364 ih363 i n w2 hi hi2 hn hn2 hM hm364 => ?_
   have hm0 : (m : Int) ≤ 1000000 := hmm
   refine seg 3 6 [(12, vB (decide ((i : Int) < (os.length : Int))))] (fc (ldm 22 0 0 hM rfl rfl) f0) ?_
   cases h365 : (decide ((i : Int) < (os.length : Int))) with
   | false =>
    have rh365 := df h365
    refine seg 7 6 [(40, vB (decide ((os.length : Int) ≤ (m : Int))))] (fc (ldm 22 0 0 hM rfl rfl) f0) ?_
    cases h366 : (decide ((os.length : Int) ≤ (m : Int))) with
    | false =>
     have rh366 := df h366
     have e9 : n = cntR (os.take (m + 1)) := by
       rw [hn]
       congr 1
       rcases Nat.lt_or_ge m i with h | h
       · rw [show i = m + 1 by omega]
       · rw [List.take_of_length_le (by omega), List.take_of_length_le (by omega)]
     exact rt1 4 (vB false) rfl f0 (hΦ _ _ ⟨by unfold few37; rw [← e9]; simp only [h366] <;> rfl, hM.fr⟩)
    | true =>
     have rh366 := dt h366
     have e9 : n = cntR (os.take (m + 1)) := by
       rw [hn]
       congr 1
       rcases Nat.lt_or_ge m i with h | h
       · rw [show i = m + 1 by omega]
       · rw [List.take_of_length_le (by omega), List.take_of_length_le (by omega)]
     exact rt1 4 (vB (decide (n ≤ 40))) rfl f0 (hΦ _ _ ⟨by unfold few37; rw [← e9]; simp only [h366] <;> rfl, hM.fr⟩)
   | true =>
    have rh365 := dt h365
    refine seg 3 10 [(16, vB (decide ((i : Int) ≤ (m : Int))))] f0 ?_
    cases h367 : (decide ((i : Int) ≤ (m : Int))) with
    | false =>
     have rh367 := df h367
     refine seg 7 6 [(40, vB (decide ((os.length : Int) ≤ (m : Int))))] (fc (ldm 22 0 0 hM rfl rfl) f0) ?_
     cases h368 : (decide ((os.length : Int) ≤ (m : Int))) with
     | false =>
      have rh368 := df h368
      have e9 : n = cntR (os.take (m + 1)) := by
        rw [hn]
        congr 1
        rcases Nat.lt_or_ge m i with h | h
        · rw [show i = m + 1 by omega]
        · rw [List.take_of_length_le (by omega), List.take_of_length_le (by omega)]
      exact rt1 4 (vB false) rfl f0 (hΦ _ _ ⟨by unfold few37; rw [← e9]; simp only [h368] <;> rfl, hM.fr⟩)
     | true =>
      have rh368 := dt h368
      have e9 : n = cntR (os.take (m + 1)) := by
        rw [hn]
        congr 1
        rcases Nat.lt_or_ge m i with h | h
        · rw [show i = m + 1 by omega]
        · rw [List.take_of_length_le (by omega), List.take_of_length_le (by omega)]
      exact rt1 4 (vB (decide (n ≤ 40))) rfl f0 (hΦ _ _ ⟨by unfold few37; rw [← e9]; simp only [h368] <;> rfl, hM.fr⟩)
    | true =>
     have rh367 := dt h367
     obtain ⟨y, hy, g369, o369, q369, r369⟩ := sp0.el (i := i) (by omega)
     refine seg 5 7 [(25, vB (y.o.kind == 2))] (fc (ldm 22 0 0 hM rfl rfl) (fc (ix 22 cp0 q369 (gl hy)) (fc (ld0 3 hM (r369 1 _ rfl)) f0))) ?_
     cases h370 : (y.o.kind == 2) with
     | false =>
      have rh370 := ef h370
      refine seg 3 0 [(6, vI ((i : Int) + 1))] (fc (tadd (i : Int) 1 Tryz.underlying3) f0) (fewer _ (ih363 _ (by have := gl hy; omega) (i + 1) n _ (gl hy) (by omega) (by rw [cntR_snoc hy, h370, hn]; simp only [cond_true, cond_false, Int.add_zero]) (by have := hr y (gm hy); omega) hM rfl))
     | true =>
      have rh370 := et h370
      have hry := hr y (gm hy)
      refine seg 3 0 [(5, vI (n + (y.o.refs.length : Int))), (6, vI ((i : Int) + 1))] (fc (ldm 22 0 0 hM rfl rfl) (fc (ix 22 cp0 q369 (gl hy)) (fc (ld0 28 hM (r369 4 _ rfl)) (fc (tadd n (y.o.refs.length : Int) Tryz.underlying3) (fc (tadd (i : Int) 1 Tryz.underlying3) f0))))) (fewer _ (ih363 _ (by have := gl hy; omega) (i + 1) (n + (y.o.refs.length : Int)) _ (gl hy) (by omega) (by rw [cntR_snoc hy, h370, hn]; simp only [cond_true, cond_false, Int.add_zero]) (by have := hr y (gm hy); omega) hM rfl))
  exact fewer _ (lp362 _ 0 0 _ (Nat.zero_le _) (Nat.zero_le _) rfl (by omega) hM rfl)
theorem few_calls {w : World} {v : Value} {os : List ObR} (hm : ObsV w v os) : Calls Tryz.prog 10 #[.agg #[v]] w fun e w' => e = .returned (vB (fewP os)) ∧ Fr (fun _ => False) w w' := by
  have hm0 := hm; obtain ⟨hs0, hob⟩ := hm0
  obtain ⟨p0, cp0, hp0, sp0⟩ := hs0.op
  subst hp0; have bp0 := sp0.bnd
  refine beg Tryz.func10 rfl rfl [(0, .agg #[vL p0 os.length cp0])] rfl rfl fun Φ hΦ => ?_
  have hM := Mm.nil (fun _ => False) w
  refine newm 0 0 1 [] (cs := #[vL p0 os.length cp0]) (T := 24) (v := fun b => vP b 0) f0 hM fun b371 w1 hM => calm 1 1 4 [(3, .agg #[vL p0 os.length cp0])] (fc (lam 24 0 0 1 hM rfl) f0) hM (few13_calls (hm.fr hM.fr) 24) fun w1 hM => seg 1 3 [(5, vB (few13 (pure_ os) 24))] f0 ?_
  cases h372 : (few13 (pure_ os) 24) with
  | false =>
   exact rt1 2 (vB false) rfl f0 (hΦ _ _ ⟨by unfold fewP; simp only [h372] <;> rfl, hM.fr⟩)
  | true =>
   refine calm 1 4 7 [(6, .agg #[vL p0 os.length cp0])] (fc (lam 24 0 0 1 hM rfl) f0) hM (few37_calls (m := 24) (hm.fr hM.fr) (by decide) (few13_refs h372)) fun w1 hM => rt1 2 (vB (few37 os 24)) rfl f0 (hΦ _ _ ⟨by unfold fewP; simp only [h372] <;> rfl, hM.fr⟩)
theorem take_beq {α : Type} [BEq α] [LawfulBEq α] {A B : List α} {i : Nat} (h : A.take i = B.take i) (hA : A.length ≤ i) (hB : B.length ≤ i) : (A == B) = true := by
  rw [List.take_of_length_le hA, List.take_of_length_le hB] at h; simpa using h
theorem take_succ_eq {α : Type} {A B : List α} {i : Nat} {x y : α} (h : A.take i = B.take i) (hx : A[i]? = some x) (hy : B[i]? = some y) (e : x = y) : A.take (i + 1) = B.take (i + 1) := by
  rw [gt_ hx, gt_ hy, h, e]
theorem beq_at {α : Type} [BEq α] [LawfulBEq α] {A B : List α} {i : Nat} {x y : α} (hx : A[i]? = some x) (hy : B[i]? = some y) (e : x ≠ y) : (A == B) = false := by
  cases h : A == B with
  | false => rfl
  | true => rw [et h] at hx; rw [hx] at hy; exact absurd (Option.some.inj hy) e
theorem beq_len {α : Type} [BEq α] [LawfulBEq α] {A B : List α} (h : ¬ (A.length : Int) = (B.length : Int)) : (A == B) = false := by
  cases e : A == B with
  | false => rfl
  | true => rw [et e] at h; exact absurd rfl h
/-- Whether two trips are equal. -/
def sameT (a1 : List Bys) (a2 : List Int) (b1 : List Bys) (b2 : List Int) : Bool := (a1 == b1) && (a2 == b2)
abbrev A16 (Φ : Ending → World → Prop) := AtO Tryz.prog (bodyOf Tryz.f16) (whole (bodyPost Tryz.prog Tryz.f16 Φ)) [] 59
theorem same_calls {w : World} {p1 p2 p3 p4 : Option Addr} {c1 c2 c3 c4 : Nat} {A1 B1 : List Bys} {A2 B2 : List Int} (h1 : SrcP stL 1 w p1 c1 A1) (h2 : SrcP inL 1 w p2 c2 A2) (h3 : SrcP stL 1 w p3 c3 B1) (h4 : SrcP inL 1 w p4 c4 B2) : Calls Tryz.prog 16 #[.agg #[vL p1 A1.length c1, vL p2 A2.length c2], .agg #[vL p3 B1.length c3, vL p4 B2.length c4]] w fun e w' => e = .returned (vB (sameT A1 A2 B1 B2)) ∧ Fr (fun _ => False) w w' := by
  have q1 := h1.bnd; have q2 := h2.bnd; have q3 := h3.bnd; have q4 := h4.bnd
  refine beg Tryz.func16 rfl rfl [(0, .agg #[vL p1 A1.length c1, vL p2 A2.length c2]), (1, .agg #[vL p3 B1.length c3, vL p4 B2.length c4])] rfl rfl fun Φ hΦ => ?_
  have hM := Mm.nil (fun _ => False) w
  refine newm 0 0 2 [] (cs := #[vL p1 A1.length c1, vL p2 A2.length c2]) (T := 31) (v := fun b => vP b 0) f0 hM fun b373 w1 hM => newm 0 1 3 [] (cs := #[vL p3 B1.length c3, vL p4 B2.length c4]) (T := 31) (v := fun b => vP b 0) f0 hM fun b374 w1 hM => seg 1 8 [(14, vB (!((A1.length : Int) == (B1.length : Int))))] (fc (ldm 28 0 0 hM rfl rfl) (fc (ldm 28 1 0 hM rfl rfl) f0)) ?_
  cases h375 : ((A1.length : Int) == (B1.length : Int)) with
  | false =>
   have rh375 := ef h375
   exact rt1 4 (vB false) rfl f0 (hΦ _ _ ⟨by unfold sameT; rw [beq_len (ef h375)]; rfl, hM.fr⟩)
  | true =>
   have rh375 := et h375
   refine seg 1 16 [(22, vB (!((A2.length : Int) == (B2.length : Int))))] (fc (ldm 29 0 1 hM rfl rfl) (fc (ldm 29 1 1 hM rfl rfl) f0)) ?_
   cases h376 : ((A2.length : Int) == (B2.length : Int)) with
   | false =>
    have rh376 := ef h376
    exact rt1 4 (vB false) rfl f0 (hΦ _ _ ⟨by unfold sameT; rw [beq_len (ef h376), Bool.and_false], hM.fr⟩)
   | true =>
    have rh376 := et h376
    refine seg 4 0 [(5, vI 0)] f0 ?_
    have lp377 : ∀ (m379 : Nat) (i : Nat) (w2 : World), i ≤ A1.length → A1.take i = B1.take i → Mm (fun _ => False) w w2 [bk b373 #[vL p1 A1.length c1, vL p2 A2.length c2] 31, bk b374 #[vL p3 B1.length c3, vL p4 B2.length c4] 31] → m379 = A1.length - i → A16 Φ (some (4, 0)) [(5, vI (i : Int)), (3, vP b374 0), (2, vP b373 0)] w2 := by
     refine srec fun m379 ih378 i w2 hi he hM hm379 => seg 4 5 [(27, vB (decide ((i : Int) < (A1.length : Int))))] (fc (ldm 28 0 0 hM rfl rfl) f0) ?_
     cases h380 : (decide ((i : Int) < (A1.length : Int))) with
     | false =>
      have rh380 := df h380
      refine seg 9 0 [(6, vI 0)] f0 ?_
      have lp381 : ∀ (m383 : Nat) (j : Nat) (w2 : World), j ≤ A2.length → A2.take j = B2.take j → Mm (fun _ => False) w w2 [bk b373 #[vL p1 A1.length c1, vL p2 A2.length c2] 31, bk b374 #[vL p3 B1.length c3, vL p4 B2.length c4] 31] → m383 = A2.length - j → A16 Φ (some (9, 0)) [(6, vI (j : Int)), (3, vP b374 0), (2, vP b373 0)] w2 := by
       refine srec fun m383 ih382 j w2 hj he2 hM hm383 => seg 9 5 [(45, vB (decide ((j : Int) < (A2.length : Int))))] (fc (ldm 29 0 1 hM rfl rfl) f0) ?_
       cases h384 : (decide ((j : Int) < (A2.length : Int))) with
       | false =>
        have rh384 := df h384
        exact rt1 4 (vB true) rfl f0 (hΦ _ _ ⟨by unfold sameT; rw [take_beq he (by omega) (by omega), take_beq he2 (by omega) (by omega)]; rfl, hM.fr⟩)
       | true =>
        have rh384 := dt h384
        refine seg 11 0 [] f0 ?_
        have hM := hM.q ((Fr.refl _ _).drew)
        obtain ⟨x2, hx2, g387, o387, q387, r387⟩ := h2.el (i := j) (by omega)
        obtain ⟨y2, hy2, g388, o388, q388, r388⟩ := h4.el (i := j) (by omega)
        refine drq [(58, vB (!(x2 == y2)))] rfl (fc (ldm 29 0 1 hM rfl rfl) (fc (ix 29 c2 q387 (gl hx2)) (fc (ld0 3 hM (r387 0 _ rfl)) (fc (ldm 29 1 1 hM rfl rfl) (fc (ix 29 c4 q388 (gl hy2)) (fc (ld0 3 hM (r388 0 _ rfl)) f0)))))) ?_
        cases h389 : (x2 == y2) with
        | false =>
         have rh389 := ef h389
         exact rt1 4 (vB false) rfl f0 (hΦ _ _ ⟨by unfold sameT; rw [beq_at hx2 hy2 (ef h389), Bool.and_false], hM.fr⟩)
        | true =>
         have rh389 := et h389
         refine seg 9 0 [(6, vI ((j : Int) + 1))] (fc (tadd (j : Int) 1 Tryz.underlying3) f0) (fewer _ (ih382 _ (by have := gl hx2; omega) (j + 1) _ (gl hx2) (take_succ_eq he2 hx2 hy2 (et h389)) hM rfl))
      exact fewer _ (lp381 _ 0 _ (Nat.zero_le _) rfl hM rfl)
     | true =>
      have rh380 := dt h380
      refine seg 6 0 [] f0 ?_
      have hM := hM.q ((Fr.refl _ _).drew)
      obtain ⟨x1, hx1, g392, o392, q392, r392⟩ := h1.el (i := i) (by omega)
      obtain ⟨y1, hy1, g393, o393, q393, r393⟩ := h3.el (i := i) (by omega)
      refine drq [(40, vB (!(x1 == y1)))] rfl (fc (ldm 28 0 0 hM rfl rfl) (fc (ix 28 c1 q392 (gl hx1)) (fc (ld0 9 hM (r392 0 _ rfl)) (fc (ldm 28 1 0 hM rfl rfl) (fc (ix 28 c3 q393 (gl hy1)) (fc (ld0 9 hM (r393 0 _ rfl)) (fc (sne 9 x1 y1) f0))))))) ?_
      cases h394 : (x1 == y1) with
      | false =>
       have rh394 := ef h394
       exact rt1 4 (vB false) rfl f0 (hΦ _ _ ⟨by unfold sameT; rw [beq_at hx1 hy1 (ef h394)]; rfl, hM.fr⟩)
      | true =>
       have rh394 := et h394
       refine seg 4 0 [(5, vI ((i : Int) + 1))] (fc (tadd (i : Int) 1 Tryz.underlying3) f0) (fewer _ (ih378 _ (by have := gl hx1; omega) (i + 1) _ (gl hx1) (take_succ_eq he hx1 hy1 (et h394)) hM rfl))
    exact fewer _ (lp377 _ 0 _ (Nat.zero_le _) rfl hM rfl)
theorem rw_ne {w : World} (a b : Bys × Int) : Ft.ok Tryz.prog w (.g2 (fun x y => .binOp .neq 56 x y 56) (.agg #[vS a.1, vI a.2]) (.agg #[vS b.1, vI b.2]) (vB (!(a == b)))) := fun o ρ x y ho hx hy => by
  have e : (a == b) = ((a.1 == b.1) && (a.2 == b.2)) := rfl
  by_cases q1 : a.1 = b.1 <;> by_cases q2 : a.2 = b.2 <;> simp [execOp, ho, hx, hy, go_sem, Tryz.underlying56, Tryz.underlying9, Tryz.underlying3, e, ofL_toList, q1, q2]
abbrev A17 (Φ : Ending → World → Prop) := AtO Tryz.prog (bodyOf Tryz.f17) (whole (bodyPost Tryz.prog Tryz.f17 Φ)) [] 26
theorem rows_calls {w : World} {p1 p2 : Option Addr} {c1 c2 : Nat} {A B : List (Bys × Int)} (h1 : SrcP rwL 2 w p1 c1 A) (h2 : SrcP rwL 2 w p2 c2 B) : Calls Tryz.prog 17 #[vL p1 A.length c1, vL p2 B.length c2] w fun e w' => e = .returned (vB (A == B)) ∧ Fr (fun _ => False) w w' := by
  have q1 := h1.bnd; have q2 := h2.bnd
  refine beg Tryz.func17 rfl rfl [(0, vL p1 A.length c1), (1, vL p2 B.length c2)] rfl rfl fun Φ hΦ => ?_
  have hM := Mm.nil (fun _ => False) w
  refine seg 1 5 [(10, vB (!((A.length : Int) == (B.length : Int))))] f0 ?_
  cases h395 : ((A.length : Int) == (B.length : Int)) with
  | false =>
   have rh395 := ef h395
   exact rt1 4 (vB false) rfl f0 (hΦ _ _ ⟨by rw [beq_len (ef h395)], hM.fr⟩)
  | true =>
   have rh395 := et h395
   refine seg 4 0 [(5, vI 0)] f0 ?_
   have lp396 : ∀ (m398 : Nat) (i : Nat) (w2 : World), i ≤ A.length → A.take i = B.take i → Mm (fun _ => False) w w2 [] → m398 = A.length - i → A17 Φ (some (4, 0)) [(5, vI (i : Int)), (0, vL p1 A.length c1), (1, vL p2 B.length c2)] w2 := by
    refine srec fun m398 ih397 i w2 hi he hM hm398 => seg 4 4 [(14, vB (decide ((i : Int) < (A.length : Int))))] f0 ?_
    cases h399 : (decide ((i : Int) < (A.length : Int))) with
    | false =>
     have rh399 := df h399
     exact rt1 4 (vB true) rfl f0 (hΦ _ _ ⟨by rw [take_beq he (by omega) (by omega)], hM.fr⟩)
    | true =>
     have rh399 := dt h399
     refine seg 6 0 [] f0 ?_
     have hM := hM.q ((Fr.refl _ _).drew)
     obtain ⟨x1, hx1, g402, o402, q402, r402⟩ := h1.el (i := i) (by omega)
     obtain ⟨y1, hy1, g403, o403, q403, r403⟩ := h2.el (i := i) (by omega)
     refine drq [(25, vB (!(x1 == y1)))] rfl (fc (ix 35 c1 q402 (gl hx1)) (fc (la0 56 hM r402) (fc (ix 35 c2 q403 (gl hy1)) (fc (la0 56 hM r403) (fc (rw_ne x1 y1) f0))))) ?_
     cases h404 : (x1 == y1) with
     | false =>
      have rh404 := ef h404
      exact rt1 4 (vB false) rfl f0 (hΦ _ _ ⟨by rw [beq_at hx1 hy1 (ef h404)], hM.fr⟩)
     | true =>
      have rh404 := et h404
      refine seg 4 0 [(5, vI ((i : Int) + 1))] (fc (tadd (i : Int) 1 Tryz.underlying3) f0) (fewer _ (ih397 _ (by have := gl hx1; omega) (i + 1) _ (gl hx1) (take_succ_eq he hx1 hy1 (et h404)) hM rfl))
   exact fewer _ (lp396 _ 0 _ (Nat.zero_le _) rfl hM rfl)
/-- The last minute of a trip. -/
def endO (c : Int) (mi : List Int) : Option Int := bif !(c == 0) || ((mi.length : Int) == 0) then none else mi[mi.length - 1]?
theorem end_calls {w : World} {v : Value} {os : List ObR} (hmv : ObsV w v os) {prof f g : Bys} (hp63 : prof.length ≤ 9223372036854775807) (hf63 : B63 f) (hlen : validMap (pure_ os) = true → (arcsP os).length ≤ 240) (hTe : Te w) (m0 : Int) : Calls Tryz.prog 22 #[.agg #[v], vS prof, vS f, vS g, vI m0] w fun e w' => ∃ c nd mi, TripR prof os f g m0 c nd mi ∧ e = .returned (.tuple #[vI ((endO c mi).getD 0), vB (endO c mi).isSome]) ∧ Fr (fun _ => False) w w' := by
  obtain ⟨p0, c0, e0, s0⟩ := hmv.1.op
  subst e0
  refine beg Tryz.func22 rfl rfl [(0, .agg #[vL p0 os.length c0]), (1, vS prof), (2, vS f), (3, vS g), (4, vI m0)] rfl rfl fun Φ hΦ => ?_
  have hM := Mm.nil (fun _ => False) w
  refine newm 0 0 5 [] (cs := #[vL p0 os.length c0]) (T := 24) (v := fun b => vP b 0) f0 hM fun b405 w1 hM => calM 1 5 21 [(16, .agg #[vL p0 os.length c0]), (17, vS prof), (18, vS f), (19, vS g), (20, vI m0)] (K := fun u Mn => ∃ v1 v2 c nd mi, u = .tuple #[.agg #[v1, v2], vI c] ∧ TripR prof os f g m0 c nd mi ∧ Mn = [rw_ stL 1 9 v1 nd, rw_ inL 1 3 v2 mi]) [0] [] (fc (lam 24 0 0 1 hM rfl) f0) hM rfl rfl (by decide) (fun hm => ((trip_calls (hmv.fr hM.fr) hp63 hf63 hlen (hTe.fr hM.fr) m0).mono fun e w8 ⟨v1, v2, c, nd, mi, h1, h2, h3⟩ => ⟨_, _, h1, ⟨v1, v2, c, nd, mi, rfl, h2, rfl⟩, Mm_wk h3 fun _ h => h.elim⟩)) fun u Mn w1 hK hM => ?_
  obtain ⟨v1, v2, c, nd, mi, rfl, hR, rfl⟩ := hK
  obtain ⟨qm, cm, em, sm⟩ := (hM.src (j := 2) rfl inT.len).op
  subst em
  have bm := sm.bnd
  obtain ⟨qn, cn, en, sn⟩ := (hM.src (j := 1) rfl stT.len).op
  subst en
  refine varm 1 9 12 [(22, .agg #[vL qn nd.length cn, vL qm mi.length cm]), (23, vI c)] [] 31 (.agg #[vL qn nd.length cn, vL qm mi.length cm]) f0 hM fun b406 w1 hM => seg 3 3 [(14, vI (mi.length : Int)), (29, vB (!(c == 0)))] (fc (ldm 29 3 1 hM rfl rfl) f0) ?_
  cases h407 : (c == 0) with
  | false =>
   have rh407 := ef h407
   exact rt2 10 11 (vI 0) (vB false) rfl rfl f0 (hΦ _ _ ⟨c, nd, mi, hR, by unfold endO; simp only [h407] <;> rfl, hM.fr⟩)
  | true =>
   have rh407 := et h407
   refine seg 3 6 [(32, vB ((mi.length : Int) == 0))] f0 ?_
   cases h408 : ((mi.length : Int) == 0) with
   | false =>
    have rh408 := ef h408
    obtain ⟨y409, hy409⟩ := geb (l := mi) (i := (mi.length - 1)) (by omega)
    obtain ⟨g409, eg409, -⟩ := hM.el inT (j := 2) rfl hy409
    exact rt2 10 11 (vI y409) (vB true) rfl rfl (fc (ldm 29 3 1 hM rfl rfl) (fc (tsub (mi.length : Int) 1 Tryz.underlying3) (fc (ix 29 cm eg409 (gl hy409) (z := ((mi.length : Int) - 1)) (hz := (by omega))) (fc (ldr 3 2 0 inT hM rfl eg409 hy409 rfl) f0)))) (hΦ _ _ ⟨c, nd, mi, hR, by unfold endO; simp only [h407, h408, hy409] <;> rfl, hM.fr⟩)
   | true =>
    have rh408 := et h408
    exact rt2 10 11 (vI 0) (vB false) rfl rfl f0 (hΦ _ _ ⟨c, nd, mi, hR, by unfold endO; simp only [h407, h408] <;> rfl, hM.fr⟩)
end Go.Proofs.YtbflfefahheidaaGreatDoor
/- The chapter's examples. -/
set_option linter.unusedVariables false
set_option linter.unusedSimpArgs false
namespace Go.Proofs.YtbflfefahheidaaGreatDoor
open Go.RowKit Go.Pl
theorem obT : ElT Tryz.prog obL 6 22 64 := ⟨fun _ => rfl, by decide, fun x u hu => by
 unfold obL at hu
 simp only [List.mem_cons, List.not_mem_nil, or_false] at hu
 rcases hu with rfl | rfl | rfl | rfl | rfl | rfl <;> rfl, Tryz.underlying22, elOK_info (by kernel_rfl)⟩
theorem tgT : ElT Tryz.prog tgL 2 62 106 := ⟨fun _ => rfl, by decide, fun x u hu => by
 unfold tgL at hu
 simp only [List.mem_cons, List.not_mem_nil, or_false] at hu
 rcases hu with rfl | rfl <;> rfl, Tryz.underlying62, elOK_info (by kernel_rfl)⟩
/-- The map of the chapter's examples, with further objects. -/
def exO (l : List Ob) : List Ob := ([⟨[97], 1, 0, 0, [], []⟩, ⟨[98], 1, 300, 0, [], []⟩, ⟨[99], 1, 300, 400, [], []⟩] ++ l) ++ [⟨[118], 2, 0, 0, [[97], [98]], [([115, 112, 101, 101, 100], [49, 48, 48])]⟩, ⟨[119], 2, 0, 0, [[98], [99]], [([104, 111, 117, 114, 115], [109, 111, 32, 49, 58, 48, 48, 45, 50, 58, 48, 48])]⟩]
theorem exV_b : ObB ⟨[118], 2, 0, 0, [[97], [98]], [([115, 112, 101, 101, 100], [49, 48, 48])]⟩ := ⟨by unfold B63; decide, by unfold B63; decide, by unfold B63; decide⟩
theorem exW_b : ObB ⟨[119], 2, 0, 0, [[98], [99]], [([104, 111, 117, 114, 115], [109, 111, 32, 49, 58, 48, 48, 45, 50, 58, 48, 48])]⟩ := ⟨by unfold B63; decide, by unfold B63; decide, by unfold B63; decide⟩
theorem obIn_nil (w : World) (id : Bys) (k x y : Int) (hid : B63 id) : ObIn w (⟨⟨id, k, x, y, [], []⟩, none, 0, none, 0⟩ : ObR) :=
 ⟨⟨Nat.le_refl _, Nat.zero_le _, .inl rfl, fun _ => rfl⟩, ⟨Nat.le_refl _, Nat.zero_le _, .inl rfl, fun _ => rfl⟩, hid, fun _ h => (by cases h), fun _ h => (by cases h)⟩
theorem ex1_calls {w : World} (id : Bys) (x y : Int) : Calls Tryz.prog 51 #[vS id, vI x, vI y] w fun e w' => e = .returned (.agg #[vS id, vI 1, vI x, vI y, vL none 0 0, vL none 0 0]) ∧ Fr (fun _ => False) w w' := by
 refine beg Tryz.func51 rfl rfl [(0, vS id), (1, vI x), (2, vI y)] rfl rfl fun Φ hΦ => ?_
 have hM := Mm.nil (fun _ => False) w
 refine newm 0 0 6 [] (cs := #[vS [], vI 0, vI 0, vI 0, vL none 0 0, vL none 0 0]) (T := 64) (v := fun b => vP b 0) f0 hM fun b410 w1 hM => stm 1 5 [(11, .agg #[vS id, vI 1, vI x, vI y, vL none 0 0, vL none 0 0])] 64 0 0 (.agg #[vS id, vI 1, vI x, vI y, vL none 0 0, vL none 0 0]) f0 hM rfl fun w1 hM => rtc 6 64 rfl (run_loadW 64 0 hM rfl rfl) f0 (hΦ _ _ ⟨rfl, hM.fr⟩)
theorem mktrip_calls {w : World} (p1 p2 : Option Addr) (n1 c1 n2 c2 : Nat) : Calls Tryz.prog 25 #[vL p1 n1 c1, vL p2 n2 c2] w fun e w' => e = .returned (.agg #[vL p1 n1 c1, vL p2 n2 c2]) ∧ Fr (fun _ => False) w w' := by
 refine beg Tryz.func25 rfl rfl [(0, vL p1 n1 c1), (1, vL p2 n2 c2)] rfl rfl fun Φ hΦ => ?_
 have hM := Mm.nil (fun _ => False) w
 refine newm 0 0 4 [] (cs := #[vL none 0 0, vL none 0 0]) (T := 31) (v := fun b => vP b 0) f0 hM fun b411 w1 hM => stm 1 3 [(7, .agg #[vL p1 n1 c1, vL p2 n2 c2])] 31 0 0 (.agg #[vL p1 n1 c1, vL p2 n2 c2]) f0 hM rfl fun w1 hM => rtc 4 31 rfl (run_loadW 31 0 hM rfl rfl) f0 (hΦ _ _ ⟨rfl, hM.fr⟩)
theorem example_calls {w : World} {v : Value} {L : List ObR} (hL : ObsV w v L) (hl9 : L.length ≤ 1000000) : Calls Tryz.prog 24 #[v] w fun e w' => ∃ v os, e = .returned (.agg #[v]) ∧ ObsV w' v os ∧ pure_ os = exO (pure_ L) ∧ Fr (fun _ => False) w w' := by
 obtain ⟨hs0, hob0⟩ := hL
 obtain ⟨p0, cp0, hp0, sp0⟩ := hs0.op
 subst hp0; have bp0 := sp0.bnd
 refine beg Tryz.func24 rfl rfl [(0, vL p0 L.length cp0)] rfl rfl fun Φ hΦ => ?_
 have hM := Mm.nil (fun _ => False) w
 refine newm 0 0 2 [] (cs := #[vL none 0 0]) (T := 24) (v := fun b => vP b 0) f0 hM fun b412 w1 hM => calm 2 1 8 [(3, .func (.func 51) #[] #[]), (7, .func (.func 51) #[] #[])] f0 hM (ex1_calls [97] 0 0) fun w1 hM => calm 2 3 10 [(9, .func (.func 51) #[] #[])] f0 hM (ex1_calls [98] 300 0) fun w1 hM => calm 2 5 12 [(11, .func (.func 51) #[] #[])] f0 hM (ex1_calls [99] 300 400) fun w1 hM => newm 2 6 13 [] (cs := #[vS [97], vI 1, vI 0, vI 0, vL none 0 0, vL none 0 0, vS [98], vI 1, vI 300, vI 0, vL none 0 0, vL none 0 0, vS [99], vI 1, vI 300, vI 400, vL none 0 0, vL none 0 0]) (T := 64) (v := fun b => vL (some ⟨b, 0, none⟩) 3 3) f0 hM fun b413 w1 hM => ?_
 have hM := lit_row hM (f := obL) (c := 6) (j := 1) rfl [(⟨⟨[97], 1, 0, 0, [], []⟩, none, 0, none, 0⟩ : ObR), (⟨⟨[98], 1, 300, 0, [], []⟩, none, 0, none, 0⟩ : ObR), (⟨⟨[99], 1, 300, 400, [], []⟩, none, 0, none, 0⟩ : ObR)] 3 rfl rfl rfl
 refine appm 3 2 16 [(14, vL (some ⟨b413, 0, none⟩) 3 3), (15, vL p0 L.length cp0)] (cap := cp0) (by decide) obT f0 hM (j := 1) rfl (sp0.fr hM.fr).at_ sp0.nil (by simp only [List.length_append, List.length_cons, List.length_nil]; omega) fun v414 w1 hM => ?_
 obtain ⟨qa414, ca414, e414, -⟩ := (hM.src (j := 1) rfl obT.len).op
 subst e414
 refine newm 4 0 17 [(4, vL qa414 ([(⟨⟨[97], 1, 0, 0, [], []⟩, none, 0, none, 0⟩ : ObR), (⟨⟨[98], 1, 300, 0, [], []⟩, none, 0, none, 0⟩ : ObR), (⟨⟨[99], 1, 300, 400, [], []⟩, none, 0, none, 0⟩ : ObR)] ++ L).length ca414)] (cs := #[vS [97], vS [98]]) (T := 9) (v := fun b => vL (some ⟨b, 0, none⟩) 2 2) f0 hM fun b415 w1 hM => newm 4 2 19 [(18, .agg #[vS [115, 112, 101, 101, 100], vS [49, 48, 48]])] (cs := #[vS [115, 112, 101, 101, 100], vS [49, 48, 48]]) (T := 106) (v := fun b => vL (some ⟨b, 0, none⟩) 1 1) f0 hM fun b416 w1 hM => varm 4 4 5 [(20, .agg #[vS [118], vI 2, vI 0, vI 0, vL (some ⟨b415, 0, none⟩) 2 2, vL (some ⟨b416, 0, none⟩) 1 1])] [] 64 (.agg #[vS [118], vI 2, vI 0, vI 0, vL (some ⟨b415, 0, none⟩) 2 2, vL (some ⟨b416, 0, none⟩) 1 1]) f0 hM fun b417 w1 hM => newm 5 0 21 [] (cs := #[vS [98], vS [99]]) (T := 9) (v := fun b => vL (some ⟨b, 0, none⟩) 2 2) f0 hM fun b418 w1 hM => newm 5 2 23 [(22, .agg #[vS [104, 111, 117, 114, 115], vS [109, 111, 32, 49, 58, 48, 48, 45, 50, 58, 48, 48]])] (cs := #[vS [104, 111, 117, 114, 115], vS [109, 111, 32, 49, 58, 48, 48, 45, 50, 58, 48, 48]]) (T := 106) (v := fun b => vL (some ⟨b, 0, none⟩) 1 1) f0 hM fun b419 w1 hM => varm 5 4 6 [(24, .agg #[vS [119], vI 2, vI 0, vI 0, vL (some ⟨b418, 0, none⟩) 2 2, vL (some ⟨b419, 0, none⟩) 1 1])] [] 64 (.agg #[vS [119], vI 2, vI 0, vI 0, vL (some ⟨b418, 0, none⟩) 2 2, vL (some ⟨b419, 0, none⟩) 1 1]) f0 hM fun b420 w1 hM => newm 6 3 28 [(25, vL qa414 ([(⟨⟨[97], 1, 0, 0, [], []⟩, none, 0, none, 0⟩ : ObR), (⟨⟨[98], 1, 300, 0, [], []⟩, none, 0, none, 0⟩ : ObR), (⟨⟨[99], 1, 300, 400, [], []⟩, none, 0, none, 0⟩ : ObR)] ++ L).length ca414), (26, .agg #[vS [118], vI 2, vI 0, vI 0, vL (some ⟨b415, 0, none⟩) 2 2, vL (some ⟨b416, 0, none⟩) 1 1]), (27, .agg #[vS [119], vI 2, vI 0, vI 0, vL (some ⟨b418, 0, none⟩) 2 2, vL (some ⟨b419, 0, none⟩) 1 1])] (cs := #[vS [118], vI 2, vI 0, vI 0, vL (some ⟨b415, 0, none⟩) 2 2, vL (some ⟨b416, 0, none⟩) 1 1, vS [119], vI 2, vI 0, vI 0, vL (some ⟨b418, 0, none⟩) 2 2, vL (some ⟨b419, 0, none⟩) 1 1]) (T := 64) (v := fun b => vL (some ⟨b, 0, none⟩) 2 2) (fc (lam 64 4 0 6 hM rfl) (fc (lam 64 7 0 6 hM rfl) f0)) hM fun b421 w1 hM => appm 6 4 29 [] (cap := 2) (by decide) obT f0 hM (j := 1) rfl (src_lit (f := obL) (c := 6) (b := b421) (hM.get 8 (e := bk b421 #[vS [118], vI 2, vI 0, vI 0, vL (some ⟨b415, 0, none⟩) 2 2, vL (some ⟨b416, 0, none⟩) 1 1, vS [119], vI 2, vI 0, vI 0, vL (some ⟨b418, 0, none⟩) 2 2, vL (some ⟨b419, 0, none⟩) 1 1] 64) rfl) [(⟨⟨[118], 2, 0, 0, [[97], [98]], [([115, 112, 101, 101, 100], [49, 48, 48])]⟩, (some ⟨b415, 0, none⟩), 2, (some ⟨b416, 0, none⟩), 1⟩ : ObR), (⟨⟨[119], 2, 0, 0, [[98], [99]], [([104, 111, 117, 114, 115], [109, 111, 32, 49, 58, 48, 48, 45, 50, 58, 48, 48])]⟩, (some ⟨b418, 0, none⟩), 2, (some ⟨b419, 0, none⟩), 1⟩ : ObR)] 2 (fun _ => rfl) rfl rfl).at_ (fun h => by cases h) (by simp only [List.length_append, List.length_cons, List.length_nil]; omega) fun v422 w1 hM => ?_
 obtain ⟨qa422, ca422, e422, -⟩ := (hM.src (j := 1) rfl obT.len).op
 subst e422
 refine stm 6 6 [(30, .agg #[vL qa422 (([(⟨⟨[97], 1, 0, 0, [], []⟩, none, 0, none, 0⟩ : ObR), (⟨⟨[98], 1, 300, 0, [], []⟩, none, 0, none, 0⟩ : ObR), (⟨⟨[99], 1, 300, 400, [], []⟩, none, 0, none, 0⟩ : ObR)] ++ L) ++ [(⟨⟨[118], 2, 0, 0, [[97], [98]], [([115, 112, 101, 101, 100], [49, 48, 48])]⟩, (some ⟨b415, 0, none⟩), 2, (some ⟨b416, 0, none⟩), 1⟩ : ObR), (⟨⟨[119], 2, 0, 0, [[98], [99]], [([104, 111, 117, 114, 115], [109, 111, 32, 49, 58, 48, 48, 45, 50, 58, 48, 48])]⟩, (some ⟨b418, 0, none⟩), 2, (some ⟨b419, 0, none⟩), 1⟩ : ObR)]).length ca422])] 24 0 0 (.agg #[vL qa422 (([(⟨⟨[97], 1, 0, 0, [], []⟩, none, 0, none, 0⟩ : ObR), (⟨⟨[98], 1, 300, 0, [], []⟩, none, 0, none, 0⟩ : ObR), (⟨⟨[99], 1, 300, 400, [], []⟩, none, 0, none, 0⟩ : ObR)] ++ L) ++ [(⟨⟨[118], 2, 0, 0, [[97], [98]], [([115, 112, 101, 101, 100], [49, 48, 48])]⟩, (some ⟨b415, 0, none⟩), 2, (some ⟨b416, 0, none⟩), 1⟩ : ObR), (⟨⟨[119], 2, 0, 0, [[98], [99]], [([104, 111, 117, 114, 115], [109, 111, 32, 49, 58, 48, 48, 45, 50, 58, 48, 48])]⟩, (some ⟨b418, 0, none⟩), 2, (some ⟨b419, 0, none⟩), 1⟩ : ObR)]).length ca422]) f0 hM rfl fun w1 hM => ?_
 have hOb : ∀ b ∈ (([(⟨⟨[97], 1, 0, 0, [], []⟩, none, 0, none, 0⟩ : ObR), (⟨⟨[98], 1, 300, 0, [], []⟩, none, 0, none, 0⟩ : ObR), (⟨⟨[99], 1, 300, 400, [], []⟩, none, 0, none, 0⟩ : ObR)] ++ L) ++ [(⟨⟨[118], 2, 0, 0, [[97], [98]], [([115, 112, 101, 101, 100], [49, 48, 48])]⟩, (some ⟨b415, 0, none⟩), 2, (some ⟨b416, 0, none⟩), 1⟩ : ObR), (⟨⟨[119], 2, 0, 0, [[98], [99]], [([104, 111, 117, 114, 115], [109, 111, 32, 49, 58, 48, 48, 45, 50, 58, 48, 48])]⟩, (some ⟨b418, 0, none⟩), 2, (some ⟨b419, 0, none⟩), 1⟩ : ObR)]), ObIn w1 b := by
  intro b hb
  simp only [List.mem_append, List.mem_cons, List.not_mem_nil, or_false] at hb
  rcases hb with ((rfl | rfl | rfl) | hb) | (rfl | rfl)
  ·exact obIn_nil _ _ _ _ _ (by unfold B63; decide)
  ·exact obIn_nil _ _ _ _ _ (by unfold B63; decide)
  ·exact obIn_nil _ _ _ _ _ (by unfold B63; decide)
  ·exact (hob0 b hb).fr hM.fr
  ·exact ⟨src_lit (hM.get 2 rfl) _ 2 (fun _ => rfl) rfl rfl, src_lit (hM.get 3 rfl) _ 1 (fun _ => rfl) rfl rfl, exV_b⟩
  ·exact ⟨src_lit (hM.get 5 rfl) _ 2 (fun _ => rfl) rfl rfl, src_lit (hM.get 6 rfl) _ 1 (fun _ => rfl) rfl rfl, exW_b⟩
 exact rtc 2 24 rfl (run_loadW 24 0 hM rfl rfl) f0 (hΦ _ _ ⟨_, (([(⟨⟨[97], 1, 0, 0, [], []⟩, none, 0, none, 0⟩ : ObR), (⟨⟨[98], 1, 300, 0, [], []⟩, none, 0, none, 0⟩ : ObR), (⟨⟨[99], 1, 300, 400, [], []⟩, none, 0, none, 0⟩ : ObR)] ++ L) ++ [(⟨⟨[118], 2, 0, 0, [[97], [98]], [([115, 112, 101, 101, 100], [49, 48, 48])]⟩, (some ⟨b415, 0, none⟩), 2, (some ⟨b416, 0, none⟩), 1⟩ : ObR), (⟨⟨[119], 2, 0, 0, [[98], [99]], [([104, 111, 117, 114, 115], [109, 111, 32, 49, 58, 48, 48, 45, 50, 58, 48, 48])]⟩, (some ⟨b418, 0, none⟩), 2, (some ⟨b419, 0, none⟩), 1⟩ : ObR)]), rfl, ⟨hM.src (j := 1) rfl obT.len, hOb⟩, by unfold exO pure_; simp only [List.map_append, List.map_cons, List.map_nil], hM.fr⟩)
end Go.Proofs.YtbflfefahheidaaGreatDoor
/- Quiet regions that draw their order and assign slots that they read. Over whatever program. -/
set_option linter.unusedVariables false
set_option linter.unusedSimpArgs false
namespace Go.Pl
open Go.RowKit
def quietU (P : Program) (w : World) (n : Nat) (O : Array Oper) (base : Nat → Frm) : List Oper → Nat → List (Nat × Value) → List Ft → Option (List (Nat × Value) × List Ft × List Eqn)
 | [], _, T, fs => some (T, fs, [])
 | o :: l, i, T, fs => match ev1 P w n O o (depL O i T i ++ base i) [] fs with
  | some ([x], fs, es) => match quietU P w n O base l (i + 1) (T ++ [x]) fs with
   | some (T, fs, es') => some (T, fs, es ++ es')
   | none => none
  | _ => none
theorem quietU_at {P : Program} {w : World} {n : Nat} {O : Array Oper} {base : Nat → Frm} : ∀ {l : List Oper} {i : Nat} {T T' : List (Nat × Value)} {fs fs' : List Ft} {es : List Eqn}, quietU P w n O base l i T fs = some (T', fs', es) → T.length = i → AllF P w fs → AllE es →
  T'.length = i + l.length ∧ (∃ M, T' = T ++ M) ∧ ∀ j o, l[j]? = some o → ∃ x T1 fs1 fs2 es1, (∃ M, T' = T1 ++ M) ∧ T1.length = i + j ∧ T'[i + j]? = some x ∧ ev1 P w n O o (depL O (i + j) T1 (i + j) ++ base (i + j)) [] fs1 = some ([x], fs2, es1) ∧ AllF P w fs1 ∧ AllE es1
 | [], i, T, T', fs, fs', es, h, hi, hF, hE => by
  cases h
  exact ⟨by simp [hi], ⟨[], by simp⟩, fun j o hj => by simp at hj⟩
 | o :: l, i, T, T', fs, fs', es, h, hi, hF, hE => by
  unfold quietU at h
  split at h
  ·rename_i x fs1 es1 h1
   split at h
   ·rename_i T2 fs2 es2 h2
    cases h
    obtain ⟨e1, e2⟩ := AllE.app hE
    have hF1 := ev1_fs h1 hF
    obtain ⟨g1, ⟨M, g2⟩, g4⟩ := quietU_at (l := l) h2 (by simp [hi]) hF1 e2
    refine ⟨by rw [g1, List.length_cons]; omega, ⟨x :: M, by rw [g2]; simp⟩, fun j o' hj => ?_⟩
    cases j with
    | zero =>
     cases hj
     refine ⟨x, T, fs, fs1, es1, ⟨x :: M, by rw [g2]; simp⟩, by simpa using hi, ?_, h1, hF, e1⟩
     rw [g2, Nat.add_zero, ← hi]; simp
    | succ j =>
     obtain ⟨y, T1, f1, f2, s1, q1, q2, q3, q4, q5, q6⟩ := g4 j o' hj
     have ea : i + 1 + j = i + (j + 1) := by omega
     rw [ea] at q2 q3 q4
     exact ⟨y, T1, f1, f2, s1, q1, q2, q3, q4, q5, q6⟩
   ·cases h
  ·cases h
/-- Slots that the region assigns, with their old values and the operations that assign them. -/
def usL (O : Array Oper) (L : Frm) : List (Nat × Value × Nat) := (List.range O.size).filterMap fun j => match O[j]? with
 | some o => match o.dst with
  | some s => (look L s).map fun v => (s, v, j)
  | none => none
 | none => none
def oldL (O : Array Oper) (U : List (Nat × Value × Nat)) (i : Nat) : Frm := U.filterMap fun x => bif depOn O x.2.2 i then some (x.1, x.2.1) else none
theorem usL_mem {O : Array Oper} {L : Frm} {x : Nat × Value × Nat} (h : x ∈ usL O L) : look L x.1 = some x.2.1 := by
 unfold usL at h
 rw [List.mem_filterMap] at h
 obtain ⟨j, _, h⟩ := h
 split at h
 ·split at h
  ·obtain ⟨v, h1, rfl⟩ := Option.map_eq_some_iff.1 h
   exact h1
  ·cases h
 ·cases h
theorem oldL_mem {O : Array Oper} {U : List (Nat × Value × Nat)} {i : Nat} {y : Nat × Value} (h : y ∈ oldL O U i) : ∃ x ∈ U, depOn O x.2.2 i = true ∧ y = (x.1, x.2.1) := by
 unfold oldL at h
 rw [List.mem_filterMap] at h
 obtain ⟨x, hx, h⟩ := h
 cases hd : depOn O x.2.2 i with
 | false => rw [hd] at h; cases h
 | true => rw [hd] at h; cases h; exact ⟨x, hx, hd, rfl⟩
section
variable {P : Program} {B : Code} {R : Pst} {ds : List Deferred} {n : Nat} {p : Option (Nat × Nat)} {L N : Frm} {w : World} {r r' i' : Nat} {F : List Ft}
def bsU (O : Array Oper) (L : Frm) (i : Nat) : Frm := oldL O (usL O L) i ++ firsts L (dstsOf O)
def drquL (P : Program) (w : World) (n : Nat) (B : Code) (r : Nat) (L N : Frm) (F : List Ft) : Option (Bool × Bool × Bool × List (Option Value) × List Eqn × Bool) :=
 match findR r B [] with
 | some (O, true, _) => match quietU P w n O (bsU O L) O.toList 0 [] F with
  | some (T, _, es) => some (P.follows .mixedOrders, ordered O, tableOKu O n (firsts L (dstsOf O)) (usL O L) (T.map some), N.map (fun y => look (T ++ L) y.1), es.map Eqn.l, okSh T N L)
  | none => none
 | _ => none
def drquR (P : Program) (w : World) (n : Nat) (B : Code) (r : Nat) (L N : Frm) (F : List Ft) : Option (Bool × Bool × Bool × List (Option Value) × List Eqn × Bool) :=
 match findR r B [] with
 | some (O, true, _) => match quietU P w n O (bsU O L) O.toList 0 [] F with
  | some (T, _, es) => some (true, true, true, N.map (fun y => some y.2), es.map Eqn.r, true)
  | none => some (true, true, true, [], [], true)
 | _ => some (true, true, true, [], [], true)
theorem quietU_ok {rd : Option Nat} {O : Array Oper} {T : List (Nat × Value)} {fs fs' : List Ft} {es : List Eqn} {a : Act} {Q : Exit → Act → World → Prop}
  (hm : P.follows .mixedOrders = true) (hord : ordered O = true) (hT : tableOKu O n (firsts L (dstsOf O)) (usL O L) (T.map some) = true)
  (hq : quietU P w.drew n O (bsU O L) O.toList 0 [] fs = some (T, fs', es)) (hF : AllF P w.drew fs) (he : AllE es) (E : EnvS ds n L a)
  (k : ∀ a', EnvS ds n (T ++ L) a' → Q .normal a' w.drew) : (Code.region r O true).wpIn (fen rd) 0 P Q a w := by
 obtain ⟨g1, _, g2⟩ := quietU_at hq rfl hF he
 have hbase : EnvD ds n (firsts L (dstsOf O)) a := ⟨E.size, fun x hx => E.at_ _ _ (firsts_mem hx).1, E.df⟩
 refine wpF_region_invx (G := Unit) () (n := n) (base := firsts L (dstsOf O)) (U := usL O L) (T := fun _ => T.map some) (M := fun _ _ wm => wm = w.drew) hm hord (fun _ => hT) hbase (fun x hx => E.at_ _ _ (usL_mem hx)) rfl ?_ ?_
 ·intro i o _ lst a1 w1 ho hl E1 D DL _ hU hM
  subst hM
  obtain ⟨x, T1, fs1, fs2, es1, ⟨M, q1⟩, q2, q3, q4, q5, q6⟩ := g2 i o (by simpa using ho)
  rw [Nat.zero_add] at q2 q3 q4
  have ht : (T.map some)[i]? = some (some x) := by rw [List.getElem?_map, q3]; rfl
  have hES : EnvS ds n (depL O i T1 i ++ bsU O L i) a1 := ⟨E1.size, fun s v hs => by
   rcases look_app hs with h | h
   ·obtain ⟨q, h1, h2, h3⟩ := depL_look h
    refine D q (s, v) h2 ?_
    rw [List.getElem?_map, q1, List.getElem?_append_left (by rw [q2]; exact h1), h3]; rfl
   ·rcases look_app h with h | h
    ·obtain ⟨z, hz, hd, e⟩ := oldL_mem (look_mem h)
     cases e
     exact hU z hz hd
    ·have := firsts_nd h
     exact E1.at_ (s, v) this, E1.df⟩
  obtain ⟨s1, s2⟩ := ev1_step (M := fun wm => wm = w.drew) q4 hES q5 q6 rfl (Q := Q) (rd := rd)
  refine ⟨fun hw => Oper.wpIn_mono (fun a' w' h => ⟨(), some x, ht, h.1, fun _ _ => rfl, h.2⟩) (s1 hw), fun hw => ⟨fun y hy => ?_, rfl⟩⟩
  have hy : (T.map some)[i]? = some (some y) := hy
  rw [ht] at hy
  exact (s2 hw).1 y (Option.some.inj hy)
 ·intro _ a1 w1 E1 V hM
  subst hM
  refine k a1 ⟨E1.size, fun s v hs => ?_, E1.df⟩
  rcases look_app2 hs with h | ⟨h0, h⟩
  ·obtain ⟨j, hj⟩ := List.getElem?_of_mem (look_mem h)
   exact V j (s, v) (by rw [List.getElem?_map, hj]; rfl)
  ·refine E1.at_ (s, v) (firsts_of h fun hd => ?_)
   unfold dstsOf at hd
   rw [List.mem_filterMap] at hd
   obtain ⟨o, ho, hod⟩ := hd
   obtain ⟨j, hj⟩ := List.getElem?_of_mem ho
   obtain ⟨x, T1, fs1, fs2, es1, _, q2, q3, q4, _, _⟩ := g2 j o hj
   have hx : x.1 = s := ev1_dst q4 hod
   have := look_none h0 x (List.mem_of_getElem? q3)
   exact this hx
theorem drqu (N : Frm) {w5 : World} (hw : w5 = w.drew) (hF : AllF P w5 F) (k : AtO P B R ds n (some (r, 1)) (N ++ L) w5) (h : drquL P w5 n B r L N F = drquR P w5 n B r L N F := by kernel_rfl) : AtO P B R ds n (some (r, 0)) L w := by
 subst hw
 unfold drquL drquR at h
 obtain ⟨O1, dr, kk, hf, hk⟩ := k
 rw [hf] at h
 cases dr with
 | false => cases h
 | true =>
  simp only at h
  refine ⟨O1, true, kk, hf, fun a E => ?_⟩
  cases hq : quietU P w.drew n O1 (bsU O1 L) O1.toList 0 [] F with
  | none => rw [hq] at h; cases h
  | some z =>
   obtain ⟨T, fs, es⟩ := z
   rw [hq] at h
   simp only [Option.some.injEq, Prod.mk.injEq] at h
   obtain ⟨h1, h2, h3, h4, h5, h6⟩ := h
   exact quietU_ok h1 h2 h3 hq hF (AllE.of h5) E fun a' E' => hk a' (E'.sub (frame_sub h4 h6))
end
section
variable {P : Program} {w w0 : World} {rd : Option Nat} {B : Code} {r n : Nat} {L : Frm} {ef : List Nat} {V : Lts → List (Option Value)} {F : Lts → List Ft} {ds : List Deferred} {F0 : Nat → Prop} {Mf : Lts → List Bool → List Ent}
/-- A call that changes nothing, of what was made in the region. -/
theorem ar_calq (p i d : Nat) {f : FuncId} (args : Lts → Array Value) (v : Value)
  (hc : ∀ γ fr wm, Mm F0 w0 wm (Mf γ (flg B r ef i fr)) → Calls P f (args γ) wm fun x w' => x = .returned v ∧ Fr (fun _ => False) wm w')
  (hm : ∀ γ fr, Mf γ (flg B r ef i fr) = Mf (setL γ p v) ((flg B r ef i fr).set p true) := by intro γ fr; kernel_rfl)
  (hV : ∀ γ, ((V (setL γ p v))[p]?).getD none = some v := by intro γ; rfl)
  (hs : ∀ γ wm, enL P wm (opsR B r) i (frX P w n B r L ef V F i γ) = some (f, args γ, some d, wm) := by intro γ wm; kernel_rfl) : Arm rd P w n B r L ef V F ds F0 w0 Mf p i := by
 intro γ fr a wm Q o ho En hw hM
 obtain ⟨h1, h2⟩ := en_of ho En (hs γ wm)
 refine wf_call (R := fun u w' => u = v ∧ Fr (fun _ => False) wm w') h1 ((hc γ fr wm hM).mono fun x w' ⟨g1, g2⟩ => ⟨v, g1, rfl, g2⟩) fun u w' ⟨hu, g1⟩ => ?_
 subst hu
 have hM' := hM.q g1
 rw [hm] at hM'
 exact ⟨u, γ.e p, by rw [setE_sl, hV, h2]; rfl, by rw [setE_sl]; exact hM'⟩
end
end Go.Pl
/- Maps without some of their parts. -/
set_option linter.unusedVariables false
set_option linter.unusedSimpArgs false
namespace Go.Proofs.YtbflfefahheidaaGreatDoor
open Go.RowKit Go.Pl
/-! ### maps without some of their parts -/
def notIn (ks : List Bys) (t : Tag) : Bool := !(ks.any fun s => t.1 == s)
def bareO (ks : List Bys) (o : Ob) : Ob := { o with tags := o.tags.filter (notIn ks) }
def keepO (tu : Bool) (o : Ob) : Bool := !(o.kind == 3) && (!(o.kind == 4) && (tu || !(o.kind == 5)))
def bareP (tu : Bool) (ks : List Bys) (l : List Ob) : List Ob := (l.filter (keepO tu)).map (bareO ks)
theorem bareP_snoc (tu : Bool) (ks : List Bys) (l : List Ob) (o : Ob) : bareP tu ks (l ++ [o]) = bareP tu ks l ++ bif keepO tu o then [bareO ks o] else [] := by
  unfold bareP
  rw [List.filter_append, List.map_append]
  cases h : keepO tu o <;> simp [h]
/-- The objects that were taken: their references are old, their tags are rows of one's own. -/
def BareOk (w : World) (Tg : List (Value × List Tag)) (B : List ObR) : Prop := ∀ b ∈ B, SrcP stL 1 w b.pr b.cr b.o.refs ∧ (vL b.pt b.o.tags.length b.ct, b.o.tags) ∈ Tg ∧ ObB b.o
theorem BareOk.nil (w : World) (Tg : List (Value × List Tag)) : BareOk w Tg [] := fun _ h => (by cases h)
theorem BareOk.snoc {w : World} {Tg : List (Value × List Tag)} {B : List ObR} (h : BareOk w Tg B) {b : ObR} (h1 : SrcP stL 1 w b.pr b.cr b.o.refs) (h2 : ObB b.o) : BareOk w ((vL b.pt b.o.tags.length b.ct, b.o.tags) :: Tg) (B ++ [b]) := fun c hc => by
  rcases List.mem_append.1 hc with hc | hc
  · obtain ⟨q1, q2, q3⟩ := h c hc; exact ⟨q1, .tail _ q2, q3⟩
  · rw [List.mem_singleton] at hc; subst hc; exact ⟨h1, .head _, h2⟩
theorem BareOk.obs {w w' : World} {Tg : List (Value × List Tag)} {B : List ObR} {F0 : Nat → Prop} {M : List Ent} {v : Value} (h : BareOk w Tg B) (hM : Mm (fun _ => False) w w' M) {i j : Nat} (hi : M[i]? = some (rw_ obL 6 64 v B)) (hj : M[j]? = some (bagE tgL 2 106 Tg)) : ObsV w' v B :=
  ⟨hM.src hi obT.len, fun b hb => by
    obtain ⟨q1, q2, q3⟩ := h b hb
    have := (hM.get j hj).1 _ q2
    exact ⟨q1.fr hM.fr, (Src.p (ow.src tgT.len this)).2, q3⟩⟩
theorem any_snoc {ks : List Bys} {n : Nat} {s k : Bys} (h : ks[n]? = some s) : (ks.take (n + 1)).any (fun s => k == s) = ((ks.take n).any (fun s => k == s) || (k == s)) := by
  rw [gt_ h, List.any_append]; simp
theorem filt_snoc {l : List Tag} {p : Tag → Bool} {k : Nat} {t : Tag} (h : l[k]? = some t) : (l.take (k + 1)).filter p = (l.take k).filter p ++ bif p t then [t] else [] := by
  rw [gt_ h, List.filter_append]
  cases hp : p t <;> simp [hp]
theorem bareO_b {ks : List Bys} {o : Ob} (h : ObB o) : ObB (bareO ks o) := ⟨h.id, h.refs, fun t ht => h.tags t (List.mem_filter.1 ht).1⟩
abbrev A23 (Φ : Ending → World → Prop) := AtO Tryz.prog (bodyOf Tryz.f23) (whole (bodyPost Tryz.prog Tryz.f23 Φ)) [] 88
theorem bareT_calls {w : World} {v : Value} {os : List ObR} (hmv : ObsV w v os) (hol : os.length ≤ 1000000) (hst : ∀ b ∈ os, b.o.tags.length ≤ 1000000) {vk : Value} {ks : List Bys} (hks : Src stL 1 w vk ks) : Calls Tryz.prog 23 #[.agg #[v], vB true, vk] w fun e w' => ∃ v2 B, e = .returned (.agg #[v2]) ∧ ObsV w' v2 B ∧ pure_ B = bareP true ks (pure_ os) ∧ Fr (fun _ => False) w w' := by
  have hm0 := hmv; obtain ⟨hs0, hob⟩ := hm0
  obtain ⟨p0, cp0, hp0, sp0⟩ := hs0.op
  subst hp0; have bp0 := sp0.bnd
  obtain ⟨pk, ck, ek, sk⟩ := hks.op
  subst ek
  have bk9 := sk.bnd
  refine beg Tryz.func23 rfl rfl [(0, .agg #[vL p0 os.length cp0]), (1, vB true), (2, vL pk ks.length ck)] rfl rfl fun Φ hΦ => ?_
  have hM := Mm.nil (fun _ => False) w
  refine newm 0 0 3 [] (cs := #[vL p0 os.length cp0]) (T := 24) (v := fun b => vP b 0) f0 hM fun b423 w1 hM => newm 0 1 6 [] (cs := #[vL none 0 0]) (T := 24) (v := fun b => vP b 0) f0 hM fun b424 w1 hM => newm 1 0 7 [] (cs := #[vL none 0 0]) (T := 24) (v := fun b => vP b 0) f0 hM fun b425 w1 hM => ?_
  have hM := hM.row (f := obL) (c := 6) (E := 64)
  have hM := bag_nil (f := tgL) (c := 2) (E := 106) hM
  refine seg 3 0 [(8, vI 0)] f0 ?_
  have lp426 : ∀ (m428 : Nat) (i : Nat) (vo : Value) (B : List ObR) (Tg : List (Value × List Tag)) (w2 : World), i ≤ os.length → pure_ B = bareP true ks (pure_ (os.take i)) → BareOk w Tg B → B.length ≤ i → Mm (fun _ => False) w w2 [bk b423 #[vL p0 os.length cp0] 24, bk b424 #[vL none 0 0] 24, bk b425 #[vo] 24, rw_ obL 6 64 vo B, bagE tgL 2 106 Tg] → m428 = os.length - i → A23 Φ (some (3, 0)) [(8, vI (i : Int)), (7, vP b425 0), (6, vP b424 0), (3, vP b423 0), (1, vB true), (2, vL pk ks.length ck)] w2 := by
   refine srec fun m428 ih427 i vo B Tg w2 hi hB1 hB2 hBl hM hm428 => seg 3 5 [(18, vB (decide ((i : Int) < (os.length : Int))))] (fc (ldm 22 0 0 hM rfl rfl) f0) ?_
   cases h429 : (decide ((i : Int) < (os.length : Int))) with
   | false =>
    have rh429 := df h429
    obtain ⟨qo430, cqo430, e430, -⟩ := (hM.src (j := 3) rfl obT.len).op
    subst e430
    refine stm 20 1 [(87, .agg #[vL qo430 B.length cqo430])] 24 1 0 (.agg #[vL qo430 B.length cqo430]) (fc (lam 24 2 0 1 hM rfl) f0) hM rfl fun w1 hM => ?_
    have hi9 : os.take i = os := List.take_of_length_le (by omega)
    rw [hi9] at hB1
    exact rtc 6 24 rfl (run_loadW 24 1 hM rfl rfl) f0 (hΦ _ _ ⟨_, B, rfl, hB2.obs (F0 := fun _ => False) hM (i := 3) (j := 4) rfl rfl, hB1, hM.fr⟩)
   | true =>
    have rh429 := dt h429
    obtain ⟨y, hy, g431, o431, q431, r431⟩ := sp0.el (i := i) (by omega)
    refine varm 5 5 9 [(25, .agg #[vS y.o.id, vI y.o.kind, vI y.o.x, vI y.o.y, vL y.pr y.o.refs.length y.cr, vL y.pt y.o.tags.length y.ct])] [] 64 (.agg #[vS y.o.id, vI y.o.kind, vI y.o.x, vI y.o.y, vL y.pr y.o.refs.length y.cr, vL y.pt y.o.tags.length y.ct]) (fc (ldm 22 0 0 hM rfl rfl) (fc (ix 22 cp0 q431 (gl hy)) (fc (la0 64 hM r431) f0))) hM fun b432 w1 hM => ?_
    have hM := hM.row (f := tgL) (c := 2) (E := 106)
    refine seg 8 0 [(10, vL none 0 0), (11, vI 0)] f0 ?_
    have lp433 : ∀ (m435 : Nat) (k : Nat) (vt : Value) (w2 : World), k ≤ y.o.tags.length → Mm (fun _ => False) w w2 [bk b423 #[vL p0 os.length cp0] 24, bk b424 #[vL none 0 0] 24, bk b425 #[vo] 24, rw_ obL 6 64 vo B, bagE tgL 2 106 Tg, bk b432 #[vS y.o.id, vI y.o.kind, vI y.o.x, vI y.o.y, vL y.pr y.o.refs.length y.cr, vL y.pt y.o.tags.length y.ct] 64, rw_ tgL 2 106 vt ((y.o.tags.take k).filter (notIn ks))] → m435 = y.o.tags.length - k → A23 Φ (some (8, 0)) [(11, vI (k : Int)), (10, vt), (9, vP b432 0), (8, vI (i : Int)), (7, vP b425 0), (6, vP b424 0), (3, vP b423 0), (1, vB true), (2, vL pk ks.length ck)] w2 := by
     refine srec fun m435 ih434 k vt w2 hk hM hm435 => ?_
     have htl := hst y (gm hy)
     refine seg 8 5 [(30, vB (decide ((k : Int) < (y.o.tags.length : Int))))] (fc (ldm 62 5 5 hM rfl rfl) f0) ?_
     cases h436 : (decide ((k : Int) < (y.o.tags.length : Int))) with
     | false =>
      have rh436 := df h436
      obtain ⟨qt437, cqt437, e437, -⟩ := (hM.src (j := 6) rfl tgT.len).op
      subst e437
      refine stm 17 2 [(63, vL qt437 ((y.o.tags.take k).filter (notIn ks)).length cqt437), (64, vP b432 5)] 62 5 5 (vL qt437 ((y.o.tags.take k).filter (notIn ks)).length cqt437) f0 hM rfl fun w1 hM => seg 18 4 [(68, vB (!(y.o.kind == 3)))] (fc (ldm 3 5 1 hM rfl rfl) f0) ?_
      cases h438 : (y.o.kind == 3) with
      | false =>
       have rh438 := ef h438
       refine seg 18 9 [(73, vB (!(y.o.kind == 4)))] (fc (ldm 3 5 1 hM rfl rfl) f0) ?_
       cases h439 : (y.o.kind == 4) with
       | false =>
        have rh439 := ef h439
        refine newm 19 3 84 [(82, vo), (83, .agg #[vS y.o.id, vI y.o.kind, vI y.o.x, vI y.o.y, vL y.pr y.o.refs.length y.cr, vL qt437 ((y.o.tags.take k).filter (notIn ks)).length cqt437])] (cs := #[vS y.o.id, vI y.o.kind, vI y.o.x, vI y.o.y, vL y.pr y.o.refs.length y.cr, vL qt437 ((y.o.tags.take k).filter (notIn ks)).length cqt437]) (T := 64) (v := fun b => vL (some ⟨b, 0, none⟩) 1 1) (fc (ldm 22 2 0 hM rfl rfl) (fc (lam 64 5 0 6 hM rfl) f0)) hM fun b440 w1 hM => appm 19 4 85 [] (cap := 1) (by decide) obT f0 hM (j := 3) rfl (src_one (f := obL) (x := (⟨⟨y.o.id, y.o.kind, y.o.x, y.o.y, y.o.refs, ((y.o.tags.take k).filter (notIn ks))⟩, y.pr, y.cr, qt437, cqt437⟩ : ObR)) (hM.get 7 rfl) (Nat.lt_succ_self _)) (fun h => by cases h) (by simp only [List.length_cons, List.length_nil]; omega) fun v441 w1 hM => ?_
        obtain ⟨qa441, ca441, e441, -⟩ := (hM.src (j := 3) rfl obT.len).op
        subst e441
        refine stm 19 6 [(86, vP b425 0)] 22 2 0 (vL qa441 (B ++ [(⟨⟨y.o.id, y.o.kind, y.o.x, y.o.y, y.o.refs, ((y.o.tags.take k).filter (notIn ks))⟩, y.pr, y.cr, qt437, cqt437⟩ : ObR)]).length ca441) f0 hM rfl fun w1 hM => seg 3 0 [(8, vI ((i : Int) + 1))] (fc (tadd (i : Int) 1 Tryz.underlying3) f0) ?_
        have hkp : keepO true y.o = true := by unfold keepO; simp only [h438, h439] <;> rfl
        have hM := hM.pick [0, 1, 2, 3, 4, 6]
        replace hM : Mm (fun _ => False) w _ [bk b423 #[vL p0 os.length cp0] 24, bk b424 #[vL none 0 0] 24, bk b425 #[vL qa441 (B ++ [(⟨⟨y.o.id, y.o.kind, y.o.x, y.o.y, y.o.refs, ((y.o.tags.take k).filter (notIn ks))⟩, y.pr, y.cr, qt437, cqt437⟩ : ObR)]).length ca441] 24, rw_ obL 6 64 (vL qa441 (B ++ [(⟨⟨y.o.id, y.o.kind, y.o.x, y.o.y, y.o.refs, ((y.o.tags.take k).filter (notIn ks))⟩, y.pr, y.cr, qt437, cqt437⟩ : ObR)]).length ca441) (B ++ [(⟨⟨y.o.id, y.o.kind, y.o.x, y.o.y, y.o.refs, ((y.o.tags.take k).filter (notIn ks))⟩, y.pr, y.cr, qt437, cqt437⟩ : ObR)]), bagE tgL 2 106 Tg, rw_ tgL 2 106 (vL qt437 ((y.o.tags.take k).filter (notIn ks)).length cqt437) ((y.o.tags.take k).filter (notIn ks))] := hM
        have hM := bag_in (A := [bk b423 #[vL p0 os.length cp0] 24, bk b424 #[vL none 0 0] 24, bk b425 #[vL qa441 (B ++ [(⟨⟨y.o.id, y.o.kind, y.o.x, y.o.y, y.o.refs, ((y.o.tags.take k).filter (notIn ks))⟩, y.pr, y.cr, qt437, cqt437⟩ : ObR)]).length ca441] 24, rw_ obL 6 64 (vL qa441 (B ++ [(⟨⟨y.o.id, y.o.kind, y.o.x, y.o.y, y.o.refs, ((y.o.tags.take k).filter (notIn ks))⟩, y.pr, y.cr, qt437, cqt437⟩ : ObR)]).length ca441) (B ++ [(⟨⟨y.o.id, y.o.kind, y.o.x, y.o.y, y.o.refs, ((y.o.tags.take k).filter (notIn ks))⟩, y.pr, y.cr, qt437, cqt437⟩ : ObR)])]) hM (L' := (vL qt437 ((y.o.tags.take k).filter (notIn ks)).length cqt437, ((y.o.tags.take k).filter (notIn ks))) :: Tg) (List.Perm.refl _)
        have eT : ((y.o.tags.take k).filter (notIn ks)) = y.o.tags.filter (notIn ks) := by rw [List.take_of_length_le (by omega)]
        have hB2 := hB2.snoc (b := (⟨⟨y.o.id, y.o.kind, y.o.x, y.o.y, y.o.refs, ((y.o.tags.take k).filter (notIn ks))⟩, y.pr, y.cr, qt437, cqt437⟩ : ObR)) (hob _ (gm hy)).refs (show ObB ⟨y.o.id, y.o.kind, y.o.x, y.o.y, y.o.refs, ((y.o.tags.take k).filter (notIn ks))⟩ from eT ▸ bareO_b (hob _ (gm hy)).bnd)
        have hB1 : pure_ (B ++ [(⟨⟨y.o.id, y.o.kind, y.o.x, y.o.y, y.o.refs, ((y.o.tags.take k).filter (notIn ks))⟩, y.pr, y.cr, qt437, cqt437⟩ : ObR)]) = bareP true ks (pure_ (os.take (i + 1))) := by
          rw [gt_ hy]
          unfold pure_ at hB1 ⊢
          rw [List.map_append, List.map_append, hB1]
          rw [show List.map (fun x : ObR => x.o) [y] = [y.o] from rfl, bareP_snoc, hkp]
          show _ ++ [(⟨y.o.id, y.o.kind, y.o.x, y.o.y, y.o.refs, ((y.o.tags.take k).filter (notIn ks))⟩ : Ob)] = _
          rw [eT]; rfl
        exact fewer _ (ih427 _ (by have := gl hy; omega) (i + 1) (vL qa441 (B ++ [(⟨⟨y.o.id, y.o.kind, y.o.x, y.o.y, y.o.refs, ((y.o.tags.take k).filter (notIn ks))⟩, y.pr, y.cr, qt437, cqt437⟩ : ObR)]).length ca441) (B ++ [(⟨⟨y.o.id, y.o.kind, y.o.x, y.o.y, y.o.refs, ((y.o.tags.take k).filter (notIn ks))⟩, y.pr, y.cr, qt437, cqt437⟩ : ObR)]) ((vL qt437 ((y.o.tags.take k).filter (notIn ks)).length cqt437, ((y.o.tags.take k).filter (notIn ks))) :: Tg) _ (gl hy) hB1 hB2 (by rw [List.length_append, List.length_singleton]; omega) hM rfl)
       | true =>
        have rh439 := et h439
        refine seg 3 0 [(8, vI ((i : Int) + 1))] (fc (tadd (i : Int) 1 Tryz.underlying3) f0) ?_
        have hkp : keepO true y.o = false := by unfold keepO; simp only [h438, h439] <;> rfl
        have hM := hM.pick [0, 1, 2, 3, 4]
        have hB1 : pure_ B = bareP true ks (pure_ (os.take (i + 1))) := by
          rw [gt_ hy]
          unfold pure_ at hB1 ⊢
          rw [List.map_append, hB1, show List.map (fun x : ObR => x.o) [y] = [y.o] from rfl, bareP_snoc, hkp]
          exact (List.append_nil _).symm
        exact fewer _ (ih427 _ (by have := gl hy; omega) (i + 1) vo B Tg _ (gl hy) hB1 hB2 (by omega) hM rfl)
      | true =>
       have rh438 := et h438
       refine seg 3 0 [(8, vI ((i : Int) + 1))] (fc (tadd (i : Int) 1 Tryz.underlying3) f0) ?_
       have hkp : keepO true y.o = false := by unfold keepO; simp only [h438] <;> rfl
       have hM := hM.pick [0, 1, 2, 3, 4]
       have hB1 : pure_ B = bareP true ks (pure_ (os.take (i + 1))) := by
         rw [gt_ hy]
         unfold pure_ at hB1 ⊢
         rw [List.map_append, hB1, show List.map (fun x : ObR => x.o) [y] = [y.o] from rfl, bareP_snoc, hkp]
         exact (List.append_nil _).symm
       exact fewer _ (ih427 _ (by have := gl hy; omega) (i + 1) vo B Tg _ (gl hy) hB1 hB2 (by omega) hM rfl)
     | true =>
      have rh436 := dt h436
      have s442 := (hob _ (gm hy)).tags; have bs442 := s442.bnd
      obtain ⟨z, hz, g443, o443, q443, r443⟩ := s442.el (i := k) (by omega)
      refine seg 12 0 [(12, vB false), (13, vI 0)] f0 ?_
      have lp444 : ∀ (m446 : Nat) (n : Nat) (dr : Bool) (w2 : World), n ≤ ks.length → dr = (ks.take n).any (fun s => z.1 == s) → Mm (fun _ => False) w w2 [bk b423 #[vL p0 os.length cp0] 24, bk b424 #[vL none 0 0] 24, bk b425 #[vo] 24, rw_ obL 6 64 vo B, bagE tgL 2 106 Tg, bk b432 #[vS y.o.id, vI y.o.kind, vI y.o.x, vI y.o.y, vL y.pr y.o.refs.length y.cr, vL y.pt y.o.tags.length y.ct] 64, rw_ tgL 2 106 vt ((y.o.tags.take k).filter (notIn ks))] → m446 = ks.length - n → A23 Φ (some (12, 0)) [(13, vI (n : Int)), (12, vB dr), (11, vI (k : Int)), (10, vt), (9, vP b432 0), (8, vI (i : Int)), (7, vP b425 0), (6, vP b424 0), (3, vP b423 0), (1, vB true), (2, vL pk ks.length ck)] w2 := by
       refine srec fun m446 ih445 n dr w2 hn hdr hM hm446 => seg 12 4 [(36, vB (decide ((n : Int) < (ks.length : Int))))] f0 ?_
       cases h447 : (decide ((n : Int) < (ks.length : Int))) with
       | false =>
        have rh447 := df h447
        have hdr9 : dr = ks.any (fun s => z.1 == s) := by rw [hdr, List.take_of_length_le (by omega)]
        refine seg 15 2 [(54, vB (!dr))] f0 ?_
        cases h448 : dr with
        | false =>
         refine newm 16 6 61 [(55, vt), (60, .agg #[vS z.1, vS z.2])] (cs := #[vS z.1, vS z.2]) (T := 106) (v := fun b => vL (some ⟨b, 0, none⟩) 1 1) (fc (ldm 62 5 5 hM rfl rfl) (fc (ix 62 y.ct q443 (gl hz)) (fc (la0 106 hM r443) f0))) hM fun b449 w1 hM => appm 16 7 62 [] (cap := 1) (by decide) tgT f0 hM (j := 6) rfl (src_one (f := tgL) (x := z) (hM.get 7 rfl) (Nat.lt_succ_self _)) (fun h => by cases h) (by have := List.length_filter_le (notIn ks) (y.o.tags.take k); have := hob _ (gm hy); simp only [List.length_take, List.length_cons, List.length_nil] at *; omega) fun v450 w1 hM => ?_
         obtain ⟨qa450, ca450, e450, -⟩ := (hM.src (j := 6) rfl tgT.len).op
         subst e450
         refine seg 8 0 [(10, vL qa450 (((y.o.tags.take k).filter (notIn ks)) ++ [z]).length ca450), (11, vI ((k : Int) + 1))] (fc (tadd (k : Int) 1 Tryz.underlying3) f0) ?_
         have hM := hM.pick [0, 1, 2, 3, 4, 5, 6]
         have hni : notIn ks z = true := by unfold notIn; rw [← hdr9, h448]; rfl
         have e1 : (((y.o.tags.take k).filter (notIn ks)) ++ [z]) = (y.o.tags.take (k + 1)).filter (notIn ks) := by rw [filt_snoc hz, hni]; rfl
         replace hM : Mm (fun _ => False) w _ [bk b423 #[vL p0 os.length cp0] 24, bk b424 #[vL none 0 0] 24, bk b425 #[vo] 24, rw_ obL 6 64 vo B, bagE tgL 2 106 Tg, bk b432 #[vS y.o.id, vI y.o.kind, vI y.o.x, vI y.o.y, vL y.pr y.o.refs.length y.cr, vL y.pt y.o.tags.length y.ct] 64, rw_ tgL 2 106 (vL qa450 (((y.o.tags.take k).filter (notIn ks)) ++ [z]).length ca450) (((y.o.tags.take k).filter (notIn ks)) ++ [z])] := hM
         obtain ⟨u1, hu1⟩ : ∃ zz9, zz9 = vL qa450 (((y.o.tags.take k).filter (notIn ks)) ++ [z]).length ca450 := ⟨_, rfl⟩
         rw [← hu1] at hM
         rw [e1, hu1] at hM
         exact fewer _ (ih434 _ (by have := gl hz; omega) (k + 1) (vL qa450 (((y.o.tags.take k).filter (notIn ks)) ++ [z]).length ca450) _ (gl hz) hM rfl)
        | true =>
         refine seg 8 0 [(11, vI ((k : Int) + 1))] (fc (tadd (k : Int) 1 Tryz.underlying3) f0) ?_
         have hni : notIn ks z = false := by unfold notIn; rw [← hdr9, h448]; rfl
         have e1 : ((y.o.tags.take k).filter (notIn ks)) = (y.o.tags.take (k + 1)).filter (notIn ks) := by rw [filt_snoc hz, hni]; exact (List.append_nil _).symm
         replace hM : Mm (fun _ => False) w _ [bk b423 #[vL p0 os.length cp0] 24, bk b424 #[vL none 0 0] 24, bk b425 #[vo] 24, rw_ obL 6 64 vo B, bagE tgL 2 106 Tg, bk b432 #[vS y.o.id, vI y.o.kind, vI y.o.x, vI y.o.y, vL y.pr y.o.refs.length y.cr, vL y.pt y.o.tags.length y.ct] 64, rw_ tgL 2 106 vt ((y.o.tags.take k).filter (notIn ks))] := hM
         obtain ⟨u1, hu1⟩ : ∃ zz9, zz9 = vt := ⟨_, rfl⟩
         rw [← hu1] at hM
         rw [e1, hu1] at hM
         exact fewer _ (ih434 _ (by have := gl hz; omega) (k + 1) vt _ (gl hz) hM rfl)
       | true =>
        have rh447 := dt h447
        obtain ⟨s, hs, g451, o451, q451, r451⟩ := sk.el (i := n) (by omega)
        refine seg 14 0 [] f0 ?_
        cases h452 : dr with
        | false =>
         have hM := hM.q ((Fr.refl _ _).drew)
         refine drqu [(12, vB (z.1 == s))] rfl (fc (ldm 62 5 5 hM rfl rfl) (fc (ix 62 y.ct q443 (gl hz)) (fc (ld0 9 hM (r443 0 _ rfl)) (fc (ix 28 ck q451 (gl hs)) (fc (ld0 9 hM (r451 0 _ rfl)) (fc (seq 9 z.1 s) f0)))))) (seg 12 0 [(13, vI ((n : Int) + 1))] (fc (tadd (n : Int) 1 Tryz.underlying3) f0) (fewer _ (ih445 _ (by have := gl hs; omega) (n + 1) (z.1 == s) _ (gl hs) (by rw [any_snoc hs, ← hdr]; simp only [h452] <;> rfl) hM rfl)))
        | true =>
         have hM := hM.q ((Fr.refl _ _).drew)
         refine drqu [(12, vB true)] rfl f0 (seg 12 0 [(13, vI ((n : Int) + 1))] (fc (tadd (n : Int) 1 Tryz.underlying3) f0) (fewer _ (ih445 _ (by have := gl hs; omega) (n + 1) true _ (gl hs) (by rw [any_snoc hs, ← hdr]; simp only [h452] <;> rfl) hM rfl)))
      exact fewer _ (lp444 _ 0 false _ (Nat.zero_le _) rfl hM rfl)
    exact fewer _ (lp433 _ 0 (vL none 0 0) _ (Nat.zero_le _) hM rfl)
  exact fewer _ (lp426 _ 0 (vL none 0 0) [] [] _ (Nat.zero_le _) rfl (BareOk.nil _ _) (Nat.zero_le _) hM rfl)
theorem bareF_calls {w : World} {v : Value} {os : List ObR} (hmv : ObsV w v os) (hol : os.length ≤ 1000000) (hst : ∀ b ∈ os, b.o.tags.length ≤ 1000000) {vk : Value} {ks : List Bys} (hks : Src stL 1 w vk ks) : Calls Tryz.prog 23 #[.agg #[v], vB false, vk] w fun e w' => ∃ v2 B, e = .returned (.agg #[v2]) ∧ ObsV w' v2 B ∧ pure_ B = bareP false ks (pure_ os) ∧ Fr (fun _ => False) w w' := by
  have hm0 := hmv; obtain ⟨hs0, hob⟩ := hm0
  obtain ⟨p0, cp0, hp0, sp0⟩ := hs0.op
  subst hp0; have bp0 := sp0.bnd
  obtain ⟨pk, ck, ek, sk⟩ := hks.op
  subst ek
  have bk9 := sk.bnd
  refine beg Tryz.func23 rfl rfl [(0, .agg #[vL p0 os.length cp0]), (1, vB false), (2, vL pk ks.length ck)] rfl rfl fun Φ hΦ => ?_
  have hM := Mm.nil (fun _ => False) w
  refine newm 0 0 3 [] (cs := #[vL p0 os.length cp0]) (T := 24) (v := fun b => vP b 0) f0 hM fun b453 w1 hM => newm 0 1 6 [] (cs := #[vL none 0 0]) (T := 24) (v := fun b => vP b 0) f0 hM fun b454 w1 hM => newm 1 0 7 [] (cs := #[vL none 0 0]) (T := 24) (v := fun b => vP b 0) f0 hM fun b455 w1 hM => ?_
  have hM := hM.row (f := obL) (c := 6) (E := 64)
  have hM := bag_nil (f := tgL) (c := 2) (E := 106) hM
  refine seg 3 0 [(8, vI 0)] f0 ?_
  have lp456 : ∀ (m458 : Nat) (i : Nat) (vo : Value) (B : List ObR) (Tg : List (Value × List Tag)) (w2 : World), i ≤ os.length → pure_ B = bareP false ks (pure_ (os.take i)) → BareOk w Tg B → B.length ≤ i → Mm (fun _ => False) w w2 [bk b453 #[vL p0 os.length cp0] 24, bk b454 #[vL none 0 0] 24, bk b455 #[vo] 24, rw_ obL 6 64 vo B, bagE tgL 2 106 Tg] → m458 = os.length - i → A23 Φ (some (3, 0)) [(8, vI (i : Int)), (7, vP b455 0), (6, vP b454 0), (3, vP b453 0), (1, vB false), (2, vL pk ks.length ck)] w2 := by
   refine srec fun m458 ih457 i vo B Tg w2 hi hB1 hB2 hBl hM hm458 => seg 3 5 [(18, vB (decide ((i : Int) < (os.length : Int))))] (fc (ldm 22 0 0 hM rfl rfl) f0) ?_
   cases h459 : (decide ((i : Int) < (os.length : Int))) with
   | false =>
    have rh459 := df h459
    obtain ⟨qo460, cqo460, e460, -⟩ := (hM.src (j := 3) rfl obT.len).op
    subst e460
    refine stm 20 1 [(87, .agg #[vL qo460 B.length cqo460])] 24 1 0 (.agg #[vL qo460 B.length cqo460]) (fc (lam 24 2 0 1 hM rfl) f0) hM rfl fun w1 hM => ?_
    have hi9 : os.take i = os := List.take_of_length_le (by omega)
    rw [hi9] at hB1
    exact rtc 6 24 rfl (run_loadW 24 1 hM rfl rfl) f0 (hΦ _ _ ⟨_, B, rfl, hB2.obs (F0 := fun _ => False) hM (i := 3) (j := 4) rfl rfl, hB1, hM.fr⟩)
   | true =>
    have rh459 := dt h459
    obtain ⟨y, hy, g461, o461, q461, r461⟩ := sp0.el (i := i) (by omega)
    refine varm 5 5 9 [(25, .agg #[vS y.o.id, vI y.o.kind, vI y.o.x, vI y.o.y, vL y.pr y.o.refs.length y.cr, vL y.pt y.o.tags.length y.ct])] [] 64 (.agg #[vS y.o.id, vI y.o.kind, vI y.o.x, vI y.o.y, vL y.pr y.o.refs.length y.cr, vL y.pt y.o.tags.length y.ct]) (fc (ldm 22 0 0 hM rfl rfl) (fc (ix 22 cp0 q461 (gl hy)) (fc (la0 64 hM r461) f0))) hM fun b462 w1 hM => ?_
    have hM := hM.row (f := tgL) (c := 2) (E := 106)
    refine seg 8 0 [(10, vL none 0 0), (11, vI 0)] f0 ?_
    have lp463 : ∀ (m465 : Nat) (k : Nat) (vt : Value) (w2 : World), k ≤ y.o.tags.length → Mm (fun _ => False) w w2 [bk b453 #[vL p0 os.length cp0] 24, bk b454 #[vL none 0 0] 24, bk b455 #[vo] 24, rw_ obL 6 64 vo B, bagE tgL 2 106 Tg, bk b462 #[vS y.o.id, vI y.o.kind, vI y.o.x, vI y.o.y, vL y.pr y.o.refs.length y.cr, vL y.pt y.o.tags.length y.ct] 64, rw_ tgL 2 106 vt ((y.o.tags.take k).filter (notIn ks))] → m465 = y.o.tags.length - k → A23 Φ (some (8, 0)) [(11, vI (k : Int)), (10, vt), (9, vP b462 0), (8, vI (i : Int)), (7, vP b455 0), (6, vP b454 0), (3, vP b453 0), (1, vB false), (2, vL pk ks.length ck)] w2 := by
     refine srec fun m465 ih464 k vt w2 hk hM hm465 => ?_
     have htl := hst y (gm hy)
     refine seg 8 5 [(30, vB (decide ((k : Int) < (y.o.tags.length : Int))))] (fc (ldm 62 5 5 hM rfl rfl) f0) ?_
     cases h466 : (decide ((k : Int) < (y.o.tags.length : Int))) with
     | false =>
      have rh466 := df h466
      obtain ⟨qt467, cqt467, e467, -⟩ := (hM.src (j := 6) rfl tgT.len).op
      subst e467
      refine stm 17 2 [(63, vL qt467 ((y.o.tags.take k).filter (notIn ks)).length cqt467), (64, vP b462 5)] 62 5 5 (vL qt467 ((y.o.tags.take k).filter (notIn ks)).length cqt467) f0 hM rfl fun w1 hM => seg 18 4 [(68, vB (!(y.o.kind == 3)))] (fc (ldm 3 5 1 hM rfl rfl) f0) ?_
      cases h468 : (y.o.kind == 3) with
      | false =>
       have rh468 := ef h468
       refine seg 18 9 [(73, vB (!(y.o.kind == 4)))] (fc (ldm 3 5 1 hM rfl rfl) f0) ?_
       cases h469 : (y.o.kind == 4) with
       | false =>
        have rh469 := ef h469
        refine seg 18 16 [(80, vB (!(y.o.kind == 5)))] (fc (ldm 3 5 1 hM rfl rfl) f0) ?_
        cases h470 : (y.o.kind == 5) with
        | false =>
         have rh470 := ef h470
         refine newm 19 3 84 [(82, vo), (83, .agg #[vS y.o.id, vI y.o.kind, vI y.o.x, vI y.o.y, vL y.pr y.o.refs.length y.cr, vL qt467 ((y.o.tags.take k).filter (notIn ks)).length cqt467])] (cs := #[vS y.o.id, vI y.o.kind, vI y.o.x, vI y.o.y, vL y.pr y.o.refs.length y.cr, vL qt467 ((y.o.tags.take k).filter (notIn ks)).length cqt467]) (T := 64) (v := fun b => vL (some ⟨b, 0, none⟩) 1 1) (fc (ldm 22 2 0 hM rfl rfl) (fc (lam 64 5 0 6 hM rfl) f0)) hM fun b471 w1 hM => appm 19 4 85 [] (cap := 1) (by decide) obT f0 hM (j := 3) rfl (src_one (f := obL) (x := (⟨⟨y.o.id, y.o.kind, y.o.x, y.o.y, y.o.refs, ((y.o.tags.take k).filter (notIn ks))⟩, y.pr, y.cr, qt467, cqt467⟩ : ObR)) (hM.get 7 rfl) (Nat.lt_succ_self _)) (fun h => by cases h) (by simp only [List.length_cons, List.length_nil]; omega) fun v472 w1 hM => ?_
         obtain ⟨qa472, ca472, e472, -⟩ := (hM.src (j := 3) rfl obT.len).op
         subst e472
         refine stm 19 6 [(86, vP b455 0)] 22 2 0 (vL qa472 (B ++ [(⟨⟨y.o.id, y.o.kind, y.o.x, y.o.y, y.o.refs, ((y.o.tags.take k).filter (notIn ks))⟩, y.pr, y.cr, qt467, cqt467⟩ : ObR)]).length ca472) f0 hM rfl fun w1 hM => seg 3 0 [(8, vI ((i : Int) + 1))] (fc (tadd (i : Int) 1 Tryz.underlying3) f0) ?_
         have hkp : keepO false y.o = true := by unfold keepO; simp only [h468, h469, h470] <;> rfl
         have hM := hM.pick [0, 1, 2, 3, 4, 6]
         replace hM : Mm (fun _ => False) w _ [bk b453 #[vL p0 os.length cp0] 24, bk b454 #[vL none 0 0] 24, bk b455 #[vL qa472 (B ++ [(⟨⟨y.o.id, y.o.kind, y.o.x, y.o.y, y.o.refs, ((y.o.tags.take k).filter (notIn ks))⟩, y.pr, y.cr, qt467, cqt467⟩ : ObR)]).length ca472] 24, rw_ obL 6 64 (vL qa472 (B ++ [(⟨⟨y.o.id, y.o.kind, y.o.x, y.o.y, y.o.refs, ((y.o.tags.take k).filter (notIn ks))⟩, y.pr, y.cr, qt467, cqt467⟩ : ObR)]).length ca472) (B ++ [(⟨⟨y.o.id, y.o.kind, y.o.x, y.o.y, y.o.refs, ((y.o.tags.take k).filter (notIn ks))⟩, y.pr, y.cr, qt467, cqt467⟩ : ObR)]), bagE tgL 2 106 Tg, rw_ tgL 2 106 (vL qt467 ((y.o.tags.take k).filter (notIn ks)).length cqt467) ((y.o.tags.take k).filter (notIn ks))] := hM
         have hM := bag_in (A := [bk b453 #[vL p0 os.length cp0] 24, bk b454 #[vL none 0 0] 24, bk b455 #[vL qa472 (B ++ [(⟨⟨y.o.id, y.o.kind, y.o.x, y.o.y, y.o.refs, ((y.o.tags.take k).filter (notIn ks))⟩, y.pr, y.cr, qt467, cqt467⟩ : ObR)]).length ca472] 24, rw_ obL 6 64 (vL qa472 (B ++ [(⟨⟨y.o.id, y.o.kind, y.o.x, y.o.y, y.o.refs, ((y.o.tags.take k).filter (notIn ks))⟩, y.pr, y.cr, qt467, cqt467⟩ : ObR)]).length ca472) (B ++ [(⟨⟨y.o.id, y.o.kind, y.o.x, y.o.y, y.o.refs, ((y.o.tags.take k).filter (notIn ks))⟩, y.pr, y.cr, qt467, cqt467⟩ : ObR)])]) hM (L' := (vL qt467 ((y.o.tags.take k).filter (notIn ks)).length cqt467, ((y.o.tags.take k).filter (notIn ks))) :: Tg) (List.Perm.refl _)
         have eT : ((y.o.tags.take k).filter (notIn ks)) = y.o.tags.filter (notIn ks) := by rw [List.take_of_length_le (by omega)]
         have hB2 := hB2.snoc (b := (⟨⟨y.o.id, y.o.kind, y.o.x, y.o.y, y.o.refs, ((y.o.tags.take k).filter (notIn ks))⟩, y.pr, y.cr, qt467, cqt467⟩ : ObR)) (hob _ (gm hy)).refs (show ObB ⟨y.o.id, y.o.kind, y.o.x, y.o.y, y.o.refs, ((y.o.tags.take k).filter (notIn ks))⟩ from eT ▸ bareO_b (hob _ (gm hy)).bnd)
         have hB1 : pure_ (B ++ [(⟨⟨y.o.id, y.o.kind, y.o.x, y.o.y, y.o.refs, ((y.o.tags.take k).filter (notIn ks))⟩, y.pr, y.cr, qt467, cqt467⟩ : ObR)]) = bareP false ks (pure_ (os.take (i + 1))) := by
           rw [gt_ hy]
           unfold pure_ at hB1 ⊢
           rw [List.map_append, List.map_append, hB1]
           rw [show List.map (fun x : ObR => x.o) [y] = [y.o] from rfl, bareP_snoc, hkp]
           show _ ++ [(⟨y.o.id, y.o.kind, y.o.x, y.o.y, y.o.refs, ((y.o.tags.take k).filter (notIn ks))⟩ : Ob)] = _
           rw [eT]; rfl
         exact fewer _ (ih457 _ (by have := gl hy; omega) (i + 1) (vL qa472 (B ++ [(⟨⟨y.o.id, y.o.kind, y.o.x, y.o.y, y.o.refs, ((y.o.tags.take k).filter (notIn ks))⟩, y.pr, y.cr, qt467, cqt467⟩ : ObR)]).length ca472) (B ++ [(⟨⟨y.o.id, y.o.kind, y.o.x, y.o.y, y.o.refs, ((y.o.tags.take k).filter (notIn ks))⟩, y.pr, y.cr, qt467, cqt467⟩ : ObR)]) ((vL qt467 ((y.o.tags.take k).filter (notIn ks)).length cqt467, ((y.o.tags.take k).filter (notIn ks))) :: Tg) _ (gl hy) hB1 hB2 (by rw [List.length_append, List.length_singleton]; omega) hM rfl)
        | true =>
         have rh470 := et h470
         refine seg 3 0 [(8, vI ((i : Int) + 1))] (fc (tadd (i : Int) 1 Tryz.underlying3) f0) ?_
         have hkp : keepO false y.o = false := by unfold keepO; simp only [h468, h469, h470] <;> rfl
         have hM := hM.pick [0, 1, 2, 3, 4]
         have hB1 : pure_ B = bareP false ks (pure_ (os.take (i + 1))) := by
           rw [gt_ hy]
           unfold pure_ at hB1 ⊢
           rw [List.map_append, hB1, show List.map (fun x : ObR => x.o) [y] = [y.o] from rfl, bareP_snoc, hkp]
           exact (List.append_nil _).symm
         exact fewer _ (ih457 _ (by have := gl hy; omega) (i + 1) vo B Tg _ (gl hy) hB1 hB2 (by omega) hM rfl)
       | true =>
        have rh469 := et h469
        refine seg 3 0 [(8, vI ((i : Int) + 1))] (fc (tadd (i : Int) 1 Tryz.underlying3) f0) ?_
        have hkp : keepO false y.o = false := by unfold keepO; simp only [h468, h469] <;> rfl
        have hM := hM.pick [0, 1, 2, 3, 4]
        have hB1 : pure_ B = bareP false ks (pure_ (os.take (i + 1))) := by
          rw [gt_ hy]
          unfold pure_ at hB1 ⊢
          rw [List.map_append, hB1, show List.map (fun x : ObR => x.o) [y] = [y.o] from rfl, bareP_snoc, hkp]
          exact (List.append_nil _).symm
        exact fewer _ (ih457 _ (by have := gl hy; omega) (i + 1) vo B Tg _ (gl hy) hB1 hB2 (by omega) hM rfl)
      | true =>
       have rh468 := et h468
       refine seg 3 0 [(8, vI ((i : Int) + 1))] (fc (tadd (i : Int) 1 Tryz.underlying3) f0) ?_
       have hkp : keepO false y.o = false := by unfold keepO; simp only [h468] <;> rfl
       have hM := hM.pick [0, 1, 2, 3, 4]
       have hB1 : pure_ B = bareP false ks (pure_ (os.take (i + 1))) := by
         rw [gt_ hy]
         unfold pure_ at hB1 ⊢
         rw [List.map_append, hB1, show List.map (fun x : ObR => x.o) [y] = [y.o] from rfl, bareP_snoc, hkp]
         exact (List.append_nil _).symm
       exact fewer _ (ih457 _ (by have := gl hy; omega) (i + 1) vo B Tg _ (gl hy) hB1 hB2 (by omega) hM rfl)
     | true =>
      have rh466 := dt h466
      have s473 := (hob _ (gm hy)).tags; have bs473 := s473.bnd
      obtain ⟨z, hz, g474, o474, q474, r474⟩ := s473.el (i := k) (by omega)
      refine seg 12 0 [(12, vB false), (13, vI 0)] f0 ?_
      have lp475 : ∀ (m477 : Nat) (n : Nat) (dr : Bool) (w2 : World), n ≤ ks.length → dr = (ks.take n).any (fun s => z.1 == s) → Mm (fun _ => False) w w2 [bk b453 #[vL p0 os.length cp0] 24, bk b454 #[vL none 0 0] 24, bk b455 #[vo] 24, rw_ obL 6 64 vo B, bagE tgL 2 106 Tg, bk b462 #[vS y.o.id, vI y.o.kind, vI y.o.x, vI y.o.y, vL y.pr y.o.refs.length y.cr, vL y.pt y.o.tags.length y.ct] 64, rw_ tgL 2 106 vt ((y.o.tags.take k).filter (notIn ks))] → m477 = ks.length - n → A23 Φ (some (12, 0)) [(13, vI (n : Int)), (12, vB dr), (11, vI (k : Int)), (10, vt), (9, vP b462 0), (8, vI (i : Int)), (7, vP b455 0), (6, vP b454 0), (3, vP b453 0), (1, vB false), (2, vL pk ks.length ck)] w2 := by
       refine srec fun m477 ih476 n dr w2 hn hdr hM hm477 => seg 12 4 [(36, vB (decide ((n : Int) < (ks.length : Int))))] f0 ?_
       cases h478 : (decide ((n : Int) < (ks.length : Int))) with
       | false =>
        have rh478 := df h478
        have hdr9 : dr = ks.any (fun s => z.1 == s) := by rw [hdr, List.take_of_length_le (by omega)]
        refine seg 15 2 [(54, vB (!dr))] f0 ?_
        cases h479 : dr with
        | false =>
         refine newm 16 6 61 [(55, vt), (60, .agg #[vS z.1, vS z.2])] (cs := #[vS z.1, vS z.2]) (T := 106) (v := fun b => vL (some ⟨b, 0, none⟩) 1 1) (fc (ldm 62 5 5 hM rfl rfl) (fc (ix 62 y.ct q474 (gl hz)) (fc (la0 106 hM r474) f0))) hM fun b480 w1 hM => appm 16 7 62 [] (cap := 1) (by decide) tgT f0 hM (j := 6) rfl (src_one (f := tgL) (x := z) (hM.get 7 rfl) (Nat.lt_succ_self _)) (fun h => by cases h) (by have := List.length_filter_le (notIn ks) (y.o.tags.take k); have := hob _ (gm hy); simp only [List.length_take, List.length_cons, List.length_nil] at *; omega) fun v481 w1 hM => ?_
         obtain ⟨qa481, ca481, e481, -⟩ := (hM.src (j := 6) rfl tgT.len).op
         subst e481
         refine seg 8 0 [(10, vL qa481 (((y.o.tags.take k).filter (notIn ks)) ++ [z]).length ca481), (11, vI ((k : Int) + 1))] (fc (tadd (k : Int) 1 Tryz.underlying3) f0) ?_
         have hM := hM.pick [0, 1, 2, 3, 4, 5, 6]
         have hni : notIn ks z = true := by unfold notIn; rw [← hdr9, h479]; rfl
         have e1 : (((y.o.tags.take k).filter (notIn ks)) ++ [z]) = (y.o.tags.take (k + 1)).filter (notIn ks) := by rw [filt_snoc hz, hni]; rfl
         replace hM : Mm (fun _ => False) w _ [bk b453 #[vL p0 os.length cp0] 24, bk b454 #[vL none 0 0] 24, bk b455 #[vo] 24, rw_ obL 6 64 vo B, bagE tgL 2 106 Tg, bk b462 #[vS y.o.id, vI y.o.kind, vI y.o.x, vI y.o.y, vL y.pr y.o.refs.length y.cr, vL y.pt y.o.tags.length y.ct] 64, rw_ tgL 2 106 (vL qa481 (((y.o.tags.take k).filter (notIn ks)) ++ [z]).length ca481) (((y.o.tags.take k).filter (notIn ks)) ++ [z])] := hM
         obtain ⟨u1, hu1⟩ : ∃ zz9, zz9 = vL qa481 (((y.o.tags.take k).filter (notIn ks)) ++ [z]).length ca481 := ⟨_, rfl⟩
         rw [← hu1] at hM
         rw [e1, hu1] at hM
         exact fewer _ (ih464 _ (by have := gl hz; omega) (k + 1) (vL qa481 (((y.o.tags.take k).filter (notIn ks)) ++ [z]).length ca481) _ (gl hz) hM rfl)
        | true =>
         refine seg 8 0 [(11, vI ((k : Int) + 1))] (fc (tadd (k : Int) 1 Tryz.underlying3) f0) ?_
         have hni : notIn ks z = false := by unfold notIn; rw [← hdr9, h479]; rfl
         have e1 : ((y.o.tags.take k).filter (notIn ks)) = (y.o.tags.take (k + 1)).filter (notIn ks) := by rw [filt_snoc hz, hni]; exact (List.append_nil _).symm
         replace hM : Mm (fun _ => False) w _ [bk b453 #[vL p0 os.length cp0] 24, bk b454 #[vL none 0 0] 24, bk b455 #[vo] 24, rw_ obL 6 64 vo B, bagE tgL 2 106 Tg, bk b462 #[vS y.o.id, vI y.o.kind, vI y.o.x, vI y.o.y, vL y.pr y.o.refs.length y.cr, vL y.pt y.o.tags.length y.ct] 64, rw_ tgL 2 106 vt ((y.o.tags.take k).filter (notIn ks))] := hM
         obtain ⟨u1, hu1⟩ : ∃ zz9, zz9 = vt := ⟨_, rfl⟩
         rw [← hu1] at hM
         rw [e1, hu1] at hM
         exact fewer _ (ih464 _ (by have := gl hz; omega) (k + 1) vt _ (gl hz) hM rfl)
       | true =>
        have rh478 := dt h478
        obtain ⟨s, hs, g482, o482, q482, r482⟩ := sk.el (i := n) (by omega)
        refine seg 14 0 [] f0 ?_
        cases h483 : dr with
        | false =>
         have hM := hM.q ((Fr.refl _ _).drew)
         refine drqu [(12, vB (z.1 == s))] rfl (fc (ldm 62 5 5 hM rfl rfl) (fc (ix 62 y.ct q474 (gl hz)) (fc (ld0 9 hM (r474 0 _ rfl)) (fc (ix 28 ck q482 (gl hs)) (fc (ld0 9 hM (r482 0 _ rfl)) (fc (seq 9 z.1 s) f0)))))) (seg 12 0 [(13, vI ((n : Int) + 1))] (fc (tadd (n : Int) 1 Tryz.underlying3) f0) (fewer _ (ih476 _ (by have := gl hs; omega) (n + 1) (z.1 == s) _ (gl hs) (by rw [any_snoc hs, ← hdr]; simp only [h483] <;> rfl) hM rfl)))
        | true =>
         have hM := hM.q ((Fr.refl _ _).drew)
         refine drqu [(12, vB true)] rfl f0 (seg 12 0 [(13, vI ((n : Int) + 1))] (fc (tadd (n : Int) 1 Tryz.underlying3) f0) (fewer _ (ih476 _ (by have := gl hs; omega) (n + 1) true _ (gl hs) (by rw [any_snoc hs, ← hdr]; simp only [h483] <;> rfl) hM rfl)))
      exact fewer _ (lp475 _ 0 false _ (Nat.zero_le _) rfl hM rfl)
    exact fewer _ (lp463 _ 0 (vL none 0 0) _ (Nat.zero_le _) hM rfl)
  exact fewer _ (lp456 _ 0 (vL none 0 0) [] [] _ (Nat.zero_le _) rfl (BareOk.nil _ _) (Nat.zero_le _) hM rfl)
end Go.Proofs.YtbflfefahheidaaGreatDoor
/- What trips are, with no memory in sight. -/
set_option linter.unusedVariables false
set_option linter.unusedSimpArgs false
namespace Go.Proofs.YtbflfefahheidaaGreatDoor
open Go.RowKit Go.Pl
/-! ### what is pure: no memory in sight -/
def wayO (N : Bys → Bool) (l : List Ob) (id : Bys) : Option Ob := l.foldl (fun r o => bif ((o.kind == 2) && o.refs.all N) && (o.id == id) then some o else r) none
theorem wayB_o (N : Bys → Bool) (os : List ObR) (id : Bys) : (wayB N os id).map (·.o) = wayO N (pure_ os) id := by
 have key : ∀ (os : List ObR) (r : Option ObR), (os.foldl (fun r b => bif ((b.o.kind == 2) && b.o.refs.all N) && (b.o.id == id) then some b else r) r).map (·.o) = (pure_ os).foldl (fun r o => bif ((o.kind == 2) && o.refs.all N) && (o.id == id) then some o else r) (r.map (·.o)) := by
  intro os
  induction os with
  | nil => intro r; rfl
  | cons b os ih =>
   intro r
   rw [List.foldl_cons, ih, show pure_ (b :: os) = b.o :: pure_ os from rfl, List.foldl_cons]
   cases ((b.o.kind == 2) && b.o.refs.all N) && (b.o.id == id) <;> rfl
 exact key os none
def arcsQ (l : List Ob) (o : Ob) : List Arc := bif o.kind == 2 then (match wayO (isNode l) l o.id with | some c => segs l o.id c.refs | none => []) else []
def asP (l : List Ob) : List Arc := l.flatMap (arcsQ l)
def asQ (l : List Ob) : List Arc := nubA (asP l)
theorem arcsP_q (os : List ObR) : arcsP os = asP (pure_ os) := by
 unfold arcsP asP
 have e : ∀ b, arcsO os b = arcsQ (pure_ os) b.o := fun b => by
  unfold arcsO arcsQ
  rw [← wayB_o]
  cases wayB (isNode (pure_ os)) os b.o.id <;> rfl
 rw [show arcsO os = fun b => arcsQ (pure_ os) b.o from funext e]
 show os.flatMap _ = (os.map _).flatMap _
 rw [List.flatMap_map]
theorem AS_q (os : List ObR) : AS os = asQ (pure_ os) := by unfold asQ; rw [← arcsP_q]
def roadQ (prof : Bys) (l : List Ob) (id : Bys) : Road := match ((l.filter fun o => o.kind == 2).reverse).find? fun o => o.id == id with
 | some o => roadO prof o
 | none => roadZ
theorem roadW_q (prof : Bys) (os : List ObR) (id : Bys) : roadW prof os id = roadQ prof (pure_ os) id := by
 unfold roadW roadQ
 have e : (((pure_ os).filter fun o => o.kind == 2).reverse).find? (fun o => o.id == id) = ((waysR os).find? fun b => b.o.id == id).map (·.o) := by
  unfold waysR pure_
  rw [List.filter_map, ← List.map_reverse, List.find?_map]
  rfl
 rw [e]
 cases (waysR os).find? (fun b => b.o.id == id) <;> rfl
def bansQ (prof : Bys) (l : List Ob) : List Tri := bif prof == foot then [] else (l.filter fun o => o.kind == 5).map triO
theorem bans_q (prof : Bys) (os : List ObR) : bans prof os = bansQ prof (pure_ os) := by
 unfold bans bansQ pure_
 rw [List.filter_map, List.map_map]
 rfl
/-- When one comes to the end of an arc of a road. -/
def passQ (r : Road) (a : Arc) (minute : Int) : Option Int :=
 bif r.closed || (r.oneway && !fwd a.1 a.2.1 r.refs) || decide (1000000000 < minute) then none
 else bif r.limited then
  (bif !((nextP r.hours minute).2) || decide (1000000000 < (nextP r.hours minute).1) then none else some ((nextP r.hours minute).1 + (a.2.2.2 + r.speed - 1) / r.speed))
 else some (minute + (a.2.2.2 + r.speed - 1) / r.speed)
def allowQ (prof : Bys) (l : List Ob) (a b : Arc) : Bool := (a.2.1 == b.1) && !((bansQ prof l).contains (a.2.2.1, a.2.1, b.2.2.1))
def netQ (prof : Bys) (l : List Ob) (f : Bys) : NetW where
 n := (asQ l).length
 st i := match (asQ l)[i]? with | some a => a.1 == f | none => false
 ps i m := match (asQ l)[i]? with | some a => passQ (roadQ prof l a.2.2.1) a m | none => none
 al i k := match (asQ l)[i]?, (asQ l)[k]? with | some a, some b => allowQ prof l a b | _, _ => false
theorem netOf_q (prof : Bys) (os : List ObR) (f : Bys) : netOf prof os f = netQ prof (pure_ os) f := by
 unfold netOf netQ
 have e1 : ∀ a m, passP prof os a m = passQ (roadQ prof (pure_ os) a.2.2.1) a m := fun a m => by
  unfold passP; rw [roadW_q]; rfl
 have e2 : ∀ a b, allowB prof os a b = allowQ prof (pure_ os) a b := fun a b => by
  unfold allowB allowQ; rw [bans_q]
 simp only [e1, e2, AS_q] <;> rfl
def kindQ (l : List Ob) (id : Bys) : Int := match l[(findI l id).toNat]? with
 | some o => o.kind
 | none => 0
theorem kindI_q (os : List ObR) (id : Bys) : kindI os id = kindQ (pure_ os) id := by
 unfold kindI kindQ
 rw [show (pure_ os)[(findI (pure_ os) id).toNat]? = (os[(findI (pure_ os) id).toNat]?).map (·.o) from by unfold pure_; rw [List.getElem?_map]]
 cases os[(findI (pure_ os) id).toNat]? <;> rfl
def chkQ (l : List Ob) (prof : Bys) (m0 : Int) (ids : List Bys) : Int :=
 bif !(validMap l) || (!(nameB prof) || (decide (m0 < 0) || decide (9999999 < m0))) then 1
 else bif ids.any (fun id => decide (findI l id < 0)) then 11
 else bif ids.any (fun id => !(kindQ l id == 1)) then 13 else 0
theorem chkP_q (os : List ObR) (prof : Bys) (m0 : Int) (ids : List Bys) : chkP os prof m0 ids = chkQ (pure_ os) prof m0 ids := by
 unfold chkP chkQ
 rw [show noNode os = fun id => !(kindQ (pure_ os) id == 1) from funext fun id => by unfold noNode; rw [kindI_q]]
def TripQ (prof : Bys) (l : List Ob) (f g : Bys) (m0 c : Int) (nd : List Bys) (mi : List Int) : Prop :=
 (¬ chkQ l prof m0 [f, g] = 0 ∧ c = chkQ l prof m0 [f, g] ∧ nd = [] ∧ mi = []) ∨ (chkQ l prof m0 [f, g] = 0 ∧ f = g ∧ c = 0 ∧ nd = [f] ∧ mi = [m0]) ∨
 (chkQ l prof m0 [f, g] = 0 ∧ f ≠ g ∧ ∃ t, Tab (netQ prof l f) m0 t ∧ ((lastF (asQ l) t g (asQ l).length = none ∧ c = 12 ∧ nd = [] ∧ mi = []) ∨
  ∃ i, lastF (asQ l) t g (asQ l).length = some i ∧ c = 0 ∧ nd = ((bkP (netQ prof l f) m0 t i).map (toN (asQ l)) ++ [f]).reverse ∧ mi = ((bkP (netQ prof l f) m0 t i).map (fun j => (t j).getD 0) ++ [m0]).reverse))
theorem tripR_q {prof : Bys} {os : List ObR} {f g : Bys} {m0 c : Int} {nd : List Bys} {mi : List Int} (h : TripR prof os f g m0 c nd mi) : TripQ prof (pure_ os) f g m0 c nd mi := by
 unfold TripR at h
 rw [chkP_q, netOf_q, AS_q] at h
 exact h
def rowsQ (l : List Ob) (u : Bys → Option Int) : List (Bys × Int) := l.flatMap fun o => bif (u o.id).isSome && (o.kind == 1) then [(o.id, (u o.id).getD 0)] else []
def ReachQ (prof : Bys) (l : List Ob) (f : Bys) (wi m0 c : Int) (rows : List (Bys × Int)) : Prop :=
 ((wi < 0 ∨ 10080 < wi) ∧ c = 1 ∧ rows = []) ∨ (¬ (wi < 0 ∨ 10080 < wi) ∧ ¬ chkQ l prof m0 [f] = 0 ∧ c = chkQ l prof m0 [f] ∧ rows = []) ∨
 (¬ (wi < 0 ∨ 10080 < wi) ∧ chkQ l prof m0 [f] = 0 ∧ c = 0 ∧ ∃ t u, Tab (netQ prof l f) m0 t ∧ FirstOk (asQ l) t f m0 wi (fun _ => True) u ∧ rows = rowsQ l u)
theorem reachR_q {prof : Bys} {os : List ObR} {f : Bys} {wi m0 c : Int} {rows : List (Bys × Int)} (h : ReachR prof os f wi m0 c rows) : ReachQ prof (pure_ os) f wi m0 c rows := by
 unfold ReachR at h
 rw [chkP_q, netOf_q, AS_q] at h
 have e : ∀ u, rowsP os u = rowsQ (pure_ os) u := fun u => by
  unfold rowsP rowsQ pure_; rw [List.flatMap_map]
 simp only [e] at h
 exact h
theorem chkQ_ok {l : List Ob} {prof : Bys} {m0 : Int} {ids : List Bys} (h : chkQ l prof m0 ids = 0) : validMap l = true ∧ nameB prof = true ∧ 0 ≤ m0 ∧ m0 ≤ 9999999 ∧ (∀ id ∈ ids, ¬ findI l id < 0) ∧ ∀ id ∈ ids, kindQ l id = 1 := by
 unfold chkQ at h
 cases h1 : (!(validMap l) || (!(nameB prof) || (decide (m0 < 0) || decide (9999999 < m0)))) with
 | true => rw [h1] at h; cases h
 | false =>
  rw [h1] at h
  simp only [Bool.or_eq_false_iff, Bool.not_eq_false', decide_eq_false_iff_not] at h1
  cases h2 : ids.any (fun id => decide (findI l id < 0)) with
  | true => rw [h2] at h; cases h
  | false =>
   rw [h2] at h
   cases h3 : ids.any (fun id => !(kindQ l id == 1)) with
   | true => rw [h3] at h; cases h
   | false =>
    rw [List.any_eq_false] at h2 h3
    exact ⟨h1.1, h1.2.1, by omega, by omega, fun id hi => by simpa using h2 id hi, fun id hi => by simpa using h3 id hi⟩
end Go.Proofs.YtbflfefahheidaaGreatDoor
/- The chapter's examples, plain. -/
set_option linter.unusedVariables false
set_option linter.unusedSimpArgs false
namespace Go.Proofs.YtbflfefahheidaaGreatDoor
open Go.RowKit Go.Pl
/-! ### the chapter's examples, plain -/
def netL (prof : Bys) (l : List Ob) (A : List Arc) (f : Bys) : NetW where
 n := A.length
 st i := match A[i]? with | some a => a.1 == f | none => false
 ps i m := match A[i]? with | some a => passQ (roadQ prof l a.2.2.1) a m | none => none
 al i k := match A[i]?, A[k]? with | some a, some b => allowQ prof l a b | _, _ => false
theorem netQ_l (prof : Bys) (l : List Ob) (f : Bys) : netQ prof l f = netL prof l (asQ l) f := rfl
def leB (t : Nat → Option Int) (k : Nat) (o : Option Int) : Bool := match o with
 | none => true
 | some x => match t k with
  | some y => decide (y ≤ x)
  | none => false
theorem leB_at {t : Nat → Option Int} {k : Nat} {o : Option Int} (h : leB t k o = true) : ∀ x, o = some x → ∃ y, y ≤ x ∧ t k = some y := by
 rintro x rfl
 unfold leB at h
 cases ht : t k with
 | none => rw [ht] at h; cases h
 | some y => rw [ht] at h; exact ⟨y, of_decide_eq_true h, rfl⟩
/-- What is to be checked of a table; pr: where each arc was come from. -/
def chkT (N : NetW) (m0 : Int) (t : Nat → Option Int) (pr : Nat → Option Nat) : Bool :=
 (List.range N.n).all fun i => (!(N.st i) || leB t i (N.ps i m0)) && (match t i with
  | none => true
  | some m => ((List.range N.n).all fun k => !(N.al i k) || leB t k (N.ps k m)) && decide (0 ≤ m) && (match pr i with
   | none => N.st i && (N.ps i m0 == some m)
   | some j => match t j with
    | some m' => N.al j i && (N.ps i m' == some m) && decide (m' < m)
    | none => false))
theorem tab_chk {N : NetW} {m0 : Int} {t : Nat → Option Int} {pr : Nat → Option Nat} (h : chkT N m0 t pr = true) (ho : ∀ i, N.n ≤ i → t i = none) : Tab N m0 t := by
 have h9 : ∀ i, i < N.n → _ := fun i hi => List.all_eq_true.1 h i (List.mem_range.2 hi)
 have hlt : ∀ i m, t i = some m → i < N.n := fun i m e => by
  rcases Nat.lt_or_ge i N.n with q | q
  ·exact q
  ·rw [ho i q] at e; cases e
 have hsnd : ∀ (k : Nat) i m, t i = some m → m.toNat ≤ k → Rch N m0 i m := by
  intro k
  induction k using Nat.strongRecOn with
  | _ k ih =>
   intro i m e hk
   have hi := hlt i m e
   have q := h9 i hi
   rw [Bool.and_eq_true, e] at q
   have q := q.2
   simp only [Bool.and_eq_true, decide_eq_true_eq] at q
   obtain ⟨⟨_, q2⟩, q3⟩ := q
   cases hp : pr i with
   | none =>
    rw [hp] at q3
    simp only [Bool.and_eq_true, beq_iff_eq] at q3
    exact .base hi q3.1 q3.2
   | some j =>
    rw [hp] at q3
    simp only at q3
    cases hj : t j with
    | none => rw [hj] at q3; cases q3
    | some m' =>
     rw [hj] at q3
     simp only [Bool.and_eq_true, beq_iff_eq, decide_eq_true_eq] at q3
     obtain ⟨⟨q4, q5⟩, q6⟩ := q3
     have qj := h9 j (hlt j m' hj)
     rw [Bool.and_eq_true, hj] at qj
     have qj := qj.2
     simp only [Bool.and_eq_true, decide_eq_true_eq] at qj
     have := qj.1.2
     exact .step (ih m'.toNat (by omega) j m' hj (Nat.le_refl _)) hi q4 q5
 refine ⟨fun i m e => hsnd m.toNat i m e (Nat.le_refl _), fun i hi hs x hx => ?_, fun i m e k hk ha x hx => ?_⟩
 ·have q := h9 i hi
  rw [Bool.and_eq_true] at q
  have q := q.1
  rw [hs] at q
  exact leB_at q x hx
 ·have q := h9 i (hlt i m e)
  rw [Bool.and_eq_true, e] at q
  have q := q.2
  simp only [Bool.and_eq_true] at q
  have q := List.all_eq_true.1 q.1.1 k (List.mem_range.2 hk)
  rw [ha] at q
  exact leB_at q x hx
def tbL (l : List (Option Int)) : Nat → Option Int := fun i => (l[i]?).getD none
theorem tbL_out {l : List (Option Int)} {i : Nat} (h : l.length ≤ i) : tbL l i = none := by unfold tbL; rw [List.getElem?_eq_none h]; rfl
def exA : List Arc := [([97], [98], [118], 300), ([98], [97], [118], 300), ([98], [99], [119], 400), ([99], [98], [119], 400)]
def exTurn : Ob := ⟨[116], 5, 0, 0, [[118], [98], [119]], []⟩
theorem root300 : rootI 90000 = 300 := by
 unfold rootI
 rw [show decide ((90000 : Int) < 0) = false from rfl]
 show ((rootF 90000 : Nat) : Int) = 300
 rw [root_uniq (r := 300) (by decide) (by decide)]; rfl
theorem root400 : rootI 160000 = 400 := by
 unfold rootI
 rw [show decide ((160000 : Int) < 0) = false from rfl]
 show ((rootF 160000 : Nat) : Int) = 400
 rw [root_uniq (r := 400) (by decide) (by decide)]; rfl
section
variable {l : List Ob}
theorem ex_len (hl : l = [] ∨ l = [exTurn]) : arcLen (exO l) [97] [98] = 300 ∧ arcLen (exO l) [98] [97] = 300 ∧ arcLen (exO l) [98] [99] = 400 ∧ arcLen (exO l) [99] [98] = 400 := by
 have h3 : max 1 (rootI 90000) = 300 := by rw [root300]; decide
 have h4 : max 1 (rootI 160000) = 400 := by rw [root400]; decide
 unfold arcLen
 rcases hl with rfl | rfl
 ·rw [show distP ((nodeP (exO []) [97]).getD (0, 0)) ((nodeP (exO []) [98]).getD (0, 0)) = 90000 by decide +kernel, show distP ((nodeP (exO []) [98]).getD (0, 0)) ((nodeP (exO []) [97]).getD (0, 0)) = 90000 by decide +kernel, show distP ((nodeP (exO []) [98]).getD (0, 0)) ((nodeP (exO []) [99]).getD (0, 0)) = 160000 by decide +kernel, show distP ((nodeP (exO []) [99]).getD (0, 0)) ((nodeP (exO []) [98]).getD (0, 0)) = 160000 by decide +kernel]
  exact ⟨h3, h3, h4, h4⟩
 ·rw [show distP ((nodeP (exO [exTurn]) [97]).getD (0, 0)) ((nodeP (exO [exTurn]) [98]).getD (0, 0)) = 90000 by decide +kernel, show distP ((nodeP (exO [exTurn]) [98]).getD (0, 0)) ((nodeP (exO [exTurn]) [97]).getD (0, 0)) = 90000 by decide +kernel, show distP ((nodeP (exO [exTurn]) [98]).getD (0, 0)) ((nodeP (exO [exTurn]) [99]).getD (0, 0)) = 160000 by decide +kernel, show distP ((nodeP (exO [exTurn]) [99]).getD (0, 0)) ((nodeP (exO [exTurn]) [98]).getD (0, 0)) = 160000 by decide +kernel]
  exact ⟨h3, h3, h4, h4⟩
theorem ex_as (hl : l = [] ∨ l = [exTurn]) : asP (exO l) = exA := by
 obtain ⟨h1, h2, h3, h4⟩ := ex_len hl
 have e : asP (exO l) = [([97], [98], [118], arcLen (exO l) [97] [98]), ([98], [97], [118], arcLen (exO l) [97] [98]), ([98], [99], [119], arcLen (exO l) [98] [99]), ([99], [98], [119], arcLen (exO l) [98] [99])] := by
  rcases hl with rfl | rfl <;> kernel_rfl
 rw [e, h1, h3]; rfl
theorem ex_asq (hl : l = [] ∨ l = [exTurn]) : asQ (exO l) = exA := by
 unfold asQ; rw [ex_as hl]; decide +kernel
end
def car : Bys := [99, 97, 114]
theorem ex_tab1 : Tab (netQ car (exO []) [97]) 10 (tbL [some 13, some 16, some 64, some 68]) := by
 rw [netQ_l, ex_asq (.inl rfl)]
 exact tab_chk (pr := fun i => [none, some 0, some 0, some 2].getD i none) (by decide +kernel) fun i hi => tbL_out hi
theorem ex_tab2 : Tab (netQ car (exO [exTurn]) [97]) 10 (tbL [some 13, some 16, none, none]) := by
 rw [netQ_l, ex_asq (.inr rfl)]
 exact tab_chk (pr := fun i => [none, some 0, none, none].getD i none) (by decide +kernel) fun i hi => tbL_out hi
theorem ex_tab3 : Tab (netQ foot (exO [exTurn]) [97]) 10 (tbL [some 13, some 16, some 64, some 68]) := by
 rw [netQ_l, ex_asq (.inr rfl)]
 exact tab_chk (pr := fun i => [none, some 0, some 0, some 2].getD i none) (by decide +kernel) fun i hi => tbL_out hi
end Go.Proofs.YtbflfefahheidaaGreatDoor
/- The chapter's examples: their trips. -/
set_option linter.unusedVariables false
set_option linter.unusedSimpArgs false
namespace Go.Proofs.YtbflfefahheidaaGreatDoor
open Go.RowKit Go.Pl
theorem exA_ok : ∀ a ∈ exA, ArcB a := by
 intro a ha
 unfold exA at ha
 simp only [List.mem_cons, List.not_mem_nil, or_false] at ha
 rcases ha with rfl | rfl | rfl | rfl <;> exact ⟨by unfold B63; decide, by unfold B63; decide, by unfold B63; decide, by decide, by decide⟩
/-- The network of a pure map is that of some objects. -/
def cn (l : List Ob) : List ObR := l.map fun o => ⟨o, none, 0, none, 0⟩
theorem pure_cn (l : List Ob) : pure_ (cn l) = l := by unfold pure_ cn; rw [List.map_map]; exact List.map_id l
theorem netQ_ok {prof : Bys} {l : List Ob} (h : ∀ a ∈ asQ l, ArcB a) (f : Bys) : (netQ prof l f).Ok 6000000000 := by
 have := netOf_ok (prof := prof) (os := cn l) (by rw [AS_q, pure_cn]; exact h) f
 rw [netOf_q, pure_cn] at this
 exact this
theorem ex_trip {prof f g : Bys} {l : List Ob} {T : List (Option Int)} (hl : l = [] ∨ l = [exTurn]) (hc : chkQ (exO l) prof 10 [f, g] = 0) (hfg : f ≠ g) (hT0 : Tab (netQ prof (exO l) f) 10 (tbL T)) {c : Int} {nd : List Bys} {mi : List Int} (h : TripQ prof (exO l) f g 10 c nd mi) :
  (lastF exA (tbL T) g 4 = none ∧ c = 12 ∧ nd = [] ∧ mi = []) ∨ ∃ i, lastF exA (tbL T) g 4 = some i ∧ c = 0 ∧ nd = ((bkP (netL prof (exO l) exA f) 10 (tbL T) i).map (toN exA) ++ [f]).reverse ∧ mi = ((bkP (netL prof (exO l) exA f) 10 (tbL T) i).map (fun j => (tbL T j).getD 0) ++ [10]).reverse := by
 rcases h with ⟨h1, _⟩ | ⟨_, h2, _⟩ | ⟨_, _, t, hT, h3⟩
 ·exact absurd hc h1
 ·exact absurd h2 hfg
 ·have hok := netQ_ok (prof := prof) (l := exO l) (by rw [ex_asq hl]; exact exA_ok) f
  have e := hT.uniq hok (by decide) hT0
  subst e
  rw [netQ_l, ex_asq hl] at h3
  exact h3
theorem exT1 {c : Int} {nd : List Bys} {mi : List Int} (h : TripQ car (exO []) [97] [98] 10 c nd mi) : c = 0 ∧ nd = [[97], [98]] ∧ mi = [10, 13] := by
 rcases ex_trip (.inl rfl) (by decide +kernel) (by decide) ex_tab1 h with ⟨h1, _⟩ | ⟨i, hi, rfl, rfl, rfl⟩
 ·exact absurd h1 (by decide +kernel)
 ·rw [show lastF exA (tbL [some 13, some 16, some 64, some 68]) [98] 4 = some 0 by decide +kernel] at hi
  cases hi
  exact ⟨rfl, by decide +kernel, by decide +kernel⟩
theorem exT2 {c : Int} {nd : List Bys} {mi : List Int} (h : TripQ car (exO []) [97] [99] 10 c nd mi) : c = 0 ∧ nd = [[97], [98], [99]] ∧ mi = [10, 13, 64] := by
 rcases ex_trip (.inl rfl) (by decide +kernel) (by decide) ex_tab1 h with ⟨h1, _⟩ | ⟨i, hi, rfl, rfl, rfl⟩
 ·exact absurd h1 (by decide +kernel)
 ·rw [show lastF exA (tbL [some 13, some 16, some 64, some 68]) [99] 4 = some 2 by decide +kernel] at hi
  cases hi
  exact ⟨rfl, by decide +kernel, by decide +kernel⟩
theorem exT3 {c : Int} {nd : List Bys} {mi : List Int} (h : TripQ car (exO [exTurn]) [97] [99] 10 c nd mi) : c = 12 ∧ nd = [] ∧ mi = [] := by
 rcases ex_trip (.inr rfl) (by decide +kernel) (by decide) ex_tab2 h with ⟨_, h2⟩ | ⟨i, hi, _⟩
 ·exact h2
 ·exact absurd hi (by rw [show lastF exA (tbL [some 13, some 16, none, none]) [99] 4 = none by decide +kernel]; simp)
theorem exT4 {c : Int} {nd : List Bys} {mi : List Int} (h : TripQ foot (exO [exTurn]) [97] [99] 10 c nd mi) : c = 0 ∧ nd = [[97], [98], [99]] ∧ mi = [10, 13, 64] := by
 rcases ex_trip (.inr rfl) (by decide +kernel) (by decide) ex_tab3 h with ⟨h1, _⟩ | ⟨i, hi, rfl, rfl, rfl⟩
 ·exact absurd h1 (by decide +kernel)
 ·rw [show lastF exA (tbL [some 13, some 16, some 64, some 68]) [99] 4 = some 2 by decide +kernel] at hi
  cases hi
  exact ⟨rfl, by decide +kernel, by decide +kernel⟩
theorem exR {c : Int} {rows : List (Bys × Int)} (h : ReachQ car (exO []) [97] 54 10 c rows) : c = 0 ∧ rows = [([97], 0), ([98], 3), ([99], 54)] := by
 rcases h with ⟨h1, _⟩ | ⟨_, h1, _⟩ | ⟨_, _, rfl, t, u, hT, hu, rfl⟩
 ·omega
 ·exact absurd (by decide +kernel : chkQ (exO []) car 10 [[97]] = 0) h1
 ·have hok := netQ_ok (prof := car) (l := exO []) (by rw [ex_asq (.inl rfl)]; exact exA_ok) [97]
  have e := hT.uniq hok (by decide) ex_tab1
  subst e
  rw [ex_asq (.inl rfl)] at hu
  have key : ∀ s d, s ≠ [97] → u s = some d → ∃ k, k < 4 ∧ ∃ m a, tbL [some 13, some 16, some 64, some 68] k = some m ∧ exA[k]? = some a ∧ a.2.1 = s ∧ d = m - 10 ∧ d ≤ 54 := fun s d hs hd => by
   obtain ⟨k, m, a, h1, h2, h3⟩ := hu.snd s d hs hd
   exact ⟨k, gl h2, m, a, h1, h2, h3⟩
  have hb : u [98] = some 3 := by
   obtain ⟨d, h1, h2⟩ := hu.cmp 0 13 ([97], [98], [118], 300) trivial rfl rfl (by decide)
   have h2 : u [98] = some d := h2
   obtain ⟨k, hk, m, a, g1, g2, g3, g4, g5⟩ := key _ _ (by decide) h2
   rw [h2]
   match k, hk with
   | 0, _ => cases g1; rw [g4]; rfl
   | 1, _ => cases g2; cases g3
   | 2, _ => cases g2; cases g3
   | 3, _ => cases g1; omega
  have hc : u [99] = some 54 := by
   obtain ⟨d, h1, h2⟩ := hu.cmp 2 64 ([98], [99], [119], 400) trivial rfl rfl (by decide)
   have h2 : u [99] = some d := h2
   obtain ⟨k, hk, m, a, g1, g2, g3, g4, g5⟩ := key _ _ (by decide) h2
   rw [h2]
   match k, hk with
   | 0, _ => cases g2; cases g3
   | 1, _ => cases g2; cases g3
   | 2, _ => cases g1; rw [g4]; rfl
   | 3, _ => cases g2; cases g3
  refine ⟨rfl, ?_⟩
  unfold rowsQ exO
  simp only [List.append_nil, List.cons_append, List.nil_append, List.flatMap_cons, List.flatMap_nil, hu.own, hb, hc]
  cases u [118] <;> cases u [119] <;> rfl
end Go.Proofs.YtbflfefahheidaaGreatDoor
