/- Without turns and tags that forbid nobody arrives later; without areas, routes and names trips are the same (P37.6, P37.7), for every valid map, profile, two nodes and minute. -/
import Derived.Test.YtbflfefahheidaaGreatDoorK5
import Derived.LaidMore
import Derived.Deep.Slices
import Derived.OpenShut
import Derived.Test.YtbflfefahheidaaGreatDoorTie
import Derived.Lib.LaidU8
import Derived.MakeChecks
import Derived.ProofKit
import Derived.Test.YtbflfefahheidaaGreatDoorCards
import Derived.Stop.Joined
import Derived.SevenTiedAt
/- The chapter's examples hold. -/
set_option linter.unusedVariables false
set_option linter.unusedSimpArgs false
namespace Go.Proofs.YtbflfefahheidaaGreatDoor
open Go.RowKit Go.Pl
theorem trip_ex {prof : Bys} {os : List ObR} {l : List Ob} {f g : Bys} {m0 c : Int} {nd : List Bys} {mi : List Int} (hp : pure_ os = l) (h : TripR prof os f g m0 c nd mi) : TripQ prof l f g m0 c nd mi := by subst hp; exact tripR_q h
theorem reach_ex {prof : Bys} {os : List ObR} {l : List Ob} {f : Bys} {wi m0 c : Int} {rows : List (Bys × Int)} (hp : pure_ os = l) (h : ReachR prof os f wi m0 c rows) : ReachQ prof l f wi m0 c rows := by subst hp; exact reachR_q h
theorem sameT_refl (a : List Bys) (b : List Int) : sameT a b a b = true := by unfold sameT; simp
theorem same_eq {w : World} {p1 p2 p3 p4 : Option Addr} {n1 n2 n3 n4 c1 c2 c3 c4 : Nat} {A1 : List Bys} {A2 : List Int} (e1 : n1 = A1.length) (e2 : n2 = A2.length) (e3 : n3 = A1.length) (e4 : n4 = A2.length) (h1 : SrcP stL 1 w p1 c1 A1) (h2 : SrcP inL 1 w p2 c2 A2) (h3 : SrcP stL 1 w p3 c3 A1) (h4 : SrcP inL 1 w p4 c4 A2) : Calls Tryz.prog 16 #[.agg #[vL p1 n1 c1, vL p2 n2 c2], .agg #[vL p3 n3 c3, vL p4 n4 c4]] w fun e w' => e = .returned (vB true) ∧ Fr (fun _ => False) w w' := by
 subst e1; subst e2; subst e3; subst e4
 exact sameT_refl A1 A2 ▸ same_calls h1 h2 h3 h4
theorem rows_eq {w : World} {p1 p2 : Option Addr} {n1 n2 c1 c2 : Nat} {A : List (Bys × Int)} (e1 : n1 = A.length) (e2 : n2 = A.length) (h1 : SrcP rwL 2 w p1 c1 A) (h2 : SrcP rwL 2 w p2 c2 A) : Calls Tryz.prog 17 #[vL p1 n1 c1, vL p2 n2 c2] w fun e w' => e = .returned (vB true) ∧ Fr (fun _ => False) w w' := by
 subst e1; subst e2
 exact (show (A == A) = true by simp) ▸ rows_calls h1 h2
theorem ex_lenP {os : List ObR} {l : List Ob} (hl : l = [] ∨ l = [exTurn]) (h : pure_ os = exO l) : (arcsP os).length ≤ 240 := by
 rw [arcsP_q, h, ex_as hl]; decide
theorem exTurn_b : ObB exTurn := ⟨by unfold B63; decide, by unfold B63; decide, by unfold B63; decide⟩
theorem ex_turn {w : World} {b1 b2 : Nat} {T1 T2 : TypeId} (h1 : w.heap[b1]? = some (.cells #[vS [118], vS [98], vS [119]] T1 (0, 0))) (h2 : w.heap[b2]? = some (.cells #[vS [116], vI 5, vI 0, vI 0, vL (some ⟨b1, 0, none⟩) 3 3, vL none 0 0] T2 (0, 0))) : ∃ L : List ObR, ObsV w (vL (some ⟨b2, 0, none⟩) 1 1) L ∧ pure_ L = [exTurn] ∧ L.length ≤ 1000000 := by
 refine ⟨[⟨exTurn, some ⟨b1, 0, none⟩, 3, none, 0⟩], ⟨(src_lit (f := obL) (c := 6) h2 [⟨exTurn, some ⟨b1, 0, none⟩, 3, none, 0⟩] 1 (fun _ => rfl) rfl rfl).src, fun b hb => ?_⟩, rfl, show 1 ≤ 1000000 by decide⟩
 rw [List.mem_singleton] at hb
 subst hb
 exact ⟨src_lit (f := stL) (c := 1) h1 _ 3 (fun _ => rfl) rfl rfl, ⟨Nat.le_refl _, Nat.zero_le _, .inl rfl, fun _ => rfl⟩, exTurn_b⟩
theorem head_calls {w : World} (hTe : Te w) : Calls Tryz.prog 9 #[] w fun e w' => e = .returned (vB true) ∧ Fr (fun _ => False) w w' := by
 refine beg Tryz.func9 rfl rfl [] rfl rfl fun Φ hΦ => ?_
 have hM := Mm.nil (fun _ => False) w
 refine newm 1 0 14 [] (cs := #[vS [118], vS [98], vS [119]]) (T := 9) (v := fun b => vL (some ⟨b, 0, none⟩) 3 3) f0 hM fun b484 w1 hM => varm 1 2 1 [(15, .agg #[vS [116], vI 5, vI 0, vI 0, vL (some ⟨b484, 0, none⟩) 3 3, vL none 0 0])] [] 64 (.agg #[vS [116], vI 5, vI 0, vI 0, vL (some ⟨b484, 0, none⟩) 3 3, vL none 0 0]) f0 hM fun b485 w1 hM => calk 2 0 17 [] (K := fun u w8 => ∃ v os, u = .agg #[v] ∧ ObsV w8 v os ∧ pure_ os = exO []) f0 hM ((example_calls (L := []) ⟨Src.nil _, fun _ h => by cases h⟩ (by decide)).mono fun e w8 ⟨v, os, h1, h2, h3, h4⟩ => ⟨⟨_, h1, v, os, rfl, h2, h3⟩, h4⟩) fun u w1 ⟨v486, os486, hu, hO486, hp486⟩ hM f1 => ?_
 subst hu
 replace hM : Mm (fun _ => False) w w1 [bk b484 #[vS [118], vS [98], vS [119]] 9, bk b485 #[vS [116], vI 5, vI 0, vI 0, vL (some ⟨b484, 0, none⟩) 3 3, vL none 0 0] 64] := hM
 refine calM 2 1 18 [] (K := fun u Mn => ∃ v1 v2, u = .tuple #[.agg #[v1, v2], vI 0] ∧ Mn = [rw_ stL 1 9 v1 [[97], [98]], rw_ inL 1 3 v2 [10, 13]]) [0, 1] [] f0 hM rfl rfl (by decide) (fun hm => ((trip_calls (prof := car) (f := [97]) (g := [98]) hO486 (by decide) (by unfold B63; decide) (fun _ => ex_lenP (.inl rfl) hp486) (hTe.fr hM.fr) 10).mono fun e w8 ⟨v1, v2, c, nd, mi, h1, h2, h3⟩ => by obtain ⟨rfl, rfl, rfl⟩ := exT1 (trip_ex hp486 h2); exact ⟨_, _, h1, ⟨v1, v2, rfl, rfl⟩, Mm_wk h3 fun _ h => h.elim⟩)) fun u Mn w1 hK hM => ?_
 obtain ⟨v1487, v2487, rfl, rfl⟩ := hK
 obtain ⟨qm487, cm487, em487, sm487⟩ := (hM.src (j := 3) rfl inT.len).op
 subst em487
 obtain ⟨qn487, cn487, en487, sn487⟩ := (hM.src (j := 2) rfl stT.len).op
 subst en487
 replace hM : Mm (fun _ => False) w w1 [bk b484 #[vS [118], vS [98], vS [119]] 9, bk b485 #[vS [116], vI 5, vI 0, vI 0, vL (some ⟨b484, 0, none⟩) 3 3, vL none 0 0] 64, rw_ stL 1 9 (vL qn487 2 cn487) [[97], [98]], rw_ inL 1 3 (vL qm487 2 cm487) [10, 13]] := hM
 refine varm 2 5 2 [(19, .agg #[vL qn487 2 cn487, vL qm487 2 cm487]), (20, vI 0)] [] 31 (.agg #[vL qn487 2 cn487, vL qm487 2 cm487]) f0 hM fun b488 w1 hM => calk 3 0 22 [(3, vI 0)] (K := fun u w8 => ∃ v os, u = .agg #[v] ∧ ObsV w8 v os ∧ pure_ os = exO []) f0 hM ((example_calls (L := []) ⟨Src.nil _, fun _ h => by cases h⟩ (by decide)).mono fun e w8 ⟨v, os, h1, h2, h3, h4⟩ => ⟨⟨_, h1, v, os, rfl, h2, h3⟩, h4⟩) fun u w1 ⟨v489, os489, hu, hO489, hp489⟩ hM f1 => ?_
 subst hu
 replace hM : Mm (fun _ => False) w w1 [bk b484 #[vS [118], vS [98], vS [119]] 9, bk b485 #[vS [116], vI 5, vI 0, vI 0, vL (some ⟨b484, 0, none⟩) 3 3, vL none 0 0] 64, rw_ stL 1 9 (vL qn487 2 cn487) [[97], [98]], rw_ inL 1 3 (vL qm487 2 cm487) [10, 13], bk b488 #[vL qn487 2 cn487, vL qm487 2 cm487] 31] := hM
 refine calM 3 1 23 [] (K := fun u Mn => ∃ v1 v2, u = .tuple #[.agg #[v1, v2], vI 0] ∧ Mn = [rw_ stL 1 9 v1 [[97], [98], [99]], rw_ inL 1 3 v2 [10, 13, 64]]) [0, 1, 2, 3, 4] [] f0 hM rfl rfl (by decide) (fun hm => ((trip_calls (prof := car) (f := [97]) (g := [99]) hO489 (by decide) (by unfold B63; decide) (fun _ => ex_lenP (.inl rfl) hp489) (hTe.fr hM.fr) 10).mono fun e w8 ⟨v1, v2, c, nd, mi, h1, h2, h3⟩ => by obtain ⟨rfl, rfl, rfl⟩ := exT2 (trip_ex hp489 h2); exact ⟨_, _, h1, ⟨v1, v2, rfl, rfl⟩, Mm_wk h3 fun _ h => h.elim⟩)) fun u Mn w1 hK hM => ?_
 obtain ⟨v1490, v2490, rfl, rfl⟩ := hK
 obtain ⟨qm490, cm490, em490, sm490⟩ := (hM.src (j := 6) rfl inT.len).op
 subst em490
 obtain ⟨qn490, cn490, en490, sn490⟩ := (hM.src (j := 5) rfl stT.len).op
 subst en490
 replace hM : Mm (fun _ => False) w w1 [bk b484 #[vS [118], vS [98], vS [119]] 9, bk b485 #[vS [116], vI 5, vI 0, vI 0, vL (some ⟨b484, 0, none⟩) 3 3, vL none 0 0] 64, rw_ stL 1 9 (vL qn487 2 cn487) [[97], [98]], rw_ inL 1 3 (vL qm487 2 cm487) [10, 13], bk b488 #[vL qn487 2 cn487, vL qm487 2 cm487] 31, rw_ stL 1 9 (vL qn490 3 cn490) [[97], [98], [99]], rw_ inL 1 3 (vL qm490 3 cm490) [10, 13, 64]] := hM
 refine varm 3 5 4 [(24, .agg #[vL qn490 3 cn490, vL qm490 3 cm490]), (25, vI 0)] [] 31 (.agg #[vL qn490 3 cn490, vL qm490 3 cm490]) f0 hM fun b491 w1 hM => newm 4 1 28 [(5, vI 0), (27, .agg #[vS [116], vI 5, vI 0, vI 0, vL (some ⟨b484, 0, none⟩) 3 3, vL none 0 0])] (cs := #[vS [116], vI 5, vI 0, vI 0, vL (some ⟨b484, 0, none⟩) 3 3, vL none 0 0]) (T := 64) (v := fun b => vL (some ⟨b, 0, none⟩) 1 1) (fc (lam 64 1 0 6 hM rfl) f0) hM fun b492 w1 hM => ?_
 replace hM : Mm (fun _ => False) w w1 [bk b484 #[vS [118], vS [98], vS [119]] 9, bk b485 #[vS [116], vI 5, vI 0, vI 0, vL (some ⟨b484, 0, none⟩) 3 3, vL none 0 0] 64, rw_ stL 1 9 (vL qn487 2 cn487) [[97], [98]], rw_ inL 1 3 (vL qm487 2 cm487) [10, 13], bk b488 #[vL qn487 2 cn487, vL qm487 2 cm487] 31, rw_ stL 1 9 (vL qn490 3 cn490) [[97], [98], [99]], rw_ inL 1 3 (vL qm490 3 cm490) [10, 13, 64], bk b491 #[vL qn490 3 cn490, vL qm490 3 cm490] 31, bk b492 #[vS [116], vI 5, vI 0, vI 0, vL (some ⟨b484, 0, none⟩) 3 3, vL none 0 0] 64] := hM
 obtain ⟨L493, hL493, hq493, hn493⟩ := ex_turn (b1 := b484) (b2 := b492) (hM.get 0 (e := bk b484 #[vS [118], vS [98], vS [119]] 9) rfl) (hM.get 8 (e := bk b492 #[vS [116], vI 5, vI 0, vI 0, vL (some ⟨b484, 0, none⟩) 3 3, vL none 0 0] 64) rfl)
 refine calk 4 2 29 [] (K := fun u w8 => ∃ v os, u = .agg #[v] ∧ ObsV w8 v os ∧ pure_ os = exO (pure_ L493)) f0 hM ((example_calls hL493 hn493).mono fun e w8 ⟨v, os, h1, h2, h3, h4⟩ => ⟨⟨_, h1, v, os, rfl, h2, h3⟩, h4⟩) fun u w1 ⟨v493, os493, hu, hO493, hp493⟩ hM f1 => ?_
 subst hu
 replace hM : Mm (fun _ => False) w w1 [bk b484 #[vS [118], vS [98], vS [119]] 9, bk b485 #[vS [116], vI 5, vI 0, vI 0, vL (some ⟨b484, 0, none⟩) 3 3, vL none 0 0] 64, rw_ stL 1 9 (vL qn487 2 cn487) [[97], [98]], rw_ inL 1 3 (vL qm487 2 cm487) [10, 13], bk b488 #[vL qn487 2 cn487, vL qm487 2 cm487] 31, rw_ stL 1 9 (vL qn490 3 cn490) [[97], [98], [99]], rw_ inL 1 3 (vL qm490 3 cm490) [10, 13, 64], bk b491 #[vL qn490 3 cn490, vL qm490 3 cm490] 31, bk b492 #[vS [116], vI 5, vI 0, vI 0, vL (some ⟨b484, 0, none⟩) 3 3, vL none 0 0] 64] := hM
 rw [hq493] at hp493
 refine calM 4 3 30 [] (K := fun u Mn => ∃ v1 v2, u = .tuple #[.agg #[v1, v2], vI 12] ∧ Mn = [rw_ stL 1 9 v1 [], rw_ inL 1 3 v2 []]) [0, 1, 2, 3, 4, 5, 6, 7, 8] [] f0 hM rfl rfl (by decide) (fun hm => ((trip_calls (prof := car) (f := [97]) (g := [99]) hO493 (by decide) (by unfold B63; decide) (fun _ => ex_lenP (.inr rfl) hp493) (hTe.fr hM.fr) 10).mono fun e w8 ⟨v1, v2, c, nd, mi, h1, h2, h3⟩ => by obtain ⟨rfl, rfl, rfl⟩ := exT3 (trip_ex hp493 h2); exact ⟨_, _, h1, ⟨v1, v2, rfl, rfl⟩, Mm_wk h3 fun _ h => h.elim⟩)) fun u Mn w1 hK hM => ?_
 obtain ⟨v1494, v2494, rfl, rfl⟩ := hK
 obtain ⟨qm494, cm494, em494, sm494⟩ := (hM.src (j := 10) rfl inT.len).op
 subst em494
 obtain ⟨qn494, cn494, en494, sn494⟩ := (hM.src (j := 9) rfl stT.len).op
 subst en494
 replace hM : Mm (fun _ => False) w w1 [bk b484 #[vS [118], vS [98], vS [119]] 9, bk b485 #[vS [116], vI 5, vI 0, vI 0, vL (some ⟨b484, 0, none⟩) 3 3, vL none 0 0] 64, rw_ stL 1 9 (vL qn487 2 cn487) [[97], [98]], rw_ inL 1 3 (vL qm487 2 cm487) [10, 13], bk b488 #[vL qn487 2 cn487, vL qm487 2 cm487] 31, rw_ stL 1 9 (vL qn490 3 cn490) [[97], [98], [99]], rw_ inL 1 3 (vL qm490 3 cm490) [10, 13, 64], bk b491 #[vL qn490 3 cn490, vL qm490 3 cm490] 31, bk b492 #[vS [116], vI 5, vI 0, vI 0, vL (some ⟨b484, 0, none⟩) 3 3, vL none 0 0] 64, rw_ stL 1 9 (vL qn494 0 cn494) [], rw_ inL 1 3 (vL qm494 0 cm494) []] := hM
 refine varm 4 7 6 [(31, .agg #[vL qn494 0 cn494, vL qm494 0 cm494]), (32, vI 12)] [] 31 (.agg #[vL qn494 0 cn494, vL qm494 0 cm494]) f0 hM fun b495 w1 hM => newm 5 1 35 [(7, vI 12), (34, .agg #[vS [116], vI 5, vI 0, vI 0, vL (some ⟨b484, 0, none⟩) 3 3, vL none 0 0])] (cs := #[vS [116], vI 5, vI 0, vI 0, vL (some ⟨b484, 0, none⟩) 3 3, vL none 0 0]) (T := 64) (v := fun b => vL (some ⟨b, 0, none⟩) 1 1) (fc (lam 64 1 0 6 hM rfl) f0) hM fun b496 w1 hM => ?_
 replace hM : Mm (fun _ => False) w w1 [bk b484 #[vS [118], vS [98], vS [119]] 9, bk b485 #[vS [116], vI 5, vI 0, vI 0, vL (some ⟨b484, 0, none⟩) 3 3, vL none 0 0] 64, rw_ stL 1 9 (vL qn487 2 cn487) [[97], [98]], rw_ inL 1 3 (vL qm487 2 cm487) [10, 13], bk b488 #[vL qn487 2 cn487, vL qm487 2 cm487] 31, rw_ stL 1 9 (vL qn490 3 cn490) [[97], [98], [99]], rw_ inL 1 3 (vL qm490 3 cm490) [10, 13, 64], bk b491 #[vL qn490 3 cn490, vL qm490 3 cm490] 31, bk b492 #[vS [116], vI 5, vI 0, vI 0, vL (some ⟨b484, 0, none⟩) 3 3, vL none 0 0] 64, rw_ stL 1 9 (vL qn494 0 cn494) [], rw_ inL 1 3 (vL qm494 0 cm494) [], bk b495 #[vL qn494 0 cn494, vL qm494 0 cm494] 31, bk b496 #[vS [116], vI 5, vI 0, vI 0, vL (some ⟨b484, 0, none⟩) 3 3, vL none 0 0] 64] := hM
 obtain ⟨L497, hL497, hq497, hn497⟩ := ex_turn (b1 := b484) (b2 := b496) (hM.get 0 (e := bk b484 #[vS [118], vS [98], vS [119]] 9) rfl) (hM.get 12 (e := bk b496 #[vS [116], vI 5, vI 0, vI 0, vL (some ⟨b484, 0, none⟩) 3 3, vL none 0 0] 64) rfl)
 refine calk 5 2 36 [] (K := fun u w8 => ∃ v os, u = .agg #[v] ∧ ObsV w8 v os ∧ pure_ os = exO (pure_ L497)) f0 hM ((example_calls hL497 hn497).mono fun e w8 ⟨v, os, h1, h2, h3, h4⟩ => ⟨⟨_, h1, v, os, rfl, h2, h3⟩, h4⟩) fun u w1 ⟨v497, os497, hu, hO497, hp497⟩ hM f1 => ?_
 subst hu
 replace hM : Mm (fun _ => False) w w1 [bk b484 #[vS [118], vS [98], vS [119]] 9, bk b485 #[vS [116], vI 5, vI 0, vI 0, vL (some ⟨b484, 0, none⟩) 3 3, vL none 0 0] 64, rw_ stL 1 9 (vL qn487 2 cn487) [[97], [98]], rw_ inL 1 3 (vL qm487 2 cm487) [10, 13], bk b488 #[vL qn487 2 cn487, vL qm487 2 cm487] 31, rw_ stL 1 9 (vL qn490 3 cn490) [[97], [98], [99]], rw_ inL 1 3 (vL qm490 3 cm490) [10, 13, 64], bk b491 #[vL qn490 3 cn490, vL qm490 3 cm490] 31, bk b492 #[vS [116], vI 5, vI 0, vI 0, vL (some ⟨b484, 0, none⟩) 3 3, vL none 0 0] 64, rw_ stL 1 9 (vL qn494 0 cn494) [], rw_ inL 1 3 (vL qm494 0 cm494) [], bk b495 #[vL qn494 0 cn494, vL qm494 0 cm494] 31, bk b496 #[vS [116], vI 5, vI 0, vI 0, vL (some ⟨b484, 0, none⟩) 3 3, vL none 0 0] 64] := hM
 rw [hq497] at hp497
 refine calM 5 3 37 [] (K := fun u Mn => ∃ v1 v2, u = .tuple #[.agg #[v1, v2], vI 0] ∧ Mn = [rw_ stL 1 9 v1 [[97], [98], [99]], rw_ inL 1 3 v2 [10, 13, 64]]) [0, 1, 2, 3, 4, 5, 6, 7, 8, 9, 10, 11, 12] [] f0 hM rfl rfl (by decide) (fun hm => ((trip_calls (prof := foot) (f := [97]) (g := [99]) hO497 (by decide) (by unfold B63; decide) (fun _ => ex_lenP (.inr rfl) hp497) (hTe.fr hM.fr) 10).mono fun e w8 ⟨v1, v2, c, nd, mi, h1, h2, h3⟩ => by obtain ⟨rfl, rfl, rfl⟩ := exT4 (trip_ex hp497 h2); exact ⟨_, _, h1, ⟨v1, v2, rfl, rfl⟩, Mm_wk h3 fun _ h => h.elim⟩)) fun u Mn w1 hK hM => ?_
 obtain ⟨v1498, v2498, rfl, rfl⟩ := hK
 obtain ⟨qm498, cm498, em498, sm498⟩ := (hM.src (j := 14) rfl inT.len).op
 subst em498
 obtain ⟨qn498, cn498, en498, sn498⟩ := (hM.src (j := 13) rfl stT.len).op
 subst en498
 replace hM : Mm (fun _ => False) w w1 [bk b484 #[vS [118], vS [98], vS [119]] 9, bk b485 #[vS [116], vI 5, vI 0, vI 0, vL (some ⟨b484, 0, none⟩) 3 3, vL none 0 0] 64, rw_ stL 1 9 (vL qn487 2 cn487) [[97], [98]], rw_ inL 1 3 (vL qm487 2 cm487) [10, 13], bk b488 #[vL qn487 2 cn487, vL qm487 2 cm487] 31, rw_ stL 1 9 (vL qn490 3 cn490) [[97], [98], [99]], rw_ inL 1 3 (vL qm490 3 cm490) [10, 13, 64], bk b491 #[vL qn490 3 cn490, vL qm490 3 cm490] 31, bk b492 #[vS [116], vI 5, vI 0, vI 0, vL (some ⟨b484, 0, none⟩) 3 3, vL none 0 0] 64, rw_ stL 1 9 (vL qn494 0 cn494) [], rw_ inL 1 3 (vL qm494 0 cm494) [], bk b495 #[vL qn494 0 cn494, vL qm494 0 cm494] 31, bk b496 #[vS [116], vI 5, vI 0, vI 0, vL (some ⟨b484, 0, none⟩) 3 3, vL none 0 0] 64, rw_ stL 1 9 (vL qn498 3 cn498) [[97], [98], [99]], rw_ inL 1 3 (vL qm498 3 cm498) [10, 13, 64]] := hM
 refine varm 5 7 8 [(38, .agg #[vL qn498 3 cn498, vL qm498 3 cm498]), (39, vI 0)] [] 31 (.agg #[vL qn498 3 cn498, vL qm498 3 cm498]) f0 hM fun b499 w1 hM => calk 6 0 41 [(9, vI 0)] (K := fun u w8 => ∃ v os, u = .agg #[v] ∧ ObsV w8 v os ∧ pure_ os = exO []) f0 hM ((example_calls (L := []) ⟨Src.nil _, fun _ h => by cases h⟩ (by decide)).mono fun e w8 ⟨v, os, h1, h2, h3, h4⟩ => ⟨⟨_, h1, v, os, rfl, h2, h3⟩, h4⟩) fun u w1 ⟨v500, os500, hu, hO500, hp500⟩ hM f1 => ?_
 subst hu
 replace hM : Mm (fun _ => False) w w1 [bk b484 #[vS [118], vS [98], vS [119]] 9, bk b485 #[vS [116], vI 5, vI 0, vI 0, vL (some ⟨b484, 0, none⟩) 3 3, vL none 0 0] 64, rw_ stL 1 9 (vL qn487 2 cn487) [[97], [98]], rw_ inL 1 3 (vL qm487 2 cm487) [10, 13], bk b488 #[vL qn487 2 cn487, vL qm487 2 cm487] 31, rw_ stL 1 9 (vL qn490 3 cn490) [[97], [98], [99]], rw_ inL 1 3 (vL qm490 3 cm490) [10, 13, 64], bk b491 #[vL qn490 3 cn490, vL qm490 3 cm490] 31, bk b492 #[vS [116], vI 5, vI 0, vI 0, vL (some ⟨b484, 0, none⟩) 3 3, vL none 0 0] 64, rw_ stL 1 9 (vL qn494 0 cn494) [], rw_ inL 1 3 (vL qm494 0 cm494) [], bk b495 #[vL qn494 0 cn494, vL qm494 0 cm494] 31, bk b496 #[vS [116], vI 5, vI 0, vI 0, vL (some ⟨b484, 0, none⟩) 3 3, vL none 0 0] 64, rw_ stL 1 9 (vL qn498 3 cn498) [[97], [98], [99]], rw_ inL 1 3 (vL qm498 3 cm498) [10, 13, 64], bk b499 #[vL qn498 3 cn498, vL qm498 3 cm498] 31] := hM
 refine calM 6 1 42 [] (K := fun u Mn => ∃ v1, u = .tuple #[v1, vI 0] ∧ Mn = [rw_ rwL 2 56 v1 [([97], 0), ([98], 3), ([99], 54)]]) [0, 1, 2, 3, 4, 5, 6, 7, 8, 9, 10, 11, 12, 13, 14, 15] [] f0 hM rfl rfl (by decide) (fun hm => ((reach_calls (prof := car) (f := [97]) hO500 (by decide) (by unfold B63; decide) (fun _ => ex_lenP (.inl rfl) hp500) (by have := congrArg List.length hp500; rw [pure_len] at this; rw [this]; decide) (hTe.fr hM.fr) 54 10).mono fun e w8 ⟨v1, c, rows, h1, h2, h3⟩ => by obtain ⟨rfl, rfl⟩ := exR (reach_ex hp500 h2); exact ⟨_, _, h1, ⟨v1, rfl, rfl⟩, Mm_wk h3 fun _ h => h.elim⟩)) fun u Mn w1 hK hM => ?_
 obtain ⟨v1501, rfl, rfl⟩ := hK
 obtain ⟨qn501, cn501, en501, sn501⟩ := (hM.src (j := 16) rfl rwT.len).op
 subst en501
 replace hM : Mm (fun _ => False) w w1 [bk b484 #[vS [118], vS [98], vS [119]] 9, bk b485 #[vS [116], vI 5, vI 0, vI 0, vL (some ⟨b484, 0, none⟩) 3 3, vL none 0 0] 64, rw_ stL 1 9 (vL qn487 2 cn487) [[97], [98]], rw_ inL 1 3 (vL qm487 2 cm487) [10, 13], bk b488 #[vL qn487 2 cn487, vL qm487 2 cm487] 31, rw_ stL 1 9 (vL qn490 3 cn490) [[97], [98], [99]], rw_ inL 1 3 (vL qm490 3 cm490) [10, 13, 64], bk b491 #[vL qn490 3 cn490, vL qm490 3 cm490] 31, bk b492 #[vS [116], vI 5, vI 0, vI 0, vL (some ⟨b484, 0, none⟩) 3 3, vL none 0 0] 64, rw_ stL 1 9 (vL qn494 0 cn494) [], rw_ inL 1 3 (vL qm494 0 cm494) [], bk b495 #[vL qn494 0 cn494, vL qm494 0 cm494] 31, bk b496 #[vS [116], vI 5, vI 0, vI 0, vL (some ⟨b484, 0, none⟩) 3 3, vL none 0 0] 64, rw_ stL 1 9 (vL qn498 3 cn498) [[97], [98], [99]], rw_ inL 1 3 (vL qm498 3 cm498) [10, 13, 64], bk b499 #[vL qn498 3 cn498, vL qm498 3 cm498] 31, rw_ rwL 2 56 (vL qn501 3 cn501) [([97], 0), ([98], 3), ([99], 54)]] := hM
 refine newm 7 0 45 [(10, vL qn501 3 cn501), (11, vI 0)] (cs := #[vS [97], vS [98], vS [99]]) (T := 9) (v := fun b => vL (some ⟨b, 0, none⟩) 3 3) f0 hM fun b502 w1 hM => newm 7 1 46 [] (cs := #[vI 10, vI 13, vI 64]) (T := 3) (v := fun b => vL (some ⟨b, 0, none⟩) 3 3) f0 hM fun b503 w1 hM => calm 7 2 47 [] f0 hM (mktrip_calls (some ⟨b502, 0, none⟩) (some ⟨b503, 0, none⟩) 3 3 3 3) fun w1 hM => varm 7 3 12 [] [] 31 (.agg #[vL (some ⟨b502, 0, none⟩) 3 3, vL (some ⟨b503, 0, none⟩) 3 3]) f0 hM fun b504 w1 hM => ?_
 have hM := hM.pick [2, 3, 4, 5, 6, 7, 13, 14, 15, 16, 17, 18, 19]
 replace hM : Mm (fun _ => False) w w1 [rw_ stL 1 9 (vL qn487 2 cn487) [[97], [98]], rw_ inL 1 3 (vL qm487 2 cm487) [10, 13], bk b488 #[vL qn487 2 cn487, vL qm487 2 cm487] 31, rw_ stL 1 9 (vL qn490 3 cn490) [[97], [98], [99]], rw_ inL 1 3 (vL qm490 3 cm490) [10, 13, 64], bk b491 #[vL qn490 3 cn490, vL qm490 3 cm490] 31, rw_ stL 1 9 (vL qn498 3 cn498) [[97], [98], [99]], rw_ inL 1 3 (vL qm498 3 cm498) [10, 13, 64], bk b499 #[vL qn498 3 cn498, vL qm498 3 cm498] 31, rw_ rwL 2 56 (vL qn501 3 cn501) [([97], 0), ([98], 3), ([99], 54)], bk b502 #[vS [97], vS [98], vS [99]] 9, bk b503 #[vI 10, vI 13, vI 64] 3, bk b504 #[vL (some ⟨b502, 0, none⟩) 3 3, vL (some ⟨b503, 0, none⟩) 3 3] 31] := hM
 refine seg 8 0 [] f0 ?_
 have hM := hM.nl
 have hM := hM.nl
 refine drx [4, 5, 7] (fun γ => [some (vL (some ⟨(bn (γ 0)), 0, none⟩) 2 2), some (vL (some ⟨(bn (γ 1)), 0, none⟩) 2 2), some (vB true)]) _ (fun γ l => [rw_ stL 1 9 (vL qn487 2 cn487) [[97], [98]], rw_ inL 1 3 (vL qm487 2 cm487) [10, 13], bk b488 #[vL qn487 2 cn487, vL qm487 2 cm487] 31, rw_ stL 1 9 (vL qn490 3 cn490) [[97], [98], [99]], rw_ inL 1 3 (vL qm490 3 cm490) [10, 13, 64], bk b491 #[vL qn490 3 cn490, vL qm490 3 cm490] 31, rw_ stL 1 9 (vL qn498 3 cn498) [[97], [98], [99]], rw_ inL 1 3 (vL qm498 3 cm498) [10, 13, 64], bk b499 #[vL qn498 3 cn498, vL qm498 3 cm498] 31, rw_ rwL 2 56 (vL qn501 3 cn501) [([97], 0), ([98], 3), ([99], 54)], bk b502 #[vS [97], vS [98], vS [99]] 9, bk b503 #[vI 10, vI 13, vI 64] 3, bk b504 #[vL (some ⟨b502, 0, none⟩) 3 3, vL (some ⟨b503, 0, none⟩) 3 3] 31, (bif l.getD 0 false then bk (bn (γ 0)) #[vS [97], vS [98]] 9 else nilE), (bif l.getD 1 false then bk (bn (γ 1)) #[vI 10, vI 13] 3 else nilE)]) (fun γ => [(13, vB true)]) hM (fun γ => rfl) (fun γ l w5 hM => (fc (lam 31 2 0 2 hM rfl) (fc (tcl (mktrip_calls (some ⟨(bn (γ 0)), 0, none⟩) (some ⟨(bn (γ 1)), 0, none⟩) 2 2 2 2)) (fc (lam 31 5 0 2 hM rfl) (fc (lam 31 12 0 2 hM rfl) (fc (tcl (same_eq rfl rfl rfl rfl ((hM.src (j := 3) rfl stT.len).p).2 ((hM.src (j := 4) rfl inT.len).p).2 (src_lit (f := stL) (c := 1) (b := b502) (hM.get 10 (e := bk b502 #[vS [97], vS [98], vS [99]] 9) (by kernel_rfl)) [[97], [98], [99]] 3 (fun _ => rfl) rfl rfl) (src_lit (f := inL) (c := 1) (b := b503) (hM.get 11 (e := bk b503 #[vI 10, vI 13, vI 64] 3) (by kernel_rfl)) [10, 13, 64] 3 (fun _ => rfl) rfl rfl))) (fc (lam 31 8 0 2 hM rfl) (fc (lam 31 12 0 2 hM rfl) (fc (tcl (same_eq rfl rfl rfl rfl ((hM.src (j := 6) rfl stT.len).p).2 ((hM.src (j := 7) rfl inT.len).p).2 (src_lit (f := stL) (c := 1) (b := b502) (hM.get 10 (e := bk b502 #[vS [97], vS [98], vS [99]] 9) (by kernel_rfl)) [[97], [98], [99]] 3 (fun _ => rfl) rfl rfl) (src_lit (f := inL) (c := 1) (b := b503) (hM.get 11 (e := bk b503 #[vI 10, vI 13, vI 64] 3) (by kernel_rfl)) [10, 13, 64] 3 (fun _ => rfl) rfl rfl))) f0))))))))) ⟨ar_new 0 4 13 52 (fun γ => #[vS [97], vS [98]]) 9 (fun b => vL (some ⟨b, 0, none⟩) 2 2), ar_new 1 5 14 53 (fun γ => #[vI 10, vI 13]) 3 (fun b => vL (some ⟨b, 0, none⟩) 2 2), ar_calq 2 7 55 (f := 16) (fun γ => #[.agg #[vL qn487 2 cn487, vL qm487 2 cm487], .agg #[vL (some ⟨(bn (γ 0)), 0, none⟩) 2 2, vL (some ⟨(bn (γ 1)), 0, none⟩) 2 2]]) (vB true) (fun γ fr wm hM => (same_eq rfl rfl rfl rfl ((hM.src (j := 0) rfl stT.len).p).2 ((hM.src (j := 1) rfl inT.len).p).2 (src_lit (f := stL) (c := 1) (b := (bn (γ 0))) (hM.get 13 (e := bk (bn (γ 0)) #[vS [97], vS [98]] 9) (by kernel_rfl)) [[97], [98]] 2 (fun _ => rfl) rfl rfl) (src_lit (f := inL) (c := 1) (b := (bn (γ 1))) (hM.get 14 (e := bk (bn (γ 1)) #[vI 10, vI 13] 3) (by kernel_rfl)) [10, 13] 2 (fun _ => rfl) rfl rfl))), trivial⟩ fun γ505 w1 hM => ?_
 replace hM : Mm (fun _ => False) w w1 [rw_ stL 1 9 (vL qn487 2 cn487) [[97], [98]], rw_ inL 1 3 (vL qm487 2 cm487) [10, 13], bk b488 #[vL qn487 2 cn487, vL qm487 2 cm487] 31, rw_ stL 1 9 (vL qn490 3 cn490) [[97], [98], [99]], rw_ inL 1 3 (vL qm490 3 cm490) [10, 13, 64], bk b491 #[vL qn490 3 cn490, vL qm490 3 cm490] 31, rw_ stL 1 9 (vL qn498 3 cn498) [[97], [98], [99]], rw_ inL 1 3 (vL qm498 3 cm498) [10, 13, 64], bk b499 #[vL qn498 3 cn498, vL qm498 3 cm498] 31, rw_ rwL 2 56 (vL qn501 3 cn501) [([97], 0), ([98], 3), ([99], 54)], bk b502 #[vS [97], vS [98], vS [99]] 9, bk b503 #[vI 10, vI 13, vI 64] 3, bk b504 #[vL (some ⟨b502, 0, none⟩) 3 3, vL (some ⟨b503, 0, none⟩) 3 3] 31, bk (bn (γ505 0)) #[vS [97], vS [98]] 9, bk (bn (γ505 1)) #[vI 10, vI 13] 3] := hM
 refine newm 9 10 89 [(84, vB true), (85, vL qn501 3 cn501), (86, .agg #[vS [97], vI 0]), (87, .agg #[vS [98], vI 3]), (88, .agg #[vS [99], vI 54])] (cs := #[vS [97], vI 0, vS [98], vI 3, vS [99], vI 54]) (T := 56) (v := fun b => vL (some ⟨b, 0, none⟩) 3 3) f0 hM fun b506 w1 hM => calm 9 11 90 [] f0 hM (rows_eq rfl rfl ((hM.src (j := 9) rfl rwT.len).p).2 (src_lit (f := rwL) (c := 2) (b := b506) (hM.get 15 (e := bk b506 #[vS [97], vI 0, vS [98], vI 3, vS [99], vI 54] 56) (by kernel_rfl)) [([97], 0), ([98], 3), ([99], 54)] 3 (fun _ => rfl) rfl rfl)) fun w1 hM => rt1 0 (vB true) rfl f0 (hΦ _ _ ⟨rfl, hM.fr⟩)
end Go.Proofs.YtbflfefahheidaaGreatDoor
/- Who starts later does not arrive before, plain. -/
set_option linter.unusedVariables false
set_option linter.unusedSimpArgs false
namespace Go.Proofs.YtbflfefahheidaaGreatDoor
open Go.RowKit Go.Pl
/-! ### valid maps -/
theorem blt_irrefl (a : Bys) : blt a a = false := by
 have := bl_tri a a
 cases h : Op.bytesLess a a with
 | false => exact h
 | true => rw [h] at this; simp at this
theorem bl_trans : ∀ {a b c : List UInt8}, Op.bytesLess a b = true → Op.bytesLess b c = true → Op.bytesLess a c = true
 | [], _, [], h, k => by
  rename_i b; cases b <;> simp [Op.bytesLess] at k
 | [], _, _ :: _, _, _ => by simp [Op.bytesLess]
 | _ :: _, [], _, h, _ => by simp [Op.bytesLess] at h
 | _ :: _, _ :: _, [], _, k => by simp [Op.bytesLess] at k
 | x :: a, y :: b, z :: c, h, k => by
  unfold Op.bytesLess at h k ⊢
  by_cases h1 : x < y
  ·by_cases k1 : y < z
   ·simp [UInt8.lt_trans h1 k1]
   ·by_cases e : y = z
    ·subst e; simp [h1]
    ·simp [k1, e] at k
  ·by_cases e : x = y
   ·subst e
    simp at h
    by_cases k1 : x < z
    ·simp [k1]
    ·by_cases e2 : x = z
     ·subst e2
      simp at k
      simpa using bl_trans h k
     ·simp [k1, e2] at k
   ·simp [h1, e] at h
theorem blt_trans {a b c : Bys} (h : blt a b = true) (k : blt b c = true) : blt a c = true := bl_trans h k
theorem mapT_pw {k : Bys} : ∀ {l : List Ob}, mapT k l = true → (∀ o ∈ l, blt k o.id = true) ∧ l.Pairwise fun x y => blt x.id y.id = true
 | [], _ => ⟨fun _ h => (by cases h), .nil⟩
 | o :: l, h => by
  unfold mapT at h
  simp only [Bool.and_eq_true] at h
  obtain ⟨h1, h2⟩ := mapT_pw (l := l) h.2
  refine ⟨fun x hx => ?_, List.pairwise_cons.2 ⟨h1, h2⟩⟩
  rcases List.mem_cons.1 hx with rfl | hx
  ·exact h.1.2
  ·exact blt_trans h.1.2 (h1 x hx)
theorem valid_pw {l : List Ob} (h : validMap l = true) : l.Pairwise fun x y => blt x.id y.id = true := by
 unfold validMap at h
 rw [Bool.and_eq_true] at h
 exact (mapT_pw h.1).2
theorem pw_uniq {l : List Ob} (h : l.Pairwise fun x y => blt x.id y.id = true) {a b : Ob} (ha : a ∈ l) (hb : b ∈ l) (e : a.id = b.id) : a = b := by
 obtain ⟨i, hi, rfl⟩ := List.mem_iff_getElem.1 ha
 obtain ⟨j, hj, rfl⟩ := List.mem_iff_getElem.1 hb
 rcases Nat.lt_trichotomy i j with q | q | q
 ·have := List.pairwise_iff_getElem.1 h i j hi hj q
  rw [e, blt_irrefl] at this; cases this
 ·subst q; rfl
 ·have := List.pairwise_iff_getElem.1 h j i hj hi q
  rw [e, blt_irrefl] at this; cases this
theorem segs_len (l : List Ob) (w : Bys) : ∀ rs : List Bys, (segs l w rs).length ≤ 2 * rs.length
 | [] => by simp [segs]
 | [_] => by simp [segs]
 | a :: b :: t => by
  have := segs_len l w (b :: t)
  unfold segs
  simp only [List.length_cons] at this ⊢
  omega
theorem sum_le_two {l : List ObR} {f : ObR → Nat} (h : ∀ b ∈ l, (f b : Int) ≤ 2 * bif b.o.kind == 2 then (b.o.refs.length : Int) else 0) : ((l.map f).sum : Int) ≤ 2 * cntR l := by
 unfold cntR
 induction l with
 | nil => simp
 | cons b l ih =>
  have h1 := h b (.head _)
  have h2 := ih fun c hc => h c (.tail _ hc)
  rw [List.map_cons, List.map_cons, List.sum_cons, List.sum_cons]
  rw [Int.natCast_add, Int.mul_add]
  omega
theorem fewP_arcs {os : List ObR} (h : fewP os = true) (hv : validMap (pure_ os) = true) : (arcsP os).length ≤ 240 := by
 unfold fewP few37 at h
 simp only [Bool.and_eq_true, decide_eq_true_eq] at h
 obtain ⟨_, h1, h2⟩ := h
 rw [List.take_of_length_le (by omega)] at h2
 have hp := valid_pw hv
 unfold arcsP
 rw [List.length_flatMap]
 have := sum_le_two (l := os) (f := fun b => (arcsO os b).length) fun b hb => by
  unfold arcsO
  cases hk : b.o.kind == 2 with
  | false => simp
  | true =>
   simp only [cond_true]
   cases hw : wayB (isNode (pure_ os)) os b.o.id with
   | none => simp; omega
   | some c =>
    obtain ⟨hc, hid, _, _⟩ := wayB_some hw
    have e : c.o = b.o := pw_uniq hp (List.mem_map.2 ⟨c, hc, rfl⟩) (List.mem_map.2 ⟨b, hb, rfl⟩) hid
    have := segs_len (pure_ os) b.o.id c.o.refs
    simp only
    rw [e] at this ⊢
    omega
 omega
theorem fewP_len {os : List ObR} (h : fewP os = true) : os.length ≤ 24 := by
 unfold fewP few37 at h
 simp only [Bool.and_eq_true, decide_eq_true_eq] at h
 omega
theorem fewP_tags {os : List ObR} (h : fewP os = true) : ∀ b ∈ os, b.o.tags.length ≤ 20 := by
 intro b hb
 unfold fewP few13 at h
 simp only [Bool.and_eq_true] at h
 have := List.all_eq_true.1 h.1.2 b.o (List.mem_map.2 ⟨b, hb, rfl⟩)
 unfold fewO at this
 simp only [Bool.and_eq_true, decide_eq_true_eq] at this
 exact this.1.1.1.2
/-! ### the last minute of a trip -/
theorem lastF_spec {A : List Arc} {t : Nat → Option Int} {g : Bys} : ∀ {n : Nat}, n ≤ A.length → match lastF A t g n with
  | none => ∀ k a, k < n → A[k]? = some a → a.2.1 = g → t k = none
  | some i => ∃ a m, A[i]? = some a ∧ a.2.1 = g ∧ t i = some m ∧ ∀ k b m', k < n → A[k]? = some b → b.2.1 = g → t k = some m' → m ≤ m'
 | 0, _ => fun k a hk => absurd hk (Nat.not_lt_zero _)
 | n + 1, hn => by
  have ih := lastF_spec (A := A) (t := t) (g := g) (n := n) (by omega)
  obtain ⟨a, ha⟩ := geb (l := A) (i := n) (by omega)
  rw [lastF_step ha]
  cases hc : ((t n).isSome && (a.2.1 == g) && lastB t (lastF A t g n) n) with
  | true =>
   simp only [cond_true]
   simp only [Bool.and_eq_true] at hc
   obtain ⟨⟨h1, h2⟩, h3⟩ := hc
   obtain ⟨m, hm⟩ := Option.isSome_iff_exists.1 h1
   refine ⟨a, m, ha, et h2, hm, fun k b m' hk hb hg hm' => ?_⟩
   rcases Nat.lt_succ_iff_lt_or_eq.1 hk with hk | rfl
   ·cases hl : lastF A t g n with
    | none => rw [hl] at ih; rw [ih k b hk hb hg] at hm'; cases hm'
    | some j =>
     rw [hl] at ih h3
     obtain ⟨a2, m2, _, _, h6, h7⟩ := ih
     have h8 := h7 k b m' hk hb hg hm'
     have h9 : (t n).getD 0 < (t j).getD 0 := of_decide_eq_true h3
     rw [hm, h6] at h9
     have h9 : m < m2 := h9
     omega
   ·rw [hm] at hm'; cases hm'; exact Int.le_refl _
  | false =>
   simp only [cond_false]
   cases hl : lastF A t g n with
   | none =>
    rw [hl] at ih hc
    intro k b hk hb hg
    rcases Nat.lt_succ_iff_lt_or_eq.1 hk with hk | rfl
    ·exact ih k b hk hb hg
    ·rw [ha] at hb; cases hb
     rw [show (a.2.1 == g) = true by simpa using hg] at hc
     cases ht : t k with
     | none => rfl
     | some m => rw [ht] at hc; cases hc
   | some j =>
    rw [hl] at ih hc
    obtain ⟨a2, m2, h4, h5, h6, h7⟩ := ih
    refine ⟨a2, m2, h4, h5, h6, fun k b m' hk hb hg hm' => ?_⟩
    rcases Nat.lt_succ_iff_lt_or_eq.1 hk with hk | rfl
    ·exact h7 k b m' hk hb hg hm'
    ·rw [ha] at hb; cases hb
     rw [show (a.2.1 == g) = true by simpa using hg, hm'] at hc
     have hc : decide ((t k).getD 0 < (t j).getD 0) = false := hc
     have := of_decide_eq_false hc
     rw [hm', h6] at this
     have : ¬ m' < m2 := this
     omega
/-- Somebody arrives at a node at a minute, and not before. -/
def Arr (N : NetW) (A : List Arc) (m0 : Int) (g : Bys) (x : Int) : Prop := (∃ i a, A[i]? = some a ∧ a.2.1 = g ∧ Rch N m0 i x) ∧ ∀ i a y, A[i]? = some a → a.2.1 = g → Rch N m0 i y → x ≤ y
theorem endO_rev {c : Int} (hc : c = 0) {L : List Int} {x m0 : Int} : endO c ((x :: L) ++ [m0]).reverse = some x := by
 subst hc
 unfold endO
 rw [List.length_reverse, List.length_append, List.length_cons]
 have : (!((0 : Int) == 0) || (((L.length + 1 + [m0].length : Nat) : Int) == 0)) = false := by
  simp only [List.length_singleton, Bool.or_eq_false_iff, Bool.not_eq_false', beq_iff_eq, true_and]
  exact beq_eq_false_iff_ne.2 (by omega)
 rw [this, cond_false, List.getElem?_reverse (by simp)]
 simp
section
variable {prof f g : Bys} {l : List Ob} {m0 c : Int} {nd : List Bys} {mi : List Int}
/-- The three ways of a trip. -/
theorem trip_end (hok : ∀ a ∈ asQ l, ArcB a) (h : TripQ prof l f g m0 c nd mi) :
  (endO c mi = none ∧ mi = [] ∧ ¬ c = 0 ∧ ((¬ chkQ l prof m0 [f, g] = 0 ∧ c = chkQ l prof m0 [f, g]) ∨ (chkQ l prof m0 [f, g] = 0 ∧ c = 12 ∧ f ≠ g ∧ ∀ i a y, (asQ l)[i]? = some a → a.2.1 = g → ¬ Rch (netQ prof l f) m0 i y))) ∨
  (chkQ l prof m0 [f, g] = 0 ∧ c = 0 ∧ ((f = g ∧ endO c mi = some m0 ∧ mi = [m0]) ∨ (f ≠ g ∧ ∃ x, endO c mi = some x ∧ Arr (netQ prof l f) (asQ l) m0 g x))) := by
 rcases h with ⟨h1, rfl, rfl, rfl⟩ | ⟨h1, h2, rfl, rfl, rfl⟩ | ⟨h1, h2, t, hT, h3⟩
 ·refine .inl ⟨?_, rfl, h1, .inl ⟨h1, rfl⟩⟩
  unfold endO; simp
 ·exact .inr ⟨h1, rfl, .inl ⟨h2, rfl, rfl⟩⟩
 ·have h0 := (chkQ_ok h1).2.2.1
  have hN := netQ_ok (prof := prof) hok f
  have hs := lastF_spec (A := asQ l) (t := t) (g := g) (Nat.le_refl _)
  rcases h3 with ⟨h4, rfl, rfl, rfl⟩ | ⟨i, h4, rfl, rfl, rfl⟩
  ·rw [h4] at hs
   refine .inl ⟨rfl, rfl, by decide, .inr ⟨h1, rfl, h2, fun i a y ha hg hr => ?_⟩⟩
   obtain ⟨z, _, hz⟩ := hT.le hN h0 hr
   rw [hs i a (gl ha) ha hg] at hz; cases hz
  ·rw [h4] at hs
   obtain ⟨a, m, ha, hg, hm, hmin⟩ := hs
   refine .inr ⟨h1, rfl, .inr ⟨h2, m, ?_, ⟨i, a, ha, hg, hT.snd _ _ hm⟩, fun k b y hb hg2 hr => ?_⟩⟩
   ·obtain ⟨Tl, hTl⟩ : ∃ Tl, bkP (netQ prof l f) m0 t i = i :: Tl := ⟨_, bkP_eq (befOk_of hN h0 hT) (gl ha)⟩
    rw [hTl, List.map_cons]
    exact (endO_rev rfl).trans (by rw [hm]; rfl)
   ·obtain ⟨z, hz, hz2⟩ := hT.le hN h0 hr
    have := hmin k b z (gl hb) hb hg2 hz2
    omega
end
end Go.Proofs.YtbflfefahheidaaGreatDoor
/- Reach agrees with trips, plain. -/
set_option linter.unusedVariables false
set_option linter.unusedSimpArgs false
namespace Go.Proofs.YtbflfefahheidaaGreatDoor
open Go.RowKit Go.Pl
theorem find_valid {l : List Ob} (hp : l.Pairwise fun x y => blt x.id y.id = true) {o : Ob} (ho : o ∈ l) : ¬ findI l o.id < 0 ∧ kindQ l o.id = o.kind := by
 have hn : ¬ findI l o.id < 0 := by
  unfold findI
  cases h : l.findIdx? (fun x => x.id == o.id) with
  | none => have := List.findIdx?_eq_none_iff.1 h o ho; simp at this
  | some k => show ¬ ((k : Nat) : Int) < 0; omega
 obtain ⟨k, o2, h1, h2, h3⟩ := findI_at hn
 refine ⟨hn, ?_⟩
 unfold kindQ
 rw [h1, Int.toNat_natCast, h2, pw_uniq hp (gm h2) ho h3]
section
variable {prof f g : Bys} {l : List Ob} {n m0 c c2 : Int} {rows : List (Bys × Int)} {nd2 : List Bys} {mi2 : List Int}
end
end Go.Proofs.YtbflfefahheidaaGreatDoor
/- Maps without some of their parts, plain. -/
set_option linter.unusedVariables false
set_option linter.unusedSimpArgs false
namespace Go.Proofs.YtbflfefahheidaaGreatDoor
open Go.RowKit Go.Pl
theorem notIn_ne {ks : List Bys} {k : Bys} (hk : ks.contains k = false) {t : Tag} (h : notIn ks t = false) : (t.1 == k) = false := by
 unfold notIn at h
 rw [Bool.not_eq_false'] at h
 obtain ⟨s, hs, e⟩ := List.any_eq_true.1 h
 have e := et e
 refine beq_eq_false_iff_ne.2 fun e2 => ?_
 rw [e] at e2
 rw [e2] at hs
 have : ks.contains k = true := by simpa using hs
 rw [this] at hk; cases hk
theorem notIn_eq {ks : List Bys} {k : Bys} (hk : ks.contains k = true) {t : Tag} (h : notIn ks t = true) : (t.1 == k) = false := by
 refine beq_eq_false_iff_ne.2 fun e2 => ?_
 unfold notIn at h
 rw [Bool.not_eq_true'] at h
 have := List.any_eq_false.1 h k (by simpa using hk)
 rw [e2] at this; simp at this
theorem getT_cons (t : Tag) (l : List Tag) (k : Bys) : getT (t :: l) k = bif t.1 == k then (t.2, true) else getT l k := by rw [getT]
theorem getT_bare {ks : List Bys} {k : Bys} (hk : ks.contains k = false) : ∀ l : List Tag, getT (l.filter (notIn ks)) k = getT l k
 | [] => rfl
 | t :: l => by
  cases h : notIn ks t with
  | true => rw [List.filter_cons, if_pos h, getT_cons, getT_cons, getT_bare hk l]
  | false => rw [List.filter_cons, if_neg (by rw [h]; exact Bool.false_ne_true), getT_cons, getT_bare hk l, notIn_ne hk h]; rfl
theorem getT_gone {ks : List Bys} {k : Bys} (hk : ks.contains k = true) : ∀ l : List Tag, getT (l.filter (notIn ks)) k = ([], false)
 | [] => rfl
 | t :: l => by
  cases h : notIn ks t with
  | true => rw [List.filter_cons, if_pos h, getT_cons, getT_gone hk l, notIn_eq hk h]; rfl
  | false => rw [List.filter_cons, if_neg (by rw [h]; exact Bool.false_ne_true), getT_gone hk l]
theorem keep_no {tu : Bool} {o : Ob} (h : keepO tu o = false) : (o.kind == 1) = false ∧ (o.kind == 2) = false := by
 have : o.kind = 3 ∨ o.kind = 4 ∨ o.kind = 5 := by
  by_cases h3 : o.kind = 3
  ·exact .inl h3
  ·by_cases h4 : o.kind = 4
   ·exact .inr (.inl h4)
   ·by_cases h5 : o.kind = 5
    ·exact .inr (.inr h5)
    ·unfold keepO at h; simp [h3, h4, h5] at h
 rcases this with h | h | h <;> rw [h] <;> exact ⟨by decide, by decide⟩
theorem fold_bare {β γ : Type} {φ : β → γ} {s : β → Ob → β} {s' : γ → Ob → γ} {tu : Bool} {ks : List Bys} (h1 : ∀ r o, keepO tu o = true → s' (φ r) (bareO ks o) = φ (s r o)) (h2 : ∀ r o, keepO tu o = false → s r o = r) : ∀ (l : List Ob) (r : β), (bareP tu ks l).foldl s' (φ r) = φ (l.foldl s r)
 | [], r => rfl
 | o :: l, r => by
  have ih := fun r => fold_bare h1 h2 l r
  unfold bareP at ih ⊢
  cases h : keepO tu o with
  | true => rw [List.filter_cons, if_pos h, List.map_cons, List.foldl_cons, List.foldl_cons, h1 r o h]; exact ih _
  | false => rw [List.filter_cons, if_neg (by rw [h]; exact Bool.false_ne_true), List.foldl_cons, h2 r o h]; exact ih r
section
variable (tu : Bool) (ks : List Bys) (l : List Ob)
theorem nodeP_bare : nodeP (bareP tu ks l) = nodeP l := by
 funext id
 unfold nodeP
 refine fold_bare (φ := fun r : Option Pt => r) (s := fun r o => bif (o.kind == 1) && (o.id == id) then some (o.x, o.y) else r) (fun r o _ => rfl) (fun r o h => ?_) l none
 show (bif (o.kind == 1) && (o.id == id) then some (o.x, o.y) else r) = r
 rw [(keep_no h).1]; rfl
theorem isNode_bare : isNode (bareP tu ks l) = isNode l := by
 funext id; unfold isNode; rw [nodeP_bare]
theorem wayO_bare (N : Bys → Bool) (id : Bys) : wayO N (bareP tu ks l) id = (wayO N l id).map (bareO ks) := by
 unfold wayO
 refine fold_bare (φ := fun r : Option Ob => r.map (bareO ks)) (fun r o _ => ?_) (fun r o h => ?_) l none
 ·show (bif ((o.kind == 2) && o.refs.all N) && (o.id == id) then some (bareO ks o) else r.map (bareO ks)) = _
  cases ((o.kind == 2) && o.refs.all N) && (o.id == id) <;> rfl
 ·rw [(keep_no h).2]; rfl
theorem segs_congr {l l' : List Ob} (h : arcLen l' = arcLen l) (w : Bys) : ∀ rs : List Bys, segs l' w rs = segs l w rs
 | [] => rfl
 | [_] => rfl
 | a :: b :: t => by unfold segs; rw [h, segs_congr h w (b :: t)]
theorem arcLen_bare : arcLen (bareP tu ks l) = arcLen l := by
 funext a b; unfold arcLen; rw [nodeP_bare]
theorem arcsQ_bare (o : Ob) : arcsQ (bareP tu ks l) (bareO ks o) = arcsQ l o := by
 unfold arcsQ
 rw [wayO_bare, isNode_bare]
 show (bif o.kind == 2 then (match (wayO (isNode l) l o.id).map (bareO ks) with | some c => segs (bareP tu ks l) o.id c.refs | none => []) else []) = _
 cases wayO (isNode l) l o.id with
 | none => rfl
 | some c => exact congrArg (fun z => bif o.kind == 2 then z else []) (segs_congr (arcLen_bare tu ks l) o.id c.refs)
theorem flat_bare {f g : Ob → List Arc} (h1 : ∀ o, f (bareO ks o) = g o) (h2 : ∀ o, keepO tu o = false → g o = []) : ∀ l : List Ob, (bareP tu ks l).flatMap f = l.flatMap g
 | [] => rfl
 | o :: l => by
  have ih := flat_bare h1 h2 l
  unfold bareP at ih ⊢
  cases h : keepO tu o with
  | true => rw [List.filter_cons, if_pos h, List.map_cons, List.flatMap_cons, List.flatMap_cons, ih, h1]
  | false => rw [List.filter_cons, if_neg (by rw [h]; exact Bool.false_ne_true), List.flatMap_cons, ih, h2 o h]; rfl
theorem asP_bare : asP (bareP tu ks l) = asP l := by
 unfold asP
 refine flat_bare tu ks (arcsQ_bare tu ks l) (fun o h => ?_) l
 unfold arcsQ
 rw [(keep_no h).2]; rfl
theorem asQ_bare : asQ (bareP tu ks l) = asQ l := by unfold asQ; rw [asP_bare]
theorem kind_bare {k : Int} (hk : ∀ o : Ob, (o.kind == k) = true → keepO tu o = true) : ∀ l : List Ob, (bareP tu ks l).filter (fun o => o.kind == k) = (l.filter fun o => o.kind == k).map (bareO ks)
 | [] => rfl
 | o :: l => by
  have ih := kind_bare hk l
  have hkk := hk o
  unfold bareP at ih ⊢
  cases h : keepO tu o with
  | true =>
   rw [List.filter_cons, if_pos h, List.map_cons, List.filter_cons, List.filter_cons, ih]
   show (if (o.kind == k) = true then _ else _) = _
   cases o.kind == k <;> rfl
  | false =>
   rw [h] at hkk
   have h2 : ¬ (o.kind == k) = true := fun e => Bool.false_ne_true (hkk e)
   rw [List.filter_cons, if_neg (by rw [h]; exact Bool.false_ne_true), ih, List.filter_cons, if_neg h2]
theorem keep2 (o : Ob) (h : (o.kind == 2) = true) : keepO tu o = true := by
 unfold keepO; rw [et h]; cases tu <;> rfl
theorem keep5 (o : Ob) (h : (o.kind == 5) = true) : keepO true o = true := by
 unfold keepO; rw [et h]; rfl
theorem roadQ_bare (prof id : Bys) : roadQ prof (bareP tu ks l) id = match ((l.filter fun o => o.kind == 2).reverse).find? fun o => o.id == id with
  | some o => roadO prof (bareO ks o)
  | none => roadZ := by
 unfold roadQ
 rw [kind_bare tu ks (keep2 tu), ← List.map_reverse, List.find?_map]
 show (match (((l.filter fun o => o.kind == 2).reverse).find? fun o => o.id == id).map (bareO ks) with | some o => roadO prof o | none => roadZ) = _
 cases ((l.filter fun o => o.kind == 2).reverse).find? fun o => o.id == id <;> rfl
theorem bans_bareF (prof : Bys) : bansQ prof (bareP false ks l) = [] := by
 unfold bansQ
 cases prof == foot with
 | true => rfl
 | false =>
  show List.map _ _ = []
  rw [List.map_eq_nil_iff, List.filter_eq_nil_iff]
  intro x hx
  unfold bareP at hx
  obtain ⟨o, ho, rfl⟩ := List.mem_map.1 hx
  have h := (List.mem_filter.1 ho).2
  show ¬ (o.kind == 5) = true
  intro e
  unfold keepO at h
  rw [et e] at h
  exact Bool.false_ne_true h
theorem bans_bareT (prof : Bys) : bansQ prof (bareP true ks l) = bansQ prof l := by
 unfold bansQ
 rw [kind_bare true ks keep5, List.map_map]
 rfl
end
section
variable {ks : List Bys} {prof : Bys}
theorem road_same (hp : ks.contains prof = false) (hs : ks.contains [115, 112, 101, 101, 100] = false) (hh : ks.contains [104, 111, 117, 114, 115] = false) (ho : ks.contains [111, 110, 101, 119, 97, 121] = false ∨ prof = foot) (o : Ob) : roadO prof (bareO ks o) = roadO prof o := by
 have e1 := getT_bare hp o.tags
 have e2 := getT_bare hs o.tags
 have e3 := getT_bare hh o.tags
 have e4 : (((getT (o.tags.filter (notIn ks)) [111, 110, 101, 119, 97, 121]).1 == [121, 101, 115]) && !(prof == foot)) = (((getT o.tags [111, 110, 101, 119, 97, 121]).1 == [121, 101, 115]) && !(prof == foot)) := by
  rcases ho with ho | ho
  ·rw [getT_bare ho]
  ·subst ho; rw [beq_self_eq_true]; simp
 unfold roadO hoursL hoursB hoursT bareO
 simp only [e1, e2, e3, e4]
theorem road_free (hp : ks.contains prof = true) (hs : ks.contains [115, 112, 101, 101, 100] = false) (hh : ks.contains [104, 111, 117, 114, 115] = true) (ho : ks.contains [111, 110, 101, 119, 97, 121] = true) (o : Ob) : (roadO prof (bareO ks o)).closed = false ∧ (roadO prof (bareO ks o)).oneway = false ∧ (roadO prof (bareO ks o)).limited = false ∧ (roadO prof (bareO ks o)).speed = (roadO prof o).speed := by
 have e1 := getT_gone hp o.tags
 have e2 := getT_bare hs o.tags
 have e3 := getT_gone hh o.tags
 have e4 := getT_gone ho o.tags
 unfold roadO bareO
 refine ⟨?_, ?_, ?_, ?_⟩ <;> simp only [e1, e2, e3, e4] <;> rfl
/-- The same network. -/
theorem net_same {tu : Bool} (hp : ks.contains prof = false) (hs : ks.contains [115, 112, 101, 101, 100] = false) (hh : ks.contains [104, 111, 117, 114, 115] = false) (ho : ks.contains [111, 110, 101, 119, 97, 121] = false ∨ prof = foot) (hb : tu = true ∨ prof = foot) (l : List Ob) (f : Bys) : netQ prof (bareP tu ks l) f = netQ prof l f := by
 have e1 : roadQ prof (bareP tu ks l) = roadQ prof l := by
  funext id
  rw [roadQ_bare]
  unfold roadQ
  cases ((l.filter fun o => o.kind == 2).reverse).find? fun o => o.id == id with
  | none => rfl
  | some o => exact road_same hp hs hh ho o
 have e2 : bansQ prof (bareP tu ks l) = bansQ prof l := by
  rcases hb with rfl | rfl
  ·exact bans_bareT ks l prof
  ·rfl
 have e3 : allowQ prof (bareP tu ks l) = allowQ prof l := by
  funext a b; unfold allowQ; rw [e2]
 unfold netQ
 rw [asQ_bare, e1, e3]
/-- What passes a road passes it when it is free. -/
theorem pass_free {r r' : Road} {a : Arc} {m x : Int} (h1 : r'.closed = false ∧ r'.oneway = false ∧ r'.limited = false ∧ r'.speed = r.speed) (h : passQ r a m = some x) : ∃ y, y ≤ x ∧ passQ r' a m = some y := by
 obtain ⟨q1, q2, q3, q4⟩ := h1
 unfold passQ at h ⊢
 rw [q1, q2, q3, q4]
 cases h1 : (r.closed || (r.oneway && !fwd a.1 a.2.1 r.refs) || decide (1000000000 < m)) with
 | true => rw [h1] at h; cases h
 | false =>
  rw [h1] at h
  simp only [Bool.or_eq_false_iff] at h1
  rw [h1.2]
  cases h2 : r.limited with
  | false =>
   rw [h2] at h
   exact ⟨x, Int.le_refl _, h⟩
  | true =>
   rw [h2] at h
   cases h3 : (!((nextP r.hours m).2) || decide (1000000000 < (nextP r.hours m).1)) with
   | true => rw [h3] at h; cases h
   | false =>
    rw [h3] at h
    simp only [Bool.or_eq_false_iff, decide_eq_false_iff_not, Bool.not_eq_false'] at h3
    have := nextP_ge h3.1
    simp only [cond_true, cond_false, Option.some.injEq] at h
    exact ⟨_, by omega, rfl⟩
/-! ### maps without some of their parts are valid -/
theorem tagT_weak {k k' : Bys} (h : blt k k' = true) : ∀ {l : List Tag}, tagT k' l = true → tagT k l = true
 | [], _ => by unfold tagT; rfl
 | t :: l, q => by
  unfold tagT at q ⊢
  simp only [Bool.and_eq_true] at q ⊢
  exact ⟨⟨⟨⟨q.1.1.1.1, blt_trans h q.1.1.1.2⟩, q.1.1.2⟩, q.1.2⟩, q.2⟩
theorem tagT_bare {p : Tag → Bool} : ∀ {l : List Tag} {k : Bys}, tagT k l = true → tagT k (l.filter p) = true
 | [], k, h => h
 | t :: l, k, h => by
  unfold tagT at h
  simp only [Bool.and_eq_true] at h
  have ih := tagT_bare (p := p) h.2
  cases hp : p t with
  | true =>
   rw [List.filter_cons, if_pos hp]
   unfold tagT
   simp only [Bool.and_eq_true]
   exact ⟨h.1, ih⟩
  | false => rw [List.filter_cons, if_neg (by rw [hp]; exact Bool.false_ne_true)]; exact tagT_weak h.1.1.1.2 ih
theorem validO_bare {o : Ob} (h : validO o = true) : validO (bareO ks o) = true := by
 have ht : tagsB o.tags = true → tagsB (o.tags.filter (notIn ks)) = true := fun q => by
  unfold tagsB at q ⊢
  simp only [Bool.and_eq_true, decide_eq_true_eq] at q ⊢
  have := List.length_filter_le (notIn ks) o.tags
  exact ⟨tagT_bare q.1, by omega⟩
 unfold validO at h ⊢
 simp only [Bool.and_eq_true] at h ⊢
 obtain ⟨⟨⟨⟨⟨⟨a, b⟩, c⟩, d⟩, e⟩, f⟩, g⟩ := h
 exact ⟨⟨⟨⟨⟨⟨a, b⟩, ht c⟩, d⟩, e⟩, f⟩, g⟩
theorem mapT_weak {k k' : Bys} (h : blt k k' = true) : ∀ {l : List Ob}, mapT k' l = true → mapT k l = true
 | [], _ => by unfold mapT; rfl
 | o :: l, q => by
  unfold mapT at q ⊢
  simp only [Bool.and_eq_true] at q ⊢
  exact ⟨⟨q.1.1, blt_trans h q.1.2⟩, q.2⟩
theorem mapT_bare {tu : Bool} : ∀ {l : List Ob} {k : Bys}, mapT k l = true → mapT k (bareP tu ks l) = true
 | [], k, h => h
 | o :: l, k, h => by
  unfold mapT at h
  simp only [Bool.and_eq_true] at h
  have ih := mapT_bare (tu := tu) h.2
  unfold bareP at ih ⊢
  cases hp : keepO tu o with
  | true =>
   rw [List.filter_cons, if_pos hp, List.map_cons]
   unfold mapT
   simp only [Bool.and_eq_true]
   exact ⟨⟨validO_bare h.1.1, h.1.2⟩, ih⟩
  | false => rw [List.filter_cons, if_neg (by rw [hp]; exact Bool.false_ne_true)]; exact mapT_weak h.1.2 ih
theorem bare_len (tu : Bool) (ks : List Bys) (l : List Ob) : (bareP tu ks l).length ≤ l.length := by
 unfold bareP; rw [List.length_map]; exact List.length_filter_le _ _
theorem valid_bare {tu : Bool} {l : List Ob} (h : validMap l = true) : validMap (bareP tu ks l) = true := by
 unfold validMap at h ⊢
 simp only [Bool.and_eq_true, decide_eq_true_eq] at h ⊢
 have := bare_len tu ks l
 exact ⟨mapT_bare h.1, by omega⟩
theorem bare_mem {tu : Bool} {l : List Ob} {x : Ob} : x ∈ bareP tu ks l ↔ ∃ o ∈ l, keepO tu o = true ∧ bareO ks o = x := by
 unfold bareP
 rw [List.mem_map]
 constructor
 ·rintro ⟨o, ho, e⟩
  obtain ⟨h1, h2⟩ := List.mem_filter.1 ho
  exact ⟨o, h1, h2, e⟩
 ·rintro ⟨o, h1, h2, e⟩
  exact ⟨o, List.mem_filter.2 ⟨h1, h2⟩, e⟩
theorem found_bare {tu : Bool} {l : List Ob} (hv : validMap l = true) {id : Bys} (h : ¬ findI (bareP tu ks l) id < 0) : ¬ findI l id < 0 ∧ kindQ l id = kindQ (bareP tu ks l) id := by
 obtain ⟨k, x, _, hx, rfl⟩ := findI_at h
 obtain ⟨o, ho, hk, rfl⟩ := bare_mem.1 (gm hx)
 have p := valid_pw hv
 have p' := valid_pw (valid_bare (ks := ks) (tu := tu) hv)
 have a := find_valid p ho
 have b := find_valid p' (gm hx)
 exact ⟨a.1, a.2.trans b.2.symm⟩
theorem node_bare {tu : Bool} {l : List Ob} (hv : validMap l = true) {id : Bys} (h : ¬ findI l id < 0) (hk : kindQ l id = 1) : ¬ findI (bareP tu ks l) id < 0 ∧ kindQ (bareP tu ks l) id = 1 := by
 obtain ⟨k, o, _, ho, rfl⟩ := findI_at h
 have a := find_valid (valid_pw hv) (gm ho)
 have ek : o.kind = 1 := a.2.symm.trans hk
 have hm : bareO ks o ∈ bareP tu ks l := bare_mem.2 ⟨o, gm ho, by unfold keepO; rw [ek]; cases tu <;> rfl, rfl⟩
 have b := find_valid (valid_pw (valid_bare (ks := ks) (tu := tu) hv)) hm
 exact ⟨b.1, b.2.trans ek⟩
theorem chk_bare {tu : Bool} {l : List Ob} (hv : validMap l = true) (m0 : Int) (ids : List Bys) : chkQ (bareP tu ks l) prof m0 ids = chkQ l prof m0 ids ∨ (chkQ l prof m0 ids = 13 ∧ chkQ (bareP tu ks l) prof m0 ids = 11) := by
 unfold chkQ
 rw [hv, valid_bare (ks := ks) (tu := tu) hv]
 cases !true || (!(nameB prof) || (decide (m0 < 0) || decide (9999999 < m0))) with
 | true => exact .inl rfl
 | false =>
  simp only [cond_false]
  cases h1 : ids.any (fun id => decide (findI l id < 0)) with
  | true =>
   obtain ⟨id, hi, q⟩ := List.any_eq_true.1 h1
   have : ids.any (fun id => decide (findI (bareP tu ks l) id < 0)) = true := List.any_eq_true.2 ⟨id, hi, decide_eq_true (Classical.byContradiction fun h => (found_bare hv h).1 (of_decide_eq_true q))⟩
   rw [this]; exact .inl rfl
  | false =>
   have h1' : ∀ id ∈ ids, ¬ findI l id < 0 := fun id hi => by simpa using List.any_eq_false.1 h1 id hi
   cases h2 : ids.any (fun id => !(kindQ l id == 1)) with
   | false =>
    have h2' : ∀ id ∈ ids, kindQ l id = 1 := fun id hi => by simpa using List.any_eq_false.1 h2 id hi
    have a : ids.any (fun id => decide (findI (bareP tu ks l) id < 0)) = false := List.any_eq_false.2 fun id hi => by simpa using (node_bare (tu := tu) (ks := ks) hv (h1' id hi) (h2' id hi)).1
    have b : ids.any (fun id => !(kindQ (bareP tu ks l) id == 1)) = false := List.any_eq_false.2 fun id hi => by simpa using (node_bare (tu := tu) (ks := ks) hv (h1' id hi) (h2' id hi)).2
    rw [a, b]; exact .inl rfl
   | true =>
    cases h3 : ids.any (fun id => decide (findI (bareP tu ks l) id < 0)) with
    | true => exact .inr ⟨rfl, rfl⟩
    | false =>
     obtain ⟨id, hi, q⟩ := List.any_eq_true.1 h2
     have h3' : ¬ findI (bareP tu ks l) id < 0 := by simpa using List.any_eq_false.1 h3 id hi
     have : ids.any (fun id => !(kindQ (bareP tu ks l) id == 1)) = true := List.any_eq_true.2 ⟨id, hi, by rw [← (found_bare hv h3').2]; exact q⟩
     rw [this]; exact .inl rfl
end
/-! ### trips -/
section
variable {prof f g : Bys} {l : List Ob} {m0 c c' : Int} {nd nd' : List Bys} {mi mi' : List Int}
theorem trip_uniq (hok : ∀ a ∈ asQ l, ArcB a) (h : TripQ prof l f g m0 c nd mi) (h' : TripQ prof l f g m0 c' nd' mi') : c = c' ∧ nd = nd' ∧ mi = mi' := by
 rcases h with ⟨h1, rfl, rfl, rfl⟩ | ⟨h1, h2, rfl, rfl, rfl⟩ | ⟨h1, h2, t, hT, h3⟩ <;> rcases h' with ⟨k1, rfl, rfl, rfl⟩ | ⟨k1, k2, rfl, rfl, rfl⟩ | ⟨k1, k2, u, hU, k3⟩
 ·exact ⟨rfl, rfl, rfl⟩
 ·exact absurd k1 h1
 ·exact absurd k1 h1
 ·exact absurd h1 k1
 ·exact ⟨rfl, rfl, rfl⟩
 ·exact absurd h2 k2
 ·exact absurd h1 k1
 ·exact absurd k2 h2
 ·have e := hT.uniq (netQ_ok (prof := prof) hok f) (chkQ_ok h1).2.2.1 hU
  subst e
  rcases h3 with ⟨h4, rfl, rfl, rfl⟩ | ⟨i, h4, rfl, rfl, rfl⟩ <;> rcases k3 with ⟨k4, rfl, rfl, rfl⟩ | ⟨j, k4, rfl, rfl, rfl⟩
  ·exact ⟨rfl, rfl, rfl⟩
  ·rw [h4] at k4; cases k4
  ·rw [h4] at k4; cases k4
  ·rw [h4] at k4; cases k4; exact ⟨rfl, rfl, rfl⟩
theorem trip_chk (h : TripQ prof l f g m0 c nd mi) (hc : ¬ chkQ l prof m0 [f, g] = 0) : c = chkQ l prof m0 [f, g] := by
 rcases h with ⟨_, h2, _⟩ | ⟨h1, _⟩ | ⟨h1, _⟩
 ·exact h2
 ·exact absurd h1 hc
 ·exact absurd h1 hc
theorem trip_same {tu : Bool} {ks : List Bys} (hok : ∀ a ∈ asQ l, ArcB a) (hv : validMap l = true) (hN : netQ prof (bareP tu ks l) f = netQ prof l f) (h : TripQ prof l f g m0 c nd mi) (h' : TripQ prof (bareP tu ks l) f g m0 c' nd' mi') : (c = c' ∧ nd = nd' ∧ mi = mi') ∨ (c = 13 ∧ c' = 11) := by
 rcases chk_bare (tu := tu) (ks := ks) (prof := prof) hv m0 [f, g] with e | ⟨e1, e2⟩
 ·refine .inl (trip_uniq hok h ?_)
  unfold TripQ at h' ⊢
  rw [e, hN, asQ_bare] at h'
  exact h'
 ·refine .inr ⟨?_, ?_⟩
  ·rw [trip_chk h (by rw [e1]; decide), e1]
  ·rw [trip_chk h' (by rw [e2]; decide), e2]
/-- Without turns and tags that forbid, nobody arrives later. -/
theorem fewer_end (hok : ∀ a ∈ asQ l, ArcB a) (hv : validMap l = true) (hsp : ¬ prof = [115, 112, 101, 101, 100]) (h : TripQ prof l f g m0 c nd mi) (h' : TripQ prof (bareP false [[104, 111, 117, 114, 115], [111, 110, 101, 119, 97, 121], prof] l) f g m0 c' nd' mi') (hs : (endO c mi).isSome = true) : (endO c' mi').isSome = true ∧ (endO c' mi').getD 0 ≤ (endO c mi).getD 0 := by
 obtain ⟨ks, hks⟩ : ∃ ks : List Bys, ks = [[104, 111, 117, 114, 115], [111, 110, 101, 119, 97, 121], prof] := ⟨_, rfl⟩
 have k1 : ks.contains prof = true := by rw [hks]; simp
 have k2 : ks.contains [115, 112, 101, 101, 100] = false := by
  rw [hks]
  have : ([115, 112, 101, 101, 100] == prof) = false := beq_eq_false_iff_ne.2 fun e => hsp e.symm
  simp; exact fun e => hsp e.symm
 have k3 : ks.contains [104, 111, 117, 114, 115] = true := by rw [hks]; simp
 have k4 : ks.contains [111, 110, 101, 119, 97, 121] = true := by rw [hks]; simp
 rw [← hks] at h'
 have hok' : ∀ a ∈ asQ (bareP false ks l), ArcB a := by rw [asQ_bare]; exact hok
 rcases trip_end hok h with ⟨q, _⟩ | ⟨q1, _, q3⟩
 ·rw [q] at hs; cases hs
 ·have hc : chkQ (bareP false ks l) prof m0 [f, g] = 0 := by
   rcases chk_bare (tu := false) (ks := ks) (prof := prof) hv m0 [f, g] with e | ⟨e1, _⟩
   ·rw [e]; exact q1
   ·rw [e1] at q1; cases q1
  have h0 := (chkQ_ok q1).2.2.1
  have cmp : ∀ {i : Nat} {x : Int}, Rch (netQ prof l f) m0 i x → ∃ y, y ≤ x ∧ Rch (netQ prof (bareP false ks l) f) m0 i y := fun {i x} hr => by
   have hN := netQ_ok (prof := prof) hok f
   have hN' := netQ_ok (prof := prof) hok' f
   refine hr.cmp hN h0 h0 hN' (Int.le_refl _) (fun i hi => ?_) (fun i _ hi => ?_) (fun i k _ _ hi => ?_) (fun {i m x} _ _ hi => ?_)
   ·show i < (asQ (bareP false ks l)).length
    rw [asQ_bare]; exact hi
   ·show (match (asQ (bareP false ks l))[i]? with | some a => a.1 == f | none => false) = true
    rw [asQ_bare]; exact hi
   ·have hi : (match (asQ l)[i]?, (asQ l)[k]? with | some a, some b => allowQ prof l a b | _, _ => false) = true := hi
    show (match (asQ (bareP false ks l))[i]?, (asQ (bareP false ks l))[k]? with | some a, some b => allowQ prof (bareP false ks l) a b | _, _ => false) = true
    rw [asQ_bare]
    cases ha : (asQ l)[i]? with
    | none => rw [ha] at hi; cases hi
    | some a =>
     cases hb : (asQ l)[k]? with
     | none => rw [ha, hb] at hi; cases hi
     | some b =>
      rw [ha, hb] at hi
      have hi : allowQ prof l a b = true := hi
      show allowQ prof (bareP false ks l) a b = true
      unfold allowQ at hi ⊢
      rw [bans_bareF]
      rw [Bool.and_eq_true] at hi
      rw [hi.1]; rfl
   ·have hi : (match (asQ l)[i]? with | some a => passQ (roadQ prof l a.2.2.1) a m | none => none) = some x := hi
    show ∃ y, y ≤ x ∧ (match (asQ (bareP false ks l))[i]? with | some a => passQ (roadQ prof (bareP false ks l) a.2.2.1) a m | none => none) = some y
    rw [asQ_bare]
    cases ha : (asQ l)[i]? with
    | none => rw [ha] at hi; cases hi
    | some a =>
     rw [ha] at hi
     refine pass_free ?_ hi
     rw [roadQ_bare]
     unfold roadQ
     cases ((l.filter fun o => o.kind == 2).reverse).find? fun o => o.id == a.2.2.1 with
     | none => exact ⟨rfl, rfl, rfl, rfl⟩
     | some o => exact road_free k1 k2 k3 k4 o
  rcases trip_end hok' h' with ⟨_, _, _, p⟩ | ⟨p1, _, p3⟩
  ·rcases p with ⟨p, _⟩ | ⟨_, _, p2, p3⟩
   ·exact absurd hc p
   ·rcases q3 with ⟨q3, _⟩ | ⟨_, x, _, ⟨⟨i, a, ha, hg, hr⟩, _⟩⟩
    ·exact absurd q3 p2
    ·obtain ⟨y, _, hy⟩ := cmp hr
     exact absurd hy (p3 i a y (by rw [asQ_bare]; exact ha) hg)
  ·rcases q3 with ⟨q3, q4, _⟩ | ⟨q3, x, q4, ⟨⟨i, a, ha, hg, hr⟩, _⟩⟩
   ·rcases p3 with ⟨_, p4, _⟩ | ⟨p3, _⟩
    ·rw [p4, q4]; exact ⟨rfl, Int.le_refl _⟩
    ·exact absurd q3 p3
   ·rcases p3 with ⟨p3, _⟩ | ⟨_, z, p4, _, p5⟩
    ·exact absurd p3 q3
    ·obtain ⟨y, hy1, hy⟩ := cmp hr
     have := p5 i a y (by rw [asQ_bare]; exact ha) hg hy
     rw [p4, q4]
     exact ⟨rfl, by show z ≤ x; omega⟩
end
theorem bare_arcs {os B : List ObR} {tu : Bool} {ks : List Bys} (hB : pure_ B = bareP tu ks (pure_ os)) (h : fewP os = true) (hv : validMap (pure_ os) = true) : (arcsP B).length ≤ 240 := by
 rw [arcsP_q, hB, asP_bare, ← arcsP_q]
 exact fewP_arcs h hv
end Go.Proofs.YtbflfefahheidaaGreatDoor
/- Without what forbids, nobody arrives later. -/
set_option linter.unusedVariables false
set_option linter.unusedSimpArgs false
namespace Go.Proofs.YtbflfefahheidaaGreatDoor
open Go.RowKit Go.Pl
section
variable {c c' : Int} {nd nd' : List Bys} {mi mi' : List Int} (hS : (c = c' ∧ nd = nd' ∧ mi = mi') ∨ (c = 13 ∧ c' = 11))
include hS
theorem same_dead1 (h1 : (c == c') = true) (h : sameT nd mi nd' mi' = false) : False := by
  rcases hS with ⟨_, rfl, rfl⟩ | ⟨rfl, rfl⟩
  · unfold sameT at h; simp at h
  · exact absurd (et h1) (by decide)
theorem same_two (h1 : (c == c') = false) : (c == 13) = true ∧ (c' == 11) = true := by
  rcases hS with ⟨e, _⟩ | ⟨e1, e2⟩
  · exact absurd e (ef h1)
  · rw [e1, e2]; exact ⟨by decide, by decide⟩
end
theorem fewer_calls {w : World} {v : Value} {os : List ObR} (hmv : ObsV w v os) {prof f g : Bys} (hp63 : prof.length ≤ 9223372036854775807) (hf63 : B63 f) (hTe : Te w) (m0 : Int) : Calls Tryz.prog 8 #[.agg #[v], vS prof, vS f, vS g, vI m0] w fun e w' => e = .returned (vB true) ∧ Fr (fun _ => False) w w' := by
  obtain ⟨p0, c0, e0, s0⟩ := hmv.1.op
  subst e0
  refine beg Tryz.func8 rfl rfl [(0, .agg #[vL p0 os.length c0]), (1, vS prof), (2, vS f), (3, vS g), (4, vI m0)] rfl rfl fun Φ hΦ => ?_
  have hM := Mm.nil (fun _ => False) w
  refine newm 0 0 5 [] (cs := #[vL p0 os.length c0]) (T := 24) (v := fun b => vP b 0) f0 hM fun b484 w1 hM => calm 1 0 25 [] f0 hM (head_calls (hTe.fr hM.fr)) fun w1 hM => calm 2 1 27 [(11, vB true), (26, .agg #[vL p0 os.length c0])] (fc (lam 24 0 0 1 hM rfl) f0) hM (few_calls (hmv.fr hM.fr)) fun w1 hM => seg 2 4 [(29, vB (!(fewP os)))] f0 ?_
  cases h485 : (fewP os) with
  | false =>
   exact rt1 10 (vB true) rfl f0 (hΦ _ _ ⟨rfl, hM.fr⟩)
  | true =>
   refine newm 2 7 33 [(30, vS prof), (31, vS f), (32, vS g)] (cs := #[vS prof, vS f, vS g]) (T := 9) (v := fun b => vL (some ⟨b, 0, none⟩) 3 3) f0 hM fun b486 w1 hM => calm 2 8 34 [] f0 hM (short_calls (src_lit (f := stL) (c := 1) (b := b486) (hM.get 1 (e := bk b486 #[vS prof, vS f, vS g] 9) rfl) [prof, f, g] 3 (fun _ => rfl) rfl rfl).src) fun w1 hM => seg 2 12 [(37, vB (!(shortB [prof, f, g])))] f0 ?_
   cases h487 : (shortB [prof, f, g]) with
   | false =>
    exact rt1 10 (vB true) rfl f0 (hΦ _ _ ⟨rfl, hM.fr⟩)
   | true =>
    refine calm 2 13 39 [(38, .agg #[vL p0 os.length c0])] (fc (lam 24 0 0 1 hM rfl) f0) hM (validMap_calls (hmv.fr hM.fr)) fun w1 hM => seg 2 17 [(42, vB (!(validMap (pure_ os))))] f0 ?_
    cases h488 : (validMap (pure_ os)) with
    | false =>
     exact rt1 10 (vB true) rfl f0 (hΦ _ _ ⟨rfl, hM.fr⟩)
    | true =>
     refine seg 2 21 [(46, vB (prof == [115, 112, 101, 101, 100]))] (fc (seq 9 prof [115, 112, 101, 101, 100]) f0) ?_
     cases h489 : (prof == [115, 112, 101, 101, 100]) with
     | false =>
      have rh489 := ef h489
      refine seg 2 25 [(50, vB (prof == [110, 97, 109, 101]))] (fc (seq 9 prof [110, 97, 109, 101]) f0) ?_
      cases h490 : (prof == [110, 97, 109, 101]) with
      | false =>
       have rh490 := ef h490
       refine seg 2 28 [(53, vB (prof == [111, 110, 101, 119, 97, 121]))] (fc (seq 9 prof [111, 110, 101, 119, 97, 121]) f0) ?_
       cases h491 : (prof == [111, 110, 101, 119, 97, 121]) with
       | false =>
        have rh491 := ef h491
        have hk1 : ([[110, 97, 109, 101]] : List Bys).contains prof = false := by have := h490; simp; exact fun e => ef this e
        refine calk 4 5 61 [(56, .agg #[vL p0 os.length c0]), (57, vS prof), (58, vS f), (59, vS g), (60, vI m0)] (K := fun u w8 => ∃ c nd mi, TripR prof os f g m0 c nd mi ∧ u = .tuple #[vI ((endO c mi).getD 0), vB (endO c mi).isSome]) (fc (lam 24 0 0 1 hM rfl) f0) hM ((end_calls (hmv.fr hM.fr) hp63 hf63 (fun h => fewP_arcs h485 h) (hTe.fr hM.fr) m0).mono fun e w8 ⟨c, nd, mi, h1, h2, h3⟩ => ⟨⟨_, h2, c, nd, mi, h1, rfl⟩, h3⟩) fun u w1 ⟨c1, nd1, mi1, hR1, hu⟩ hM f1 => ?_
        subst hu
        refine newm 5 2 67 [(12, vI ((endO c1 mi1).getD 0)), (13, vB (endO c1 mi1).isSome), (65, .agg #[vL p0 os.length c0]), (66, vS prof)] (cs := #[vS [104, 111, 117, 114, 115], vS [111, 110, 101, 119, 97, 121], vS prof]) (T := 9) (v := fun b => vL (some ⟨b, 0, none⟩) 3 3) (fc (lam 24 0 0 1 hM rfl) f0) hM fun b492 w1 hM => calk 5 3 68 [] (K := fun u w8 => ∃ v2 B, u = .agg #[v2] ∧ ObsV w8 v2 B ∧ pure_ B = bareP false [[104, 111, 117, 114, 115], [111, 110, 101, 119, 97, 121], prof] (pure_ os)) f0 hM ((bareF_calls (hmv.fr hM.fr) (by have := fewP_len h485; omega) (fun b hb => by have := fewP_tags h485 b hb; omega) (src_lit (f := stL) (c := 1) (b := b492) (hM.get 2 (e := bk b492 #[vS [104, 111, 117, 114, 115], vS [111, 110, 101, 119, 97, 121], vS prof] 9) rfl) [[104, 111, 117, 114, 115], [111, 110, 101, 119, 97, 121], prof] 3 (fun _ => rfl) rfl rfl).src).mono fun e w8 ⟨v2, B, h1, h2, h3, h4⟩ => ⟨⟨_, h1, v2, B, rfl, h2, h3⟩, h4⟩) fun u w1 ⟨vB1, B1, hu, hB1, hP1⟩ hM f1 => ?_
        subst hu
        refine calk 5 8 73 [(69, vS prof), (70, vS f), (71, vS g), (72, vI m0)] (K := fun u w8 => ∃ c nd mi, TripR prof B1 f g m0 c nd mi ∧ u = .tuple #[vI ((endO c mi).getD 0), vB (endO c mi).isSome]) f0 hM ((end_calls hB1 hp63 hf63 (fun _ => bare_arcs hP1 h485 h488) (hTe.fr hM.fr) m0).mono fun e w8 ⟨c, nd, mi, h1, h2, h3⟩ => ⟨⟨_, h2, c, nd, mi, h1, rfl⟩, h3⟩) fun u w1 ⟨c2, nd2, mi2, hR2, hu⟩ hM f1 => ?_
        subst hu
        refine seg 6 2 [(14, vI ((endO c2 mi2).getD 0)), (15, vB (endO c2 mi2).isSome), (77, vB (endO c1 mi1).isSome)] f0 ?_
        cases h493 : (endO c1 mi1).isSome with
        | false =>
         refine calM 8 5 92 [(87, .agg #[vL p0 os.length c0]), (88, vS prof), (89, vS f), (90, vS g), (91, vI m0)] (K := fun u Mn => ∃ u1 u2 c nd mi, u = .tuple #[.agg #[u1, u2], vI c] ∧ TripR prof os f g m0 c nd mi ∧ Mn = [rw_ stL 1 9 u1 nd, rw_ inL 1 3 u2 mi]) [0, 1, 2] [] (fc (lam 24 0 0 1 hM rfl) f0) hM rfl rfl (by decide) (fun hm => ((trip_calls (prof := prof) (hmv.fr hM.fr) hp63 hf63 (fun h => fewP_arcs h485 h) (hTe.fr hM.fr) m0).mono fun e w8 ⟨v1, v2, c, nd, mi, h1, h2, h3⟩ => ⟨_, _, h1, ⟨v1, v2, c, nd, mi, rfl, h2, rfl⟩, Mm_wk h3 fun _ h => h.elim⟩)) fun u Mn w1 hK hM => ?_
         obtain ⟨u13, u23, c3, nd3, mi3, rfl, hR3, rfl⟩ := hK
         obtain ⟨qm3, cm3, em3, sm3⟩ := (hM.src (j := 4) rfl inT.len).op
         subst em3
         have bm3 := sm3.bnd
         obtain ⟨qn3, cn3, en3, sn3⟩ := (hM.src (j := 3) rfl stT.len).op
         subst en3
         replace hM : Mm (fun _ => False) w w1 [bk b484 #[vL p0 os.length c0] 24, bk b486 #[vS prof, vS f, vS g] 9, bk b492 #[vS [104, 111, 117, 114, 115], vS [111, 110, 101, 119, 97, 121], vS prof] 9, rw_ stL 1 9 (vL qn3 nd3.length cn3) nd3, rw_ inL 1 3 (vL qm3 mi3.length cm3) mi3] := hM
         refine varm 8 9 16 [(93, .agg #[vL qn3 nd3.length cn3, vL qm3 mi3.length cm3]), (94, vI c3)] [] 31 (.agg #[vL qn3 nd3.length cn3, vL qm3 mi3.length cm3]) f0 hM fun b494 w1 hM => newm 9 1 97 [(17, vI c3), (96, .agg #[vL p0 os.length c0])] (cs := #[vS [110, 97, 109, 101]]) (T := 9) (v := fun b => vL (some ⟨b, 0, none⟩) 1 1) (fc (lam 24 0 0 1 hM rfl) f0) hM fun b495 w1 hM => calk 9 2 98 [] (K := fun u w8 => ∃ v2 B, u = .agg #[v2] ∧ ObsV w8 v2 B ∧ pure_ B = bareP true [[110, 97, 109, 101]] (pure_ os)) f0 hM ((bareT_calls (hmv.fr hM.fr) (by have := fewP_len h485; omega) (fun b hb => by have := fewP_tags h485 b hb; omega) (src_lit (f := stL) (c := 1) (b := b495) (hM.get 6 (e := bk b495 #[vS [110, 97, 109, 101]] 9) rfl) [[110, 97, 109, 101]] 1 (fun _ => rfl) rfl rfl).src).mono fun e w8 ⟨v2, B, h1, h2, h3, h4⟩ => ⟨⟨_, h1, v2, B, rfl, h2, h3⟩, h4⟩) fun u w1 ⟨vB2, B2, hu, hB2, hP2⟩ hM f1 => ?_
         subst hu
         refine calM 9 7 103 [(99, vS prof), (100, vS f), (101, vS g), (102, vI m0)] (K := fun u Mn => ∃ u1 u2 c nd mi, u = .tuple #[.agg #[u1, u2], vI c] ∧ TripR prof B2 f g m0 c nd mi ∧ Mn = [rw_ stL 1 9 u1 nd, rw_ inL 1 3 u2 mi]) [0, 1, 2, 3, 4, 5, 6] [] f0 hM rfl rfl (by decide) (fun hm => ((trip_calls (prof := prof) hB2 hp63 hf63 (fun _ => bare_arcs hP2 h485 h488) (hTe.fr hM.fr) m0).mono fun e w8 ⟨v1, v2, c, nd, mi, h1, h2, h3⟩ => ⟨_, _, h1, ⟨v1, v2, c, nd, mi, rfl, h2, rfl⟩, Mm_wk h3 fun _ h => h.elim⟩)) fun u Mn w1 hK hM => ?_
         obtain ⟨u14, u24, c4, nd4, mi4, rfl, hR4, rfl⟩ := hK
         obtain ⟨qm4, cm4, em4, sm4⟩ := (hM.src (j := 8) rfl inT.len).op
         subst em4
         have bm4 := sm4.bnd
         obtain ⟨qn4, cn4, en4, sn4⟩ := (hM.src (j := 7) rfl stT.len).op
         subst en4
         replace hM : Mm (fun _ => False) w w1 [bk b484 #[vL p0 os.length c0] 24, bk b486 #[vS prof, vS f, vS g] 9, bk b492 #[vS [104, 111, 117, 114, 115], vS [111, 110, 101, 119, 97, 121], vS prof] 9, rw_ stL 1 9 (vL qn3 nd3.length cn3) nd3, rw_ inL 1 3 (vL qm3 mi3.length cm3) mi3, bk b494 #[vL qn3 nd3.length cn3, vL qm3 mi3.length cm3] 31, bk b495 #[vS [110, 97, 109, 101]] 9, rw_ stL 1 9 (vL qn4 nd4.length cn4) nd4, rw_ inL 1 3 (vL qm4 mi4.length cm4) mi4] := hM
         have hS4 := trip_same (tu := true) (ks := [[110, 97, 109, 101]]) (AS_q os ▸ fun a ha => arcs_b (fun b hb => (hmv.2 b hb).bnd) a (nub_mem ha) : ∀ a ∈ asQ (pure_ os), ArcB a) h488 (net_same (ks := [[110, 97, 109, 101]]) hk1 (by decide) (by decide) (.inl (by decide)) (.inl rfl) (pure_ os) f) (tripR_q hR3) (hP2 ▸ tripR_q hR4)
         refine varm 9 11 18 [(104, .agg #[vL qn4 nd4.length cn4, vL qm4 mi4.length cm4]), (105, vI c4)] [] 31 (.agg #[vL qn4 nd4.length cn4, vL qm4 mi4.length cm4]) f0 hM fun b496 w1 hM => calM 10 4 111 [(19, vI c4), (107, .agg #[vL p0 os.length c0]), (108, vS f), (109, vS g), (110, vI m0)] (K := fun u Mn => ∃ u1 u2 c nd mi, u = .tuple #[.agg #[u1, u2], vI c] ∧ TripR foot os f g m0 c nd mi ∧ Mn = [rw_ stL 1 9 u1 nd, rw_ inL 1 3 u2 mi]) [0, 1, 2, 3, 4, 5, 6, 7, 8, 9] [] (fc (lam 24 0 0 1 hM rfl) f0) hM rfl rfl (by decide) (fun hm => ((trip_calls (prof := foot) (hmv.fr hM.fr) (by decide) hf63 (fun h => fewP_arcs h485 h) (hTe.fr hM.fr) m0).mono fun e w8 ⟨v1, v2, c, nd, mi, h1, h2, h3⟩ => ⟨_, _, h1, ⟨v1, v2, c, nd, mi, rfl, h2, rfl⟩, Mm_wk h3 fun _ h => h.elim⟩)) fun u Mn w1 hK hM => ?_
         obtain ⟨u15, u25, c5, nd5, mi5, rfl, hR5, rfl⟩ := hK
         obtain ⟨qm5, cm5, em5, sm5⟩ := (hM.src (j := 11) rfl inT.len).op
         subst em5
         have bm5 := sm5.bnd
         obtain ⟨qn5, cn5, en5, sn5⟩ := (hM.src (j := 10) rfl stT.len).op
         subst en5
         replace hM : Mm (fun _ => False) w w1 [bk b484 #[vL p0 os.length c0] 24, bk b486 #[vS prof, vS f, vS g] 9, bk b492 #[vS [104, 111, 117, 114, 115], vS [111, 110, 101, 119, 97, 121], vS prof] 9, rw_ stL 1 9 (vL qn3 nd3.length cn3) nd3, rw_ inL 1 3 (vL qm3 mi3.length cm3) mi3, bk b494 #[vL qn3 nd3.length cn3, vL qm3 mi3.length cm3] 31, bk b495 #[vS [110, 97, 109, 101]] 9, rw_ stL 1 9 (vL qn4 nd4.length cn4) nd4, rw_ inL 1 3 (vL qm4 mi4.length cm4) mi4, bk b496 #[vL qn4 nd4.length cn4, vL qm4 mi4.length cm4] 31, rw_ stL 1 9 (vL qn5 nd5.length cn5) nd5, rw_ inL 1 3 (vL qm5 mi5.length cm5) mi5] := hM
         refine varm 10 8 20 [(112, .agg #[vL qn5 nd5.length cn5, vL qm5 mi5.length cm5]), (113, vI c5)] [] 31 (.agg #[vL qn5 nd5.length cn5, vL qm5 mi5.length cm5]) f0 hM fun b497 w1 hM => newm 11 1 116 [(21, vI c5), (115, .agg #[vL p0 os.length c0])] (cs := #[vS [110, 97, 109, 101], vS [111, 110, 101, 119, 97, 121]]) (T := 9) (v := fun b => vL (some ⟨b, 0, none⟩) 2 2) (fc (lam 24 0 0 1 hM rfl) f0) hM fun b498 w1 hM => calk 11 2 117 [] (K := fun u w8 => ∃ v2 B, u = .agg #[v2] ∧ ObsV w8 v2 B ∧ pure_ B = bareP false [[110, 97, 109, 101], [111, 110, 101, 119, 97, 121]] (pure_ os)) f0 hM ((bareF_calls (hmv.fr hM.fr) (by have := fewP_len h485; omega) (fun b hb => by have := fewP_tags h485 b hb; omega) (src_lit (f := stL) (c := 1) (b := b498) (hM.get 13 (e := bk b498 #[vS [110, 97, 109, 101], vS [111, 110, 101, 119, 97, 121]] 9) rfl) [[110, 97, 109, 101], [111, 110, 101, 119, 97, 121]] 2 (fun _ => rfl) rfl rfl).src).mono fun e w8 ⟨v2, B, h1, h2, h3, h4⟩ => ⟨⟨_, h1, v2, B, rfl, h2, h3⟩, h4⟩) fun u w1 ⟨vB3, B3, hu, hB3, hP3⟩ hM f1 => ?_
         subst hu
         refine calM 11 6 121 [(118, vS f), (119, vS g), (120, vI m0)] (K := fun u Mn => ∃ u1 u2 c nd mi, u = .tuple #[.agg #[u1, u2], vI c] ∧ TripR foot B3 f g m0 c nd mi ∧ Mn = [rw_ stL 1 9 u1 nd, rw_ inL 1 3 u2 mi]) [0, 1, 2, 3, 4, 5, 6, 7, 8, 9, 10, 11, 12, 13] [] f0 hM rfl rfl (by decide) (fun hm => ((trip_calls (prof := foot) hB3 (by decide) hf63 (fun _ => bare_arcs hP3 h485 h488) (hTe.fr hM.fr) m0).mono fun e w8 ⟨v1, v2, c, nd, mi, h1, h2, h3⟩ => ⟨_, _, h1, ⟨v1, v2, c, nd, mi, rfl, h2, rfl⟩, Mm_wk h3 fun _ h => h.elim⟩)) fun u Mn w1 hK hM => ?_
         obtain ⟨u16, u26, c6, nd6, mi6, rfl, hR6, rfl⟩ := hK
         obtain ⟨qm6, cm6, em6, sm6⟩ := (hM.src (j := 15) rfl inT.len).op
         subst em6
         have bm6 := sm6.bnd
         obtain ⟨qn6, cn6, en6, sn6⟩ := (hM.src (j := 14) rfl stT.len).op
         subst en6
         replace hM : Mm (fun _ => False) w w1 [bk b484 #[vL p0 os.length c0] 24, bk b486 #[vS prof, vS f, vS g] 9, bk b492 #[vS [104, 111, 117, 114, 115], vS [111, 110, 101, 119, 97, 121], vS prof] 9, rw_ stL 1 9 (vL qn3 nd3.length cn3) nd3, rw_ inL 1 3 (vL qm3 mi3.length cm3) mi3, bk b494 #[vL qn3 nd3.length cn3, vL qm3 mi3.length cm3] 31, bk b495 #[vS [110, 97, 109, 101]] 9, rw_ stL 1 9 (vL qn4 nd4.length cn4) nd4, rw_ inL 1 3 (vL qm4 mi4.length cm4) mi4, bk b496 #[vL qn4 nd4.length cn4, vL qm4 mi4.length cm4] 31, rw_ stL 1 9 (vL qn5 nd5.length cn5) nd5, rw_ inL 1 3 (vL qm5 mi5.length cm5) mi5, bk b497 #[vL qn5 nd5.length cn5, vL qm5 mi5.length cm5] 31, bk b498 #[vS [110, 97, 109, 101], vS [111, 110, 101, 119, 97, 121]] 9, rw_ stL 1 9 (vL qn6 nd6.length cn6) nd6, rw_ inL 1 3 (vL qm6 mi6.length cm6) mi6] := hM
         have hS6 := trip_same (tu := false) (ks := [[110, 97, 109, 101], [111, 110, 101, 119, 97, 121]]) (AS_q os ▸ fun a ha => arcs_b (fun b hb => (hmv.2 b hb).bnd) a (nub_mem ha) : ∀ a ∈ asQ (pure_ os), ArcB a) h488 (net_same (ks := [[110, 97, 109, 101], [111, 110, 101, 119, 97, 121]]) (by decide) (by decide) (by decide) (.inr rfl) (.inr rfl) (pure_ os) f) (tripR_q hR5) (hP3 ▸ tripR_q hR6)
         refine varm 11 10 22 [(122, .agg #[vL qn6 nd6.length cn6, vL qm6 mi6.length cm6]), (123, vI c6)] [] 31 (.agg #[vL qn6 nd6.length cn6, vL qm6 mi6.length cm6]) f0 hM fun b499 w1 hM => seg 12 4 [(23, vI c6), (127, vB (c3 == c4))] f0 ?_
         cases h500 : (c3 == c4) with
         | false =>
          have rh500 := ef h500
          refine seg 12 12 [(132, vB false), (135, vB (c3 == 13))] f0 ?_
          cases h501 : (c3 == 13) with
          | false =>
           have rh501 := ef h501
           exact absurd ((h501).symm.trans (same_two hS4 h500).1) Bool.false_ne_true
          | true =>
           have rh501 := et h501
           refine seg 13 5 [(144, vB (c4 == 11))] f0 ?_
           cases h502 : (c4 == 11) with
           | false =>
            have rh502 := ef h502
            exact absurd ((h502).symm.trans (same_two hS4 h500).2) Bool.false_ne_true
           | true =>
            have rh502 := et h502
            refine seg 13 9 [(148, vB (c5 == c6))] f0 ?_
            cases h503 : (c5 == c6) with
            | false =>
             have rh503 := ef h503
             refine seg 13 17 [(153, vB false), (156, vB (c5 == 13))] f0 ?_
             cases h504 : (c5 == 13) with
             | false =>
              have rh504 := ef h504
              exact absurd ((h504).symm.trans (same_two hS6 h503).1) Bool.false_ne_true
             | true =>
              have rh504 := et h504
              exact rt1 10 (vB (c6 == 11)) rfl f0 (hΦ _ _ ⟨congrArg (fun b => Ending.returned (vB b)) (same_two hS6 h503).2, hM.fr⟩)
            | true =>
             have rh503 := et h503
             refine calm 13 11 151 [(149, .agg #[vL qn5 nd5.length cn5, vL qm5 mi5.length cm5]), (150, .agg #[vL qn6 nd6.length cn6, vL qm6 mi6.length cm6])] (fc (lam 31 12 0 2 hM rfl) (fc (lam 31 16 0 2 hM rfl) f0)) hM (same_calls ((hM.src (j := 10) rfl stT.len).p).2 ((hM.src (j := 11) rfl inT.len).p).2 ((hM.src (j := 14) rfl stT.len).p).2 ((hM.src (j := 15) rfl inT.len).p).2) fun w1 hM => seg 13 14 [(153, vB (sameT nd5 mi5 nd6 mi6))] f0 ?_
             cases h505 : (sameT nd5 mi5 nd6 mi6) with
             | false =>
              exact (same_dead1 hS6 h503 h505).elim
             | true =>
              exact rt1 10 (vB true) rfl f0 (hΦ _ _ ⟨rfl, hM.fr⟩)
         | true =>
          have rh500 := et h500
          refine calm 12 6 130 [(128, .agg #[vL qn3 nd3.length cn3, vL qm3 mi3.length cm3]), (129, .agg #[vL qn4 nd4.length cn4, vL qm4 mi4.length cm4])] (fc (lam 31 5 0 2 hM rfl) (fc (lam 31 9 0 2 hM rfl) f0)) hM (same_calls ((hM.src (j := 3) rfl stT.len).p).2 ((hM.src (j := 4) rfl inT.len).p).2 ((hM.src (j := 7) rfl stT.len).p).2 ((hM.src (j := 8) rfl inT.len).p).2) fun w1 hM => seg 12 9 [(132, vB (sameT nd3 mi3 nd4 mi4))] f0 ?_
          cases h506 : (sameT nd3 mi3 nd4 mi4) with
          | false =>
           exact (same_dead1 hS4 h500 h506).elim
          | true =>
           refine seg 13 9 [(144, vB true), (148, vB (c5 == c6))] f0 ?_
           cases h507 : (c5 == c6) with
           | false =>
            have rh507 := ef h507
            refine seg 13 17 [(153, vB false), (156, vB (c5 == 13))] f0 ?_
            cases h508 : (c5 == 13) with
            | false =>
             have rh508 := ef h508
             exact absurd ((h508).symm.trans (same_two hS6 h507).1) Bool.false_ne_true
            | true =>
             have rh508 := et h508
             exact rt1 10 (vB (c6 == 11)) rfl f0 (hΦ _ _ ⟨congrArg (fun b => Ending.returned (vB b)) (same_two hS6 h507).2, hM.fr⟩)
           | true =>
            have rh507 := et h507
            refine calm 13 11 151 [(149, .agg #[vL qn5 nd5.length cn5, vL qm5 mi5.length cm5]), (150, .agg #[vL qn6 nd6.length cn6, vL qm6 mi6.length cm6])] (fc (lam 31 12 0 2 hM rfl) (fc (lam 31 16 0 2 hM rfl) f0)) hM (same_calls ((hM.src (j := 10) rfl stT.len).p).2 ((hM.src (j := 11) rfl inT.len).p).2 ((hM.src (j := 14) rfl stT.len).p).2 ((hM.src (j := 15) rfl inT.len).p).2) fun w1 hM => seg 13 14 [(153, vB (sameT nd5 mi5 nd6 mi6))] f0 ?_
            cases h509 : (sameT nd5 mi5 nd6 mi6) with
            | false =>
             exact (same_dead1 hS6 h507 h509).elim
            | true =>
             exact rt1 10 (vB true) rfl f0 (hΦ _ _ ⟨rfl, hM.fr⟩)
        | true =>
         refine seg 6 5 [(80, vB (!(endO c2 mi2).isSome))] f0 ?_
         cases h510 : (endO c2 mi2).isSome with
         | false =>
          have hlaw := fewer_end (AS_q os ▸ fun a ha => arcs_b (fun b hb => (hmv.2 b hb).bnd) a (nub_mem ha) : ∀ a ∈ asQ (pure_ os), ArcB a) h488 (ef h489) (tripR_q hR1) (hP1 ▸ tripR_q hR2) h493
          rw [h510] at hlaw; exact absurd hlaw.1 Bool.false_ne_true
         | true =>
          refine seg 6 10 [(85, vB (decide (((endO c1 mi1).getD 0) < ((endO c2 mi2).getD 0))))] f0 ?_
          cases h511 : (decide (((endO c1 mi1).getD 0) < ((endO c2 mi2).getD 0))) with
          | false =>
           have rh511 := df h511
           refine calM 8 5 92 [(87, .agg #[vL p0 os.length c0]), (88, vS prof), (89, vS f), (90, vS g), (91, vI m0)] (K := fun u Mn => ∃ u1 u2 c nd mi, u = .tuple #[.agg #[u1, u2], vI c] ∧ TripR prof os f g m0 c nd mi ∧ Mn = [rw_ stL 1 9 u1 nd, rw_ inL 1 3 u2 mi]) [0, 1, 2] [] (fc (lam 24 0 0 1 hM rfl) f0) hM rfl rfl (by decide) (fun hm => ((trip_calls (prof := prof) (hmv.fr hM.fr) hp63 hf63 (fun h => fewP_arcs h485 h) (hTe.fr hM.fr) m0).mono fun e w8 ⟨v1, v2, c, nd, mi, h1, h2, h3⟩ => ⟨_, _, h1, ⟨v1, v2, c, nd, mi, rfl, h2, rfl⟩, Mm_wk h3 fun _ h => h.elim⟩)) fun u Mn w1 hK hM => ?_
           obtain ⟨u13, u23, c3, nd3, mi3, rfl, hR3, rfl⟩ := hK
           obtain ⟨qm3, cm3, em3, sm3⟩ := (hM.src (j := 4) rfl inT.len).op
           subst em3
           have bm3 := sm3.bnd
           obtain ⟨qn3, cn3, en3, sn3⟩ := (hM.src (j := 3) rfl stT.len).op
           subst en3
           replace hM : Mm (fun _ => False) w w1 [bk b484 #[vL p0 os.length c0] 24, bk b486 #[vS prof, vS f, vS g] 9, bk b492 #[vS [104, 111, 117, 114, 115], vS [111, 110, 101, 119, 97, 121], vS prof] 9, rw_ stL 1 9 (vL qn3 nd3.length cn3) nd3, rw_ inL 1 3 (vL qm3 mi3.length cm3) mi3] := hM
           refine varm 8 9 16 [(93, .agg #[vL qn3 nd3.length cn3, vL qm3 mi3.length cm3]), (94, vI c3)] [] 31 (.agg #[vL qn3 nd3.length cn3, vL qm3 mi3.length cm3]) f0 hM fun b512 w1 hM => newm 9 1 97 [(17, vI c3), (96, .agg #[vL p0 os.length c0])] (cs := #[vS [110, 97, 109, 101]]) (T := 9) (v := fun b => vL (some ⟨b, 0, none⟩) 1 1) (fc (lam 24 0 0 1 hM rfl) f0) hM fun b513 w1 hM => calk 9 2 98 [] (K := fun u w8 => ∃ v2 B, u = .agg #[v2] ∧ ObsV w8 v2 B ∧ pure_ B = bareP true [[110, 97, 109, 101]] (pure_ os)) f0 hM ((bareT_calls (hmv.fr hM.fr) (by have := fewP_len h485; omega) (fun b hb => by have := fewP_tags h485 b hb; omega) (src_lit (f := stL) (c := 1) (b := b513) (hM.get 6 (e := bk b513 #[vS [110, 97, 109, 101]] 9) rfl) [[110, 97, 109, 101]] 1 (fun _ => rfl) rfl rfl).src).mono fun e w8 ⟨v2, B, h1, h2, h3, h4⟩ => ⟨⟨_, h1, v2, B, rfl, h2, h3⟩, h4⟩) fun u w1 ⟨vB2, B2, hu, hB2, hP2⟩ hM f1 => ?_
           subst hu
           refine calM 9 7 103 [(99, vS prof), (100, vS f), (101, vS g), (102, vI m0)] (K := fun u Mn => ∃ u1 u2 c nd mi, u = .tuple #[.agg #[u1, u2], vI c] ∧ TripR prof B2 f g m0 c nd mi ∧ Mn = [rw_ stL 1 9 u1 nd, rw_ inL 1 3 u2 mi]) [0, 1, 2, 3, 4, 5, 6] [] f0 hM rfl rfl (by decide) (fun hm => ((trip_calls (prof := prof) hB2 hp63 hf63 (fun _ => bare_arcs hP2 h485 h488) (hTe.fr hM.fr) m0).mono fun e w8 ⟨v1, v2, c, nd, mi, h1, h2, h3⟩ => ⟨_, _, h1, ⟨v1, v2, c, nd, mi, rfl, h2, rfl⟩, Mm_wk h3 fun _ h => h.elim⟩)) fun u Mn w1 hK hM => ?_
           obtain ⟨u14, u24, c4, nd4, mi4, rfl, hR4, rfl⟩ := hK
           obtain ⟨qm4, cm4, em4, sm4⟩ := (hM.src (j := 8) rfl inT.len).op
           subst em4
           have bm4 := sm4.bnd
           obtain ⟨qn4, cn4, en4, sn4⟩ := (hM.src (j := 7) rfl stT.len).op
           subst en4
           replace hM : Mm (fun _ => False) w w1 [bk b484 #[vL p0 os.length c0] 24, bk b486 #[vS prof, vS f, vS g] 9, bk b492 #[vS [104, 111, 117, 114, 115], vS [111, 110, 101, 119, 97, 121], vS prof] 9, rw_ stL 1 9 (vL qn3 nd3.length cn3) nd3, rw_ inL 1 3 (vL qm3 mi3.length cm3) mi3, bk b512 #[vL qn3 nd3.length cn3, vL qm3 mi3.length cm3] 31, bk b513 #[vS [110, 97, 109, 101]] 9, rw_ stL 1 9 (vL qn4 nd4.length cn4) nd4, rw_ inL 1 3 (vL qm4 mi4.length cm4) mi4] := hM
           have hS4 := trip_same (tu := true) (ks := [[110, 97, 109, 101]]) (AS_q os ▸ fun a ha => arcs_b (fun b hb => (hmv.2 b hb).bnd) a (nub_mem ha) : ∀ a ∈ asQ (pure_ os), ArcB a) h488 (net_same (ks := [[110, 97, 109, 101]]) hk1 (by decide) (by decide) (.inl (by decide)) (.inl rfl) (pure_ os) f) (tripR_q hR3) (hP2 ▸ tripR_q hR4)
           refine varm 9 11 18 [(104, .agg #[vL qn4 nd4.length cn4, vL qm4 mi4.length cm4]), (105, vI c4)] [] 31 (.agg #[vL qn4 nd4.length cn4, vL qm4 mi4.length cm4]) f0 hM fun b514 w1 hM => calM 10 4 111 [(19, vI c4), (107, .agg #[vL p0 os.length c0]), (108, vS f), (109, vS g), (110, vI m0)] (K := fun u Mn => ∃ u1 u2 c nd mi, u = .tuple #[.agg #[u1, u2], vI c] ∧ TripR foot os f g m0 c nd mi ∧ Mn = [rw_ stL 1 9 u1 nd, rw_ inL 1 3 u2 mi]) [0, 1, 2, 3, 4, 5, 6, 7, 8, 9] [] (fc (lam 24 0 0 1 hM rfl) f0) hM rfl rfl (by decide) (fun hm => ((trip_calls (prof := foot) (hmv.fr hM.fr) (by decide) hf63 (fun h => fewP_arcs h485 h) (hTe.fr hM.fr) m0).mono fun e w8 ⟨v1, v2, c, nd, mi, h1, h2, h3⟩ => ⟨_, _, h1, ⟨v1, v2, c, nd, mi, rfl, h2, rfl⟩, Mm_wk h3 fun _ h => h.elim⟩)) fun u Mn w1 hK hM => ?_
           obtain ⟨u15, u25, c5, nd5, mi5, rfl, hR5, rfl⟩ := hK
           obtain ⟨qm5, cm5, em5, sm5⟩ := (hM.src (j := 11) rfl inT.len).op
           subst em5
           have bm5 := sm5.bnd
           obtain ⟨qn5, cn5, en5, sn5⟩ := (hM.src (j := 10) rfl stT.len).op
           subst en5
           replace hM : Mm (fun _ => False) w w1 [bk b484 #[vL p0 os.length c0] 24, bk b486 #[vS prof, vS f, vS g] 9, bk b492 #[vS [104, 111, 117, 114, 115], vS [111, 110, 101, 119, 97, 121], vS prof] 9, rw_ stL 1 9 (vL qn3 nd3.length cn3) nd3, rw_ inL 1 3 (vL qm3 mi3.length cm3) mi3, bk b512 #[vL qn3 nd3.length cn3, vL qm3 mi3.length cm3] 31, bk b513 #[vS [110, 97, 109, 101]] 9, rw_ stL 1 9 (vL qn4 nd4.length cn4) nd4, rw_ inL 1 3 (vL qm4 mi4.length cm4) mi4, bk b514 #[vL qn4 nd4.length cn4, vL qm4 mi4.length cm4] 31, rw_ stL 1 9 (vL qn5 nd5.length cn5) nd5, rw_ inL 1 3 (vL qm5 mi5.length cm5) mi5] := hM
           refine varm 10 8 20 [(112, .agg #[vL qn5 nd5.length cn5, vL qm5 mi5.length cm5]), (113, vI c5)] [] 31 (.agg #[vL qn5 nd5.length cn5, vL qm5 mi5.length cm5]) f0 hM fun b515 w1 hM => newm 11 1 116 [(21, vI c5), (115, .agg #[vL p0 os.length c0])] (cs := #[vS [110, 97, 109, 101], vS [111, 110, 101, 119, 97, 121]]) (T := 9) (v := fun b => vL (some ⟨b, 0, none⟩) 2 2) (fc (lam 24 0 0 1 hM rfl) f0) hM fun b516 w1 hM => calk 11 2 117 [] (K := fun u w8 => ∃ v2 B, u = .agg #[v2] ∧ ObsV w8 v2 B ∧ pure_ B = bareP false [[110, 97, 109, 101], [111, 110, 101, 119, 97, 121]] (pure_ os)) f0 hM ((bareF_calls (hmv.fr hM.fr) (by have := fewP_len h485; omega) (fun b hb => by have := fewP_tags h485 b hb; omega) (src_lit (f := stL) (c := 1) (b := b516) (hM.get 13 (e := bk b516 #[vS [110, 97, 109, 101], vS [111, 110, 101, 119, 97, 121]] 9) rfl) [[110, 97, 109, 101], [111, 110, 101, 119, 97, 121]] 2 (fun _ => rfl) rfl rfl).src).mono fun e w8 ⟨v2, B, h1, h2, h3, h4⟩ => ⟨⟨_, h1, v2, B, rfl, h2, h3⟩, h4⟩) fun u w1 ⟨vB3, B3, hu, hB3, hP3⟩ hM f1 => ?_
           subst hu
           refine calM 11 6 121 [(118, vS f), (119, vS g), (120, vI m0)] (K := fun u Mn => ∃ u1 u2 c nd mi, u = .tuple #[.agg #[u1, u2], vI c] ∧ TripR foot B3 f g m0 c nd mi ∧ Mn = [rw_ stL 1 9 u1 nd, rw_ inL 1 3 u2 mi]) [0, 1, 2, 3, 4, 5, 6, 7, 8, 9, 10, 11, 12, 13] [] f0 hM rfl rfl (by decide) (fun hm => ((trip_calls (prof := foot) hB3 (by decide) hf63 (fun _ => bare_arcs hP3 h485 h488) (hTe.fr hM.fr) m0).mono fun e w8 ⟨v1, v2, c, nd, mi, h1, h2, h3⟩ => ⟨_, _, h1, ⟨v1, v2, c, nd, mi, rfl, h2, rfl⟩, Mm_wk h3 fun _ h => h.elim⟩)) fun u Mn w1 hK hM => ?_
           obtain ⟨u16, u26, c6, nd6, mi6, rfl, hR6, rfl⟩ := hK
           obtain ⟨qm6, cm6, em6, sm6⟩ := (hM.src (j := 15) rfl inT.len).op
           subst em6
           have bm6 := sm6.bnd
           obtain ⟨qn6, cn6, en6, sn6⟩ := (hM.src (j := 14) rfl stT.len).op
           subst en6
           replace hM : Mm (fun _ => False) w w1 [bk b484 #[vL p0 os.length c0] 24, bk b486 #[vS prof, vS f, vS g] 9, bk b492 #[vS [104, 111, 117, 114, 115], vS [111, 110, 101, 119, 97, 121], vS prof] 9, rw_ stL 1 9 (vL qn3 nd3.length cn3) nd3, rw_ inL 1 3 (vL qm3 mi3.length cm3) mi3, bk b512 #[vL qn3 nd3.length cn3, vL qm3 mi3.length cm3] 31, bk b513 #[vS [110, 97, 109, 101]] 9, rw_ stL 1 9 (vL qn4 nd4.length cn4) nd4, rw_ inL 1 3 (vL qm4 mi4.length cm4) mi4, bk b514 #[vL qn4 nd4.length cn4, vL qm4 mi4.length cm4] 31, rw_ stL 1 9 (vL qn5 nd5.length cn5) nd5, rw_ inL 1 3 (vL qm5 mi5.length cm5) mi5, bk b515 #[vL qn5 nd5.length cn5, vL qm5 mi5.length cm5] 31, bk b516 #[vS [110, 97, 109, 101], vS [111, 110, 101, 119, 97, 121]] 9, rw_ stL 1 9 (vL qn6 nd6.length cn6) nd6, rw_ inL 1 3 (vL qm6 mi6.length cm6) mi6] := hM
           have hS6 := trip_same (tu := false) (ks := [[110, 97, 109, 101], [111, 110, 101, 119, 97, 121]]) (AS_q os ▸ fun a ha => arcs_b (fun b hb => (hmv.2 b hb).bnd) a (nub_mem ha) : ∀ a ∈ asQ (pure_ os), ArcB a) h488 (net_same (ks := [[110, 97, 109, 101], [111, 110, 101, 119, 97, 121]]) (by decide) (by decide) (by decide) (.inr rfl) (.inr rfl) (pure_ os) f) (tripR_q hR5) (hP3 ▸ tripR_q hR6)
           refine varm 11 10 22 [(122, .agg #[vL qn6 nd6.length cn6, vL qm6 mi6.length cm6]), (123, vI c6)] [] 31 (.agg #[vL qn6 nd6.length cn6, vL qm6 mi6.length cm6]) f0 hM fun b517 w1 hM => seg 12 4 [(23, vI c6), (127, vB (c3 == c4))] f0 ?_
           cases h518 : (c3 == c4) with
           | false =>
            have rh518 := ef h518
            refine seg 12 12 [(132, vB false), (135, vB (c3 == 13))] f0 ?_
            cases h519 : (c3 == 13) with
            | false =>
             have rh519 := ef h519
             exact absurd ((h519).symm.trans (same_two hS4 h518).1) Bool.false_ne_true
            | true =>
             have rh519 := et h519
             refine seg 13 5 [(144, vB (c4 == 11))] f0 ?_
             cases h520 : (c4 == 11) with
             | false =>
              have rh520 := ef h520
              exact absurd ((h520).symm.trans (same_two hS4 h518).2) Bool.false_ne_true
             | true =>
              have rh520 := et h520
              refine seg 13 9 [(148, vB (c5 == c6))] f0 ?_
              cases h521 : (c5 == c6) with
              | false =>
               have rh521 := ef h521
               refine seg 13 17 [(153, vB false), (156, vB (c5 == 13))] f0 ?_
               cases h522 : (c5 == 13) with
               | false =>
                have rh522 := ef h522
                exact absurd ((h522).symm.trans (same_two hS6 h521).1) Bool.false_ne_true
               | true =>
                have rh522 := et h522
                exact rt1 10 (vB (c6 == 11)) rfl f0 (hΦ _ _ ⟨congrArg (fun b => Ending.returned (vB b)) (same_two hS6 h521).2, hM.fr⟩)
              | true =>
               have rh521 := et h521
               refine calm 13 11 151 [(149, .agg #[vL qn5 nd5.length cn5, vL qm5 mi5.length cm5]), (150, .agg #[vL qn6 nd6.length cn6, vL qm6 mi6.length cm6])] (fc (lam 31 12 0 2 hM rfl) (fc (lam 31 16 0 2 hM rfl) f0)) hM (same_calls ((hM.src (j := 10) rfl stT.len).p).2 ((hM.src (j := 11) rfl inT.len).p).2 ((hM.src (j := 14) rfl stT.len).p).2 ((hM.src (j := 15) rfl inT.len).p).2) fun w1 hM => seg 13 14 [(153, vB (sameT nd5 mi5 nd6 mi6))] f0 ?_
               cases h523 : (sameT nd5 mi5 nd6 mi6) with
               | false =>
                exact (same_dead1 hS6 h521 h523).elim
               | true =>
                exact rt1 10 (vB true) rfl f0 (hΦ _ _ ⟨rfl, hM.fr⟩)
           | true =>
            have rh518 := et h518
            refine calm 12 6 130 [(128, .agg #[vL qn3 nd3.length cn3, vL qm3 mi3.length cm3]), (129, .agg #[vL qn4 nd4.length cn4, vL qm4 mi4.length cm4])] (fc (lam 31 5 0 2 hM rfl) (fc (lam 31 9 0 2 hM rfl) f0)) hM (same_calls ((hM.src (j := 3) rfl stT.len).p).2 ((hM.src (j := 4) rfl inT.len).p).2 ((hM.src (j := 7) rfl stT.len).p).2 ((hM.src (j := 8) rfl inT.len).p).2) fun w1 hM => seg 12 9 [(132, vB (sameT nd3 mi3 nd4 mi4))] f0 ?_
            cases h524 : (sameT nd3 mi3 nd4 mi4) with
            | false =>
             exact (same_dead1 hS4 h518 h524).elim
            | true =>
             refine seg 13 9 [(144, vB true), (148, vB (c5 == c6))] f0 ?_
             cases h525 : (c5 == c6) with
             | false =>
              have rh525 := ef h525
              refine seg 13 17 [(153, vB false), (156, vB (c5 == 13))] f0 ?_
              cases h526 : (c5 == 13) with
              | false =>
               have rh526 := ef h526
               exact absurd ((h526).symm.trans (same_two hS6 h525).1) Bool.false_ne_true
              | true =>
               have rh526 := et h526
               exact rt1 10 (vB (c6 == 11)) rfl f0 (hΦ _ _ ⟨congrArg (fun b => Ending.returned (vB b)) (same_two hS6 h525).2, hM.fr⟩)
             | true =>
              have rh525 := et h525
              refine calm 13 11 151 [(149, .agg #[vL qn5 nd5.length cn5, vL qm5 mi5.length cm5]), (150, .agg #[vL qn6 nd6.length cn6, vL qm6 mi6.length cm6])] (fc (lam 31 12 0 2 hM rfl) (fc (lam 31 16 0 2 hM rfl) f0)) hM (same_calls ((hM.src (j := 10) rfl stT.len).p).2 ((hM.src (j := 11) rfl inT.len).p).2 ((hM.src (j := 14) rfl stT.len).p).2 ((hM.src (j := 15) rfl inT.len).p).2) fun w1 hM => seg 13 14 [(153, vB (sameT nd5 mi5 nd6 mi6))] f0 ?_
              cases h527 : (sameT nd5 mi5 nd6 mi6) with
              | false =>
               exact (same_dead1 hS6 h525 h527).elim
              | true =>
               exact rt1 10 (vB true) rfl f0 (hΦ _ _ ⟨rfl, hM.fr⟩)
          | true =>
           have rh511 := dt h511
           have hlaw := fewer_end (AS_q os ▸ fun a ha => arcs_b (fun b hb => (hmv.2 b hb).bnd) a (nub_mem ha) : ∀ a ∈ asQ (pure_ os), ArcB a) h488 (ef h489) (tripR_q hR1) (hP1 ▸ tripR_q hR2) h493
           exact absurd (dt h511) (by have := hlaw.2; omega)
       | true =>
        have rh491 := et h491
        exact rt1 10 (vB true) rfl f0 (hΦ _ _ ⟨rfl, hM.fr⟩)
      | true =>
       have rh490 := et h490
       exact rt1 10 (vB true) rfl f0 (hΦ _ _ ⟨rfl, hM.fr⟩)
     | true =>
      have rh489 := et h489
      exact rt1 10 (vB true) rfl f0 (hΦ _ _ ⟨rfl, hM.fr⟩)
end Go.Proofs.YtbflfefahheidaaGreatDoor
/- The arguments of a law are opened. -/
set_option linter.unusedVariables false
set_option linter.unusedSimpArgs false
namespace Go.Proofs.YtbflfefahheidaaGreatDoor
open Go.RowKit Go.Pl Go.ChangeShapes Go.WideShapes
section
variable {H : Type} {enc : TypeId × Value → H} {W : World} {sp : Nat → Bool} {held : Bool} {n : Nat} {cs : List Value} {x : DataW H × List MemPlace}
/-- A slice that was given, whose elements are of one kind. -/
theorem open_slc {α : Type} (dflt : α) (f : α → List Value) (c : Nat) {T E : TypeId} (hT : Tryz.prog.underlying T = some (.slice E)) (hc : Tryz.prog.cellsOf E = c) (hlen : ∀ a, (f a).length = c) (hc0 : 0 < c) (Q : α → Prop) (hel : ∀ m cs x, DataW.trod enc Tryz.prog W 0 sp held m E cs = some x → ∃ a, cs = f a ∧ Q a)
  (h : DataW.trod enc Tryz.prog W 0 sp held n T cs = some x) : ∃ (l : List α) (p : Option Addr) (cap : Nat), cs = [.slice p l.length cap] ∧ SrcP f c W p cap l ∧ ∀ a ∈ l, Q a := by
 rcases Deep.open_slice hT h with ⟨rfl, _⟩ | ⟨a, len, cap, m, n, D, Pl, rfl, _, hl, hm, hmm, _, hx⟩
 ·exact ⟨[], none, 0, rfl, ⟨Nat.le_refl _, Nat.zero_le _, .inl rfl, fun _ => rfl⟩, fun _ h => (by cases h)⟩
 ·rw [hc] at hx
  have hlm : len ≤ m := by rw [hmm]; split <;> omega
  have hall : ∀ i, i < len → ∃ s : α, (∀ j, j < c → W.cell? ((a.add (i * c)).add j) = (f s)[j]?) ∧ Q s := fun i hi => by
   obtain ⟨cs', h1, h2⟩ := hx i (by omega)
   obtain ⟨_, _, h3⟩ := World.cells?_some h1
   obtain ⟨s, rfl, hq⟩ := hel _ _ _ h2
   exact ⟨s, fun j hj => by rw [h3 j hj], hq⟩
  haveI : Inhabited α := ⟨dflt⟩
  obtain ⟨g, hg⟩ := Deep.choose_lt hall
  refine ⟨(List.range len).map g, some a, cap, by simp, ⟨by simpa using hl, hm, ?_, fun h => by cases h⟩, fun s hs => ?_⟩
  ·rcases Nat.eq_zero_or_pos len with h0 | h0
   ·left; rw [h0]; rfl
   ·right
    have hspot : a = ⟨a.block, a.off, none⟩ ∧ a.block < W.heap.size := by
     have := (hg 0 h0).1 0 hc0
     rw [Nat.zero_mul] at this
     have e0 : (a.add 0).add 0 = a := by simp [Addr.add]
     rw [e0] at this
     obtain ⟨v0, hv0⟩ : ∃ v, (f (g 0))[0]? = some v := ⟨_, List.getElem?_eq_getElem (by rw [hlen]; exact hc0)⟩
     rw [hv0] at this
     refine ⟨?_, World.block_lt_of_cell? W a this⟩
     cases a with
     | mk b o s =>
      cases s with
      | none => rfl
      | some k =>
       unfold World.cell? at this
       split at this <;> simp at this
    refine ⟨a.block, a.off, by rw [← hspot.1], hspot.2, fun i s hs j v hv => ?_⟩
    rw [List.getElem?_map] at hs
    have hi : i < len := by
     cases h : (List.range len)[i]? with
     | none => rw [h] at hs; cases hs
     | some x => have := (List.getElem?_eq_some_iff.1 h).1; simpa using this
    rw [List.getElem?_range hi] at hs
    simp at hs
    subst hs
    have hj : j < c := by
     have := (List.getElem?_eq_some_iff.1 hv).1
     rw [hlen] at this; exact this
    have := (hg i hi).1 j hj
    have e : ((⟨a.block, a.off, none⟩ : Addr).add (i * c)).add j = ⟨a.block, a.off + i * c + j, none⟩ := by
     unfold Addr.add
     by_cases h1 : i * c = 0 <;> by_cases h2 : j = 0 <;> simp [h1, h2, Nat.add_assoc]
    rw [hv, hspot.1, e] at this
    exact this
  ·obtain ⟨i, hi, rfl⟩ := List.mem_map.1 hs
   exact (hg i (List.mem_range.1 hi)).2
set_option maxRecDepth 100000 in
theorem open_str (h : DataW.trod enc Tryz.prog W 0 sp held n 9 cs = some x) : ∃ s : Bys, cs = stL s ∧ B63 s := by
 obtain ⟨s, rfl, _, hs⟩ := DataW.trod_string Tryz.underlying9 h
 obtain ⟨l, rfl⟩ := exists_ofL s
 rw [ofL_size] at hs
 exact ⟨l, rfl, by unfold maxLen at hs; unfold B63; omega⟩
set_option maxRecDepth 100000 in
theorem open_i64 (h : DataW.trod enc Tryz.prog W 0 sp held n 3 cs = some x) : ∃ m : Int, cs = [vI m] := by
 obtain ⟨m, rfl, _⟩ := DataW.trod_int Tryz.underlying3 h
 exact ⟨m, rfl⟩
set_option maxRecDepth 100000 in
theorem open_tag (h : DataW.trod enc Tryz.prog W 0 sp held n 106 cs = some x) : ∃ t : Tag, cs = tgL t ∧ (B63 t.1 ∧ B63 t.2) := by
 obtain ⟨xs, m, _, _, hl, hlen, hf⟩ := DataW.trod_struct Tryz.underlying106 h
 rw [show Tryz.prog.cellsOf 106 = 2 by kernel_rfl] at hl
 match cs, hl with
 | [c0, c1], _ =>
 obtain ⟨y0, e0⟩ : ∃ y, xs[0]? = some y := ⟨_, List.getElem?_eq_getElem (by rw [hlen]; simp)⟩
 obtain ⟨y1, e1⟩ : ∃ y, xs[1]? = some y := ⟨_, List.getElem?_eq_getElem (by rw [hlen]; simp)⟩
 have h0 : DataW.trod enc Tryz.prog W 0 sp held m 9 (List.take (Tryz.prog.cellsOf 9) (List.drop 0 [c0, c1])) = some y0 := (hf 0 _ rfl).trans e0
 have h1 : DataW.trod enc Tryz.prog W 0 sp held m 9 (List.take (Tryz.prog.cellsOf 9) (List.drop 1 [c0, c1])) = some y1 := (hf 1 _ rfl).trans e1
 rw [show Tryz.prog.cellsOf 9 = 1 by kernel_rfl] at h0 h1
 obtain ⟨s0, g0, b0⟩ := open_str h0
 obtain ⟨s1, g1, b1⟩ := open_str h1
 have g0 : [c0] = [vS s0] := g0
 have g1 : [c1] = [vS s1] := g1
 cases g0; cases g1
 exact ⟨(s0, s1), rfl, b0, b1⟩
set_option maxRecDepth 100000 in
theorem open_pt (h : DataW.trod enc Tryz.prog W 0 sp held n 61 cs = some x) : ∃ a b : Int, cs = [vI a, vI b] := by
 obtain ⟨xs, m, _, _, hl, hlen, hf⟩ := DataW.trod_struct Tryz.underlying61 h
 rw [show Tryz.prog.cellsOf 61 = 2 by kernel_rfl] at hl
 match cs, hl with
 | [c0, c1], _ =>
 obtain ⟨y0, e0⟩ : ∃ y, xs[0]? = some y := ⟨_, List.getElem?_eq_getElem (by rw [hlen]; simp)⟩
 obtain ⟨y1, e1⟩ : ∃ y, xs[1]? = some y := ⟨_, List.getElem?_eq_getElem (by rw [hlen]; simp)⟩
 have h0 : DataW.trod enc Tryz.prog W 0 sp held m 3 (List.take (Tryz.prog.cellsOf 3) (List.drop 0 [c0, c1])) = some y0 := (hf 0 _ rfl).trans e0
 have h1 : DataW.trod enc Tryz.prog W 0 sp held m 3 (List.take (Tryz.prog.cellsOf 3) (List.drop 1 [c0, c1])) = some y1 := (hf 1 _ rfl).trans e1
 rw [show Tryz.prog.cellsOf 3 = 1 by kernel_rfl] at h0 h1
 obtain ⟨s0, g0⟩ := open_i64 h0
 obtain ⟨s1, g1⟩ := open_i64 h1
 have g0 : [c0] = [vI s0] := g0
 have g1 : [c1] = [vI s1] := g1
 cases g0; cases g1
 exact ⟨s0, s1, rfl⟩
set_option maxRecDepth 100000 in
theorem open_ob (h : DataW.trod enc Tryz.prog W 0 sp held n 64 cs = some x) : ∃ b : ObR, cs = obL b ∧ ObIn W b := by
 obtain ⟨xs, m, _, _, hl, hlen, hf⟩ := DataW.trod_struct Tryz.underlying64 h
 rw [show Tryz.prog.cellsOf 64 = 6 by kernel_rfl] at hl
 match cs, hl with
 | [c0, c1, c2, c3, c4, c5], _ =>
 obtain ⟨y0, e0⟩ : ∃ y, xs[0]? = some y := ⟨_, List.getElem?_eq_getElem (by rw [hlen]; simp)⟩
 obtain ⟨y1, e1⟩ : ∃ y, xs[1]? = some y := ⟨_, List.getElem?_eq_getElem (by rw [hlen]; simp)⟩
 obtain ⟨y2, e2⟩ : ∃ y, xs[2]? = some y := ⟨_, List.getElem?_eq_getElem (by rw [hlen]; simp)⟩
 obtain ⟨y3, e3⟩ : ∃ y, xs[3]? = some y := ⟨_, List.getElem?_eq_getElem (by rw [hlen]; simp)⟩
 obtain ⟨y4, e4⟩ : ∃ y, xs[4]? = some y := ⟨_, List.getElem?_eq_getElem (by rw [hlen]; simp)⟩
 have h0 : DataW.trod enc Tryz.prog W 0 sp held m 9 (List.take (Tryz.prog.cellsOf 9) (List.drop 0 [c0, c1, c2, c3, c4, c5])) = some y0 := (hf 0 _ rfl).trans e0
 have h1 : DataW.trod enc Tryz.prog W 0 sp held m 3 (List.take (Tryz.prog.cellsOf 3) (List.drop 1 [c0, c1, c2, c3, c4, c5])) = some y1 := (hf 1 _ rfl).trans e1
 have h2 : DataW.trod enc Tryz.prog W 0 sp held m 61 (List.take (Tryz.prog.cellsOf 61) (List.drop 2 [c0, c1, c2, c3, c4, c5])) = some y2 := (hf 2 _ rfl).trans e2
 have h3 : DataW.trod enc Tryz.prog W 0 sp held m 28 (List.take (Tryz.prog.cellsOf 28) (List.drop 4 [c0, c1, c2, c3, c4, c5])) = some y3 := (hf 3 _ rfl).trans e3
 have h4 : DataW.trod enc Tryz.prog W 0 sp held m 62 (List.take (Tryz.prog.cellsOf 62) (List.drop 5 [c0, c1, c2, c3, c4, c5])) = some y4 := (hf 4 _ rfl).trans e4
 rw [show Tryz.prog.cellsOf 9 = 1 by kernel_rfl] at h0
 rw [show Tryz.prog.cellsOf 3 = 1 by kernel_rfl] at h1
 rw [show Tryz.prog.cellsOf 61 = 2 by kernel_rfl] at h2
 rw [show Tryz.prog.cellsOf 28 = 1 by kernel_rfl] at h3
 rw [show Tryz.prog.cellsOf 62 = 1 by kernel_rfl] at h4
 obtain ⟨s0, g0, b0⟩ := open_str h0
 obtain ⟨s1, g1⟩ := open_i64 h1
 obtain ⟨s2, s3, g2⟩ := open_pt h2
 obtain ⟨rs, pr, cr, g3, k3, b3⟩ := open_slc [] stL 1 Tryz.underlying28 (by kernel_rfl) (fun _ => rfl) (by decide) B63 (fun _ _ _ h => open_str h) h3
 obtain ⟨ts, pt, ct, g4, k4, b4⟩ := open_slc ([], []) tgL 2 Tryz.underlying62 (by kernel_rfl) (fun _ => rfl) (by decide) (fun t => B63 t.1 ∧ B63 t.2) (fun _ _ _ h => open_tag h) h4
 have g0 : [c0] = [vS s0] := g0
 have g1 : [c1] = [vI s1] := g1
 have g2 : [c2, c3] = [vI s2, vI s3] := g2
 have g3 : [c4] = [vL pr rs.length cr] := g3
 have g4 : [c5] = [vL pt ts.length ct] := g4
 cases g0; cases g1; cases g2; cases g3; cases g4
 exact ⟨⟨⟨s0, s1, s2, s3, rs, ts⟩, pr, cr, pt, ct⟩, rfl, k3, k4, b0, b3, b4⟩
set_option maxRecDepth 100000 in
theorem open_map (h : DataW.trod enc Tryz.prog W 0 sp held n 24 cs = some x) : ∃ (os : List ObR) (v : Value), cs = [v] ∧ ObsV W v os := by
 obtain ⟨xs, m, _, _, hl, hlen, hf⟩ := DataW.trod_struct Tryz.underlying24 h
 rw [show Tryz.prog.cellsOf 24 = 1 by kernel_rfl] at hl
 match cs, hl with
 | [c0], _ =>
 obtain ⟨y0, e0⟩ : ∃ y, xs[0]? = some y := ⟨_, List.getElem?_eq_getElem (by rw [hlen]; simp)⟩
 have h0 : DataW.trod enc Tryz.prog W 0 sp held m 22 (List.take (Tryz.prog.cellsOf 22) (List.drop 0 [c0])) = some y0 := (hf 0 _ rfl).trans e0
 rw [show Tryz.prog.cellsOf 22 = 1 by kernel_rfl] at h0
 obtain ⟨os, p, cap, g0, k0, b0⟩ := open_slc ⟨⟨[], 0, 0, 0, [], []⟩, none, 0, none, 0⟩ obL 6 Tryz.underlying22 (by kernel_rfl) (fun _ => rfl) (by decide) (ObIn W) (fun _ _ _ h => open_ob h) h0
 have g0 : [c0] = [vL p os.length cap] := g0
 cases g0
 exact ⟨os, _, rfl, k0.src, b0⟩
end
end Go.Proofs.YtbflfefahheidaaGreatDoor
/- How a law's row is closed: the call returns true and leaves all that was there; the arguments are opened. -/
set_option linter.unusedVariables false
set_option linter.unusedSimpArgs false
namespace Go.Pl
open Go.RowKit Go.ChangeShapes Go.WideShapes
theorem trodAll_below {H : Type} {enc : TypeId × Value → H} {P : Program} (hl : laidOutB P = true) {W W' : World} (hb : Below W.heap.size W W') :
  ∀ (ts : List TypeId) (vs : List Value) (ds : List (DataW H)) (ps : List MemPlace), (∀ t ∈ ts, P.readableRec t = true ∧ t < P.types.size) → DataW.TrodAll enc P W 0 (fun _ => true) true ts vs ds ps → (∀ x ∈ ps, x.block < W.heap.size) →
   DataW.TrodAll enc P W' 0 (fun b => decide (b < W.heap.size)) true ts vs ds ps
 | [], [], [], ps, _, h, _ => h
 | t :: ts, v :: vs, d :: ds, ps, hr, h, hlt => by
  obtain ⟨p, q, h1, h2, rfl⟩ := h
  exact ⟨p, q, Below.trod hl (hr t (by simp)).1 (hr t (by simp)).2 h1 hb (fun x hx => hlt x (by simp [hx])),
   trodAll_below hl hb ts vs ds q (fun t ht => hr t (by simp [ht])) h2 (fun x hx => hlt x (by simp [hx])), rfl⟩
 | [], [], _ :: _, _, _, h, _ => h.elim
 | [], _ :: _, _, _, _, h, _ => by cases h
 | _ :: _, [], _, _, _, h, _ => by cases h
 | _ :: _, _ :: _, [], _, _, h, _ => h.elim
theorem law_post {H : Type} {enc : TypeId × Value → H} {P : Program} (hl : laidOutB P = true) {fn : Func} {s : ChangeSpec} {apart fresh handsOn : Bool} {W W' : World} {args : Array Value} {ds gs : List (DataW H)} {before : List MemPlace}
  (hread : ∀ t ∈ fn.params.toList, P.readableRec t = true ∧ t < P.types.size) {tb : TypeId} (hres : fn.resultTypes = #[tb]) (htb : P.underlying tb = some .bool) (hvars : s.vars = [])
  (hs : s.fn H (ds ++ gs) = { results := [.lit (.bool true)], args := ds }) (hW : DataW.Whole enc P fn.params.toList s.vars apart W args.toList ds gs before) (hb : Below W.heap.size W W') :
  s.post enc P fn apart fresh handsOn false W args (.bool true) W' := by
 have hlt := hW.lt
 have hW0 := hW
 obtain ⟨p, q, hA, hV, hpq, _, _⟩ := hW
 refine ⟨ds, gs, before, [], p, [], hW0, ?_, ?_, ?_, hb.frame _, fun h => by cases h⟩
 ·rw [hs, hres]
  exact trodAll_mk1 (shut_bool htb _)
 ·rw [hs]
  exact trodAll_below hl hb _ _ _ _ hread hA (fun x hx => hlt x (by rw [hpq]; simp [hx]))
 ·rw [hs, hvars]
  rfl
end Go.Pl
namespace Go.Proofs.YtbflfefahheidaaGreatDoor
open Go.RowKit Go.Pl Go.ChangeShapes Go.WideShapes
theorem lOut : laidOutB Tryz.prog = true := by kernel_rfl
theorem lOwn : ownKnob Tryz.prog.godebug = none := by kernel_rfl
set_option maxRecDepth 100000 in
theorem errv_of {W : World} {name : String} {g t : Nat} {s : String} {d : DataW Unit} {ms : Array _} (hg : Tryz.prog.globalNamed name = some g) (hty : (Tryz.prog.globals[g]?).map (·.type) = some t) (ht : Tryz.prog.underlying t = some (.interface ms)) (h : Lib.VarReads Tryz.prog W name (.iface s d)) : ErrV W g := by
 obtain ⟨g', t', cs, fuel, p, hg', ht', hvar, hd⟩ := h
 obtain rfl := Option.some.inj (hg.symm.trans hg')
 obtain rfl := Option.some.inj (hty.symm.trans ht')
 cases fuel with
 | zero => cases hd
 | succ fuel =>
  unfold DataW.trod at hd
  rw [ht] at hd
  unfold World.var? at hvar
  rw [hg] at hvar
  simp only [Option.bind_some] at hvar
  split at hvar
  ·rename_i cs' T' fz hb
   obtain rfl := Option.some.inj hvar
   have key : ∃ ev, cs'.toList = [ev] ∧ (ev = .nilIface ∨ ∃ te pe, ev = .iface te pe) := by
    split at hd <;> first | (cases hd; done) | skip
    all_goals (rename_i h1 h2; first | (cases h1; done) | (cases h2; done) | (exact ⟨_, h2, .inl rfl⟩) | (exact ⟨_, h2, .inr ⟨_, _, rfl⟩⟩))
   obtain ⟨ev, h1, h2⟩ := key
   refine ⟨ev, ?_, h2⟩
   have hz : cs'[0]? = some ev := by rw [← Array.getElem?_toList, h1]; rfl
   unfold World.cell?
   simp [hb, hz]
  ·cases hvar
def laid7 : List (String × DataW Unit) := [("math/bits.deBruijn32tab", Rows.laid_math_bits_deBruijn32tab), ("math/bits.deBruijn64tab", Rows.laid_math_bits_deBruijn64tab), ("internal/strconv.uint64pow10", Rows.laid_internal_strconv_uint64pow10), ("strconv.ErrRange", Rows.laid_strconv_ErrRange), ("strconv.ErrSyntax", Rows.laid_strconv_ErrSyntax), ("unicode.White_Space", Rows.laid_unicode_White_Space), ("strings.asciiSpace", Rows.laid_strings_asciiSpace)]
set_option maxRecDepth 100000 in
/-- The door's own heap meets the condition. -/
theorem door_met (os : Os) (args : Array Value) : laidMetH Tryz.prog laid7 ((World.doorLaid Tryz.prog 86 os).forCall (fun _ _ => 0) ⟨#[], args, []⟩).memory :=
 laidMetH_of_parts3 (fuel := 8) (laidMet_of_run' 8 (by kernel_rfl) (by kernel_rfl)) (by kernel_rfl) (by kernel_rfl)
theorem tab_of {W : World} {name : String} {k : IntKind} {zs : List Int} {g : Nat} {t e : TypeId} {n : Nat} (hg : Tryz.prog.globalNamed name = some g) (hty : (Tryz.prog.globals[g]?).map (·.type) = some t) (ht : Tryz.prog.underlying t = some (.array n e)) (he : Tryz.prog.underlying e = some (.int k)) (hce : Tryz.prog.cellsOf e = 1) (hct : Tryz.prog.cellsOf t = n) (h : Lib.VarReads Tryz.prog W name (Lib.tabData k zs)) : Lib.TabIs Tryz.prog W name k zs := by
 obtain ⟨g', t', cs, fuel, p, hg', ht', hvar, hd⟩ := h
 obtain rfl := Option.some.inj (hg.symm.trans hg')
 obtain rfl := Option.some.inj (hty.symm.trans ht')
 unfold Lib.TabIs
 rw [hvar, ← Lib.cells_of_tab ht he hce hct hd]
set_option maxRecDepth 100000 in
/-- What the condition gives the walks. -/
theorem tb_of {W : World} (h : laidMetH Tryz.prog laid7 W) : Tb W := by
 rw [MakeChecks.laidMetH_plain _ _ _ (by kernel_rfl)] at h
 exact ⟨tab_of (g := 4) (t := 280) (e := 222) (n := 20) (by kernel_rfl) (by kernel_rfl) (by kernel_rfl) (by kernel_rfl) (by kernel_rfl) (by kernel_rfl) (Lib.laidMet.reads h (d := Rows.laid_internal_strconv_uint64pow10) (.tail _ (.tail _ (.head _)))),
  tab_of (g := 3) (t := 153) (e := 5) (n := 256) (by kernel_rfl) (by kernel_rfl) (by kernel_rfl) (by kernel_rfl) (by kernel_rfl) (by kernel_rfl) (Lib.laidMet.reads h (d := Rows.laid_strings_asciiSpace) (.tail _ (.tail _ (.tail _ (.tail _ (.tail _ (.tail _ (.head _))))))))⟩
set_option maxRecDepth 100000 in
theorem te_of {W : World} (h : laidMetH Tryz.prog laid7 W) : Te W := by
 have hT := tb_of h
 rw [MakeChecks.laidMetH_plain _ _ _ (by kernel_rfl)] at h
 exact ⟨hT, errv_of (g := 0) (t := 173) (by kernel_rfl) (by kernel_rfl) Tryz.underlying173 (Lib.laidMet.reads h (n := "strconv.ErrSyntax") (d := Rows.laid_strconv_ErrSyntax) (.tail _ (.tail _ (.tail _ (.tail _ (.head _)))))),
  errv_of (g := 1) (t := 173) (by kernel_rfl) (by kernel_rfl) Tryz.underlying173 (Lib.laidMet.reads h (n := "strconv.ErrRange") (d := Rows.laid_strconv_ErrRange) (.tail _ (.tail _ (.tail _ (.head _)))))⟩
end Go.Proofs.YtbflfefahheidaaGreatDoor
/- Without turns and tags that forbid nobody arrives later; without areas, routes and names trips are the same (P37.6, P37.7), for every valid map, profile, two nodes and minute. -/
set_option linter.unusedVariables false
set_option linter.unusedSimpArgs false
namespace Go.Proofs.YtbflfefahheidaaGreatDoor
open Go.RowKit Go.Pl Go.ChangeShapes Go.WideShapes
set_option maxRecDepth 100000 in
theorem pathFewer_lifted (os : Os) (started : os.Started) (H : Type) (enc : TypeId × Value → H) :
  ReturnsInHanded {} Tryz.checked os 8 .any (fun w args => (Rows.pathFewerSpec.pre enc Tryz.prog Tryz.f8 [] false w args ∧ laidMetH Tryz.prog laid7 w) ∧ sizedMet enc Tryz.prog Tryz.f8 (OpenSpec.ofChange Rows.pathFewerSpec) false w args)
   (Rows.pathFewerSpec.post enc Tryz.prog Tryz.f8 false true false false) := by
 refine returnsInHanded_of_change_and (C := Tryz.checked) (X := fun w _ => laidMetH Tryz.prog laid7 w) (fun _ _ _ hh h => h.of_heap hh) lOwn started (by kernel_rfl) Tryz.func8
  (ChangeSpec.witness_shaped (enc := enc) (C := Tryz.checked) (os := os) (X := fun w _ => laidMetH Tryz.prog laid7 w) false (World.doorLaid Tryz.prog 86 os) #[.agg #[.slice none 0 0], .string ByteArray.empty, .string ByteArray.empty, .string ByteArray.empty, .int .i64 0] 12 rfl (World.shaped_of_RefB (by kernel_rfl) (by kernel_rfl)) (by kernel_rfl) (by kernel_rfl) (by kernel_rfl) (door_met os _)) ?_
 intro W base args ds gs before hval0 hW _ _ hL _
 have hval : ∀ (j : Nat) t v, Tryz.f8.params[j]? = some t → args[j]? = some v → Value.okWide Tryz.prog W .any base t v := hval0
 have hW' := hW
 obtain ⟨p, q, hA0, hV, _, _, _⟩ := hW
 have hA : DataW.TrodAll enc Tryz.prog W 0 (fun _ => true) true Tryz.f8.params.toList args.toList ds p := hA0
 rw [Tryz.params8] at hA hval
 have hT := te_of hL
 obtain ⟨v0, vs0, d0, ds0, p0, q0, hargs, rfl, rfl, h0, r0⟩ := trodAll_cons hA
 obtain ⟨v1, vs1, d1, ds1, p1, q1, rfl, rfl, rfl, h1, r1⟩ := trodAll_cons r0
 obtain ⟨v2, vs2, d2, ds2, p2, q2, rfl, rfl, rfl, h2, r2⟩ := trodAll_cons r1
 obtain ⟨v3, vs3, d3, ds3, p3, q3, rfl, rfl, rfl, h3, r3⟩ := trodAll_cons r2
 obtain ⟨v4, vs4, d4, ds4, p4, q4, rfl, rfl, rfl, h4, r4⟩ := trodAll_cons r3
 obtain ⟨rfl, rfl, rfl⟩ := trodAll_nil r4
 obtain rfl : args = #[v0, v1, v2, v3, v4] := by cases args; simp_all
 obtain ⟨rfl, rfl⟩ := trodVars_none hV
 obtain ⟨cs0, rfl, -⟩ := okWide_struct Tryz.underlying24 (hval 0 24 v0 rfl rfl)
 obtain ⟨fu0, hf0⟩ := h0
 obtain ⟨os0, vm0, hc0, hO0⟩ := open_map hf0
 obtain rfl : cs0 = #[vm0] := by cases cs0; exact congrArg Array.mk hc0
 obtain ⟨a1, rfl, x1, y1, w1⟩ := Go.ChangeMaps.open_string Tryz.underlying9 (hval 1 9 v1 rfl rfl) h1
 obtain ⟨s1, rfl⟩ := exists_ofL a1
 have hb1 : B63 s1 := by have := w1; rw [ofL_size] at this; exact this
 obtain ⟨a2, rfl, x2, y2, w2⟩ := Go.ChangeMaps.open_string Tryz.underlying9 (hval 2 9 v2 rfl rfl) h2
 obtain ⟨s2, rfl⟩ := exists_ofL a2
 have hb2 : B63 s2 := by have := w2; rw [ofL_size] at this; exact this
 obtain ⟨a3, rfl, x3, y3, w3⟩ := Go.ChangeMaps.open_string Tryz.underlying9 (hval 3 9 v3 rfl rfl) h3
 obtain ⟨s3, rfl⟩ := exists_ofL a3
 have hb3 : B63 s3 := by have := w3; rw [ofL_size] at this; exact this
 obtain ⟨a4, rfl, x4, y4, w4⟩ := open_int Tryz.underlying3 (hval 4 3 v4 rfl rfl) h4
 refine (fewer_calls hO0 hb1 hb2 hT a4).mono fun e W' ⟨he, hg⟩ => ⟨_, he, ?_⟩
 exact law_post lOut (by intro t ht; rw [Tryz.params8] at ht; simp at ht; rcases ht with rfl | rfl | rfl <;> exact ⟨by kernel_rfl, of_decide_eq_true (by kernel_rfl)⟩) rfl Tryz.underlying4 rfl rfl hW' (hg.below (by simp))
theorem PathFewer_holds : Rows.PathFewerSaid :=
 OpenClaim.holds_of_wide 8 Tryz.f8 rfl rfl rfl rfl rfl rfl rfl ⟨rfl, rfl, rfl, rfl, rfl⟩ rfl rfl rfl rfl rfl (by kernel_rfl) Tryz.func8 (by kernel_rfl)
  (of_decide_eq_true (by kernel_rfl)) (by unfold Func.isWrapper; first | (rw [if_pos (by decide +kernel)]; kernel_rfl) | (rw [if_neg (by decide +kernel)]; exact ⟨rfl, rfl⟩))
  (fun os started H enc _ => pathFewer_lifted os started H enc)
set_option maxRecDepth 100000 in
theorem PathFewer_card : Rows.PathFewerCardSaid :=
 Claim7.holds_tied_plain_at .later [] [.data, .data, .data, .sentinel, .sentinel, .listed, .data] true (true, "afa07effc40d7ae955d99d1858bd1b689d762936f66a9444e2ef661d05c260ea") true
  PathFewer_holds (fun _ h => by cases h) (by kernel_rfl) (fun _ h => by cases h) pathFewer_row_tie rfl ⟨rfl, rfl⟩ (by kernel_rfl) rfl
  (fun f fn hf hfn => by
   obtain rfl : f = 8 := Option.some.inj ((show Tryz.prog.funcNamed "planisphere/planispherelaw37.PathFewer" = some 8 by kernel_rfl).symm.trans hf) |>.symm
   obtain rfl : fn = Tryz.f8 := (Option.some.inj (Tryz.func8.symm.trans hfn)).symm
   exact ⟨by kernel_rfl, fun j t ht => by
    rw [Tryz.params8] at ht
    have hm := Array.mem_of_getElem? ht
    simp at hm
    rcases hm with rfl | rfl | rfl <;> (show Tryz.prog.wantsStandIn _ = false; kernel_rfl)⟩)
  (by kernel_rfl)
#print axioms PathFewer_card
end Go.Proofs.YtbflfefahheidaaGreatDoor
