/- NetCuts returns true, whatever its operations, its two nodes and its text: over a line that is cut nothing is sent or delivered, and the messages stay. -/
import Derived.Test.YtheogcihnclehaaTwo
namespace Go.Proofs.Ytheogcihnclehaa
open Go.RowKit Go.Pl Go.WideMaps Go.ChangeShapes Go.WideShapes
open Go.ChangeMaps (open_string)

theorem size35 (w : World) : (Go.sizeOf 35).run Try.prog w = .ok 8 w := by kernel_rfl

set_option maxRecDepth 100000 in
set_option maxHeartbeats 8000000 in
theorem cuts_walk (sa : Option Addr) (b off cap : Nat) (os : List Opr) (w : World) (h : OpsV w (.slice sa os.length cap) sa b off cap os) (x y : Int) (hx : 0 ≤ x ∧ x ≤ 255) (hy : 0 ≤ y ∧ y ≤ 255) (t : ByteArray) (ht : t.size ≤ 9223372036854775807) :
    Calls Try.prog 7 #[.slice sa os.length cap, .int .u8 x, .int .u8 y, .string t] w fun e w' => e = .returned (.bool true) ∧ Fr (fun _ => False) w w' := by
  obtain ⟨n, hn⟩ : ∃ n, n = os.length := ⟨_, rfl⟩
  have hN := Lib.hid hn
  have hle := h.le
  have hfew := Lib.hid (fun w' => few_calls sa b off cap os w' h.ix)
  have hix := h.ix
  have HO := Lib.hid h.at_
  have htx := Lib.hid h.tx
  rw [← hn] at hfew hix hle ⊢
  have HX := Lib.hid hix
  clear hn h hix
  go_enter Try.func7, Try.ntmps7
  go_wp2_with fail
  refine (head_calls w).mono ?_
  rintro e w1 ⟨rfl, f1⟩
  go_wp2_with fail
  refine (new_yes 3 _ (by omega) (by omega)).mono ?_
  intro e w2 hn
  obtain ⟨p, ρ, rfl, m0⟩ := hn.mine
  have m : Mine w w2 p ρ (NetS.new 3) := ⟨m0.net, f1.trans m0.fr, fun r hr => Nat.le_trans f1.size (m0.fresh r hr)⟩
  clear hn m0 f1
  go_wp2_with fail
  refine (new_yes 3 _ (by omega) (by omega)).mono ?_
  intro e w3 hn
  obtain ⟨p2, ρ2, rfl, T⟩ := m.second hn
  clear hn m
  have hF := Lib.hid (hfew.out w3 (HO.out.fr T.a.fr (by simp)) hle htx.out)
  go_wp2_with fail
  refine hF.out.mono ?_
  rintro e w4 ⟨rfl, rfl⟩
  clear hF hfew
  by_cases hfw : fewB os = true
  · by_cases hbig : 60 < t.size
    · go_wp2
      go_ret
      exact ⟨rfl, T.a.fr⟩
    have hts : t.size ≤ 60 := by omega
    go_wp2
    go_loopw [14] (fun i wr => ∃ k : Nat, k ≤ n ∧ i = .int .i64 k ∧ ∃ ρ ρ2, Two w wr p ρ (runS (NetS.new 3) (os.take k)) p2 ρ2 (runS (NetS.new 3) (os.take k))) (fun i _ => n - (intOf i).toNat)
    case atStart => exact ⟨0, by omega, rfl, ρ, ρ2, T⟩
    case round =>
      clear T
      obtain ⟨k, hk, rfl, ρ1, ρ2, T⟩ := hrel
      by_cases hlt : k < n
      · obtain ⟨o, ho⟩ : ∃ o, os[k]? = some o := ⟨_, List.getElem?_eq_getElem (by rw [← hN.out]; exact hlt)⟩
        have hsa := fun w => index_run (P := Try.prog) Try.underlying22 size35 (cap := cap) (HX.out k hlt) hlt w
        have htx' : (thr o).text.size ≤ 9223372036854775807 := htx.out o (List.mem_of_getElem? ho)
        have hA := HO.out.fr T.a.fr (by simp)
        obtain ⟨c0, c1, c2, c3, c4, c5, c6, c7⟩ := hA.eight ho
        have hsn := Lib.hid (runS_snoc (NetS.new 3) os k o ho)
        have hc3 : (0 : Int) ≤ k := by omega
        go_wp2_with fail
        refine (three_calls o _).mono ?_
        rintro e w5 ⟨rfl, f5⟩
        have T5 := T.quiet f5
        clear T f5 hA c0 c1 c2 c3 c4 c5 c6 c7
        go_wp2_with fail
        refine (T5.go (do_calls T5.a.net (thr o) htx') rfl hsn.out.symm).mono ?_
        rintro e w6 ⟨rfl, ρ6, T6⟩
        clear T5
        have hA := HO.out.fr T6.a.fr (by simp)
        obtain ⟨c0, c1, c2, c3, c4, c5, c6, c7⟩ := hA.eight ho
        go_wp2_with fail
        refine (three_calls o _).mono ?_
        rintro e w7 ⟨rfl, f7⟩
        have T7 := T6.quiet f7
        clear T6 f7 hA c0 c1 c2 c3 c4 c5 c6 c7
        go_wp2_with fail
        refine (T7.go2 (do_calls T7.b.net (thr o) htx') rfl hsn.out.symm).mono ?_
        rintro e w8 ⟨rfl, ρ8, T8⟩
        clear T7 hsa ho
        go_wp2
        go_roundw
        case rel => exact ⟨k + 1, by omega, by go_num, ρ6, ρ8, T8⟩
        case measure => simp [intOf]; omega
      · have hkn : k = n := by omega
        have e0 : os.take k = os := List.take_of_length_le (by rw [← hN.out]; omega)
        rw [e0] at T
        obtain ⟨S, hS⟩ : ∃ S, S = runS (NetS.new 3) os := ⟨_, rfl⟩
        have h3 : S.nodes = 3 := by rw [hS, runS_nodes]; rfl
        rw [← hS] at T
        clear hS e0 hkn
        go_wp2_with fail
        refine (three_calls ⟨0, x, y, 0, 0, 0, ByteArray.empty, false⟩ _).mono ?_
        rintro e w5 ⟨rfl, f5⟩
        have T5 := T.quiet f5
        have hin := thr_in ⟨0, x, y, 0, 0, 0, ByteArray.empty, false⟩
        generalize thr ⟨0, x, y, 0, 0, 0, ByteArray.empty, false⟩ = q at *
        obtain ⟨h1, h2, h4, h5, h6⟩ := hin
        have hr : S.right q.a q.b := ⟨h1, h4, by omega, by omega, h6⟩
        have hr2 : S.right q.b q.a := ⟨h4, h1, by omega, by omega, fun e => h6 e.symm⟩
        obtain ⟨S1, hS1⟩ : ∃ S1, S1 = S.cutOff q.a q.b true := ⟨_, rfl⟩
        have c1 : S1.cut q.a q.b = true := by rw [hS1, NetS.cutOff, if_pos hr]; simp
        have c2 : S1.cut q.b q.a = true := by rw [hS1, NetS.cutOff, if_pos hr]; simp
        have r1 : S1.right q.a q.b := by rw [hS1, NetS.cutOff, if_pos hr]; exact hr
        have r2 : S1.right q.b q.a := by rw [hS1, NetS.cutOff, if_pos hr]; exact hr2
        have hq1 : S1.q = S.q := by rw [hS1, NetS.cutOff, if_pos hr]
        have hn1 : S1.nodes = 3 := by rw [hS1, NetS.cutOff, if_pos hr]; exact h3
        have e1 : S1.sendE q.a q.b t = 20 := by simp [NetS.sendE, r1, c1]
        have e2 : S1.sendE q.b q.a t = 20 := by simp [NetS.sendE, r2, c2]
        have e3 : S1.deliverE q.a q.b 0 = 20 := by simp [NetS.deliverE, r1, c1]
        have e4 : S1.deliverE q.b q.a 0 = 20 := by simp [NetS.deliverE, r2, c2]
        have g0 := T5.quiet (w' := w5.alloc (.cells q.cells 35)) (by simp)
        have hno : ρ1 w5.heap.size = none ∧ ρ2 w5.heap.size = none := by
          constructor
          · cases e : ρ1 w5.heap.size with
            | none => rfl
            | some x => have := T5.a.net.lt w5.heap.size (by rw [e]; simp); omega
          · cases e : ρ2 w5.heap.size with
            | none => rfl
            | some x => have := T5.b.net.lt w5.heap.size (by rw [e]; simp); omega
        have HC := Lib.hid (g0.goK (cut_calls g0.a.net q.a q.b true) (v' := .int .i64 0) (by rw [NetS.cutE, if_pos hr]) hS1.symm (L := w5.heap.size) (blk_alloc_new _ _) hno.1 hno.2)
        have hE : Hid (allQ S1 9 = allQ S 9) := by
          simp only [Hid, allQ_eq S1 hn1 9 (by omega), allQ_eq S h3 9 (by omega)]
          refine List.map_congr_left fun t _ => ?_
          simp only [outQ, hq1]
        have E1 := Lib.hid (show Value.int .i64 (S1.sendE q.a q.b t) = .int .i64 20 ∧ S1.send q.a q.b t = S1 from ⟨by rw [e1], by rw [NetS.send, e1]; rfl⟩)
        have E2 := Lib.hid (show Value.int .i64 (S1.sendE q.b q.a t) = .int .i64 20 ∧ S1.send q.b q.a t = S1 from ⟨by rw [e2], by rw [NetS.send, e2]; rfl⟩)
        have E3 := Lib.hid (show DV S1 q.a q.b 0 = .tuple #[.string ByteArray.empty, .int .i64 20] ∧ S1.deliver q.a q.b 0 false = S1 from ⟨by rw [DV, NetS.deliverT, e3]; rfl, by rw [NetS.deliver, e3]; rfl⟩)
        have E4 := Lib.hid (show DV S1 q.b q.a 0 = .tuple #[.string ByteArray.empty, .int .i64 20] ∧ S1.deliver q.b q.a 0 true = S1 from ⟨by rw [DV, NetS.deliverT, e4]; rfl, by rw [NetS.deliver, e4]; rfl⟩)
        have HB := Lib.hid (fun (wx : World) (hf : wx.heap[w5.heap.size]? = some (.cells q.cells 35 (0, 0))) => (show wx.cell? ⟨w5.heap.size, 1, none⟩ = some (.int .i64 q.a) ∧ wx.cell? ⟨w5.heap.size, 2, none⟩ = some (.int .i64 q.b) from
          ⟨by rw [cell_of_blk hf]; rfl, by rw [cell_of_blk hf]; rfl⟩))
        clear T T5 f5 hr hr2 hS1 c1 c2 r1 r2 hq1 hn1 e1 e2 e3 e4 g0 h3 hno
        go_wp2_with fail
        refine HC.out.mono ?_
        rintro e w6 ⟨rfl, ρ6, T6, hL, n1, n2⟩
        obtain ⟨b1, b2⟩ := HB.out _ hL
        have hL' := Lib.hid hL
        clear hL
        go_wp2_with fail
        refine (T6.goK (send_calls T6.a.net _ _ t ht) E1.out.1 E1.out.2 hL'.out n1 n2).mono ?_
        rintro e w7 ⟨rfl, ρ7, T7, hL, n1', n2'⟩
        clear T6 b1 b2 hL' n1 n2
        have n1 := n1'
        have n2 := n2'
        clear n1' n2'
        obtain ⟨b1, b2⟩ := HB.out _ hL
        have hL' := Lib.hid hL
        clear hL
        go_wp2_with fail
        refine (T7.goK (send_calls T7.a.net _ _ t ht) E2.out.1 E2.out.2 hL'.out n1 n2).mono ?_
        rintro e w8 ⟨rfl, ρ8, T8, hL, n1', n2'⟩
        clear T7 b1 b2 hL' n1 n2
        have n1 := n1'
        have n2 := n2'
        clear n1' n2'
        obtain ⟨b1, b2⟩ := HB.out _ hL
        have hL' := Lib.hid hL
        clear hL
        go_wp2_with fail
        refine (T8.goK (deliver_calls T8.a.net _ _ 0 false) E3.out.1 E3.out.2 hL'.out n1 n2).mono ?_
        rintro e w9 ⟨rfl, ρ9, T9, hL, n1', n2'⟩
        clear T8 b1 b2 hL' n1 n2
        have n1 := n1'
        have n2 := n2'
        clear n1' n2'
        obtain ⟨b1, b2⟩ := HB.out _ hL
        have hL' := Lib.hid hL
        clear hL
        go_wp2_with fail
        refine (T9.goK (deliver_calls T9.a.net _ _ 0 true) E4.out.1 E4.out.2 hL'.out n1 n2).mono ?_
        rintro e w10 ⟨rfl, ρ10, T10, hL, n1', n2'⟩
        clear T9 b1 b2 hL' n1 n2
        have n1 := n1'
        have n2 := n2'
        clear n1' n2'
        clear hL n1 n2 HB HC E1 E2 E3 E4
        go_wp2_with fail
        refine (all_calls T10.a.net).mono ?_
        intro e w11 ha
        obtain ⟨g1, cap1, vals1, ρ11, rfl, T11, hg1, L1⟩ := T10.all ha
        have hlt2 := T10.b.net.lt
        clear T10 ha
        go_wp2_with fail
        refine (all_calls T11.b.net).mono ?_
        intro e w12 ha
        obtain ⟨_, _, _, _, _, hfr12, _⟩ := id ha
        obtain ⟨g2, cap2, vals2, ρ12, rfl, T12, hg2, L2⟩ := T11.symm.all ha
        have R1 : Rds w12 g1 (allQ S1 9) := Lists.rds (by rw [allQ_length]; exact L1) (by rw [allQ_length]; omega) hfr12 (fun r h1 h2 h3 => by have := hlt2 r h3; omega)
        have R2 : Rds w12 g2 (allQ S 9) := Lists.rds (F := fun _ => False) (by rw [allQ_length]; exact L2) (by rw [allQ_length]; omega) (Fr.refl _ _) (by simp)
        have hsame := same_calls g1 g2 cap1 cap2 (allQ S1 9) (allQ S 9) w12 R1 R2 (by rw [allQ_length, allQ_length])
        rw [allQ_length] at hsame
        have HS := Lib.hid hsame
        have hfr := T12.a.fr
        clear ha hfr12 L1 L2 T11 T12 R1 R2 hsame hlt2
        go_wp2_with fail
        refine HS.out.mono ?_
        rintro e w13 ⟨rfl, f13⟩
        have hd : decide (allQ S1 9 = allQ S 9) = true := decide_eq_true hE.out
        go_wp2
        go_ret
        exact ⟨rfl, hfr.trans f13⟩
  · rw [Bool.not_eq_true] at hfw
    go_wp2
    go_ret
    exact ⟨rfl, T.a.fr⟩

set_option maxRecDepth 100000 in
theorem cuts_lifted (os : Os) (started : os.Started) (H : Type) (enc : TypeId × Value → H) :
    ReturnsInHanded {} Try.checked os 7 .any (Rows.netCutsSpec.pre6 enc Try.prog Try.f7 Rows.netCutsRow.domain false) (Rows.netCutsSpec.post enc Try.prog Try.f7 false true false false) := by
  refine returnsInHanded_of_change (C := Try.checked) Try.own started (by kernel_rfl) Try.func7
    (ChangeSpec.witness6 (enc := enc) (C := Try.checked) false ⟨#[], #[.slice none 0 0, .int .u8 0, .int .u8 0, .string ByteArray.empty], []⟩ 8 (by kernel_rfl) (by kernel_rfl) (by kernel_rfl) (by kernel_rfl)) ?_
  intro W base args ds gs before hval0 hW _ _
  have hval : ∀ (j : Nat) t v, Try.f7.params[j]? = some t → args[j]? = some v → Value.okWide Try.prog W .any base t v := hval0
  have hW' := hW
  obtain ⟨p, q, hA0, hV, _, _, _⟩ := hW
  have hA : DataW.TrodAll enc Try.prog W 0 (fun _ => true) true Try.f7.params.toList args.toList ds p := hA0
  rw [Try.params7] at hA hval
  obtain ⟨v0, vs0, d0, ds0, p0, q0, hargs, rfl, rfl, h0, r0⟩ := trodAll_cons hA
  obtain ⟨v1, vs1, d1, ds1, p1, q1, rfl, rfl, rfl, h1, r1⟩ := trodAll_cons r0
  obtain ⟨v2, vs2, d2, ds2, p2, q2, rfl, rfl, rfl, h2, r2⟩ := trodAll_cons r1
  obtain ⟨v3, vs3, d3, ds3, p3, q3, rfl, rfl, rfl, h3, r3⟩ := trodAll_cons r2
  obtain ⟨rfl, rfl, rfl⟩ := trodAll_nil r3
  obtain rfl : args = #[v0, v1, v2, v3] := by cases args; simp_all
  obtain ⟨rfl, rfl⟩ := trodVars_none hV
  obtain ⟨sa, b, off, cap, ops, hO⟩ := open_ops (hval 0 22 v0 rfl rfl) h0
  obtain rfl := hO.val
  obtain ⟨a1, rfl, _, _, w1⟩ := open_int Try.underlying5 (hval 1 5 v1 rfl rfl) h1
  obtain ⟨a2, rfl, _, _, w2⟩ := open_int Try.underlying5 (hval 2 5 v2 rfl rfl) h2
  obtain ⟨a3, rfl, _, _, w3⟩ := open_string Try.underlying9 (hval 3 9 v3 rfl rfl) h3
  refine (cuts_walk sa b off cap ops W hO a1 a2 (bounds_u8 w1) (bounds_u8 w2) a3 (by unfold maxLen at w3; exact w3)).mono fun e W' ⟨he, hg⟩ => ⟨_, he, ?_⟩
  exact law_post Try.laidOut (by intro t ht; rw [Try.params7] at ht; simp at ht; rcases ht with rfl | rfl | rfl | rfl <;> exact ⟨by kernel_rfl, of_decide_eq_true (by kernel_rfl)⟩) rfl Try.underlying4 rfl rfl hW' (hg.below (by simp))

theorem NetCuts_holds : Rows.NetCutsSaid :=
  OpenClaim.holds_of_wide 7 Try.f7 rfl rfl rfl rfl rfl rfl rfl ⟨rfl, rfl, rfl, rfl, rfl⟩ rfl rfl rfl rfl rfl (by kernel_rfl) Try.func7 (by kernel_rfl)
    (of_decide_eq_true (by kernel_rfl)) (by unfold Func.isWrapper; first | (rw [if_pos (by decide +kernel)]; kernel_rfl) | (rw [if_neg (by decide +kernel)]; exact ⟨rfl, rfl⟩))
    (fun os started H enc _ => cuts_lifted os started H enc)
#print axioms NetCuts_holds
end Go.Proofs.Ytheogcihnclehaa
