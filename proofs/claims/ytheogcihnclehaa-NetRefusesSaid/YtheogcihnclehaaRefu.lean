/- NetRefuses returns true, whatever its operations and its further one: one with an error changes nothing; a message spoilt once differs in the bits of one byte, and spoilt twice in the same way it is as it was. -/
import Derived.Test.YtheogcihnclehaaRef0
namespace Go.Proofs.Ytheogcihnclehaa
open Go.RowKit Go.Pl Go.WideMaps Go.ChangeShapes Go.WideShapes

theorem size35 (w : World) : (Go.sizeOf 35).run Try.prog w = .ok 8 w := by kernel_rfl

/-- The end of such a law: what all returns of two networks whose queues are the same. -/
theorem two_all {w0 w p ρ S p2 ρ2 S2} (T : Two w0 w p ρ S p2 ρ2 S2) (h3 : S.nodes = 3) (h4 : S2.nodes = 3) (hq : S.q = S2.q) :
    Calls Try.prog 19 #[.pointer (some ⟨p, 0, none⟩)] w fun e w1 => ∃ g1 cap1, e = .returned (.slice (some ⟨g1, 0, none⟩) 9 cap1) ∧
      Calls Try.prog 19 #[.pointer (some ⟨p2, 0, none⟩)] w1 fun e w2 => ∃ g2 cap2, e = .returned (.slice (some ⟨g2, 0, none⟩) 9 cap2) ∧
        Calls Try.prog 20 #[.slice (some ⟨g1, 0, none⟩) 9 cap1, .slice (some ⟨g2, 0, none⟩) 9 cap2] w2 fun e w3 => e = .returned (.bool true) ∧ Fr (fun _ => False) w0 w3 := by
  refine (all_calls T.a.net).mono ?_
  intro e w1 ha
  obtain ⟨g1, cap1, vals1, ρ3, rfl, T1, hg1, L1⟩ := T.all ha
  have hlt2 := T.b.net.lt
  refine ⟨g1, cap1, rfl, (all_calls T1.b.net).mono ?_⟩
  intro e w2 ha
  obtain ⟨_, _, _, _, _, hfr, _⟩ := id ha
  obtain ⟨g2, cap2, vals2, ρ4, rfl, T2, hg2, L2⟩ := T1.symm.all ha
  have R1 : Rds w2 g1 (allQ S 9) := Lists.rds (by rw [allQ_length]; exact L1) (by rw [allQ_length]; omega) hfr (fun r h1 h2 h3 => by have := hlt2 r h3; omega)
  have R2 : Rds w2 g2 (allQ S2 9) := Lists.rds (F := fun _ => False) (by rw [allQ_length]; exact L2) (by rw [allQ_length]; omega) (Fr.refl _ _) (by simp)
  have hE : allQ S 9 = allQ S2 9 := by
    rw [allQ_eq S h3 9 (by omega), allQ_eq S2 h4 9 (by omega)]
    refine List.map_congr_left fun t _ => ?_
    simp only [outQ, hq]
  have hsame := same_calls g1 g2 cap1 cap2 (allQ S 9) (allQ S2 9) w2 R1 R2 (by rw [allQ_length, allQ_length])
  rw [allQ_length] at hsame
  refine ⟨g2, cap2, rfl, hsame.mono ?_⟩
  rintro e w3 ⟨rfl, f3⟩
  exact ⟨by rw [decide_eq_true hE], T2.a.fr.trans f3⟩

/-- The loop over a message's bytes finds just the bits of one byte. -/
theorem byte_ok0 (t : ByteArray) (k i : Nat) (mask : Int) (hi : i < t.data.size) (h1 : 1 ≤ mask) (h2 : mask ≤ 255) :
    bits BinOp.xor .u8 (((spoilT t k mask).data[i]?.getD 0).toNat : Int) ((t.data[i]?.getD 0).toNat : Int) = if k = i then mask else 0 := by
  rw [spoilT_get t k i mask hi, Array.getElem?_eq_getElem hi]
  have hx := t.data[i].toNat_lt
  by_cases h : k = i
  · simp only [h, if_true, Option.getD_some]
    have hy := (t.data[i] ^^^ UInt8.ofNat mask.toNat).toNat_lt
    rw [u8_xor _ _ (by omega) (by omega) (by omega) (by omega), Int.toNat_natCast, Int.toNat_natCast, ← UInt8.toNat_xor, UInt8.xor_comm t.data[i], UInt8.xor_assoc, UInt8.xor_self, UInt8.xor_zero,
      UInt8.toNat_ofNat_of_lt' (by have : UInt8.size = 256 := rfl; omega)]
    omega
  · simp only [h, if_false, Option.getD_some]
    rw [u8_xor _ _ (by omega) (by omega) (by omega) (by omega), Int.toNat_natCast, ← UInt8.toNat_xor, UInt8.xor_self]
    rfl

theorem byte_ok (t : ByteArray) (k i : Nat) (mask : Int) (u : ByteArray) (hu : u = spoilT t k mask) (h1 : 1 ≤ mask) (h2 : mask ≤ 255) (g1 : i < u.size) (g2 : i < t.size) :
    bits BinOp.xor .u8 (u[i].toNat : Int) (t[i].toNat : Int) = if k = i then mask else 0 := by
  subst hu
  have := byte_ok0 t k i mask g2 h1 h2
  rw [Array.getElem?_eq_getElem (show i < (spoilT t k mask).data.size from g1), Array.getElem?_eq_getElem (show i < t.data.size from g2)] at this
  exact this

set_option maxRecDepth 100000 in
set_option maxHeartbeats 8000000 in
theorem refu_walk (sa : Option Addr) (b off cap : Nat) (os : List Opr) (w : World) (h : OpsV w (.slice sa os.length cap) sa b off cap os) (q : Opr) (ht : q.text.size ≤ 9223372036854775807) :
    Calls Try.prog 8 #[.slice sa os.length cap, .agg q.cells] w fun e w' => e = .returned (.bool true) ∧ Fr (fun _ => False) w w' := by
  obtain ⟨n, hn⟩ : ∃ n, n = os.length := ⟨_, rfl⟩
  have hN := Lib.hid hn
  have hle := h.le
  obtain ⟨W, hW⟩ : ∃ W, W = w.alloc (.cells q.cells 35) := ⟨_, rfl⟩
  have fW : Fr (fun _ => False) w W := by rw [hW]; simp
  have hq := blk_alloc_new w (.cells q.cells 35)
  rw [← hW] at hq
  have hfew := Lib.hid (fun w' => few_calls sa b off cap os w' h.ix)
  have hix := h.ix
  have HO := Lib.hid (h.at_.fr fW (by simp))
  have htx := Lib.hid h.tx
  rw [← hn] at hfew hix hle ⊢
  have HX := Lib.hid hix
  have HQ := Lib.hid (fun (wx : World) (hf : Fr (fun _ => False) W wx) => (show wx.cell? ⟨w.heap.size, 0, none⟩ = some (.int .i64 q.kind) ∧ wx.cell? ⟨w.heap.size, 1, none⟩ = some (.int .i64 q.a) ∧ wx.cell? ⟨w.heap.size, 2, none⟩ = some (.int .i64 q.b) ∧ wx.cell? ⟨w.heap.size, 3, none⟩ = some (.int .i64 q.index) ∧
      wx.cell? ⟨w.heap.size, 4, none⟩ = some (.int .i64 q.at_) ∧ wx.cell? ⟨w.heap.size, 5, none⟩ = some (.int .i64 q.mask) ∧ wx.cell? ⟨w.heap.size, 6, none⟩ = some (.string q.text) ∧ wx.cell? ⟨w.heap.size, 7, none⟩ = some (.bool q.flag) from by
    have := hf.obj hq (by simp)
    refine ⟨?_, ?_, ?_, ?_, ?_, ?_, ?_, ?_⟩ <;> (rw [cell_of_blk this]; rfl)))
  have hW0 := Lib.hid hW
  clear hn h hix hq hW
  go_enter Try.func8, Try.ntmps8
  go_wp2_with fail
  rw [← hW0.out]
  refine (head_calls W).mono ?_
  rintro e w1 ⟨rfl, f1⟩
  go_wp2_with fail
  refine (new_yes 3 _ (by omega) (by omega)).mono ?_
  intro e w2 hn
  obtain ⟨p, ρ, rfl, m0⟩ := hn.mine
  have m : Mine W w2 p ρ (NetS.new 3) := ⟨m0.net, f1.trans m0.fr, fun r hr => Nat.le_trans f1.size (m0.fresh r hr)⟩
  clear hn m0 f1
  go_wp2_with fail
  refine (new_yes 3 _ (by omega) (by omega)).mono ?_
  intro e w3 hn
  obtain ⟨p2, ρ2, rfl, T⟩ := m.second hn
  clear hn m
  have hF := Lib.hid (hfew.out w3 (HO.out.fr T.a.fr (by simp)) hle htx.out)
  go_wp2_with fail
  refine hF.out.mono ?_
  rintro e w4 ⟨rfl, rfl⟩
  clear hF hfew
  by_cases hfw : fewB os = true
  · obtain ⟨j0, j1, j2, j3, j4, j5, j6, j7⟩ := HQ.out w3 T.a.fr
    have hone : OpsAt (w3.alloc (.cells q.cells 35)) w3.heap.size 0 [q] := by
      intro i o ho j v hv
      have hi : i = 0 := by have := (List.getElem?_eq_some_iff.1 ho).1; simpa using this
      subst hi
      simp at ho; subst ho
      rw [cell_of_blk (blk_alloc_new _ _), show 0 + 0 * 8 + j = j from by omega]
      exact hv
    have hF := Lib.hid (few_calls (some ⟨w3.heap.size, 0, none⟩) w3.heap.size 0 1 [q] _ (fun _ _ => rfl) hone (by simp) (by intro o ho; simp at ho; subst ho; exact ht))
    clear hone
    have T3 := T.quiet (w' := w3.alloc (.cells q.cells 35)) (by simp)
    clear T
    go_wp2_with fail
    refine hF.out.mono ?_
    rintro e w4 ⟨rfl, rfl⟩
    clear hF j0 j1 j2 j3 j4 j5 j6 j7
    by_cases hfq : fewB [q] = true
    · go_wp2
      go_loopw [10] (fun i wr => ∃ k : Nat, k ≤ n ∧ i = .int .i64 k ∧ ∃ ρ ρ2, Two W wr p ρ (runS (NetS.new 3) (os.take k)) p2 ρ2 (runS (NetS.new 3) (os.take k))) (fun i _ => n - (intOf i).toNat)
      case atStart => exact ⟨0, by omega, rfl, ρ, ρ2, T3⟩
      case round =>
        clear T3
        obtain ⟨k, hk, rfl, ρ1, ρ2, T⟩ := hrel
        by_cases hlt : k < n
        · obtain ⟨o, ho⟩ : ∃ o, os[k]? = some o := ⟨_, List.getElem?_eq_getElem (by rw [← hN.out]; exact hlt)⟩
          have hsa := fun w => index_run (P := Try.prog) Try.underlying22 size35 (cap := cap) (HX.out k hlt) hlt w
          have htx' : (thr o).text.size ≤ 9223372036854775807 := htx.out o (List.mem_of_getElem? ho)
          have hA := HO.out.fr T.a.fr (by simp)
          obtain ⟨c0, c1, c2, c3, c4, c5, c6, c7⟩ := hA.eight ho
          have hsn := Lib.hid (runS_snoc (NetS.new 3) os k o ho)
          go_wp2_with fail
          refine (three_calls o _).mono ?_
          rintro e w5 ⟨rfl, f5⟩
          have T5 := T.quiet f5
          clear T f5 hA c0 c1 c2 c3 c4 c5 c6 c7
          go_wp2_with fail
          refine (T5.go (do_calls T5.a.net (thr o) htx') rfl hsn.out.symm).mono ?_
          rintro e w6 ⟨rfl, ρ6, T6⟩
          clear T5
          have hA := HO.out.fr T6.a.fr (by simp)
          obtain ⟨c0, c1, c2, c3, c4, c5, c6, c7⟩ := hA.eight ho
          go_wp2_with fail
          refine (three_calls o _).mono ?_
          rintro e w7 ⟨rfl, f7⟩
          have T7 := T6.quiet f7
          clear T6 f7 hA c0 c1 c2 c3 c4 c5 c6 c7
          go_wp2_with fail
          refine (T7.go2 (do_calls T7.b.net (thr o) htx') rfl hsn.out.symm).mono ?_
          rintro e w8 ⟨rfl, ρ8, T8⟩
          clear T7 hsa ho
          go_wp2
          go_roundw
          case rel => exact ⟨k + 1, by omega, by go_num, ρ6, ρ8, T8⟩
          case measure => simp [intOf]; omega
        · have hkn : k = n := by omega
          have e0 : os.take k = os := List.take_of_length_le (by rw [← hN.out]; omega)
          rw [e0] at T
          obtain ⟨S, hS⟩ : ∃ S, S = runS (NetS.new 3) os := ⟨_, rfl⟩
          have h3 : S.nodes = 3 := by rw [hS, runS_nodes]; rfl
          rw [← hS] at T
          clear hS e0 hkn HO htx HX hN
          obtain ⟨j0, j1, j2, j3, j4, j5, j6, j7⟩ := HQ.out _ T.a.fr
          go_wp2_with fail
          refine (T.go (do_calls T.a.net q ht) (v' := .tuple #[.string (doT S q), .int .i64 (doK S q), .int .i64 (doE S q)]) rfl rfl).mono ?_
          rintro e w5 ⟨rfl, ρ5, T5⟩
          clear T j0 j1 j2 j3 j4 j5 j6 j7
          by_cases hE : doE S q = 0
          · obtain ⟨j0, j1, j2, j3, j4, j5, j6, j7⟩ := HQ.out _ T5.a.fr
            have hEb : (doE S q != 0) = false := by simpa using hE
            by_cases hk3 : q.kind = 3
            · have hk3b : (q.kind != 3) = false := by simpa using hk3
              have hdo : doS S q = S.spoil q.a q.b q.index q.at_ q.mask ∧ doE S q = S.spoilE q.a q.b q.index q.at_ q.mask := by simp [doS, doE, hk3]
              rw [hdo.1] at T5
              have hsp : S.spoilE q.a q.b q.index q.at_ q.mask = 0 := hdo.2 ▸ hE
              have hdo2 : ∀ X : NetS, doS X q = X.spoil q.a q.b q.index q.at_ q.mask ∧ doV X q = .tuple #[.string ByteArray.empty, .int .i64 0, .int .i64 (X.spoilE q.a q.b q.index q.at_ q.mask)] := fun X => by simp [doS, doE, doV, doT, doK, hk3]
              obtain ⟨t, smem, s1, s2, s3, s4, hr, hr2, ⟨d1, d2⟩, ⟨d3, d4⟩, d5, d6⟩ := spoil_story hsp
              obtain ⟨S', hS'⟩ : ∃ S', S' = S.spoil q.a q.b q.index q.at_ q.mask := ⟨_, rfl⟩
              rw [← hS'] at T5 hr2 d3 d4 d5 d6
              obtain ⟨u, hu⟩ : ∃ u, u = spoilT t q.at_.toNat q.mask := ⟨_, rfl⟩
              rw [← hu] at d3
              have husz : u.size = t.size := by rw [hu, spoilT_size]
              have hsz : t.size ≤ 20000 := by obtain ⟨_, _, _, _, hN⟩ := T5.b.net; exact hN.sz q.a q.b t smem
              have HB := Lib.hid (fun (i : Nat) => byte_ok t q.at_.toNat i q.mask u hu s3 s4)
              have HD := Lib.hid hdo2
              have D1 := Lib.hid d1
              have D2 := Lib.hid d2
              have D3 := Lib.hid d3
              have D4 := Lib.hid d4
              have D5 := Lib.hid d5
              have D6 := Lib.hid d6
              have C1 := Lib.hid (show Value.int .i64 (S'.cutE q.a q.b) = .int .i64 0 by rw [NetS.cutE, if_pos hr2])
              have C2 := Lib.hid (show Value.int .i64 (S.cutE q.a q.b) = .int .i64 0 by rw [NetS.cutE, if_pos hr])
              clear smem hdo hsp hdo2 hr hr2 d1 d2 d3 d4 d5 d6 hS' hu hk3 hE
              go_wp2_with fail
              refine (T5.go (cut_calls T5.a.net q.a q.b false) C1.out rfl).mono ?_
              rintro e w6 ⟨rfl, ρ6, T6⟩
              clear T5 j0 j1 j2 j3 j4 j5 j6 j7
              obtain ⟨j0, j1, j2, j3, j4, j5, j6, j7⟩ := HQ.out _ T6.a.fr
              go_wp2_with fail
              refine (T6.go2 (cut_calls T6.b.net q.a q.b false) C2.out rfl).mono ?_
              rintro e w7 ⟨rfl, ρ7, T7⟩
              clear T6 j0 j1 j2 j3 j4 j5 j6 j7
              obtain ⟨j0, j1, j2, j3, j4, j5, j6, j7⟩ := HQ.out _ T7.a.fr
              go_wp2_with fail
              refine (T7.go (deliver_calls T7.a.net q.a q.b q.index true) D3.out D4.out).mono ?_
              rintro e w8 ⟨rfl, ρ8, T8⟩
              clear T7 j0 j1 j2 j3 j4 j5 j6 j7
              obtain ⟨j0, j1, j2, j3, j4, j5, j6, j7⟩ := HQ.out _ T8.a.fr
              go_wp2_with fail
              refine (T8.go2 (deliver_calls T8.b.net q.a q.b q.index true) D1.out D2.out).mono ?_
              rintro e w9 ⟨rfl, ρ9, T9⟩
              clear T8 j0 j1 j2 j3 j4 j5 j6 j7
              obtain ⟨j0, j1, j2, j3, j4, j5, j6, j7⟩ := HQ.out _ T9.a.fr
              go_wp2
              go_loopw [18] (fun i wr => ∃ k : Nat, k ≤ t.size ∧ i = .int .i64 k ∧ ∃ r, wr = w9.drewN r) (fun i _ => t.size - (intOf i).toNat)
              case atStart => exact ⟨0, by omega, rfl, 0, rfl⟩
              case round =>
                obtain ⟨k, hk, rfl, r, rfl⟩ := hrel
                by_cases hlt : k < t.size
                · have hkd : (k : Int) < t.size := by omega
                  by_cases hka : (k : Int) = q.at_
                  · have hkb : ((k : Int) == q.at_) = true := by simpa using hka
                    have hbit : ∀ (g1 : k < u.size) (g2 : k < t.size), bits BinOp.xor .u8 (u[k].toNat : Int) (t[k].toNat : Int) = q.mask := fun g1 g2 => by
                      rw [HB.out k g1 g2, if_pos (by omega)]
                    have hw : wrap64 q.mask = q.mask := IntWalk.wrap64_in _ (by omega)
                    clear hka
                    go_wp2
                    go_quiet (fail)
                    go_wp2
                    go_roundw
                    case rel => exact ⟨k + 1, by omega, by go_num, _, rfl⟩
                    case measure => simp [intOf]; omega
                  · have hkb : ((k : Int) == q.at_) = false := by simpa using hka
                    have hbit : ∀ (g1 : k < u.size) (g2 : k < t.size), bits BinOp.xor .u8 (u[k].toNat : Int) (t[k].toNat : Int) = 0 := fun g1 g2 => by
                      rw [HB.out k g1 g2, if_neg (by omega)]
                    clear hka
                    go_wp2
                    go_quiet (fail)
                    go_wp2
                    go_roundw
                    case rel => exact ⟨k + 1, by omega, by go_num, _, rfl⟩
                    case measure => simp [intOf]; omega
                · have TX := T9.quiet (w' := w9.drewN r) (by simp)
                  clear T9 hk
                  go_wp2_with fail
                  refine (TX.go (do_calls TX.a.net q ht) (v' := .tuple #[.string ByteArray.empty, .int .i64 0, .int .i64 0]) ((HD.out _).2.trans (by rw [D5.out])) ((HD.out _).1.trans D6.out)).mono ?_
                  rintro e w10 ⟨rfl, ρ10, T10⟩
                  have HC := Lib.hid (two_all T10 (by rw [cutOff_nodes]; exact h3) (by rw [cutOff_nodes]; exact h3) rfl)
                  clear TX T10 j0 j1 j2 j3 j4 j5 j6 j7
                  go_wp2_with fail
                  refine HC.out.mono ?_
                  rintro e w11 ⟨g1, cap1, rfl, HC2⟩
                  have HC2 := Lib.hid HC2
                  go_wp2_with fail
                  refine HC2.out.mono ?_
                  rintro e w12 ⟨g2, cap2, rfl, HC3⟩
                  have HC3 := Lib.hid HC3
                  go_wp2_with fail
                  refine HC3.out.mono ?_
                  rintro e w13 ⟨rfl, f13⟩
                  go_wp2
                  go_ret
                  exact ⟨rfl, fW.trans f13⟩
            · have hk3b : (q.kind != 3) = true := by simpa using hk3
              clear hk3 hE
              go_wp2
              go_ret
              exact ⟨rfl, fW.trans T5.a.fr⟩
          · have hsame := do_err S q hE
            rw [hsame] at T5
            have HC := Lib.hid (two_all T5 h3 h3 rfl)
            have hEb : (doE S q != 0) = true := by simpa using hE
            clear hsame T5 hE
            go_wp2_with fail
            refine HC.out.mono ?_
            rintro e w6 ⟨g1, cap1, rfl, HC2⟩
            have HC2 := Lib.hid HC2
            go_wp2_with fail
            refine HC2.out.mono ?_
            rintro e w7 ⟨g2, cap2, rfl, HC3⟩
            have HC3 := Lib.hid HC3
            go_wp2_with fail
            refine HC3.out.mono ?_
            rintro e w8 ⟨rfl, f8⟩
            go_wp2
            go_ret
            exact ⟨rfl, fW.trans f8⟩
    · rw [Bool.not_eq_true] at hfq
      go_wp2
      go_ret
      exact ⟨rfl, fW.trans T3.a.fr⟩
  · rw [Bool.not_eq_true] at hfw
    go_wp2
    go_ret
    exact ⟨rfl, fW.trans T.a.fr⟩

/-- An operation by value, opened. -/
theorem open_opr_arg {H : Type} {enc : TypeId × Value → H} {W : World} {v : Value} {d : DataW H} {ps : List MemPlace} {base : Nat} (hok : Value.okWide Try.prog W .any base 35 v) (h : DataW.Trod enc Try.prog W 0 (fun _ => true) true 35 v d ps) :
    ∃ q : Opr, v = .agg q.cells ∧ q.text.size ≤ 9223372036854775807 := by
  obtain ⟨cs, rfl, _⟩ := okWide_struct Try.underlying35 hok
  obtain ⟨fuel, hf⟩ := h
  obtain ⟨q, hq, ht⟩ := open_opr hf
  exact ⟨q, by rw [← Array.toList_inj.1 hq]; rfl, ht⟩

set_option maxRecDepth 100000 in
theorem netRefuses_lifted (os : Os) (started : os.Started) (H : Type) (enc : TypeId × Value → H) :
    ReturnsInHanded {} Try.checked os 8 .any (Rows.netRefusesSpec.pre6 enc Try.prog Try.f8 Rows.netRefusesRow.domain false) (Rows.netRefusesSpec.post enc Try.prog Try.f8 false true false false) := by
  refine returnsInHanded_of_change (C := Try.checked) Try.own started (by kernel_rfl) Try.func8
    (ChangeSpec.witness6 (enc := enc) (C := Try.checked) false ⟨#[], #[.slice none 0 0, .agg #[.int .i64 0, .int .i64 0, .int .i64 0, .int .i64 0, .int .i64 0, .int .i64 0, .string ByteArray.empty, .bool false]], []⟩ 8 (by kernel_rfl) (by kernel_rfl) (by kernel_rfl) (by kernel_rfl)) ?_
  intro W base args ds gs before hval0 hW _ _
  have hval : ∀ (j : Nat) t v, Try.f8.params[j]? = some t → args[j]? = some v → Value.okWide Try.prog W .any base t v := hval0
  have hW' := hW
  obtain ⟨p, q, hA0, hV, _, _, _⟩ := hW
  have hA : DataW.TrodAll enc Try.prog W 0 (fun _ => true) true Try.f8.params.toList args.toList ds p := hA0
  rw [Try.params8] at hA hval
  obtain ⟨v0, vs0, d0, ds0, p0, q0, hargs, rfl, rfl, h0, r0⟩ := trodAll_cons hA
  obtain ⟨v1, vs1, d1, ds1, p1, q1', rfl, rfl, rfl, h1, r1⟩ := trodAll_cons r0
  obtain ⟨rfl, rfl, rfl⟩ := trodAll_nil r1
  obtain rfl : args = #[v0, v1] := by cases args; simp_all
  obtain ⟨rfl, rfl⟩ := trodVars_none hV
  obtain ⟨sa0, b0, off0, cap0, os0, hO0⟩ := open_ops (hval 0 22 v0 rfl rfl) h0
  obtain rfl := hO0.val
  obtain ⟨q1, rfl, wq1⟩ := open_opr_arg (hval 1 35 v1 rfl rfl) h1
  refine (refu_walk sa0 b0 off0 cap0 os0 W hO0 q1 wq1).mono fun e W' ⟨he, hg⟩ => ⟨_, he, ?_⟩
  exact law_post Try.laidOut (by intro t ht; rw [Try.params8] at ht; simp at ht; rcases ht with rfl | rfl <;> exact ⟨by kernel_rfl, of_decide_eq_true (by kernel_rfl)⟩) rfl Try.underlying4 rfl rfl hW' (hg.below (by simp))

theorem NetRefuses_holds : Rows.NetRefusesSaid :=
  OpenClaim.holds_of_wide 8 Try.f8 rfl rfl rfl rfl rfl rfl rfl ⟨rfl, rfl, rfl, rfl, rfl⟩ rfl rfl rfl rfl rfl (by kernel_rfl) Try.func8 (by kernel_rfl)
    (of_decide_eq_true (by kernel_rfl)) (by unfold Func.isWrapper; first | (rw [if_pos (by decide +kernel)]; kernel_rfl) | (rw [if_neg (by decide +kernel)]; exact ⟨rfl, rfl⟩))
    (fun os started H enc _ => netRefuses_lifted os started H enc)
#print axioms NetRefuses_holds
end Go.Proofs.Ytheogcihnclehaa
