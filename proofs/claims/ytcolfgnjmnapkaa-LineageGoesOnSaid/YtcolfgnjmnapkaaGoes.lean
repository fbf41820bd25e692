/- LineageGoesOn returns true: what became of an Id is what became of the parts that it had. -/
import Derived.Test.YtcolfgnjmnapkaaTwo
namespace Go.Proofs.Ytcolfgnjmnapkaa
open Go.RowKit Go.Pl

set_option maxRecDepth 100000 in
set_option maxHeartbeats 16000000 in
theorem goes_walk (sa : Option Addr) (b0 off cap : Nat) (es : List Edt) (sb : Option Addr) (b1 off1 cap1 : Nat) (ms : List Edt) (w : World) (h : EdtsV w (.slice sa es.length cap) sa b0 off cap es) (h2 : EdtsV w (.slice sb ms.length cap1) sb b1 off1 cap1 ms) (id : ByteArray) (hid : id.size ≤ maxLen) :
    Calls Try.prog 5 #[.slice sa es.length cap, .slice sb ms.length cap1, .string id] w fun x w' => x = .returned (.bool true) ∧ Fr (fun _ => False) w w' := by
  have hfew := Lib.hid (fun w' hf => few_calls sa b0 off cap es 30 (by omega) w' h.ix (h.at_.fr (F := fun _ => False) (w' := w') hf (by simp)) h.le h.sz)
  have hfew2 := Lib.hid (fun w' hf => few_calls sb b1 off1 cap1 ms 30 (by omega) w' h2.ix (h2.at_.fr (F := fun _ => False) (w' := w') hf (by simp)) h2.le h2.sz)
  have hfol := Lib.hid (fun w' hf => followed_calls sa b0 off cap es w' h.ix (h.at_.fr (F := fun _ => False) (w' := w') hf (by simp)) h.le h.sz)
  have hn := h.le
  obtain ⟨nm, hnm⟩ : ∃ n, n = ms.length := ⟨_, rfl⟩
  have hNm := Lib.hid hnm
  have hlm := h2.le
  have MX := Lib.hid h2.ix
  have MA := Lib.hid h2.at_
  have MT := Lib.hid h2.sz
  rw [← hnm] at hfew2 hlm MX ⊢
  generalize es.length = n at *
  clear h h2 hnm
  have sb1 := hid
  unfold maxLen at sb1
  go_enter Try.func5, Try.ntmps5
  go_wp2_with fail
  refine (head_calls w).mono ?_
  rintro e w1 ⟨rfl, f1⟩
  go_wp2_with fail
  refine (hfew.out w1 f1).mono ?_
  rintro e w2 ⟨rfl, rfl⟩
  clear hfew
  by_cases hfw : fewE es 30 = true
  · go_wp2_with fail
    refine (hfew2.out w1 f1).mono ?_
    rintro e w2 ⟨rfl, rfl⟩
    clear hfew2
    by_cases hfw2 : fewE ms 30 = true
    · by_cases b2 : 100 < id.size
      · go_wp2
        go_ret
        exact ⟨rfl, f1⟩
      have hfwH := Lib.hid hfw
      have hm30 : nm ≤ 30 := by
        have h3 := hfw2
        simp [fewE] at h3
        rw [hNm.out]; exact h3.2
      go_wp2_with fail
      refine (hfol.out w1 f1).mono ?_
      intro e w3 hp
      obtain ⟨p, ρ, N, S, rfl, m, hN, hfine, -, -⟩ := hp.mine f1 hfwH.out
      clear hp hfol
      go_wp2_with fail
      refine (new_calls w3).mono ?_
      intro e w4 hnew
      obtain ⟨p2, ρ2, rfl, m2, hfr2⟩ := hnew.mine m.fr
      have f4 : Fr (fun _ => False) w3 w4 := by obtain ⟨_, _, _, _, h5, _⟩ := hnew; exact h5
      have T := Two.of m f4 m2 hfr2
      clear hnew m m2 f4 hfr2
      go_wp2_with fail
      refine (T.a.now_any (by omega) hid).mono ?_
      rintro e w5 ⟨v, ps, rfl, hps, hmem, kp, f5, hv⟩
      have hsps := Lib.hid hps
      have hpl : ps.length ≤ 200 := by
        have := T.a.lin.pt_len (sorted_nodup hps) (fun x hx => (hmem x).1 hx)
        omega
      have hmem := Lib.hid hmem
      have kpp := kp.both T.b.lin hv
      have T := T.quiet f5
      have hpsz := Lib.hid (fun x (hx : x ∈ ps) => T.a.lin.pt_le hid ((hmem.out x).1 hx))
      have hstart : Hid (GoR w p p2 S v ps 0 N 1 ρ S ρ2 LinS.new w5) := ⟨T, Goes.start S, kpp, by omega, by omega⟩
      clear kp kpp T f5 hv hps hfine
      have hkz := strs_of hstart.out.kp.a.own
      obtain ⟨sp, gp, capp, kz⟩ := hkz
      obtain rfl := kz.val
      obtain ⟨np, hnp⟩ : ∃ n, n = ps.length := ⟨_, rfl⟩
      have hNp := Lib.hid hnp
      rw [← hnp] at hpl ⊢
      clear hnp kz
      go_wp2
      go_loopw [11] (fun i wr => ∃ k : Nat, k ≤ nm ∧ i = .int .i64 k ∧ Hid (∃ N1 N2 ρ X ρ2 Y, GoR w p p2 S (.slice sp ps.length capp) ps k N1 N2 ρ X ρ2 Y wr)) (fun i _ => nm - (intOf i).toNat)
      case atStart => exact ⟨0, Nat.zero_le _, rfl, _, _, _, _, _, _, hstart.out⟩
      case round =>
        clear hstart
        obtain ⟨k, hk, rfl, hR⟩ := hrel
        obtain ⟨N1, N2, ρa, X, ρb, Y, R⟩ := hR.out
        clear hR
        by_cases hlt : k < nm
        · obtain ⟨e, ho⟩ : ∃ o, ms[k]? = some o := ⟨_, List.getElem?_eq_getElem (by rw [← hNm.out]; exact hlt)⟩
          have hsa := fun w => index_run (P := Try.prog) Try.underlying22 size38 (cap := cap1) (MX.out k hlt) hlt w
          have hsz := Lib.hid (MT.out e (List.mem_of_getElem? ho))
          have hoH := Lib.hid ho
          have hA := MA.out.fr R.t.a.fr (by simp)
          obtain ⟨c0, c1, c2, c3, c4, c5, c6, c7, c8, c9, c10, c11, c12, c13, c14⟩ := hA.cells ho
          have hcall := Lib.hid (R.t.follow e hsz.out)
          have hg := Lib.hid R.g
          have hkp := Lib.hid R.kp
          have hn1 := R.n1
          have hn2 := R.n2
          clear R hA ho
          go_wp2_with fail
          refine hcall.out.mono ?_
          rintro x w6 ⟨rfl, ρ6, T6, f6, g6⟩
          have hkp6 := Lib.hid (hkp.out.step f6 g6)
          clear c0 c1 c2 c3 c4 c5 c6 c7 c8 c9 c10 c11 c12 c13 c14 hcall hkp f6 g6
          obtain ⟨E, hE⟩ : ∃ E, E = followE X e := ⟨_, rfl⟩
          rw [← hE]
          have hEH := Lib.hid hE
          clear hE
          by_cases hE0 : E = 0
          · subst hE0
            have hA := MA.out.fr T6.a.fr (by simp)
            obtain ⟨c0, c1, c2, c3, c4, c5, c6, c7, c8, c9, c10, c11, c12, c13, c14⟩ := hA.cells hoH.out
            have hcall := Lib.hid (T6.symm.follow e hsz.out)
            clear hA T6
            go_wp2_with fail
            refine hcall.out.mono ?_
            rintro x w7 ⟨hx, ρ7, T7, f7, g7⟩
            rw [hg.out.okay hEH.out.symm] at hx
            subst hx
            have hnx : Hid (∃ N1 N2 ρ X ρ2 Y, GoR w p p2 S (.slice sp ps.length capp) ps (k + 1) N1 N2 ρ X ρ2 Y w7) :=
              ⟨_, _, _, _, _, _, T7.symm, hg.out.step hEH.out.symm, (hkp6.out.symm.step f7 g7).symm, by omega, by omega⟩
            clear c0 c1 c2 c3 c4 c5 c6 c7 c8 c9 c10 c11 c12 c13 c14 hcall T7 f7 g7 hsa
            go_wp2
            go_roundw
            case rel => exact ⟨k + 1, by omega, by go_num, hnx⟩
            case measure => simp [intOf]; omega
          · have tE : (E == 0) = false := by simpa using hE0
            rw [followS_err (by rw [← hEH.out]; exact hE0)] at T6
            have hnx : Hid (∃ N1 N2 ρ X ρ2 Y, GoR w p p2 S (.slice sp ps.length capp) ps (k + 1) N1 N2 ρ X ρ2 Y w6) :=
              ⟨_, _, _, _, _, _, T6, hg.out, hkp6.out, by omega, by omega⟩
            clear T6 hE0 hsa
            go_wp2
            go_roundw
            case rel => exact ⟨k + 1, by omega, by go_num, hnx⟩
            case measure => simp [intOf]; omega
        · have t1 : ¬ (k : Int) < nm := by omega
          have hn1 := R.n1
          have hn2 := R.n2
          have hnow := Lib.hid (R.t.a.now_any (by omega) hid)
          have RH := Lib.hid R
          clear R
          go_wp2_with fail
          refine hnow.out.mono ?_
          rintro e w8 ⟨vz, zs, rfl, hzs, hmz, kpz, f8, hvz⟩
          have TH := Lib.hid (RH.out.t.quiet f8)
          have hkp := RH.out.kp.quiet f8
          have hmzH : Hid (∀ z, z ∈ zs ↔ ∃ q ∈ ps, Y.pt q z = true) := fun z => by
            rw [hmz z, RH.out.g.pt]
            exact ⟨fun ⟨q, h1, h2⟩ => ⟨q, (hmem.out q).2 h1, h2⟩, fun ⟨q, h1, h2⟩ => ⟨q, (hmem.out q).1 h1, h2⟩⟩
          obtain ⟨sp2, gp2, capp2, kps⟩ := strs_of hkp.a.own
          have hv2 := kps.val
          simp only [Value.slice.injEq, true_and] at hv2
          obtain ⟨rfl, rfl⟩ := hv2
          obtain ⟨sz, gz, capz, kzs⟩ := strs_of kpz.own
          obtain rfl := kzs.val
          obtain ⟨nz, hnz⟩ : ∃ n, n = zs.length := ⟨_, rfl⟩
          have hNz := Lib.hid hnz
          have hlz := kzs.le
          have KPS := Lib.hid kps
          have KZS := Lib.hid kzs
          have hgp := Lib.hid (fun k hk => (hkp.a.own.lt k hk).2)
          have hgz := Lib.hid (fun k hk => (kpz.own.lt k hk).2)
          rw [← hnz] at hlz ⊢
          have hrel0 : Hid (AllR w8 Y ps 0 0 (.slice none 0 0) [] w8) := ⟨World.ownsRow_nil _ _ _ _, rfl, Nat.zero_le _, by simp, Fr.refl _ _⟩
          clear hnz hnow f8 hzs hmz kpz hvz hkp kps kzs RH
          go_wp2
          go_loopw [13, 14] (fun out i wr => ∃ k : Nat, k ≤ np ∧ i = .int .i64 k ∧ ∃ L al, Hid (AllR w8 Y ps k L out al wr)) (fun _ i _ => np - (intOf i).toNat)
          case atStart => exact ⟨0, Nat.zero_le _, rfl, 0, [], hrel0⟩
          case round =>
            clear hrel0
            obtain ⟨k2, hk2, rfl, L, al, hAll⟩ := hrel
            obtain ⟨so, co, rfl⟩ := ownsRow_slice hAll.out.own
            have hLle := hAll.out.le
            by_cases hlt2 : k2 < np
            · obtain ⟨x, hx⟩ : ∃ o, ps[k2]? = some o := ⟨_, List.getElem?_eq_getElem (by rw [← hNp.out]; exact hlt2)⟩
              have hsp := KPS.out.ix k2 (by rw [← hNp.out]; exact hlt2)
              have cx := (KPS.out.fr hAll.out.fr (by simp)).at_ k2 x hx
              have hsa := fun w => index_run (P := Try.prog) Try.underlying33 size9 (cap := capp) hsp hlt2 w
              have hTb := TH.out.b.quiet hAll.out.fr
              have hxs := hpsz.out x (List.mem_of_getElem? hx)
              have hnow := Lib.hid (hTb.now_any (by omega) hxs)
              have hpt := Lib.hid (fun us hn h => hTb.lin.pt_len (a := x) (xs := us) hn h)
              have hxH := Lib.hid hx
              have t2 : (k2 : Int) < np := by omega
              clear hx hTb hsp hxs
              go_wp2_with fail
              refine hnow.out.mono ?_
              rintro e w9 ⟨v5, us, rfl, hus, hmu, kpu, f9, hv5⟩
              have hul := hpt.out us (sorted_nodup hus) (fun y hy => (hmu y).1 hy)
              have hown := ownsRow_fr hAll.out.own f9 (by simp)
              have hfr9 := hAll.out.fr.trans f9
              have hmemN : ∀ z, z ∈ al ++ us ↔ ∃ q ∈ ps.take (k2 + 1), Y.pt q z = true := fun z => by
                rw [List.mem_append, hAll.out.mem, hmu, List.take_add_one, hxH.out]
                simp only [Option.toList_some, List.mem_append, List.mem_singleton]
                constructor
                · rintro (⟨q, h1, h2⟩ | h2)
                  · exact ⟨q, .inl h1, h2⟩
                  · exact ⟨x, .inr rfl, h2⟩
                · rintro ⟨q, h1 | rfl, h2⟩
                  · exact .inl ⟨q, h1, h2⟩
                  · exact .inr h2
              have hlenN := hAll.out.len
              obtain ⟨i0, hi0, hz0, hz1, hz2⟩ := info_parts info9
              rcases kpu.own.2 with ⟨h1, h3⟩ | ⟨g, cg, cur, h1, _, hb, h3, h4, h5, h6⟩
              · have hu0 : us = [] := List.length_eq_zero_iff.1 h3
                subst hu0
                subst h1
                have hnx : Hid (AllR w8 Y ps (k2 + 1) L (.slice so L co) al w9) := ⟨hown, hlenN, by omega, fun z => by have := hmemN z; simpa using this, hfr9⟩
                have hownH := Lib.hid hown
                clear hown hfr9 hmemN hlenN hul hus hmu kpu f9 hv5 h3 hAll hnow hpt cx
                go_wp2_with (at_builtin; refine wpList_append_own_none rfl _ _ 33 rfl w8.heap.size 9 i0 1 Try.underlying33 hi0 (.slice so L co) L (al.map .string) rfl hownH.out rfl ?_)
                go_roundw
                case rel => exact ⟨k2 + 1, by omega, by go_num, L, al, hnx⟩
                case measure => simp [intOf]; omega
              · subst h1
                obtain ⟨m, hm⟩ : ∃ m, m = us.length := ⟨_, rfl⟩
                rw [← hm] at hul h3 h6 ⊢
                have hstep : Hid (∀ v' w3, w3.ownsRow w8.heap.size 9 1 v' (L + m) (al.map .string ++ us.map .string) → w9.grownBy w3 (Value.slice so L co).ownBlock → AllR w8 Y ps (k2 + 1) (L + m) v' (al ++ us) w3) := fun v' w3 y1 y2 =>
                  ⟨by rw [List.map_append]; exact y1, by rw [List.length_append, hlenN, hm], by omega, hmemN, hfr9.grown y2 fun k hk hlt => by have := (hown.lt k hk).1; omega⟩
                have hownH := Lib.hid hown
                have hnews : Hid (∀ j u, (us.map Value.string)[j]? = some u → w9.cell? ((⟨g, 0, none⟩ : Addr).add j) = some u) := fun j u hj => by
                  rw [Addr.add_lit, Nat.zero_add, cell_of_blk hb]
                  have hjm : j < m := by
                    have := (List.getElem?_eq_some_iff.1 hj).1
                    rw [hm]; simpa using this
                  have h7 : (cur.toList.take (m * 1))[j]? = (us.map Value.string)[j]? := by rw [h6]
                  rw [List.getElem?_take_of_lt (by omega), hj] at h7
                  rw [← Array.getElem?_toList]; exact h7
                have hone : Hid (∀ u ∈ us.map Value.string, u.oneCell' = true) := fun u hu => by obtain ⟨y, _, rfl⟩ := List.mem_map.1 hu; rfl
                have hnl : Hid ((us.map Value.string).length = m * 1) := by rw [Hid, List.length_map, hm]; omega
                have hbase : w8.heap.size ≤ w9.heap.size := hfr9.size
                clear hown hfr9 hmemN hlenN hus hmu kpu f9 hv5 hAll hnow hpt cx hm hb h3 h4 h5 h6
                go_wp2_with (at_builtin; refine wpList_append_own_at _ rfl _ _ 33 rfl w8.heap.size 9 i0 (.string ByteArray.empty) 1 16 Try.underlying33 hi0 hz0 hz1 hz2 rfl (by decide) (.slice so L co) L (al.map .string) rfl hownH.out ⟨g, 0, none⟩ m cg (us.map .string) rfl hnl.out hnews.out hone.out (by unfold maxLen; omega) (by omega) hbase ?_; intro v' w3 x1 x2 _ _; have hnx := Lib.hid (hstep.out v' w3 x1 x2); clear x1 x2)
                go_roundw
                case rel => exact ⟨k2 + 1, by omega, by go_num, L + m, al ++ us, hnx⟩
                case measure => simp [intOf]; omega
            · have t2 : ¬ (k2 : Int) < np := by omega
              have hal : Hid (∀ z, z ∈ al ↔ z ∈ zs) := fun z => by
                rw [hmzH.out, hAll.out.mem, List.take_of_length_le (by rw [← hNp.out]; omega)]
              have hlenL := Lib.hid hAll.out.len
              have hown := hAll.out.own
              rw [← hlenL.out] at hown
              obtain ⟨so2, go2, co2, kal⟩ := strs_of hown
              have hv3 := kal.val
              simp only [Value.slice.injEq] at hv3
              obtain ⟨rfl, _, rfl⟩ := hv3
              have hKZ := KZS.out.fr hAll.out.fr (by simp)
              have hinZ := Lib.hid (fun z => in_calls hKZ z)
              have hinA := Lib.hid (fun z => in_calls kal z)
              rw [hlenL.out] at hinA
              rw [← hNz.out] at hinZ
              have KAL := Lib.hid kal
              have KZ2 := Lib.hid hKZ
              have hfin := Lib.hid (TH.out.a.fr.trans hAll.out.fr)
              have hLi : L ≤ 1000000 := by omega
              clear hown kal hKZ hAll
              go_wp2
              go_loop [15] (fun i => ∃ k : Nat, k ≤ L ∧ i = .int .i64 k) (fun i => L - (intOf i).toNat)
              case atStart => exact ⟨0, Nat.zero_le _, rfl⟩
              case round =>
                obtain ⟨k3, hk3, rfl⟩ := hrel
                by_cases hlt3 : k3 < L
                · obtain ⟨x, hx⟩ : ∃ o, al[k3]? = some o := ⟨_, List.getElem?_eq_getElem (by rw [hlenL.out]; exact hlt3)⟩
                  have cx := KAL.out.at_ k3 x hx
                  have hsa := fun w => index_run (P := Try.prog) Try.underlying33 size9 (cap := co) (KAL.out.ix k3 (by rw [hlenL.out]; exact hlt3)) hlt3 w
                  have hin : Hid (inB zs x = true) := inB_iff.2 ((hal.out x).1 (List.mem_of_getElem? hx))
                  have t3 : (k3 : Int) < L := by omega
                  have hc := Lib.hid (hinZ.out x)
                  rw [hin.out] at hc
                  clear hx hin
                  go_wp2_with (go_at_call 24; refine hc.out.mono ?_; rintro e w10 ⟨rfl, rfl⟩)
                  go_round
                  case rel => exact ⟨k3 + 1, by omega, by go_num⟩
                  case measure => simp [intOf]; omega
                · have t3 : ¬ (k3 : Int) < L := by omega
                  go_wp2
                  go_loop [16] (fun i => ∃ k : Nat, k ≤ nz ∧ i = .int .i64 k) (fun i => nz - (intOf i).toNat)
                  case atStart => exact ⟨0, Nat.zero_le _, rfl⟩
                  case round =>
                    obtain ⟨k4, hk4, rfl⟩ := hrel
                    by_cases hlt4 : k4 < nz
                    · obtain ⟨x, hx⟩ : ∃ o, zs[k4]? = some o := ⟨_, List.getElem?_eq_getElem (by rw [← hNz.out]; exact hlt4)⟩
                      have cx := KZ2.out.at_ k4 x hx
                      have hsa := fun w => index_run (P := Try.prog) Try.underlying33 size9 (cap := capz) (KZ2.out.ix k4 (by rw [← hNz.out]; exact hlt4)) hlt4 w
                      have hin : Hid (inB al x = true) := inB_iff.2 ((hal.out x).2 (List.mem_of_getElem? hx))
                      have t4 : (k4 : Int) < nz := by omega
                      have hc := Lib.hid (hinA.out x)
                      rw [hin.out] at hc
                      clear hx hin
                      go_wp2_with (go_at_call 24; refine hc.out.mono ?_; rintro e w10 ⟨rfl, rfl⟩)
                      go_round
                      case rel => exact ⟨k4 + 1, by omega, by go_num⟩
                      case measure => simp [intOf]; omega
                    · have t4 : ¬ (k4 : Int) < nz := by omega
                      go_wp2
                      go_ret
                      exact ⟨rfl, hfin.out⟩
    · rw [Bool.not_eq_true] at hfw2
      go_wp2
      go_ret
      exact ⟨rfl, f1⟩
  · rw [Bool.not_eq_true] at hfw
    go_wp2
    go_ret
    exact ⟨rfl, f1⟩
end Go.Proofs.Ytcolfgnjmnapkaa
