/- LineageRemoves returns true: what is dropped is a part of nothing, and an Id is gone just when all its parts are. -/
import Derived.Test.YtcolfgnjmnapkaaBoth
namespace Go.Proofs.Ytcolfgnjmnapkaa
open Go.RowKit Go.Pl

theorem LinAt.pt_le {w : World} {p N : Nat} {ρ : Roles} {S : LinS} (h : LinAt w p N ρ S) {a x : ByteArray} (ha : a.size ≤ maxLen) (hx : S.pt a x = true) : x.size ≤ maxLen := by
  obtain ⟨mp, f, h⟩ := h
  rcases h.hS a with ⟨_, _, h3⟩ | ⟨b, _, _, _, h4⟩
  · rw [h3] at hx
    have : a = x := by simpa using hx
    exact this ▸ ha
  · exact MapN.key_le h4 (by rw [setM_str, if_pos hx]; simp)

/-- The loop that drops the parts of an Id, one by one. -/
def RemR (w : World) (p : Nat) (sz : Option Addr) (gz capz : Nat) (zs : List ByteArray) (id : ByteArray) (k : Nat) (wr : World) : Prop :=
  ∃ N ρ S, Mine w wr p N ρ S ∧ Kp wr ρ (.slice sz zs.length capz) zs ∧ Strs wr (.slice sz zs.length capz) sz gz capz zs ∧ Fine S ∧ ∀ x, S.pt id x = true ↔ x ∈ zs ∧ x ∉ zs.take k

theorem rem_step {w wr : World} {p N : Nat} {ρ : Roles} {S : LinS} {sz : Option Addr} {gz capz : Nat} {zs : List ByteArray} {id : ByteArray} {k : Nat} {x : ByteArray} (hid : id.size ≤ maxLen) (m : Mine w wr p N ρ S) (kp : Kp wr ρ (.slice sz zs.length capz) zs) (kz : Strs wr (.slice sz zs.length capz) sz gz capz zs) (hf : Fine S)
    (hm : ∀ x, S.pt id x = true ↔ x ∈ zs ∧ x ∉ zs.take k) (hs : Sorted zs) (hx : zs[k]? = some x) :
    (Calls Try.prog 21 #[.pointer (some ⟨p, 0, none⟩), .string id] wr fun e w' => e = .returned (.bool false) ∧ Fr (fun _ => False) wr w') ∧
    ∀ w1, Fr (fun _ => False) wr w1 → w1.cell? ⟨gz, k, none⟩ = some (.string x) ∧ ∀ w2, Fr (fun _ => False) w1 w2 → Calls Try.prog 14 #[.pointer (some ⟨p, 0, none⟩), .agg (dro x).cells] w2 fun e w' => e = .returned (.int .i64 0) ∧ RemR w p sz gz capz zs id (k + 1) w' := by
  obtain ⟨hk, hxe⟩ := List.getElem?_eq_some_iff.1 hx
  have hno : x ∉ zs.take k := by
    intro hmem
    obtain ⟨j, hj, hje⟩ := List.mem_iff_getElem.1 hmem
    have hjk : j < k := by simp at hj; omega
    rw [List.getElem_take] at hje
    have := List.pairwise_iff_getElem.1 (sorted_nodup hs) j k (by omega) hk hjk
    exact this (hje.trans hxe.symm)
  have hpx : S.pt id x = true := (hm x).2 ⟨List.mem_of_getElem? hx, hno⟩
  refine ⟨m.gone hid (g := false) ⟨fun h => (by cases h), fun h => by rw [h x] at hpx; cases hpx⟩, fun w1 f1 => ⟨(kz.fr f1 (by simp)).at_ k x hx, fun w2 f2 => ?_⟩⟩
  have m2 := (m.quiet f1).quiet f2
  have hE : followE S (dro x) = 0 := drop_ok (hf.self id x hpx)
  refine (m2.follow (dro x) (dro_sz (m.lin.pt_le hid hpx))).mono ?_
  rintro e w3 ⟨rfl, ρ3, m3, f3, g3⟩
  refine ⟨by rw [hE], _, ρ3, _, m3, ((kp.quiet f1).quiet f2).step f3 g3, ?_, hf.follow _, fun y => ?_⟩
  · refine ((kz.fr f1 (by simp)).fr f2 (by simp)).fr f3 fun h0 hne => ?_
    have hg := kz.ix k hk
    exact hne (kp.no gz (by rw [hg]; rfl))
  · rw [dropped hE, hm y, List.take_add_one, hx]
    simp only [Option.toList_some, List.mem_append, List.mem_singleton, not_or]
    exact ⟨fun ⟨⟨h1, h2⟩, h3⟩ => ⟨h1, h2, h3⟩, fun ⟨h1, h2, h3⟩ => ⟨⟨h1, h2⟩, h3⟩⟩

set_option maxRecDepth 100000 in
set_option maxHeartbeats 8000000 in
theorem removes_walk (sa : Option Addr) (b0 off cap : Nat) (es : List Edt) (w : World) (h : EdtsV w (.slice sa es.length cap) sa b0 off cap es) (a id : ByteArray) (ha : a.size ≤ maxLen) (hid : id.size ≤ maxLen) :
    Calls Try.prog 7 #[.slice sa es.length cap, .string a, .string id] w fun x w' => x = .returned (.bool true) ∧ Fr (fun _ => False) w w' := by
  have hfew := Lib.hid (fun w' hf => few_calls sa b0 off cap es 40 (by omega) w' h.ix (h.at_.fr (F := fun _ => False) (w' := w') hf (by simp)) h.le h.sz)
  have hfol := Lib.hid (fun w' hf => followed_calls sa b0 off cap es w' h.ix (h.at_.fr (F := fun _ => False) (w' := w') hf (by simp)) h.le h.sz)
  have hn := h.le
  generalize es.length = n at *
  clear h
  have sa1 := ha
  have sb1 := hid
  unfold maxLen at sa1 sb1
  go_enter Try.func7, Try.ntmps7
  go_wp2_with fail
  refine (head_calls w).mono ?_
  rintro e w1 ⟨rfl, f1⟩
  go_wp2_with fail
  refine (hfew.out w1 f1).mono ?_
  rintro e w2 ⟨rfl, rfl⟩
  clear hfew
  by_cases hfw : fewE es 40 = true
  · by_cases b1 : 100 < a.size
    · go_wp2
      go_ret
      exact ⟨rfl, f1⟩
    by_cases b2 : 100 < id.size
    · go_wp2
      go_ret
      exact ⟨rfl, f1⟩
    have hfwH := Lib.hid hfw
    go_wp2_with fail
    refine (hfol.out w1 f1).mono ?_
    intro e w3 hp
    obtain ⟨p, ρ, N, S, rfl, m, hN, hfine, -, -⟩ := hp.mine f1 hfwH.out
    have hF := Lib.hid hfine
    clear hp hfol hfine
    go_wp2_with fail
    refine (m.now_any (by omega) hid).mono ?_
    rintro e w4 ⟨v, xs, rfl, hxs, hmem, kp, f4, _⟩
    have hxs := Lib.hid hxs
    have hmem := Lib.hid hmem
    have m := m.quiet f4
    clear f4
    go_wp2_with fail
    refine (drop_calls a _).mono ?_
    rintro e w5 ⟨rfl, f5⟩
    have m := m.quiet f5
    have kp := kp.quiet f5
    clear f5
    go_wp2_with fail
    refine (m.follow (dro a) (dro_sz ha)).mono ?_
    rintro x w6 ⟨rfl, ρ6, m2, f6, g6⟩
    have kp := kp.step f6 g6
    have m := m2
    clear m2 f6 g6
    obtain ⟨E, hE⟩ : ∃ E, E = followE S (dro a) := ⟨_, rfl⟩
    rw [← hE]
    have hEH := Lib.hid hE
    clear hE
    obtain ⟨sx, gx, capx, kx⟩ := strs_of kp.own
    obtain rfl := kx.val
    obtain ⟨nx, hnx⟩ : ∃ n, n = xs.length := ⟨_, rfl⟩
    have hlx := kx.le
    have hNx := Lib.hid hnx
    rw [← hnx] at hlx ⊢
    have kxH := Lib.hid kx
    have kpH := Lib.hid kp
    clear hnx kx kp
    by_cases hE0 : E = 0
    · subst hE0
      have hdr := Lib.hid (dropped (a := a) hEH.out.symm)
      go_wp2_with fail
      refine (m.now_any (by omega) hid).mono ?_
      rintro e w7 ⟨v2, zs, rfl, hzs0, hmem2, kpz, f7, _⟩
      have hsz := Lib.hid hzs0
      have hmz : Hid (∀ x, x ∈ zs ↔ (followS S (dro a)).pt id x = true) := hmem2
      have hlen : Hid ((zs.length : Int) = xs.length - (if inB xs a = true then 1 else 0)) := length_without hxs.out hzs0 (fun x => by rw [hmem2, hdr.out, hmem.out])
      have hfz := Lib.hid (hF.out.follow (dro a))
      have hnoz : Hid (inB zs a = false) := by rw [Hid, Bool.eq_false_iff, ne_eq, inB_iff, hmem2, hdr.out]; exact fun h => h.2 rfl
      have m := m.quiet f7
      have kpx := kpH.out.quiet f7
      rw [← hNx.out] at kpx
      clear f7 hzs0 hmem2 kxH kpH
      go_wp2_with fail
      refine (kpx.in_ a).mono ?_
      rintro e w8 ⟨rfl, rfl⟩
      obtain ⟨q, hq⟩ : ∃ q, q = inB xs a := ⟨_, rfl⟩
      have hqH := Lib.hid hq
      rw [← hq]
      clear hq kpx
      have hq1 : q = true → 1 ≤ nx := fun h => by
        rw [hqH.out, inB_iff] at h
        have := List.length_pos_of_mem h
        rw [hNx.out]; exact this
      have hq0 : q = false → nx = zs.length := fun h => by
        have h3 := hlen.out
        rw [← hqH.out, if_neg (by rw [h]; simp)] at h3
        have h5 := hNx.out
        omega
      obtain ⟨sz0, gz0, capz0, kz0⟩ := strs_of kpz.own
      obtain rfl := kz0.val
      have hlz0 := kz0.le
      have hlenB : Hid (∀ b : Bool, q = b → ((zs.length : Int) != (nx : Int) - (if b = true then 1 else 0)) = false) := fun b hb => by
        have := hlen.out
        rw [← hqH.out, ← hNx.out, hb] at this
        rw [this]; simp
      clear kz0
      have kpzH := Lib.hid kpz
      clear kpz
      cases q
      all_goals
        have tl := hlenB.out _ rfl
        simp only [if_true, Bool.false_eq_true, if_false, Int.sub_zero] at tl
        first
          | (have h1 : 1 ≤ nx := hq1 rfl
             have h2 : (0 : Int) ≤ (nx : Int) - 1 := by omega)
          | skip
        clear hq1 hlenB
        obtain ⟨nzz, hnzz⟩ : ∃ n, n = zs.length := ⟨_, rfl⟩
        rw [← hnzz] at tl hlz0 ⊢
        have hnzzH := Lib.hid hnzz
        clear hnzz
        first
          | (have h5 := hq0 rfl
             rw [← hnzzH.out] at h5
             subst h5
             clear hlz0 tl)
          | skip
        clear hq0
        have hth : Hid (Calls Try.prog 19 #[.pointer (some ⟨p, 0, none⟩), .string a] w7 fun e w' => ∃ v, e = .returned v ∧ Kp w' ρ6 v [] ∧ Fr (fun _ => False) w7 w' ∧ ∀ k, v.ownBlock = some k → w7.heap.size ≤ k) :=
          m.then_ (by omega) ha (by simp [Sorted]) (fun x => by rw [hdr.out]; simp)
        have mH := Lib.hid m
        clear m
        go_wp2_with fail
        refine hth.out.mono ?_
        rintro e w9 ⟨v3, rfl, kp3, f9, _⟩
        obtain ⟨s3, cap3, rfl⟩ := ownsRow_slice kp3.own
        have m := mH.out.quiet f9
        have kpz := kpzH.out.quiet f9
        clear f9 kp3 hth mH kpzH
        have tz : ([] : List ByteArray).length = 0 := rfl
        rw [tz]
        clear tz
        have hgo := Lib.hid (gone_calls m.lin ha)
        go_wp2_with fail
        refine hgo.out.mono ?_
        rintro e w10 ⟨g, rfl, -, f10⟩
        have m := m.quiet f10
        have kpz := kpz.quiet f10
        clear f10 hgo
        cases g with
        | true =>
          have kpzH := Lib.hid kpz
          have hi := Lib.hid (kpz.in_ a)
          rw [hnoz.out, ← hnzzH.out] at hi
          have mH := Lib.hid m
          clear m kpz
          go_wp2_with fail
          refine hi.out.mono ?_
          rintro e w11 ⟨rfl, rfl⟩
          have m := mH.out
          have kpz := kpzH.out
          clear hi mH kpzH
          rw [hnzzH.out]
          obtain ⟨sz, gz, capz, kz⟩ := strs_of kpz.own
          have hv := kz.val
          simp only [Value.slice.injEq, true_and] at hv
          obtain ⟨rfl, rfl⟩ := hv
          obtain ⟨nz, hnz⟩ : ∃ n, n = zs.length := ⟨_, rfl⟩
          have hlz := kz.le
          have hNz := Lib.hid hnz
          rw [← hnz] at hlz ⊢
          have hrel0 : Hid (RemR w p sz0 gz capz0 zs id 0 w10) := ⟨_, _, _, m, by exact kpz, kz, hfz.out, fun x => by rw [hmz.out x]; simp⟩
          have hzs := Lib.hid hsz.out
          clear hnz kz kpz m hmz hsz
          go_wp2
          go_loopw [12] (fun i wr => ∃ k : Nat, k ≤ nz ∧ i = .int .i64 k ∧ Hid (RemR w p sz0 gz capz0 zs id k wr)) (fun i _ => nz - (intOf i).toNat)
          case atStart => exact ⟨0, Nat.zero_le _, rfl, hrel0⟩
          case round =>
            clear hrel0
            obtain ⟨k, hk, rfl, hR⟩ := hrel
            obtain ⟨Nk, ρk, Sk, mk, kpk, kk, hfk, hmk⟩ := hR.out
            by_cases hlt : k < nz
            · obtain ⟨x, hx⟩ : ∃ o, zs[k]? = some o := ⟨_, List.getElem?_eq_getElem (by rw [← hNz.out]; exact hlt)⟩
              have hstep := Lib.hid (rem_step hid mk kpk kk hfk hmk hzs.out hx)
              clear hR mk kpk hfk hmk
              have c1 := kk.at_ k x hx
              have hsa := fun w => index_run (P := Try.prog) (cap := capz0) Try.underlying33 size9 (kk.ix k (by rw [← hNz.out]; exact hlt)) hlt w
              clear kk hx
              have t1 : (k : Int) < nz := by omega
              go_wp2_with fail
              refine hstep.out.1.mono ?_
              rintro e w20 ⟨rfl, f20⟩
              obtain ⟨c1, hstep2⟩ := hstep.out.2 w20 f20
              have hstep2 := Lib.hid hstep2
              clear hstep f20
              go_wp2_with fail
              refine (drop_calls x _).mono ?_
              rintro e w21 ⟨rfl, f21⟩
              have hst3 := Lib.hid (hstep2.out w21 f21)
              clear hstep2 f21
              go_wp2_with fail
              refine hst3.out.mono ?_
              rintro e w22 ⟨rfl, hnx⟩
              have hnx := Lib.hid hnx
              clear hst3 c1
              go_wp2
              go_roundw
              case rel => exact ⟨k + 1, by omega, by go_num, hnx⟩
              case measure => simp [intOf]; omega
            · have hg : Hid (Calls Try.prog 21 #[.pointer (some ⟨p, 0, none⟩), .string id] wr fun e w' => e = .returned (.bool true) ∧ Fr (fun _ => False) wr w') := mk.gone hid (g := true) (by
                constructor
                · intro _ y
                  cases hy : Sk.pt id y with
                  | false => rfl
                  | true =>
                    obtain ⟨q1, q2⟩ := (hmk y).1 hy
                    rw [List.take_of_length_le (by rw [← hNz.out]; omega)] at q2
                    exact absurd q1 q2
                · intro _; rfl)
              have hfr := Lib.hid mk.fr
              clear hR mk kpk hfk hmk kk
              have t1 : ¬ (k : Int) < nz := by omega
              go_wp2_with fail
              refine hg.out.mono ?_
              rintro e w20 ⟨rfl, f20⟩
              have hfr := Lib.hid (hfr.out.trans f20)
              clear f20 hg
              go_wp2
              go_ret
              exact ⟨rfl, hfr.out⟩
        | false =>
          have hnw := Lib.hid (m.now_any (by omega) ha)
          have kpzH := Lib.hid kpz
          have mH := Lib.hid m
          clear m kpz
          go_wp2_with fail
          refine hnw.out.mono ?_
          rintro e w11 ⟨v5, us, rfl, _, hmem5, kp5, f11, _⟩
          have m := mH.out.quiet f11
          have kpz := kpzH.out.quiet f11
          have hno5 : inB us a = false := by rw [Bool.eq_false_iff, ne_eq, inB_iff, hmem5, hdr.out]; exact fun h => h.2 rfl
          have hi5 := Lib.hid (kp5.in_ a)
          rw [hno5] at hi5
          have hi := Lib.hid (kpz.in_ a)
          rw [hnoz.out, ← hnzzH.out] at hi
          have kpzH := Lib.hid kpz
          have mH := Lib.hid m
          clear f11 hnw hno5 kp5 hmem5 m kpz
          go_wp2_with fail
          refine hi5.out.mono ?_
          rintro e w12 ⟨rfl, rfl⟩
          go_wp2_with fail
          refine hi.out.mono ?_
          rintro e w13 ⟨rfl, rfl⟩
          have m := mH.out
          have kpz := kpzH.out
          clear hi hi5 mH kpzH
          rw [hnzzH.out]
          obtain ⟨sz, gz, capz, kz⟩ := strs_of kpz.own
          have hv := kz.val
          simp only [Value.slice.injEq, true_and] at hv
          obtain ⟨rfl, rfl⟩ := hv
          obtain ⟨nz, hnz⟩ : ∃ n, n = zs.length := ⟨_, rfl⟩
          have hlz := kz.le
          have hNz := Lib.hid hnz
          rw [← hnz] at hlz ⊢
          have hrel0 : Hid (RemR w p sz0 gz capz0 zs id 0 w11) := ⟨_, _, _, m, by exact kpz, kz, hfz.out, fun x => by rw [hmz.out x]; simp⟩
          have hzs := Lib.hid hsz.out
          clear hnz kz kpz m hmz hsz
          go_wp2
          go_loopw [12] (fun i wr => ∃ k : Nat, k ≤ nz ∧ i = .int .i64 k ∧ Hid (RemR w p sz0 gz capz0 zs id k wr)) (fun i _ => nz - (intOf i).toNat)
          case atStart => exact ⟨0, Nat.zero_le _, rfl, hrel0⟩
          case round =>
            clear hrel0
            obtain ⟨k, hk, rfl, hR⟩ := hrel
            obtain ⟨Nk, ρk, Sk, mk, kpk, kk, hfk, hmk⟩ := hR.out
            by_cases hlt : k < nz
            · obtain ⟨x, hx⟩ : ∃ o, zs[k]? = some o := ⟨_, List.getElem?_eq_getElem (by rw [← hNz.out]; exact hlt)⟩
              have hstep := Lib.hid (rem_step hid mk kpk kk hfk hmk hzs.out hx)
              clear hR mk kpk hfk hmk
              have c1 := kk.at_ k x hx
              have hsa := fun w => index_run (P := Try.prog) (cap := capz0) Try.underlying33 size9 (kk.ix k (by rw [← hNz.out]; exact hlt)) hlt w
              clear kk hx
              have t1 : (k : Int) < nz := by omega
              go_wp2_with fail
              refine hstep.out.1.mono ?_
              rintro e w20 ⟨rfl, f20⟩
              obtain ⟨c1, hstep2⟩ := hstep.out.2 w20 f20
              have hstep2 := Lib.hid hstep2
              clear hstep f20
              go_wp2_with fail
              refine (drop_calls x _).mono ?_
              rintro e w21 ⟨rfl, f21⟩
              have hst3 := Lib.hid (hstep2.out w21 f21)
              clear hstep2 f21
              go_wp2_with fail
              refine hst3.out.mono ?_
              rintro e w22 ⟨rfl, hnx⟩
              have hnx := Lib.hid hnx
              clear hst3 c1
              go_wp2
              go_roundw
              case rel => exact ⟨k + 1, by omega, by go_num, hnx⟩
              case measure => simp [intOf]; omega
            · have hg : Hid (Calls Try.prog 21 #[.pointer (some ⟨p, 0, none⟩), .string id] wr fun e w' => e = .returned (.bool true) ∧ Fr (fun _ => False) wr w') := mk.gone hid (g := true) (by
                constructor
                · intro _ y
                  cases hy : Sk.pt id y with
                  | false => rfl
                  | true =>
                    obtain ⟨q1, q2⟩ := (hmk y).1 hy
                    rw [List.take_of_length_le (by rw [← hNz.out]; omega)] at q2
                    exact absurd q1 q2
                · intro _; rfl)
              have hfr := Lib.hid mk.fr
              clear hR mk kpk hfk hmk kk
              have t1 : ¬ (k : Int) < nz := by omega
              go_wp2_with fail
              refine hg.out.mono ?_
              rintro e w20 ⟨rfl, f20⟩
              have hfr := Lib.hid (hfr.out.trans f20)
              clear f20 hg
              go_wp2
              go_ret
              exact ⟨rfl, hfr.out⟩
    · have tE : (E == 0) = false := by simpa using hE0
      have hS : Hid (followS S (dro a) = S) := followS_err (by rw [← hEH.out]; exact hE0)
      clear hE0
      rw [hS.out] at m
      have kpz := kpH.out
      have hsz := hxs
      have hmz := hmem
      have hfz := hF
      clear kxH kpH hxs hmem
      rw [hNx.out]
      obtain ⟨sz, gz, capz, kz⟩ := strs_of kpz.own
      have hv := kz.val
      simp only [Value.slice.injEq, true_and] at hv
      obtain ⟨rfl, rfl⟩ := hv
      obtain ⟨nz, hnz⟩ : ∃ n, n = xs.length := ⟨_, rfl⟩
      have hlz := kz.le
      have hNz := Lib.hid hnz
      rw [← hnz] at hlz ⊢
      have hrel0 : Hid (RemR w p sx gz capx xs id 0 w6) := ⟨_, _, _, m, by exact kpz, kz, hfz.out, fun x => by rw [hmz.out x]; simp⟩
      have hxs := Lib.hid hsz.out
      clear hnz kz kpz m hmz hsz
      go_wp2
      go_loopw [12] (fun i wr => ∃ k : Nat, k ≤ nz ∧ i = .int .i64 k ∧ Hid (RemR w p sx gz capx xs id k wr)) (fun i _ => nz - (intOf i).toNat)
      case atStart => exact ⟨0, Nat.zero_le _, rfl, hrel0⟩
      case round =>
        clear hrel0
        obtain ⟨k, hk, rfl, hR⟩ := hrel
        obtain ⟨Nk, ρk, Sk, mk, kpk, kk, hfk, hmk⟩ := hR.out
        by_cases hlt : k < nz
        · obtain ⟨x, hx⟩ : ∃ o, xs[k]? = some o := ⟨_, List.getElem?_eq_getElem (by rw [← hNz.out]; exact hlt)⟩
          have hstep := Lib.hid (rem_step hid mk kpk kk hfk hmk hxs.out hx)
          clear hR mk kpk hfk hmk
          have c1 := kk.at_ k x hx
          have hsa := fun w => index_run (P := Try.prog) (cap := capx) Try.underlying33 size9 (kk.ix k (by rw [← hNz.out]; exact hlt)) hlt w
          clear kk hx
          have t1 : (k : Int) < nz := by omega
          go_wp2_with fail
          refine hstep.out.1.mono ?_
          rintro e w20 ⟨rfl, f20⟩
          obtain ⟨c1, hstep2⟩ := hstep.out.2 w20 f20
          have hstep2 := Lib.hid hstep2
          clear hstep f20
          go_wp2_with fail
          refine (drop_calls x _).mono ?_
          rintro e w21 ⟨rfl, f21⟩
          have hst3 := Lib.hid (hstep2.out w21 f21)
          clear hstep2 f21
          go_wp2_with fail
          refine hst3.out.mono ?_
          rintro e w22 ⟨rfl, hnx⟩
          have hnx := Lib.hid hnx
          clear hst3 c1
          go_wp2
          go_roundw
          case rel => exact ⟨k + 1, by omega, by go_num, hnx⟩
          case measure => simp [intOf]; omega
        · have hg : Hid (Calls Try.prog 21 #[.pointer (some ⟨p, 0, none⟩), .string id] wr fun e w' => e = .returned (.bool true) ∧ Fr (fun _ => False) wr w') := mk.gone hid (g := true) (by
            constructor
            · intro _ y
              cases hy : Sk.pt id y with
              | false => rfl
              | true =>
                obtain ⟨q1, q2⟩ := (hmk y).1 hy
                rw [List.take_of_length_le (by rw [← hNz.out]; omega)] at q2
                exact absurd q1 q2
            · intro _; rfl)
          have hfr := Lib.hid mk.fr
          clear hR mk kpk hfk hmk kk
          have t1 : ¬ (k : Int) < nz := by omega
          go_wp2_with fail
          refine hg.out.mono ?_
          rintro e w20 ⟨rfl, f20⟩
          have hfr := Lib.hid (hfr.out.trans f20)
          clear f20 hg
          go_wp2
          go_ret
          exact ⟨rfl, hfr.out⟩
  · rw [Bool.not_eq_true] at hfw
    go_wp2
    go_ret
    exact ⟨rfl, f1⟩
end Go.Proofs.Ytcolfgnjmnapkaa
