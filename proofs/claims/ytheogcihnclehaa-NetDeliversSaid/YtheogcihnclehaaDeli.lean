/- NetDelivers returns true, whatever its operations: without Spoil, what is delivered is the message that stands at its index among those that were sent on its queue and not taken out yet. -/
import Derived.Test.YtheogcihnclehaaDel1
import Derived.Deep.Cut
namespace Go.Proofs.Ytheogcihnclehaa
open Go.RowKit Go.Pl Go.WideMaps Go.ChangeShapes Go.WideShapes

theorem size35 (w : World) : (Go.sizeOf 35).run Try.prog w = .ok 8 w := by kernel_rfl
theorem zero46 (w : World) : (zeroValue 46).run Try.prog w = .ok (.slice none 0 0) w := by kernel_rfl

set_option maxRecDepth 100000 in
set_option maxHeartbeats 16000000 in
theorem deli_walk (sa : Option Addr) (b off cap : Nat) (os : List Opr) (w : World) (h : OpsV w (.slice sa os.length cap) sa b off cap os) :
    Calls Try.prog 5 #[.slice sa os.length cap] w fun e w' => e = .returned (.bool true) ∧ Fr (fun _ => False) w w' := by
  have hmm := @run_makeMap Try.prog
  obtain ⟨n, hn⟩ : ∃ n, n = os.length := ⟨_, rfl⟩
  have hN := Lib.hid hn
  have hle := h.le
  have hfew := Lib.hid (fun w' => few_calls sa b off cap os w' h.ix)
  have hix := h.ix
  have HO := Lib.hid h.at_
  have htx := Lib.hid h.tx
  rw [← hn] at hfew hix hle ⊢
  have HX := Lib.hid hix
  clear hn h hix
  go_enter Try.func5, Try.ntmps5
  go_wp2_with fail
  refine (head_calls w).mono ?_
  rintro e w1 ⟨rfl, f1⟩
  go_wp2_with fail
  refine (new_yes 3 _ (by omega) (by omega)).mono ?_
  intro e w2 hn
  obtain ⟨p, ρ, rfl, m0⟩ := hn.mine
  have m : Mine w w2 p ρ (NetS.new 3) := ⟨m0.net, f1.trans m0.fr, fun r hr => Nat.le_trans f1.size (m0.fresh r hr)⟩
  clear hn m0 f1
  have hF := Lib.hid (hfew.out w2 (HO.out.fr m.fr (by simp)) hle htx.out)
  go_wp2_with fail
  refine hF.out.mono ?_
  rintro e w4 ⟨rfl, rfl⟩
  clear hF hfew
  by_cases hfw : fewB os = true
  · obtain ⟨mb, hmb⟩ : ∃ mb, mb = w2.heap.size := ⟨_, rfl⟩
    have hD : DRel w p mb (w2.alloc (.map #[] 0)) := by
      refine ⟨ρ, NetS.new 3, fun _ => none, fun _ => none, m.quiet (by simp), ⟨?_, ?_, ?_, fun a b => World.ownsRow_nil _ _ _ _, fun a b k hk => by simp [Value.ownBlock] at hk⟩, rfl, fun a b => Nat.zero_le _⟩
      · rw [hmb]; exact MapAt.made w2
      · rw [hmb]; exact m.fr.size
      · rw [hmb]; exact m.net.none_new (Nat.le_refl _)
    have hmb' := Lib.hid hmb
    have hmf := m.fr
    clear m hmb
    go_wp2
    rw [← hmb'.out]
    go_loopw [7] (fun i wr => ∃ k : Nat, k ≤ n ∧ i = .int .i64 k ∧ Hid (DRel w p mb wr)) (fun i _ => n - (intOf i).toNat)
    case atStart => exact ⟨0, by omega, rfl, hD⟩
    case round =>
      clear hD hmf hmb'
      obtain ⟨k, hk, rfl, hrel⟩ := hrel
      by_cases hlt : k < n
      · obtain ⟨o, ho⟩ : ∃ o, os[k]? = some o := ⟨_, List.getElem?_eq_getElem (by rw [← hN.out]; exact hlt)⟩
        have hsa := fun w => index_run (P := Try.prog) Try.underlying22 size35 (cap := cap) (HX.out k hlt) hlt w
        have htx' : (thr o).text.size ≤ 9223372036854775807 := htx.out o (List.mem_of_getElem? ho)
        obtain ⟨ρ1, S, f, τ, m, q, h3, hlim⟩ := hrel.out
        have hA := HO.out.fr m.fr (by simp)
        obtain ⟨c0, c1, c2, c3, c4, c5, c6, c7⟩ := hA.eight ho
        go_wp2_with fail
        refine (three_calls o _).mono ?_
        rintro e w6 ⟨rfl, f6⟩
        have hin := thr_in o
        generalize thr o = u at *
        have m6 := m.quiet f6
        have q6 := q.quiet f6
        clear m q f6 hA c0 c1 c2 c3 c4 c5 c6 c7 hrel ho hsa
        obtain ⟨M, hM⟩ : ∃ M, M = w6.heap.size := ⟨_, rfl⟩
        have hfr6 : Fr (fun _ => False) w6 (w6.alloc (.cells u.cells 35)) := by simp
        have m7 := m6.quiet hfr6
        have q7 := q6.quiet hfr6
        have hMb : (w6.alloc (.cells u.cells 35)).heap[M]? = some (.cells u.cells 35 (0, 0)) := by rw [hM]; exact blk_alloc_new _ _
        have hMn : ρ1 M = none := m6.net.none_new (by omega)
        have hM' := Lib.hid hM
        clear m6 q6 hfr6 hM
        by_cases k3 : u.kind = 3
        · have kb : (u.kind == 3) = true := by simpa using k3
          have hnx : Hid (DRel w p mb (w6.alloc (.cells u.cells 35))) := ⟨ρ1, S, f, τ, m7, q7, h3, hlim⟩
          clear k3 m7 q7 hMb
          go_wp2
          go_roundw
          case rel => exact ⟨k + 1, by omega, by go_num, hnx⟩
          case measure => simp [intOf]; omega
        have kb3 : (u.kind == 3) = false := by simpa using k3
        have hright : S.right u.a u.b := ⟨hin.1, hin.2.2.1, by omega, by omega, hin.2.2.2.2⟩
        have hst := story S u hright k3
        clear k3
        go_wp2_with fail
        rw [← hM'.out]
        refine (do_calls m7.net u htx').mono ?_
        rintro e w8 hp
        have he : e = .returned (.tuple #[.string (doT S u), .int .i64 (doK S u), .int .i64 (doE S u)]) := hp.1
        subst he
        obtain ⟨ρ8, n8, f8, g8⟩ := hp.2
        clear hp
        have m8 := m7.of n8 f8 g8
        have q8 := q7.net f8 g8
        have hlim8 := story_lim hst hlim
        have hst := hst.p
        have h38 : (doS S u).nodes = 3 := (doS_nodes S u).trans h3
        have hM8 := f8.obj hMb (by simp [hMn])
        have hML : M < w8.heap.size := lt_of_blk hM8
        clear hMb hMn m7 q7 f8 g8 n8 hM'
        generalize doS S u = S' at *
        generalize doT S u = T at *
        generalize doK S u = K at *
        generalize doE S u = E at *
        obtain ⟨w9, hw9⟩ : ∃ w9, w9 = w8.alloc (.cells #[.int .i64 u.a, .int .i64 u.b] 45) := ⟨_, rfl⟩
        have hfr9 : Fr (fun _ => False) w8 w9 := by rw [hw9]; simp
        have m9 := m8.quiet hfr9
        have q9 := q8.quiet hfr9
        have hM9 := hfr9.obj hM8 id
        have hK9 : w9.heap[w8.heap.size]? = some (.cells #[.int .i64 u.a, .int .i64 u.b] 45 (0, 0)) := by rw [hw9]; exact blk_alloc_new _ _
        obtain ⟨l, hkey⟩ := key45 (wf_le8 hright.1 (h3 ▸ hright.2.2.1)) (wf_le8 hright.2.1 (h3 ▸ hright.2.2.2.1))
        have hlk := q9.mp.look law45 Try.underlying43 hkey (zero46 w9)
        have hown := q9.q u.a u.b
        obtain ⟨qa, qc, hqv⟩ := ownsRow_slice hown
        have hlk' : (Instr.lookup 43 (.map (some mb)) (.agg #[.int .i64 u.a, .int .i64 u.b]) false).run Try.prog w9 = .ok (.slice qa (S.q u.a u.b).length qc) w9 := by rw [← hqv]; exact hlk
        obtain ⟨L, hL⟩ : ∃ L, L = (S.q u.a u.b).length := ⟨_, rfl⟩
        have hL100 : L ≤ 100 := by rw [hL]; exact hlim _ _
        rw [← hL] at hlk'
        have c0 : w8.cell? ⟨M, 0, none⟩ = some (.int .i64 u.kind) := by rw [cell_of_blk hM8]; rfl
        have c1 : w8.cell? ⟨M, 1, none⟩ = some (.int .i64 u.a) := by rw [cell_of_blk hM8]; rfl
        have c2 : w8.cell? ⟨M, 2, none⟩ = some (.int .i64 u.b) := by rw [cell_of_blk hM8]; rfl
        have d0 : w9.cell? ⟨M, 0, none⟩ = some (.int .i64 u.kind) := by rw [cell_of_blk hM9]; rfl
        have d3 : w9.cell? ⟨M, 3, none⟩ = some (.int .i64 u.index) := by rw [cell_of_blk hM9]; rfl
        have d6 : w9.cell? ⟨M, 6, none⟩ = some (.string u.text) := by rw [cell_of_blk hM9]; rfl
        have d7 : w9.cell? ⟨M, 7, none⟩ = some (.bool u.flag) := by rw [cell_of_blk hM9]; rfl
        have e0 : w9.cell? ⟨w8.heap.size, 0, none⟩ = some (.int .i64 u.a) := by rw [cell_of_blk hK9]; rfl
        have e1 : w9.cell? ⟨w8.heap.size, 1, none⟩ = some (.int .i64 u.b) := by rw [cell_of_blk hK9]; rfl
        have hw9' := Lib.hid hw9
        have hLH := Lib.hid hL
        have hqH := Lib.hid hqv
        clear hL hqv hw9 hfr9 m8 q8 hM8 hlk hkey
        go_upto_region 13 with fail
        rw [← hw9'.out]
        obtain ⟨MK, hMK⟩ : ∃ MK, MK = w8.heap.size := ⟨_, rfl⟩
        rw [← hMK] at e0 e1 hK9 ⊢
        clear c0 c1 c2 hMK hw9'
        go_upto_region 14 with fail
        have hL := hLH.out
        have hqv := hqH.out
        have hsame : S'.q = S.q → Hid (DRel w p mb w9) := fun h => ⟨ρ8, S', f, τ, m9, h ▸ q9, h38, hlim8⟩
        rcases hst with ⟨hkk, rfl, hK⟩ | ⟨hkk, hE, rfl⟩ | ⟨hkk, rfl, hq⟩ | ⟨hkk, rfl, hq⟩ | ⟨hkk, hf, rfl, rfl, hi, ht⟩ | ⟨hkk, hf, rfl, hq, hi, ht⟩ | ⟨hkk, rfl, hq, hi, ht⟩
        · have hnx := hsame rfl
          rw [← hL] at hK
          subst hK
          have t3 : ((L : Int) == L) = true := by simp
          clear m9 q9 hsame hlim8 hlim hown hL hqv hM9 hK9
          by_cases hk0 : u.kind < 0
          · have t1 : decide (u.kind < 0) = true := by simpa using hk0
            clear hkk hk0
            go_wp2
            go_roundw
            case rel => exact ⟨k + 1, by omega, by go_num, hnx⟩
            case measure => simp [intOf]; omega
          · have t1 : decide (u.kind < 0) = false := by simpa using hk0
            have t2 : decide (4 < u.kind) = true := by simp; omega
            clear hkk hk0
            go_wp2
            go_roundw
            case rel => exact ⟨k + 1, by omega, by go_num, hnx⟩
            case measure => simp [intOf]; omega
        · have hnx := hsame rfl
          have t1 : decide (u.kind < 0) = false := by simp; omega
          have t2 : decide (4 < u.kind) = false := by simp; omega
          have t3 : (E == 0) = false := by simpa using hE
          clear m9 q9 hsame hlim8 hlim hown hL hqv hM9 hK9 hkk hE
          go_wp2
          go_roundw
          case rel => exact ⟨k + 1, by omega, by go_num, hnx⟩
          case measure => simp [intOf]; omega
        · have hnx := hsame hq
          rw [hkk] at d0
          clear m9 q9 hsame hlim8 hlim hown hL hqv hM9 hK9 hkk
          go_wp2
          go_roundw
          case rel => exact ⟨k + 1, by omega, by go_num, hnx⟩
          case measure => simp [intOf]; omega
        · rw [hkk] at d0
          obtain ⟨i0, hi0, hz0, hz1, hz2⟩ := info_parts info9
          have hqv2 := hqv
          rw [← hL] at hqv2
          have hstep := Lib.hid (deli_send m9 q9 h38 hlim8 ((by unfold NetS.right at hright ⊢; rw [h38]; rw [h3] at hright; exact hright)) hq hM9 hK9 hqv2 hL)
          have hown2 : ((w9.alloc (.cells #[.string u.text] 9)).drew).ownsRow w.heap.size 9 1 (.slice qa L qc) L ((S.q u.a u.b).map .string) := by
            rw [hqv, ← hL] at hown
            exact ownsRow_of_blk hown fun k hk => blk_alloc (w := w9) (hown.lt k hk).2 _
          have hownH := Lib.hid hown2
          have hKM : Kp w9 ((w9.alloc (.cells #[.string u.text] 9)).drew) M MK := ⟨blk_alloc (w := w9) (lt_of_blk hM9) _, blk_alloc (w := w9) (lt_of_blk hK9) _⟩
          have a0 := hKM.k e0
          have a1 := hKM.k e1
          have a6 := hKM.m d6
          have hbase : w.heap.size ≤ ((w9.alloc (.cells #[.string u.text] 9)).drew).heap.size := by have := m9.fr.size; simp; omega
          clear m9 q9 hsame hlim8 hlim hown hL hqv hqv2 hM9 hK9 hkk hq hown2 hKM hLH hqH hlk'
          go_wp2_with fail
          go_region_held3 (fun w' => w'.cell? ⟨MK, 0, none⟩ = some (.int .i64 u.a) ∧ w'.cell? ⟨MK, 1, none⟩ = some (.int .i64 u.b) ∧ w'.cell? ⟨M, 6, none⟩ = some (.string u.text)) (first | assumption | exact ⟨e0, e1, d6⟩ | exact ⟨a0, a1, a6⟩)
            ((refine step_append_own (by rfl) _ _ _ (by rfl) w.heap.size 9 i0 (.string ByteArray.empty) 1 16 Try.underlying46 hi0 hz0 hz1 hz2 (by rfl) (by decide) (.slice qa L qc) L ((S.q u.a u.b).map .string) (by rfl) hownH.out ⟨w9.heap.size, 0, none⟩ 1 1 [.string u.text] (by rfl) (by rfl) (cell_one_new w9 _ _) (by simp [Value.oneCell']) (by unfold maxLen; omega) (by omega) hbase ?_; intro v' w3 x1 x2 x3; obtain ⟨o', hrun, hD, hS3, hS4⟩ := hstep.out v' w3 x1 x2 x3; have b3 := And.intro (hS3.k e0) (And.intro (hS3.k e1) (hS3.m d6)); have b4 := And.intro (hS4.k e0) (And.intro (hS4.k e1) (hS4.m d6)); have hnx := Lib.hid hD; obtain ⟨sa', cap', rfl⟩ := ownsRow_slice x1; clear x1 x2 x3 hS3 hS4 hD))
          all_goals go_wp2
          all_goals go_roundw
          case rel => exact ⟨k + 1, by omega, by go_num, hnx⟩
          case measure => simp [intOf]; omega
        · have hnx := hsame rfl
          rw [hkk] at d0
          rw [hf] at d7
          obtain ⟨i, hiN⟩ : ∃ i : Nat, u.index = i := ⟨u.index.toNat, by omega⟩
          rw [hiN] at d3 ht
          rw [Int.toNat_natCast] at ht
          obtain ⟨g, cap, hg1, hg2, hg3, hg4, hg5⟩ := own_strings hown ht
          rw [hqv, ← hL] at hg1
          simp at hg1
          obtain ⟨rfl, rfl⟩ := hg1
          have hiL : i < L := by rw [hL]; exact (List.getElem?_eq_some_iff.1 ht).1
          have hc := hg5 i T ht
          have t3 : (T.toList == T.toList) = true := by simp
          have t1 : (0 : Int) ≤ i := by omega
          have t2 : (i : Int) < L := by omega
          clear m9 q9 hsame hlim8 hlim hown hL hqv hM9 hK9 hkk hg5 hiN hi
          go_wp2
          go_roundw
          case rel => exact ⟨k + 1, by omega, by go_num, hnx⟩
          case measure => simp [intOf]; omega
        · rw [hkk] at d0
          obtain ⟨i, hiN⟩ : ∃ i : Nat, u.index = i := ⟨u.index.toNat, by omega⟩
          rw [hf] at d7
          rw [hiN] at d3 ht hq
          rw [Int.toNat_natCast] at ht hq
          have hT := ht
          have hiL : i < L := by rw [hL]; exact (List.getElem?_eq_some_iff.1 ht).1
          obtain ⟨g, cap, hg1, hg2, hg3, hg4, hg5⟩ := own_strings hown hT
          rw [hqv, ← hL] at hg1
          simp at hg1
          obtain ⟨rfl, rfl⟩ := hg1
          rw [← hL] at hg2
          have hc := hg5 i _ hT
          have t3 : (T.toList == T.toList) = true := by simp
          have t1 : (0 : Int) ≤ i := by omega
          have t2 : (i : Int) < L := by omega
          have t6 : (i : Int) ≤ qc := by omega
          have t7 : (i : Int) + 1 ≤ L := by omega
          have t8 : (L : Int) ≤ qc := by omega
          have t9 : (0 : Int) ≤ (i : Int) + 1 := by omega
          have t11 : IntKind.i64.wrap ((i : Int) + 1) = (i : Int) + 1 := IntWalk.i64_in _ (by omega)
          obtain ⟨i0, hi0, hz0, hz1, hz2⟩ := info_parts info9
          obtain ⟨⟨x1, x2, kp0⟩, A, hA, hstep⟩ := deli_out m9 q9 h38 hlim8 (by unfold NetS.right at hright ⊢; rw [h38]; rw [h3] at hright; exact hright) hq hM9 hK9 hL hg2 hiL hg4 hg5
          have hown1 := Lib.hid x1
          have hnews1 := Lib.hid x2
          have hstepH := Lib.hid hstep
          have hl1 : Hid ((((S.q u.a u.b).take i).map Value.string).length = i * 1) := by simp [Hid]; omega
          have hl2 : Hid ((((S.q u.a u.b).drop (i + 1)).map Value.string).length = (L - (i + 1)) * 1) := by simp [Hid]; omega
          have ho1 : Hid (∀ v ∈ (((S.q u.a u.b).take i).map Value.string), v.oneCell' = true) := fun v hv => by obtain ⟨x, _, rfl⟩ := List.mem_map.1 hv; rfl
          have ho2 : Hid (∀ v ∈ (((S.q u.a u.b).drop (i + 1)).map Value.string), v.oneCell' = true) := fun v hv => by obtain ⟨x, _, rfl⟩ := List.mem_map.1 hv; rfl
          have a0 := kp0.k e0
          have a1 := kp0.k e1
          have a6 := kp0.m d3
          have hbase : w.heap.size ≤ ((w9.alloc (.cells #[] 9)).drew).heap.size := by have := m9.fr.size; simp; omega
          clear m9 q9 hsame hlim8 hlim hown hL hqv hM9 hK9 hkk hq hLH hqH hlk' hT ht hg5 x1 x2 hstep kp0 hiN hi
          go_wp2_with fail
          go_region_held3 (fun w' => w'.cell? ⟨MK, 0, none⟩ = some (.int .i64 u.a) ∧ w'.cell? ⟨MK, 1, none⟩ = some (.int .i64 u.b) ∧ w'.cell? ⟨M, 3, none⟩ = some (.int .i64 i)) (first | assumption | exact ⟨e0, e1, d3⟩ | exact ⟨a0, a1, a6⟩)
            (first
             | (refine step_append_own (by rfl) _ _ _ (by rfl) w.heap.size 9 i0 (.string ByteArray.empty) 1 16 Try.underlying46 hi0 hz0 hz1 hz2 (by rfl) (by decide) (.slice (some ⟨w9.heap.size, 0, none⟩) 0 0) 0 [] (by rfl) hown1.out ⟨g, 0, none⟩ i qc (((S.q u.a u.b).take i).map Value.string) (by rfl) hl1.out hnews1.out ho1.out (by unfold maxLen; omega) (by omega) hbase ?_; intro v1 w1 x1 x2 x3; obtain ⟨y1, y2, y3, y4, y5⟩ := hstepH.out v1 w1 x1 x2 x3; have b3 := And.intro (y3.k e0) (And.intro (y3.k e1) (y3.m d3)); obtain ⟨a1', c1', rfl⟩ := ownsRow_slice y1; have z1 := Lib.hid y1; have z2 := Lib.hid y2; have z5 := Lib.hid y5; clear x1 x2 x3 y1 y2 y3 y5)
             | (refine step_append_own (by rfl) _ _ _ (by rfl) w.heap.size 9 i0 (.string ByteArray.empty) 1 16 Try.underlying46 hi0 hz0 hz1 hz2 (by rfl) (by decide) (.slice a1' i c1') i (((S.q u.a u.b).take i).map Value.string) (by rfl) z1.out A (L - (i + 1)) (qc - (i + 1)) (((S.q u.a u.b).drop (i + 1)).map Value.string) (by rfl) hl2.out z2.out ho2.out (by unfold maxLen; omega) (by omega) y4 ?_; intro v2 w2 x1 x2 x3; obtain ⟨o', hrun, hD, hS3, hS4⟩ := z5.out v2 w2 x1 x2 x3; have b4 := And.intro (hS3.k e0) (And.intro (hS3.k e1) (hS3.m d3)); have b5 := And.intro (hS4.k e0) (And.intro (hS4.k e1) (hS4.m d3)); have hnx := Lib.hid hD; obtain ⟨sa', cap', rfl⟩ := ownsRow_slice x1; clear x1 x2 x3 hS3 hS4 hD))
          all_goals go_wp2
          all_goals go_roundw
          case rel => exact ⟨k + 1, by omega, by go_num, hnx⟩
          case measure => simp [intOf]; omega
        · rw [hkk] at d0
          obtain ⟨i, hiN⟩ : ∃ i : Nat, u.index = i := ⟨u.index.toNat, by omega⟩
          rw [hiN] at d3 ht hq
          rw [Int.toNat_natCast] at ht hq
          have hiL : i < L := by rw [hL]; exact ht
          obtain ⟨T2, hT⟩ : ∃ T2, (S.q u.a u.b)[i]? = some T2 := ⟨_, List.getElem?_eq_getElem ht⟩
          obtain ⟨g, cap, hg1, hg2, hg3, hg4, hg5⟩ := own_strings hown hT
          rw [hqv, ← hL] at hg1
          simp at hg1
          obtain ⟨rfl, rfl⟩ := hg1
          rw [← hL] at hg2
          have hc := hg5 i _ hT
          have t1 : (0 : Int) ≤ i := by omega
          have t2 : (i : Int) < L := by omega
          have t6 : (i : Int) ≤ qc := by omega
          have t7 : (i : Int) + 1 ≤ L := by omega
          have t8 : (L : Int) ≤ qc := by omega
          have t9 : (0 : Int) ≤ (i : Int) + 1 := by omega
          have t11 : IntKind.i64.wrap ((i : Int) + 1) = (i : Int) + 1 := IntWalk.i64_in _ (by omega)
          obtain ⟨i0, hi0, hz0, hz1, hz2⟩ := info_parts info9
          obtain ⟨⟨x1, x2, kp0⟩, A, hA, hstep⟩ := deli_out m9 q9 h38 hlim8 (by unfold NetS.right at hright ⊢; rw [h38]; rw [h3] at hright; exact hright) hq hM9 hK9 hL hg2 hiL hg4 hg5
          have hown1 := Lib.hid x1
          have hnews1 := Lib.hid x2
          have hstepH := Lib.hid hstep
          have hl1 : Hid ((((S.q u.a u.b).take i).map Value.string).length = i * 1) := by simp [Hid]; omega
          have hl2 : Hid ((((S.q u.a u.b).drop (i + 1)).map Value.string).length = (L - (i + 1)) * 1) := by simp [Hid]; omega
          have ho1 : Hid (∀ v ∈ (((S.q u.a u.b).take i).map Value.string), v.oneCell' = true) := fun v hv => by obtain ⟨x, _, rfl⟩ := List.mem_map.1 hv; rfl
          have ho2 : Hid (∀ v ∈ (((S.q u.a u.b).drop (i + 1)).map Value.string), v.oneCell' = true) := fun v hv => by obtain ⟨x, _, rfl⟩ := List.mem_map.1 hv; rfl
          have a0 := kp0.k e0
          have a1 := kp0.k e1
          have a6 := kp0.m d3
          have hbase : w.heap.size ≤ ((w9.alloc (.cells #[] 9)).drew).heap.size := by have := m9.fr.size; simp; omega
          clear m9 q9 hsame hlim8 hlim hown hL hqv hM9 hK9 hkk hq hLH hqH hlk' hT ht hg5 x1 x2 hstep kp0 hiN hi
          go_wp2_with fail
          go_region_held3 (fun w' => w'.cell? ⟨MK, 0, none⟩ = some (.int .i64 u.a) ∧ w'.cell? ⟨MK, 1, none⟩ = some (.int .i64 u.b) ∧ w'.cell? ⟨M, 3, none⟩ = some (.int .i64 i)) (first | assumption | exact ⟨e0, e1, d3⟩ | exact ⟨a0, a1, a6⟩)
            (first
             | (refine step_append_own (by rfl) _ _ _ (by rfl) w.heap.size 9 i0 (.string ByteArray.empty) 1 16 Try.underlying46 hi0 hz0 hz1 hz2 (by rfl) (by decide) (.slice (some ⟨w9.heap.size, 0, none⟩) 0 0) 0 [] (by rfl) hown1.out ⟨g, 0, none⟩ i qc (((S.q u.a u.b).take i).map Value.string) (by rfl) hl1.out hnews1.out ho1.out (by unfold maxLen; omega) (by omega) hbase ?_; intro v1 w1 x1 x2 x3; obtain ⟨y1, y2, y3, y4, y5⟩ := hstepH.out v1 w1 x1 x2 x3; have b3 := And.intro (y3.k e0) (And.intro (y3.k e1) (y3.m d3)); obtain ⟨a1', c1', rfl⟩ := ownsRow_slice y1; have z1 := Lib.hid y1; have z2 := Lib.hid y2; have z5 := Lib.hid y5; clear x1 x2 x3 y1 y2 y3 y5)
             | (refine step_append_own (by rfl) _ _ _ (by rfl) w.heap.size 9 i0 (.string ByteArray.empty) 1 16 Try.underlying46 hi0 hz0 hz1 hz2 (by rfl) (by decide) (.slice a1' i c1') i (((S.q u.a u.b).take i).map Value.string) (by rfl) z1.out A (L - (i + 1)) (qc - (i + 1)) (((S.q u.a u.b).drop (i + 1)).map Value.string) (by rfl) hl2.out z2.out ho2.out (by unfold maxLen; omega) (by omega) y4 ?_; intro v2 w2 x1 x2 x3; obtain ⟨o', hrun, hD, hS3, hS4⟩ := z5.out v2 w2 x1 x2 x3; have b4 := And.intro (hS3.k e0) (And.intro (hS3.k e1) (hS3.m d3)); have b5 := And.intro (hS4.k e0) (And.intro (hS4.k e1) (hS4.m d3)); have hnx := Lib.hid hD; obtain ⟨sa', cap', rfl⟩ := ownsRow_slice x1; clear x1 x2 x3 hS3 hS4 hD))
          all_goals go_wp2
          all_goals go_roundw
          case rel => exact ⟨k + 1, by omega, by go_num, hnx⟩
          case measure => simp [intOf]; omega
      · obtain ⟨ρ1, S, f, τ, m, q, h3, hlim⟩ := hrel.out
        have hfin := Lib.hid m.fr
        clear hrel m q h3 hlim
        have hnlt : ¬ (k : Int) < n := by omega
        go_wp2
        go_ret
        exact ⟨rfl, hfin.out⟩
  · rw [Bool.not_eq_true] at hfw
    go_wp2
    go_ret
    exact ⟨rfl, m.fr⟩
end Go.Proofs.Ytheogcihnclehaa
