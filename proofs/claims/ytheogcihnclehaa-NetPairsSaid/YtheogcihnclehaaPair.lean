/- NetPairs returns true, whatever its operations and its queue: without those of one queue, or of its line, all other queues have the same messages in the end. -/
import Derived.Test.YtheogcihnclehaaPair0
namespace Go.Proofs.Ytheogcihnclehaa
open Go.RowKit Go.Pl Go.WideMaps Go.ChangeShapes Go.WideShapes

theorem size35 (w : World) : (Go.sizeOf 35).run Try.prog w = .ok 8 w := by kernel_rfl
theorem size46 (w : World) : (Go.sizeOf 46).run Try.prog w = .ok 1 w := by kernel_rfl

/-- Two networks, and blocks that are no part of them. -/
structure TwoK (w0 w : World) (p : Nat) (ρ : Roles) (S : NetS) (p2 : Nat) (ρ2 : Roles) (S2 : NetS) (K : List (Nat × Obj)) : Prop where
  t : Two w0 w p ρ S p2 ρ2 S2
  kp : ∀ x ∈ K, w.heap[x.1]? = some x.2 ∧ ρ x.1 = none ∧ ρ2 x.1 = none
theorem NetAt.none_new {w : World} {p : Nat} {ρ : Roles} {S : NetS} (h : NetAt w p ρ S) {r : Nat} (hr : w.heap.size ≤ r) : ρ r = none := by
  cases e : ρ r with
  | none => rfl
  | some x => have := h.lt r (by rw [e]; simp); omega
theorem TwoK.quiet {w0 w w' p ρ S p2 ρ2 S2 K} (h : TwoK w0 w p ρ S p2 ρ2 S2 K) (hf : Fr (fun _ => False) w w') : TwoK w0 w' p ρ S p2 ρ2 S2 K :=
  ⟨h.t.quiet hf, fun x hx => ⟨hf.obj (h.kp x hx).1 (by simp), (h.kp x hx).2⟩⟩
theorem TwoK.push {w0 w p ρ S p2 ρ2 S2 K} (h : TwoK w0 w p ρ S p2 ρ2 S2 K) (o : Obj) : TwoK w0 (w.alloc o) p ρ S p2 ρ2 S2 ((w.heap.size, o) :: K) := by
  have hf : Fr (fun _ => False) w (w.alloc o) := by simp
  refine ⟨h.t.quiet hf, fun x hx => ?_⟩
  rcases List.mem_cons.1 hx with rfl | hx
  · exact ⟨blk_alloc_new _ _, h.t.a.net.none_new (Nat.le_refl _), h.t.b.net.none_new (Nat.le_refl _)⟩
  · exact (h.quiet hf).kp x hx
theorem TwoK.sub {w0 w p ρ S p2 ρ2 S2 K K'} (h : TwoK w0 w p ρ S p2 ρ2 S2 K) (hs : ∀ x ∈ K', x ∈ K) : TwoK w0 w p ρ S p2 ρ2 S2 K' := ⟨h.t, fun x hx => h.kp x (hs x hx)⟩
theorem TwoK.symm {w0 w p ρ S p2 ρ2 S2 K} (h : TwoK w0 w p ρ S p2 ρ2 S2 K) : TwoK w0 w p2 ρ2 S2 p ρ S K := ⟨h.t.symm, fun x hx => ⟨(h.kp x hx).1, (h.kp x hx).2.2, (h.kp x hx).2.1⟩⟩
theorem TwoK.step {w0 w w' p ρ S p2 ρ2 S2 K} (h : TwoK w0 w p ρ S p2 ρ2 S2 K) {S' : NetS} {v : Value} {e : Ending} (hp : NPost p ρ S' v w e w') : e = .returned v ∧ ∃ ρ', TwoK w0 w' p ρ' S' p2 ρ2 S2 K := by
  obtain ⟨he, ρ3, g1, g2, g3⟩ := hp
  have hlt2 := h.t.b.net.lt
  refine ⟨he, ρ3, ⟨⟨g1, h.t.a.fr.trans' g2 (fun r hr hne => by have := h.t.a.fresh r hne; omega), fun r hr => ?_⟩, ⟨h.t.b.net.fr g2 (fun r hr hne => hr (h.t.dj r hne)), h.t.a.fr.trans' g2 (fun r hr hne => by have := h.t.a.fresh r hne; omega), h.t.b.fresh⟩, fun r hr => ?_⟩, fun x hx => ?_⟩
  · by_cases hl : r < w.heap.size
    · exact h.t.a.fresh r (g3 r hl hr)
    · have := h.t.a.fr.size; omega
  · by_cases hl : r < w.heap.size
    · exact h.t.dj r (g3 r hl hr)
    · exact h.t.b.net.none_new (by omega)
  · obtain ⟨k1, k2, k3⟩ := h.kp x hx
    refine ⟨g2.obj k1 (by simp [k2]), ?_, k3⟩
    cases e : ρ3 x.1 with
    | none => rfl
    | some y => exact absurd k2 (g3 _ (lt_of_blk k1) (by rw [e]; simp))
theorem TwoK.go {w0 w p ρ S p2 ρ2 S2 K} (h : TwoK w0 w p ρ S p2 ρ2 S2 K) {S' S3 : NetS} {v v' : Value} {f : FuncId} {args : Array Value} (hc : Calls Try.prog f args w (NPost p ρ S' v w)) (hv : v = v') (hS : S' = S3) :
    Calls Try.prog f args w fun e w' => e = .returned v' ∧ ∃ ρ', TwoK w0 w' p ρ' S3 p2 ρ2 S2 K := by
  subst hv; subst hS; exact hc.mono fun e w' hp => h.step hp
theorem TwoK.go2 {w0 w p ρ S p2 ρ2 S2 K} (h : TwoK w0 w p ρ S p2 ρ2 S2 K) {S' S3 : NetS} {v v' : Value} {f : FuncId} {args : Array Value} (hc : Calls Try.prog f args w (NPost p2 ρ2 S' v w)) (hv : v = v') (hS : S' = S3) :
    Calls Try.prog f args w fun e w' => e = .returned v' ∧ ∃ ρ', TwoK w0 w' p ρ S p2 ρ' S3 K := by
  subst hv; subst hS; exact hc.mono fun e w' hp => by
    obtain ⟨he, ρ', h'⟩ := h.symm.step hp
    exact ⟨he, ρ', h'.symm⟩
/-- The cells of a kept operation. -/
theorem TwoK.eight {w0 w p ρ S p2 ρ2 S2 K} (h : TwoK w0 w p ρ S p2 ρ2 S2 K) {L : Nat} {o : Opr} (hm : (L, Obj.cells o.cells 35 (0, 0)) ∈ K) :
    w.cell? ⟨L, 0, none⟩ = some (.int .i64 o.kind) ∧ w.cell? ⟨L, 1, none⟩ = some (.int .i64 o.a) ∧ w.cell? ⟨L, 2, none⟩ = some (.int .i64 o.b) ∧ w.cell? ⟨L, 3, none⟩ = some (.int .i64 o.index) ∧
    w.cell? ⟨L, 4, none⟩ = some (.int .i64 o.at_) ∧ w.cell? ⟨L, 5, none⟩ = some (.int .i64 o.mask) ∧ w.cell? ⟨L, 6, none⟩ = some (.string o.text) ∧ w.cell? ⟨L, 7, none⟩ = some (.bool o.flag) := by
  have := (h.kp _ hm).1
  refine ⟨?_, ?_, ?_, ?_, ?_, ?_, ?_, ?_⟩ <;> (rw [cell_of_blk this]; rfl)

/-- all's outcome beside another network and kept blocks. -/
theorem TwoK.all {w0 w w' p ρ S p2 ρ2 S2 K} (h : TwoK w0 w p ρ S p2 ρ2 S2 K) {e : Ending} (ha : AllPost p ρ S w e w') :
    ∃ g cap vals ρ' ρ'', e = .returned (.slice (some ⟨g, 0, none⟩) 9 cap) ∧ TwoK w0 w' p ρ' (allS S 9) p2 ρ2 S2 K ∧ w.heap.size ≤ g ∧ Lists w' w.heap.size ρ'' (.slice (some ⟨g, 0, none⟩) 9 cap) vals (allQ S 9) := by
  obtain ⟨v, rfl, ρ', vals, h1, h2, h3, h4⟩ := ha
  have hown := h4.own
  rw [allQ_length] at hown
  rcases hown.2 with ⟨_, h0⟩ | ⟨g, cap, cur, rfl, hg, _⟩
  · cases h0
  · obtain ⟨_, ρ3, hT⟩ := h.step (S' := allS S 9) (v := .slice (some ⟨g, 0, none⟩) 9 cap) (e := .returned (.slice (some ⟨g, 0, none⟩) 9 cap)) (w' := w') ⟨rfl, ρ', h1, h2, h3⟩
    exact ⟨g, cap, vals, ρ3, ρ', rfl, hT, hg, h4⟩

theorem Lists.row {w : World} {B : Nat} {ρ : Roles} {g cap n : Nat} {vals : List Value} {lls : List (List ByteArray)} (h : Lists w B ρ (.slice (some ⟨g, 0, none⟩) n cap) vals lls) (hn : lls.length = n) :
    ∃ cur, w.heap[g]? = some (.cells cur 46 (0, 0)) ∧ n ≤ cur.size := by
  rcases h.own.2 with ⟨h1, _⟩ | ⟨g', cap', cur, h1, hB, h2, h3, h4, h5, h6⟩
  · simp at h1
  · simp at h1
    obtain ⟨rfl, _⟩ := h1
    exact ⟨cur, h2, by omega⟩

/-- What all returned, read behind one list that was struck. -/
theorem Lists.rdsSet {w w' w'' : World} {B : Nat} {ρ : Roles} {g cap kk : Nat} {vals : List Value} {lls : List (List ByteArray)} {F : Nat → Prop} (h : Lists w B ρ (.slice (some ⟨g, 0, none⟩) lls.length cap) vals lls) (hle : lls.length ≤ 9223372036854775807)
    (hf : Fr F w w') (hF : ∀ r, B ≤ r → r < w.heap.size → ¬ F r) (hs : ∀ (r : Nat) (cur : Array Value), w'.heap[r]? = some (.cells cur 9 (0, 0)) → w''.heap[r]? = w'.heap[r]?)
    (hg : ∀ i : Nat, i < lls.length → w''.cell? ⟨g, i, none⟩ = if i = kk then some (.slice none 0 0) else w'.cell? ⟨g, i, none⟩) : Rds w'' g (lls.set kk []) := by
  refine ⟨fun i l hl => ?_, by simpa using hle⟩
  have hi : i < lls.length := by have := (List.getElem?_eq_some_iff.1 hl).1; simpa using this
  rw [List.getElem?_set] at hl
  by_cases hik : kk = i
  · subst hik
    rw [if_pos rfl, if_pos hi] at hl
    cases hl
    exact ⟨_, by rw [hg _ hi, if_pos rfl], .inl ⟨rfl, rfl⟩, by simp⟩
  · rw [if_neg hik] at hl
    rcases h.own.2 with ⟨h1, _⟩ | ⟨g', cap', cur, h1, hB, h2, h3, h4, h5, h6⟩
    · simp at h1
    · simp at h1
      obtain ⟨rfl, rfl⟩ := h1
      have hv : i < vals.length := by rw [h.len]; exact hi
      have hsx := h.at_ i vals[i] l (by simp) hl
      refine ⟨vals[i], ?_, ?_⟩
      · have := congrArg (·[i]?) h6
        simp only [List.getElem?_take, Nat.mul_one, hi, if_true, List.getElem?_eq_getElem hv] at this
        have hc : w.cell? ⟨g, i, none⟩ = some vals[i] := by rw [cell_of_blk h2, ← Array.getElem?_toList, this]
        rw [hg i hi, if_neg (fun e => hik e.symm)]
        exact hf.cell hc (hF g hB (lt_of_blk h2))
      · have hr := hsx.rd
        rcases hsx.own.2 with ⟨h7, h8⟩ | ⟨k, c2, cur2, h7, h8, h9, h10, h11, h12, h13⟩
        · rw [h7]; exact ⟨.inl ⟨rfl, List.eq_nil_of_length_eq_zero h8⟩, by omega⟩
        · have hk' := hf.obj h9 (hF k h8 (lt_of_blk h9))
          refine ⟨.inr ⟨k, c2, h7, fun j s hj => ?_⟩, hr.le⟩
          rcases hr.ex with ⟨e1, _⟩ | ⟨g', c', e1, e2⟩
          · rw [h7] at e1; cases e1
          · rw [h7] at e1
            simp at e1
            obtain ⟨rfl, _⟩ := e1
            have := hf.cell (e2 j s hj) (hF k h8 (lt_of_blk h9))
            rw [← this]
            exact World.cell?_of_block (hs k _ hk')

set_option maxRecDepth 100000 in
set_option maxHeartbeats 16000000 in
theorem pair_walk (sa : Option Addr) (b off cap : Nat) (os : List Opr) (w : World) (h : OpsV w (.slice sa os.length cap) sa b off cap os) (x y : Int) (hx : 0 ≤ x ∧ x ≤ 255) (hy : 0 ≤ y ∧ y ≤ 255) :
    Calls Try.prog 6 #[.slice sa os.length cap, .int .u8 x, .int .u8 y] w fun e w' => e = .returned (.bool true) ∧ Fr (fun _ => False) w w' := by
  obtain ⟨n, hn⟩ : ∃ n, n = os.length := ⟨_, rfl⟩
  have hN := Lib.hid hn
  have hle := h.le
  have hfew := Lib.hid (fun w' => few_calls sa b off cap os w' h.ix)
  have hix := h.ix
  have HO := Lib.hid h.at_
  have htx := Lib.hid h.tx
  rw [← hn] at hfew hix hle ⊢
  have HX := Lib.hid hix
  clear hn h hix
  go_enter Try.func6, Try.ntmps6
  go_wp2_with fail
  refine (head_calls w).mono ?_
  rintro e w1 ⟨rfl, f1⟩
  go_wp2_with fail
  refine (new_yes 3 _ (by omega) (by omega)).mono ?_
  intro e w2 hn
  obtain ⟨p, ρ, rfl, m0⟩ := hn.mine
  have m : Mine w w2 p ρ (NetS.new 3) := ⟨m0.net, f1.trans m0.fr, fun r hr => Nat.le_trans f1.size (m0.fresh r hr)⟩
  clear hn m0 f1
  go_wp2_with fail
  refine (new_yes 3 _ (by omega) (by omega)).mono ?_
  intro e w3 hn
  obtain ⟨p2, ρ2, rfl, T⟩ := m.second hn
  clear hn m
  have hF := Lib.hid (hfew.out w3 (HO.out.fr T.a.fr (by simp)) hle htx.out)
  go_wp2_with fail
  refine hF.out.mono ?_
  rintro e w4 ⟨rfl, rfl⟩
  clear hF hfew
  by_cases hfw : fewB os = true
  · go_wp2_with fail
    refine (three_calls ⟨0, x, y, 0, 0, 0, ByteArray.empty, false⟩ _).mono ?_
    rintro e w5 ⟨rfl, f5⟩
    have hin := thr_in ⟨0, x, y, 0, 0, 0, ByteArray.empty, false⟩
    generalize thr ⟨0, x, y, 0, 0, 0, ByteArray.empty, false⟩ = q at *
    obtain ⟨L, hL⟩ : ∃ L, L = w5.heap.size := ⟨_, rfl⟩
    have T5 : TwoK w (w5.alloc (.cells q.cells 35)) p ρ (NetS.new 3) p2 ρ2 (NetS.new 3) [(L, .cells q.cells 35)] := by
      rw [hL]; exact (TwoK.mk (T.quiet f5) (K := []) (by simp)).push _
    have hL' := Lib.hid hL
    clear T f5 hL
    go_wp2
    rw [← hL'.out]
    go_loopw [13] (fun i wr => ∃ k : Nat, k ≤ n ∧ i = .int .i64 k ∧ ∃ ρ ρ2 S S2, TwoK w wr p ρ S p2 ρ2 S2 [(L, .cells q.cells 35)] ∧ Sim q.a q.b S S2 ∧ Hid (S.nodes = 3)) (fun i _ => n - (intOf i).toNat)
    case atStart => exact ⟨0, by omega, rfl, ρ, ρ2, _, _, T5, Sim.refl _ _ _, rfl⟩
    case round =>
      clear T5
      obtain ⟨k, hk, rfl, ρ1, ρ2, S, S2, T, hsim, h3⟩ := hrel
      by_cases hlt : k < n
      · obtain ⟨o, ho⟩ : ∃ o, os[k]? = some o := ⟨_, List.getElem?_eq_getElem (by rw [← hN.out]; exact hlt)⟩
        have hsa := fun w => index_run (P := Try.prog) Try.underlying22 size35 (cap := cap) (HX.out k hlt) hlt w
        have htx' : (thr o).text.size ≤ 9223372036854775807 := htx.out o (List.mem_of_getElem? ho)
        have hA := HO.out.fr T.t.a.fr (by simp)
        obtain ⟨c0, c1, c2, c3, c4, c5, c6, c7⟩ := hA.eight ho
        go_wp2_with fail
        refine (three_calls o _).mono ?_
        rintro e w6 ⟨rfl, f6⟩
        have hin2 := thr_in o
        generalize thr o = u at *
        obtain ⟨M, hM⟩ : ∃ M, M = w6.heap.size := ⟨_, rfl⟩
        have T6 := (T.quiet f6).push (.cells u.cells 35)
        rw [← hM] at T6
        have hM' := Lib.hid hM
        clear T f6 hA c0 c1 c2 c3 c4 c5 c6 c7 hM
        obtain ⟨c0, c1, c2, c3, c4, c5, c6, c7⟩ := T6.eight (List.mem_cons_self ..)
        go_wp2_with fail
        rw [← hM'.out]
        refine (T6.go (do_calls T6.t.a.net u htx') rfl rfl).mono ?_
        rintro e w7 ⟨rfl, ρ7, T7⟩
        clear T6 c0 c1 c2 c3 c4 c5 c6 c7 hM'
        obtain ⟨c0, c1, c2, c3, c4, c5, c6, c7⟩ := T7.eight (List.mem_cons_self ..)
        obtain ⟨d0, d1, d2, d3, d4, d5, d6, d7⟩ := T7.eight (List.mem_cons_of_mem _ (List.mem_cons_self ..))
        have h3' : Hid ((doS S u).nodes = 3) := by unfold Hid; rw [doS_nodes]; exact h3.out
        have HD := Lib.hid (do_calls T7.t.b.net u htx')
        clear hsa ho htx' d0 d3 d4 d5 d6 d7 h3
        by_cases k4 : u.kind = 4
        · have hs' := hsim.both u (.inr k4)
          have kb : (u.kind == 4) = true := by simpa using k4
          clear k4 hsim
          by_cases e4 : u.a = q.a
          · have b4 : (u.a == q.a) = true := by simpa using e4
            have b2 : (u.a == q.b) = false := by simp; omega
            by_cases e5 : u.b = q.b
            · have b5 : (u.b == q.b) = true := by simpa using e5
              clear e4 e5
              go_wp2_with fail
              refine (T7.go2 HD.out rfl rfl).mono ?_
              rintro e w8 ⟨rfl, ρ8, T8⟩
              go_wp2
              go_roundw
              case rel => exact ⟨k + 1, by omega, by go_num, ρ7, ρ8, _, _, T8.sub (by simp), hs', h3'⟩
              case measure => simp [intOf]; omega
            · have b5 : (u.b == q.b) = false := by simpa using e5
              clear e4 e5
              go_wp2_with fail
              refine (T7.go2 HD.out rfl rfl).mono ?_
              rintro e w8 ⟨rfl, ρ8, T8⟩
              go_wp2
              go_roundw
              case rel => exact ⟨k + 1, by omega, by go_num, ρ7, ρ8, _, _, T8.sub (by simp), hs', h3'⟩
              case measure => simp [intOf]; omega
          · have b4 : (u.a == q.a) = false := by simpa using e4
            by_cases e2 : u.a = q.b
            · have b2 : (u.a == q.b) = true := by simpa using e2
              by_cases e3 : u.b = q.a
              · have b3 : (u.b == q.a) = true := by simpa using e3
                clear e2 e3 e4
                go_wp2_with fail
                refine (T7.go2 HD.out rfl rfl).mono ?_
                rintro e w8 ⟨rfl, ρ8, T8⟩
                go_wp2
                go_roundw
                case rel => exact ⟨k + 1, by omega, by go_num, ρ7, ρ8, _, _, T8.sub (by simp), hs', h3'⟩
                case measure => simp [intOf]; omega
              · have b3 : (u.b == q.a) = false := by simpa using e3
                clear e2 e3 e4
                go_wp2_with fail
                refine (T7.go2 HD.out rfl rfl).mono ?_
                rintro e w8 ⟨rfl, ρ8, T8⟩
                go_wp2
                go_roundw
                case rel => exact ⟨k + 1, by omega, by go_num, ρ7, ρ8, _, _, T8.sub (by simp), hs', h3'⟩
                case measure => simp [intOf]; omega
            · have b2 : (u.a == q.b) = false := by simpa using e2
              clear e2 e4
              go_wp2_with fail
              refine (T7.go2 HD.out rfl rfl).mono ?_
              rintro e w8 ⟨rfl, ρ8, T8⟩
              go_wp2
              go_roundw
              case rel => exact ⟨k + 1, by omega, by go_num, ρ7, ρ8, _, _, T8.sub (by simp), hs', h3'⟩
              case measure => simp [intOf]; omega
        · have kb : (u.kind == 4) = false := by simpa using k4
          by_cases e4 : u.a = q.a
          · have b4 : (u.a == q.a) = true := by simpa using e4
            by_cases e5 : u.b = q.b
            · have b5 : (u.b == q.b) = true := by simpa using e5
              have hs' := hsim.own u e4 e5 k4
              clear e4 e5 k4 hsim HD
              go_wp2
              go_roundw
              case rel => exact ⟨k + 1, by omega, by go_num, ρ7, ρ2, _, _, T7.sub (by simp), hs', h3'⟩
              case measure => simp [intOf]; omega
            · have b5 : (u.b == q.b) = false := by simpa using e5
              have hs' := hsim.both u (.inl (.inr e5))
              clear e4 e5 k4 hsim
              go_wp2_with fail
              refine (T7.go2 HD.out rfl rfl).mono ?_
              rintro e w8 ⟨rfl, ρ8, T8⟩
              go_wp2
              go_roundw
              case rel => exact ⟨k + 1, by omega, by go_num, ρ7, ρ8, _, _, T8.sub (by simp), hs', h3'⟩
              case measure => simp [intOf]; omega
          · have b4 : (u.a == q.a) = false := by simpa using e4
            have hs' := hsim.both u (.inl (.inl e4))
            clear e4 k4 hsim
            go_wp2_with fail
            refine (T7.go2 HD.out rfl rfl).mono ?_
            rintro e w8 ⟨rfl, ρ8, T8⟩
            go_wp2
            go_roundw
            case rel => exact ⟨k + 1, by omega, by go_num, ρ7, ρ8, _, _, T8.sub (by simp), hs', h3'⟩
            case measure => simp [intOf]; omega
      · obtain ⟨kk, hkk⟩ := Int.eq_ofNat_of_zero_le (show 0 ≤ 3 * q.a + q.b by omega)
        have hset := Lib.hid (outs_same hsim h3.out (by omega) (by omega) kk (by omega))
        have hkl : kk < 9 := by omega
        have hn2 : S2.nodes = 3 := hsim.nodes ▸ h3.out
        clear hsim h3
        go_wp2_with fail
        refine (all_calls T.t.a.net).mono ?_
        intro e w6 ha
        obtain ⟨g1, cap1, vals1, ρ6, ρ6', rfl, T6, hg1, L1⟩ := T.all ha
        have hlt2 := T.t.b.net.lt
        have hpre := T.t.a.fr
        have hLne : L ≠ g1 := by have := lt_of_blk (T.kp _ (List.mem_cons_self ..)).1; simp only at this; omega
        clear T ha
        go_wp2_with fail
        refine (all_calls T6.t.b.net).mono ?_
        intro e w7 ha
        obtain ⟨_, _, _, _, _, hfr7, _⟩ := id ha
        obtain ⟨g2, cap2, vals2, ρ7, ρ7', rfl, T7, hg2, L2⟩ := T6.symm.all ha
        have hF1 : ∀ r, wr.heap.size ≤ r → r < w6.heap.size → ¬ Fp ρ2 r := fun r h1 h2 h3 => by have := hlt2 r h3; omega
        have e9 := allQ_length S 9
        have e9' := allQ_length S2 9
        obtain ⟨cur1, hc1, hz1⟩ := L1.row e9
        obtain ⟨cur2, hc2, hz2⟩ := L2.row e9'
        have hg1lt := lt_of_blk hc1
        have hg12 : g1 ≠ g2 := by omega
        have hc1' := hfr7.obj hc1 (hF1 g1 hg1 hg1lt)
        obtain ⟨W, hW⟩ : ∃ W, W = (w7.setCell ⟨g1, kk, none⟩ (.slice none 0 0)).setCell ⟨g2, kk, none⟩ (.slice none 0 0) := ⟨_, rfl⟩
        have hs9 : ∀ (r : Nat) (cur : Array Value), w7.heap[r]? = some (.cells cur 9 (0, 0)) → W.heap[r]? = w7.heap[r]? := fun r cur hr => by
          have h1 : r ≠ g1 := by rintro rfl; rw [hc1'] at hr; simp at hr
          have h2 : r ≠ g2 := by rintro rfl; rw [hc2] at hr; simp at hr
          rw [hW, blk_setCell (by simpa using h2), blk_setCell (by simpa using h1)]
        have hWf : Fr (fun r => r = g1 ∨ r = g2) w7 W := by
          rw [hW]
          exact (Fr.setCell (F := fun r => r = g1 ∨ r = g2) (Fr.refl _ _) (fun _ => .inl rfl) _).setCell (fun _ => .inr rfl) _
        have b1 : W.heap[g1]? = some (.cells (cur1.setIfInBounds kk (.slice none 0 0)) 46 (0, 0)) := by
          rw [hW, blk_setCell (by simpa using hg12)]; exact blk_setCell_same hc1' _
        have b2 : W.heap[g2]? = some (.cells (cur2.setIfInBounds kk (.slice none 0 0)) 46 (0, 0)) := by
          rw [hW]; exact blk_setCell_same (by rw [blk_setCell (by simpa using hg12.symm)]; exact hc2) _
        have R1 : Rds W g1 ((allQ S 9).set kk []) := by
          refine Lists.rdsSet (by rw [e9]; exact L1) (by omega) hfr7 hF1 hs9 fun i hi => ?_
          rw [cell_of_blk b1, cell_of_blk hc1', Array.getElem?_setIfInBounds]
          by_cases e : kk = i
          · subst e; rw [if_pos rfl, if_pos rfl, if_pos (by omega)]
          · rw [if_neg e, if_neg (fun h => e h.symm)]
        have R2 : Rds W g2 ((allQ S2 9).set kk []) := by
          refine Lists.rdsSet (F := fun _ => False) (by rw [e9']; exact L2) (by omega) (Fr.refl _ _) (by simp) hs9 fun i hi => ?_
          rw [cell_of_blk b2, cell_of_blk hc2, Array.getElem?_setIfInBounds]
          by_cases e : kk = i
          · subst e; rw [if_pos rfl, if_pos rfl, if_pos (by omega)]
          · rw [if_neg e, if_neg (fun h => e h.symm)]
        have hsame := same_calls g1 g2 cap1 cap2 ((allQ S 9).set kk []) ((allQ S2 9).set kk []) W R1 R2 (by simp [e9, e9'])
        rw [List.length_set, e9] at hsame
        have HS := Lib.hid hsame
        have hW0 := Lib.hid hW
        have hlow : w.heap.size ≤ g1 ∧ w.heap.size ≤ g2 := by
          have := T6.t.a.fr.size
          have h8 := hpre.size
          omega
        have hfr := (T7.t.a.fr.trans' hWf (fun r hr h => by omega))
        obtain ⟨d0, d1, d2, d3, d4, d5, d6, d7⟩ := T7.symm.eight (List.mem_cons_self ..)
        obtain ⟨z1, x1⟩ : ∃ z, w7.cell? ⟨g1, kk, none⟩ = some z := ⟨_, by rw [cell_of_blk hc1', Array.getElem?_eq_getElem (by omega)]⟩
        have x2 : w7.frozen? ⟨g1, kk, none⟩ = false := free_of_blk hc1' _
        have hmid : (w7.setCell ⟨g1, kk, none⟩ (.slice none 0 0)).heap[g2]? = some (.cells cur2 46 (0, 0)) := by rw [blk_setCell (by simpa using hg12.symm)]; exact hc2
        obtain ⟨z2, x3⟩ : ∃ z, (w7.setCell ⟨g1, kk, none⟩ (.slice none 0 0)).cell? ⟨g2, kk, none⟩ = some z := ⟨_, by rw [cell_of_blk hmid, Array.getElem?_eq_getElem (by omega)]⟩
        have x4 : (w7.setCell ⟨g1, kk, none⟩ (.slice none 0 0)).frozen? ⟨g2, kk, none⟩ = false := free_of_blk hmid _
        have y0 : (w7.setCell ⟨g1, kk, none⟩ (.slice none 0 0)).cell? ⟨L, 1, none⟩ = some (.int .i64 q.a) := by
          refine (World.cell?_of_block (blk_setCell ?_ _)).trans d1
          exact hLne
        clear ha hfr7 L1 L2 T6 T7 R1 R2 hsame hlt2 hF1 hc1 hc2 hc1' hs9 hWf b1 b2 hW hmid e9 e9' d0 d3 d4 d5 d6 d7 hz1 hz2
        go_wp2_with fail
        rw [← hW0.out]
        refine HS.out.mono ?_
        rintro e w8 ⟨rfl, f8⟩
        have hd : decide ((allQ S 9).set kk [] = (allQ S2 9).set kk []) = true := decide_eq_true hset.out
        go_wp2
        go_ret
        exact ⟨rfl, hfr.trans f8⟩
  · rw [Bool.not_eq_true] at hfw
    go_wp2
    go_ret
    exact ⟨rfl, T.a.fr⟩
set_option maxRecDepth 100000 in
theorem netPairs_lifted (os : Os) (started : os.Started) (H : Type) (enc : TypeId × Value → H) :
    ReturnsInHanded {} Try.checked os 6 .any (Rows.netPairsSpec.pre6 enc Try.prog Try.f6 Rows.netPairsRow.domain false) (Rows.netPairsSpec.post enc Try.prog Try.f6 false true false false) := by
  refine returnsInHanded_of_change (C := Try.checked) Try.own started (by kernel_rfl) Try.func6
    (ChangeSpec.witness6 (enc := enc) (C := Try.checked) false ⟨#[], #[.slice none 0 0, .int .u8 0, .int .u8 0], []⟩ 8 (by kernel_rfl) (by kernel_rfl) (by kernel_rfl) (by kernel_rfl)) ?_
  intro W base args ds gs before hval0 hW _ _
  have hval : ∀ (j : Nat) t v, Try.f6.params[j]? = some t → args[j]? = some v → Value.okWide Try.prog W .any base t v := hval0
  have hW' := hW
  obtain ⟨p, q, hA0, hV, _, _, _⟩ := hW
  have hA : DataW.TrodAll enc Try.prog W 0 (fun _ => true) true Try.f6.params.toList args.toList ds p := hA0
  rw [Try.params6] at hA hval
  obtain ⟨v0, vs0, d0, ds0, p0, q0, hargs, rfl, rfl, h0, r0⟩ := trodAll_cons hA
  obtain ⟨v1, vs1, d1, ds1, p1, q1, rfl, rfl, rfl, h1, r1⟩ := trodAll_cons r0
  obtain ⟨v2, vs2, d2, ds2, p2, q2, rfl, rfl, rfl, h2, r2⟩ := trodAll_cons r1
  obtain ⟨rfl, rfl, rfl⟩ := trodAll_nil r2
  obtain rfl : args = #[v0, v1, v2] := by cases args; simp_all
  obtain ⟨rfl, rfl⟩ := trodVars_none hV
  obtain ⟨sa0, b0, off0, cap0, os0, hO0⟩ := open_ops (hval 0 22 v0 rfl rfl) h0
  obtain rfl := hO0.val
  obtain ⟨a1, rfl, _, _, w1⟩ := open_int Try.underlying5 (hval 1 5 v1 rfl rfl) h1
  obtain ⟨a2, rfl, _, _, w2⟩ := open_int Try.underlying5 (hval 2 5 v2 rfl rfl) h2
  refine (pair_walk sa0 b0 off0 cap0 os0 W hO0 a1 a2 (bounds_u8 w1) (bounds_u8 w2)).mono fun e W' ⟨he, hg⟩ => ⟨_, he, ?_⟩
  exact law_post Try.laidOut (by intro t ht; rw [Try.params6] at ht; simp at ht; rcases ht with rfl | rfl | rfl <;> exact ⟨by kernel_rfl, of_decide_eq_true (by kernel_rfl)⟩) rfl Try.underlying4 rfl rfl hW' (hg.below (by simp))

theorem NetPairs_holds : Rows.NetPairsSaid :=
  OpenClaim.holds_of_wide 6 Try.f6 rfl rfl rfl rfl rfl rfl rfl ⟨rfl, rfl, rfl, rfl, rfl⟩ rfl rfl rfl rfl rfl (by kernel_rfl) Try.func6 (by kernel_rfl)
    (of_decide_eq_true (by kernel_rfl)) (by unfold Func.isWrapper; first | (rw [if_pos (by decide +kernel)]; kernel_rfl) | (rw [if_neg (by decide +kernel)]; exact ⟨rfl, rfl⟩))
    (fun os started H enc _ => netPairs_lifted os started H enc)
#print axioms NetPairs_holds
end Go.Proofs.Ytheogcihnclehaa
