/- The network beside the reference network: one operation on both. -/
import Derived.Test.YtheogcihnclehaaRf9
namespace Go.Proofs.Ytheogcihnclehaa
open Go.RowKit Go.Pl Go.WideMaps

structure Pr (w0 w : World) (p : Nat) (ρ : Roles) (S : NetS) (r : Nat) (σ : Nat → Prop) (R : RefS) : Prop where
  a : Mine w0 w p ρ S
  b : RefA w r σ R
  fb : ∀ k, σ k → w0.heap.size ≤ k
  dj : ∀ k, ρ k ≠ none → ¬ σ k

theorem RefA.fr {w w' : World} {r : Nat} {σ : Nat → Prop} {R : RefS} (h : RefA w r σ R) {F : Nat → Prop} (hf : Fr F w w') (hd : ∀ k, σ k → ¬ F k) : RefA w' r σ R := by
  obtain ⟨mv, cv, h⟩ := h; exact ⟨mv, cv, h.fr hf hd⟩
theorem RefA.lt {w : World} {r : Nat} {σ : Nat → Prop} {R : RefS} (h : RefA w r σ R) : ∀ k, σ k → k < w.heap.size := by
  obtain ⟨mv, cv, h⟩ := h; exact h.lt

theorem Pr.quiet {w0 w w' p ρ S r σ R} (h : Pr w0 w p ρ S r σ R) (hf : Fr (fun _ => False) w w') : Pr w0 w' p ρ S r σ R := ⟨h.a.quiet hf, h.b.fr hf (by simp), h.fb, h.dj⟩
theorem Pr.left {w0 w w' p ρ S r σ R} (h : Pr w0 w p ρ S r σ R) {S' : NetS} {v : Value} {e : Ending} (hp : NPost p ρ S' v w e w') : e = .returned v ∧ ∃ ρ', Pr w0 w' p ρ' S' r σ R := by
  obtain ⟨he, ρ', h1, h2, h3⟩ := hp
  have hlt := h.b.lt
  refine ⟨he, ρ', ⟨h1, h.a.fr.trans' h2 (fun r hr hne => by have := h.a.fresh r hne; omega), fun r hr => ?_⟩, h.b.fr h2 (fun k hk hne => h.dj k hne hk), h.fb, fun k hk hs => ?_⟩
  · by_cases hl : r < w.heap.size
    · exact h.a.fresh r (h3 r hl hr)
    · have := h.a.fr.size; omega
  · exact h.dj k (h3 k (hlt k hs) hk) hs
theorem Pr.right {w0 w w' p ρ S r σ R} (h : Pr w0 w p ρ S r σ R) {S' : NetS} {n : Nat} {v : Value} {e : Ending} (hp : APost r σ S' n v w e w') : e = .returned v ∧ ∃ σ' R', Pr w0 w' p ρ S r σ' R' ∧ Agree S' R' ∧ Bd R' n := by
  obtain ⟨he, σ', R', h1, h2, h3, h4, h5⟩ := hp
  have hlt := h.a.net.lt
  refine ⟨he, σ', R', ⟨⟨h.a.net.fr h4 (fun k hk hs => h.dj k hk hs), h.a.fr.trans' h4 (fun k hk hs => by have := h.fb k hs; omega), h.a.fresh⟩, h1, fun k hk => ?_, fun k hk hs => ?_⟩, h2, h3⟩
  · by_cases hl : k < w.heap.size
    · exact h.fb k (h5 k hl hk)
    · have := h.a.fr.size; omega
  · exact h.dj k hk (h5 k (hlt k hk) hs)
theorem Mine.ref {w0 w w' : World} {p : Nat} {ρ : Roles} {S : NetS} (m : Mine w0 w p ρ S) {n : Int} {e : Ending} (h : RNew n w e w') :
    ∃ r σ, e = .returned (.tuple #[.pointer (some ⟨r, 0, none⟩), .int .i64 0]) ∧ Pr w0 w' p ρ S r σ ⟨n, [], []⟩ := by
  obtain ⟨r, σ, he, h1, h2, h3⟩ := h
  refine ⟨r, σ, he, m.quiet h2, h1, fun k hk => Nat.le_trans m.fr.size (h3 k hk), fun k hk hs => ?_⟩
  have h4 := h3 k hs; have := m.net.lt k hk; omega

theorem agree_sz {w : World} {p : Nat} {ρ : Roles} {S : NetS} {R : RefS} (h : NetAt w p ρ S) (ha : Agree S R) : ∀ m ∈ R.ms, (txt m).size ≤ 20000 := fun m hm => by
  obtain ⟨mq, mc, f, g, h⟩ := h
  refine h.sz m.1 m.2.1 _ ?_
  rw [ha.q]
  exact List.mem_map_of_mem (List.mem_filter.2 ⟨hm, by simp [mt]⟩)

theorem Pr.do_ {w0 w p ρ S r σ R} (h : Pr w0 w p ρ S r σ R) (o : Opr) (ht : o.text.size ≤ 9223372036854775807) :
    Calls Try.prog 13 #[.pointer (some ⟨p, 0, none⟩), .agg o.cells] w fun e w' => e = .returned (.tuple #[.string (doT S o), .int .i64 (doK S o), .int .i64 (doE S o)]) ∧ ∃ ρ', Pr w0 w' p ρ' (doS S o) r σ R :=
  (do_calls h.a.net o ht).mono fun _ _ hp => h.left hp
theorem Pr.want {w0 w p ρ S S2 r σ R} {n : Nat} (h : Pr w0 w p ρ S2 r σ R) (ha : Agree S R) (hb : Bd R n) (hn : n ≤ 900) (hsz : ∀ m ∈ R.ms, (txt m).size ≤ 20000) (o : Opr) (ht : o.text.size ≤ 9223372036854775807) :
    Calls Try.prog 14 #[.pointer (some ⟨r, 0, none⟩), .agg o.cells] w fun e w' => e = .returned (.tuple #[.string (doT S o), .int .i64 (doK S o), .int .i64 (doE S o)]) ∧ ∃ σ' R', Pr w0 w' p ρ S2 r σ' R' ∧ Agree (doS S o) R' ∧ Bd R' (n + 1) := by
  obtain ⟨mv, cv, hR⟩ := h.b
  exact (want_calls hR ha hb hn o ht hsz).mono fun _ _ hp => h.right hp

def nilE (o : Opr) : Int := if o.kind < 0 ∨ 4 < o.kind then 0 else 1
theorem do_nil' (o : Opr) (w : World) : Calls Try.prog 13 #[.pointer none, .agg o.cells] w fun e w' => e = .returned (.tuple #[.string ByteArray.empty, .int .i64 0, .int .i64 (nilE o)]) ∧ Fr (fun _ => False) w w' := do_nil o w
theorem want_nil' (o : Opr) (w : World) : Calls Try.prog 14 #[.pointer none, .agg o.cells] w fun e w' => e = .returned (.tuple #[.string ByteArray.empty, .int .i64 0, .int .i64 (nilE o)]) ∧ Fr (fun _ => False) w w' := want_nil o w
theorem size35r (w : World) : (Go.sizeOf 35).run Try.prog w = .ok 8 w := by kernel_rfl
theorem few_len {os : List Opr} (h : fewB os = true) : os.length ≤ 80 := by simp [fewB] at h; exact h.2

set_option maxRecDepth 100000 in
set_option maxHeartbeats 4000000 in
theorem ref_walk (nodes : Int) (sa : Option Addr) (b off cap : Nat) (os : List Opr) (w : World) (h : OpsV w (.slice sa os.length cap) sa b off cap os) :
    Calls Try.prog 3 #[.int .i64 nodes, .slice sa os.length cap] w fun e w' => e = .returned (.bool true) ∧ Fr (fun _ => False) w w' := by
  obtain ⟨n, hn⟩ : ∃ n, n = os.length := ⟨_, rfl⟩
  have hN := Lib.hid hn
  have hle := h.le
  have hfew := Lib.hid (fun w' => few_calls sa b off cap os w' h.ix)
  have hix := h.ix
  have HO := Lib.hid h.at_
  have htx := Lib.hid h.tx
  rw [← hn] at hfew hix hle ⊢
  have HX := Lib.hid hix
  clear hn h hix
  go_enter Try.func3, Try.ntmps3
  go_wp2_with fail
  refine (head_calls w).mono ?_
  rintro e w1 ⟨rfl, f1⟩
  have hF := Lib.hid (hfew.out w1 (HO.out.fr f1 (by simp)) hle htx.out)
  go_wp2_with fail
  refine hF.out.mono ?_
  rintro e w4 ⟨rfl, rfl⟩
  clear hF hfew
  by_cases hfw : fewB os = true
  · have h80 : n ≤ 80 := by rw [hN.out]; exact few_len hfw
    by_cases hnd : 1 ≤ nodes ∧ nodes ≤ 8
    · go_wp2_with fail
      refine (new_yes nodes _ hnd.1 hnd.2).mono ?_
      intro e w2 hn
      obtain ⟨p, ρ, rfl, m0⟩ := hn.mine
      have m : Mine w w2 p ρ (NetS.new nodes) := ⟨m0.net, f1.trans m0.fr, fun r hr => Nat.le_trans f1.size (m0.fresh r hr)⟩
      clear hn m0 f1
      go_wp2_with fail
      refine (rnew_yes nodes _ hnd.1 hnd.2).mono ?_
      intro e w3 hn
      obtain ⟨r, σ, rfl, T⟩ := m.ref hn
      clear hn m
      go_wp2
      go_loopw [10] (fun i wr => ∃ k : Nat, k ≤ n ∧ i = .int .i64 k ∧ ∃ ρ σ S R, Pr w wr p ρ S r σ R ∧ Agree S R ∧ Bd R k) (fun i _ => n - (intOf i).toNat)
      case atStart => exact ⟨0, by omega, rfl, ρ, σ, _, _, T, agree_new nodes, Nat.le_refl _, Nat.le_refl _⟩
      case round =>
        clear T
        obtain ⟨k, hk, rfl, ρ1, σ1, S, R, T, ha, hb⟩ := hrel
        by_cases hlt : k < n
        · obtain ⟨o, ho⟩ : ∃ o, os[k]? = some o := ⟨_, List.getElem?_eq_getElem (by rw [← hN.out]; exact hlt)⟩
          have hsa := fun w => index_run (P := Try.prog) Try.underlying22 size35r (cap := cap) (HX.out k hlt) hlt w
          have htx' : o.text.size ≤ 9223372036854775807 := htx.out o (List.mem_of_getElem? ho)
          have hsz := Lib.hid (agree_sz T.a.net ha)
          have hA := HO.out.fr T.a.fr (by simp)
          obtain ⟨c0, c1, c2, c3, c4, c5, c6, c7⟩ := hA.eight ho
          go_wp2_with fail
          refine (T.do_ o htx').mono ?_
          rintro e w5 ⟨rfl, ρ5, T5⟩
          clear T hA c0 c1 c2 c3 c4 c5 c6 c7
          have hA := HO.out.fr T5.a.fr (by simp)
          obtain ⟨c0, c1, c2, c3, c4, c5, c6, c7⟩ := hA.eight ho
          go_wp2_with fail
          refine (T5.want ha hb (by omega) hsz.out o htx').mono ?_
          rintro e w6 ⟨rfl, σ6, R6, T6, ha6, hb6⟩
          clear T5 hA c0 c1 c2 c3 c4 c5 c6 c7 hsa ho hsz ha hb
          go_wp2
          go_roundw
          case rel => exact ⟨k + 1, by omega, by go_num, ρ5, σ6, _, _, T6, ha6, hb6⟩
          case measure => simp [intOf]; omega
        · go_wp2
          go_ret
          exact ⟨rfl, T.a.fr⟩
    · go_wp2_with fail
      refine (new_no nodes _ (by omega)).mono ?_
      rintro e w2 ⟨rfl, rfl⟩
      go_wp2_with fail
      refine (rnew_no nodes _ (by omega)).mono ?_
      rintro e w2 ⟨rfl, rfl⟩
      go_wp2
      go_loopw [10] (fun i wr => ∃ k : Nat, k ≤ n ∧ i = .int .i64 k ∧ Fr (fun _ => False) w wr) (fun i _ => n - (intOf i).toNat)
      case atStart => exact ⟨0, by omega, rfl, f1⟩
      case round =>
        clear f1
        obtain ⟨k, hk, rfl, T⟩ := hrel
        by_cases hlt : k < n
        · obtain ⟨o, ho⟩ : ∃ o, os[k]? = some o := ⟨_, List.getElem?_eq_getElem (by rw [← hN.out]; exact hlt)⟩
          have hsa := fun w => index_run (P := Try.prog) Try.underlying22 size35r (cap := cap) (HX.out k hlt) hlt w
          have hA := HO.out.fr T (by simp)
          obtain ⟨c0, c1, c2, c3, c4, c5, c6, c7⟩ := hA.eight ho
          go_wp2_with fail
          refine (do_nil' o _).mono ?_
          rintro e w5 ⟨rfl, f5⟩
          have T5 := T.trans f5
          clear T f5 hA c0 c1 c2 c3 c4 c5 c6 c7
          have hA := HO.out.fr T5 (by simp)
          obtain ⟨c0, c1, c2, c3, c4, c5, c6, c7⟩ := hA.eight ho
          go_wp2_with fail
          refine (want_nil' o _).mono ?_
          rintro e w6 ⟨rfl, f6⟩
          have T6 := T5.trans f6
          clear T5 f6 hA c0 c1 c2 c3 c4 c5 c6 c7 hsa ho
          go_wp2
          go_roundw
          case rel => exact ⟨k + 1, by omega, by go_num, T6⟩
          case measure => simp [intOf]; omega
        · go_wp2
          go_ret
          exact ⟨rfl, T⟩
  · go_wp2
    go_ret
    exact ⟨rfl, f1⟩
end Go.Proofs.Ytheogcihnclehaa
