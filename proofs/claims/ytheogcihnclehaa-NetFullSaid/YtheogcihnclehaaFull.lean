/- NetFull returns true, whatever its two nodes and its text: a text of more than 20000 bytes is refused, a hundred messages are taken, the next one is refused until one is taken out. -/
import Derived.Test.YtheogcihnclehaaFin
import Derived.OpenShut
namespace Go.Proofs.Ytheogcihnclehaa
open Go.RowKit Go.Pl Go.WideMaps Go.ChangeShapes Go.WideShapes
open Go.ChangeMaps (open_string)

def fullS (x y : Int) (t : ByteArray) (k : Nat) : NetS := (NetS.new 3).setq x y (List.replicate k t)
section
variable {x y : Int} {t u : ByteArray} (h : 0 ≤ x ∧ x < 3 ∧ 0 ≤ y ∧ y < 3 ∧ x ≠ y)
include h
theorem full_right (k : Nat) : (fullS x y t k).right x y ∧ (fullS x y t k).right y x := by
  refine ⟨⟨h.1, h.2.2.1, h.2.1, h.2.2.2.1, h.2.2.2.2⟩, ⟨h.2.2.1, h.1, h.2.2.2.1, h.2.1, fun e => h.2.2.2.2 e.symm⟩⟩
theorem full_send (k : Nat) (hk : k < 100) (ht : t.size ≤ 60) : (fullS x y t k).sendE x y t = 0 ∧ (fullS x y t k).send x y t = fullS x y t (k + 1) := by
  have hq : (fullS x y t k).q x y = List.replicate k t := NetS.setq_same _ _ _ _
  have hE : (fullS x y t k).sendE x y t = 0 := by
    have hr := (full_right (t := t) h k).1
    have hc : (fullS x y t k).cut x y = false := rfl
    have h2 : ¬ 20000 < t.size := by omega
    have h3 : ¬ 100 ≤ k := by omega
    simp [NetS.sendE, hr, hc, hq, h2, h3]
  refine ⟨hE, ?_⟩
  rw [NetS.send, if_pos hE, hq]
  unfold fullS
  rw [NetS.setq_setq]
  simp [List.replicate_succ']
theorem full_full (ht : t.size ≤ 60) : (fullS x y t 100).sendE x y t = 21 ∧ (fullS x y t 100).send x y t = fullS x y t 100 := by
  have hq : (fullS x y t 100).q x y = List.replicate 100 t := NetS.setq_same _ _ _ _
  have hE : (fullS x y t 100).sendE x y t = 21 := by
    have hr := (full_right (t := t) h 100).1
    have hc : (fullS x y t 100).cut x y = false := rfl
    have h2 : ¬ 20000 < t.size := by omega
    simp [NetS.sendE, hr, hc, hq, h2]
  exact ⟨hE, by rw [NetS.send, hE]; rfl⟩
theorem full_long (hu : 20000 < u.size) : (fullS x y t 100).sendE x y u = 2 ∧ (fullS x y t 100).send x y u = fullS x y t 100 := by
  have hE : (fullS x y t 100).sendE x y u = 2 := by
    have hr := (full_right (t := t) h 100).1
    have hc : (fullS x y t 100).cut x y = false := rfl
    simp [NetS.sendE, hr, hc, hu]
  exact ⟨hE, by rw [NetS.send, hE]; rfl⟩
def backS (x y : Int) (t u : ByteArray) (k : Nat) : NetS := (fullS x y t k).setq y x [u]
theorem back_send (hu : u.size ≤ 20000) : (fullS x y t 100).sendE y x u = 0 ∧ (fullS x y t 100).send y x u = backS x y t u 100 := by
  have hq : (fullS x y t 100).q y x = [] := by
    have : ¬ (y = x ∧ x = y) := by omega
    simp [fullS, NetS.setq, NetS.new, this]
  have hE : (fullS x y t 100).sendE y x u = 0 := by
    have hr := (full_right (t := t) h 100).2
    have hc : (fullS x y t 100).cut y x = false := rfl
    have h2 : ¬ 20000 < u.size := by omega
    simp [NetS.sendE, hr, hc, hq, h2]
  exact ⟨hE, by rw [NetS.send, if_pos hE, hq]; rfl⟩
theorem back_q (k : Nat) : (backS x y t u k).q x y = List.replicate k t := by
  have : ¬ (x = y ∧ y = x) := by omega
  simp [backS, fullS, NetS.setq, this]
theorem back_set (k n : Nat) : (backS x y t u k).setq x y (List.replicate n t) = backS x y t u n := by
  simp only [backS, fullS, NetS.setq, NetS.mk.injEq, true_and, and_true]
  funext c d
  by_cases h1 : c = x ∧ d = y
  · have : ¬ (c = y ∧ d = x) := by omega
    simp only [h1, and_self, if_true]
    have h2 : ¬ (x = y ∧ y = x) := by omega
    simp [h2]
  · simp [h1]
theorem back_lose : (backS x y t u 100).loseE x y 99 = 0 ∧ (backS x y t u 100).lose x y 99 = backS x y t u 99 := by
  have hr : (backS x y t u 100).right x y := (full_right (t := t) h 100).1
  have hat : (backS x y t u 100).at_ x y 99 = some t := by simp [NetS.at_, back_q h]
  have hE : (backS x y t u 100).loseE x y 99 = 0 := by simp [NetS.loseE, hr, hat]
  refine ⟨hE, ?_⟩
  rw [NetS.lose, if_pos hE, NetS.drop, back_q h]
  have : (List.replicate 100 t).eraseIdx (Int.toNat 99) = List.replicate 99 t := by rw [List.eraseIdx_replicate]; rfl
  rw [this, back_set h]
theorem back_again (ht : t.size ≤ 60) : (backS x y t u 99).sendE x y t = 0 ∧ (backS x y t u 99).send x y t = backS x y t u 100 := by
  have hE : (backS x y t u 99).sendE x y t = 0 := by
    have hr : (backS x y t u 99).right x y := (full_right (t := t) h 99).1
    have hc : (backS x y t u 99).cut x y = false := rfl
    have h2 : ¬ 20000 < t.size := by omega
    simp [NetS.sendE, hr, hc, back_q h, h2]
  refine ⟨hE, ?_⟩
  rw [NetS.send, if_pos hE, back_q h, ← List.replicate_succ', back_set h]
theorem back_count : (backS x y t u 100).count x y = 100 := by
  have hr : (backS x y t u 100).right x y := (full_right (t := t) h 100).1
  rw [NetS.count, if_pos hr, back_q h]; simp
end

theorem Mine.go {w0 w : World} {p : Nat} {ρ : Roles} {S S' S2 : NetS} {v v' : Value} {f : FuncId} {args : Array Value} (m : Mine w0 w p ρ S) (h : Calls Try.prog f args w (NPost p ρ S' v w)) (hv : v = v') (hS : S' = S2) :
    Calls Try.prog f args w fun e w' => e = .returned v' ∧ ∃ ρ', Mine w0 w' p ρ' S2 := by
  subst hS; exact m.next h hv

def longT : ByteArray := ⟨Array.replicate 20001 0⟩
theorem longT_size : longT.size = 20001 := by simp [longT, ByteArray.size]
theorem longT_bytes : madeCells #[.int .u8 0] 20001 = bytesOf longT := by
  rw [madeCells_eq, bytesOf, longT, Array.map_replicate]; rfl
def longU : ByteArray := longT.extract 1 20001
theorem longU_size : longU.size = 20000 := by simp [longU, longT_size]

set_option maxRecDepth 100000 in
set_option maxHeartbeats 4000000 in
theorem full_walk (a b : Int) (t : ByteArray) (ha : 0 ≤ a ∧ a ≤ 255) (hb : 0 ≤ b ∧ b ≤ 255) (ht : t.size ≤ 9223372036854775807) (w : World) :
    Calls Try.prog 4 #[.int .u8 a, .int .u8 b, .string t] w fun e w' => e = .returned (.bool true) ∧ Fr (fun _ => False) w w' := by
  go_enter Try.func4, Try.ntmps4
  go_wp2_with fail
  refine (head_calls w).mono ?_
  rintro e w1 ⟨rfl, f1⟩
  go_wp2_with fail
  refine (new_yes 3 _ (by omega) (by omega)).mono ?_
  intro e w2 hn
  obtain ⟨p, ρ, rfl, m0⟩ := hn.mine
  have m : Mine w w2 p ρ (NetS.new 3) := ⟨m0.net, f1.trans m0.fr, fun r hr => Nat.le_trans f1.size (m0.fresh r hr)⟩
  clear hn m0 f1
  by_cases hbig : 60 < t.size
  · go_wp2
    go_ret
    exact ⟨rfl, m.fr⟩
  have hts : t.size ≤ 60 := by omega
  have hmk : ∀ w : World, (Instr.makeSlice 38 (.int .i64 20001) (.int .i64 20001)).run Try.prog w = .ok (.slice (some ⟨w.heap.size, 0, none⟩) 20001 20001) (w.alloc (.cells (bytesOf longT) 5)) := fun w => by
    have := run_make_row' (P := Try.prog) 38 5 (.int .u8 0) 1 Try.underlying38 info5 rfl .i64 .i64 20001 (by omega) (by omega) w
    rw [longT_bytes] at this
    exact this
  have hcv : ∀ w : World, (convert 38 9 (.slice (some ⟨w.heap.size, 0, none⟩) 20001 20001)).run Try.prog (w.alloc (.cells (bytesOf longT) 5)) = .ok (.string longT) (w.alloc (.cells (bytesOf longT) 5)) := fun w => by
    have := text_of (P := Try.prog) (w.alloc (.cells (bytesOf longT) 5)) 38 9 5 w.heap.size 20001 longT Try.underlying38 Try.underlying5 Try.underlying9 (blk_alloc_new _ _)
    rw [longT_size] at this
    exact this
  have m1 : Mine w (w2.alloc (.cells (bytesOf longT) 5)) p ρ (fullS (a % 3) ((a % 3 + 1 + b % 2) % 3) t 0) := by
    have h0 : fullS (a % 3) ((a % 3 + 1 + b % 2) % 3) t 0 = NetS.new 3 := NetS.setq_q (NetS.new 3) _ _
    rw [h0]
    exact ⟨m.net.fr (F := fun _ => False) (by simp) (by simp), m.fr.alloc _, m.fresh⟩
  clear m
  have hxy : Hid (0 ≤ a % 3 ∧ a % 3 < 3 ∧ 0 ≤ (a % 3 + 1 + b % 2) % 3 ∧ (a % 3 + 1 + b % 2) % 3 < 3 ∧ a % 3 ≠ (a % 3 + 1 + b % 2) % 3) := by unfold Hid; omega
  go_wp2
  go_loopw [13] (fun i wr => ∃ k : Nat, k ≤ 100 ∧ i = .int .i64 k ∧ ∃ ρ, Mine w wr p ρ (fullS (a % 3) ((a % 3 + 1 + b % 2) % 3) t k)) (fun i _ => 100 - (intOf i).toNat)
  case atStart => exact ⟨0, by omega, rfl, ρ, m1⟩
  case round =>
    clear m1
    obtain ⟨k, hk, rfl, ρ1, m⟩ := hrel
    by_cases hlt : k < 100
    · obtain ⟨e1, e2⟩ := full_send (t := t) hxy.out k hlt hts
      have hC := Lib.hid (m.go (send_calls m.net _ _ t ht) (congrArg _ e1) e2)
      clear m e1 e2
      go_wp2_with (go_at_call 15; refine hC.out.mono ?_; rintro e w3 ⟨rfl, ρ3, m3⟩)
      go_roundw
      case rel => exact ⟨k + 1, by omega, by go_num, ρ3, m3⟩
      case measure => simp [intOf]; omega
    · obtain rfl : k = 100 := by omega
      have hc := hxy.out
      go_wp2_with fail
      refine (m.go (send_calls m.net _ _ t ht) (congrArg _ (full_full hc hts).1) (full_full hc hts).2).mono ?_
      rintro e w3 ⟨rfl, ρ3, m3⟩
      clear m
      go_wp2_with fail
      refine (m3.go (send_calls m3.net _ _ longT (by rw [longT_size]; omega)) (congrArg _ (full_long hc (by rw [longT_size]; omega)).1) (full_long hc (by rw [longT_size]; omega)).2).mono ?_
      rintro e w4 ⟨rfl, ρ4, m4⟩
      clear m3
      have hU : longT.extract 1 longT.size = longU := by rw [longT_size]; rfl
      have hU2 := longT_size
      go_wp2_with fail
      refine (m4.go (send_calls m4.net _ _ longU (by rw [longU_size]; omega)) (congrArg _ (back_send hc (by rw [longU_size]; omega)).1) (back_send hc (by rw [longU_size]; omega)).2).mono ?_
      rintro e w5 ⟨rfl, ρ5, m5⟩
      clear m4
      go_wp2_with fail
      refine (m5.go (lose_calls m5.net _ _ 99) (congrArg _ (back_lose hc).1) (back_lose hc).2).mono ?_
      rintro e w6 ⟨rfl, ρ6, m6⟩
      clear m5
      go_wp2_with fail
      refine (m6.go (send_calls m6.net _ _ t ht) (congrArg _ (back_again hc hts).1) (back_again hc hts).2).mono ?_
      rintro e w7 ⟨rfl, ρ7, m7⟩
      clear m6
      go_wp2_with fail
      refine (m7.go (count_calls m7.net _ _) (congrArg _ (back_count hc)) rfl).mono ?_
      rintro e w8 ⟨rfl, ρ8, m8⟩
      clear m7
      go_wp2_with fail
      go_ret
      exact ⟨rfl, m8.fr⟩

set_option maxRecDepth 100000 in
theorem full_lifted (os : Os) (started : os.Started) (H : Type) (enc : TypeId × Value → H) :
    ReturnsInHanded {} Try.checked os 4 .any (Rows.netFullSpec.pre6 enc Try.prog Try.f4 Rows.netFullRow.domain false) (Rows.netFullSpec.post enc Try.prog Try.f4 false true false false) := by
  refine returnsInHanded_of_change (C := Try.checked) Try.own started (by kernel_rfl) Try.func4
    (ChangeSpec.witness6 (enc := enc) (C := Try.checked) false ⟨#[], #[.int .u8 0, .int .u8 0, .string ByteArray.empty], []⟩ 8 (by kernel_rfl) (by kernel_rfl) (by kernel_rfl) (by kernel_rfl)) ?_
  intro W base args ds gs before hval0 hW _ _
  have hval : ∀ (j : Nat) t v, Try.f4.params[j]? = some t → args[j]? = some v → Value.okWide Try.prog W .any base t v := hval0
  have hW' := hW
  obtain ⟨p, q, hA0, hV, _, _, _⟩ := hW
  have hA : DataW.TrodAll enc Try.prog W 0 (fun _ => true) true Try.f4.params.toList args.toList ds p := hA0
  rw [Try.params4] at hA hval
  obtain ⟨v0, vs0, d0, ds0, p0, q0, hargs, rfl, rfl, h0, r0⟩ := trodAll_cons hA
  obtain ⟨v1, vs1, d1, ds1, p1, q1, rfl, rfl, rfl, h1, r1⟩ := trodAll_cons r0
  obtain ⟨v2, vs2, d2, ds2, p2, q2, rfl, rfl, rfl, h2, r2⟩ := trodAll_cons r1
  obtain ⟨rfl, rfl, rfl⟩ := trodAll_nil r2
  obtain rfl : args = #[v0, v1, v2] := by cases args; simp_all
  obtain ⟨rfl, rfl⟩ := trodVars_none hV
  obtain ⟨a0, rfl, _, _, w0⟩ := open_int Try.underlying5 (hval 0 5 v0 rfl rfl) h0
  obtain ⟨a1, rfl, _, _, w1⟩ := open_int Try.underlying5 (hval 1 5 v1 rfl rfl) h1
  obtain ⟨a2, rfl, _, _, w2⟩ := open_string Try.underlying9 (hval 2 9 v2 rfl rfl) h2
  refine (full_walk a0 a1 a2 (bounds_u8 w0) (bounds_u8 w1) (by unfold maxLen at w2; exact w2) W).mono fun e W' ⟨he, hg⟩ => ⟨_, he, ?_⟩
  exact law_post Try.laidOut (by intro t ht; rw [Try.params4] at ht; simp at ht; rcases ht with rfl | rfl | rfl <;> exact ⟨by kernel_rfl, of_decide_eq_true (by kernel_rfl)⟩) rfl Try.underlying4 rfl rfl hW' (hg.below (by simp))

theorem NetFull_holds : Rows.NetFullSaid :=
  OpenClaim.holds_of_wide 4 Try.f4 rfl rfl rfl rfl rfl rfl rfl ⟨rfl, rfl, rfl, rfl, rfl⟩ rfl rfl rfl rfl rfl (by kernel_rfl) Try.func4 (by kernel_rfl)
    (of_decide_eq_true (by kernel_rfl)) (by unfold Func.isWrapper; first | (rw [if_pos (by decide +kernel)]; kernel_rfl) | (rw [if_neg (by decide +kernel)]; exact ⟨rfl, rfl⟩))
    (fun os started H enc _ => full_lifted os started H enc)
#print axioms NetFull_holds
end Go.Proofs.Ytheogcihnclehaa
