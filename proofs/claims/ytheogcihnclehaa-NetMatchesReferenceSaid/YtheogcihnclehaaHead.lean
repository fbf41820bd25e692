/- head's example; few; three. -/
import Derived.Test.YtheogcihnclehaaDo
namespace Go.Proofs.Ytheogcihnclehaa
open Go.RowKit Go.Pl Go.WideMaps

/-- A network of the call's own. -/
structure Mine (w0 w : World) (p : Nat) (ρ : Roles) (S : NetS) : Prop where
  net : NetAt w p ρ S
  fr : Fr (fun _ => False) w0 w
  fresh : ∀ r, ρ r ≠ none → w0.heap.size ≤ r
theorem Mine.step {w0 w w' : World} {p : Nat} {ρ : Roles} {S S' : NetS} {v : Value} {e : Ending} (m : Mine w0 w p ρ S) (h : NPost p ρ S' v w e w') : e = .returned v ∧ ∃ ρ', Mine w0 w' p ρ' S' := by
  obtain ⟨he, ρ', h1, h2, h3⟩ := h
  refine ⟨he, ρ', h1, m.fr.trans' h2 (fun r hr hne => by have := m.fresh r hne; omega), fun r hr => ?_⟩
  by_cases hlt : r < w.heap.size
  · exact m.fresh r (h3 r hlt hr)
  · have := m.fr.size; omega
theorem Mine.next {w0 w : World} {p : Nat} {ρ : Roles} {S S' : NetS} {v v' : Value} {f : FuncId} {args : Array Value} (m : Mine w0 w p ρ S) (h : Calls Try.prog f args w (NPost p ρ S' v w)) (hv : v = v') :
    Calls Try.prog f args w fun e w' => e = .returned v' ∧ ∃ ρ', Mine w0 w' p ρ' S' := h.mono fun e w' hp => by
  subst hv; exact m.step hp
theorem NewPost.mine {n : Int} {w : World} {e : Ending} {w' : World} (h : NewPost n w e w') : ∃ p ρ, e = .returned (.tuple #[.pointer (some ⟨p, 0, none⟩), .int .i64 0]) ∧ Mine w w' p ρ (NetS.new n) := by
  obtain ⟨p, ρ, h1, h2, h3, h4⟩ := h
  exact ⟨p, ρ, h1, h2, h3, h4⟩

def tA : ByteArray := ⟨#[97]⟩
def tB : ByteArray := ⟨#[98]⟩
def s0 := NetS.new 2
def s1 := s0.send 0 1 tA
def s2 := s1.send 0 1 tB
def s3 := s2.deliver 0 1 1 false
def s4 := s3.deliver 0 1 0 true
def s5 := s4.cutOff 1 0 true
def s6 := s5.deliver 0 1 0 false
def s7 := s6.lose 0 1 0
def s8 := s7.cutOff 0 1 false
def s9 := s8.send 0 1 tA
def s10 := s9.spoil 0 1 0 0 3
def s11 := s10.deliver 0 1 0 false
theorem v1 : Value.int .i64 (s0.sendE 0 1 tA) = .int .i64 0 := by kernel_rfl
theorem v2 : Value.int .i64 (s1.sendE 0 1 tB) = .int .i64 0 := by kernel_rfl
theorem v3 : DV s2 0 1 1 = .tuple #[.string tB, .int .i64 0] := by kernel_rfl
theorem v4 : DV s3 0 1 0 = .tuple #[.string tA, .int .i64 0] := by kernel_rfl
theorem v5 : Value.int .i64 (s4.count 0 1) = .int .i64 1 := by kernel_rfl
theorem v6 : Value.int .i64 (s4.cutE 1 0) = .int .i64 0 := by kernel_rfl
theorem v7 : DV s5 0 1 0 = .tuple #[.string ByteArray.empty, .int .i64 20] := by kernel_rfl
theorem v8 : Value.int .i64 (s6.loseE 0 1 0) = .int .i64 0 := by kernel_rfl
theorem v9 : Value.int .i64 (s7.cutE 0 1) = .int .i64 0 := by kernel_rfl
theorem v10 : Value.int .i64 (s8.sendE 0 1 tA) = .int .i64 0 := by kernel_rfl
theorem v11 : Value.int .i64 (s9.spoilE 0 1 0 0 3) = .int .i64 0 := by kernel_rfl
theorem v12 : DV s10 0 1 0 = .tuple #[.string tB, .int .i64 0] := by kernel_rfl
theorem v13 : Value.int .i64 (s11.sendE 0 0 tA) = .int .i64 1 := by kernel_rfl

set_option maxRecDepth 100000 in
set_option maxHeartbeats 4000000 in
theorem head_calls (w : World) : Calls Try.prog 9 #[] w fun e w' => e = .returned (.bool true) ∧ Fr (fun _ => False) w w' := by
  have eA : tA.toList = [97] := by kernel_rfl
  have eB : tB.toList = [98] := by kernel_rfl
  go_enter Try.func9, Try.ntmps9
  go_wp2_with fail
  refine (new_yes 2 _ (by omega) (by omega)).mono ?_
  intro e w1 hn
  obtain ⟨p, ρ, rfl, m⟩ := hn.mine
  clear hn
  go_wp2_with fail
  refine (m.next (send_calls m.net 0 1 tA (by decide +kernel)) v1).mono ?_
  rintro e w2 ⟨rfl, ρ2, m2⟩
  clear m
  go_wp2_with fail
  refine (m2.next (send_calls m2.net 0 1 tB (by decide +kernel)) v2).mono ?_
  rintro e w3 ⟨rfl, ρ3, m3⟩
  clear m2
  go_wp2_with fail
  refine (m3.next (deliver_calls m3.net 0 1 1 false) v3).mono ?_
  rintro e w4 ⟨rfl, ρ4, m4⟩
  clear m3
  go_wp2_with fail
  refine (m4.next (deliver_calls m4.net 0 1 0 true) v4).mono ?_
  rintro e w5 ⟨rfl, ρ5, m5⟩
  clear m4
  go_wp2_with fail
  refine (m5.next (count_calls m5.net 0 1) v5).mono ?_
  rintro e w6 ⟨rfl, ρ6, m6⟩
  clear m5
  go_wp2_with fail
  refine (m6.next (cut_calls m6.net 1 0 true) v6).mono ?_
  rintro e w7 ⟨rfl, ρ7, m7⟩
  clear m6
  go_wp2_with fail
  refine (m7.next (deliver_calls m7.net 0 1 0 false) v7).mono ?_
  rintro e w8 ⟨rfl, ρ8, m8⟩
  clear m7
  go_wp2_with fail
  refine (m8.next (lose_calls m8.net 0 1 0) v8).mono ?_
  rintro e w9 ⟨rfl, ρ9, m9⟩
  clear m8
  go_wp2_with fail
  refine (m9.next (cut_calls m9.net 0 1 false) v9).mono ?_
  rintro e w10 ⟨rfl, ρ10, m10⟩
  clear m9
  go_wp2_with fail
  refine (m10.next (send_calls m10.net 0 1 tA (by decide +kernel)) v10).mono ?_
  rintro e w11 ⟨rfl, ρ11, m11⟩
  clear m10
  go_wp2_with fail
  refine (m11.next (spoil_calls m11.net 0 1 0 0 3) v11).mono ?_
  rintro e w12 ⟨rfl, ρ12, m12⟩
  clear m11
  go_wp2_with fail
  refine (m12.next (deliver_calls m12.net 0 1 0 false) v12).mono ?_
  rintro e w13 ⟨rfl, ρ13, m13⟩
  clear m12
  go_wp2_with fail
  refine (new_no 9 _ (by omega)).mono ?_
  rintro e w14 ⟨rfl, rfl⟩
  go_wp2_with fail
  refine (m13.next (send_calls m13.net 0 0 tA (by decide +kernel)) v13).mono ?_
  rintro e w15 ⟨rfl, ρ15, m15⟩
  clear m13
  go_wp2_with fail
  go_ret
  exact ⟨rfl, m15.fr⟩

/-- A slice of operations in memory. -/
def OpsAt (w : World) (b off : Nat) (os : List Opr) : Prop := ∀ i o, os[i]? = some o → ∀ j v, o.cells[j]? = some v → w.cell? ⟨b, off + i * 8 + j, none⟩ = some v
theorem OpsAt.fr {w w' : World} {b off : Nat} {os : List Opr} (h : OpsAt w b off os) {F : Nat → Prop} (hf : Fr F w w') (hb : ¬ F b) : OpsAt w' b off os :=
  fun i o hi j v hv => hf.cell (h i o hi j v hv) hb

def fewB (os : List Opr) : Bool := os.all (fun o => decide (o.text.size ≤ 60)) && decide (os.length ≤ 80)
set_option maxHeartbeats 400000 in
theorem few_calls (sa : Option Addr) (b off cap : Nat) (os : List Opr) (w : World) (hix : ∀ k : Nat, k < os.length → sa = some ⟨b, off, none⟩) (h : OpsAt w b off os) (hl : os.length ≤ 9223372036854775807) (ht : ∀ o ∈ os, o.text.size ≤ 9223372036854775807) :
    Calls Try.prog 10 #[.slice sa os.length cap] w fun e w' => e = .returned (.bool (fewB os)) ∧ w = w' := by
  obtain ⟨n, hn⟩ : ∃ n, n = os.length := ⟨_, rfl⟩
  have hN := Lib.hid hn
  rw [← hn] at hl hix ⊢
  have H := Lib.hid h
  have HT := Lib.hid ht
  have HX := Lib.hid hix
  clear hn h ht hix
  go_enter Try.func10, Try.ntmps10
  go_wp2
  go_loop [3] (fun i => ∃ k : Nat, k ≤ n ∧ i = .int .i64 k ∧ Hid (∀ o ∈ os.take k, o.text.size ≤ 60)) (fun i => n - (intOf i).toNat)
  case atStart => exact ⟨0, Nat.zero_le _, rfl, by simp [Hid]⟩
  case round =>
    obtain ⟨k, hk, rfl, hall⟩ := hrel
    by_cases hlt : k < n
    · obtain ⟨o, ho⟩ : ∃ o, os[k]? = some o := ⟨_, List.getElem?_eq_getElem (by rw [← hN.out]; exact hlt)⟩
      have hc := H.out k o ho 6 _ rfl
      have hsa := HX.out k hlt
      have hsz := HT.out o (List.mem_of_getElem? ho)
      have ho' := Lib.hid ho
      clear ho
      by_cases hbig : 60 < o.text.size
      · go_wp2
        go_ret
        refine ⟨?_, rfl⟩
        have : fewB os = false := by
          have : os.all (fun o => decide (o.text.size ≤ 60)) = false := by
            rw [List.all_eq_false]; exact ⟨o, List.mem_of_getElem? ho'.out, by simp; omega⟩
          simp [fewB, this]
        rw [this]; rfl
      · go_wp2
        go_round
        case rel =>
          refine ⟨k + 1, by omega, by go_num, ?_⟩
          intro x hx
          rw [List.take_add_one, ho'.out] at hx
          simp at hx
          rcases hx with hx | rfl
          · exact hall.out x hx
          · omega
        case measure => simp [intOf]; omega
    · have hkn : k = n := by omega
      have hall' : Hid (os.all (fun o => decide (o.text.size ≤ 60)) = true) := by
        simp only [Hid, List.all_eq_true, decide_eq_true_eq]
        intro o ho
        exact hall.out o (by rw [List.take_of_length_le (by rw [← hN.out]; omega)]; exact ho)
      have hfin : Hid (fewB os = decide ((n : Int) ≤ 80)) := by
        simp only [Hid, fewB, hall'.out, Bool.true_and, ← hN.out]
        congr 1; exact propext (by omega)
      clear hkn
      go_wp2
      go_ret
      refine ⟨by rw [hfin.out]; rfl, rfl⟩

def thr (o : Opr) : Opr := { o with a := o.a.tmod 3 % 3, b := (o.a.tmod 3 % 3 + 1 + o.b.tmod 2 % 2) % 3 }
theorem thr_in (o : Opr) : 0 ≤ (thr o).a ∧ (thr o).a < 3 ∧ 0 ≤ (thr o).b ∧ (thr o).b < 3 ∧ (thr o).a ≠ (thr o).b := by
  simp only [thr]; omega
set_option maxHeartbeats 400000 in
theorem three_calls (o : Opr) (w : World) :
    Calls Try.prog 18 #[.agg o.cells] w fun e w' => e = .returned (.agg (thr o).cells) ∧ Fr (fun _ => False) w w' := by
  have h1 : -3 < o.a.tmod 3 ∧ o.a.tmod 3 < 3 := ⟨Int.lt_tmod_of_pos _ (by omega), Int.tmod_lt_of_pos _ (by omega)⟩
  have h2 : -2 < o.b.tmod 2 ∧ o.b.tmod 2 < 2 := ⟨Int.lt_tmod_of_pos _ (by omega), Int.tmod_lt_of_pos _ (by omega)⟩
  go_enter Try.func18, Try.ntmps18
  go_wp2
  exact bodyPost_ret (v := .agg (thr o).cells) (by simp [results, Try.results18, go_sem, thr]) rfl ⟨rfl, ((Fr.refl _ _).alloc _).alloc _⟩
end Go.Proofs.Ytheogcihnclehaa
