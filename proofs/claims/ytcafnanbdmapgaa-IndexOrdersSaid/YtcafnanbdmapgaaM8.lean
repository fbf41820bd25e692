/- The index: Near. -/
import Derived.Test.YtcafnanbdmapgaaM6
import Derived.Deep.LoopGhost
set_option linter.unusedVariables false
set_option linter.unusedSimpArgs false
namespace Go.Proofs.Ytcafnanbdmapgaa
open Go.RowKit Go.Pl

def rnil : Value → Bool
  | .pointer none => true
  | _ => false
section
variable {o : Oper} {w : World} {ρ : Operand → Value} {x y : Operand} {v : Value} {n0 n1 : Int}
theorem run_pnx59 (hp : ∃ a, v = .pointer a) (ho : o.op = .binOp .eql 59 x y 59) (hx : ρ x = v) (hy : ρ y = .pointer none) : (execOp ρ o).run Try.prog w = .ok (.value (.bool (rnil v))) w := by
  obtain ⟨a, rfl⟩ := hp
  cases a <;> simp [execOp, ho, hx, hy, go_sem, rnil]
theorem run_build80 (ho : o.op = .build 80 #[(1, .func 39)]) (hf : ρ (.func 39) = .func (.func 39) #[] #[]) : (execOp ρ o).run Try.prog w = .ok (.value (.agg #[.slice none 0 0, .func (.func 39) #[] #[]])) w := by
  simp [execOp, ho, hf, go_sem]
theorem run_box80 (ho : o.op = .box 80 x) (hx : ρ x = .agg #[.slice none 0 0, .func (.func 39) #[] #[]]) : (execOp ρ o).run Try.prog w = .ok (.value (.pointer (some ⟨w.heap.size, 0, none⟩))) (w.alloc (.cells #[.slice none 0 0, .func (.func 39) #[] #[]] 80)) := by
  simp [execOp, ho, hx, go_sem]
end
section
variable {O : Array Oper} {Q : Exit → Act → World → Prop} {rest : List Oper} {o : Oper} {a : Act} {w : World} {n d : Nat} {L : List (Nat × Value)} {x y : Operand} {ds : List Deferred} {n0 n1 : Int}
theorem env_two87 (En : EnvD ds n L a) (hd : o.dst = some d) (hn : d < n) (hf : (L.map (·.1)).contains d = false) (hw : Region.wanted o (yielded O a.tmps) = true) (ho : o.op = .buildSlice 87 2 #[(0, x), (1, y)]) (h0 : a.eval x = .int .i64 n0) (h1 : a.eval y = .int .i64 n1)
    (k : ∀ a' w' b, srcAt inC 1 w' w'.heap.size (some ⟨b, 0, none⟩) [n0, n1] → Fr (fun _ => False) w w' → EnvD ds n ((d, .slice (some ⟨b, 0, none⟩) 2 2) :: L) a' → wpList Try.prog O Q rest a' w') : wpList Try.prog O Q (o :: rest) a w :=
  env_put En hd hn hf hw (run_two87 ho h0 h1) fun a' E' => k a' _ _ (src_ints (ns := [n0, n1]) (blk_alloc_new _ _) (by simp)) ((Fr.refl _ _).alloc _) E'
end
theorem rows_ne {w : World} {B C : Nat} {u v : Value} {A : List ByteArray} {X : List Wt} (h : oStr w B u A) (k : oWt w C v X) : ∀ b, u.ownBlock = some b → v.ownBlock ≠ some b := by
  intro b hb
  rcases h.2 with ⟨h1, _⟩ | ⟨g, cap, cur, h1, _, h3, _⟩
  · rw [h1] at hb; cases hb
  · rw [h1] at hb
    cases hb
    exact ow_ne_struct (by decide) k h3
theorem out_ne {w : World} {B q : Nat} {u v : Value} {A : List ByteArray} (h : oStr w B u A) (k : quB w q v) : u.ownBlock ≠ some q := ow_ne_struct (by decide) h k
/-- What Near leaves. -/
def NearP (w : World) (p mb N : Nat) (S : Nat → Prop) (m : ByteArray → Option Bx) (pt : Pt) (n : Int) (e : Ending) (w' : World) : Prop :=
  ∃ v R C, e = .returned v ∧ w.heap.size ≤ C ∧ oStr w' C v R ∧ (if isP pt then NearR m pt n R else R = []) ∧ IxKeep w p mb N S m C w'
theorem isP_all {pt : Pt} : (List.all [pt.1, pt.2] fun n9 => decide (isI n9)) = decide (isP pt) := by
  unfold isP
  by_cases h1 : isI pt.1 <;> by_cases h2 : isI pt.2 <;> simp [h1, h2]

set_option maxRecDepth 100000 in
set_option maxHeartbeats 4000000 in
theorem treeK_calls {w : World} {p mb N : Nat} {S : Nat → Prop} {m : ByteArray → Option Bx} {rv : Value} (h : IxAt w p mb N S m rv true) : Calls Try.prog 37 #[.pointer (some ⟨p, 0, none⟩)] w fun e w' => e = .returned rv ∧ Fr (fun _ => False) w w' := by
  refine wp_start1 Try.func37 rfl rfl (n := 40) (by decide) fun a E => ?_
  have hf : Fr (fun _ => False) w w := Fr.refl _ _
  have hpl : p < w.heap.size := lt_of_blk h.hp
  have hml : mb < w.heap.size := h.hm.lt
  have hσ : ∀ k, S k → k < w.heap.size := h.lt
  refine wp_seq ?_
  refine wp_region_lit ?_
  refine env_put (d := 2) (v := (Value.pointer none)) E rfl (by decide) rfl (wanted_none rfl _) (run_assign rfl rfl) fun a E => ?_
  refine wpList_nil ?_
  refine then_n ?_
  refine wp_seq ?_
  refine wp_seq ?_
  refine wp_region_lit ?_
  refine env_put (d := 6) (v := .pointer (some ⟨p, 0, none⟩)) E rfl (by decide) rfl (wanted_none rfl _) (run_move rfl (E.get 1 rfl)) fun a E => ?_
  refine env_put (d := 7) (v := .pointer (some ⟨p, 0, none⟩)) E rfl (by decide) rfl (wanted_none rfl _) (run_nilchk rfl (E.get 0 rfl)) fun a E => ?_
  refine env_put (d := 8) (v := .pointer (some ⟨p, 2, none⟩)) E rfl (by decide) rfl (wanted_none rfl _) (fa61_2 rfl (E.get 0 rfl)) fun a E => ?_
  refine env_put (d := 9) (v := .bool true) E rfl (by decide) rfl (wanted_none rfl _) (run_ldb rfl (E.get 0 rfl) (bx h.hp 2 rfl)) fun a E => ?_
  refine env_put (d := 10) (v := .bool false) E rfl (by decide) rfl (wanted_none rfl _) (run_not rfl (E.get 0 rfl)) fun a E => ?_
  refine wpList_nil ?_
  refine then_n ?_
  refine wp_cond_false (E.get 0 rfl) ?_
  refine wp_skip ?_
  refine then_n ?_
  refine wp_seq ?_
  refine wp_region_lit ?_
  refine env_put (d := 36) (v := .pointer (some ⟨p, 0, none⟩)) E rfl (by decide) rfl (wanted_none rfl _) (run_move rfl (E.get 6 rfl)) fun a E => ?_
  refine env_put (d := 37) (v := .pointer (some ⟨p, 0, none⟩)) E rfl (by decide) rfl (wanted_none rfl _) (run_nilchk rfl (E.get 0 rfl)) fun a E => ?_
  refine env_put (d := 38) (v := .pointer (some ⟨p, 1, none⟩)) E rfl (by decide) rfl (wanted_none rfl _) (fa61_1 rfl (E.get 0 rfl)) fun a E => ?_
  refine env_put (d := 39) (v := rv) E rfl (by decide) rfl (wanted_none rfl _) (run_ld59 rfl (E.get 0 rfl) (bx h.hp 1 rfl)) fun a E => ?_
  refine env_set (d := 2) (v := rv) E rfl (by decide) (wanted_none rfl _) (run_assign rfl (E.get 0 rfl)) fun a E => ?_
  refine wpList_nil ?_
  refine then_n ?_
  refine wp_ret ?_
  exact ret_tmp (t := 2) rfl E (E.get 0 rfl) ⟨rfl, hf⟩
set_option maxRecDepth 100000 in
set_option maxHeartbeats 16000000 in
theorem near_calls {w : World} {p mb N : Nat} {S : Nat → Prop} {m : ByteArray → Option Bx} {rv : Value} {pk : Bool} (h : IxAt w p mb N S m rv pk) (hNb : N ≤ 100000) (pt : Pt) (n : Int) : Calls Try.prog 21 #[.pointer (some ⟨p, 0, none⟩), .agg (ptC pt), .int .i64 n] w (NearP w p mb N S m pt n) := by
  have h0 := h
  refine wp_start3 Try.func21 rfl rfl (n := 101) (by decide) fun a E => ?_
  have hf : Fr (fun _ => False) w w := Fr.refl _ _
  have hpl : p < w.heap.size := lt_of_blk h.hp
  have hml : mb < w.heap.size := h.hm.lt
  have hσ : ∀ k, S k → k < w.heap.size := h.lt
  refine wp_seq ?_
  refine wp_region_lit ?_
  refine env_box24 (d := 4) E rfl (by decide) rfl (wanted_none rfl _) rfl (E.get 1 rfl) fun a w1 b41 eb41 hb41 f1 E => ?_
  have h := IxAt.fr h f1 id id (fun _ _ h => h)
  have hf := hf.trans f1
  clear f1
  refine env_put (d := 6) (v := .slice none 0 0) E rfl (by decide) rfl (wanted_none rfl _) (run_assign rfl rfl) fun a E => ?_
  refine wpList_nil ?_
  refine then_n ?_
  refine wp_seq ?_
  refine wp_seq ?_
  have hbp0 := lt_of_blk hb41
  have hfz0 := hf.size
  refine wp_region_lit ?_
  refine env_put (d := 13) (v := .pointer (some ⟨p, 0, none⟩)) E rfl (by decide) rfl (wanted_none rfl _) (run_move rfl (E.get 2 rfl)) fun a E => ?_
  refine env_put (d := 14) (v := .bool false) E rfl (by decide) rfl (wanted_none rfl _) (run_pn29 rfl (E.get 0 rfl) rfl) fun a E => ?_
  refine env_put (d := 15) (v := .bool false) E rfl (by decide) rfl (wanted_none rfl _) (run_move rfl (E.get 0 rfl)) fun a E => ?_
  refine env_put (d := 16) (v := .pointer (some ⟨b41, 0, none⟩)) E rfl (by decide) rfl (w_yes (g := 2) (s := 15) E rfl rfl (by decide) (E.get 0 rfl)) (fa24_0 rfl (E.get 4 rfl)) fun a E => ?_
  refine env_put (d := 17) (v := .int .i64 pt.1) E rfl (by decide) rfl (w_yes (g := 2) (s := 15) E rfl rfl (by decide) (E.get 1 rfl)) (run_ldi rfl (E.get 0 rfl) (bx hb41 0 rfl)) fun a E => ?_
  refine env_put (d := 18) (v := .pointer (some ⟨b41, 1, none⟩)) E rfl (by decide) rfl (w_yes (g := 2) (s := 15) E rfl rfl (by decide) (E.get 2 rfl)) (fa24_1 rfl (E.get 6 rfl)) fun a E => ?_
  refine env_put (d := 19) (v := .int .i64 pt.2) E rfl (by decide) rfl (w_yes (g := 2) (s := 15) E rfl rfl (by decide) (E.get 3 rfl)) (run_ldi rfl (E.get 0 rfl) (bx hb41 1 rfl)) fun a E => ?_
  refine env_two87 (d := 20) E rfl (by decide) rfl (w_yes (g := 2) (s := 15) E rfl rfl (by decide) (E.get 4 rfl)) rfl (E.get 2 rfl) (E.get 0 rfl) fun a w1 b42 hs4 f1 E => ?_
  have h := IxAt.fr h f1 id id (fun _ _ h => h)
  have hb41 := f1.obj hb41 id
  have hf := hf.trans f1
  clear f1
  refine env_call (d := 21) (v := .bool (List.all [pt.1, pt.2] fun n9 => decide (isI n9))) E rfl (by decide) rfl (w_yes (g := 2) (s := 15) E rfl rfl (by decide) (E.get 5 rfl)) (run_call1 (enters_of Try.func34 (by kernel_rfl) rfl) rfl rfl (E.get 0 rfl)) (val_calls hs4 (by simp)) fun a w1 f1 E => ?_
  have h := IxAt.fr h f1 id id (fun _ _ h => h)
  have hb41 := f1.obj hb41 id
  have hs4 := hs4.fr f1 (fun _ _ h => h)
  have hf := hf.trans f1
  clear f1
  refine env_put (d := 22) (v := .bool (!(List.all [pt.1, pt.2] fun n9 => decide (isI n9)))) E rfl (by decide) rfl (w_yes (g := 2) (s := 15) E rfl rfl (by decide) (E.get 6 rfl)) (run_not rfl (E.get 0 rfl)) fun a E => ?_
  refine env_put (d := 23) (v := .bool (!(List.all [pt.1, pt.2] fun n9 => decide (isI n9)))) E rfl (by decide) rfl (wanted_none rfl _) (run_pick_f rfl (E.get 7 rfl) (E.get 0 rfl)) fun a E => ?_
  refine env_put (d := 24) (v := .bool (!(List.all [pt.1, pt.2] fun n9 => decide (isI n9)))) E rfl (by decide) rfl (wanted_none rfl _) (run_move rfl (E.get 0 rfl)) fun a E => ?_
  cases hq43 : (List.all [pt.1, pt.2] fun n9 => decide (isI n9)) with
  | false =>
    rw [hq43] at E
    refine env_skip (d := 25) (g := 11) (s := 24) E rfl (by decide) rfl rfl rfl (by decide) (E.get 0 rfl) fun a E => ?_
    refine env_skip (d := 26) (g := 11) (s := 24) E rfl (by decide) rfl rfl rfl (by decide) (E.get 1 rfl) fun a E => ?_
    refine env_skip (d := 27) (g := 11) (s := 24) E rfl (by decide) rfl rfl rfl (by decide) (E.get 2 rfl) fun a E => ?_
    refine env_put (d := 28) (v := .bool true) E rfl (by decide) rfl (wanted_none rfl _) (run_pick_t rfl (E.get 3 rfl) rfl) fun a E => ?_
    refine wpList_nil ?_
    refine then_n ?_
    refine wp_cond_true (E.get 0 rfl) ?_
    refine wp_seq ?_
    refine wp_region_lit ?_
    refine env_set (d := 6) (v := .slice none 0 0) E rfl (by decide) (wanted_none rfl _) (run_assign rfl rfl) fun a E => ?_
    refine wpList_nil ?_
    refine then_n ?_
    refine wp_ret ?_
    refine then_r ?_
    exact ret_tmp (t := 6) rfl E (E.get 0 rfl) ⟨_, [], w.heap.size, rfl, Nat.le_refl _, ow_nil _, by rw [if_neg (fun h9 => by have := isP_all.trans (decide_eq_true h9); rw [hq43] at this; cases this)], S, rv, pk, h, hf.mono fun _ _ h => h.elim, fun k hk => ⟨.inl hk, h0.lt k hk⟩⟩
  | true =>
    rw [hq43] at E
    refine env_put (d := 25) (v := .pointer (some ⟨p, 0, none⟩)) E rfl (by decide) rfl (w_yes (g := 11) (s := 24) E rfl rfl (by decide) (E.get 0 rfl)) (run_move rfl (E.get 14 rfl)) fun a E => ?_
    refine env_callv (d := 26) (R := fun u w8 => ∃ S2, IxAt w8 p mb N S2 m u true ∧ Fr (fun k => k = p) w1 w8 ∧ ∀ k, S2 k → S k ∨ w1.heap.size ≤ k) E rfl (by decide) rfl (w_yes (g := 11) (s := 24) E rfl rfl (by decide) (E.get 1 rfl)) (run_call1 (enters_of Try.func37 (by kernel_rfl) rfl) rfl rfl (E.get 0 rfl)) ((tree_calls h hNb).mono fun e w8 ⟨S9, r9, h1, h2, h3, h4⟩ => ⟨r9, h1, S9, h2, h3, h4⟩) fun a w1 rv2 hR E => ?_
    obtain ⟨S2, h2, f2, hS2⟩ := hR
    have hfs0 := hf.size
    have hf2 := (hf.mono fun _ _ h => h.elim).trans' f2 (fun _ _ e => e)
    have hb41 := f2.obj hb41 (fun e => by omega)
    have hS2 : ∀ k, S2 k → S k ∨ w.heap.size ≤ k := fun k hk => by rcases hS2 k hk with h9 | h9; exact .inl h9; exact .inr (by omega)
    clear hs4 h hf f2
    refine env_put (d := 27) (v := .bool (rnil rv2)) E rfl (by decide) rfl (w_yes (g := 11) (s := 24) E rfl rfl (by decide) (E.get 2 rfl)) (run_pnx59 h2.rp rfl (E.get 0 rfl) rfl) fun a E => ?_
    refine env_put (d := 28) (v := .bool (rnil rv2)) E rfl (by decide) rfl (wanted_none rfl _) (run_pick_f rfl (E.get 3 rfl) (E.get 0 rfl)) fun a E => ?_
    refine wpList_nil ?_
    refine then_n ?_
    cases hq44 : (rnil rv2) with
    | false =>
      rw [hq44] at E
      obtain ⟨hh, pr, br, L, hrv, hNd, hE⟩ := (h2.tree rfl).resolve_left (fun h9 => by rw [h9.1] at hq44; cases hq44)
      subst hrv
      have hptP : isP pt := of_decide_eq_true (isP_all.symm.trans hq43)
      refine wp_cond_false (E.get 0 rfl) ?_
      refine wp_skip ?_
      refine then_n ?_
      refine wp_seq ?_
      refine wp_region_lit ?_
      refine env_put (d := 29) (v := .agg #[.slice none 0 0, .func (.func 39) #[] #[]]) E rfl (by decide) rfl (wanted_none rfl _) (run_build80 rfl rfl) fun a E => ?_
      have hbpl := lt_of_blk hb41
      have hpl2 := lt_of_blk h2.hp
      have hml2 := h2.hm.lt
      refine env_put (d := 30) (v := .pointer (some ⟨w1.heap.size, 0, none⟩)) E rfl (by decide) rfl (wanted_none rfl _) (run_box80 rfl (E.get 0 rfl)) fun a E => ?_
      have f1 : Fr (fun _ => False) w1 (w1.alloc (.cells #[.slice none 0 0, .func (.func 39) #[] #[]] 80)) := (Fr.refl _ _).alloc _
      have hqb : quB (w1.alloc (.cells #[.slice none 0 0, .func (.func 39) #[] #[]] 80)) w1.heap.size (.slice none 0 0) := blk_alloc_new _ _
      obtain ⟨q, hqe⟩ : ∃ q, q = w1.heap.size := ⟨_, rfl⟩
      obtain ⟨wq, hwq⟩ : ∃ wq, wq = w1.alloc (.cells #[.slice none 0 0, .func (.func 39) #[] #[]] 80) := ⟨_, rfl⟩
      rw [← hqe] at E hqb hbpl hpl2 hml2
      rw [← hwq] at f1 hqb ⊢
      have hf2 := hf2.trans' f1 (fun _ _ h => h.elim)
      have hbp := f1.obj hb41 id
      have hNd := hNd.fr f1 (fun _ _ h => h)
      have hS2b : ∀ k, S2 k → k < q := fun k hk => by have := h2.lt k hk; omega
      have h2 := h2.fr f1 id id (fun _ _ h => h)
      have hql := lt_of_blk hqb
      obtain ⟨B, hBe⟩ : ∃ B, B = wq.heap.size := ⟨_, rfl⟩
      have hB0 : w.heap.size ≤ q := by have := hf2.size; omega
      have hH : HAt wq q B (.slice none 0 0) S2 [] := ⟨⟨hqb, ow_nil _⟩, fun z hz => by cases hz⟩
      have hS3 : ∀ k, S2 k → k < B ∧ k ≠ q := fun k hk => by have := hS2b k hk; omega
      clear f1 hwq hqb hqe
      refine env_put (d := 7) (v := .pointer (some ⟨q, 0, none⟩)) E rfl (by decide) rfl (wanted_none rfl _) (run_assign rfl (E.get 0 rfl)) fun a E => ?_
      refine wpList_nil ?_
      refine then_n ?_
      refine wp_seq ?_
      obtain ⟨x0, hx0⟩ : ∃ x0 : Wt, x0 = ⟨(pr, br, L), hh, dsB br pt⟩ := ⟨_, rfl⟩
      have hwx0 : wtC x0 = #[.pointer (some ⟨pr, 0, none⟩), .int .i64 (dsB br pt)] := by rw [hx0]
      have hokb := hNd.ok
      refine wp_region_invx (G := Unit) () (n := 101) (base := [(7, .pointer (some ⟨q, 0, none⟩)), (0, .pointer (some ⟨p, 0, none⟩)), (4, .pointer (some ⟨b41, 0, none⟩)), (2, .int .i64 n)]) (U := []) (T := fun γ => [some (31, .pointer (some ⟨q, 0, none⟩)), some (32, .iface 74 (.pointer (some ⟨q, 0, none⟩))), some (33, .pointer (some ⟨p, 0, none⟩)), some (34, .pointer (some ⟨pr, 0, none⟩)), some (35, .pointer (some ⟨p, 0, none⟩)), some (36, .pointer (some ⟨pr, 0, none⟩)), some (37, .pointer (some ⟨pr, 0, none⟩)), some (38, .pointer (some ⟨pr, 0, none⟩)), some (39, .agg (bxC br)), some (40, .agg (ptC pt)), some (41, .int .i64 (dsB br pt)), some (42, .agg (wtC x0)), some (43, .iface 76 (.agg (wtC x0))), some (44, .tuple #[])]) (M := fun γ ls9 wm => Fr (fun k => k = q ∨ B ≤ k) wq wm ∧ (ls9 13 = false → HAt wm q B (.slice none 0 0) S2 []) ∧ (ls9 13 = true → ∃ v1 X1, X1.Perm ([] ++ [x0]) ∧ Hp (fx X1) X1.length ∧ HAt wm q B v1 S2 X1)) (by kernel_rfl) (by kernel_rfl) (fun _ => by kernel_rfl) (E.of ⟨E.get 0 rfl, E.get 21 rfl, E.get 20 rfl, E.get 23 rfl, trivial⟩) (fun x hx => by cases hx) ⟨(Fr.refl _ _).drew, fun _ => hH.fr (Fr.refl (fun _ => False) _).drew id (fun _ _ h => h) (fun _ _ h => h), fun e => absurd e Bool.false_ne_true⟩ ?_ ?_
      · intro j9 o9 γ ls9 a w5 ho hl E D DL DL2 hB hM
        obtain ⟨m1, m2, m3⟩ := hM
        have h5 := h2.fr m1 (by omega) (by omega) (fun k hk e => by have := hS3 k hk; omega)
        have hbp5 := m1.obj hbp (by omega)
        have hNd5 := hNd.fr m1 (fun k hk e => by have := hS3 k hk; omega)
        have hnb5 := hNd5.nb
        match j9, ho, hl, D, DL, hB with
        | 0, ho, hl, D, DL, hB =>
          obtain rfl := Option.some.inj ho
          exact ⟨fun _ => valx rfl (run_move rfl (E.get 0 rfl)) rfl ⟨m1, m2, m3⟩, fun h => by rw [wanted_none rfl] at h; cases h⟩
        | 1, ho, hl, D, DL, hB =>
          obtain rfl := Option.some.inj ho
          exact ⟨fun _ => valx rfl (run_mki74 rfl (D 0 _ rfl rfl)) rfl ⟨m1, m2, m3⟩, fun h => by rw [wanted_none rfl] at h; cases h⟩
        | 2, ho, hl, D, DL, hB =>
          obtain rfl := Option.some.inj ho
          exact ⟨fun _ => valx rfl (run_move rfl (E.get 1 rfl)) rfl ⟨m1, m2, m3⟩, fun h => by rw [wanted_none rfl] at h; cases h⟩
        | 3, ho, hl, D, DL, hB =>
          have n13 : ls9 13 = false := by
            cases h8 : ls9 13 with
            | false => rfl
            | true => exact absurd (hl.symm.trans (DL2 11 3 rfl (DL2 12 11 rfl (DL2 13 12 rfl h8)))) (by decide)
          obtain rfl := Option.some.inj ho
          exact ⟨fun _ => callx rfl (run_call1 (enters_of Try.func37 (by kernel_rfl) rfl) rfl rfl (D 2 _ rfl rfl)) (treeK_calls h5) rfl fun w9 f1 => ⟨m1.trans' f1 (fun _ _ h => h.elim), fun h => (m2 h).fr f1 id (fun _ _ h => h) (fun _ _ h => h), fun h => (by simp [n13] at h)⟩, fun h => by rw [wanted_none rfl] at h; cases h⟩
        | 4, ho, hl, D, DL, hB =>
          obtain rfl := Option.some.inj ho
          exact ⟨fun _ => valx rfl (run_move rfl (E.get 1 rfl)) rfl ⟨m1, m2, m3⟩, fun h => by rw [wanted_none rfl] at h; cases h⟩
        | 5, ho, hl, D, DL, hB =>
          have n13 : ls9 13 = false := by
            cases h8 : ls9 13 with
            | false => rfl
            | true => exact absurd (hl.symm.trans (DL2 6 5 rfl (DL2 7 6 rfl (DL2 8 7 rfl (DL2 10 8 rfl (DL2 11 10 rfl (DL2 12 11 rfl (DL2 13 12 rfl h8)))))))) (by decide)
          obtain rfl := Option.some.inj ho
          exact ⟨fun _ => callx rfl (run_call1 (enters_of Try.func37 (by kernel_rfl) rfl) rfl rfl (D 4 _ rfl rfl)) (treeK_calls h5) rfl fun w9 f1 => ⟨m1.trans' f1 (fun _ _ h => h.elim), fun h => (m2 h).fr f1 id (fun _ _ h => h) (fun _ _ h => h), fun h => (by simp [n13] at h)⟩, fun h => by rw [wanted_none rfl] at h; cases h⟩
        | 6, ho, hl, D, DL, hB =>
          obtain rfl := Option.some.inj ho
          exact ⟨fun _ => valx rfl (run_nilchk rfl (D 5 _ rfl rfl)) rfl ⟨m1, m2, m3⟩, fun h => by rw [wanted_none rfl] at h; cases h⟩
        | 7, ho, hl, D, DL, hB =>
          obtain rfl := Option.some.inj ho
          exact ⟨fun _ => valx rfl (fa71_0 rfl (D 6 _ rfl rfl)) rfl ⟨m1, m2, m3⟩, fun h => by rw [wanted_none rfl] at h; cases h⟩
        | 8, ho, hl, D, DL, hB =>
          obtain rfl := Option.some.inj ho
          exact ⟨fun _ => valx rfl (run_ld26 rfl (D 7 _ rfl rfl) hnb5) rfl ⟨m1, m2, m3⟩, fun h => by rw [wanted_none rfl] at h; cases h⟩
        | 9, ho, hl, D, DL, hB =>
          obtain rfl := Option.some.inj ho
          exact ⟨fun _ => valx rfl (run_ld24 rfl (E.get 2 rfl) (rng2 (p := pt) hbp5 0 rfl rfl)) rfl ⟨m1, m2, m3⟩, fun h => by rw [wanted_none rfl] at h; cases h⟩
        | 10, ho, hl, D, DL, hB =>
          have n13 : ls9 13 = false := by
            cases h8 : ls9 13 with
            | false => rfl
            | true => exact absurd (hl.symm.trans (DL2 11 10 rfl (DL2 12 11 rfl (DL2 13 12 rfl h8)))) (by decide)
          obtain rfl := Option.some.inj ho
          exact ⟨fun _ => callx rfl (run_call2 (enters_of Try.func41 (by kernel_rfl) rfl) rfl rfl (D 8 _ rfl rfl) (D 9 _ rfl rfl)) (pdist_calls br pt _ hokb hptP) rfl fun w9 f1 => ⟨m1.trans' f1 (fun _ _ h => h.elim), fun h => (m2 h).fr f1 id (fun _ _ h => h) (fun _ _ h => h), fun h => (by simp [n13] at h)⟩, fun h => by rw [wanted_none rfl] at h; cases h⟩
        | 11, ho, hl, D, DL, hB =>
          obtain rfl := Option.some.inj ho
          exact ⟨fun _ => valx rfl ((run_build76 rfl (D 3 _ rfl rfl) (D 10 _ rfl rfl)).trans (by rw [hwx0])) rfl ⟨m1, m2, m3⟩, fun h => by rw [wanted_none rfl] at h; cases h⟩
        | 12, ho, hl, D, DL, hB =>
          obtain rfl := Option.some.inj ho
          exact ⟨fun _ => valx rfl (run_mki76 rfl (D 11 _ rfl rfl)) rfl ⟨m1, m2, m3⟩, fun h => by rw [wanted_none rfl] at h; cases h⟩
        | 13, ho, hl, D, DL, hB =>
          have hH5 := m2 hl
          have hXr : WtAt w5 S2 x0 := by rw [hx0]; exact hNd5
          have hz5 := m1.size
          obtain rfl := Option.some.inj ho
          refine ⟨fun _ => callx rfl (run_call2 (enters_of Try.func40 (by kernel_rfl) rfl) rfl rfl (D 1 _ rfl rfl) (D 12 _ rfl rfl)) ((hpush_calls hH5 hS3 (by omega) (fun k h1 h2 => absurd h2 (by simp)) (by omega) (by simp) hXr).mono fun e9 w9 hh => ⟨hh.1, hh.2⟩) rfl fun w9 f9 => ?_, fun h => by rw [wanted_none rfl] at h; cases h⟩
          obtain ⟨v1, X1, hp1, hh1, hH1, f1⟩ := f9
          exact ⟨m1.trans' f1 (fun r hr e => by rcases e with e | e; exact .inl e; cases e), fun h => (by simp at h), fun _ => ⟨v1, X1, hp1, hh1, hH1⟩⟩
        | j9 + 14, ho, hl, D, DL, hB => exact absurd ho (by simp)
      · rintro _ a w4 E V hM
        clear V
        obtain ⟨f4, _, m3⟩ := hM
        obtain ⟨v1, X1, hp1, hh1, hH1⟩ := m3 rfl
        clear hH m3
        refine then_n ?_
        refine wp_seq ?_
        refine wp_region_lit ?_
        refine env_put (d := 8) (v := .slice none 0 0) E rfl (by decide) rfl (wanted_none rfl _) (run_assign rfl rfl) fun a E => ?_
        refine wpList_nil ?_
        refine then_n ?_
        refine wp_seq ?_
        refine wp_block ?_
        have hNr0 : Ner pt L [] X1 [] := by
          have hq9 : Ner pt L [] [] (x0.c.2.2 ++ []) := ⟨by rw [hx0]; simp, List.Pairwise.nil, (fun d hd => by cases hd), (fun y hy => by cases hy)⟩
          exact hq9.push hp1 (by rw [hx0])
        have hlL := hE.len h2.hm
        refine wp_loop_ghost (fun k9 a w2 => ∃ (D : List En) (X : List Wt) (v : Value) (p8 : Option Addr) (c8 : Nat), k9 = wgt X ∧ Env 101 [(8, .slice (p8) (D.map (·.1)).length c8), (7, .pointer (some ⟨q, 0, none⟩)), (4, .pointer (some ⟨b41, 0, none⟩)), (2, .int .i64 n), (0, .pointer (some ⟨p, 0, none⟩))] a ∧ HAt w2 q B v S2 X ∧ Hp (fx X) X.length ∧ Ner pt L D X [] ∧ oStr w2 B (.slice p8 (D.map (·.1)).length c8) (D.map (·.1)) ∧ D.length ≤ n.toNat ∧ Fr (fun k => k = q ∨ B ≤ k) wq w2) (wgt X1) ?_ ?_
        · exact ⟨[], X1, v1, none, 0, rfl, E.of ⟨E.get 0 rfl, E.get 1 rfl, E.get 3 rfl, E.get 4 rfl, E.get 2 rfl, trivial⟩, hH1, hh1, hNr0, ow_nil _, Nat.zero_le _, f4⟩
        clear E hp1 hh1 hH1 hNr0 f4
        rintro k9 a w2 ⟨D, X, v, p8, c8, hk9, E, hH, hh, hNr, hO, hDn, hFq⟩
        have hok : ∀ y ∈ X, Wok y := fun y hy => Wok.of (hH.2 y hy)
        have hlen9 := hNr.len hok
        have hbp5 := hFq.obj hbp (by omega)
        have hBw := hFq.size
        refine wp_seq ?_
        refine wp_seq ?_
        refine wp_region_lit ?_
        refine env_put (d := 45) (v := .slice (p8) (D.map (·.1)).length c8) E rfl (by decide) rfl (wanted_none rfl _) (run_move rfl (E.get 0 rfl)) fun a E => ?_
        refine env_put (d := 46) (v := .int .i64 ((D.map (·.1)).length : Int)) E rfl (by decide) rfl (wanted_none rfl _) (run_len42 rfl (E.get 0 rfl)) fun a E => ?_
        refine env_put (d := 47) (v := .int .i64 n) E rfl (by decide) rfl (wanted_none rfl _) (run_move rfl (E.get 5 rfl)) fun a E => ?_
        refine env_put (d := 48) (v := .bool (decide (((D.map (·.1)).length : Int) < n))) E rfl (by decide) rfl (wanted_none rfl _) (run_ilss (E.get 1 rfl) (E.get 0 rfl) Try.underlying3 rfl) fun a E => ?_
        refine env_put (d := 49) (v := .bool (decide (((D.map (·.1)).length : Int) < n))) E rfl (by decide) rfl (wanted_none rfl _) (run_move rfl (E.get 0 rfl)) fun a E => ?_
        cases hq45 : (decide (((D.map (·.1)).length : Int) < n)) with
        | false =>
          rw [hq45] at E
          refine env_skip (d := 50) (g := 4) (s := 49) E rfl (by decide) rfl rfl rfl (by decide) (E.get 0 rfl) fun a E => ?_
          refine env_skip (d := 51) (g := 4) (s := 49) E rfl (by decide) rfl rfl rfl (by decide) (E.get 1 rfl) fun a E => ?_
          refine env_skip (d := 52) (g := 4) (s := 49) E rfl (by decide) rfl rfl rfl (by decide) (E.get 2 rfl) fun a E => ?_
          refine env_put (d := 53) (v := .bool false) E rfl (by decide) rfl (wanted_none rfl _) (run_pick_f rfl (E.get 3 rfl) rfl) fun a E => ?_
          refine wpList_nil ?_
          refine then_n ?_
          refine wp_cond_false (E.get 0 rfl) ?_
          refine wp_exit ?_
          refine then_e ?_
          refine then_e ?_
          refine blk_e ?_
          refine then_n ?_
          refine wp_seq ?_
          refine wp_region_lit ?_
          refine env_put (d := 100) (v := .slice (p8) (D.map (·.1)).length c8) E rfl (by decide) rfl (wanted_none rfl _) (run_move rfl (E.get 9 rfl)) fun a E => ?_
          refine env_put (d := 6) (v := .slice (p8) (D.map (·.1)).length c8) E rfl (by decide) rfl (wanted_none rfl _) (run_assign rfl (E.get 0 rfl)) fun a E => ?_
          refine wpList_nil ?_
          refine then_n ?_
          refine wp_ret ?_
          have h9 := h2.fr hFq (by omega) (by omega) (fun k hk e => by have := hS3 k hk; omega)
          have hf9 := hf2.trans' hFq (fun r hr e => by omega)
          exact ret_tmp (t := 6) rfl E (E.get 0 rfl) ⟨_, _, B, rfl, by omega, hO, by rw [if_pos hptP]; exact ⟨L, hE, by rw [hNr.take hE.1 (.inl (by have := of_decide_eq_false hq45; simp at this; omega))]⟩, S2, _, true, h9, hf9, fun k hk => ⟨hS2 k hk, (hS3 k hk).1⟩⟩
        | true =>
          rw [hq45] at E
          refine env_put (d := 50) (v := .pointer (some ⟨q, 0, none⟩)) E rfl (by decide) rfl (w_yes (g := 4) (s := 49) E rfl rfl (by decide) (E.get 0 rfl)) (run_move rfl (E.get 6 rfl)) fun a E => ?_
          obtain ⟨pw, cw, hvw, _⟩ := hH.1.2.src wtL_len
          have hq6 := hH.1.1
          rw [hvw] at hq6
          refine env_call (d := 51) (v := .int .i64 (X.length : Int)) E rfl (by decide) rfl (w_yes (g := 4) (s := 49) E rfl rfl (by decide) (E.get 1 rfl)) (run_call1 (enters_of Try.func42 (by kernel_rfl) rfl) rfl rfl (E.get 0 rfl)) (lenq_calls hq6) fun a w3 f1 E => ?_
          have hH := hH.fr f1 id (fun _ _ h => h) (fun _ _ h => h)
          have hO := hO.fr f1 (fun _ _ h => h)
          have hFq := hFq.trans' f1 (fun _ _ h => h.elim)
          clear f1 hq6 hvw
          refine env_put (d := 52) (v := .bool (decide (0 < (X.length : Int)))) E rfl (by decide) rfl (w_yes (g := 4) (s := 49) E rfl rfl (by decide) (E.get 2 rfl)) (run_igtr (E.get 0 rfl) rfl Try.underlying3 rfl) fun a E => ?_
          refine env_put (d := 53) (v := .bool (decide (0 < (X.length : Int)))) E rfl (by decide) rfl (wanted_none rfl _) (run_pick_t rfl (E.get 3 rfl) (E.get 0 rfl)) fun a E => ?_
          refine wpList_nil ?_
          refine then_n ?_
          cases hq46 : (decide (0 < (X.length : Int))) with
          | false =>
            rw [hq46] at E
            refine wp_cond_false (E.get 0 rfl) ?_
            refine wp_exit ?_
            refine then_e ?_
            refine then_e ?_
            refine blk_e ?_
            refine then_n ?_
            refine wp_seq ?_
            refine wp_region_lit ?_
            refine env_put (d := 100) (v := .slice (p8) (D.map (·.1)).length c8) E rfl (by decide) rfl (wanted_none rfl _) (run_move rfl (E.get 9 rfl)) fun a E => ?_
            refine env_put (d := 6) (v := .slice (p8) (D.map (·.1)).length c8) E rfl (by decide) rfl (wanted_none rfl _) (run_assign rfl (E.get 0 rfl)) fun a E => ?_
            refine wpList_nil ?_
            refine then_n ?_
            refine wp_ret ?_
            have h9 := h2.fr hFq (by omega) (by omega) (fun k hk e => by have := hS3 k hk; omega)
            have hf9 := hf2.trans' hFq (fun r hr e => by omega)
            exact ret_tmp (t := 6) rfl E (E.get 0 rfl) ⟨_, _, B, rfl, by omega, hO, by rw [if_pos hptP]; exact ⟨L, hE, by rw [hNr.take hE.1 (.inr ⟨hDn, List.eq_nil_of_length_eq_zero (by have := of_decide_eq_false hq46; omega), rfl⟩)]⟩, S2, _, true, h9, hf9, fun k hk => ⟨hS2 k hk, (hS3 k hk).1⟩⟩
          | true =>
            rw [hq46] at E
            refine wp_cond_true (E.get 0 rfl) ?_
            refine wp_skip ?_
            refine then_n ?_
            refine wp_block ?_
            refine wp_seq ?_
            refine wp_region_lit ?_
            refine env_put (d := 55) (v := .pointer (some ⟨q, 0, none⟩)) E rfl (by decide) rfl (wanted_none rfl _) (run_move rfl (E.get 10 rfl)) fun a E => ?_
            refine env_put (d := 56) (v := .iface 74 (.pointer (some ⟨q, 0, none⟩))) E rfl (by decide) rfl (wanted_none rfl _) (run_mki74 rfl (E.get 0 rfl)) fun a E => ?_
            have hXne : X ≠ [] := by rintro rfl; have := of_decide_eq_true hq46; simp at this
            have hBw3 := hFq.size
            refine env_callv (d := 57) (R := fun u w8 => HPopP w3 q B v S2 X (.returned u) w8) E rfl (by decide) rfl (wanted_none rfl _) (run_call1 (enters_of Try.func43 (by kernel_rfl) rfl) rfl rfl (E.get 0 rfl)) ((hpop_calls hH hS3 (by omega) hh (by omega) (by omega) hXne).mono fun e w8 hh => by obtain ⟨x, v2, Y, h1, h2⟩ := hh; exact ⟨_, h1, x, v2, Y, rfl, h2⟩) fun a w4 u9 hR E => ?_
            obtain ⟨x, v2, Y, hux, hpY, hmY, hhY, hH2, f1⟩ := hR
            obtain rfl : u9 = .iface 76 (.agg (wtC x)) := by injection hux
            have hxm : x ∈ X := hpY.mem_iff.1 (by simp)
            have hvq := hH.1.ne
            have hrn := rows_ne hO hH.1.2
            have hon := out_ne hO hH.1.1
            have hXx : WtAt w4 S2 x := (hH.2 x hxm).fr f1 (fun k hk e => by have := hS3 k hk; rcases e with e | e; omega; have := (hH.1.2.lt e).1; omega)
            have hO2 := hO.fr f1 (fun k hk e => by rcases e with e | e; (rw [e] at hk; exact hon hk); exact hrn k hk e)
            have hFq := hFq.trans' f1 (fun r hr e => by rcases e with e | e; exact .inl e; exact .inr (hH.1.2.lt e).1)
            have hok9 : ∀ y ∈ X, Wok y := hok
            have hxen : x.h = 0 → x.c.2.2 = [(x.id, x.c.2.1)] := (hok x hxm).2.1
            have hBw4 := hFq.size
            have hv2b : ∀ k, v2.ownBlock = some k → k < w4.heap.size := fun k hk => (hH2.1.2.lt hk).2
            have hovb := fun k hk => (hO2.lt (k := k) hk).2
            have hqw4 := lt_of_blk hH2.1.1
            clear hH f1 hux
            refine env_put (d := 58) (v := .tuple #[.agg (wtC x), .bool true]) E rfl (by decide) rfl (wanted_none rfl _) (run_ta76 rfl (E.get 0 rfl)) fun a E => ?_
            refine env_put (d := 54) (v := .tuple #[.agg (wtC x), .bool true]) E rfl (by decide) rfl (wanted_none rfl _) (run_move rfl (E.get 0 rfl)) fun a E => ?_
            refine env_put (d := 59) (v := .agg (wtC x)) E rfl (by decide) rfl (wanted_none rfl _) (run_ext0 rfl (E.get 0 rfl)) fun a E => ?_
            refine env_put (d := 60) (v := .bool true) E rfl (by decide) rfl (wanted_none rfl _) (run_ext1 rfl (E.get 1 rfl)) fun a E => ?_
            refine env_alloc76 (d := 9) E rfl (by decide) rfl (wanted_none rfl _) rfl fun a w5 b9 eb9 hb9 f1 E => ?_
            have hH2 := hH2.fr f1 id (fun _ _ h => h) (fun _ _ h => h)
            have hO2 := hO2.fr f1 (fun _ _ h => h)
            have hFq := hFq.trans' f1 (fun _ _ h => h.elim)
            have hXx := hXx.fr f1 (fun _ _ h => h)
            have hb9n : q ≠ b9 ∧ (∀ k, v2.ownBlock = some k → k ≠ b9) ∧ ∀ k, (Value.slice p8 (D.map (·.1)).length c8).ownBlock = some k → k ≠ b9 := ⟨by omega, fun k hk e => by have := hv2b k hk; omega, fun k hk e => by have := hovb k hk; omega⟩
            have hqz := lt_of_blk hH2.1.1
            have hFz := hFq.size
            skip
            refine env_st76 E rfl (wanted_none rfl _) rfl (E.get 0 rfl) (E.get 2 rfl) hb9 fun w6 hb9 f1 E => ?_
            have hH2 := hH2.fr f1 hb9n.1 (fun k hk e => hb9n.2.1 k hk e) (fun k hk e => by have := (hS3 k hk).1; omega)
            have hO2 := hO2.fr f1 (fun k hk e => hb9n.2.2 k hk e)
            have hFq := hFq.trans' f1 (fun r hr e => by omega)
            have hXx := hXx.fr f1 (fun k hk e => by have := (hS3 k hk).1; omega)
            clear f1
            refine env_put (d := 10) (v := .bool true) E rfl (by decide) rfl (wanted_none rfl _) (run_assign rfl (E.get 1 rfl)) fun a E => ?_
            refine wpList_nil ?_
            refine then_n ?_
            refine wp_seq ?_
            refine wp_seq ?_
            refine wp_region_lit ?_
            refine env_put (d := 61) (v := .bool true) E rfl (by decide) rfl (wanted_none rfl _) (run_move rfl (E.get 0 rfl)) fun a E => ?_
            refine env_put (d := 62) (v := .bool false) E rfl (by decide) rfl (wanted_none rfl _) (run_not rfl (E.get 0 rfl)) fun a E => ?_
            refine wpList_nil ?_
            refine then_n ?_
            refine wp_cond_false (E.get 0 rfl) ?_
            refine wp_skip ?_
            refine then_n ?_
            refine wp_seq ?_
            refine wp_seq ?_
            obtain ⟨hx4, px, nx, cx, hx5, hp0, hp1x⟩ := WtAt.cells (x := x) hXx
            have hxp : px.isNone = (x.h == 0) := by
              by_cases h0 : x.h = 0
              · rw [(hp0 h0).1, h0]; rfl
              · obtain ⟨a9, rfl⟩ := hp1x h0
                exact (beq_eq_false_iff_ne.2 h0).symm
            refine wp_region_lit ?_
            refine env_put (d := 63) (v := .pointer (some ⟨b9, 0, none⟩)) E rfl (by decide) rfl (wanted_none rfl _) (fa76_0 rfl (E.get 3 rfl)) fun a E => ?_
            refine env_put (d := 64) (v := .pointer (some ⟨x.c.1, 0, none⟩)) E rfl (by decide) rfl (wanted_none rfl _) (run_ld59 rfl (E.get 0 rfl) (bx hb9 0 rfl)) fun a E => ?_
            refine env_put (d := 65) (v := .pointer (some ⟨x.c.1, 0, none⟩)) E rfl (by decide) rfl (wanted_none rfl _) (run_nilchk rfl (E.get 0 rfl)) fun a E => ?_
            refine env_put (d := 66) (v := .pointer (some ⟨x.c.1, 5, none⟩)) E rfl (by decide) rfl (wanted_none rfl _) (fa71_2 rfl (E.get 0 rfl)) fun a E => ?_
            refine env_put (d := 67) (v := .slice (px) nx cx) E rfl (by decide) rfl (wanted_none rfl _) (run_ld69 rfl (E.get 0 rfl) hx5) fun a E => ?_
            refine env_put (d := 68) (v := .bool (x.h == 0)) E rfl (by decide) rfl (wanted_none rfl _) (run_nil69 hxp rfl (E.get 0 rfl) rfl) fun a E => ?_
            refine wpList_nil ?_
            refine then_n ?_
            cases hq47 : (x.h == 0) with
            | false =>
              rw [hq47] at E
              obtain ⟨hn, hxh⟩ : ∃ hn, x.h = hn + 1 := ⟨x.h - 1, by have := beq_eq_false_iff_ne.1 hq47; omega⟩
              have hXn := hXx
              skip
              rw [hxh] at hXn
              obtain ⟨hSp9, g, off, cap, Cc, hpc9, hSg9, hCne, hC8, hCc, hLx, hin9⟩ := hXn
              have hLx : x.c.2.2 = enL Cc := hLx
              have hx5c : w6.cell? ⟨x.c.1, 5, none⟩ = some (.slice (some ⟨g, off, none⟩) Cc.length cap) := by rw [cell_of_blk hpc9]; rfl
              rw [hx5] at hx5c
              have hx5d := Option.some.inj hx5c
              simp only [Value.slice.injEq] at hx5d
              obtain ⟨rfl, rfl, rfl⟩ := hx5d
              refine wp_cond_false (E.get 0 rfl) ?_
              refine wp_skip ?_
              refine then_n ?_
              refine wp_seq ?_
              have hNy := hNr.inner hpY
              refine wp_region_lit ?_
              refine env_put (d := 77) (v := .pointer (some ⟨b9, 0, none⟩)) E rfl (by decide) rfl (wanted_none rfl _) (fa76_0 rfl (E.get 9 rfl)) fun a E => ?_
              refine env_put (d := 78) (v := .pointer (some ⟨x.c.1, 0, none⟩)) E rfl (by decide) rfl (wanted_none rfl _) (run_ld59 rfl (E.get 0 rfl) (bx hb9 0 rfl)) fun a E => ?_
              refine env_put (d := 79) (v := .pointer (some ⟨x.c.1, 0, none⟩)) E rfl (by decide) rfl (wanted_none rfl _) (run_nilchk rfl (E.get 0 rfl)) fun a E => ?_
              refine env_put (d := 80) (v := .pointer (some ⟨x.c.1, 5, none⟩)) E rfl (by decide) rfl (wanted_none rfl _) (fa71_2 rfl (E.get 0 rfl)) fun a E => ?_
              refine env_put (d := 81) (v := .slice (some ⟨g, off, none⟩) Cc.length cx) E rfl (by decide) rfl (wanted_none rfl _) (run_ld69 rfl (E.get 0 rfl) hx5) fun a E => ?_
              refine env_put (d := 82) (v := .int .i64 (Cc.length : Int)) E rfl (by decide) rfl (wanted_none rfl _) (run_len69 rfl (E.get 0 rfl)) fun a E => ?_
              refine env_put (d := 83) (v := .int .i64 0) E rfl (by decide) rfl (wanted_none rfl _) (run_move rfl rfl) fun a E => ?_
              refine wpList_nil ?_
              refine then_n ?_
              refine wp_block ?_
              refine wp_loop (fun a w2 => ∃ (i : Nat) (Xi : List Wt) (vi : Value), Env 101 [(83, .int .i64 (i : Int)), (82, .int .i64 (Cc.length : Int)), (81, .slice (some ⟨g, off, none⟩) Cc.length cx), (8, .slice (p8) (D.map (·.1)).length c8), (7, .pointer (some ⟨q, 0, none⟩)), (4, .pointer (some ⟨b41, 0, none⟩)), (2, .int .i64 n), (0, .pointer (some ⟨p, 0, none⟩))] a ∧ i ≤ Cc.length ∧ HAt w2 q B vi S2 Xi ∧ Hp (fx Xi) Xi.length ∧ Ner pt L D Xi (enL (Cc.drop i)) ∧ wgt Xi + (hn + 1) * (enL (Cc.drop i)).length = wgt Y + (hn + 1) * (enL Cc).length ∧ oStr w2 B (.slice p8 (D.map (·.1)).length c8) (D.map (·.1)) ∧ Fr (fun k => k = q ∨ B ≤ k) wq w2 ∧ Fr (fun k => k = q ∨ B ≤ k) w6 w2) (fun a _ => Cc.length - (intOf (a.eval (.tmp 83))).toNat) ?_ ?_
              · exact ⟨0, Y, v2, E.of ⟨E.get 0 rfl, E.get 1 rfl, E.get 2 rfl, E.get 33 rfl, E.get 34 rfl, E.get 35 rfl, E.get 36 rfl, E.get 37 rfl, trivial⟩, Nat.zero_le _, hH2, hhY, by rw [List.drop_zero]; rw [← hLx]; exact hNy, by rw [List.drop_zero], hO2, hFq, Fr.refl _ _⟩
              clear E
              rintro a w2 ⟨i, Xi, vi, E, hi, hHi, hhi, hNi, hwi, hOi, hFi, hF9⟩
              have hmu : Cc.length - (intOf (a.eval (.tmp 83))).toNat = Cc.length - i := by rw [E.get 0 rfl]; first | rfl | (simp [intOf]; done) | (simp only [intOf]; omega)
              rw [hmu]
              clear hmu
              refine wp_seq ?_
              refine wp_region_lit ?_
              refine env_put (d := 84) (v := .bool (decide ((i : Int) < (Cc.length : Int)))) E rfl (by decide) rfl (wanted_none rfl _) (run_ilss (E.get 0 rfl) (E.get 1 rfl) Try.underlying3 rfl) fun a E => ?_
              refine wpList_nil ?_
              refine then_n ?_
              refine wp_seq ?_
              cases hq49 : (decide ((i : Int) < (Cc.length : Int))) with
              | false =>
                rw [hq49] at E
                have hie : i = Cc.length := by have := of_decide_eq_false hq49; omega
                refine wp_cond_false (E.get 0 rfl) ?_
                refine wp_exit ?_
                refine then_e ?_
                refine then_e ?_
                refine blk_e ?_
                refine blk_n ?_
                refine then_n ?_
                rw [hie, List.drop_length] at hNi hwi
                have hwi : wgt Xi = wgt Y + (hn + 1) * (enL Cc).length := by rw [← hwi]; rfl
                exact ⟨wgt Xi, by rw [hk9, ← wgt_perm hpY, wgt_cons, hwi, hxh, hLx]; have := List.length_pos_iff.2 (show enL Cc ≠ [] by rw [← hLx]; exact (hok x hxm).2.2); have e9 : (hn + 1 + 1) * (enL Cc).length = (hn + 1) * (enL Cc).length + (enL Cc).length := (by rw [Nat.add_mul (hn + 1) 1, Nat.one_mul]); omega, D, Xi, vi, p8, c8, rfl, E.of ⟨E.get 4 rfl, E.get 5 rfl, E.get 6 rfl, E.get 7 rfl, E.get 8 rfl, trivial⟩, hHi, hhi, hNi, hOi, hDn, hFi⟩
              | true =>
                rw [hq49] at E
                have hi9 : i < Cc.length := by have := of_decide_eq_true hq49; omega
                obtain ⟨c, hc⟩ : ∃ c, Cc[i]? = some c := ⟨_, List.getElem?_eq_getElem hi9⟩
                have hcc := hF9.cell (hCc i c hc).1 (fun (e : g = q ∨ B ≤ g) => by have := hS3 g hSg9; rcases e with e | e; omega; omega)
                have hcN : NdAt w2 S2 hn c.1 c.2.1 c.2.2 := (hCc i c hc).2.fr hF9 (fun k hk e => by have := hS3 k hk; rcases e with e | e; omega; omega)
                refine wp_cond_true (E.get 0 rfl) ?_
                refine wp_skip ?_
                refine then_n ?_
                refine wp_seq ?_
                refine wp_block ?_
                refine wp_seq ?_
                refine wp_region_lit ?_
                refine env_put (d := 85) (v := .pointer (some ⟨g, (off + i), none⟩)) E rfl (by decide) rfl (wanted_none rfl _) (run_index69 (i := i) rfl (E.get 3 rfl) (E.get 1 rfl) hi9) fun a E => ?_
                refine env_put (d := 86) (v := .pointer (some ⟨c.1, 0, none⟩)) E rfl (by decide) rfl (wanted_none rfl _) (run_ld59 rfl (E.get 0 rfl) hcc) fun a E => ?_
                refine env_put (d := 12) (v := .pointer (some ⟨c.1, 0, none⟩)) E rfl (by decide) rfl (wanted_none rfl _) (run_assign rfl (E.get 0 rfl)) fun a E => ?_
                refine wpList_nil ?_
                refine then_n ?_
                obtain ⟨xc, hxc⟩ : ∃ xc : Wt, xc = ⟨c, hn, dsB c.2.1 pt⟩ := ⟨_, rfl⟩
                have hwxc : wtC xc = #[.pointer (some ⟨c.1, 0, none⟩), .int .i64 (dsB c.2.1 pt)] := by rw [hxc]
                have hokc := hcN.ok
                have hlni := hNi.len (fun y hy => Wok.of (hHi.2 y hy))
                have hbpi := hFi.obj hbp (by omega)
                have hBwi := hFi.size
                refine wp_region_invx (G := Unit) () (n := 101) (base := [(7, .pointer (some ⟨q, 0, none⟩)), (12, .pointer (some ⟨c.1, 0, none⟩)), (4, .pointer (some ⟨b41, 0, none⟩)), (83, .int .i64 (i : Int)), (82, .int .i64 (Cc.length : Int)), (81, .slice (some ⟨g, off, none⟩) Cc.length cx), (8, .slice (p8) (D.map (·.1)).length c8), (2, .int .i64 n), (0, .pointer (some ⟨p, 0, none⟩))]) (U := []) (T := fun γ => [some (87, .pointer (some ⟨q, 0, none⟩)), some (88, .iface 74 (.pointer (some ⟨q, 0, none⟩))), some (89, .pointer (some ⟨c.1, 0, none⟩)), some (90, .pointer (some ⟨c.1, 0, none⟩)), some (91, .pointer (some ⟨c.1, 0, none⟩)), some (92, .pointer (some ⟨c.1, 0, none⟩)), some (93, .agg (bxC c.2.1)), some (94, .agg (ptC pt)), some (95, .int .i64 (dsB c.2.1 pt)), some (96, .agg (wtC xc)), some (97, .iface 76 (.agg (wtC xc))), some (98, .tuple #[])]) (M := fun γ ls9 wm => Fr (fun k => k = q ∨ B ≤ k) w2 wm ∧ (ls9 11 = false → HAt wm q B vi S2 Xi ∧ oStr wm B (.slice p8 (D.map (·.1)).length c8) (D.map (·.1))) ∧ (ls9 11 = true → ∃ v1 X1, X1.Perm (Xi ++ [xc]) ∧ Hp (fx X1) X1.length ∧ HAt wm q B v1 S2 X1 ∧ oStr wm B (.slice p8 (D.map (·.1)).length c8) (D.map (·.1)))) (by kernel_rfl) (by kernel_rfl) (fun _ => by kernel_rfl) (E.of ⟨E.get 8 rfl, E.get 0 rfl, E.get 9 rfl, E.get 4 rfl, E.get 5 rfl, E.get 6 rfl, E.get 7 rfl, E.get 10 rfl, E.get 11 rfl, trivial⟩) (fun x hx => by cases hx) ⟨(Fr.refl _ _).drew, fun _ => ⟨hHi.fr (Fr.refl (fun _ => False) _).drew id (fun _ _ h => h) (fun _ _ h => h), hOi.fr (Fr.refl (fun _ => False) _).drew (fun _ _ h => h)⟩, fun e => absurd e Bool.false_ne_true⟩ ?_ ?_
                · intro j9 o9 γ ls9 a w5 ho hl E D DL DL2 hB hM
                  obtain ⟨m1, m2, m3⟩ := hM
                  have hbp7 := m1.obj hbpi (by omega)
                  have hcN5 := hcN.fr m1 (fun k hk e => by have := hS3 k hk; omega)
                  have hnb5 := hcN5.nb
                  match j9, ho, hl, D, DL, hB with
                  | 0, ho, hl, D, DL, hB =>
                    obtain rfl := Option.some.inj ho
                    exact ⟨fun _ => valx rfl (run_move rfl (E.get 0 rfl)) rfl ⟨m1, m2, m3⟩, fun h => by rw [wanted_none rfl] at h; cases h⟩
                  | 1, ho, hl, D, DL, hB =>
                    obtain rfl := Option.some.inj ho
                    exact ⟨fun _ => valx rfl (run_mki74 rfl (D 0 _ rfl rfl)) rfl ⟨m1, m2, m3⟩, fun h => by rw [wanted_none rfl] at h; cases h⟩
                  | 2, ho, hl, D, DL, hB =>
                    obtain rfl := Option.some.inj ho
                    exact ⟨fun _ => valx rfl (run_move rfl (E.get 1 rfl)) rfl ⟨m1, m2, m3⟩, fun h => by rw [wanted_none rfl] at h; cases h⟩
                  | 3, ho, hl, D, DL, hB =>
                    obtain rfl := Option.some.inj ho
                    exact ⟨fun _ => valx rfl (run_move rfl (E.get 1 rfl)) rfl ⟨m1, m2, m3⟩, fun h => by rw [wanted_none rfl] at h; cases h⟩
                  | 4, ho, hl, D, DL, hB =>
                    obtain rfl := Option.some.inj ho
                    exact ⟨fun _ => valx rfl (run_nilchk rfl (D 3 _ rfl rfl)) rfl ⟨m1, m2, m3⟩, fun h => by rw [wanted_none rfl] at h; cases h⟩
                  | 5, ho, hl, D, DL, hB =>
                    obtain rfl := Option.some.inj ho
                    exact ⟨fun _ => valx rfl (fa71_0 rfl (D 4 _ rfl rfl)) rfl ⟨m1, m2, m3⟩, fun h => by rw [wanted_none rfl] at h; cases h⟩
                  | 6, ho, hl, D, DL, hB =>
                    obtain rfl := Option.some.inj ho
                    exact ⟨fun _ => valx rfl (run_ld26 rfl (D 5 _ rfl rfl) hnb5) rfl ⟨m1, m2, m3⟩, fun h => by rw [wanted_none rfl] at h; cases h⟩
                  | 7, ho, hl, D, DL, hB =>
                    obtain rfl := Option.some.inj ho
                    exact ⟨fun _ => valx rfl (run_ld24 rfl (E.get 2 rfl) (rng2 (p := pt) hbp7 0 rfl rfl)) rfl ⟨m1, m2, m3⟩, fun h => by rw [wanted_none rfl] at h; cases h⟩
                  | 8, ho, hl, D, DL, hB =>
                    have n11 : ls9 11 = false := by
                      cases h8 : ls9 11 with
                      | false => rfl
                      | true => exact absurd (hl.symm.trans (DL2 9 8 rfl (DL2 10 9 rfl (DL2 11 10 rfl h8)))) (by decide)
                    obtain rfl := Option.some.inj ho
                    exact ⟨fun _ => callx rfl (run_call2 (enters_of Try.func41 (by kernel_rfl) rfl) rfl rfl (D 6 _ rfl rfl) (D 7 _ rfl rfl)) (pdist_calls c.2.1 pt _ hokc hptP) rfl fun w9 f1 => ⟨m1.trans' f1 (fun _ _ h => h.elim), fun h => ⟨(m2 h).1.fr f1 id (fun _ _ h => h) (fun _ _ h => h), (m2 h).2.fr f1 (fun _ _ h => h)⟩, fun h => (by simp [n11] at h)⟩, fun h => by rw [wanted_none rfl] at h; cases h⟩
                  | 9, ho, hl, D, DL, hB =>
                    obtain rfl := Option.some.inj ho
                    exact ⟨fun _ => valx rfl ((run_build76 rfl (D 2 _ rfl rfl) (D 8 _ rfl rfl)).trans (by rw [hwxc])) rfl ⟨m1, m2, m3⟩, fun h => by rw [wanted_none rfl] at h; cases h⟩
                  | 10, ho, hl, D, DL, hB =>
                    obtain rfl := Option.some.inj ho
                    exact ⟨fun _ => valx rfl (run_mki76 rfl (D 9 _ rfl rfl)) rfl ⟨m1, m2, m3⟩, fun h => by rw [wanted_none rfl] at h; cases h⟩
                  | 11, ho, hl, D, DL, hB =>
                    obtain ⟨hH5, hO5⟩ := m2 hl
                    have hXr : WtAt w5 S2 xc := by rw [hxc]; exact hcN5
                    have hz5 := m1.size
                    have hrn := rows_ne hO5 hH5.1.2
                    have hon := out_ne hO5 hH5.1.1
                    obtain rfl := Option.some.inj ho
                    refine ⟨fun _ => callx rfl (run_call2 (enters_of Try.func40 (by kernel_rfl) rfl) rfl rfl (D 1 _ rfl rfl) (D 10 _ rfl rfl)) ((hpush_calls hH5 hS3 (by omega) hhi (by omega) (by omega) hXr).mono fun e9 w9 hh => ⟨hh.1, hh.2⟩) rfl fun w9 f9 => ?_, fun h => by rw [wanted_none rfl] at h; cases h⟩
                    obtain ⟨v1, X1, hp1, hh1, hH1, f1⟩ := f9
                    exact ⟨m1.trans' f1 (fun r hr e => by rcases e with e | e; exact .inl e; exact .inr (hH5.1.2.lt e).1), fun h => (by simp at h), fun _ => ⟨v1, X1, hp1, hh1, hH1, hO5.fr f1 (fun k hk e => by rcases e with e | e; (rw [e] at hk; exact hon hk); exact hrn k hk e)⟩⟩
                  | j9 + 12, ho, hl, D, DL, hB => exact absurd ho (by simp)
                · rintro _ a w9 E V hM
                  clear V
                  obtain ⟨f14, _, m3⟩ := hM
                  obtain ⟨vj, Xj, hpj, hhj, hHj, hOj⟩ := m3 rfl
                  have hFj := hFi.trans' f14 (fun _ _ e => e)
                  have hF9j := hF9.trans' f14 (fun _ _ e => e)
                  have hdr : enL (Cc.drop i) = xc.c.2.2 ++ enL (Cc.drop (i + 1)) := by
                    rw [List.drop_eq_getElem_cons hi9, (List.getElem?_eq_some_iff.1 hc).2, hxc]; rfl
                  have hNj : Ner pt L D Xj (enL (Cc.drop (i + 1))) := Ner.push (by rw [← hdr]; exact hNi) hpj (by rw [hxc])
                  have hwj : wgt Xj + (hn + 1) * (enL (Cc.drop (i + 1))).length = wgt Y + (hn + 1) * (enL Cc).length := by
                    rw [← hwi, wgt_perm hpj, wgt_app, wgt_cons, hdr, List.length_append, Nat.mul_add, hxc]
                    simp only [wgt, List.map_nil, List.sum_nil]
                    omega
                  clear m3
                  refine blk_n ?_
                  refine then_n ?_
                  refine wp_region_lit ?_
                  refine env_put (d := 99) (v := .int .i64 ((i : Int) + 1)) E rfl (by decide) rfl (wanted_none rfl _) (run_iadd Try.underlying3 (E.get 3 rfl) rfl (by omega) (by omega) rfl) fun a E => ?_
                  refine env_set (d := 83) (v := .int .i64 ((i : Int) + 1)) E rfl (by decide) (wanted_none rfl _) (run_move rfl (E.get 0 rfl)) fun a E => ?_
                  refine wpList_nil ?_
                  refine then_n ?_
                  refine ⟨⟨i + 1, Xj, vj, E.of ⟨E.get 0 rfl, E.get 5 rfl, E.get 6 rfl, E.get 7 rfl, E.get 2 rfl, E.get 4 rfl, E.get 8 rfl, E.get 9 rfl, trivial⟩, by omega, hHj, hhj, hNj, hwj, hOj, hFj, hF9j⟩, ?_⟩
                  rw [E.get 0 rfl]; simp only [intOf]; omega
            | true =>
              rw [hq47] at E
              have hx0 : x.h = 0 := beq_iff_eq.1 hq47
              obtain ⟨rfl, rfl, rfl⟩ := hp0 hx0
              refine wp_cond_true (E.get 0 rfl) ?_
              refine wp_region_lit ?_
              refine env_put (d := 69) (v := .slice (p8) (D.map (·.1)).length c8) E rfl (by decide) rfl (wanted_none rfl _) (run_move rfl (E.get 26 rfl)) fun a E => ?_
              refine env_put (d := 70) (v := .pointer (some ⟨b9, 0, none⟩)) E rfl (by decide) rfl (wanted_none rfl _) (fa76_0 rfl (E.get 10 rfl)) fun a E => ?_
              refine env_put (d := 71) (v := .pointer (some ⟨x.c.1, 0, none⟩)) E rfl (by decide) rfl (wanted_none rfl _) (run_ld59 rfl (E.get 0 rfl) (bx hb9 0 rfl)) fun a E => ?_
              refine env_put (d := 72) (v := .pointer (some ⟨x.c.1, 0, none⟩)) E rfl (by decide) rfl (wanted_none rfl _) (run_nilchk rfl (E.get 0 rfl)) fun a E => ?_
              refine env_put (d := 73) (v := .pointer (some ⟨x.c.1, 4, none⟩)) E rfl (by decide) rfl (wanted_none rfl _) (fa71_1 rfl (E.get 0 rfl)) fun a E => ?_
              refine env_put (d := 74) (v := .string x.id) E rfl (by decide) rfl (wanted_none rfl _) (run_lds rfl (E.get 0 rfl) hx4) fun a E => ?_
              refine env_one42 (B := 0) (d := 75) E rfl (by decide) rfl (wanted_none rfl _) rfl (E.get 0 rfl) (Nat.zero_le _) fun a w7 b7 eb7 hO7 f1 E => ?_
              have hs7 := ow_srcp strC_len hO7
              have hH2 := hH2.fr f1 id (fun _ _ h => h) (fun _ _ h => h)
              have hO2 := hO2.fr f1 (fun _ _ h => h)
              have hFq := hFq.trans' f1 (fun _ _ h => h.elim)
              have hXx := hXx.fr f1 (fun _ _ h => h)
              have hb9 := f1.obj hb9 id
              have hBw7 := hFq.size
              clear f1 hO7
              have hlenD := hNr.len hok9
              refine env_app42 (d := 76) E rfl (by decide) rfl rfl rfl (E.get 6 rfl) hO2 (E.get 0 rfl) hs7.1 hs7.2 (by simp; omega) (by omega) fun a w8 ov2 hO8 f1 hlo E => ?_
              have hrn := rows_ne hO2 hH2.1.2
              have hon := out_ne hO2 hH2.1.1
              have hH2 := hH2.fr f1 hon (fun k hk e => hrn k e hk) (fun k hk e => by have := (hO2.lt e).1; have := (hS3 k hk).1; omega)
              have hFq := hFq.trans' f1 (fun r hr e => by have := (hO2.lt e).1; omega)
              have hXx := hXx.fr f1 (fun k hk e => by have := (hO2.lt e).1; have := (hS3 k hk).1; omega)
              have hb9q : wtB w8 b9 x := f1.obj hb9 (fun e => hb9n.2.2 b9 e rfl)
              have hb9 := hb9q
              have hx4 := (WtAt.cells (x := x) hXx).1
              obtain ⟨p8, c8, hvv8, _⟩ := hO8.src strC_len
              subst hvv8
              refine env_set (d := 8) (v := .slice (p8) (D.map (·.1) ++ [x.id]).length c8) E rfl (by decide) (wanted_none rfl _) (run_assign rfl (E.get 0 rfl)) fun a E => ?_
              refine wpList_nil ?_
              refine then_n ?_
              refine wp_seq ?_
              have hxen := hxen hx0
              obtain ⟨_, p5, n5, c5, hx5q, hp5, _⟩ := WtAt.cells (x := x) hXx
              obtain ⟨rfl, rfl, rfl⟩ := hp5 hx0
              have hx5 := hx5q
              have hNl := hNr.leaf hE.1 hpY hmY hok hx0
              refine wp_region_lit ?_
              refine env_put (d := 77) (v := .pointer (some ⟨b9, 0, none⟩)) E rfl (by decide) rfl (wanted_none rfl _) (fa76_0 rfl (E.get 18 rfl)) fun a E => ?_
              refine env_put (d := 78) (v := .pointer (some ⟨x.c.1, 0, none⟩)) E rfl (by decide) rfl (wanted_none rfl _) (run_ld59 rfl (E.get 0 rfl) (bx hb9 0 rfl)) fun a E => ?_
              refine env_put (d := 79) (v := .pointer (some ⟨x.c.1, 0, none⟩)) E rfl (by decide) rfl (wanted_none rfl _) (run_nilchk rfl (E.get 0 rfl)) fun a E => ?_
              refine env_put (d := 80) (v := .pointer (some ⟨x.c.1, 5, none⟩)) E rfl (by decide) rfl (wanted_none rfl _) (fa71_2 rfl (E.get 0 rfl)) fun a E => ?_
              refine env_put (d := 81) (v := .slice none 0 0) E rfl (by decide) rfl (wanted_none rfl _) (run_ld69 rfl (E.get 0 rfl) hx5) fun a E => ?_
              refine env_put (d := 82) (v := .int .i64 0) E rfl (by decide) rfl (wanted_none rfl _) (run_len69 rfl (E.get 0 rfl)) fun a E => ?_
              refine env_put (d := 83) (v := .int .i64 0) E rfl (by decide) rfl (wanted_none rfl _) (run_move rfl rfl) fun a E => ?_
              refine wpList_nil ?_
              refine then_n ?_
              refine wp_block ?_
              refine wp_loop (fun a w2 => Env 101 [(83, .int .i64 0), (82, .int .i64 0), (81, .slice none 0 0), (8, .slice (p8) (D.map (·.1) ++ [x.id]).length c8), (7, .pointer (some ⟨q, 0, none⟩)), (4, .pointer (some ⟨b41, 0, none⟩)), (2, .int .i64 n), (0, .pointer (some ⟨p, 0, none⟩))] a ∧ w2 = w8) (fun a _ => (intOf (a.eval (.tmp 83))).toNat) ?_ ?_
              · exact ⟨E.of ⟨E.get 0 rfl, E.get 1 rfl, E.get 2 rfl, E.get 7 rfl, E.get 42 rfl, E.get 43 rfl, E.get 44 rfl, E.get 45 rfl, trivial⟩, rfl⟩
              clear E
              rintro a w2 ⟨E, hw2⟩
              have hmu : (intOf (a.eval (.tmp 83))).toNat = 0 := by rw [E.get 0 rfl]; first | rfl | (simp [intOf]; done) | (simp only [intOf]; omega)
              rw [hmu]
              clear hmu
              subst hw2
              refine wp_seq ?_
              refine wp_region_lit ?_
              refine env_put (d := 84) (v := .bool false) E rfl (by decide) rfl (wanted_none rfl _) (run_ilss (m := 0) (n := 0) (E.get 0 rfl) (E.get 1 rfl) Try.underlying3 rfl) fun a E => ?_
              refine wpList_nil ?_
              refine then_n ?_
              refine wp_seq ?_
              refine wp_cond_false (E.get 0 rfl) ?_
              refine wp_exit ?_
              refine then_e ?_
              refine then_e ?_
              refine blk_e ?_
              refine blk_n ?_
              refine then_n ?_
              have e9 : (D ++ [(x.id, x.c.2.1)]).map (·.1) = D.map (·.1) ++ [x.id] := by simp
              exact ⟨wgt Y, by rw [hk9, ← wgt_perm hpY, wgt_cons, hxen, hx0]; simp, D ++ [(x.id, x.c.2.1)], Y, v2, p8, c8, rfl, by rw [e9]; exact E.of ⟨E.get 4 rfl, E.get 5 rfl, E.get 6 rfl, E.get 7 rfl, E.get 8 rfl, trivial⟩, hH2, hhY, hNl, by rw [e9]; exact hO8, by have := of_decide_eq_true hq45; simp at this; simp; omega, hFq⟩
    | true =>
      rw [hq44] at E
      have hnone : ∀ s, m s = none := by
        rcases h2.tree rfl with ⟨_, h9⟩ | ⟨hh, pr, br, L, h9, _⟩
        · exact h9
        · rw [h9] at hq44; cases hq44
      refine wp_cond_true (E.get 0 rfl) ?_
      refine wp_seq ?_
      refine wp_region_lit ?_
      refine env_set (d := 6) (v := .slice none 0 0) E rfl (by decide) (wanted_none rfl _) (run_assign rfl rfl) fun a E => ?_
      refine wpList_nil ?_
      refine then_n ?_
      refine wp_ret ?_
      refine then_r ?_
      have hptP : isP pt := of_decide_eq_true (isP_all.symm.trans hq43)
      exact ret_tmp (t := 6) rfl E (E.get 0 rfl) ⟨_, [], w1.heap.size, rfl, by have := hf2.size; omega, ow_nil _, by rw [if_pos hptP]; exact ⟨[], ⟨List.nodup_nil, fun s b => ⟨fun h => (by cases h), fun h => by rw [hnone s] at h; cases h⟩⟩, by simp [srtN]⟩, S2, rv2, true, h2, hf2, fun k hk => ⟨hS2 k hk, h2.lt k hk⟩⟩
end Go.Proofs.Ytcafnanbdmapgaa
