/- Text. -/
import Derived.Test.YtjaffpnegdcjnaaGreatDoorSE2
set_option linter.unusedVariables false
set_option linter.unusedSimpArgs false
namespace Go.Proofs.YtjaffpnegdcjnaaGreatDoor
open Go.RowKit Go.Pl
theorem appR {α : Type} {f : α → List Value} {c : Nat} {E T : TypeId} {bytes : Nat} {z : Value} (hf : ∀ x, (f x).length = c) (hc : 0 < c) (h1 : ∀ x, ∀ u ∈ f x, u.oneCell' = true) (hT : Tryz.prog.underlying T = some (.slice E)) (hinf : (Tryz.prog.info? E).map (fun i => (i.zero, i.size, i.bytes)) = some (some z, c, bytes)) (hzs : z.cells.size = c) (hby : bytes ≤ 64)
  {o : Oper} {ρ : Operand → Value} {x y : Operand} {w : World} {B G : Nat} {v : Value} {A S : List α} {p : Option Addr} {cap : Nat} (ho : o.op = .call { callee := .builtin .append, args := #[x, y], argTypes := #[T, T] }) (hx : ρ x = v) (hy : ρ y = .slice p S.length cap) (hv : ow f c E w B v A) (hsrc : srcAt f c w G p S) (hcp : p = none → cap = 0) (hl : A.length + S.length ≤ 400000000) (hB : B ≤ w.heap.size) :
  ∃ v' w', (execOp ρ o).run Tryz.prog w = .ok (.value v') w' ∧ ow f c E w' B v' (A ++ S) ∧ Fr (fun k => v.ownBlock = some k) w w' ∧ (v'.ownBlock = v.ownBlock ∨ v'.ownBlock = some w.heap.size) := by
 obtain ⟨i, hi, hz, hs, hb⟩ := info_parts4 hinf
 rcases p with _ | ad
 ·have hS : S = [] := by
   rcases hsrc with h | ⟨g, off, h, _⟩
   ·exact h
   ·cases h
  subst hS
  obtain rfl := hcp rfl
  refine ⟨v, w, ?_, by rw [List.append_nil]; exact hv, Fr.refl _ _, .inl rfl⟩
  have hrun := run_append_owned_none (P := Tryz.prog) (w := w) B T o.type E i c hT hi v A.length _ hv
  simp [execOp, ho, resolve, invoke, builtin, hx, hy, hrun, Result.andThen]
 ·obtain ⟨v', w', c0, c1, c2, _, c4⟩ := run_append_own_at (P := Tryz.prog) (w := w) B T o.type E i z c bytes hT hi hz hs hb hzs hc v A.length _ hv ad S.length cap (S.flatMap f) (flat_len hf S) (fun j u hu => by
   have hj := (List.getElem?_eq_some_iff.1 hu).1
   rw [flat_len hf] at hj
   rcases hsrc with rfl | ⟨g, off, h2, _, h3⟩
   ·simp at hj
   ·obtain rfl := Option.some.inj h2
    have hm : j % c < c := Nat.mod_lt _ hc
    have hdv : j / c < S.length := (Nat.div_lt_iff_lt_mul hc).2 hj
    have e : j / c * c + j % c = j := by rw [Nat.mul_comm]; exact Nat.div_add_mod j c
    obtain ⟨s, hs⟩ : ∃ s, S[j / c]? = some s := ⟨_, List.getElem?_eq_getElem hdv⟩
    have hfl := flat_at hf S (j / c) s hs (j % c) hm
    rw [e, hu] at hfl
    have := h3 _ s hs (j % c) u hfl.symm
    rw [Addr.add_mid, ← e, ← Nat.add_assoc]; exact this) (fun u hu => by
   obtain ⟨s, _, hs⟩ := List.mem_flatMap.1 hu
   exact h1 s u hs) (by unfold maxLen; omega) (by have := Nat.mul_le_mul (Nat.le_refl (A.length + S.length)) hby; omega) hB
  refine ⟨v', w', ?_, ?_, (Fr.refl _ _).grown c2 fun k hk _ => hk, c4⟩
  ·unfold execOp
   simp only [ho, resolve, invoke, builtin, Sem.run_bind, Sem.run_pure, Result.andThen_ok, List.map_toArray, List.map_cons, List.map_nil, hx, hy, c0]
  ·unfold ow
   rw [List.length_append, List.flatMap_append]
   exact c1
theorem app70 {o : Oper} {ρ : Operand → Value} {x y : Operand} {w : World} {B G : Nat} {v : Value} {A S : List Bys} {p : Option Addr} {cap : Nat} (ho : o.op = .call { callee := .builtin .append, args := #[x, y], argTypes := #[70, 70] }) (hx : ρ x = v) (hy : ρ y = .slice p S.length cap) (hv : oSt w B v A) (hsrc : srcAt stL 1 w G p S) (hcp : p = none → cap = 0) (hl : A.length + S.length ≤ 400000000) (hB : B ≤ w.heap.size) :
  ∃ v' w', (execOp ρ o).run Tryz.prog w = .ok (.value v') w' ∧ oSt w' B v' (A ++ S) ∧ Fr (fun k => v.ownBlock = some k) w w' ∧ (v'.ownBlock = v.ownBlock ∨ v'.ownBlock = some w.heap.size) :=
 appR stL_len (by omega) stL_one Tryz.underlying70 info9z rfl (by decide) ho hx hy hv hsrc hcp hl hB
theorem joinC_eq : ∀ xs : List Bys, Lib.join xs [44, 32] = joinC xs
 | [] => rfl
 | [x] => Lib.join_one x _
 | x :: y :: l => by
  show _ = x ++ 44 :: 32 :: joinC (y :: l)
  rw [← joinC_eq (y :: l), Lib.join_cons, Lib.join_cons]
  simp [Lib.joinTail]
theorem join_calls {w : World} {B : Nat} {v : Value} {xs : List Bys} (h : oSt w B v xs) (hn : xs.length ≤ 100000) (hl : (joinC xs).length ≤ 100000000) : Calls Tryz.prog 45 #[v, .string (ofL [44, 32])] w fun e w' => e = .returned (.string (ofL (joinC xs))) ∧ Fr (fun _ => False) w w' := by
 obtain ⟨p, c, rfl, h1, h2, h3, h4⟩ := ow.src stL_len h
 rcases h3 with rfl | ⟨g, off, rfl, hg, hc⟩
 ·refine (Tryz.strings_Join_none p c _ w).mono fun e w' h => ?_
  obtain ⟨rfl, rfl⟩ := h
  exact ⟨rfl, Fr.refl _ _⟩
 ·have hm : (xs.map ofL).map (·.data.toList) = xs := by
   rw [List.map_map]
   exact (List.map_congr_left fun x _ => by simp [ofL]).trans (List.map_id xs)
  have hj : Lib.join ((xs.map ofL).map (·.data.toList)) (ofL [44, 32]).data.toList = joinC xs := by
   rw [hm]; exact joinC_eq xs
  have := Tryz.strings_Join g off c (xs.map ofL) (ofL [44, 32]) w (fun j x hx => by
   rw [List.getElem?_map] at hx
   cases hq : xs[j]? with
   | none => rw [hq] at hx; cases hx
   | some y =>
    rw [hq] at hx
    cases hx
    have := hc j y hq 0 _ rfl
    simpa using this) hg (by rw [List.length_map]; omega) (by rw [List.length_map]; exact h1) (by rw [hj]; omega)
  rw [hj, List.length_map] at this
  refine this.mono fun e w' h => ?_
  exact ⟨h.1, Fr.of_below h.2⟩
theorem clk_len (m : Int) : (clk m).length ≤ 5 := by
 unfold clk
 have := decS_len (m / 60).toNat
 simp only [List.length_append, List.length_cons, dec2_len]; omega
theorem dayT_len {d : Nat} (h : d < 7) : (dayT (d : Int)).length ≤ 2 := by
 unfold dayT
 rw [Int.toNat_natCast]
 have : ∀ d < 7, (days.getD d []).length ≤ 2 := by decide +kernel
 exact this d h
theorem DaysAt.at {w : World} {b d : Nat} (h : DaysAt w b) (hd : d < 7) : w.cell? ⟨b, 0 + d, none⟩ = some (.string (ofL (dayT (d : Int)))) := by
 have hx : days[d]? = some (dayT (d : Int)) := by
  unfold dayT
  rw [Int.toNat_natCast]
  have : ∀ d < 7, days[d]? = some (days.getD d []) := by decide +kernel
  exact this d hd
 rw [cell_of_blk h, Nat.zero_add]
 simp [hx]
/-- What holds in the round that lays a piece's text by: γ = (the days' block, the row of one, the longer row); done: the days, the row of one, the longer row, the store. -/
def M13 (W : World) (B c4 : Nat) (dv : Value) (acc : List Bys) (tx : Bys) (γ : Nat × Nat × Value) (p1 p15 p16 p17 : Bool) (wm : World) : Prop :=
 (p16 = false → Fr (fun _ => False) W wm ∧ (p1 = true → DaysAt wm γ.1) ∧ (p15 = true → wm.heap[γ.2.1]? = some (.cells #[.string (ofL tx)] 9 (0, 0)))) ∧
 (p16 = true → Fr (fun b => (p17 = true ∧ b = c4) ∨ dv.ownBlock = some b) W wm ∧ oSt wm B γ.2.2 (acc ++ [tx]) ∧ (γ.2.2.ownBlock = dv.ownBlock ∨ ∀ k, γ.2.2.ownBlock = some k → W.heap.size ≤ k) ∧ wm.heap[c4]? = some (.cells #[if p17 = true then γ.2.2 else dv] 70 (0, 0)))
theorem M13.fr {W : World} {B c4 : Nat} {dv : Value} {acc : List Bys} {tx : Bys} {γ : Nat × Nat × Value} {p1 p15 p17 : Bool} {wm w9 : World} (h : M13 W B c4 dv acc tx γ p1 p15 false p17 wm) (f : Fr (fun _ => False) wm w9) : M13 W B c4 dv acc tx γ p1 p15 false p17 w9 :=
 ⟨fun _ => ⟨(h.1 rfl).1.trans f, fun e => f.obj ((h.1 rfl).2.1 e) id, fun e => f.obj ((h.1 rfl).2.2 e) id⟩, fun e => by cases e⟩
theorem fin13 {W : World} {B c4 : Nat} {dv : Value} {acc : List Bys} {tx : Bys} {γ : Nat × Nat × Value} {p1 p15 p16 p17 : Bool} {wm : World} (e : p16 = false) (h : M13 W B c4 dv acc tx γ p1 p15 false p17 wm) : M13 W B c4 dv acc tx γ p1 p15 p16 p17 wm := e ▸ h
theorem run_st70v {o : Oper} {w : World} {ρ : Operand → Value} {x y : Operand} {b off : Nat} {u v : Value} (hs : ∃ p n c, v = .slice p n c) (ho : o.op = .store 70 x y) (hx : ρ x = .pointer (some ⟨b, off, none⟩)) (hy : ρ y = v) (hc : w.cell? ⟨b, off, none⟩ = some u) (hz : w.frozen? ⟨b, off, none⟩ = false) : (execOp ρ o).run Tryz.prog w = .ok .skip (w.setCell ⟨b, off, none⟩ v) := by
 obtain ⟨p, n, c, rfl⟩ := hs
 exact run_st70 ho hx hy hc hz
theorem run_ld70v {o : Oper} {w : World} {ρ : Operand → Value} {x : Operand} {g off : Nat} {v : Value} (hs : ∃ p n c, v = .slice p n c) (ho : o.op = .load 70 x) (hx : ρ x = .pointer (some ⟨g, off, none⟩)) (hc : w.cell? ⟨g, off, none⟩ = some v) : (execOp ρ o).run Tryz.prog w = .ok (.value v) w := by
 obtain ⟨p, n, c, rfl⟩ := hs
 exact run_ld70 ho hx hc
theorem env_zip2 {ds : List Deferred} {n d d2 : Nat} {L : List (Nat × Value)} {a : Act} {x y : Value} (E : EnvD ds n L a) (hn : d < n) (hn2 : d2 < n) (hf : (L.map (·.1)).contains d = false) (hf2 : (((d, x) :: L).map (·.1)).contains d2 = false) : Env n ((d2, y) :: (d, x) :: L) { tmps := ((#[d, d2] : Array Tmp).zip #[x, y]).foldl (fun t (p, v) => t.setIfInBounds p v) a.tmps, defers := [] } := by
 have h := (E.put (v := x) hn hf).put (v := y) hn2 hf2
 refine ⟨?_, ?_, rfl⟩
 ·have := h.size
  simpa [Act.put] using this
 ·intro z hz
  have := h.at_ z hz
  simpa [Act.put, Act.eval] using this
theorem res2 {fn : Func} {a : Act} {w : World} {t t2 : Tmp} {v u : Value} (hr : fn.results = #[.tmp t, .tmp t2]) (hv : a.eval (.tmp t) = v) (hu : a.eval (.tmp t2) = u) : (results fn a.tmps).run Tryz.prog w = .ok (.tuple #[v, u]) w := by
 have g1 : a.tmps.getD t undef = v := hv
 have g2 : a.tmps.getD t2 undef = u := hu
 unfold results
 rw [hr]
 rw [Array.getD_eq_getD_getElem?] at g1 g2
 simp [g1, g2]
theorem pcs_len60 {l : List Sp} (h : l.length ≤ 60) : (l.flatMap pcs).length ≤ 480 := by
 have hp : ∀ (n : Nat) (f t : Int), (pcsF n f t).length ≤ n := by
  intro n
  induction n with
  | zero => intro f t; exact Nat.le_refl _
  | succ n ih =>
   intro f t
   show (if f < t then _ else _ : List (Int × Int × Int)).length ≤ _
   split
   ·have := ih (min t ((f / 1440 + 1) * 1440)) t; simp only [List.length_cons]; omega
   ·simp
 have : ∀ l : List Sp, (l.flatMap pcs).length ≤ 8 * l.length := by
  intro l
  induction l with
  | nil => simp
  | cons s l ih =>
   have := hp 8 s.1 s.2
   have e : pcs s = pcsF 8 s.1 s.2 := rfl
   simp only [List.flatMap_cons, List.length_append, List.length_cons, e]; omega
 have := this l
 omega
theorem joinC_len {P : List (Int × Int × Int)} (h : P.length ≤ 480) : (joinC (P.map pcT)).length ≤ 100000000 := by
 have hd : ∀ d : Int, (dayT d).length ≤ 2 := by
  intro d
  unfold dayT
  by_cases hd : d.toNat < 7
  ·have : ∀ d < 7, (days.getD d []).length ≤ 2 := by decide +kernel
   exact this _ hd
  ·rw [List.getD_eq_getElem?_getD, List.getElem?_eq_none (by show 7 ≤ d.toNat; omega)]; simp
 have hp : ∀ p : Int × Int × Int, (pcT p).length ≤ 14 := by
  intro p
  have h1 := hd p.1; have h2 := clk_len p.2.1; have h3 := clk_len p.2.2
  unfold pcT
  simp only [List.length_append, List.length_cons]; omega
 have : ∀ P : List (Int × Int × Int), (joinC (P.map pcT)).length ≤ 16 * P.length := by
  intro P
  induction P with
  | nil => simp [joinC]
  | cons p P ih =>
   cases P with
   | nil => have := hp p; simp only [List.map_cons, List.map_nil, joinC, List.length_cons, List.length_nil]; omega
   | cons q P =>
    have := hp p
    simp only [List.map_cons, joinC, List.length_append, List.length_cons] at ih ⊢; omega
 have := this P
 omega
set_option maxRecDepth 100000 in
set_option maxHeartbeats 4000000 in
theorem text15_calls {w : World} {v : Value} {l : List Sp} (hl : SpV w v l) (hln : l.length ≤ 1000000) (hT0 : Tb w) : Calls Tryz.prog 15 #[v] w fun e w' => e = .returned (.tuple #[.string (ofL (textR l).1), .int .i64 (textR l).2]) ∧ Fr (fun _ => False) w w' := by
 have hl0 := hl
 obtain ⟨p0, cp0, hvp0, hlep0, hcapp0, hsp0, hzp0⟩ := hl
 subst hvp0
 refine wp_startM1 Tryz.func15 rfl rfl (n := 48) (by decide) fun a E => ?_
 have hf : Fr (fun _ => False) w w := Fr.refl _ _
 have hT : Tb w := hT0
 have hTlw := hT0.lt
 have hll : l.length ≤ 9223372036854775807 := by omega
 have hl1 : SpV w (.slice p0 l.length cp0) l := hl0
 refine wp_seq ?_
 refine wp_region_lit ?_
 refine ep (v := .string (ofL [])) E (run_assign rfl rfl) fun a E => ?_
 refine ep (v := .int .i64 0) E (run_assign rfl rfl) fun a E => ?_
 refine wpList_nil ?_
 refine then_n ?_
 refine wp_seq ?_
 refine wp_block ?_
 refine wp_seq ?_
 refine wp_region_lit ?_
 refine ep (v := .slice (p0) l.length cp0) E (run_move rfl (E.get 2 rfl)) fun a E => ?_
 refine env_call (d := 9) (v := .bool (vl (-1) l)) E rfl (by decide) rfl (wanted_none rfl _) (run_call1 (enters_of Tryz.func18 (by kernel_rfl) rfl) rfl rfl (E.get 0 rfl)) (valid_calls hl1) fun a w1 f1 E => ?_
 have hsp0 := srcAt.fr hsp0 f1 (fun r hr => id)
 have hT := Tb.fr hT f1 (fun r hr => id)
 have hl1 := Src.fr hl1 f1
 have hf := hf.trans' f1 (fun _ _ h => h.elim)
 clear f1
 refine ep (v := .bool (!(vl (-1) l))) E (run_not rfl (E.get 0 rfl)) fun a E => ?_
 refine ep (v := .bool (!(vl (-1) l))) E (run_assign rfl (E.get 0 rfl)) fun a E => ?_
 refine wpList_nil ?_
 refine then_n ?_
 cases hq146 : (vl (-1) l) with
 | false =>
  rw [hq146] at E
  refine wp_cond_true (E.get 0 rfl) ?_
  refine wp_seq ?_
  refine wp_region_lit ?_
  refine env_set (d := 2) (v := .string (ofL [])) E rfl (by decide) (wanted_none rfl _) (run_assign rfl rfl) fun a E => ?_
  refine env_set (d := 3) (v := .int .i64 1) E rfl (by decide) (wanted_none rfl _) (run_assign rfl rfl) fun a E => ?_
  refine wpList_nil ?_
  refine then_n ?_
  refine wp_ret ?_
  refine blk_r ?_
  refine then_r ?_
  refine retM_ (v := .tuple #[.string (ofL []), .int .i64 1]) E (MarksOk.nil _) fun w9 f9 => ?_
  refine ⟨res2 rfl (E.get 1 rfl) (E.get 0 rfl), ?_⟩
  have hr : textR l = ([], 1) := by unfold textR; rw [if_pos hq146]
  rw [hr]
  exact ⟨rfl, hf.trans' f9 (fun r hr e => by cases e)⟩
 | true =>
  rw [hq146] at E
  refine wp_cond_false (E.get 0 rfl) ?_
  refine wp_seq ?_
  refine wp_region_lit ?_
  refine ep (v := .slice (p0) l.length cp0) E (run_move rfl (E.get 6 rfl)) fun a E => ?_
  refine ep (v := .int .i64 (l.length : Int)) E (run_len22 rfl (E.get 0 rfl)) fun a E => ?_
  refine ep (v := .bool (decide (60 < (l.length : Int)))) E (run_igtr (E.get 0 rfl) rfl Tryz.underlying3 rfl) fun a E => ?_
  refine ep (v := .bool (decide (60 < (l.length : Int)))) E (run_assign rfl (E.get 0 rfl)) fun a E => ?_
  refine wpList_nil ?_
  refine then_n ?_
  cases hq147 : (decide (60 < (l.length : Int))) with
  | false =>
   rw [hq147] at E
   refine wp_cond_false (E.get 0 rfl) ?_
   refine wp_seq ?_
   refine wp_region_lit ?_
   refine ep (v := .slice (p0) l.length cp0) E (run_move rfl (E.get 10 rfl)) fun a E => ?_
   refine ep (v := .int .i64 (l.length : Int)) E (run_len22 rfl (E.get 0 rfl)) fun a E => ?_
   refine ep (v := .bool ((l.length : Int) == 0)) E (run_ieql (E.get 0 rfl) rfl Tryz.underlying3 rfl) fun a E => ?_
   refine ep (v := .bool ((l.length : Int) == 0)) E (run_assign rfl (E.get 0 rfl)) fun a E => ?_
   refine wpList_nil ?_
   refine then_n ?_
   cases hq148 : ((l.length : Int) == 0) with
   | false =>
    rw [hq148] at E
    have hlt0 : 0 < l.length := by have := hq148; rw [beq_eq_false_iff_ne] at this; omega
    obtain ⟨y, hy⟩ : ∃ y, l[0]? = some y := ⟨_, List.getElem?_eq_getElem hlt0⟩
    obtain ⟨g149, off149, hpe149, hgl149, hrow149⟩ := hsp0.at hlt0
    replace hrow149 := hrow149 0 y hy
    refine wp_cond_false (E.get 0 rfl) ?_
    refine wp_seq ?_
    refine wp_region_lit ?_
    refine ep (v := .slice (p0) l.length cp0) E (run_move rfl (E.get 14 rfl)) fun a E => ?_
    refine ep (v := .pointer (some ⟨g149, (off149 + 0 * 2), none⟩)) E (run_index22 (i := 0) rfl ((E.get 0 rfl).trans (by rw [hpe149])) rfl hlt0) fun a E => ?_
    refine ep (v := .agg (spA y)) E (run_ld48 rfl (E.get 0 rfl) hrow149) fun a E => ?_
    refine ep (v := .agg (spA (0, 10080))) E (run_of48 rfl rfl rfl) fun a E => ?_
    refine ep (v := .bool (y == (0, 10080))) E (run_speq (E.get 1 rfl) (E.get 0 rfl) rfl) fun a E => ?_
    refine ep (v := .bool (y == (0, 10080))) E (run_assign rfl (E.get 0 rfl)) fun a E => ?_
    refine wpList_nil ?_
    refine then_n ?_
    cases hq150 : (y == (0, 10080)) with
    | false =>
     rw [hq150] at E
     refine wp_cond_false (E.get 0 rfl) ?_
     refine wp_skip ?_
     refine blk_n ?_
     refine then_n ?_
     refine wp_seq ?_
     refine wp_region_lit ?_
     refine env_new (d := 4) E rfl (by decide) rfl (wanted_none rfl _) (run_alloc70 rfl) fun a w1 b151 eb151 hb151 f1 E => ?_
     have hnb151 : w.heap.size ≤ b151 := by have := hf.size; omega
     have hsp0 := srcAt.fr hsp0 f1 (fun r hr => id)
     have hT := Tb.fr hT f1 (fun r hr => id)
     have hl1 := Src.fr hl1 f1
     have hrow149 := fun j u hu => f1.cell (hrow149 j u hu) id
     have hf := hf.trans' f1 (fun _ _ h => h.elim)
     clear f1
     refine wpList_nil ?_
     refine then_n ?_
     refine wp_seq ?_
     refine wp_seq ?_
     refine wp_region_lit ?_
     refine ep (v := .slice (p0) l.length cp0) E (run_move rfl (E.get 21 rfl)) fun a E => ?_
     have hgw := hf.size
     have hgb151 := lt_of_blk hb151
     refine env_callv (d := 26) (R := fun u w8 => ∃ b, u = .func (.func 66) #[] #[.pointer (some ⟨b, 0, none⟩)] ∧ w8.heap[b]? = some (.cells #[.slice p0 l.length cp0] 22 (0, 0)) ∧ w1.heap.size ≤ b ∧ Fr (fun _ => False) w1 w8) E rfl (by decide) rfl (wanted_none rfl _) (run_call1 (enters_of Tryz.func42 (by kernel_rfl) rfl) rfl rfl (E.get 0 rfl)) (pieces_calls.mono fun e w8 h => by obtain ⟨b, rfl, h⟩ := h; exact ⟨_, rfl, b, rfl, h⟩) fun a w1 u ⟨cb, hu, hcb, hcn, f1⟩ E => ?_
     subst hu
     have hsp0 := srcAt.fr hsp0 f1 (fun r hr => id)
     have hT := Tb.fr hT f1 (fun r hr => id)
     have hl1 := Src.fr hl1 f1
     have hrow149 := fun j u hu => f1.cell (hrow149 j u hu) id
     have hb151 := f1.obj hb151 id
     have hf := hf.trans' f1 (fun _ _ h => h.elim)
     clear f1
     refine wpList_nil ?_
     refine then_n ?_
     refine wp_block ?_
     obtain ⟨wr, hwr⟩ : ∃ wr, wr = w1 := ⟨_, rfl⟩
     rw [← hwr] at hb151 hcb hT hf hsp0
     rw [← hwr]
     clear hwr
     have hq4 := lt_of_blk hb151
     have hqb := lt_of_blk hcb
     have hfs := hf.size
     have hvl : vl (-1) l = true := hq146
     have h60 : l.length ≤ 60 := by have := of_decide_eq_false hq147; omega
     have hwk := vl_wk (Int.le_refl _) hvl
     obtain ⟨P, hP⟩ : ∃ P, P = l.flatMap pcs := ⟨_, rfl⟩
     have hPl : P.length ≤ 480 := by rw [hP]; exact pcs_len60 h60
     have hPok : ∀ y ∈ P, pcOK y := by rw [hP]; exact pcs_ok hwk
     refine wp_rangeF3 (fun k H W => ∃ dv, W.heap[b151]? = some (.cells #[dv] 70 (0, 0)) ∧ oSt W (wr.heap.size + 2) dv ((P.take k).map pcT) ∧ (H = fun b => b = b151 ∨ dv.ownBlock = some b) ∧ Fr (fun _ => False) w W ∧ ValK cb w.heap.size p0 cp0 l W ∧ Tb W) (fun _ => False) (fun v a' W => ∃ (p : Int × Int × Int) (b6 : Nat), v = #[.int .i64 p.1, .agg (spA (p.2.1, p.2.2))] ∧ wr.heap.size + 2 ≤ b6 ∧ W.heap[b6]? = some (.cells #[.int .i64 p.2.1, .int .i64 p.2.2] 48 (0, 0)) ∧ Env 48 [(6, .pointer (some ⟨b6, 0, none⟩)), (5, .int .i64 p.1), (4, .pointer (some ⟨b151, 0, none⟩))] a') (E.get 0 rfl) (enters_of Tryz.func66 (by kernel_rfl) rfl) (vs := pcv l) (pieces_yields (c1 := cb) (G := w.heap.size) (p := p0) (cap := cp0) (by omega) hwk) (fun v hv => by obtain ⟨x, _, rfl⟩ := List.mem_map.1 hv; rfl) ?_ (fun _ _ h _ => h) ?_ ?_ ?_ ?_ ?_ ?_ (fun _ h _ => h.elim)
     ·rintro k H W W' F ⟨dv, h1, h2, rfl, h4, h5, h6⟩ f hF
      exact ⟨dv, f.obj h1 (fun e => by have := (hF _ e).1; omega), h2.fr f (fun b hb e => (hF _ e).2 (.inr hb)), rfl, h4.trans' f (fun r hr e => by have := (hF _ e).1; omega), h5.fr f (fun e => by have := (hF _ e).1; omega) (fun r hr e => by have := (hF _ e).1; omega), h6.fr f (fun r hr e => by have := (hF _ e).1; omega)⟩
     ·rintro k H W ⟨dv, h1, h2, rfl, h4, h5, h6⟩
      refine ⟨h5, fun b hb => ?_⟩
      rcases hb with rfl | hb
      ·have := lt_of_blk h1; omega
      ·have := h2.lt hb; omega
     ·intro W f hW
      exact ⟨_, _, f.obj hb151 id, ow_nil _, rfl, hf.trans f, ⟨f.obj hcb id, hsp0.fr f (fun _ _ => id), by omega⟩, hT.fr f (fun _ _ => id)⟩
     ·rintro v a' W W' ⟨p, b6, q1, q2, q3, q4⟩ f
      exact ⟨p, b6, q1, q2, f.obj q3 (by omega), q4⟩
     ·intro l9 v W K hv hW hK
      obtain ⟨y, _, rfl⟩ := List.mem_map.1 hv
      have E := env_zip2 (d := 27) (d2 := 28) (x := .int .i64 y.1) (y := .agg (spA (y.2.1, y.2.2))) (E.of (L' := [(4, .pointer (some ⟨b151, 0, none⟩))]) ⟨(E.get 2 rfl), trivial⟩) (by decide) (by decide) rfl rfl
      have hf : Fr (fun _ => False) W W := Fr.refl _ _
      refine wpIn_seq ?_
      refine wpR_region_lit (by kernel_rfl) (fun ⟨_, _, h⟩ => h) ?_
      refine ep (v := .int .i64 y.1) E (run_assign rfl (E.get 1 rfl)) fun a E => ?_
      refine wpList_nil ?_
      refine then_n ?_
      refine wpR_region_lit (by kernel_rfl) (fun ⟨_, _, h⟩ => h) ?_
      refine env_new (d := 6) E rfl (by decide) rfl (wanted_none rfl _) (run_alloc48 rfl) fun a w1 b152 eb152 hb152 f1 E => ?_
      have hnb152 : W.heap.size ≤ b152 := by have := hf.size; omega
      have hf := hf.trans' f1 (fun _ _ h => h.elim)
      clear f1
      refine env_st48 E rfl (wanted_none rfl _) rfl (E.get 0 rfl) (E.get 2 rfl) hb152 fun w1 hb152n f1 E => ?_
      have hf := hf.trans' f1 (fun r hr => (fun e => by (try simp only at e); omega))
      clear f1
      replace hb152 := hb152n
      refine wpList_nil ?_
      exact hK _ _ ⟨y, b152, rfl, by omega, hb152, E.of ⟨E.get 0 rfl, E.get 1 rfl, E.get 4 rfl, trivial⟩⟩ hf
     ·rintro k H v a9 W hv ⟨dv, hc4, hO, rfl, hF, hVK, hT⟩ ⟨x, b6, hvs, hb6, hs6, E⟩ hW -
      obtain ⟨y, hy, rfl⟩ : ∃ y, P[k]? = some y ∧ y = x := by
       unfold pcv at hv
       rw [← hP, List.getElem?_map] at hv
       cases hq : P[k]? with
       | none => rw [hq] at hv; cases hv
       | some y =>
        rw [hq] at hv
        subst hvs
        obtain ⟨y1, y2, y3⟩ := y
        obtain ⟨x1, x2, x3⟩ := x
        simp [spA] at hv
        obtain ⟨e1, e2, e3⟩ := hv
        subst e1 e2 e3
        exact ⟨_, rfl, rfl⟩
      have hkl : k < P.length := (List.getElem?_eq_some_iff.1 hy).1
      obtain ⟨hk1, hk2, hk3, hk4, hk5⟩ := hPok y (List.mem_of_getElem? hy)
      obtain ⟨dn, hde⟩ : ∃ dn : Nat, y.1 = dn := ⟨y.1.toNat, by omega⟩
      obtain ⟨fn, hfe⟩ : ∃ fn : Nat, y.2.1 = fn := ⟨y.2.1.toNat, by omega⟩
      obtain ⟨tn, hte⟩ : ∃ tn : Nat, y.2.2 = tn := ⟨y.2.2.toNat, by omega⟩
      have htp : pcT y = (((dayT (dn : Int) ++ [32]) ++ clk (fn : Int)) ++ [45]) ++ clk (tn : Int) := by
       unfold pcT; rw [hde, hfe, hte]; simp
      rw [hde] at E
      rw [hfe, hte] at hs6
      have hdn : dn < 7 := by omega
      have hfn : fn ≤ 1440 := by omega
      have htn : tn ≤ 1440 := by omega
      have hln1 := dayT_len hdn
      have hln2 := clk_len (fn : Int)
      have hln3 := clk_len (tn : Int)
      have hl6 := lt_of_blk hs6
      have hWs : wr.heap.size + 2 ≤ W.heap.size := hW
      refine wpIn_block ?_
      obtain ⟨tx, htx⟩ : ∃ tx, tx = (((dayT (dn : Int) ++ [32]) ++ clk (fn : Int)) ++ [45]) ++ clk (tn : Int) := ⟨_, rfl⟩
      refine wpR_region_invx (G := Nat × Nat × Value) (0, 0, undef) (n := 48) (base := [(6, .pointer (some ⟨b6, 0, none⟩)), (5, .int .i64 (dn : Int)), (4, .pointer (some ⟨b151, 0, none⟩))]) (U := []) (T := fun γ => [some (29, dv), some (30, .slice (some ⟨γ.1, 0, none⟩) 7 7), some (31, .int .i64 (dn : Int)), some (32, .pointer (some ⟨γ.1, (0 + dn), none⟩)), some (33, .string (ofL (dayT (dn : Int)))), some (34, .string (ofL ((dayT (dn : Int)) ++ [32]))), some (35, .pointer (some ⟨b6, 0, none⟩)), some (36, .int .i64 (fn : Int)), some (37, .string (ofL (clk (fn : Int)))), some (38, .string (ofL (((dayT (dn : Int)) ++ [32]) ++ (clk (fn : Int))))), some (39, .string (ofL ((((dayT (dn : Int)) ++ [32]) ++ (clk (fn : Int))) ++ [45]))), some (40, .pointer (some ⟨b6, 1, none⟩)), some (41, .int .i64 (tn : Int)), some (42, .string (ofL (clk (tn : Int)))), some (43, .string (ofL (((((dayT (dn : Int)) ++ [32]) ++ (clk (fn : Int))) ++ [45]) ++ (clk (tn : Int))))), some (44, .slice (some ⟨γ.2.1, 0, none⟩) 1 1), some (45, γ.2.2), none]) (M := fun γ ls9 wm => M13 W (wr.heap.size + 2) b151 dv ((P.take k).map pcT) tx γ (ls9 1) (ls9 15) (ls9 16) (ls9 17) wm) (by kernel_rfl) (fun ⟨_, _, h⟩ => h) (by kernel_rfl) (by kernel_rfl) (fun _ => by kernel_rfl) (E.of ⟨E.get 0 rfl, E.get 1 rfl, E.get 2 rfl, trivial⟩) (fun x hx => by cases hx) ⟨fun _ => ⟨(Fr.refl _ _).drew, fun e => (by cases e), fun e => (by cases e)⟩, fun e => (by cases e)⟩ ?_ ?_
      ·intro j9 o9 γ ls9 a w5 ho hl E D DL DL2 hB hM
       match j9, ho, hl, D, DL, hB with
       | 0, ho, hl, D, DL, hB =>
        obtain rfl := Option.some.inj ho
        clear ho
        have h16 : ls9 16 = false := by
         cases h9 : ls9 16 with
         | false => rfl
         | true => exact absurd (hl.symm.trans (DL2 16 0 rfl h9)) (by decide)
        have hM1 := hM
        rw [h16] at hM1
        have hf5 := (hM1.1 rfl).1
        have hc4 := hf5.obj hc4 id
        have hs6 := hf5.obj hs6 id
        have hT := hT.fr hf5 (fun _ _ => id)
        have hO := hO.fr hf5 (fun _ _ => id)
        have hfz := hf5.size
        exact ⟨fun _ => valx rfl (run_ld70v (ow.sl stL_len hO) rfl (E.get 2 rfl) (bx hc4 0 rfl)) rfl (fin13 h16 hM1), fun h => by rw [wanted_none rfl] at h; cases h⟩
       | 1, ho, hl, D, DL, hB =>
        obtain rfl := Option.some.inj ho
        clear ho
        have h16 : ls9 16 = false := by
         cases h9 : ls9 16 with
         | false => rfl
         | true => exact absurd (hl.symm.trans (DL2 8 1 rfl (DL2 13 8 rfl (DL2 16 13 rfl h9)))) (by decide)
        have hM1 := hM
        rw [h16] at hM1
        have hf5 := (hM1.1 rfl).1
        have hc4 := hf5.obj hc4 id
        have hs6 := hf5.obj hs6 id
        have hT := hT.fr hf5 (fun _ _ => id)
        have hO := hO.fr hf5 (fun _ _ => id)
        have hfz := hf5.size
        exact ⟨fun _ => callxw (F := fun v w8 => ∃ bd, v = .slice (some ⟨bd, 0, none⟩) 7 7 ∧ DaysAt w8 bd ∧ Fr (fun _ => False) w5 w8) (run_call0 (enters_of Tryz.func43 (by kernel_rfl) rfl) rfl rfl) ((names_calls hT).mono fun e w8 h => by obtain ⟨b, rfl, h1, h2, h3⟩ := h; exact ⟨_, rfl, b, rfl, h1, h3⟩) rfl fun v w8 ⟨bd, hv, hD, f9⟩ => ⟨(bd, γ.2), by rw [hv]; rfl, (fun j hj => match j, hj with | 0, _ => rfl | 1, hj => absurd (hl.symm.trans hj) (by decide) | 2, _ => rfl | 3, hj => absurd (hl.symm.trans (DL2 3 1 rfl hj)) (by decide) | 4, _ => rfl | 5, _ => rfl | 6, _ => rfl | 7, _ => rfl | 8, _ => rfl | 9, _ => rfl | 10, _ => rfl | 11, _ => rfl | 12, _ => rfl | 13, _ => rfl | 14, _ => rfl | 15, _ => rfl | 16, _ => rfl | 17, _ => rfl | e9 + 18, _ => rfl), fin13 h16 ⟨fun _ => ⟨(hM1.1 rfl).1.trans f9, fun _ => hD, fun e => f9.obj ((hM1.1 rfl).2.2 e) id⟩, fun e => by cases e⟩⟩, fun h => by rw [wanted_none rfl] at h; cases h⟩
       | 2, ho, hl, D, DL, hB =>
        obtain rfl := Option.some.inj ho
        clear ho
        have h16 : ls9 16 = false := by
         cases h9 : ls9 16 with
         | false => rfl
         | true => exact absurd (hl.symm.trans (DL2 3 2 rfl (DL2 4 3 rfl (DL2 5 4 rfl (DL2 9 5 rfl (DL2 10 9 rfl (DL2 14 10 rfl (DL2 15 14 rfl (DL2 16 15 rfl h9))))))))) (by decide)
        have hM1 := hM
        rw [h16] at hM1
        have hf5 := (hM1.1 rfl).1
        have hc4 := hf5.obj hc4 id
        have hs6 := hf5.obj hs6 id
        have hT := hT.fr hf5 (fun _ _ => id)
        have hO := hO.fr hf5 (fun _ _ => id)
        have hfz := hf5.size
        exact ⟨fun _ => valx rfl (run_move rfl (E.get 1 rfl)) rfl (fin13 h16 hM1), fun h => by rw [wanted_none rfl] at h; cases h⟩
       | 3, ho, hl, D, DL, hB =>
        obtain rfl := Option.some.inj ho
        clear ho
        have h16 : ls9 16 = false := by
         cases h9 : ls9 16 with
         | false => rfl
         | true => exact absurd (hl.symm.trans (DL2 4 3 rfl (DL2 5 4 rfl (DL2 9 5 rfl (DL2 10 9 rfl (DL2 14 10 rfl (DL2 15 14 rfl (DL2 16 15 rfl h9)))))))) (by decide)
        have hM1 := hM
        rw [h16] at hM1
        have hf5 := (hM1.1 rfl).1
        have hc4 := hf5.obj hc4 id
        have hs6 := hf5.obj hs6 id
        have hT := hT.fr hf5 (fun _ _ => id)
        have hO := hO.fr hf5 (fun _ _ => id)
        have hfz := hf5.size
        exact ⟨fun _ => valx rfl (run_index70 (i := dn) rfl (D 1 _ rfl rfl) (D 2 _ rfl rfl) hdn) rfl (fin13 h16 hM1), fun h => by rw [wanted_none rfl] at h; cases h⟩
       | 4, ho, hl, D, DL, hB =>
        obtain rfl := Option.some.inj ho
        clear ho
        have h16 : ls9 16 = false := by
         cases h9 : ls9 16 with
         | false => rfl
         | true => exact absurd (hl.symm.trans (DL2 5 4 rfl (DL2 9 5 rfl (DL2 10 9 rfl (DL2 14 10 rfl (DL2 15 14 rfl (DL2 16 15 rfl h9))))))) (by decide)
        have hM1 := hM
        rw [h16] at hM1
        have hf5 := (hM1.1 rfl).1
        have hc4 := hf5.obj hc4 id
        have hs6 := hf5.obj hs6 id
        have hT := hT.fr hf5 (fun _ _ => id)
        have hO := hO.fr hf5 (fun _ _ => id)
        have hfz := hf5.size
        have hDA := (hM1.1 rfl).2.1 (DL2 3 1 rfl (DL 3 rfl))
        exact ⟨fun _ => valx rfl (run_lds rfl (D 3 _ rfl rfl) (hDA.at hdn)) rfl (fin13 h16 hM1), fun h => by rw [wanted_none rfl] at h; cases h⟩
       | 5, ho, hl, D, DL, hB =>
        obtain rfl := Option.some.inj ho
        clear ho
        have h16 : ls9 16 = false := by
         cases h9 : ls9 16 with
         | false => rfl
         | true => exact absurd (hl.symm.trans (DL2 9 5 rfl (DL2 10 9 rfl (DL2 14 10 rfl (DL2 15 14 rfl (DL2 16 15 rfl h9)))))) (by decide)
        have hM1 := hM
        rw [h16] at hM1
        have hf5 := (hM1.1 rfl).1
        have hc4 := hf5.obj hc4 id
        have hs6 := hf5.obj hs6 id
        have hT := hT.fr hf5 (fun _ _ => id)
        have hO := hO.fr hf5 (fun _ _ => id)
        have hfz := hf5.size
        exact ⟨fun _ => valx rfl (run_sadd (D 4 _ rfl rfl) rfl rfl (by simp only [List.length_append, List.length_cons, List.length_nil]; omega)) rfl (fin13 h16 hM1), fun h => by rw [wanted_none rfl] at h; cases h⟩
       | 6, ho, hl, D, DL, hB =>
        obtain rfl := Option.some.inj ho
        clear ho
        have h16 : ls9 16 = false := by
         cases h9 : ls9 16 with
         | false => rfl
         | true => exact absurd (hl.symm.trans (DL2 7 6 rfl (DL2 8 7 rfl (DL2 13 8 rfl (DL2 16 13 rfl h9))))) (by decide)
        have hM1 := hM
        rw [h16] at hM1
        have hf5 := (hM1.1 rfl).1
        have hc4 := hf5.obj hc4 id
        have hs6 := hf5.obj hs6 id
        have hT := hT.fr hf5 (fun _ _ => id)
        have hO := hO.fr hf5 (fun _ _ => id)
        have hfz := hf5.size
        exact ⟨fun _ => valx rfl (fa48_0 rfl (E.get 0 rfl)) rfl (fin13 h16 hM1), fun h => by rw [wanted_none rfl] at h; cases h⟩
       | 7, ho, hl, D, DL, hB =>
        obtain rfl := Option.some.inj ho
        clear ho
        have h16 : ls9 16 = false := by
         cases h9 : ls9 16 with
         | false => rfl
         | true => exact absurd (hl.symm.trans (DL2 8 7 rfl (DL2 13 8 rfl (DL2 16 13 rfl h9)))) (by decide)
        have hM1 := hM
        rw [h16] at hM1
        have hf5 := (hM1.1 rfl).1
        have hc4 := hf5.obj hc4 id
        have hs6 := hf5.obj hs6 id
        have hT := hT.fr hf5 (fun _ _ => id)
        have hO := hO.fr hf5 (fun _ _ => id)
        have hfz := hf5.size
        exact ⟨fun _ => valx rfl (run_ldi rfl (D 6 _ rfl rfl) (bx hs6 0 rfl)) rfl (fin13 h16 hM1), fun h => by rw [wanted_none rfl] at h; cases h⟩
       | 8, ho, hl, D, DL, hB =>
        obtain rfl := Option.some.inj ho
        clear ho
        have h16 : ls9 16 = false := by
         cases h9 : ls9 16 with
         | false => rfl
         | true => exact absurd (hl.symm.trans (DL2 13 8 rfl (DL2 16 13 rfl h9))) (by decide)
        have hM1 := hM
        rw [h16] at hM1
        have hf5 := (hM1.1 rfl).1
        have hc4 := hf5.obj hc4 id
        have hs6 := hf5.obj hs6 id
        have hT := hT.fr hf5 (fun _ _ => id)
        have hO := hO.fr hf5 (fun _ _ => id)
        have hfz := hf5.size
        exact ⟨fun _ => callx rfl (run_call1 (enters_of Tryz.func44 (by kernel_rfl) rfl) rfl rfl (D 7 _ rfl rfl)) (clocked_calls hfn hT) rfl fun w9 f1 => fin13 h16 (hM1.fr f1), fun h => by rw [wanted_none rfl] at h; cases h⟩
       | 9, ho, hl, D, DL, hB =>
        obtain rfl := Option.some.inj ho
        clear ho
        have h16 : ls9 16 = false := by
         cases h9 : ls9 16 with
         | false => rfl
         | true => exact absurd (hl.symm.trans (DL2 10 9 rfl (DL2 14 10 rfl (DL2 15 14 rfl (DL2 16 15 rfl h9))))) (by decide)
        have hM1 := hM
        rw [h16] at hM1
        have hf5 := (hM1.1 rfl).1
        have hc4 := hf5.obj hc4 id
        have hs6 := hf5.obj hs6 id
        have hT := hT.fr hf5 (fun _ _ => id)
        have hO := hO.fr hf5 (fun _ _ => id)
        have hfz := hf5.size
        exact ⟨fun _ => valx rfl (run_sadd (D 5 _ rfl rfl) (D 8 _ rfl rfl) rfl (by simp only [List.length_append, List.length_cons, List.length_nil]; omega)) rfl (fin13 h16 hM1), fun h => by rw [wanted_none rfl] at h; cases h⟩
       | 10, ho, hl, D, DL, hB =>
        obtain rfl := Option.some.inj ho
        clear ho
        have h16 : ls9 16 = false := by
         cases h9 : ls9 16 with
         | false => rfl
         | true => exact absurd (hl.symm.trans (DL2 14 10 rfl (DL2 15 14 rfl (DL2 16 15 rfl h9)))) (by decide)
        have hM1 := hM
        rw [h16] at hM1
        have hf5 := (hM1.1 rfl).1
        have hc4 := hf5.obj hc4 id
        have hs6 := hf5.obj hs6 id
        have hT := hT.fr hf5 (fun _ _ => id)
        have hO := hO.fr hf5 (fun _ _ => id)
        have hfz := hf5.size
        exact ⟨fun _ => valx rfl (run_sadd (D 9 _ rfl rfl) rfl rfl (by simp only [List.length_append, List.length_cons, List.length_nil]; omega)) rfl (fin13 h16 hM1), fun h => by rw [wanted_none rfl] at h; cases h⟩
       | 11, ho, hl, D, DL, hB =>
        obtain rfl := Option.some.inj ho
        clear ho
        have h16 : ls9 16 = false := by
         cases h9 : ls9 16 with
         | false => rfl
         | true => exact absurd (hl.symm.trans (DL2 12 11 rfl (DL2 13 12 rfl (DL2 16 13 rfl h9)))) (by decide)
        have hM1 := hM
        rw [h16] at hM1
        have hf5 := (hM1.1 rfl).1
        have hc4 := hf5.obj hc4 id
        have hs6 := hf5.obj hs6 id
        have hT := hT.fr hf5 (fun _ _ => id)
        have hO := hO.fr hf5 (fun _ _ => id)
        have hfz := hf5.size
        exact ⟨fun _ => valx rfl (fa48_1 rfl (E.get 0 rfl)) rfl (fin13 h16 hM1), fun h => by rw [wanted_none rfl] at h; cases h⟩
       | 12, ho, hl, D, DL, hB =>
        obtain rfl := Option.some.inj ho
        clear ho
        have h16 : ls9 16 = false := by
         cases h9 : ls9 16 with
         | false => rfl
         | true => exact absurd (hl.symm.trans (DL2 13 12 rfl (DL2 16 13 rfl h9))) (by decide)
        have hM1 := hM
        rw [h16] at hM1
        have hf5 := (hM1.1 rfl).1
        have hc4 := hf5.obj hc4 id
        have hs6 := hf5.obj hs6 id
        have hT := hT.fr hf5 (fun _ _ => id)
        have hO := hO.fr hf5 (fun _ _ => id)
        have hfz := hf5.size
        exact ⟨fun _ => valx rfl (run_ldi rfl (D 11 _ rfl rfl) (bx hs6 1 rfl)) rfl (fin13 h16 hM1), fun h => by rw [wanted_none rfl] at h; cases h⟩
       | 13, ho, hl, D, DL, hB =>
        obtain rfl := Option.some.inj ho
        clear ho
        have h16 : ls9 16 = false := by
         cases h9 : ls9 16 with
         | false => rfl
         | true => exact absurd (hl.symm.trans (DL2 16 13 rfl h9)) (by decide)
        have hM1 := hM
        rw [h16] at hM1
        have hf5 := (hM1.1 rfl).1
        have hc4 := hf5.obj hc4 id
        have hs6 := hf5.obj hs6 id
        have hT := hT.fr hf5 (fun _ _ => id)
        have hO := hO.fr hf5 (fun _ _ => id)
        have hfz := hf5.size
        exact ⟨fun _ => callx rfl (run_call1 (enters_of Tryz.func44 (by kernel_rfl) rfl) rfl rfl (D 12 _ rfl rfl)) (clocked_calls htn hT) rfl fun w9 f1 => fin13 h16 (hM1.fr f1), fun h => by rw [wanted_none rfl] at h; cases h⟩
       | 14, ho, hl, D, DL, hB =>
        obtain rfl := Option.some.inj ho
        clear ho
        have h16 : ls9 16 = false := by
         cases h9 : ls9 16 with
         | false => rfl
         | true => exact absurd (hl.symm.trans (DL2 15 14 rfl (DL2 16 15 rfl h9))) (by decide)
        have hM1 := hM
        rw [h16] at hM1
        have hf5 := (hM1.1 rfl).1
        have hc4 := hf5.obj hc4 id
        have hs6 := hf5.obj hs6 id
        have hT := hT.fr hf5 (fun _ _ => id)
        have hO := hO.fr hf5 (fun _ _ => id)
        have hfz := hf5.size
        exact ⟨fun _ => valx rfl (run_sadd (D 10 _ rfl rfl) (D 13 _ rfl rfl) rfl (by simp only [List.length_append, List.length_cons, List.length_nil]; omega)) rfl (fin13 h16 hM1), fun h => by rw [wanted_none rfl] at h; cases h⟩
       | 15, ho, hl, D, DL, hB =>
        obtain rfl := Option.some.inj ho
        clear ho
        have h16 : ls9 16 = false := by
         cases h9 : ls9 16 with
         | false => rfl
         | true => exact absurd (hl.symm.trans (DL2 16 15 rfl h9)) (by decide)
        have hM1 := hM
        rw [h16] at hM1
        have hf5 := (hM1.1 rfl).1
        have hc4 := hf5.obj hc4 id
        have hs6 := hf5.obj hs6 id
        have hT := hT.fr hf5 (fun _ _ => id)
        have hO := hO.fr hf5 (fun _ _ => id)
        have hfz := hf5.size
        have hpa := (D 14 _ rfl rfl)
        rw [← htx] at hpa
        exact ⟨fun _ => valxw (γ.1, w5.heap.size, γ.2.2) rfl (run_one70 rfl hpa) rfl (fun j hj => match j, hj with | 0, _ => rfl | 1, _ => rfl | 2, _ => rfl | 3, _ => rfl | 4, _ => rfl | 5, _ => rfl | 6, _ => rfl | 7, _ => rfl | 8, _ => rfl | 9, _ => rfl | 10, _ => rfl | 11, _ => rfl | 12, _ => rfl | 13, _ => rfl | 14, _ => rfl | 15, hj => absurd (hl.symm.trans hj) (by decide) | 16, _ => rfl | 17, _ => rfl | e9 + 18, _ => rfl) (fin13 h16 ⟨fun _ => ⟨(hM1.1 rfl).1.alloc _, fun e => ((Fr.refl (fun _ => False) w5).alloc _).obj ((hM1.1 rfl).2.1 e) id, fun _ => blk_alloc_new _ _⟩, fun e => by cases e⟩), fun h => by rw [wanted_none rfl] at h; cases h⟩
       | 16, ho, hl, D, DL, hB =>
        have h16 : ls9 16 = false := hl
        have hM1 := hM
        rw [h16] at hM1
        have hf5 := (hM1.1 rfl).1
        have hc4 := hf5.obj hc4 id
        have hs6 := hf5.obj hs6 id
        have hT := hT.fr hf5 (fun _ _ => id)
        have hO := hO.fr hf5 (fun _ _ => id)
        have hfz := hf5.size
        have h17 : ls9 17 = false := by
         cases h9 : ls9 17 with
         | false => rfl
         | true => exact absurd (hl.symm.trans (DL2 17 16 rfl h9)) (by decide)
        have hb1 := (hM1.1 rfl).2.2 (DL 15 rfl)
        obtain ⟨v9, w9, c0, c1, c2, c3⟩ := app70 (S := [tx]) (o := o9) (ρ := a.eval) (congrArg Oper.op (Option.some.inj ho)).symm (D 0 _ rfl rfl) (D 15 _ rfl rfl) hO (src_one (f := stL) (c := 1) (G := w5.heap.size) hb1 (lt_of_blk hb1)) (fun h => by cases h) (by simp only [List.length_map, List.length_take, List.length_cons, List.length_nil]; omega) (by omega)
        obtain rfl := Option.some.inj ho
        refine ⟨fun _ => valxw (γ.1, γ.2.1, v9) rfl c0 rfl (fun j hj => match j, hj with | 0, _ => rfl | 1, _ => rfl | 2, _ => rfl | 3, _ => rfl | 4, _ => rfl | 5, _ => rfl | 6, _ => rfl | 7, _ => rfl | 8, _ => rfl | 9, _ => rfl | 10, _ => rfl | 11, _ => rfl | 12, _ => rfl | 13, _ => rfl | 14, _ => rfl | 15, _ => rfl | 16, hj => absurd (hl.symm.trans hj) (by decide) | 17, _ => rfl | e9 + 18, _ => rfl) ⟨fun e => (by cases e), fun _ => ⟨(hf5.mono (fun _ _ h => h.elim)).trans' c2 (fun r _ e => .inr e), c1, c3.imp id (fun h k hk => by rw [h] at hk; cases hk; exact hf5.size), ?_⟩⟩, fun h => by rw [wanted_none rfl] at h; cases h⟩
        have h9 := c2.obj hc4 (fun e => by have := (hO.lt e).1; omega)
        show w9.heap[_]? = some (Obj.cells #[if (17 == 16 || ls9 17) = true then v9 else dv] 70 (0, 0))
        rw [h17]; exact h9
       | 17, ho, hl, D, DL, hB =>
        obtain rfl := Option.some.inj ho
        clear ho
        obtain ⟨m1, m2, m3, m4⟩ := hM.2 (DL 16 rfl)
        rw [hl] at m1 m4
        have m4 : w5.heap[b151]? = some (.cells #[dv] 70 (0, 0)) := m4
        exact ⟨fun _ => storex rfl (run_st70v (ow.sl stL_len m2) rfl (E.get 2 rfl) (D 16 _ rfl rfl) (bx m4 0 rfl) (free_of_blk m4 0)) rfl ⟨fun e => absurd ((show ls9 16 = false from e).symm.trans (DL 16 rfl)) (by decide), fun _ => ⟨(m1.mono (fun _ _ h => h.elim (fun h => absurd h.1 (by decide)) .inr)).trans (((Fr.refl (fun r => r = b151) w5).setCell (p := ⟨b151, 0, none⟩) (fun _ => rfl) _).mono (fun r _ e => .inl ⟨rfl, e⟩)), m2.fr ((Fr.refl (fun r => r = b151) w5).setCell (p := ⟨b151, 0, none⟩) (fun _ => rfl) _) (fun k hk e => by have := (m2.lt hk).1; omega), m3, blk_setCell_same (off := 0) m4 _⟩⟩, fun h => by rw [wanted_none rfl] at h; cases h⟩
       | j9 + 18, ho, hl, D, DL, hB => exact absurd ho (by simp)
      ·rintro ⟨g1, g2, v9⟩ a w5 E V hM
       obtain ⟨m1, m2, m3, m4⟩ := hM.2 rfl
       clear V
       have e9 : (P.take (k + 1)).map pcT = (P.take k).map pcT ++ [tx] := by
        rw [List.take_add_one, hy, htx, ← htp]; simp
       have hm4 : w5.heap[b151]? = some (.cells #[v9] 70 (0, 0)) := m4
       have m1 : Fr (fun b => b = b151 ∨ dv.ownBlock = some b) W w5 := m1.mono fun r _ h => h.imp (fun h => h.2) id
       refine blk_n ?_
       refine rnd_n ⟨⟨_, ⟨v9, hm4, e9 ▸ m2, rfl, hF.trans' m1 (fun r hr e => by rcases e with e | e; omega; (have := (hO.lt e).1; omega)), hVK.fr m1 (fun e => by rcases e with e | e; omega; (have := (hO.lt e).1; omega)) (fun r hr e => by rcases e with e | e; omega; (have := (hO.lt e).1; omega)), hT.fr m1 (fun r hr e => by rcases e with e | e; omega; (have := (hO.lt e).1; omega))⟩, fun b hb => ?_, m1⟩, m1.blk _ (by omega) (fun e => by rcases e with e | e; omega; (have := (hO.lt e).1; omega)), m1.blk _ (by omega) (fun e => by rcases e with e | e; omega; (have := (hO.lt e).1; omega))⟩
       rcases hb with hb | hb
       ·exact .inl (.inl hb)
       ·rcases m3 with h9 | h9
        ·exact .inl (.inr (by rw [← h9]; exact hb))
        ·exact .inr (h9 _ hb)
     ·rintro H W ⟨dv, hc4, hO, rfl, hF, hVK, hT⟩ hDk
      have E := env_mark (D := wr.heap.size) E
      have hlv : (pcv l).length = P.length := by unfold pcv; rw [List.length_map, hP]
      rw [hlv, List.take_length] at hO
      refine blk_n ?_
      refine then_n ?_
      refine wp_seq ?_
      refine wp_region_lit ?_
      refine ep (v := dv) E (run_ld70v (ow.sl stL_len hO) rfl (E.get 2 rfl) (bx hc4 0 rfl)) fun a E => ?_
      refine env_call (d := 47) (v := .string (ofL (joinC (P.map pcT)))) E rfl (by decide) rfl (wanted_none rfl _) (run_call2 (enters_of Tryz.func45 (by kernel_rfl) rfl) rfl rfl (E.get 0 rfl) rfl) (join_calls hO (by rw [List.length_map]; omega) (joinC_len hPl)) fun a w1 f1 E => ?_
      have hc4 := f1.obj hc4 id
      have hDk := f1.obj hDk id
      have hT := Tb.fr hT f1 (fun r hr => id)
      have hO := hO.fr f1 (fun k hk => id)
      have hF := hF.trans' f1 (fun _ _ h => h.elim)
      clear f1
      refine env_set (d := 2) (v := .string (ofL (joinC (P.map pcT)))) E rfl (by decide) (wanted_none rfl _) (run_assign rfl (E.get 0 rfl)) fun a E => ?_
      refine env_set (d := 3) (v := .int .i64 0) E rfl (by decide) (wanted_none rfl _) (run_assign rfl rfl) fun a E => ?_
      refine wpList_nil ?_
      refine then_n ?_
      refine wp_ret ?_
      have hmk : ∀ r, isMark [mkD wr.heap.size] r → r = wr.heap.size := fun r e => by rcases isMark_cons.1 e with e | e; exact e; cases e
      refine retM_ (v := .tuple #[.string (ofL (joinC (P.map pcT))), .int .i64 0]) E ((MarksOk.nil _).cons hDk (fun h => by cases h)) fun w9 f9 => ?_
      refine ⟨res2 rfl (E.get 1 rfl) (E.get 0 rfl), ?_⟩
      have hr : textR l = (textC l, 0) := by unfold textR; rw [if_neg (by rw [hq146]; simp), if_neg (by have := of_decide_eq_false hq147; omega)]
      obtain ⟨t9, l9, hcons⟩ := List.exists_cons_of_ne_nil (List.ne_nil_of_length_pos hlt0)
      have ht9 : y = t9 := by rw [hcons] at hy; simpa using hy.symm
      subst ht9
      have ht : textC l = joinC (P.map pcT) := by
       rw [hP]
       have hn : ¬ ((y == ((0 : Int), (10080 : Int))) = true) := by rw [hq150]; decide
       rw [hcons]; unfold textC; simp only; rw [if_neg hn]
      rw [ht] at hr
      rw [hr]
      exact ⟨rfl, hF.trans' f9 (fun r hr e => by have := hmk _ e; omega)⟩
    | true =>
     rw [hq150] at E
     refine wp_cond_true (E.get 0 rfl) ?_
     refine wp_seq ?_
     refine wp_region_lit ?_
     refine env_set (d := 2) (v := .string (ofL [97, 108, 119, 97, 121, 115])) E rfl (by decide) (wanted_none rfl _) (run_assign rfl rfl) fun a E => ?_
     refine env_set (d := 3) (v := .int .i64 0) E rfl (by decide) (wanted_none rfl _) (run_assign rfl rfl) fun a E => ?_
     refine wpList_nil ?_
     refine then_n ?_
     refine wp_ret ?_
     refine blk_r ?_
     refine then_r ?_
     refine retM_ (v := .tuple #[.string (ofL [97, 108, 119, 97, 121, 115]), .int .i64 0]) E (MarksOk.nil _) fun w9 f9 => ?_
     refine ⟨res2 rfl (E.get 1 rfl) (E.get 0 rfl), ?_⟩
     have hr : textR l = (textC l, 0) := by unfold textR; rw [if_neg (by rw [hq146]; simp), if_neg (by have := of_decide_eq_false hq147; omega)]
     obtain ⟨t9, l9, hcons⟩ := List.exists_cons_of_ne_nil (List.ne_nil_of_length_pos hlt0)
     have ht9 : y = t9 := by rw [hcons] at hy; simpa using hy.symm
     subst ht9
     have ht : textC l = always := by unfold textC; rw [hcons]; simp only; rw [if_pos hq150]
     rw [ht] at hr
     rw [hr]
     exact ⟨rfl, hf.trans' f9 (fun r hr e => by cases e)⟩
   | true =>
    rw [hq148] at E
    refine wp_cond_true (E.get 0 rfl) ?_
    refine wp_seq ?_
    refine wp_region_lit ?_
    refine env_set (d := 2) (v := .string (ofL [110, 101, 118, 101, 114])) E rfl (by decide) (wanted_none rfl _) (run_assign rfl rfl) fun a E => ?_
    refine env_set (d := 3) (v := .int .i64 0) E rfl (by decide) (wanted_none rfl _) (run_assign rfl rfl) fun a E => ?_
    refine wpList_nil ?_
    refine then_n ?_
    refine wp_ret ?_
    refine blk_r ?_
    refine then_r ?_
    refine retM_ (v := .tuple #[.string (ofL [110, 101, 118, 101, 114]), .int .i64 0]) E (MarksOk.nil _) fun w9 f9 => ?_
    refine ⟨res2 rfl (E.get 1 rfl) (E.get 0 rfl), ?_⟩
    have hr : textR l = (textC l, 0) := by unfold textR; rw [if_neg (by rw [hq146]; simp), if_neg (by have := of_decide_eq_false hq147; omega)]
    have hnil : l = [] := List.eq_nil_of_length_eq_zero (by have := hq148; rw [beq_iff_eq] at this; omega)
    have ht : textC l = never := by rw [hnil]; rfl
    rw [ht] at hr
    rw [hr]
    exact ⟨rfl, hf.trans' f9 (fun r hr e => by cases e)⟩
  | true =>
   rw [hq147] at E
   refine wp_cond_true (E.get 0 rfl) ?_
   refine wp_seq ?_
   refine wp_region_lit ?_
   refine env_set (d := 2) (v := .string (ofL [])) E rfl (by decide) (wanted_none rfl _) (run_assign rfl rfl) fun a E => ?_
   refine env_set (d := 3) (v := .int .i64 2) E rfl (by decide) (wanted_none rfl _) (run_assign rfl rfl) fun a E => ?_
   refine wpList_nil ?_
   refine then_n ?_
   refine wp_ret ?_
   refine blk_r ?_
   refine then_r ?_
   refine retM_ (v := .tuple #[.string (ofL []), .int .i64 2]) E (MarksOk.nil _) fun w9 f9 => ?_
   refine ⟨res2 rfl (E.get 1 rfl) (E.get 0 rfl), ?_⟩
   have hr : textR l = ([], 2) := by unfold textR; rw [if_neg (by rw [hq146]; simp), if_pos (by have := of_decide_eq_true hq147; omega)]
   rw [hr]
   exact ⟨rfl, hf.trans' f9 (fun r hr e => by cases e)⟩
end Go.Proofs.YtjaffpnegdcjnaaGreatDoor
