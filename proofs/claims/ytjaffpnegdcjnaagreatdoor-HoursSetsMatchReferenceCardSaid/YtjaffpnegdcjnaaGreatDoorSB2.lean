/- Sorting spans, uniting spans. -/
import Derived.Test.YtjaffpnegdcjnaaGreatDoorSB1
import Derived.Test.YtjaffpnegdcjnaaGreatDoorSSr
set_option linter.unusedVariables false
set_option linter.unusedSimpArgs false
namespace Go.Proofs.YtjaffpnegdcjnaaGreatDoor
open Go.RowKit Go.Pl
set_option maxRecDepth 100000 in
set_option maxHeartbeats 4000000 in
theorem sortedFunc_calls {w : World} {gf c3 : Nat} {lb : Array Value} {L : List Sp} {Kp : World → Prop} (hl : L.length ≤ 20000) (eg : ∀ args w, (callFunc gf args).run Tryz.prog w = .ok (.enter gf args) w) (hY : IterOf Tryz.prog gf lb (valv L) Kp) (hK : ∀ W, Fr (fun _ => False) w W → Kp W) (hc3 : w.heap[c3]? = some (.cells #[.func (.func 60) #[] #[]] 91 (0, 0))) :
  Calls Tryz.prog 81 #[.func (.func gf) #[] lb, .func (.func 83) #[] #[.pointer (some ⟨c3, 0, none⟩)]] w fun e w' => ∃ v L', e = .returned v ∧ L'.Perm L ∧ L'.Pairwise (fun x y => x.1 ≤ y.1) ∧ oSp w' w.heap.size v L' ∧ Fr (fun _ => False) w w' := by
 have hc0 := hc3
 refine wp_start2 Tryz.func81 rfl rfl (n := 12) (by decide) fun a E => ?_
 have hf : Fr (fun _ => False) w w := Fr.refl _ _
 refine wp_seq ?_
 refine wp_region_lit ?_
 refine ep (v := .slice none 0 0) E (run_assign rfl rfl) fun a E => ?_
 refine wpList_nil ?_
 refine then_n ?_
 refine wp_seq ?_
 refine wp_region_lit ?_
 refine ep (v := .func (.func gf) #[] lb) E (run_move rfl (E.get 1 rfl)) fun a E => ?_
 refine env_callv (d := 7) (R := fun u w8 => oSp w8 w.heap.size u L ∧ Fr (fun _ => False) w w8) E rfl (by decide) rfl (wanted_none rfl _) (run_call1 (enters_of Tryz.func100 (by kernel_rfl) rfl) rfl rfl (E.get 0 rfl)) ((collect_calls hl eg hY hK).mono fun e w8 h => by obtain ⟨v, rfl, h⟩ := h; exact ⟨_, rfl, h⟩) fun a w1 rv ⟨hrv, f1⟩ E => ?_
 have hc3 := f1.obj hc3 id
 have hcl := lt_of_blk hc0
 have hf := hf.trans' f1 (fun _ _ h => h.elim)
 clear f1
 refine ep (v := rv) E (run_assign rfl (E.get 0 rfl)) fun a E => ?_
 refine wpList_nil ?_
 refine then_n ?_
 refine wp_seq ?_
 refine wp_region_lit ?_
 refine ep (v := rv) E (run_move rfl (E.get 0 rfl)) fun a E => ?_
 refine ep (v := .func (.func 83) #[] #[.pointer (some ⟨c3, 0, none⟩)]) E (run_move rfl (E.get 6 rfl)) fun a E => ?_
 refine env_callv (d := 10) (R := fun u w8 => u = .tuple #[] ∧ ∃ L', L'.Perm L ∧ L'.Pairwise (fun x y => x.1 ≤ y.1) ∧ oSp w8 w.heap.size rv L' ∧ Fr (fun k => rv.ownBlock = some k) w1 w8) E rfl (by decide) rfl (wanted_none rfl _) (run_call2 (enters_of Tryz.func101 (by kernel_rfl) rfl) rfl rfl (E.get 1 rfl) (E.get 0 rfl)) ((sortSp_calls hrv hc3 (fun k hk e => by have := (hrv.lt hk).1; omega) hl).mono fun e w8 h => by obtain ⟨rfl, h⟩ := h; exact ⟨_, rfl, rfl, h⟩) fun a w2 rv2 ⟨hu, L', hp, hs, hO, f1⟩ E => ?_
 subst hu
 have hf := hf.trans' f1 (fun r hr e => by have := (hrv.lt e).1; omega)
 clear f1
 refine wpList_nil ?_
 refine then_n ?_
 refine wp_seq ?_
 refine wp_region_lit ?_
 refine ep (v := rv) E (run_move rfl (E.get 3 rfl)) fun a E => ?_
 refine env_set (d := 4) (v := rv) E rfl (by decide) (wanted_none rfl _) (run_assign rfl (E.get 0 rfl)) fun a E => ?_
 refine wpList_nil ?_
 refine then_n ?_
 refine wp_ret ?_
 exact ret_tmp (t := 4) rfl E (E.get 0 rfl) ⟨_, _, rfl, hp, hs, hO, hf⟩
set_option maxRecDepth 100000 in
set_option maxHeartbeats 4000000 in
theorem sorted_calls {w : World} {v : Value} {l : List Sp} (hl : SpV w v l) (hlen : l.length ≤ 20000) :
  Calls Tryz.prog 59 #[v, .func (.func 60) #[] #[]] w fun e w' => ∃ u L', e = .returned u ∧ L'.Perm l ∧ L'.Pairwise (fun x y => x.1 ≤ y.1) ∧ oSp w' w.heap.size u L' ∧ Fr (fun _ => False) w w' := by
 obtain ⟨p0, cp0, hvp0, hlep0, hcapp0, hsp0, hzp0⟩ := hl
 subst hvp0
 refine wp_start2 Tryz.func59 rfl rfl (n := 9) (by decide) fun a E => ?_
 have hf : Fr (fun _ => False) w w := Fr.refl _ _
 refine wp_seq ?_
 refine wp_region_lit ?_
 refine env_new (d := 3) E rfl (by decide) rfl (wanted_none rfl _) (run_box91 rfl (E.get 1 rfl)) fun a w1 b11 eb11 hb11 f1 E => ?_
 have hnb11 : w.heap.size ≤ b11 := by have := hf.size; omega
 have hsp0 := srcAt.fr hsp0 f1 (fun r hr => id)
 have hf := hf.trans' f1 (fun _ _ h => h.elim)
 clear f1
 refine ep (v := .slice none 0 0) E (run_assign rfl rfl) fun a E => ?_
 refine wpList_nil ?_
 refine then_n ?_
 refine wp_seq ?_
 refine wp_region_lit ?_
 refine ep (v := .slice (p0) l.length cp0) E (run_move rfl (E.get 2 rfl)) fun a E => ?_
 refine env_callv (d := 6) (R := fun u w8 => ∃ b, u = .func (.func 102) #[] #[.pointer (some ⟨b, 0, none⟩)] ∧ w8.heap[b]? = some (.cells #[.slice p0 l.length cp0] 22 (0, 0)) ∧ w1.heap.size ≤ b ∧ Fr (fun _ => False) w1 w8) E rfl (by decide) rfl (wanted_none rfl _) (run_call1 (enters_of Tryz.func82 (by kernel_rfl) rfl) rfl rfl (E.get 0 rfl)) ((values_calls _ _ _ _).mono fun e w8 h => by obtain ⟨b, rfl, h⟩ := h; exact ⟨_, rfl, b, rfl, h⟩) fun a w1 rv ⟨cb, hu, hcb, hcw, f1⟩ E => ?_
 subst hu
 have hsp0 := srcAt.fr hsp0 f1 (fun r hr => id)
 have hb11 := f1.obj hb11 id
 have hf := hf.trans' f1 (fun _ _ h => h.elim)
 clear f1
 refine ep (v := .func (.func 83) #[] #[.pointer (some ⟨b11, 0, none⟩)]) E (run_mkfn rfl (E.get 3 rfl)) fun a E => ?_
 refine env_callv (d := 8) (R := fun u w8 => ∃ L', L'.Perm l ∧ L'.Pairwise (fun x y => x.1 ≤ y.1) ∧ oSp w8 w1.heap.size u L' ∧ Fr (fun _ => False) w1 w8) E rfl (by decide) rfl (wanted_none rfl _) (run_call2 (enters_of Tryz.func81 (by kernel_rfl) rfl) rfl rfl (E.get 1 rfl) (E.get 0 rfl)) ((sortedFunc_calls (Kp := ValK cb w.heap.size p0 cp0 l) hlen (enters_of Tryz.func102 (by kernel_rfl) rfl) (values_yields (by omega)) (fun W f => ValK.fr (⟨hcb, hsp0, hf.size⟩ : ValK cb w.heap.size p0 cp0 l w1) f id (fun _ _ h => h)) hb11).mono fun e w8 h => by obtain ⟨v, L', rfl, h⟩ := h; exact ⟨_, rfl, L', h⟩) fun a w2 rv2 ⟨L', hp, hs, hO, f1⟩ E => ?_
 have hO := hO.base hf.size
 have hsp0 := srcAt.fr hsp0 f1 (fun r hr => id)
 have hb11 := f1.obj hb11 id
 have hcb := f1.obj hcb id
 have hf := hf.trans' f1 (fun _ _ h => h.elim)
 clear f1
 refine env_set (d := 4) (v := rv2) E rfl (by decide) (wanted_none rfl _) (run_assign rfl (E.get 0 rfl)) fun a E => ?_
 refine wpList_nil ?_
 refine then_n ?_
 refine wp_ret ?_
 exact ret_tmp (t := 4) rfl E (E.get 0 rfl) ⟨_, _, rfl, hp, hs, hO, hf⟩
theorem unite_take {L : List Sp} {i : Nat} {y : Sp} (hy : L[i]? = some y) : unite (L.take (i + 1)) = ustep (unite (L.take i)) y := by
 unfold unite
 rw [List.take_add_one, hy]
 simp [List.foldl_append]
theorem unite_len (l : List Sp) : (unite l).length ≤ l.length := by
 have h1 : ∀ (a : List Sp) (s : Sp), (ustep a s).length ≤ a.length + 1 := by
  intro a s
  unfold ustep
  split
  ·split
   ·first | (simp; done) | (simp; omega)
   ·simp
  ·simp
 have h2 : ∀ (l a : List Sp), (l.foldl ustep a).length ≤ a.length + l.length := by
  intro l
  induction l with
  | nil => intro a; simp
  | cons s l ih => intro a; have := ih (ustep a s); have := h1 a s; simp only [List.foldl_cons, List.length_cons]; omega
 have := h2 l []
 simpa [unite] using this
theorem ustep_ext {A : List Sp} {q s : Sp} (h : s.1 ≤ q.2) : ustep (A ++ [q]) s = A ++ [(q.1, max q.2 s.2)] := by
 unfold ustep
 rw [List.getLast?_concat, List.dropLast_concat]
 simp only
 rw [if_pos h]
theorem ustep_new {A : List Sp} {q s : Sp} (h : ¬ s.1 ≤ q.2) : ustep (A ++ [q]) s = A ++ [q] ++ [s] := by
 unfold ustep
 rw [List.getLast?_concat]
 simp only
 rw [if_neg h]
set_option maxRecDepth 100000 in
set_option maxHeartbeats 4000000 in
theorem united_calls {w : World} {v : Value} {l : List Sp} (hl : SpV w v l) (hw : wk l) (hlen : l.length ≤ 20000) : Calls Tryz.prog 34 #[v] w fun e w' => ∃ u, e = .returned u ∧ oSp w' w.heap.size u (canon l) ∧ Fr (fun _ => False) w w' := by
 obtain ⟨p0, cp0, hvp0, hlep0, hcapp0, hsp0, hzp0⟩ := hl
 subst hvp0
 refine wp_start1 Tryz.func34 rfl rfl (n := 50) (by decide) fun a E => ?_
 have hf : Fr (fun _ => False) w w := Fr.refl _ _
 refine wp_seq ?_
 refine wp_region_lit ?_
 refine ep (v := .slice none 0 0) E (run_assign rfl rfl) fun a E => ?_
 refine wpList_nil ?_
 refine then_n ?_
 refine wp_seq ?_
 refine wp_region_lit ?_
 refine ep (v := .slice (p0) l.length cp0) E (run_move rfl (E.get 1 rfl)) fun a E => ?_
 refine env_callv (d := 8) (R := fun u w8 => ∃ L', L'.Perm l ∧ L'.Pairwise (fun x y => x.1 ≤ y.1) ∧ oSp w8 w.heap.size u L' ∧ Fr (fun _ => False) w w8) E rfl (by decide) rfl (wanted_none rfl _) (run_call2 (enters_of Tryz.func59 (by kernel_rfl) rfl) rfl rfl (E.get 0 rfl) rfl) ((sorted_calls ⟨_, _, rfl, hlep0, hcapp0, hsp0.mono (by first | exact hf.size | omega), hzp0⟩ hlen).mono fun e w8 h => by obtain ⟨v, L', rfl, h⟩ := h; exact ⟨_, rfl, L', h⟩) fun a w1 rv ⟨L', hp, hs, hO0, f1⟩ E => ?_
 have hsp0 := srcAt.fr hsp0 f1 (fun r hr => id)
 have hf := hf.trans' f1 (fun _ _ h => h.elim)
 clear f1
 have hlL := hp.length_eq
 obtain ⟨p1, cp1, hrv, hle1, hcap1, hs1, hz1⟩ := ow.src spL_len hO0
 subst hrv
 refine env_set (d := 0) (v := .slice (p1) L'.length cp1) E rfl (by decide) (wanted_none rfl _) (run_assign rfl (E.get 0 rfl)) fun a E => ?_
 refine wpList_nil ?_
 refine then_n ?_
 refine wp_seq ?_
 refine wp_region_lit ?_
 refine ep (v := .slice none 0 0) E (run_assign rfl rfl) fun a E => ?_
 refine wpList_nil ?_
 refine then_n ?_
 refine wp_seq ?_
 refine wp_seq ?_
 refine wp_region_lit ?_
 refine ep (v := .slice (p1) L'.length cp1) E (run_move rfl (E.get 1 rfl)) fun a E => ?_
 refine ep (v := .int .i64 (L'.length : Int)) E (run_len22 rfl (E.get 0 rfl)) fun a E => ?_
 refine ep (v := .int .i64 0) E (run_move rfl rfl) fun a E => ?_
 refine wpList_nil ?_
 refine then_n ?_
 refine wp_block ?_
 obtain ⟨B, hB⟩ : ∃ B, B = w1.heap.size := ⟨_, rfl⟩
 have hBs : B ≤ w1.heap.size := by omega
 have hwB : w.heap.size ≤ B := by have := hf.size; omega
 have hs1 := hs1
 rw [← hB] at hs1
 have hO : oSp w1 B (.slice none 0 0) (unite (L'.take 0)) := ow_nil _
 refine wp_loop (fun a w2 => ∃ (i : Nat) (dv : Value), Env 50 [(11, .int .i64 (i : Int)), (10, .int .i64 (L'.length : Int)), (9, .slice (p1) L'.length cp1), (3, dv)] a ∧ i ≤ L'.length ∧ oSp w2 B dv (unite (L'.take i)) ∧ srcAt spL 2 w2 B p1 L' ∧ Fr (fun _ => False) w w2 ∧ B ≤ w2.heap.size) (fun a _ => L'.length - (intOf (a.eval (.tmp 11))).toNat) ?_ ?_
 ·exact ⟨0, .slice none 0 0, E.of ⟨E.get 0 rfl, E.get 1 rfl, E.get 2 rfl, E.get 3 rfl, trivial⟩, Nat.zero_le _, hO, hs1, hf, hBs⟩
 clear E
 rintro a w2 ⟨i, dv, E, hi, hO, hs1, hf, hBs⟩
 have hmu : L'.length - (intOf (a.eval (.tmp 11))).toNat = L'.length - i := by rw [E.get 0 rfl]; first | rfl | (simp [intOf]; done) | (simp only [intOf]; omega)
 rw [hmu]
 clear hmu
 obtain ⟨po, cpo, hdv, hlo, hco, hso, hzo⟩ := ow.src spL_len hO
 subst hdv
 have hul := unite_len (L'.take i)
 have hul2 : (L'.take i).length ≤ i := by rw [List.length_take]; omega
 refine wp_seq ?_
 refine wp_region_lit ?_
 refine ep (v := .bool (decide ((i : Int) < (L'.length : Int)))) E (run_ilss (E.get 0 rfl) (E.get 1 rfl) Tryz.underlying3 rfl) fun a E => ?_
 refine wpList_nil ?_
 refine then_n ?_
 refine wp_seq ?_
 cases hq13 : (decide ((i : Int) < (L'.length : Int))) with
 | false =>
  rw [hq13] at E
  have hie : i = L'.length := by have := of_decide_eq_false hq13; omega
  refine wp_cond_false (E.get 0 rfl) ?_
  refine wp_exit ?_
  refine then_e ?_
  refine then_e ?_
  refine blk_e ?_
  refine then_n ?_
  refine wp_seq ?_
  refine wp_region_lit ?_
  refine ep (v := .slice (po) (unite (L'.take i)).length cpo) E (run_move rfl (E.get 4 rfl)) fun a E => ?_
  refine ep (v := .slice (po) (unite (L'.take i)).length cpo) E (run_assign rfl (E.get 0 rfl)) fun a E => ?_
  refine wpList_nil ?_
  refine then_n ?_
  refine wp_ret ?_
  have e9 : unite (L'.take i) = canon l := by rw [hie, List.take_length, unite_canon hw hp hs]
  rw [e9] at hO E
  exact ret_tmp (t := 2) rfl E (E.get 0 rfl) ⟨_, rfl, hO.base hwB, hf⟩
 | true =>
  rw [hq13] at E
  have hlt : i < L'.length := by have := of_decide_eq_true hq13; omega
  obtain ⟨y, hy⟩ : ∃ y, L'[i]? = some y := ⟨_, List.getElem?_eq_getElem hlt⟩
  obtain ⟨g14, off14, hpe14, hgl14, hrow14⟩ := hs1.at hlt
  replace hrow14 := hrow14 i y hy
  refine wp_cond_true (E.get 0 rfl) ?_
  refine wp_skip ?_
  refine then_n ?_
  refine wp_seq ?_
  refine wp_block ?_
  refine wp_seq ?_
  refine wp_region_lit ?_
  refine ep (v := .pointer (some ⟨g14, (off14 + i * 2), none⟩)) E (run_index22 (i := i) rfl ((E.get 3 rfl).trans (by rw [hpe14])) (E.get 1 rfl) hlt) fun a E => ?_
  refine ep (v := .agg (spA y)) E (run_ld48 rfl (E.get 0 rfl) hrow14) fun a E => ?_
  refine env_new (d := 5) E rfl (by decide) rfl (wanted_none rfl _) (run_alloc48 rfl) fun a w1 b15 eb15 hb15 f1 E => ?_
  have hnb15 : w.heap.size ≤ b15 := by have := hf.size; omega
  have hBb15 : B ≤ b15 := by omega
  have hdb15 : ∀ k, ((.slice (po) (unite (L'.take i)).length cpo) : Value).ownBlock = some k → k ≠ b15 := fun k hk => by have := (hO.lt hk).2; omega
  have hs1 := srcAt.fr hs1 f1 (fun r hr => id)
  have hO := ow.fr hO f1 (fun _ _ => id)
  have hBs := Nat.le_trans hBs f1.size
  have hrow14 := fun j u hu => f1.cell (hrow14 j u hu) id
  have hf := hf.trans' f1 (fun _ _ h => h.elim)
  clear f1
  refine env_st48 E rfl (wanted_none rfl _) rfl (E.get 0 rfl) (E.get 1 rfl) hb15 fun w1 hb15n f1 E => ?_
  have hs1 := srcAt.fr hs1 f1 (fun r hr => (fun e => by (try simp only at e); omega))
  have hO := ow.fr hO f1 (fun k hk e => by have := (hO.lt hk).1; have := hdb15 k hk; (try simp only at e); omega)
  have hBs := Nat.le_trans hBs f1.size
  have hrow14 := fun j u hu => f1.cell (hrow14 j u hu) (fun e => by (try simp only at e); omega)
  have hf := hf.trans' f1 (fun r hr => (fun e => by (try simp only at e); omega))
  clear f1
  replace hb15 := hb15n
  refine wpList_nil ?_
  refine then_n ?_
  refine wp_seq ?_
  refine wp_seq ?_
  refine wp_region_lit ?_
  refine ep (v := .slice (po) (unite (L'.take i)).length cpo) E (run_move rfl (E.get 7 rfl)) fun a E => ?_
  refine ep (v := .int .i64 ((unite (L'.take i)).length : Int)) E (run_len22 rfl (E.get 0 rfl)) fun a E => ?_
  refine ep (v := .int .i64 ((unite (L'.take i)).length : Int)) E (run_assign rfl (E.get 0 rfl)) fun a E => ?_
  refine wpList_nil ?_
  refine then_n ?_
  refine wp_seq ?_
  cases hq16 : (decide (0 < ((unite (L'.take i)).length : Int))) with
  | false =>
   have hA0 : unite (L'.take i) = [] := List.eq_nil_of_length_eq_zero (by have := of_decide_eq_false hq16; omega)
   refine wp_region_invg (n := 50) (base := [(6, .int .i64 ((unite (L'.take i)).length : Int)), (16, .int .i64 ((unite (L'.take i)).length : Int)), (15, .slice (po) (unite (L'.take i)).length cpo), (5, .pointer (some ⟨b15, 0, none⟩)), (14, .agg (spA y)), (13, .pointer (some ⟨g14, (off14 + i * 2), none⟩)), (12, .bool true), (11, .int .i64 (i : Int)), (10, .int .i64 (L'.length : Int)), (9, .slice (p1) L'.length cp1), (3, .slice (po) (unite (L'.take i)).length cpo)]) (T := [some (17, .int .i64 ((unite (L'.take i)).length : Int)), some (18, .bool false), some (19, .bool false), some (20, undef), some (21, undef), some (22, undef), some (23, undef), some (24, undef), some (25, undef), some (26, undef), some (27, undef), some (28, undef), some (29, .bool false)]) (M := fun _ wm => Fr (fun _ => False) w1 wm) (by kernel_rfl) (by kernel_rfl) (by kernel_rfl) (E.of ⟨E.get 0 rfl, E.get 1 rfl, E.get 2 rfl, E.get 3 rfl, E.get 4 rfl, E.get 5 rfl, E.get 6 rfl, E.get 7 rfl, E.get 8 rfl, E.get 9 rfl, E.get 10 rfl, trivial⟩) (Fr.refl _ _).drew ?_ ?_
   ·intro j9 o9 t9 ls9 a w5 ho hT0 hl E D DL hM
    have hs1 := srcAt.fr hs1 hM (fun r hr => id)
    have hO := ow.fr hO hM (fun _ _ h => h)
    have hBs := Nat.le_trans hBs hM.size
    have hrow14 := fun j u hu => hM.cell (hrow14 j u hu) id
    have hb15 := hM.obj hb15 id
    match j9, ho, hT0, hl, D, DL with
    | 0, ho, hT0, hl, D, DL =>
     obtain rfl := Option.some.inj ho
     obtain rfl := Option.some.inj hT0
     clear ho hT0
     exact ⟨fun _ => val_wp (run_move rfl (E.get 0 rfl)) rfl hM, fun h => by rw [wanted_none rfl] at h; cases h⟩
    | 1, ho, hT0, hl, D, DL =>
     obtain rfl := Option.some.inj ho
     obtain rfl := Option.some.inj hT0
     clear ho hT0
     exact ⟨fun _ => val_wp ((run_igtr (D 0 _ rfl rfl) rfl Tryz.underlying3 rfl).trans (by rw [hq16] <;> rfl)) rfl hM, fun h => by rw [wanted_none rfl] at h; cases h⟩
    | 2, ho, hT0, hl, D, DL =>
     obtain rfl := Option.some.inj ho
     obtain rfl := Option.some.inj hT0
     clear ho hT0
     exact ⟨fun _ => val_wp (run_move rfl (D 1 _ rfl rfl)) rfl hM, fun h => by rw [wanted_none rfl] at h; cases h⟩
    | 3, ho, hT0, hl, D, DL =>
     obtain rfl := Option.some.inj ho
     obtain rfl := Option.some.inj hT0
     clear ho hT0
     exact ⟨fun h => (by rw [w_no (g := 2) (s := 19) (b := true) E rfl rfl (by decide) (D 2 _ rfl rfl)] at h; cases h), fun _ => ⟨fun x hx => by cases hx; rfl, hM⟩⟩
    | 4, ho, hT0, hl, D, DL =>
     obtain rfl := Option.some.inj ho
     obtain rfl := Option.some.inj hT0
     clear ho hT0
     exact ⟨fun h => (by rw [w_no (g := 2) (s := 19) (b := true) E rfl rfl (by decide) (D 2 _ rfl rfl)] at h; cases h), fun _ => ⟨fun x hx => by cases hx; rfl, hM⟩⟩
    | 5, ho, hT0, hl, D, DL =>
     obtain rfl := Option.some.inj ho
     obtain rfl := Option.some.inj hT0
     clear ho hT0
     exact ⟨fun h => (by rw [w_no (g := 2) (s := 19) (b := true) E rfl rfl (by decide) (D 2 _ rfl rfl)] at h; cases h), fun _ => ⟨fun x hx => by cases hx; rfl, hM⟩⟩
    | 6, ho, hT0, hl, D, DL =>
     obtain rfl := Option.some.inj ho
     obtain rfl := Option.some.inj hT0
     clear ho hT0
     exact ⟨fun h => (by rw [w_no (g := 2) (s := 19) (b := true) E rfl rfl (by decide) (D 2 _ rfl rfl)] at h; cases h), fun _ => ⟨fun x hx => by cases hx; rfl, hM⟩⟩
    | 7, ho, hT0, hl, D, DL =>
     obtain rfl := Option.some.inj ho
     obtain rfl := Option.some.inj hT0
     clear ho hT0
     exact ⟨fun h => (by rw [w_no (g := 2) (s := 19) (b := true) E rfl rfl (by decide) (D 2 _ rfl rfl)] at h; cases h), fun _ => ⟨fun x hx => by cases hx; rfl, hM⟩⟩
    | 8, ho, hT0, hl, D, DL =>
     obtain rfl := Option.some.inj ho
     obtain rfl := Option.some.inj hT0
     clear ho hT0
     exact ⟨fun h => (by rw [w_no (g := 2) (s := 19) (b := true) E rfl rfl (by decide) (D 2 _ rfl rfl)] at h; cases h), fun _ => ⟨fun x hx => by cases hx; rfl, hM⟩⟩
    | 9, ho, hT0, hl, D, DL =>
     obtain rfl := Option.some.inj ho
     obtain rfl := Option.some.inj hT0
     clear ho hT0
     exact ⟨fun h => (by rw [w_no (g := 2) (s := 19) (b := true) E rfl rfl (by decide) (D 2 _ rfl rfl)] at h; cases h), fun _ => ⟨fun x hx => by cases hx; rfl, hM⟩⟩
    | 10, ho, hT0, hl, D, DL =>
     obtain rfl := Option.some.inj ho
     obtain rfl := Option.some.inj hT0
     clear ho hT0
     exact ⟨fun h => (by rw [w_no (g := 2) (s := 19) (b := true) E rfl rfl (by decide) (D 2 _ rfl rfl)] at h; cases h), fun _ => ⟨fun x hx => by cases hx; rfl, hM⟩⟩
    | 11, ho, hT0, hl, D, DL =>
     obtain rfl := Option.some.inj ho
     obtain rfl := Option.some.inj hT0
     clear ho hT0
     exact ⟨fun h => (by rw [w_no (g := 2) (s := 19) (b := true) E rfl rfl (by decide) (D 2 _ rfl rfl)] at h; cases h), fun _ => ⟨fun x hx => by cases hx; rfl, hM⟩⟩
    | 12, ho, hT0, hl, D, DL =>
     obtain rfl := Option.some.inj ho
     obtain rfl := Option.some.inj hT0
     clear ho hT0
     exact ⟨fun _ => val_wp (run_pick_f rfl (D 2 _ rfl rfl) rfl) rfl hM, fun h => by rw [wanted_none rfl] at h; cases h⟩
    | j9 + 13, ho, hT0, hl, D, DL => exact absurd hT0 (by simp)
   ·intro a w5 E V hM
    have E := E.add (V 12 _ rfl)
    clear V
    have hs1 := srcAt.fr hs1 hM (fun r hr => id)
    have hO := ow.fr hO hM (fun _ _ => id)
    have hBs := Nat.le_trans hBs hM.size
    have hrow14 := fun j u hu => hM.cell (hrow14 j u hu) id
    have hb15 := hM.obj hb15 id
    have hf := hf.trans' hM (fun _ _ h => h.elim)
    clear hM
    refine then_n ?_
    refine wp_cond_false (E.get 0 rfl) ?_
    refine wp_skip ?_
    refine then_n ?_
    refine wp_region_lit ?_
    refine ep (v := .slice (po) (unite (L'.take i)).length cpo) E (run_move rfl (E.get 11 rfl)) fun a E => ?_
    refine ep (v := .agg (spA y)) E (run_ld48 rfl (E.get 5 rfl) (rng2 (p := y) hb15 0 rfl rfl)) fun a E => ?_
    refine env_one22 (d := 46) E rfl (by decide) rfl (wanted_none rfl _) rfl (E.get 0 rfl) fun a w1 b18 eb18 hbb18 f1 E => ?_
    have hs1 := srcAt.fr hs1 f1 (fun r hr => id)
    have hO := ow.fr hO f1 (fun _ _ => id)
    have hBs := Nat.le_trans hBs f1.size
    have hrow14 := fun j u hu => f1.cell (hrow14 j u hu) id
    have hb15 := f1.obj hb15 id
    have hf := hf.trans' f1 (fun _ _ h => h.elim)
    clear f1
    have hsb18 := src_one (f := spL) (c := 2) (G := w1.heap.size) hbb18 (lt_of_blk hbb18)
    clear hbb18 eb18
    refine env_app22 (d := 47) E rfl (by decide) rfl rfl rfl (E.get 2 rfl) hO (E.get 0 rfl) hsb18 (fun h => by cases h) (by simp only [List.length_cons, List.length_nil]; omega) hBs fun a w1 ov19 hO2 f1 hloc E => ?_
    have hdb15n : ∀ k, ((ov19) : Value).ownBlock = some k → k ≠ b15 := fun k hk => by
     rcases hloc with h9 | h9
     ·exact hdb15 k (by rw [← h9]; exact hk)
     ·rw [h9] at hk; cases hk; have := lt_of_blk hb15; omega
    have hs1 := srcAt.fr hs1 f1 (fun r hr => (fun e => by have := (hO.lt e).1; (try have := hdb15 _ e); (try simp only at e); omega))
    have hBs := Nat.le_trans hBs f1.size
    have hb15 := f1.obj hb15 (fun e => by have := (hO.lt e).1; (try have := hdb15 _ e); (try simp only at e); omega)
    have hf := hf.trans' f1 (fun r hr => (fun e => by have := (hO.lt e).1; (try have := hdb15 _ e); (try simp only at e); omega))
    clear f1
    replace hO := hO2
    clear hloc
    replace hdb15 := hdb15n
    refine env_set (d := 3) (v := ov19) E rfl (by decide) (wanted_none rfl _) (run_assign rfl (E.get 0 rfl)) fun a E => ?_
    refine wpList_nil ?_
    refine blk_n ?_
    refine then_n ?_
    refine wp_region_lit ?_
    refine ep (v := .int .i64 ((i : Int) + 1)) E (run_iadd Tryz.underlying3 (E.get 13 rfl) rfl (by omega) (by omega) rfl) fun a E => ?_
    refine env_set (d := 11) (v := .int .i64 ((i : Int) + 1)) E rfl (by decide) (wanted_none rfl _) (run_move rfl (E.get 0 rfl)) fun a E => ?_
    refine wpList_nil ?_
    refine then_n ?_
    refine ⟨⟨i + 1, ov19, E.of ⟨E.get 0 rfl, E.get 15 rfl, E.get 16 rfl, E.get 2 rfl, trivial⟩, hlt, ?_, hs1, hf, hBs⟩, ?_⟩
    ·rw [unite_take hy]
     rw [hA0] at hO ⊢
     exact hO
    ·rw [E.get 0 rfl]; simp only [intOf]; omega
  | true =>
   have hne0 : unite (L'.take i) ≠ [] := by intro e9; have := of_decide_eq_true hq16; rw [e9] at this; simp at this
   obtain ⟨A, q, hA⟩ : ∃ A q, unite (L'.take i) = A ++ [q] := ⟨_, _, (List.dropLast_concat_getLast hne0).symm⟩
   have hO9 := hO
   rw [hA] at hO9
   obtain ⟨go, cpo9, hdv, hob, hc12, hrowq, hO2, f2⟩ := oSp.setTo hO9 (max q.2 y.2)
   have hAl : ((unite (L'.take i)).length : Int) - 1 = ((A.length : Nat) : Int) := by rw [hA, List.length_append, List.length_singleton]; omega
   have hAlt : A.length < (unite (L'.take i)).length := by rw [hA, List.length_append, List.length_singleton]; omega
   have hpo : po = some ⟨go, 0, none⟩ ∧ cpo = cpo9 := by injection hdv with h1 h2 h3; exact ⟨h1, h3⟩
   obtain ⟨hpo, rfl⟩ := hpo
   subst hpo
   have hgo := (hO9.lt hob).1
   refine wp_region_invg (n := 50) (base := [(6, .int .i64 ((unite (L'.take i)).length : Int)), (16, .int .i64 ((unite (L'.take i)).length : Int)), (15, .slice (some ⟨go, 0, none⟩) (unite (L'.take i)).length cpo), (5, .pointer (some ⟨b15, 0, none⟩)), (14, .agg (spA y)), (13, .pointer (some ⟨g14, (off14 + i * 2), none⟩)), (12, .bool true), (11, .int .i64 (i : Int)), (10, .int .i64 (L'.length : Int)), (9, .slice (p1) L'.length cp1), (3, .slice (some ⟨go, 0, none⟩) (unite (L'.take i)).length cpo)]) (T := [some (17, .int .i64 ((unite (L'.take i)).length : Int)), some (18, .bool true), some (19, .bool true), some (20, .pointer (some ⟨b15, 0, none⟩)), some (21, .int .i64 y.1), some (22, .slice (some ⟨go, 0, none⟩) (unite (L'.take i)).length cpo), some (23, .int .i64 ((unite (L'.take i)).length : Int)), some (24, .int .i64 (((unite (L'.take i)).length : Int) - 1)), some (25, .pointer (some ⟨go, (0 + A.length * 2), none⟩)), some (26, .pointer (some ⟨go, ((0 + A.length * 2) + 1), none⟩)), some (27, .int .i64 q.2), some (28, .bool (decide (y.1 ≤ q.2))), some (29, .bool (decide (y.1 ≤ q.2)))]) (M := fun _ wm => Fr (fun _ => False) w1 wm) (by kernel_rfl) (by kernel_rfl) (by kernel_rfl) (E.of ⟨E.get 0 rfl, E.get 1 rfl, E.get 2 rfl, E.get 3 rfl, E.get 4 rfl, E.get 5 rfl, E.get 6 rfl, E.get 7 rfl, E.get 8 rfl, E.get 9 rfl, E.get 10 rfl, trivial⟩) (Fr.refl _ _).drew ?_ ?_
   ·intro j9 o9 t9 ls9 a w5 ho hT0 hl E D DL hM
    have hs1 := srcAt.fr hs1 hM (fun r hr => id)
    have hO := ow.fr hO hM (fun _ _ h => h)
    have hBs := Nat.le_trans hBs hM.size
    have hrow14 := fun j u hu => hM.cell (hrow14 j u hu) id
    have hb15 := hM.obj hb15 id
    have hrowq := fun j u hu => hM.cell (hrowq j u hu) id
    match j9, ho, hT0, hl, D, DL with
    | 0, ho, hT0, hl, D, DL =>
     obtain rfl := Option.some.inj ho
     obtain rfl := Option.some.inj hT0
     clear ho hT0
     exact ⟨fun _ => val_wp (run_move rfl (E.get 0 rfl)) rfl hM, fun h => by rw [wanted_none rfl] at h; cases h⟩
    | 1, ho, hT0, hl, D, DL =>
     obtain rfl := Option.some.inj ho
     obtain rfl := Option.some.inj hT0
     clear ho hT0
     exact ⟨fun _ => val_wp ((run_igtr (D 0 _ rfl rfl) rfl Tryz.underlying3 rfl).trans (by rw [hq16] <;> rfl)) rfl hM, fun h => by rw [wanted_none rfl] at h; cases h⟩
    | 2, ho, hT0, hl, D, DL =>
     obtain rfl := Option.some.inj ho
     obtain rfl := Option.some.inj hT0
     clear ho hT0
     exact ⟨fun _ => val_wp (run_move rfl (D 1 _ rfl rfl)) rfl hM, fun h => by rw [wanted_none rfl] at h; cases h⟩
    | 3, ho, hT0, hl, D, DL =>
     obtain rfl := Option.some.inj ho
     obtain rfl := Option.some.inj hT0
     clear ho hT0
     exact ⟨fun _ => val_wp (fa48_0 rfl (E.get 3 rfl)) rfl hM, fun h => by rw [w_yes (g := 2) (s := 19) (b := true) E rfl rfl (by decide) (D 2 _ rfl rfl)] at h; cases h⟩
    | 4, ho, hT0, hl, D, DL =>
     obtain rfl := Option.some.inj ho
     obtain rfl := Option.some.inj hT0
     clear ho hT0
     exact ⟨fun _ => val_wp (run_ldi rfl (D 3 _ rfl rfl) (bx hb15 0 rfl)) rfl hM, fun h => by rw [w_yes (g := 2) (s := 19) (b := true) E rfl rfl (by decide) (D 2 _ rfl rfl)] at h; cases h⟩
    | 5, ho, hT0, hl, D, DL =>
     obtain rfl := Option.some.inj ho
     obtain rfl := Option.some.inj hT0
     clear ho hT0
     exact ⟨fun _ => val_wp (run_move rfl (E.get 10 rfl)) rfl hM, fun h => by rw [w_yes (g := 2) (s := 19) (b := true) E rfl rfl (by decide) (D 2 _ rfl rfl)] at h; cases h⟩
    | 6, ho, hT0, hl, D, DL =>
     obtain rfl := Option.some.inj ho
     obtain rfl := Option.some.inj hT0
     clear ho hT0
     exact ⟨fun _ => val_wp (run_move rfl (E.get 0 rfl)) rfl hM, fun h => by rw [w_yes (g := 2) (s := 19) (b := true) E rfl rfl (by decide) (D 2 _ rfl rfl)] at h; cases h⟩
    | 7, ho, hT0, hl, D, DL =>
     obtain rfl := Option.some.inj ho
     obtain rfl := Option.some.inj hT0
     clear ho hT0
     exact ⟨fun _ => val_wp (run_isub Tryz.underlying3 (D 6 _ rfl rfl) rfl (by omega) (by omega) rfl) rfl hM, fun h => by rw [w_yes (g := 2) (s := 19) (b := true) E rfl rfl (by decide) (D 2 _ rfl rfl)] at h; cases h⟩
    | 8, ho, hT0, hl, D, DL =>
     obtain rfl := Option.some.inj ho
     obtain rfl := Option.some.inj hT0
     clear ho hT0
     exact ⟨fun _ => val_wp (run_index22 (i := A.length) rfl (D 5 _ rfl rfl) ((D 7 _ rfl rfl).trans (by rw [hAl])) hAlt) rfl hM, fun h => by rw [w_yes (g := 2) (s := 19) (b := true) E rfl rfl (by decide) (D 2 _ rfl rfl)] at h; cases h⟩
    | 9, ho, hT0, hl, D, DL =>
     obtain rfl := Option.some.inj ho
     obtain rfl := Option.some.inj hT0
     clear ho hT0
     exact ⟨fun _ => val_wp (fa48_1 rfl (D 8 _ rfl rfl)) rfl hM, fun h => by rw [w_yes (g := 2) (s := 19) (b := true) E rfl rfl (by decide) (D 2 _ rfl rfl)] at h; cases h⟩
    | 10, ho, hT0, hl, D, DL =>
     obtain rfl := Option.some.inj ho
     obtain rfl := Option.some.inj hT0
     clear ho hT0
     exact ⟨fun _ => val_wp (run_ldi rfl (D 9 _ rfl rfl) (hrowq 1 _ rfl)) rfl hM, fun h => by rw [w_yes (g := 2) (s := 19) (b := true) E rfl rfl (by decide) (D 2 _ rfl rfl)] at h; cases h⟩
    | 11, ho, hT0, hl, D, DL =>
     obtain rfl := Option.some.inj ho
     obtain rfl := Option.some.inj hT0
     clear ho hT0
     exact ⟨fun _ => val_wp (run_ileq (D 4 _ rfl rfl) (D 10 _ rfl rfl) Tryz.underlying3 rfl) rfl hM, fun h => by rw [w_yes (g := 2) (s := 19) (b := true) E rfl rfl (by decide) (D 2 _ rfl rfl)] at h; cases h⟩
    | 12, ho, hT0, hl, D, DL =>
     obtain rfl := Option.some.inj ho
     obtain rfl := Option.some.inj hT0
     clear ho hT0
     exact ⟨fun _ => val_wp (run_pick_t rfl (D 2 _ rfl rfl) (D 11 _ rfl rfl)) rfl hM, fun h => by rw [wanted_none rfl] at h; cases h⟩
    | j9 + 13, ho, hT0, hl, D, DL => exact absurd hT0 (by simp)
   ·intro a w5 E V hM
    have E := E.add (V 12 _ rfl)
    clear V
    have hs1 := srcAt.fr hs1 hM (fun r hr => id)
    have hO := ow.fr hO hM (fun _ _ => id)
    have hBs := Nat.le_trans hBs hM.size
    have hrow14 := fun j u hu => hM.cell (hrow14 j u hu) id
    have hb15 := hM.obj hb15 id
    have hrowq := fun j u hu => hM.cell (hrowq j u hu) id
    have hf := hf.trans' hM (fun _ _ h => h.elim)
    clear hM
    refine then_n ?_
    cases hq21 : (decide (y.1 ≤ q.2)) with
    | false =>
     rw [hq21] at E
     have hle9 : ¬ y.1 ≤ q.2 := of_decide_eq_false hq21
     refine wp_cond_false (E.get 0 rfl) ?_
     refine wp_skip ?_
     refine then_n ?_
     refine wp_region_lit ?_
     refine ep (v := .slice (some ⟨go, 0, none⟩) (unite (L'.take i)).length cpo) E (run_move rfl (E.get 11 rfl)) fun a E => ?_
     refine ep (v := .agg (spA y)) E (run_ld48 rfl (E.get 5 rfl) (rng2 (p := y) hb15 0 rfl rfl)) fun a E => ?_
     refine env_one22 (d := 46) E rfl (by decide) rfl (wanted_none rfl _) rfl (E.get 0 rfl) fun a w1 b22 eb22 hbb22 f1 E => ?_
     have hs1 := srcAt.fr hs1 f1 (fun r hr => id)
     have hO := ow.fr hO f1 (fun _ _ => id)
     have hBs := Nat.le_trans hBs f1.size
     have hrow14 := fun j u hu => f1.cell (hrow14 j u hu) id
     have hb15 := f1.obj hb15 id
     have hf := hf.trans' f1 (fun _ _ h => h.elim)
     clear f1
     have hsb22 := src_one (f := spL) (c := 2) (G := w1.heap.size) hbb22 (lt_of_blk hbb22)
     clear hbb22 eb22
     refine env_app22 (d := 47) E rfl (by decide) rfl rfl rfl (E.get 2 rfl) hO (E.get 0 rfl) hsb22 (fun h => by cases h) (by simp only [List.length_cons, List.length_nil]; omega) hBs fun a w1 ov23 hO2 f1 hloc E => ?_
     have hdb15n : ∀ k, ((ov23) : Value).ownBlock = some k → k ≠ b15 := fun k hk => by
      rcases hloc with h9 | h9
      ·exact hdb15 k (by rw [← h9]; exact hk)
      ·rw [h9] at hk; cases hk; have := lt_of_blk hb15; omega
     have hs1 := srcAt.fr hs1 f1 (fun r hr => (fun e => by have := (hO.lt e).1; (try have := hdb15 _ e); (try simp only at e); omega))
     have hBs := Nat.le_trans hBs f1.size
     have hb15 := f1.obj hb15 (fun e => by have := (hO.lt e).1; (try have := hdb15 _ e); (try simp only at e); omega)
     have hf := hf.trans' f1 (fun r hr => (fun e => by have := (hO.lt e).1; (try have := hdb15 _ e); (try simp only at e); omega))
     clear f1
     replace hO := hO2
     clear hloc
     replace hdb15 := hdb15n
     refine env_set (d := 3) (v := ov23) E rfl (by decide) (wanted_none rfl _) (run_assign rfl (E.get 0 rfl)) fun a E => ?_
     refine wpList_nil ?_
     refine blk_n ?_
     refine then_n ?_
     refine wp_region_lit ?_
     refine ep (v := .int .i64 ((i : Int) + 1)) E (run_iadd Tryz.underlying3 (E.get 13 rfl) rfl (by omega) (by omega) rfl) fun a E => ?_
     refine env_set (d := 11) (v := .int .i64 ((i : Int) + 1)) E rfl (by decide) (wanted_none rfl _) (run_move rfl (E.get 0 rfl)) fun a E => ?_
     refine wpList_nil ?_
     refine then_n ?_
     refine ⟨⟨i + 1, ov23, E.of ⟨E.get 0 rfl, E.get 15 rfl, E.get 16 rfl, E.get 2 rfl, trivial⟩, hlt, ?_, hs1, hf, hBs⟩, ?_⟩
     ·rw [unite_take hy]
      rw [hA] at hO ⊢
      rw [ustep_new hle9]
      exact hO
     ·rw [E.get 0 rfl]; simp only [intOf]; omega
    | true =>
     rw [hq21] at E
     have hle9 : y.1 ≤ q.2 := of_decide_eq_true hq21
     refine wp_cond_true (E.get 0 rfl) ?_
     refine wp_seq ?_
     refine wp_region_invx (G := Unit) () (n := 50) (base := [(29, .bool true), (6, .int .i64 ((unite (L'.take i)).length : Int)), (16, .int .i64 ((unite (L'.take i)).length : Int)), (15, .slice (some ⟨go, 0, none⟩) (unite (L'.take i)).length cpo), (5, .pointer (some ⟨b15, 0, none⟩)), (14, .agg (spA y)), (13, .pointer (some ⟨g14, (off14 + i * 2), none⟩)), (12, .bool true), (11, .int .i64 (i : Int)), (10, .int .i64 (L'.length : Int)), (9, .slice (p1) L'.length cp1), (3, .slice (some ⟨go, 0, none⟩) (unite (L'.take i)).length cpo)]) (U := []) (T := fun γ => [some (30, .slice (some ⟨go, 0, none⟩) (unite (L'.take i)).length cpo), some (31, .int .i64 ((unite (L'.take i)).length : Int)), some (32, .int .i64 (((unite (L'.take i)).length : Int) - 1)), some (33, .slice (some ⟨go, 0, none⟩) (unite (L'.take i)).length cpo), some (34, .int .i64 ((unite (L'.take i)).length : Int)), some (35, .int .i64 (((unite (L'.take i)).length : Int) - 1)), some (36, .pointer (some ⟨go, (0 + A.length * 2), none⟩)), some (37, .pointer (some ⟨go, ((0 + A.length * 2) + 1), none⟩)), some (38, .int .i64 q.2), some (39, .pointer (some ⟨b15, 1, none⟩)), some (40, .int .i64 y.2), some (41, .int .i64 (max q.2 y.2)), some (42, .pointer (some ⟨go, (0 + A.length * 2), none⟩)), some (43, .pointer (some ⟨go, ((0 + A.length * 2) + 1), none⟩)), none]) (M := fun γ ls9 wm => (ls9 14 = false → Fr (fun _ => False) w5 wm) ∧ (ls9 14 = true → oSp wm B (.slice (some ⟨go, 0, none⟩) (unite (L'.take i)).length cpo) (A ++ [(q.1, max q.2 y.2)]) ∧ Fr (fun r => r = go) w5 wm)) (by kernel_rfl) (by kernel_rfl) (fun _ => by kernel_rfl) (E.of ⟨E.get 0 rfl, E.get 1 rfl, E.get 2 rfl, E.get 3 rfl, E.get 4 rfl, E.get 5 rfl, E.get 6 rfl, E.get 7 rfl, E.get 8 rfl, E.get 9 rfl, E.get 10 rfl, E.get 11 rfl, trivial⟩) (fun x hx => by cases hx) ⟨fun _ => (Fr.refl _ _).drew, fun h => absurd h Bool.false_ne_true⟩ ?_ ?_
     ·intro j9 o9 γ ls9 a w5 ho hl E D DL DL2 hB hM
      match j9, ho, hl, D, DL, hB with
      | 0, ho, hl, D, DL, hB =>
       obtain rfl := Option.some.inj ho
       clear ho
       have h7 : ls9 14 = false := by
        cases h9 : ls9 14 with
        | false => rfl
        | true => exact absurd (hl.symm.trans (DL2 12 0 rfl (DL2 13 12 rfl (DL2 14 13 rfl h9)))) (by decide)
       have hM1 := hM.1 h7
       have hs1 := srcAt.fr hs1 hM1 (fun r hr => id)
       have hBs := Nat.le_trans hBs hM1.size
       have hrow14 := fun j u hu => hM1.cell (hrow14 j u hu) id
       have hb15 := hM1.obj hb15 id
       have hrowq := fun j u hu => hM1.cell (hrowq j u hu) id
       exact ⟨fun _ => valx rfl (run_move rfl (E.get 11 rfl)) rfl ⟨fun _ => hM1, fun h => absurd (h7.symm.trans h) (by decide)⟩, fun h => by rw [wanted_none rfl] at h; cases h⟩
      | 1, ho, hl, D, DL, hB =>
       obtain rfl := Option.some.inj ho
       clear ho
       have h7 : ls9 14 = false := by
        cases h9 : ls9 14 with
        | false => rfl
        | true => exact absurd (hl.symm.trans (DL2 2 1 rfl (DL2 12 2 rfl (DL2 13 12 rfl (DL2 14 13 rfl h9))))) (by decide)
       have hM1 := hM.1 h7
       have hs1 := srcAt.fr hs1 hM1 (fun r hr => id)
       have hBs := Nat.le_trans hBs hM1.size
       have hrow14 := fun j u hu => hM1.cell (hrow14 j u hu) id
       have hb15 := hM1.obj hb15 id
       have hrowq := fun j u hu => hM1.cell (hrowq j u hu) id
       exact ⟨fun _ => valx rfl (run_move rfl (E.get 1 rfl)) rfl ⟨fun _ => hM1, fun h => absurd (h7.symm.trans h) (by decide)⟩, fun h => by rw [wanted_none rfl] at h; cases h⟩
      | 2, ho, hl, D, DL, hB =>
       obtain rfl := Option.some.inj ho
       clear ho
       have h7 : ls9 14 = false := by
        cases h9 : ls9 14 with
        | false => rfl
        | true => exact absurd (hl.symm.trans (DL2 12 2 rfl (DL2 13 12 rfl (DL2 14 13 rfl h9)))) (by decide)
       have hM1 := hM.1 h7
       have hs1 := srcAt.fr hs1 hM1 (fun r hr => id)
       have hBs := Nat.le_trans hBs hM1.size
       have hrow14 := fun j u hu => hM1.cell (hrow14 j u hu) id
       have hb15 := hM1.obj hb15 id
       have hrowq := fun j u hu => hM1.cell (hrowq j u hu) id
       exact ⟨fun _ => valx rfl (run_isub Tryz.underlying3 (D 1 _ rfl rfl) rfl (by omega) (by omega) rfl) rfl ⟨fun _ => hM1, fun h => absurd (h7.symm.trans h) (by decide)⟩, fun h => by rw [wanted_none rfl] at h; cases h⟩
      | 3, ho, hl, D, DL, hB =>
       obtain rfl := Option.some.inj ho
       clear ho
       have h7 : ls9 14 = false := by
        cases h9 : ls9 14 with
        | false => rfl
        | true => exact absurd (hl.symm.trans (DL2 6 3 rfl (DL2 7 6 rfl (DL2 8 7 rfl (DL2 11 8 rfl (DL2 14 11 rfl h9)))))) (by decide)
       have hM1 := hM.1 h7
       have hs1 := srcAt.fr hs1 hM1 (fun r hr => id)
       have hBs := Nat.le_trans hBs hM1.size
       have hrow14 := fun j u hu => hM1.cell (hrow14 j u hu) id
       have hb15 := hM1.obj hb15 id
       have hrowq := fun j u hu => hM1.cell (hrowq j u hu) id
       exact ⟨fun _ => valx rfl (run_move rfl (E.get 11 rfl)) rfl ⟨fun _ => hM1, fun h => absurd (h7.symm.trans h) (by decide)⟩, fun h => by rw [wanted_none rfl] at h; cases h⟩
      | 4, ho, hl, D, DL, hB =>
       obtain rfl := Option.some.inj ho
       clear ho
       have h7 : ls9 14 = false := by
        cases h9 : ls9 14 with
        | false => rfl
        | true => exact absurd (hl.symm.trans (DL2 5 4 rfl (DL2 6 5 rfl (DL2 7 6 rfl (DL2 8 7 rfl (DL2 11 8 rfl (DL2 14 11 rfl h9))))))) (by decide)
       have hM1 := hM.1 h7
       have hs1 := srcAt.fr hs1 hM1 (fun r hr => id)
       have hBs := Nat.le_trans hBs hM1.size
       have hrow14 := fun j u hu => hM1.cell (hrow14 j u hu) id
       have hb15 := hM1.obj hb15 id
       have hrowq := fun j u hu => hM1.cell (hrowq j u hu) id
       exact ⟨fun _ => valx rfl (run_move rfl (E.get 1 rfl)) rfl ⟨fun _ => hM1, fun h => absurd (h7.symm.trans h) (by decide)⟩, fun h => by rw [wanted_none rfl] at h; cases h⟩
      | 5, ho, hl, D, DL, hB =>
       obtain rfl := Option.some.inj ho
       clear ho
       have h7 : ls9 14 = false := by
        cases h9 : ls9 14 with
        | false => rfl
        | true => exact absurd (hl.symm.trans (DL2 6 5 rfl (DL2 7 6 rfl (DL2 8 7 rfl (DL2 11 8 rfl (DL2 14 11 rfl h9)))))) (by decide)
       have hM1 := hM.1 h7
       have hs1 := srcAt.fr hs1 hM1 (fun r hr => id)
       have hBs := Nat.le_trans hBs hM1.size
       have hrow14 := fun j u hu => hM1.cell (hrow14 j u hu) id
       have hb15 := hM1.obj hb15 id
       have hrowq := fun j u hu => hM1.cell (hrowq j u hu) id
       exact ⟨fun _ => valx rfl (run_isub Tryz.underlying3 (D 4 _ rfl rfl) rfl (by omega) (by omega) rfl) rfl ⟨fun _ => hM1, fun h => absurd (h7.symm.trans h) (by decide)⟩, fun h => by rw [wanted_none rfl] at h; cases h⟩
      | 6, ho, hl, D, DL, hB =>
       obtain rfl := Option.some.inj ho
       clear ho
       have h7 : ls9 14 = false := by
        cases h9 : ls9 14 with
        | false => rfl
        | true => exact absurd (hl.symm.trans (DL2 7 6 rfl (DL2 8 7 rfl (DL2 11 8 rfl (DL2 14 11 rfl h9))))) (by decide)
       have hM1 := hM.1 h7
       have hs1 := srcAt.fr hs1 hM1 (fun r hr => id)
       have hBs := Nat.le_trans hBs hM1.size
       have hrow14 := fun j u hu => hM1.cell (hrow14 j u hu) id
       have hb15 := hM1.obj hb15 id
       have hrowq := fun j u hu => hM1.cell (hrowq j u hu) id
       exact ⟨fun _ => valx rfl (run_index22 (i := A.length) rfl (D 3 _ rfl rfl) ((D 5 _ rfl rfl).trans (by rw [hAl])) hAlt) rfl ⟨fun _ => hM1, fun h => absurd (h7.symm.trans h) (by decide)⟩, fun h => by rw [wanted_none rfl] at h; cases h⟩
      | 7, ho, hl, D, DL, hB =>
       obtain rfl := Option.some.inj ho
       clear ho
       have h7 : ls9 14 = false := by
        cases h9 : ls9 14 with
        | false => rfl
        | true => exact absurd (hl.symm.trans (DL2 8 7 rfl (DL2 11 8 rfl (DL2 14 11 rfl h9)))) (by decide)
       have hM1 := hM.1 h7
       have hs1 := srcAt.fr hs1 hM1 (fun r hr => id)
       have hBs := Nat.le_trans hBs hM1.size
       have hrow14 := fun j u hu => hM1.cell (hrow14 j u hu) id
       have hb15 := hM1.obj hb15 id
       have hrowq := fun j u hu => hM1.cell (hrowq j u hu) id
       exact ⟨fun _ => valx rfl (fa48_1 rfl (D 6 _ rfl rfl)) rfl ⟨fun _ => hM1, fun h => absurd (h7.symm.trans h) (by decide)⟩, fun h => by rw [wanted_none rfl] at h; cases h⟩
      | 8, ho, hl, D, DL, hB =>
       obtain rfl := Option.some.inj ho
       clear ho
       have h7 : ls9 14 = false := by
        cases h9 : ls9 14 with
        | false => rfl
        | true => exact absurd (hl.symm.trans (DL2 11 8 rfl (DL2 14 11 rfl h9))) (by decide)
       have hM1 := hM.1 h7
       have hs1 := srcAt.fr hs1 hM1 (fun r hr => id)
       have hBs := Nat.le_trans hBs hM1.size
       have hrow14 := fun j u hu => hM1.cell (hrow14 j u hu) id
       have hb15 := hM1.obj hb15 id
       have hrowq := fun j u hu => hM1.cell (hrowq j u hu) id
       exact ⟨fun _ => valx rfl (run_ldi rfl (D 7 _ rfl rfl) (hrowq 1 _ rfl)) rfl ⟨fun _ => hM1, fun h => absurd (h7.symm.trans h) (by decide)⟩, fun h => by rw [wanted_none rfl] at h; cases h⟩
      | 9, ho, hl, D, DL, hB =>
       obtain rfl := Option.some.inj ho
       clear ho
       have h7 : ls9 14 = false := by
        cases h9 : ls9 14 with
        | false => rfl
        | true => exact absurd (hl.symm.trans (DL2 10 9 rfl (DL2 11 10 rfl (DL2 14 11 rfl h9)))) (by decide)
       have hM1 := hM.1 h7
       have hs1 := srcAt.fr hs1 hM1 (fun r hr => id)
       have hBs := Nat.le_trans hBs hM1.size
       have hrow14 := fun j u hu => hM1.cell (hrow14 j u hu) id
       have hb15 := hM1.obj hb15 id
       have hrowq := fun j u hu => hM1.cell (hrowq j u hu) id
       exact ⟨fun _ => valx rfl (fa48_1 rfl (E.get 4 rfl)) rfl ⟨fun _ => hM1, fun h => absurd (h7.symm.trans h) (by decide)⟩, fun h => by rw [wanted_none rfl] at h; cases h⟩
      | 10, ho, hl, D, DL, hB =>
       obtain rfl := Option.some.inj ho
       clear ho
       have h7 : ls9 14 = false := by
        cases h9 : ls9 14 with
        | false => rfl
        | true => exact absurd (hl.symm.trans (DL2 11 10 rfl (DL2 14 11 rfl h9))) (by decide)
       have hM1 := hM.1 h7
       have hs1 := srcAt.fr hs1 hM1 (fun r hr => id)
       have hBs := Nat.le_trans hBs hM1.size
       have hrow14 := fun j u hu => hM1.cell (hrow14 j u hu) id
       have hb15 := hM1.obj hb15 id
       have hrowq := fun j u hu => hM1.cell (hrowq j u hu) id
       exact ⟨fun _ => valx rfl (run_ldi rfl (D 9 _ rfl rfl) (bx hb15 1 rfl)) rfl ⟨fun _ => hM1, fun h => absurd (h7.symm.trans h) (by decide)⟩, fun h => by rw [wanted_none rfl] at h; cases h⟩
      | 11, ho, hl, D, DL, hB =>
       obtain rfl := Option.some.inj ho
       clear ho
       have h7 : ls9 14 = false := by
        cases h9 : ls9 14 with
        | false => rfl
        | true => exact absurd (hl.symm.trans (DL2 14 11 rfl h9)) (by decide)
       have hM1 := hM.1 h7
       have hs1 := srcAt.fr hs1 hM1 (fun r hr => id)
       have hBs := Nat.le_trans hBs hM1.size
       have hrow14 := fun j u hu => hM1.cell (hrow14 j u hu) id
       have hb15 := hM1.obj hb15 id
       have hrowq := fun j u hu => hM1.cell (hrowq j u hu) id
       exact ⟨fun _ => valx rfl (run_max rfl (D 8 _ rfl rfl) (D 10 _ rfl rfl)) rfl ⟨fun _ => hM1, fun h => absurd (h7.symm.trans h) (by decide)⟩, fun h => by rw [wanted_none rfl] at h; cases h⟩
      | 12, ho, hl, D, DL, hB =>
       obtain rfl := Option.some.inj ho
       clear ho
       have h7 : ls9 14 = false := by
        cases h9 : ls9 14 with
        | false => rfl
        | true => exact absurd (hl.symm.trans (DL2 13 12 rfl (DL2 14 13 rfl h9))) (by decide)
       have hM1 := hM.1 h7
       have hs1 := srcAt.fr hs1 hM1 (fun r hr => id)
       have hBs := Nat.le_trans hBs hM1.size
       have hrow14 := fun j u hu => hM1.cell (hrow14 j u hu) id
       have hb15 := hM1.obj hb15 id
       have hrowq := fun j u hu => hM1.cell (hrowq j u hu) id
       exact ⟨fun _ => valx rfl (run_index22 (i := A.length) rfl (D 0 _ rfl rfl) ((D 2 _ rfl rfl).trans (by rw [hAl])) hAlt) rfl ⟨fun _ => hM1, fun h => absurd (h7.symm.trans h) (by decide)⟩, fun h => by rw [wanted_none rfl] at h; cases h⟩
      | 13, ho, hl, D, DL, hB =>
       obtain rfl := Option.some.inj ho
       clear ho
       have h7 : ls9 14 = false := by
        cases h9 : ls9 14 with
        | false => rfl
        | true => exact absurd (hl.symm.trans (DL2 14 13 rfl h9)) (by decide)
       have hM1 := hM.1 h7
       have hs1 := srcAt.fr hs1 hM1 (fun r hr => id)
       have hBs := Nat.le_trans hBs hM1.size
       have hrow14 := fun j u hu => hM1.cell (hrow14 j u hu) id
       have hb15 := hM1.obj hb15 id
       have hrowq := fun j u hu => hM1.cell (hrowq j u hu) id
       exact ⟨fun _ => valx rfl (fa48_1 rfl (D 12 _ rfl rfl)) rfl ⟨fun _ => hM1, fun h => absurd (h7.symm.trans h) (by decide)⟩, fun h => by rw [wanted_none rfl] at h; cases h⟩
      | 14, ho, hl, D, DL, hB =>
       obtain rfl := Option.some.inj ho
       clear ho
       have hM1 := hM.1 hl
       have hs1 := srcAt.fr hs1 hM1 (fun r hr => id)
       have hBs := Nat.le_trans hBs hM1.size
       have hrow14 := fun j u hu => hM1.cell (hrow14 j u hu) id
       have hb15 := hM1.obj hb15 id
       have hrowq := fun j u hu => hM1.cell (hrowq j u hu) id
       have hO9 := hO.fr hM1 (fun _ _ h => h)
       rw [hA] at hO9
       obtain ⟨go9, cpo9, hdv9, hob9, ⟨c1, c2⟩, _, hO29, f29⟩ := oSp.setTo hO9 (max q.2 y.2)
       have hgg : go9 = go := by rw [hob] at hob9; exact (Option.some.inj hob9).symm
       subst hgg
       exact ⟨fun _ => storex rfl (run_st3 rfl (D 13 _ rfl rfl) (D 11 _ rfl rfl) c1 c2) rfl ⟨fun h => by simp at h, fun _ => ⟨by rw [hA]; exact hO29, ((hM1.mono (G := fun r => r = go9) (fun _ _ h => h.elim)).trans (f29.mono fun r _ hr => by rw [hob] at hr; exact (Option.some.inj hr).symm))⟩⟩, fun h => by rw [wanted_none rfl] at h; cases h⟩
      | j9 + 15, ho, hl, D, DL, hB => exact absurd ho (by simp)
     ·rintro _ a w5 E V hM
      clear V
      have hM := hM.2 rfl
      obtain ⟨hO3, f1⟩ := hM
      have hgbb15 := hdb15 go rfl
      clear hM hO hO9 hO2 f2 hrowq
      have hs1 := srcAt.fr hs1 f1 (fun r hr => (fun e => by (try simp only at e); omega))
      have hBs := Nat.le_trans hBs f1.size
      have hb15 := f1.obj hb15 (fun e => by (try simp only at e); omega)
      have hf := hf.trans' f1 (fun r hr => (fun e => by (try simp only at e); omega))
      clear f1
      have hO := hO3
      clear hO3
      refine then_n ?_
      refine wp_exit ?_
      refine then_e ?_
      refine blk_e ?_
      refine then_n ?_
      refine wp_region_lit ?_
      refine ep (v := .int .i64 ((i : Int) + 1)) E (run_iadd Tryz.underlying3 (E.get 8 rfl) rfl (by omega) (by omega) rfl) fun a E => ?_
      refine env_set (d := 11) (v := .int .i64 ((i : Int) + 1)) E rfl (by decide) (wanted_none rfl _) (run_move rfl (E.get 0 rfl)) fun a E => ?_
      refine wpList_nil ?_
      refine then_n ?_
      refine ⟨⟨i + 1, .slice (some ⟨go, 0, none⟩) (unite (L'.take i)).length cpo, E.of ⟨E.get 0 rfl, E.get 10 rfl, E.get 11 rfl, E.get 12 rfl, trivial⟩, hlt, ?_, hs1, hf, hBs⟩, ?_⟩
      ·rw [unite_take hy]
       rw [show ustep (unite (L'.take i)) y = A ++ [(q.1, max q.2 y.2)] by rw [hA, ustep_ext hle9]]
       exact hO
      ·rw [E.get 0 rfl]; simp only [intOf]; omega
end Go.Proofs.YtjaffpnegdcjnaaGreatDoor
