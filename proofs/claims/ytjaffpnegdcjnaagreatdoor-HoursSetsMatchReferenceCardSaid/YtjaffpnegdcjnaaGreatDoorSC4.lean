/- The reader: a text. -/
import Derived.Test.YtjaffpnegdcjnaaGreatDoorSC3
set_option linter.unusedVariables false
set_option linter.unusedSimpArgs false
namespace Go.Proofs.YtjaffpnegdcjnaaGreatDoor
open Go.RowKit Go.Pl
section
variable {α : Type} {en : α}
def partsT (en : α) (l : List (Tok α)) : Res α (List Sp × List (Tok α)) := parts en (l.length + 1) l
def cont (en : α) (acc : List Sp) (l : List (Tok α)) : Res α (List Sp × List (Tok α)) := if sees 4 [cComma] l = true then pre acc (partsT en (l.drop 1)) else .ok (acc, l)
theorem partsT_err {l : List (Tok α)} {e : Int × α} (h : part en l = .error e) : partsT en l = .error e := by
 unfold partsT parts; rw [h]
theorem partsT_ok {l l2 : List (Tok α)} {s : List Sp} (h : part en l = .ok (s, l2)) : partsT en l = cont en s l2 := by
 have hl := part_len h
 unfold partsT parts cont
 rw [h]
 simp only
 split
 ·rename_i hs
  have hne : l2 ≠ [] := by rintro rfl; cases hs
  have hl2 : 0 < l2.length := List.length_pos_iff.2 hne
  unfold partsT
  rw [parts_fuel l.length ((l2.drop 1).length + 1) (l2.drop 1) (by simp; omega) (by simp)]
  cases parts en ((l2.drop 1).length + 1) (l2.drop 1) <;> rfl
 ·rfl
theorem cont_err {acc : List Sp} {l : List (Tok α)} {e : Int × α} (hs : sees 4 [cComma] l = true) (h : part en (l.drop 1) = .error e) : cont en acc l = .error e := by
 unfold cont; rw [if_pos hs, partsT_err h]; rfl
theorem cont_ok {acc s : List Sp} {l l2 : List (Tok α)} (hs : sees 4 [cComma] l = true) (h : part en (l.drop 1) = .ok (s, l2)) : cont en acc l = cont en (acc ++ s) l2 := by
 unfold cont
 rw [if_pos hs, partsT_ok h]
 unfold cont
 split
 ·cases partsT en (l2.drop 1) with
  | error e => rfl
  | ok r => simp [pre, List.append_assoc]
 ·rfl
theorem cont_end {acc : List Sp} {l : List (Tok α)} (hs : sees 4 [cComma] l = false) : cont en acc l = .ok (acc, l) := by
 unfold cont; rw [if_neg (by rw [hs]; simp)]
/-- All is read, or something is left. -/
def finS : Res α (List Sp × List (Tok α)) → Res α (List Sp × List (Tok α))
 | .error e => .error e
 | .ok (s, []) => .ok (s, [])
 | .ok (_, t :: _) => .error (5, t.2.2)
def textS (en : α) (ts : List (Tok α)) : Res α (List Sp × List (Tok α)) := finS (textQ en ts)
theorem textP_S (ts : List (Tok α)) : textP en ts = match textS en ts with | .error e => .error e | .ok (s, _) => .ok s := by
 unfold textP textS
 cases textQ en ts with
 | error e => rfl
 | ok r =>
  obtain ⟨s, l⟩ := r
  cases l <;> rfl
theorem textQ_parts {ts : List (Tok α)} (h1 : sees 1 [always] ts = false) (h2 : sees 1 [never] ts = false) : textQ en ts = partsT en ts := by
 unfold textQ; rw [h1, h2]; simp [partsT]
end
theorem dayL_len {f n a b : Int} (h : n ≤ 7) : (dayL f n a b).length ≤ 14 := by
 have h6 := dayP_len f a b n.toNat
 have h7 : dayL f n a b = dayP f a b n.toNat := rfl
 rw [h7]; omega
theorem part_cnt {en : Int} {ts l : List (Tok Int)} {s : List Sp} (hk : Tk ts) (h : part en ts = .ok (s, l)) : s.length + 14 * l.length ≤ 14 * ts.length ∧ l.length < ts.length := by
 have ht : ∀ {f t : Int} {ts l : List (Tok Int)} {s : List Sp}, 0 ≤ f → f < 7 → 0 ≤ t → t < 7 → time en f t ts = .ok (s, l) → s.length + 14 * l.length ≤ 14 * ts.length := by
  intro f t ts l s h1 h2 h3 h4 h
  have hl := time_ok h
  have : s.length ≤ 14 := by
   unfold time at h
   split at h
   ·cases h
   ·split at h
    ·cases h
    ·split at h
     ·cases h
     ·split at h
      ·cases h
      ·cases h
       exact dayL_len (by rw [day_n h1 h2 h3 h4]; omega)
  omega
 have hts : ∀ {f t : Int}, 0 ≤ f → f < 7 → 0 ≤ t → t < 7 → ∀ (n : Nat) {ts l : List (Tok Int)} {s : List Sp}, times en f t n ts = .ok (s, l) → s.length + 14 * l.length ≤ 14 * ts.length := by
  intro f t h1 h2 h3 h4 n
  induction n with
  | zero => intro ts l s h; cases h
  | succ n ih =>
   intro ts l s h
   unfold times at h
   split at h
   ·cases h
   ·rename_i s1 ts1 he
    have := ht h1 h2 h3 h4 he
    split at h
    ·split at h
     ·cases h
     ·rename_i s2 ts2 he2
      have h5 := ih he2
      cases h
      simp only [List.length_append, List.length_drop] at h5 ⊢
      omega
    ·cases h; exact this
 refine ⟨?_, part_len h⟩
 unfold part at h
 split at h
 ·cases h
 ·rename_i a b ts1 he
  obtain ⟨h1, h2, h3, h4, _⟩ := dys_tk hk he
  have := dys_len he
  have := hts h1 h2 h3 h4 _ h
  omega
theorem Tb.lt {w : World} (h : Tb w) : 4 ≤ w.heap.size := by
 have h1 := h.1
 unfold Lib.TabIs World.var? at h1
 have hg : Tryz.prog.globalNamed "internal/strconv.uint64pow10" = some 3 := by kernel_rfl
 rw [hg] at h1
 simp only [Option.bind_some] at h1
 cases hb : w.heap[3]? with
 | none => rw [hb] at h1; cases h1
 | some ob => exact lt_of_blk hb
set_option maxRecDepth 100000 in
set_option maxHeartbeats 4000000 in
theorem text_calls {w : World} {rb G B : Nat} {en : Int} {ts : List (Tok Int)} (hRO : RdO w rb G B en ts []) (hk : Tk ts) (hT : Tb w) (hr4 : 4 ≤ rb) (hl : 14 * ts.length ≤ 900000) : Calls Tryz.prog 33 #[.pointer (some ⟨rb, 0, none⟩)] w (StepO w rb G B en [] (textS en ts)) := by
 refine wp_start1 Tryz.func33 rfl rfl (n := 54) (by decide) fun a E => ?_
 have hRO0 := hRO
 obtain ⟨hrB, hBs, sv, hR, hO⟩ := hRO
 have hf : Fr (fun r => r = rb ∨ B ≤ r) w w := Fr.refl _ _
 have hrl := hR.lt
 refine wp_seq ?_
 refine wp_block ?_
 refine wp_seq ?_
 refine wp_region_lit ?_
 refine ep (v := .pointer (some ⟨rb, 0, none⟩)) E (run_move rfl (E.get 0 rfl)) fun a E => ?_
 refine ep (v := .pointer (some ⟨rb, 0, none⟩)) E (run_nilchk rfl (E.get 0 rfl)) fun a E => ?_
 refine ep (v := .pointer (some ⟨rb, 0, none⟩)) E (fa59_0 rfl (E.get 0 rfl)) fun a E => ?_
 refine env_one70 (d := 19) E rfl (by decide) rfl (wanted_none rfl _) rfl rfl fun a w1 b82 eb82 hbb82 f1 E => ?_
 have hR := Rd.fr hR f1 (fun r hr => id)
 have hO := ow.fr hO f1 (fun _ _ h => h)
 have hBs := Nat.le_trans hBs f1.size
 have hT := hT.fr f1 (fun r hr => id)
 have hf := hf.trans' f1 (fun _ _ h => h.elim)
 clear f1
 have hsb82 := src_one (f := stL) (c := 1) (G := w1.heap.size) hbb82 (lt_of_blk hbb82)
 clear hbb82 eb82
 refine env_call (d := 20) (v := .bool (sees 1 [always] ts)) E rfl (by decide) rfl (wanted_none rfl _) (run_call3 (enters_of Tryz.func55 (by kernel_rfl) rfl) rfl rfl (E.get 1 rfl) rfl (E.get 0 rfl)) (sees_calls (xs := [always]) hR ⟨_, 1, rfl, Nat.le_refl _, by omega, hsb82, fun h => by cases h⟩ 1) fun a w1 f1 E => ?_
 have hR := Rd.fr hR f1 (fun r hr => id)
 have hO := ow.fr hO f1 (fun _ _ h => h)
 have hBs := Nat.le_trans hBs f1.size
 have hT := hT.fr f1 (fun r hr => id)
 have hf := hf.trans' f1 (fun _ _ h => h.elim)
 clear f1
 refine ep (v := .bool (sees 1 [always] ts)) E (run_assign rfl (E.get 0 rfl)) fun a E => ?_
 refine wpList_nil ?_
 refine then_n ?_
 cases hq83 : (sees 1 [always] ts) with
 | false =>
  rw [hq83] at E
  refine wp_cond_false (E.get 0 rfl) ?_
  refine wp_seq ?_
  refine wp_region_lit ?_
  refine ep (v := .pointer (some ⟨rb, 0, none⟩)) E (run_move rfl (E.get 6 rfl)) fun a E => ?_
  refine ep (v := .pointer (some ⟨rb, 0, none⟩)) E (run_nilchk rfl (E.get 0 rfl)) fun a E => ?_
  refine ep (v := .pointer (some ⟨rb, 0, none⟩)) E (fa59_0 rfl (E.get 0 rfl)) fun a E => ?_
  refine env_one70 (d := 31) E rfl (by decide) rfl (wanted_none rfl _) rfl rfl fun a w1 b84 eb84 hbb84 f1 E => ?_
  have hR := Rd.fr hR f1 (fun r hr => id)
  have hO := ow.fr hO f1 (fun _ _ h => h)
  have hBs := Nat.le_trans hBs f1.size
  have hT := hT.fr f1 (fun r hr => id)
  have hf := hf.trans' f1 (fun _ _ h => h.elim)
  clear f1
  have hsb84 := src_one (f := stL) (c := 1) (G := w1.heap.size) hbb84 (lt_of_blk hbb84)
  clear hbb84 eb84
  refine env_call (d := 32) (v := .bool (sees 1 [never] ts)) E rfl (by decide) rfl (wanted_none rfl _) (run_call3 (enters_of Tryz.func55 (by kernel_rfl) rfl) rfl rfl (E.get 1 rfl) rfl (E.get 0 rfl)) (sees_calls (xs := [never]) hR ⟨_, 1, rfl, Nat.le_refl _, by omega, hsb84, fun h => by cases h⟩ 1) fun a w1 f1 E => ?_
  have hR := Rd.fr hR f1 (fun r hr => id)
  have hO := ow.fr hO f1 (fun _ _ h => h)
  have hBs := Nat.le_trans hBs f1.size
  have hT := hT.fr f1 (fun r hr => id)
  have hf := hf.trans' f1 (fun _ _ h => h.elim)
  clear f1
  refine ep (v := .bool (sees 1 [never] ts)) E (run_assign rfl (E.get 0 rfl)) fun a E => ?_
  refine wpList_nil ?_
  refine then_n ?_
  cases hq85 : (sees 1 [never] ts) with
  | false =>
   rw [hq85] at E
   refine wp_cond_false (E.get 0 rfl) ?_
   refine wp_seq ?_
   refine wp_region_lit ?_
   refine ep (v := .pointer (some ⟨rb, 0, none⟩)) E (run_move rfl (E.get 12 rfl)) fun a E => ?_
   rcases hpt86 : part en ts with ⟨c86, x86⟩ | ⟨s86, l86⟩
   ·skip
    refine env_callp (ch := pn c86 x86) (R := fun w8 => Fr (fun r => r = rb ∨ B ≤ r) w1 w8) (wanted_none rfl _) (run_call1 (enters_of Tryz.func58 (by kernel_rfl) rfl) rfl rfl (E.get 0 rfl)) ((part_calls (ss := []) ⟨hrB, hBs, _, hR, hO⟩ hk hT (by simp only [List.length_nil]; omega)).mono fun e w8 h => by unfold StepO at h; rw [hpt86] at h; exact ⟨h.2, h.1⟩) fun w1 f1 => ?_
    have hf := hf.trans f1
    refine then_p ?_
    refine blk_p ?_
    refine then_p ?_
    refine pan_end E ⟨hf, ?_⟩
    unfold textS
    rw [textQ_parts hq83 hq85, partsT_err hpt86]
    rfl
   refine env_callv (d := 3) (R := fun u w8 => u = .tuple #[] ∧ RdO w8 rb G B en l86 ([] ++ s86) ∧ Fr (fun r => r = rb ∨ B ≤ r) w1 w8) E rfl (by decide) rfl (wanted_none rfl _) (run_call1 (enters_of Tryz.func58 (by kernel_rfl) rfl) rfl rfl (E.get 0 rfl)) ((part_calls (ss := []) ⟨hrB, hBs, _, hR, hO⟩ hk hT (by simp only [List.length_nil]; omega)).mono fun e w8 h => by unfold StepO at h; rw [hpt86] at h; exact ⟨_, h.2.1, rfl, h.2.2, h.1⟩) fun a w1 u ⟨hu, hRO, f1⟩ E => ?_
   subst hu
   have hf := hf.trans f1
   have hT := hT.fr f1 (fun r hr e => by omega)
   clear hR hO hBs f1
   obtain ⟨_, hBs, sv86, hR, hO⟩ := hRO
   have hpc86 := part_cnt hk hpt86
   have hk := (part_wk hk hpt86).2
   refine wpList_nil ?_
   refine then_n ?_
   refine wp_block ?_
   have hQ : textQ en ts = cont en ([] ++ s86) l86 := by rw [textQ_parts hq83 hq85, partsT_ok hpt86, List.nil_append]
   refine wp_loop (fun a w2 => ∃ (l : List (Tok Int)) (acc : List Sp) (sv : Value), Env 54 [(0, .pointer (some ⟨rb, 0, none⟩))] a ∧ Rd w2 rb G en l sv ∧ oSp w2 B sv acc ∧ Tk l ∧ textQ en ts = cont en acc l ∧ Fr (fun r => r = rb ∨ B ≤ r) w w2 ∧ B ≤ w2.heap.size ∧ acc.length + 14 * l.length ≤ 14 * ts.length ∧ Tb w2) (fun _ w2 => rdLen w2 rb) ?_ ?_
   ·exact ⟨l86, ([] ++ s86), _, E.of ⟨E.get 14 rfl, trivial⟩, hR, hO, hk, hQ, hf, hBs, by simp only [List.nil_append]; omega, hT⟩
   clear E hR hO hk hQ hf hBs hT
   rintro a w2 ⟨l, acc, sv, E, hR, hO, hk, hQ, hf, hBs, hal, hT⟩
   have hlen2 := hR.len
   refine wp_seq ?_
   refine wp_seq ?_
   refine wp_region_lit ?_
   refine ep (v := .pointer (some ⟨rb, 0, none⟩)) E (run_move rfl (E.get 0 rfl)) fun a E => ?_
   refine ep (v := .pointer (some ⟨rb, 0, none⟩)) E (run_nilchk rfl (E.get 0 rfl)) fun a E => ?_
   refine ep (v := .pointer (some ⟨rb, 0, none⟩)) E (fa59_0 rfl (E.get 0 rfl)) fun a E => ?_
   refine env_one70 (d := 7) E rfl (by decide) rfl (wanted_none rfl _) rfl rfl fun a w1 b87 eb87 hbb87 f1 E => ?_
   have hR := Rd.fr hR f1 (fun r hr => id)
   have hO := ow.fr hO f1 (fun _ _ h => h)
   have hBs := Nat.le_trans hBs f1.size
   have hT := hT.fr f1 (fun r hr => id)
   have hf := hf.trans' f1 (fun _ _ h => h.elim)
   clear f1
   have hsb87 := src_one (f := stL) (c := 1) (G := w1.heap.size) hbb87 (lt_of_blk hbb87)
   clear hbb87 eb87
   refine env_call (d := 8) (v := .bool (sees 4 [cComma] l)) E rfl (by decide) rfl (wanted_none rfl _) (run_call3 (enters_of Tryz.func55 (by kernel_rfl) rfl) rfl rfl (E.get 1 rfl) rfl (E.get 0 rfl)) (sees_calls (xs := [cComma]) hR ⟨_, 1, rfl, Nat.le_refl _, by omega, hsb87, fun h => by cases h⟩ 4) fun a w1 f1 E => ?_
   have hR := Rd.fr hR f1 (fun r hr => id)
   have hO := ow.fr hO f1 (fun _ _ h => h)
   have hBs := Nat.le_trans hBs f1.size
   have hT := hT.fr f1 (fun r hr => id)
   have hf := hf.trans' f1 (fun _ _ h => h.elim)
   clear f1
   refine wpList_nil ?_
   refine then_n ?_
   cases hq88 : (sees 4 [cComma] l) with
   | false =>
    rw [hq88] at E
    refine wp_cond_false (E.get 0 rfl) ?_
    refine wp_exit ?_
    refine then_e ?_
    refine then_e ?_
    refine blk_e ?_
    refine blk_n ?_
    refine then_n ?_
    refine wp_seq ?_
    have hQ9 : textQ en ts = .ok (acc, l) := by rw [hQ]; exact cont_end hq88
    have hR9 := hR
    obtain ⟨hGr, lv, hrb, pl, cl, hlv, hlv0, hlv1, hts, hzl⟩ := hR9
    subst hlv
    refine wp_region_lit ?_
    refine ep (v := .pointer (some ⟨rb, 0, none⟩)) E (run_move rfl (E.get 5 rfl)) fun a E => ?_
    refine ep (v := .pointer (some ⟨rb, 0, none⟩)) E (run_nilchk rfl (E.get 0 rfl)) fun a E => ?_
    refine ep (v := .pointer (some ⟨rb, 0, none⟩)) E (fa59_0 rfl (E.get 0 rfl)) fun a E => ?_
    refine ep (v := .pointer (some ⟨rb, 0, none⟩)) E (fa57_0 rfl (E.get 0 rfl)) fun a E => ?_
    refine ep (v := .slice (pl) l.length cl) E (run_ld34 rfl (E.get 0 rfl) (bx hrb 0 rfl)) fun a E => ?_
    refine ep (v := .int .i64 (l.length : Int)) E (run_len34 rfl (E.get 0 rfl)) fun a E => ?_
    refine ep (v := .bool (decide (0 < (l.length : Int)))) E (run_igtr (E.get 0 rfl) rfl Tryz.underlying3 rfl) fun a E => ?_
    refine wpList_nil ?_
    refine then_n ?_
    cases hq89 : (decide (0 < (l.length : Int))) with
    | false =>
     rw [hq89] at E
     have hnil : l = [] := List.eq_nil_of_length_eq_zero (by have := of_decide_eq_false hq89; omega)
     refine wp_cond_false (E.get 0 rfl) ?_
     refine wp_skip ?_
     refine (ret_nil rfl E ⟨hf, ?_⟩).1
     unfold textS
     rw [hQ9, hnil]
     refine ⟨rfl, hrB, hBs, _, by rw [← hnil]; exact hR, by simpa using hO⟩
    | true =>
     rw [hq89] at E
     have hlt0 : 0 < l.length := by have := of_decide_eq_true hq89; omega
     obtain ⟨t, ht⟩ : ∃ y, l[0]? = some y := ⟨_, List.getElem?_eq_getElem hlt0⟩
     obtain ⟨g90, off90, hpe90, hgl90, hrow90⟩ := hts.at hlt0
     replace hrow90 := hrow90 0 t ht
     obtain ⟨t9, l9, hcons⟩ := List.exists_cons_of_ne_nil (List.ne_nil_of_length_pos hlt0)
     have ht9 : t = t9 := by rw [hcons] at ht; simpa using ht.symm
     subst ht9
     refine wp_cond_true (E.get 0 rfl) ?_
     refine wp_region_lit ?_
     refine ep (v := .pointer (some ⟨rb, 0, none⟩)) E (run_move rfl (E.get 12 rfl)) fun a E => ?_
     refine ep (v := .pointer (some ⟨rb, 0, none⟩)) E (run_nilchk rfl (E.get 0 rfl)) fun a E => ?_
     refine ep (v := .pointer (some ⟨rb, 0, none⟩)) E (fa59_0 rfl (E.get 0 rfl)) fun a E => ?_
     refine ep (v := .pointer (some ⟨rb, 0, none⟩)) E (fa57_0 rfl (E.get 0 rfl)) fun a E => ?_
     refine ep (v := .slice (pl) l.length cl) E (run_ld34 rfl (E.get 0 rfl) (bx hrb 0 rfl)) fun a E => ?_
     refine ep (v := .pointer (some ⟨g90, (off90 + 0 * 3), none⟩)) E (run_index34 (i := 0) rfl ((E.get 0 rfl).trans (by rw [hpe90])) rfl hlt0) fun a E => ?_
     refine ep (v := .pointer (some ⟨g90, ((off90 + 0 * 3) + 2), none⟩)) E (fa38_2 rfl (E.get 0 rfl)) fun a E => ?_
     refine ep (v := .int .i64 t.2.2) E (run_ldi rfl (E.get 0 rfl) (hrow90 2 _ rfl)) fun a E => ?_
     refine ep (v := .agg #[.int .i64 5, .int .i64 t.2.2]) E (run_of54 rfl rfl (E.get 0 rfl)) fun a E => ?_
     refine ep (v := prob 5 t.2.2) E (run_mkif54 rfl (E.get 0 rfl)) fun a E => ?_
     refine env_panic (wanted_none rfl _) (run_panic rfl (E.get 0 rfl)) ?_
     refine pan_end E ⟨hf, ?_⟩
     unfold textS
     rw [hQ9, hcons]
     rfl
   | true =>
    rw [hq88] at E
    refine wp_cond_true (E.get 0 rfl) ?_
    refine wp_skip ?_
    refine then_n ?_
    refine wp_block ?_
    refine wp_seq ?_
    refine wp_region_lit ?_
    refine ep (v := .pointer (some ⟨rb, 0, none⟩)) E (run_move rfl (E.get 5 rfl)) fun a E => ?_
    refine ep (v := .pointer (some ⟨rb, 0, none⟩)) E (run_nilchk rfl (E.get 0 rfl)) fun a E => ?_
    refine ep (v := .pointer (some ⟨rb, 0, none⟩)) E (fa59_0 rfl (E.get 0 rfl)) fun a E => ?_
    rcases htk91 : take en 4 [] l with ⟨c91, x91⟩ | ⟨t91, l91⟩
    ·skip
     refine env_callp (ch := pn c91 x91) (R := fun w8 => Fr (fun r => r = rb) w1 w8) (wanted_none rfl _) (run_call3 (enters_of Tryz.func56 (by kernel_rfl) rfl) rfl rfl (E.get 0 rfl) rfl rfl) ((take_calls (xs := []) hR (Src.nil _) 4).mono fun e w8 h => by unfold StepP at h; rw [htk91] at h; exact ⟨h.2, h.1⟩) fun w1 f1 => ?_
     have hf := hf.trans' f1 (fun r hr e => by (try simp only at e); first | exact e | exact .inl e)
     obtain ⟨t9, l9, h9, _⟩ := take_any (en := en) hq88
     rw [h9] at htk91
     cases htk91
    refine env_callv (d := 12) (R := fun u w8 => u = .agg (tkA t91) ∧ Rd w8 rb G en l91 sv ∧ Fr (fun r => r = rb) w1 w8) E rfl (by decide) rfl (wanted_none rfl _) (run_call3 (enters_of Tryz.func56 (by kernel_rfl) rfl) rfl rfl (E.get 0 rfl) rfl rfl) ((take_calls (xs := []) hR (Src.nil _) 4).mono fun e w8 h => by unfold StepP at h; rw [htk91] at h; exact ⟨_, h.2.1, rfl, h.2.2, h.1⟩) fun a w1 u ⟨hu, hR2, f1⟩ E => ?_
    subst hu
    have hO := ow.fr hO f1 (fun k hk e => by have := (hO.lt hk).1; (try simp only at e); omega)
    have hBs := Nat.le_trans hBs f1.size
    have hT := hT.fr f1 (fun r hr => (fun e => by (try simp only at e); omega))
    have hf := hf.trans' f1 (fun r hr => (fun e => by (try simp only at e); omega))
    clear f1
    have hR := hR2
    clear hR2
    obtain ⟨hto91, hkd91, hk⟩ := take_tk hk htk91
    have hin91 := (take_ok htk91).2.2
    have htl91 : l = t91 :: l91 := (take_ok htk91).1
    have hl6 : l.length = l91.length + 1 := by rw [htl91]; rfl
    refine wpList_nil ?_
    refine then_n ?_
    refine wp_region_lit ?_
    refine ep (v := .pointer (some ⟨rb, 0, none⟩)) E (run_move rfl (E.get 9 rfl)) fun a E => ?_
    rcases hpt92 : part en l91 with ⟨c92, x92⟩ | ⟨s92, l92⟩
    ·skip
     refine env_callp (ch := pn c92 x92) (R := fun w8 => Fr (fun r => r = rb ∨ B ≤ r) w1 w8) (wanted_none rfl _) (run_call1 (enters_of Tryz.func58 (by kernel_rfl) rfl) rfl rfl (E.get 0 rfl)) ((part_calls (ss := acc) ⟨hrB, hBs, _, hR, hO⟩ hk hT (by omega)).mono fun e w8 h => by unfold StepO at h; rw [hpt92] at h; exact ⟨h.2, h.1⟩) fun w1 f1 => ?_
     have hf := hf.trans f1
     refine blk_p ?_
     refine then_p ?_
     refine blk_p ?_
     refine blk_p ?_
     refine then_p ?_
     refine pan_end E ⟨hf, ?_⟩
     unfold textS
     have hd9 : l.drop 1 = l91 := by rw [htl91]; rfl
     rw [hQ, cont_err hq88 (by rw [hd9]; exact hpt92)]
     rfl
    refine env_callv (d := 14) (R := fun u w8 => u = .tuple #[] ∧ RdO w8 rb G B en l92 (acc ++ s92) ∧ Fr (fun r => r = rb ∨ B ≤ r) w1 w8) E rfl (by decide) rfl (wanted_none rfl _) (run_call1 (enters_of Tryz.func58 (by kernel_rfl) rfl) rfl rfl (E.get 0 rfl)) ((part_calls (ss := acc) ⟨hrB, hBs, _, hR, hO⟩ hk hT (by omega)).mono fun e w8 h => by unfold StepO at h; rw [hpt92] at h; exact ⟨_, h.2.1, rfl, h.2.2, h.1⟩) fun a w1 u ⟨hu, hRO, f1⟩ E => ?_
    subst hu
    have hf := hf.trans f1
    have hT := hT.fr f1 (fun r hr e => by omega)
    clear hR hO hBs f1
    obtain ⟨_, hBs, sv92, hR, hO⟩ := hRO
    have hpc92 := part_cnt hk hpt92
    have hk := (part_wk hk hpt92).2
    refine wpList_nil ?_
    refine blk_n ?_
    refine then_n ?_
    have hd9 : l.drop 1 = l91 := by rw [htl91]; rfl
    have hQn : textQ en ts = cont en (acc ++ s92) l92 := by rw [hQ]; exact cont_ok hq88 (by rw [hd9]; exact hpt92)
    have hl7 : l.length = l91.length + 1 := by rw [htl91]; rfl
    refine ⟨⟨l92, (acc ++ s92), sv92, E.of ⟨E.get 11 rfl, trivial⟩, hR, hO, hk, hQn, hf, hBs, by simp only [List.length_append]; omega, hT⟩, by have := hR.len; show rdLen _ rb < rdLen _ rb; omega⟩
  | true =>
   rw [hq85] at E
   refine wp_cond_true (E.get 0 rfl) ?_
   refine wp_region_lit ?_
   refine ep (v := .pointer (some ⟨rb, 0, none⟩)) E (run_move rfl (E.get 12 rfl)) fun a E => ?_
   refine ep (v := .pointer (some ⟨rb, 0, none⟩)) E (run_nilchk rfl (E.get 0 rfl)) fun a E => ?_
   refine ep (v := .pointer (some ⟨rb, 0, none⟩)) E (fa59_0 rfl (E.get 0 rfl)) fun a E => ?_
   rcases htk93 : take en 1 [] ts with ⟨c93, x93⟩ | ⟨t93, l93⟩
   ·skip
    refine env_callp (ch := pn c93 x93) (R := fun w8 => Fr (fun r => r = rb) w1 w8) (wanted_none rfl _) (run_call3 (enters_of Tryz.func56 (by kernel_rfl) rfl) rfl rfl (E.get 0 rfl) rfl rfl) ((take_calls (xs := []) hR (Src.nil _) 1).mono fun e w8 h => by unfold StepP at h; rw [htk93] at h; exact ⟨h.2, h.1⟩) fun w1 f1 => ?_
    have hf := hf.trans' f1 (fun r hr e => by (try simp only at e); first | exact e | exact .inl e)
    obtain ⟨t9, l9, h9, _⟩ := take_any (en := en) hq85
    rw [h9] at htk93
    cases htk93
   refine env_callv (d := 36) (R := fun u w8 => u = .agg (tkA t93) ∧ Rd w8 rb G en l93 sv ∧ Fr (fun r => r = rb) w1 w8) E rfl (by decide) rfl (wanted_none rfl _) (run_call3 (enters_of Tryz.func56 (by kernel_rfl) rfl) rfl rfl (E.get 0 rfl) rfl rfl) ((take_calls (xs := []) hR (Src.nil _) 1).mono fun e w8 h => by unfold StepP at h; rw [htk93] at h; exact ⟨_, h.2.1, rfl, h.2.2, h.1⟩) fun a w1 u ⟨hu, hR2, f1⟩ E => ?_
   subst hu
   have hO := ow.fr hO f1 (fun k hk e => by have := (hO.lt hk).1; (try simp only at e); omega)
   have hBs := Nat.le_trans hBs f1.size
   have hT := hT.fr f1 (fun r hr => (fun e => by (try simp only at e); omega))
   have hf := hf.trans' f1 (fun r hr => (fun e => by (try simp only at e); omega))
   clear f1
   have hR := hR2
   clear hR2
   obtain ⟨hto93, hkd93, hk⟩ := take_tk hk htk93
   have hin93 := (take_ok htk93).2.2
   have htl93 : ts = t93 :: l93 := (take_ok htk93).1
   refine wpList_nil ?_
   refine blk_n ?_
   refine then_n ?_
   refine wp_seq ?_
   have hQ9 : textQ en ts = .ok ([], l93) := by
    unfold textQ
    rw [if_neg (by rw [hq83]; simp), if_pos hq85, htl93]; rfl
   have hR9 := hR
   obtain ⟨hGr, lv, hrb, pl, cl, hlv, hlv0, hlv1, hts, hzl⟩ := hR9
   subst hlv
   refine wp_region_lit ?_
   refine ep (v := .pointer (some ⟨rb, 0, none⟩)) E (run_move rfl (E.get 16 rfl)) fun a E => ?_
   refine ep (v := .pointer (some ⟨rb, 0, none⟩)) E (run_nilchk rfl (E.get 0 rfl)) fun a E => ?_
   refine ep (v := .pointer (some ⟨rb, 0, none⟩)) E (fa59_0 rfl (E.get 0 rfl)) fun a E => ?_
   refine ep (v := .pointer (some ⟨rb, 0, none⟩)) E (fa57_0 rfl (E.get 0 rfl)) fun a E => ?_
   refine ep (v := .slice (pl) l93.length cl) E (run_ld34 rfl (E.get 0 rfl) (bx hrb 0 rfl)) fun a E => ?_
   refine ep (v := .int .i64 (l93.length : Int)) E (run_len34 rfl (E.get 0 rfl)) fun a E => ?_
   refine ep (v := .bool (decide (0 < (l93.length : Int)))) E (run_igtr (E.get 0 rfl) rfl Tryz.underlying3 rfl) fun a E => ?_
   refine wpList_nil ?_
   refine then_n ?_
   cases hq94 : (decide (0 < (l93.length : Int))) with
   | false =>
    rw [hq94] at E
    have hnil : l93 = [] := List.eq_nil_of_length_eq_zero (by have := of_decide_eq_false hq94; omega)
    refine wp_cond_false (E.get 0 rfl) ?_
    refine wp_skip ?_
    refine (ret_nil rfl E ⟨hf, ?_⟩).1
    unfold textS
    rw [hQ9, hnil]
    refine ⟨rfl, hrB, hBs, _, by rw [← hnil]; exact hR, by simpa using hO⟩
   | true =>
    rw [hq94] at E
    have hlt0 : 0 < l93.length := by have := of_decide_eq_true hq94; omega
    obtain ⟨t, ht⟩ : ∃ y, l93[0]? = some y := ⟨_, List.getElem?_eq_getElem hlt0⟩
    obtain ⟨g95, off95, hpe95, hgl95, hrow95⟩ := hts.at hlt0
    replace hrow95 := hrow95 0 t ht
    obtain ⟨t9, l9, hcons⟩ := List.exists_cons_of_ne_nil (List.ne_nil_of_length_pos hlt0)
    have ht9 : t = t9 := by rw [hcons] at ht; simpa using ht.symm
    subst ht9
    refine wp_cond_true (E.get 0 rfl) ?_
    refine wp_region_lit ?_
    refine ep (v := .pointer (some ⟨rb, 0, none⟩)) E (run_move rfl (E.get 23 rfl)) fun a E => ?_
    refine ep (v := .pointer (some ⟨rb, 0, none⟩)) E (run_nilchk rfl (E.get 0 rfl)) fun a E => ?_
    refine ep (v := .pointer (some ⟨rb, 0, none⟩)) E (fa59_0 rfl (E.get 0 rfl)) fun a E => ?_
    refine ep (v := .pointer (some ⟨rb, 0, none⟩)) E (fa57_0 rfl (E.get 0 rfl)) fun a E => ?_
    refine ep (v := .slice (pl) l93.length cl) E (run_ld34 rfl (E.get 0 rfl) (bx hrb 0 rfl)) fun a E => ?_
    refine ep (v := .pointer (some ⟨g95, (off95 + 0 * 3), none⟩)) E (run_index34 (i := 0) rfl ((E.get 0 rfl).trans (by rw [hpe95])) rfl hlt0) fun a E => ?_
    refine ep (v := .pointer (some ⟨g95, ((off95 + 0 * 3) + 2), none⟩)) E (fa38_2 rfl (E.get 0 rfl)) fun a E => ?_
    refine ep (v := .int .i64 t.2.2) E (run_ldi rfl (E.get 0 rfl) (hrow95 2 _ rfl)) fun a E => ?_
    refine ep (v := .agg #[.int .i64 5, .int .i64 t.2.2]) E (run_of54 rfl rfl (E.get 0 rfl)) fun a E => ?_
    refine ep (v := prob 5 t.2.2) E (run_mkif54 rfl (E.get 0 rfl)) fun a E => ?_
    refine env_panic (wanted_none rfl _) (run_panic rfl (E.get 0 rfl)) ?_
    refine pan_end E ⟨hf, ?_⟩
    unfold textS
    rw [hQ9, hcons]
    rfl
 | true =>
  rw [hq83] at E
  refine wp_cond_true (E.get 0 rfl) ?_
  refine wp_seq ?_
  refine wp_region_lit ?_
  refine ep (v := .pointer (some ⟨rb, 0, none⟩)) E (run_move rfl (E.get 6 rfl)) fun a E => ?_
  refine ep (v := .pointer (some ⟨rb, 0, none⟩)) E (run_nilchk rfl (E.get 0 rfl)) fun a E => ?_
  refine ep (v := .pointer (some ⟨rb, 0, none⟩)) E (fa59_0 rfl (E.get 0 rfl)) fun a E => ?_
  rcases htk96 : take en 1 [] ts with ⟨c96, x96⟩ | ⟨t96, l96⟩
  ·skip
   refine env_callp (ch := pn c96 x96) (R := fun w8 => Fr (fun r => r = rb) w1 w8) (wanted_none rfl _) (run_call3 (enters_of Tryz.func56 (by kernel_rfl) rfl) rfl rfl (E.get 0 rfl) rfl rfl) ((take_calls (xs := []) hR (Src.nil _) 1).mono fun e w8 h => by unfold StepP at h; rw [htk96] at h; exact ⟨h.2, h.1⟩) fun w1 f1 => ?_
   have hf := hf.trans' f1 (fun r hr e => by (try simp only at e); first | exact e | exact .inl e)
   obtain ⟨t9, l9, h9, _⟩ := take_any (en := en) hq83
   rw [h9] at htk96
   cases htk96
  refine env_callv (d := 24) (R := fun u w8 => u = .agg (tkA t96) ∧ Rd w8 rb G en l96 sv ∧ Fr (fun r => r = rb) w1 w8) E rfl (by decide) rfl (wanted_none rfl _) (run_call3 (enters_of Tryz.func56 (by kernel_rfl) rfl) rfl rfl (E.get 0 rfl) rfl rfl) ((take_calls (xs := []) hR (Src.nil _) 1).mono fun e w8 h => by unfold StepP at h; rw [htk96] at h; exact ⟨_, h.2.1, rfl, h.2.2, h.1⟩) fun a w1 u ⟨hu, hR2, f1⟩ E => ?_
  subst hu
  have hO := ow.fr hO f1 (fun k hk e => by have := (hO.lt hk).1; (try simp only at e); omega)
  have hBs := Nat.le_trans hBs f1.size
  have hT := hT.fr f1 (fun r hr => (fun e => by (try simp only at e); omega))
  have hf := hf.trans' f1 (fun r hr => (fun e => by (try simp only at e); omega))
  clear f1
  have hR := hR2
  clear hR2
  obtain ⟨hto96, hkd96, hk⟩ := take_tk hk htk96
  have hin96 := (take_ok htk96).2.2
  have htl96 : ts = t96 :: l96 := (take_ok htk96).1
  refine wpList_nil ?_
  refine then_n ?_
  refine wp_region_lit ?_
  refine ep (v := .pointer (some ⟨rb, 0, none⟩)) E (run_move rfl (E.get 10 rfl)) fun a E => ?_
  have hT9 := hT
  refine env_callv (d := 26) (R := fun u w8 => u = .tuple #[] ∧ RdO w8 rb G B en l96 ([] ++ addL 0 10080) ∧ Fr (fun r => r = rb ∨ B ≤ r) w1 w8) E rfl (by decide) rfl (wanted_none rfl _) (run_call3 (enters_of Tryz.func57 (by kernel_rfl) rfl) rfl rfl (E.get 0 rfl) rfl rfl) ((add_calls ⟨hrB, hBs, _, hR, hO⟩ (by omega) (by omega) (by simp only [List.length_nil]; omega)).mono fun e w8 h => by obtain ⟨rfl, h⟩ := h; exact ⟨_, rfl, rfl, h⟩) fun a w1 u ⟨hu, hRO, f1⟩ E => ?_
  subst hu
  have hf := hf.trans f1
  clear hR hO hBs f1
  obtain ⟨_, hBs, sv97, hR, hO⟩ := hRO
  refine wpList_nil ?_
  refine blk_n ?_
  refine then_n ?_
  refine wp_seq ?_
  have hQ9 : textQ en ts = .ok (([] ++ addL 0 10080), l96) := by
   unfold textQ
   rw [if_pos hq83, htl96]; rfl
  have hR9 := hR
  obtain ⟨hGr, lv, hrb, pl, cl, hlv, hlv0, hlv1, hts, hzl⟩ := hR9
  subst hlv
  refine wp_region_lit ?_
  refine ep (v := .pointer (some ⟨rb, 0, none⟩)) E (run_move rfl (E.get 12 rfl)) fun a E => ?_
  refine ep (v := .pointer (some ⟨rb, 0, none⟩)) E (run_nilchk rfl (E.get 0 rfl)) fun a E => ?_
  refine ep (v := .pointer (some ⟨rb, 0, none⟩)) E (fa59_0 rfl (E.get 0 rfl)) fun a E => ?_
  refine ep (v := .pointer (some ⟨rb, 0, none⟩)) E (fa57_0 rfl (E.get 0 rfl)) fun a E => ?_
  refine ep (v := .slice (pl) l96.length cl) E (run_ld34 rfl (E.get 0 rfl) (bx hrb 0 rfl)) fun a E => ?_
  refine ep (v := .int .i64 (l96.length : Int)) E (run_len34 rfl (E.get 0 rfl)) fun a E => ?_
  refine ep (v := .bool (decide (0 < (l96.length : Int)))) E (run_igtr (E.get 0 rfl) rfl Tryz.underlying3 rfl) fun a E => ?_
  refine wpList_nil ?_
  refine then_n ?_
  cases hq98 : (decide (0 < (l96.length : Int))) with
  | false =>
   rw [hq98] at E
   have hnil : l96 = [] := List.eq_nil_of_length_eq_zero (by have := of_decide_eq_false hq98; omega)
   refine wp_cond_false (E.get 0 rfl) ?_
   refine wp_skip ?_
   refine (ret_nil rfl E ⟨hf, ?_⟩).1
   unfold textS
   rw [hQ9, hnil]
   refine ⟨rfl, hrB, hBs, _, by rw [← hnil]; exact hR, by simpa using hO⟩
  | true =>
   rw [hq98] at E
   have hlt0 : 0 < l96.length := by have := of_decide_eq_true hq98; omega
   obtain ⟨t, ht⟩ : ∃ y, l96[0]? = some y := ⟨_, List.getElem?_eq_getElem hlt0⟩
   obtain ⟨g99, off99, hpe99, hgl99, hrow99⟩ := hts.at hlt0
   replace hrow99 := hrow99 0 t ht
   obtain ⟨t9, l9, hcons⟩ := List.exists_cons_of_ne_nil (List.ne_nil_of_length_pos hlt0)
   have ht9 : t = t9 := by rw [hcons] at ht; simpa using ht.symm
   subst ht9
   refine wp_cond_true (E.get 0 rfl) ?_
   refine wp_region_lit ?_
   refine ep (v := .pointer (some ⟨rb, 0, none⟩)) E (run_move rfl (E.get 19 rfl)) fun a E => ?_
   refine ep (v := .pointer (some ⟨rb, 0, none⟩)) E (run_nilchk rfl (E.get 0 rfl)) fun a E => ?_
   refine ep (v := .pointer (some ⟨rb, 0, none⟩)) E (fa59_0 rfl (E.get 0 rfl)) fun a E => ?_
   refine ep (v := .pointer (some ⟨rb, 0, none⟩)) E (fa57_0 rfl (E.get 0 rfl)) fun a E => ?_
   refine ep (v := .slice (pl) l96.length cl) E (run_ld34 rfl (E.get 0 rfl) (bx hrb 0 rfl)) fun a E => ?_
   refine ep (v := .pointer (some ⟨g99, (off99 + 0 * 3), none⟩)) E (run_index34 (i := 0) rfl ((E.get 0 rfl).trans (by rw [hpe99])) rfl hlt0) fun a E => ?_
   refine ep (v := .pointer (some ⟨g99, ((off99 + 0 * 3) + 2), none⟩)) E (fa38_2 rfl (E.get 0 rfl)) fun a E => ?_
   refine ep (v := .int .i64 t.2.2) E (run_ldi rfl (E.get 0 rfl) (hrow99 2 _ rfl)) fun a E => ?_
   refine ep (v := .agg #[.int .i64 5, .int .i64 t.2.2]) E (run_of54 rfl rfl (E.get 0 rfl)) fun a E => ?_
   refine ep (v := prob 5 t.2.2) E (run_mkif54 rfl (E.get 0 rfl)) fun a E => ?_
   refine env_panic (wanted_none rfl _) (run_panic rfl (E.get 0 rfl)) ?_
   refine pan_end E ⟨hf, ?_⟩
   unfold textS
   rw [hQ9, hcons]
   rfl
end Go.Proofs.YtjaffpnegdcjnaaGreatDoor
