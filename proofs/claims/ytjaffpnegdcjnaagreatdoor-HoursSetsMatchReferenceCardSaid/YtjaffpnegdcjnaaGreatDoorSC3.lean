/- The reader: a part. -/
import Derived.Test.YtjaffpnegdcjnaaGreatDoorSC2
set_option linter.unusedVariables false
set_option linter.unusedSimpArgs false
namespace Go.Proofs.YtjaffpnegdcjnaaGreatDoor
open Go.RowKit Go.Pl
section
variable {α : Type} {en : α}
/-- What was read, ahead of what comes. -/
def pre (acc : List Sp) : Res α (List Sp × List (Tok α)) → Res α (List Sp × List (Tok α))
 | .error e => .error e
 | .ok (s, l) => .ok (acc ++ s, l)
theorem pre_nil (r : Res α (List Sp × List (Tok α))) : pre [] r = r := by cases r <;> rfl
def timesT (en : α) (f t : Int) (l : List (Tok α)) : Res α (List Sp × List (Tok α)) := times en f t (l.length + 1) l
theorem timesT_err {f t : Int} {l : List (Tok α)} {e : Int × α} (h : time en f t l = .error e) : timesT en f t l = .error e := by
 unfold timesT times; rw [h]
theorem timesT_end {f t : Int} {l l2 : List (Tok α)} {s : List Sp} (h : time en f t l = .ok (s, l2)) (hm : more l2 = false) : timesT en f t l = .ok (s, l2) := by
 unfold timesT times; rw [h]; simp [hm]
theorem timesT_more {f t : Int} {l l2 : List (Tok α)} {s acc : List Sp} (h : time en f t l = .ok (s, l2)) (hm : more l2 = true) : pre acc (timesT en f t l) = pre (acc ++ s) (timesT en f t (l2.drop 1)) := by
 have hl := time_ok h
 have : timesT en f t l = pre s (timesT en f t (l2.drop 1)) := by
  unfold timesT
  rw [times, h]
  simp only
  rw [if_pos hm, times_fuel l.length ((l2.drop 1).length + 1) (l2.drop 1) (by simp; omega) (by simp)]
  cases times en f t ((l2.drop 1).length + 1) (l2.drop 1) <;> rfl
 rw [this]
 cases timesT en f t (l2.drop 1) with
 | error e => rfl
 | ok r => simp [pre, List.append_assoc]
theorem part_eq {ts l : List (Tok α)} {f t : Int} (h : dys en ts = .ok ((f, t), l)) : part en ts = pre [] (timesT en f t l) := by
 unfold part; rw [h, pre_nil]; rfl
theorem part_er {ts : List (Tok α)} {e : Int × α} (h : dys en ts = .error e) : part en ts = .error e := by
 unfold part; rw [h]
theorem take_any {k : Int} {xs : List Bys} {l : List (Tok α)} (h : sees k xs l = true) : ∃ t l', take en k [] l = .ok (t, l') ∧ l = t :: l' := by
 cases l with
 | nil => cases h
 | cons t l =>
  refine ⟨t, l, ?_, rfl⟩
  unfold sees at h
  unfold take sees
  rw [Bool.and_eq_true] at h
  simp [h.1]
theorem more_eq {l : List (Tok α)} {t u : Tok α} {r : List (Tok α)} (h : l = t :: u :: r) : more l = (sees 4 [cComma] l && u.1 == 2) := by subst h; rfl
end
theorem more_short {l : List (Tok Int)} (h : l.length < 2) : more l = false := by
 rcases l with _ | ⟨t, _ | ⟨u, l⟩⟩
 ·rfl
 ·rfl
 ·simp only [List.length_cons] at h; omega
theorem more_see {l : List (Tok Int)} (h : sees 4 [cComma] l = false) : more l = false := by
 rcases l with _ | ⟨t, _ | ⟨u, r⟩⟩
 ·rfl
 ·rfl
 ·rw [more_eq rfl, h]; rfl
theorem more_at {l : List (Tok Int)} {u : Tok Int} (h : l[1]? = some u) : more l = (sees 4 [cComma] l && u.1 == 2) := by
 rcases l with _ | ⟨t, _ | ⟨v, r⟩⟩
 ·simp at h
 ·simp at h
 ·simp at h; subst h; exact more_eq rfl
def dayP (f a b : Int) (n : Nat) : List Sp := (List.range n).flatMap fun (i : Nat) => addL ((f + (i : Int)).tmod 7 * 1440 + a) ((f + (i : Int)).tmod 7 * 1440 + b)
theorem dayP_succ (f a b : Int) (n : Nat) : dayP f a b (n + 1) = dayP f a b n ++ addL ((f + (n : Int)).tmod 7 * 1440 + a) ((f + (n : Int)).tmod 7 * 1440 + b) := by
 unfold dayP; rw [List.range_succ]; simp
theorem addL_len (f t : Int) : (addL f t).length ≤ 2 := by unfold addL; split <;> simp
theorem dayP_len (f a b : Int) (n : Nat) : (dayP f a b n).length ≤ 2 * n := by
 induction n with
 | zero => simp [dayP]
 | succ n ih => rw [dayP_succ, List.length_append]; have := addL_len ((f + (n : Int)).tmod 7 * 1440 + a) ((f + (n : Int)).tmod 7 * 1440 + b); omega
theorem day_n {f t : Int} (hf : 0 ≤ f) (hf7 : f < 7) (ht : 0 ≤ t) (ht7 : t < 7) : (t - f + 7).tmod 7 = (t - f + 7) % 7 := Int.tmod_eq_emod_of_nonneg (by omega)
theorem tm7 {f : Int} (hf : 0 ≤ f) (n : Nat) : (f + (n : Int)).tmod 7 = (f + (n : Int)) % 7 := Int.tmod_eq_emod_of_nonneg (by omega)
/-- How many tokens are left. -/
def rdLen (w : World) (rb : Nat) : Nat := match w.cell? ⟨rb, 0, none⟩ with | some (.slice _ n _) => n | _ => 0
theorem Rd.len {w : World} {rb G : Nat} {en : Int} {ts : List (Tok Int)} {sv : Value} (h : Rd w rb G en ts sv) : rdLen w rb = ts.length := by
 obtain ⟨_, lv, h1, p, c, rfl, _⟩ := h
 unfold rdLen
 rw [cell_of_blk h1]; rfl
/-- What reading a part leaves. -/
def StepO (w : World) (rb G B : Nat) (en : Int) (ss : List Sp) (r : Res Int (List Sp × List (Tok Int))) (e : Ending) (w' : World) : Prop :=
 Fr (fun r => r = rb ∨ B ≤ r) w w' ∧ match r with
 | .error (c, x) => e = .panicked (pn c x)
 | .ok (s, l) => e = .returned (.tuple #[]) ∧ RdO w' rb G B en l (ss ++ s)
theorem idx_rng {d : Bys} (h : d ∈ days) : 0 ≤ idx d ∧ idx d < 7 := by
 have hidx : ∀ d ∈ days, 0 ≤ idx d ∧ idx d < 7 := by decide +kernel
 exact hidx d h
set_option maxRecDepth 100000 in
set_option maxHeartbeats 4000000 in
theorem part_calls {w : World} {rb G B : Nat} {en : Int} {ts : List (Tok Int)} {ss : List Sp} (hRO : RdO w rb G B en ts ss) (hk : Tk ts) (hT : Tb w) (hl : ss.length + 14 * ts.length ≤ 1000000) : Calls Tryz.prog 58 #[.pointer (some ⟨rb, 0, none⟩)] w (StepO w rb G B en ss (part en ts)) := by
 refine wp_start1 Tryz.func58 rfl rfl (n := 119) (by decide) fun a E => ?_
 obtain ⟨hrB, hBs, sv, hR, hO⟩ := hRO
 have hf : Fr (fun r => r = rb ∨ B ≤ r) w w := Fr.refl _ _
 have hrl := hR.lt
 refine wp_seq ?_
 refine wp_region_lit ?_
 refine env_callv (d := 11) (R := fun u w8 => ∃ b, u = .slice (some ⟨b, 0, none⟩) 7 7 ∧ DaysAt w8 b ∧ w.heap.size ≤ b ∧ Fr (fun _ => False) w w8) E rfl (by decide) rfl (wanted_none rfl _) (run_call0 (enters_of Tryz.func43 (by kernel_rfl) rfl) rfl rfl) ((names_calls hT).mono fun e w8 h => by obtain ⟨b, rfl, h⟩ := h; exact ⟨_, rfl, b, rfl, h⟩) fun a w1 u ⟨bd, hu, hbd, hbn, f1⟩ E => ?_
 subst hu
 have hR := Rd.fr hR f1 (fun r hr => id)
 have hO := ow.fr hO f1 (fun _ _ h => h)
 have hBs := Nat.le_trans hBs f1.size
 have hf := hf.trans' f1 (fun _ _ h => h.elim)
 clear f1
 refine ep (v := .slice (some ⟨bd, 0, none⟩) 7 7) E (run_assign rfl (E.get 0 rfl)) fun a E => ?_
 refine wpList_nil ?_
 refine then_n ?_
 refine wp_seq ?_
 refine wp_region_lit ?_
 refine ep (v := .slice (some ⟨bd, 0, none⟩) 7 7) E (run_move rfl (E.get 0 rfl)) fun a E => ?_
 refine ep (v := .pointer (some ⟨rb, 0, none⟩)) E (run_move rfl (E.get 3 rfl)) fun a E => ?_
 refine ep (v := .pointer (some ⟨rb, 0, none⟩)) E (run_nilchk rfl (E.get 0 rfl)) fun a E => ?_
 refine ep (v := .pointer (some ⟨rb, 0, none⟩)) E (fa59_0 rfl (E.get 0 rfl)) fun a E => ?_
 refine ep (v := .slice (some ⟨bd, 0, none⟩) 7 7) E (run_move rfl (E.get 4 rfl)) fun a E => ?_
 rcases htk82 : take en 1 days ts with ⟨c82, x82⟩ | ⟨t82, l82⟩
 ·skip
  refine env_callp (ch := pn c82 x82) (R := fun w8 => Fr (fun r => r = rb) w1 w8) (wanted_none rfl _) (run_call3 (enters_of Tryz.func56 (by kernel_rfl) rfl) rfl rfl (E.get 1 rfl) rfl (E.get 0 rfl)) ((take_calls (xs := days) hR (DaysAt.st hbd) 1).mono fun e w8 h => by unfold StepP at h; rw [htk82] at h; exact ⟨h.2, h.1⟩) fun w1 f1 => ?_
  have hf := hf.trans' f1 (fun r hr e => by (try simp only at e); first | exact e | exact .inl e)
  refine then_p ?_
  refine pan_end E ⟨hf, ?_⟩
  rw [part_er (by
   unfold dys
   rw [htk82]
   try simp only
   )]
 refine env_callv (d := 17) (R := fun u w8 => u = .agg (tkA t82) ∧ Rd w8 rb G en l82 sv ∧ Fr (fun r => r = rb) w1 w8) E rfl (by decide) rfl (wanted_none rfl _) (run_call3 (enters_of Tryz.func56 (by kernel_rfl) rfl) rfl rfl (E.get 1 rfl) rfl (E.get 0 rfl)) ((take_calls (xs := days) hR (DaysAt.st hbd) 1).mono fun e w8 h => by unfold StepP at h; rw [htk82] at h; exact ⟨_, h.2.1, rfl, h.2.2, h.1⟩) fun a w1 u ⟨hu, hR2, f1⟩ E => ?_
 subst hu
 have hO := ow.fr hO f1 (fun k hk e => by have := (hO.lt hk).1; (try simp only at e); omega)
 have hBs := Nat.le_trans hBs f1.size
 have hbd := f1.obj hbd (fun e => by (try simp only at e); omega)
 have hf := hf.trans' f1 (fun r hr => (fun e => by (try simp only at e); omega))
 clear f1
 have hR := hR2
 clear hR2
 obtain ⟨hto82, hkd82, hk⟩ := take_tk hk htk82
 have hin82 := (take_ok htk82).2.2
 refine ep (v := .string (ofL t82.2.1)) E (run_fd38_1 rfl (E.get 0 rfl)) fun a E => ?_
 have hid82 : t82.2.1 ∈ days := hin82.resolve_left (by decide)
 have hir82 := idx_rng hid82
 refine env_call (d := 19) (v := .int .i64 (idx t82.2.1)) E rfl (by decide) rfl (wanted_none rfl _) (run_call2 (enters_of Tryz.func79 (by kernel_rfl) rfl) rfl rfl (E.get 6 rfl) (E.get 0 rfl)) (index_calls (DaysAt.st hbd) hid82) fun a w1 f1 E => ?_
 have hR := Rd.fr hR f1 (fun r hr => id)
 have hO := ow.fr hO f1 (fun _ _ h => h)
 have hBs := Nat.le_trans hBs f1.size
 have hbd := f1.obj hbd id
 have hf := hf.trans' f1 (fun _ _ h => h.elim)
 clear f1
 refine ep (v := .int .i64 (idx t82.2.1)) E (run_assign rfl (E.get 0 rfl)) fun a E => ?_
 refine wpList_nil ?_
 refine then_n ?_
 refine wp_seq ?_
 refine wp_region_lit ?_
 refine ep (v := .int .i64 (idx t82.2.1)) E (run_move rfl (E.get 0 rfl)) fun a E => ?_
 refine ep (v := .int .i64 (idx t82.2.1)) E (run_assign rfl (E.get 0 rfl)) fun a E => ?_
 refine wpList_nil ?_
 refine then_n ?_
 refine wp_seq ?_
 refine wp_seq ?_
 refine wp_region_lit ?_
 refine ep (v := .pointer (some ⟨rb, 0, none⟩)) E (run_move rfl (E.get 13 rfl)) fun a E => ?_
 refine ep (v := .pointer (some ⟨rb, 0, none⟩)) E (run_nilchk rfl (E.get 0 rfl)) fun a E => ?_
 refine ep (v := .pointer (some ⟨rb, 0, none⟩)) E (fa59_0 rfl (E.get 0 rfl)) fun a E => ?_
 refine env_one70 (d := 24) E rfl (by decide) rfl (wanted_none rfl _) rfl rfl fun a w1 b83 eb83 hbb83 f1 E => ?_
 have hR := Rd.fr hR f1 (fun r hr => id)
 have hO := ow.fr hO f1 (fun _ _ h => h)
 have hBs := Nat.le_trans hBs f1.size
 have hbd := f1.obj hbd id
 have hf := hf.trans' f1 (fun _ _ h => h.elim)
 clear f1
 have hsb83 := src_one (f := stL) (c := 1) (G := w1.heap.size) hbb83 (lt_of_blk hbb83)
 clear hbb83 eb83
 refine env_call (d := 25) (v := .bool (sees 4 [cDash] l82)) E rfl (by decide) rfl (wanted_none rfl _) (run_call3 (enters_of Tryz.func55 (by kernel_rfl) rfl) rfl rfl (E.get 1 rfl) rfl (E.get 0 rfl)) (sees_calls (xs := [cDash]) hR ⟨_, 1, rfl, Nat.le_refl _, by omega, hsb83, fun h => by cases h⟩ 4) fun a w1 f1 E => ?_
 have hR := Rd.fr hR f1 (fun r hr => id)
 have hO := ow.fr hO f1 (fun _ _ h => h)
 have hBs := Nat.le_trans hBs f1.size
 have hbd := f1.obj hbd id
 have hf := hf.trans' f1 (fun _ _ h => h.elim)
 clear f1
 refine wpList_nil ?_
 refine then_n ?_
 cases hq84 : (sees 4 [cDash] l82) with
 | false =>
  rw [hq84] at E
  refine wp_cond_false (E.get 0 rfl) ?_
  refine wp_skip ?_
  refine then_n ?_
  refine wp_block ?_
  have hdy : dys en ts = .ok (((idx t82.2.1), (idx t82.2.1)), l82) := by
   unfold dys
   rw [htk82]
   simp only
   rw [if_neg (by rw [hq84]; simp)]
  obtain ⟨f, hfe⟩ : ∃ f, f = (idx t82.2.1) := ⟨_, rfl⟩
  obtain ⟨t, hte⟩ : ∃ t, t = (idx t82.2.1) := ⟨_, rfl⟩
  have hdy : dys en ts = .ok ((f, t), l82) := by rw [hfe, hte]; exact hdy
  have hf0 : 0 ≤ f ∧ f < 7 := by rw [hfe]; omega
  have ht0 : 0 ≤ t ∧ t < 7 := by rw [hte]; omega
  have hP := part_eq hdy
  have hlen := dys_len hdy
  have E := E.of (L' := [(0, .pointer (some ⟨rb, 0, none⟩)), (3, .int .i64 f), (4, .int .i64 t)]) ⟨E.get 18 rfl, (E.get 7 rfl).trans (by rw [hfe]), (E.get 5 rfl).trans (by rw [hte]), trivial⟩
  refine wp_loop (fun a w2 => ∃ (l : List (Tok Int)) (acc : List Sp) (sv : Value), Env 119 [(0, .pointer (some ⟨rb, 0, none⟩)), (3, .int .i64 f), (4, .int .i64 t)] a ∧ Rd w2 rb G en l sv ∧ oSp w2 B sv (ss ++ acc) ∧ Tk l ∧ part en ts = pre acc (timesT en f t l) ∧ Fr (fun r => r = rb ∨ B ≤ r) w w2 ∧ B ≤ w2.heap.size ∧ acc.length + 14 * l.length ≤ 14 * ts.length) (fun _ w2 => rdLen w2 rb) ?_ ?_
  ·exact ⟨l82, [], _, E, hR, by rw [List.append_nil]; exact hO, hk, hP, hf, hBs, by simp only [List.length_nil]; omega⟩
  clear E hR hO hk hP hf hBs hdy hlen hfe hte
  rintro a w2 ⟨l, acc, sv, E, hR, hO, hk, hP, hf, hBs, hal⟩
  have hlen2 := hR.len
  refine wp_block ?_
  refine wp_seq ?_
  refine wp_region_lit ?_
  refine ep (v := .pointer (some ⟨rb, 0, none⟩)) E (run_move rfl (E.get 0 rfl)) fun a E => ?_
  rcases hck85 : clock en 23 l with ⟨c85, x85⟩ | ⟨⟨m85, y85⟩, l85⟩
  ·skip
   refine env_callp (ch := pn c85 x85) (R := fun w8 => Fr (fun r => r = rb) w2 w8) (wanted_none rfl _) (run_call2 (enters_of Tryz.func80 (by kernel_rfl) rfl) rfl rfl (E.get 0 rfl) rfl) ((clock_calls (most := 23) hR hk).mono fun e w8 h => by unfold StepP at h; rw [hck85] at h; exact ⟨h.2, h.1⟩) fun w1 f1 => ?_
   have hf := hf.trans' f1 (fun r hr e => by (try simp only at e); first | exact e | exact .inl e)
   refine then_p ?_
   refine blk_p ?_
   refine then_p ?_
   refine blk_p ?_
   refine pan_end E ⟨hf, ?_⟩
   rw [hP, timesT_err (by
    unfold time
    rw [hck85]
    try simp only
    )]
   rfl
  refine env_callv (d := 40) (R := fun u w8 => u = .tuple #[.int .i64 m85, .int .i64 y85] ∧ Rd w8 rb G en l85 sv ∧ Fr (fun r => r = rb) w2 w8) E rfl (by decide) rfl (wanted_none rfl _) (run_call2 (enters_of Tryz.func80 (by kernel_rfl) rfl) rfl rfl (E.get 0 rfl) rfl) ((clock_calls (most := 23) hR hk).mono fun e w8 h => by unfold StepP at h; rw [hck85] at h; exact ⟨_, h.2.1, rfl, h.2.2, h.1⟩) fun a w1 u ⟨hu, hR2, f1⟩ E => ?_
  subst hu
  have hO := ow.fr hO f1 (fun k hk e => by have := (hO.lt hk).1; (try simp only at e); omega)
  have hBs := Nat.le_trans hBs f1.size
  have hf := hf.trans' f1 (fun r hr => (fun e => by (try simp only at e); omega))
  clear f1
  have hR := hR2
  clear hR2
  obtain ⟨hm085, hm185, hm285, hk⟩ := clock_rng hk hck85
  refine ep (v := .tuple #[.int .i64 m85, .int .i64 y85]) E (run_move rfl (E.get 0 rfl)) fun a E => ?_
  refine ep (v := .int .i64 m85) E (run_ext0 rfl (E.get 0 rfl)) fun a E => ?_
  refine ep (v := .int .i64 y85) E (run_ext1 rfl (E.get 1 rfl)) fun a E => ?_
  refine ep (v := .int .i64 m85) E (run_assign rfl (E.get 1 rfl)) fun a E => ?_
  refine ep (v := .int .i64 y85) E (run_assign rfl (E.get 1 rfl)) fun a E => ?_
  refine wpList_nil ?_
  refine then_n ?_
  refine wp_seq ?_
  refine wp_region_lit ?_
  refine ep (v := .pointer (some ⟨rb, 0, none⟩)) E (run_move rfl (E.get 7 rfl)) fun a E => ?_
  refine ep (v := .pointer (some ⟨rb, 0, none⟩)) E (run_nilchk rfl (E.get 0 rfl)) fun a E => ?_
  refine ep (v := .pointer (some ⟨rb, 0, none⟩)) E (fa59_0 rfl (E.get 0 rfl)) fun a E => ?_
  refine env_one70 (d := 46) E rfl (by decide) rfl (wanted_none rfl _) rfl rfl fun a w1 b86 eb86 hbb86 f1 E => ?_
  have hR := Rd.fr hR f1 (fun r hr => id)
  have hO := ow.fr hO f1 (fun _ _ h => h)
  have hBs := Nat.le_trans hBs f1.size
  have hf := hf.trans' f1 (fun _ _ h => h.elim)
  clear f1
  have hsb86 := src_one (f := stL) (c := 1) (G := w1.heap.size) hbb86 (lt_of_blk hbb86)
  clear hbb86 eb86
  rcases htk87 : take en 4 [cDash] l85 with ⟨c87, x87⟩ | ⟨t87, l87⟩
  ·skip
   refine env_callp (ch := pn c87 x87) (R := fun w8 => Fr (fun r => r = rb) w1 w8) (wanted_none rfl _) (run_call3 (enters_of Tryz.func56 (by kernel_rfl) rfl) rfl rfl (E.get 1 rfl) rfl (E.get 0 rfl)) ((take_calls (xs := [cDash]) hR ⟨_, 1, rfl, Nat.le_refl _, by omega, hsb86, fun h => by cases h⟩ 4).mono fun e w8 h => by unfold StepP at h; rw [htk87] at h; exact ⟨h.2, h.1⟩) fun w1 f1 => ?_
   have hf := hf.trans' f1 (fun r hr e => by (try simp only at e); first | exact e | exact .inl e)
   refine then_p ?_
   refine blk_p ?_
   refine then_p ?_
   refine blk_p ?_
   refine pan_end E ⟨hf, ?_⟩
   rw [hP, timesT_err (by
    unfold time
    rw [hck85]
    try simp only
    rw [htk87]
    try simp only
    )]
   rfl
  refine env_callv (d := 47) (R := fun u w8 => u = .agg (tkA t87) ∧ Rd w8 rb G en l87 sv ∧ Fr (fun r => r = rb) w1 w8) E rfl (by decide) rfl (wanted_none rfl _) (run_call3 (enters_of Tryz.func56 (by kernel_rfl) rfl) rfl rfl (E.get 1 rfl) rfl (E.get 0 rfl)) ((take_calls (xs := [cDash]) hR ⟨_, 1, rfl, Nat.le_refl _, by omega, hsb86, fun h => by cases h⟩ 4).mono fun e w8 h => by unfold StepP at h; rw [htk87] at h; exact ⟨_, h.2.1, rfl, h.2.2, h.1⟩) fun a w1 u ⟨hu, hR2, f1⟩ E => ?_
  subst hu
  have hO := ow.fr hO f1 (fun k hk e => by have := (hO.lt hk).1; (try simp only at e); omega)
  have hBs := Nat.le_trans hBs f1.size
  have hf := hf.trans' f1 (fun r hr => (fun e => by (try simp only at e); omega))
  clear f1
  have hR := hR2
  clear hR2
  obtain ⟨hto87, hkd87, hk⟩ := take_tk hk htk87
  have hin87 := (take_ok htk87).2.2
  refine wpList_nil ?_
  refine then_n ?_
  refine wp_seq ?_
  refine wp_region_lit ?_
  refine ep (v := .pointer (some ⟨rb, 0, none⟩)) E (run_move rfl (E.get 12 rfl)) fun a E => ?_
  rcases hck88 : clock en 24 l87 with ⟨c88, x88⟩ | ⟨⟨m88, y88⟩, l88⟩
  ·skip
   refine env_callp (ch := pn c88 x88) (R := fun w8 => Fr (fun r => r = rb) w1 w8) (wanted_none rfl _) (run_call2 (enters_of Tryz.func80 (by kernel_rfl) rfl) rfl rfl (E.get 0 rfl) rfl) ((clock_calls (most := 24) hR hk).mono fun e w8 h => by unfold StepP at h; rw [hck88] at h; exact ⟨h.2, h.1⟩) fun w1 f1 => ?_
   have hf := hf.trans' f1 (fun r hr e => by (try simp only at e); first | exact e | exact .inl e)
   refine then_p ?_
   refine blk_p ?_
   refine then_p ?_
   refine blk_p ?_
   refine pan_end E ⟨hf, ?_⟩
   rw [hP, timesT_err (by
    unfold time
    rw [hck85]
    try simp only
    rw [htk87]
    try simp only
    rw [hck88]
    try simp only
    )]
   rfl
  refine env_callv (d := 50) (R := fun u w8 => u = .tuple #[.int .i64 m88, .int .i64 y88] ∧ Rd w8 rb G en l88 sv ∧ Fr (fun r => r = rb) w1 w8) E rfl (by decide) rfl (wanted_none rfl _) (run_call2 (enters_of Tryz.func80 (by kernel_rfl) rfl) rfl rfl (E.get 0 rfl) rfl) ((clock_calls (most := 24) hR hk).mono fun e w8 h => by unfold StepP at h; rw [hck88] at h; exact ⟨_, h.2.1, rfl, h.2.2, h.1⟩) fun a w1 u ⟨hu, hR2, f1⟩ E => ?_
  subst hu
  have hO := ow.fr hO f1 (fun k hk e => by have := (hO.lt hk).1; (try simp only at e); omega)
  have hBs := Nat.le_trans hBs f1.size
  have hf := hf.trans' f1 (fun r hr => (fun e => by (try simp only at e); omega))
  clear f1
  have hR := hR2
  clear hR2
  obtain ⟨hm088, hm188, hm288, hk⟩ := clock_rng hk hck88
  refine ep (v := .tuple #[.int .i64 m88, .int .i64 y88]) E (run_move rfl (E.get 0 rfl)) fun a E => ?_
  refine ep (v := .int .i64 m88) E (run_ext0 rfl (E.get 0 rfl)) fun a E => ?_
  refine ep (v := .int .i64 y88) E (run_ext1 rfl (E.get 1 rfl)) fun a E => ?_
  refine ep (v := .int .i64 m88) E (run_assign rfl (E.get 1 rfl)) fun a E => ?_
  refine ep (v := .int .i64 y88) E (run_assign rfl (E.get 1 rfl)) fun a E => ?_
  refine wpList_nil ?_
  refine then_n ?_
  refine wp_seq ?_
  refine wp_block ?_
  refine wp_seq ?_
  refine wp_region_lit ?_
  refine ep (v := .int .i64 m85) E (run_move rfl (E.get 13 rfl)) fun a E => ?_
  refine ep (v := .int .i64 m88) E (run_move rfl (E.get 2 rfl)) fun a E => ?_
  refine ep (v := .bool (m85 == m88)) E (run_ieql (E.get 1 rfl) (E.get 0 rfl) Tryz.underlying3 rfl) fun a E => ?_
  refine ep (v := .bool (m85 == m88)) E (run_assign rfl (E.get 0 rfl)) fun a E => ?_
  refine wpList_nil ?_
  refine then_n ?_
  cases hq89 : (m85 == m88) with
  | false =>
   rw [hq89] at E
   refine wp_cond_false (E.get 0 rfl) ?_
   refine wp_seq ?_
   refine wp_region_lit ?_
   refine ep (v := .int .i64 m88) E (run_move rfl (E.get 5 rfl)) fun a E => ?_
   refine ep (v := .int .i64 m85) E (run_move rfl (E.get 18 rfl)) fun a E => ?_
   refine ep (v := .bool (decide (m88 < m85))) E (run_ilss (E.get 1 rfl) (E.get 0 rfl) Tryz.underlying3 rfl) fun a E => ?_
   refine ep (v := .bool (decide (m88 < m85))) E (run_assign rfl (E.get 0 rfl)) fun a E => ?_
   refine wpList_nil ?_
   refine then_n ?_
   cases hq90 : (decide (m88 < m85)) with
   | false =>
    rw [hq90] at E
    refine wp_cond_false (E.get 0 rfl) ?_
    refine wp_skip ?_
    refine blk_n ?_
    refine then_n ?_
    refine wp_seq ?_
    refine wp_seq ?_
    refine wp_region_lit ?_
    refine ep (v := .int .i64 t) E (run_move rfl (E.get 29 rfl)) fun a E => ?_
    refine ep (v := .int .i64 f) E (run_move rfl (E.get 29 rfl)) fun a E => ?_
    refine ep (v := .int .i64 (t - f)) E (run_isub Tryz.underlying3 (E.get 1 rfl) (E.get 0 rfl) (by omega) (by omega) rfl) fun a E => ?_
    refine ep (v := .int .i64 ((t - f) + 7)) E (run_iadd Tryz.underlying3 (E.get 0 rfl) rfl (by omega) (by omega) rfl) fun a E => ?_
    refine ep (v := .int .i64 (((t - f) + 7) % 7)) E (run_irem (E.get 0 rfl) rfl (by omega) (by omega) (by omega) (by omega) rfl) fun a E => ?_
    refine ep (v := .int .i64 ((((t - f) + 7) % 7) + 1)) E (run_iadd Tryz.underlying3 (E.get 0 rfl) rfl (by omega) (by omega) rfl) fun a E => ?_
    refine ep (v := .int .i64 0) E (run_move rfl rfl) fun a E => ?_
    refine wpList_nil ?_
    refine then_n ?_
    refine wp_block ?_
    obtain ⟨n, hn⟩ : ∃ n : Nat, n = ((t - f + 7) % 7 + 1).toNat := ⟨_, rfl⟩
    have hnn : (t - f + 7) % 7 + 1 = (n : Int) := by omega
    have hn7 : n ≤ 7 := by omega
    rw [hnn] at E
    refine wp_loop (fun a w2 => ∃ (i : Nat) (sv2 : Value), Env 119 [(0, .pointer (some ⟨rb, 0, none⟩)), (3, .int .i64 f), (4, .int .i64 t), (5, .int .i64 m85), (7, .int .i64 m88), (71, .int .i64 (n : Int)), (72, .int .i64 (i : Int))] a ∧ i ≤ n ∧ Rd w2 rb G en l88 sv2 ∧ oSp w2 B sv2 (ss ++ acc ++ dayP f m85 m88 i) ∧ Fr (fun r => r = rb ∨ B ≤ r) w w2 ∧ B ≤ w2.heap.size) (fun a _ => n - (intOf (a.eval (.tmp 72))).toNat) ?_ ?_
    ·exact ⟨0, _, E.of ⟨E.get 34 rfl, E.get 35 rfl, E.get 36 rfl, E.get 28 rfl, E.get 16 rfl, E.get 1 rfl, E.get 0 rfl, trivial⟩, Nat.zero_le _, hR, by rw [show dayP f m85 m88 0 = [] from rfl, List.append_nil]; exact hO, hf, hBs⟩
    clear E
    rintro a w2 ⟨i, sv2, E, hi, hR, hO, hf, hBs⟩
    have hmu : n - (intOf (a.eval (.tmp 72))).toNat = n - i := by rw [E.get 6 rfl]; first | rfl | (simp [intOf]; done) | (simp only [intOf]; omega)
    rw [hmu]
    clear hmu
    refine wp_seq ?_
    refine wp_region_lit ?_
    refine ep (v := .bool (decide ((i : Int) < (n : Int)))) E (run_ilss (E.get 6 rfl) (E.get 5 rfl) Tryz.underlying3 rfl) fun a E => ?_
    refine wpList_nil ?_
    refine then_n ?_
    refine wp_seq ?_
    cases hq92 : (decide ((i : Int) < (n : Int))) with
    | false =>
     rw [hq92] at E
     have hie : i = n := by have := of_decide_eq_false hq92; omega
     refine wp_cond_false (E.get 0 rfl) ?_
     refine wp_exit ?_
     refine then_e ?_
     refine then_e ?_
     refine blk_e ?_
     refine then_n ?_
     refine wp_seq ?_
     refine wp_seq ?_
     have hti : time en f t l = .ok ((dayP f m85 m88 n), l88) := by
      unfold time
      rw [hck85]
      simp only
      rw [htk87]
      simp only
      rw [hck88]
      simp only
      rw [if_neg (by rw [hq89]; simp), if_neg (of_decide_eq_false hq90), day_n hf0.1 hf0.2 ht0.1 ht0.2, hnn]
      rfl
     rw [hie] at hO
     have hR9 := hR
     obtain ⟨hGr, lv, hrb, pl, cl, hlv, hlv0, hlv1, hts, hzl⟩ := hR9
     subst hlv
     have hO : oSp w2 B sv2 (ss ++ acc ++ (dayP f m85 m88 n)) := hO
     refine wp_region_lit ?_
     refine ep (v := .pointer (some ⟨rb, 0, none⟩)) E (run_move rfl (E.get 1 rfl)) fun a E => ?_
     refine ep (v := .pointer (some ⟨rb, 0, none⟩)) E (run_nilchk rfl (E.get 0 rfl)) fun a E => ?_
     refine ep (v := .pointer (some ⟨rb, 0, none⟩)) E (fa59_0 rfl (E.get 0 rfl)) fun a E => ?_
     refine env_one70 (d := 92) E rfl (by decide) rfl (wanted_none rfl _) rfl rfl fun a w1 b93 eb93 hbb93 f1 E => ?_
     have hR := Rd.fr hR f1 (fun r hr => id)
     have hO := ow.fr hO f1 (fun _ _ h => h)
     have hBs := Nat.le_trans hBs f1.size
     have hrb := f1.obj hrb id
     have hts := srcAt.fr hts f1 (fun r hr => id)
     have hf := hf.trans' f1 (fun _ _ h => h.elim)
     clear f1
     have hsb93 := src_one (f := stL) (c := 1) (G := w1.heap.size) hbb93 (lt_of_blk hbb93)
     clear hbb93 eb93
     refine env_call (d := 93) (v := .bool (sees 4 [cComma] l88)) E rfl (by decide) rfl (wanted_none rfl _) (run_call3 (enters_of Tryz.func55 (by kernel_rfl) rfl) rfl rfl (E.get 1 rfl) rfl (E.get 0 rfl)) (sees_calls (xs := [cComma]) hR ⟨_, 1, rfl, Nat.le_refl _, by omega, hsb93, fun h => by cases h⟩ 4) fun a w1 f1 E => ?_
     have hR := Rd.fr hR f1 (fun r hr => id)
     have hO := ow.fr hO f1 (fun _ _ h => h)
     have hBs := Nat.le_trans hBs f1.size
     have hrb := f1.obj hrb id
     have hts := srcAt.fr hts f1 (fun r hr => id)
     have hf := hf.trans' f1 (fun _ _ h => h.elim)
     clear f1
     refine ep (v := .bool (!(sees 4 [cComma] l88))) E (run_not rfl (E.get 0 rfl)) fun a E => ?_
     refine ep (v := .bool (!(sees 4 [cComma] l88))) E (run_move rfl (E.get 0 rfl)) fun a E => ?_
     cases hq94 : (sees 4 [cComma] l88) with
     | false =>
      rw [hq94] at E
      refine ek E rfl (E.get 0 rfl) fun a E => ?_
      refine ek E rfl (E.get 1 rfl) fun a E => ?_
      refine ek E rfl (E.get 2 rfl) fun a E => ?_
      refine ek E rfl (E.get 3 rfl) fun a E => ?_
      refine ek E rfl (E.get 4 rfl) fun a E => ?_
      refine ek E rfl (E.get 5 rfl) fun a E => ?_
      refine ek E rfl (E.get 6 rfl) fun a E => ?_
      refine ep (v := .bool true) E (run_pick_t rfl (E.get 7 rfl) rfl) fun a E => ?_
      refine ep (v := .bool true) E (run_move rfl (E.get 0 rfl)) fun a E => ?_
      refine ek E rfl (E.get 0 rfl) fun a E => ?_
      refine ek E rfl (E.get 1 rfl) fun a E => ?_
      refine ek E rfl (E.get 2 rfl) fun a E => ?_
      refine ek E rfl (E.get 3 rfl) fun a E => ?_
      refine ek E rfl (E.get 4 rfl) fun a E => ?_
      refine ek E rfl (E.get 5 rfl) fun a E => ?_
      refine ek E rfl (E.get 6 rfl) fun a E => ?_
      refine ek E rfl (E.get 7 rfl) fun a E => ?_
      refine ek E rfl (E.get 8 rfl) fun a E => ?_
      refine ep (v := .bool true) E (run_pick_t rfl (E.get 9 rfl) rfl) fun a E => ?_
      refine wpList_nil ?_
      refine then_n ?_
      refine wp_cond_true (E.get 0 rfl) ?_
      refine wp_ret ?_
      refine then_r ?_
      refine blk_r ?_
      refine then_r ?_
      refine blk_r ?_
      refine (ret_nil rfl E ⟨hf, ?_⟩).2
      rw [hP, timesT_end hti (more_see hq94)]
      exact ⟨rfl, hrB, hBs, _, hR, by rw [← List.append_assoc]; exact hO⟩
     | true =>
      rw [hq94] at E
      refine eg (v := .pointer (some ⟨rb, 0, none⟩)) E (w_yes (g := 6) (s := 95) E rfl rfl (by decide) (E.get 0 rfl)) (run_move rfl (E.get 8 rfl)) fun a E => ?_
      refine eg (v := .pointer (some ⟨rb, 0, none⟩)) E (w_yes (g := 6) (s := 95) E rfl rfl (by decide) (E.get 1 rfl)) (run_nilchk rfl (E.get 0 rfl)) fun a E => ?_
      refine eg (v := .pointer (some ⟨rb, 0, none⟩)) E (w_yes (g := 6) (s := 95) E rfl rfl (by decide) (E.get 2 rfl)) (fa59_0 rfl (E.get 0 rfl)) fun a E => ?_
      refine eg (v := .pointer (some ⟨rb, 0, none⟩)) E (w_yes (g := 6) (s := 95) E rfl rfl (by decide) (E.get 3 rfl)) (fa57_0 rfl (E.get 0 rfl)) fun a E => ?_
      refine eg (v := .slice (pl) l88.length cl) E (w_yes (g := 6) (s := 95) E rfl rfl (by decide) (E.get 4 rfl)) (run_ld34 rfl (E.get 0 rfl) (bx hrb 0 rfl)) fun a E => ?_
      refine eg (v := .int .i64 (l88.length : Int)) E (w_yes (g := 6) (s := 95) E rfl rfl (by decide) (E.get 5 rfl)) (run_len34 rfl (E.get 0 rfl)) fun a E => ?_
      refine eg (v := .bool (decide ((l88.length : Int) < 2))) E (w_yes (g := 6) (s := 95) E rfl rfl (by decide) (E.get 6 rfl)) (run_ilss (E.get 0 rfl) rfl Tryz.underlying3 rfl) fun a E => ?_
      refine ep (v := .bool (decide ((l88.length : Int) < 2))) E (run_pick_f rfl (E.get 7 rfl) (E.get 0 rfl)) fun a E => ?_
      refine ep (v := .bool (decide ((l88.length : Int) < 2))) E (run_move rfl (E.get 0 rfl)) fun a E => ?_
      cases hq95 : (decide ((l88.length : Int) < 2)) with
      | false =>
       rw [hq95] at E
       have h1l : 1 < l88.length := by have := of_decide_eq_false hq95; omega
       obtain ⟨u, hu⟩ : ∃ y, l88[1]? = some y := ⟨_, List.getElem?_eq_getElem h1l⟩
       obtain ⟨g96, off96, hpe96, hgl96, hrow96⟩ := hts.at h1l
       replace hrow96 := hrow96 1 u hu
       refine eg (v := .pointer (some ⟨rb, 0, none⟩)) E (w_yes (g := 15) (s := 104) E rfl rfl (by decide) (E.get 0 rfl)) (run_move rfl (E.get 17 rfl)) fun a E => ?_
       refine eg (v := .pointer (some ⟨rb, 0, none⟩)) E (w_yes (g := 15) (s := 104) E rfl rfl (by decide) (E.get 1 rfl)) (run_nilchk rfl (E.get 0 rfl)) fun a E => ?_
       refine eg (v := .pointer (some ⟨rb, 0, none⟩)) E (w_yes (g := 15) (s := 104) E rfl rfl (by decide) (E.get 2 rfl)) (fa59_0 rfl (E.get 0 rfl)) fun a E => ?_
       refine eg (v := .pointer (some ⟨rb, 0, none⟩)) E (w_yes (g := 15) (s := 104) E rfl rfl (by decide) (E.get 3 rfl)) (fa57_0 rfl (E.get 0 rfl)) fun a E => ?_
       refine eg (v := .slice (pl) l88.length cl) E (w_yes (g := 15) (s := 104) E rfl rfl (by decide) (E.get 4 rfl)) (run_ld34 rfl (E.get 0 rfl) (bx hrb 0 rfl)) fun a E => ?_
       refine eg (v := .pointer (some ⟨g96, (off96 + 1 * 3), none⟩)) E (w_yes (g := 15) (s := 104) E rfl rfl (by decide) (E.get 5 rfl)) (run_index34 (i := 1) rfl ((E.get 0 rfl).trans (by rw [hpe96])) rfl h1l) fun a E => ?_
       refine eg (v := .pointer (some ⟨g96, ((off96 + 1 * 3) + 0), none⟩)) E (w_yes (g := 15) (s := 104) E rfl rfl (by decide) (E.get 6 rfl)) (fa38_0 rfl (E.get 0 rfl)) fun a E => ?_
       refine eg (v := .int .i64 u.1) E (w_yes (g := 15) (s := 104) E rfl rfl (by decide) (E.get 7 rfl)) (run_ldi rfl (E.get 0 rfl) (hrow96 0 _ rfl)) fun a E => ?_
       refine eg (v := .bool (u.1 != 2)) E (w_yes (g := 15) (s := 104) E rfl rfl (by decide) (E.get 8 rfl)) (run_ineq (E.get 0 rfl) rfl Tryz.underlying3 rfl) fun a E => ?_
       refine ep (v := .bool (u.1 != 2)) E (run_pick_f rfl (E.get 9 rfl) (E.get 0 rfl)) fun a E => ?_
       refine wpList_nil ?_
       refine then_n ?_
       cases hq97 : (u.1 != 2) with
       | false =>
        rw [hq97] at E
        refine wp_cond_false (E.get 0 rfl) ?_
        refine wp_skip ?_
        refine then_n ?_
        have hmo : more l88 = true := by rw [more_at hu, hq94]; have h9 := hq97; simp only [bne_eq_false_iff_eq] at h9; rw [h9]; rfl
        refine wp_region_lit ?_
        refine ep (v := .pointer (some ⟨rb, 0, none⟩)) E (run_move rfl (E.get 27 rfl)) fun a E => ?_
        refine ep (v := .pointer (some ⟨rb, 0, none⟩)) E (run_nilchk rfl (E.get 0 rfl)) fun a E => ?_
        refine ep (v := .pointer (some ⟨rb, 0, none⟩)) E (fa59_0 rfl (E.get 0 rfl)) fun a E => ?_
        rcases htk98 : take en 4 [] l88 with ⟨c98, x98⟩ | ⟨t98, l98⟩
        ·skip
         refine env_callp (ch := pn c98 x98) (R := fun w8 => Fr (fun r => r = rb) w1 w8) (wanted_none rfl _) (run_call3 (enters_of Tryz.func56 (by kernel_rfl) rfl) rfl rfl (E.get 0 rfl) rfl rfl) ((take_calls (xs := []) hR (Src.nil _) 4).mono fun e w8 h => by unfold StepP at h; rw [htk98] at h; exact ⟨h.2, h.1⟩) fun w1 f1 => ?_
         have hf := hf.trans' f1 (fun r hr e => by (try simp only at e); first | exact e | exact .inl e)
         obtain ⟨t9, l9, h9, _⟩ := take_any (en := en) hq94
         rw [h9] at htk98
         cases htk98
        refine env_callv (d := 118) (R := fun u w8 => u = .agg (tkA t98) ∧ Rd w8 rb G en l98 sv2 ∧ Fr (fun r => r = rb) w1 w8) E rfl (by decide) rfl (wanted_none rfl _) (run_call3 (enters_of Tryz.func56 (by kernel_rfl) rfl) rfl rfl (E.get 0 rfl) rfl rfl) ((take_calls (xs := []) hR (Src.nil _) 4).mono fun e w8 h => by unfold StepP at h; rw [htk98] at h; exact ⟨_, h.2.1, rfl, h.2.2, h.1⟩) fun a w1 u ⟨hu, hR2, f1⟩ E => ?_
        subst hu
        have hO := ow.fr hO f1 (fun k hk e => by have := (hO.lt hk).1; (try simp only at e); omega)
        have hBs := Nat.le_trans hBs f1.size
        have hf := hf.trans' f1 (fun r hr => (fun e => by (try simp only at e); omega))
        clear f1
        have hR := hR2
        clear hR2
        obtain ⟨hto98, hkd98, hk⟩ := take_tk hk htk98
        have hin98 := (take_ok htk98).2.2
        have htl98 : l88 = t98 :: l98 := (take_ok htk98).1
        refine wpList_nil ?_
        refine blk_n ?_
        refine then_n ?_
        have hPn : part en ts = pre (acc ++ (dayP f m85 m88 n)) (timesT en f t l98) := by rw [hP, timesT_more hti hmo, htl98]; rfl
        have hl9 := time_ok hti
        have hl8 : l88.length = l98.length + 1 := by rw [htl98]; rfl
        refine ⟨⟨l98, acc ++ (dayP f m85 m88 n), sv2, E.of ⟨E.get 31 rfl, E.get 32 rfl, E.get 33 rfl, trivial⟩, hR, by rw [← List.append_assoc]; exact hO, hk, hPn, hf, hBs, by have := dayP_len f m85 m88 n; simp only [List.length_append]; omega⟩, by have := hR.len; show rdLen _ rb < rdLen _ rb; omega⟩
       | true =>
        rw [hq97] at E
        refine wp_cond_true (E.get 0 rfl) ?_
        refine wp_ret ?_
        refine then_r ?_
        refine blk_r ?_
        refine then_r ?_
        refine blk_r ?_
        refine (ret_nil rfl E ⟨hf, ?_⟩).2
        rw [hP, timesT_end hti ((by rw [more_at hu]; have h9 := hq97; simp only [bne_iff_ne, ne_eq] at h9; rw [beq_eq_false_iff_ne.2 h9, Bool.and_false]))]
        exact ⟨rfl, hrB, hBs, _, hR, by rw [← List.append_assoc]; exact hO⟩
      | true =>
       rw [hq95] at E
       refine ek E rfl (E.get 0 rfl) fun a E => ?_
       refine ek E rfl (E.get 1 rfl) fun a E => ?_
       refine ek E rfl (E.get 2 rfl) fun a E => ?_
       refine ek E rfl (E.get 3 rfl) fun a E => ?_
       refine ek E rfl (E.get 4 rfl) fun a E => ?_
       refine ek E rfl (E.get 5 rfl) fun a E => ?_
       refine ek E rfl (E.get 6 rfl) fun a E => ?_
       refine ek E rfl (E.get 7 rfl) fun a E => ?_
       refine ek E rfl (E.get 8 rfl) fun a E => ?_
       refine ep (v := .bool true) E (run_pick_t rfl (E.get 9 rfl) rfl) fun a E => ?_
       refine wpList_nil ?_
       refine then_n ?_
       refine wp_cond_true (E.get 0 rfl) ?_
       refine wp_ret ?_
       refine then_r ?_
       refine blk_r ?_
       refine then_r ?_
       refine blk_r ?_
       refine (ret_nil rfl E ⟨hf, ?_⟩).2
       rw [hP, timesT_end hti (more_short (by have := of_decide_eq_true hq95; omega))]
       exact ⟨rfl, hrB, hBs, _, hR, by rw [← List.append_assoc]; exact hO⟩
    | true =>
     rw [hq92] at E
     have hlt : i < n := by have := of_decide_eq_true hq92; omega
     refine wp_cond_true (E.get 0 rfl) ?_
     refine wp_skip ?_
     refine then_n ?_
     refine wp_seq ?_
     refine wp_block ?_
     refine wp_seq ?_
     refine wp_region_lit ?_
     refine ep (v := .int .i64 (i : Int)) E (run_move rfl (E.get 7 rfl)) fun a E => ?_
     refine ep (v := .int .i64 (i : Int)) E (run_assign rfl (E.get 0 rfl)) fun a E => ?_
     refine wpList_nil ?_
     refine then_n ?_
     refine wp_seq ?_
     refine wp_region_lit ?_
     refine ep (v := .int .i64 f) E (run_move rfl (E.get 4 rfl)) fun a E => ?_
     refine ep (v := .int .i64 (i : Int)) E (run_move rfl (E.get 1 rfl)) fun a E => ?_
     refine ep (v := .int .i64 (f + (i : Int))) E (run_iadd Tryz.underlying3 (E.get 1 rfl) (E.get 0 rfl) (by omega) (by omega) rfl) fun a E => ?_
     refine ep (v := .int .i64 ((f + (i : Int)) % 7)) E (run_irem (E.get 0 rfl) rfl (by omega) (by omega) (by omega) (by omega) rfl) fun a E => ?_
     refine ep (v := .int .i64 (((f + (i : Int)) % 7) * 1440)) E (run_imul Tryz.underlying3 (E.get 0 rfl) rfl (by omega) (by omega) rfl) fun a E => ?_
     refine ep (v := .int .i64 (((f + (i : Int)) % 7) * 1440)) E (run_assign rfl (E.get 0 rfl)) fun a E => ?_
     refine wpList_nil ?_
     refine then_n ?_
     refine wp_region_lit ?_
     refine ep (v := .pointer (some ⟨rb, 0, none⟩)) E (run_move rfl (E.get 9 rfl)) fun a E => ?_
     refine ep (v := .int .i64 (((f + (i : Int)) % 7) * 1440)) E (run_move rfl (E.get 1 rfl)) fun a E => ?_
     refine ep (v := .int .i64 m85) E (run_move rfl (E.get 14 rfl)) fun a E => ?_
     refine ep (v := .int .i64 ((((f + (i : Int)) % 7) * 1440) + m85)) E (run_iadd Tryz.underlying3 (E.get 1 rfl) (E.get 0 rfl) (by omega) (by omega) rfl) fun a E => ?_
     refine ep (v := .int .i64 (((f + (i : Int)) % 7) * 1440)) E (run_move rfl (E.get 4 rfl)) fun a E => ?_
     refine ep (v := .int .i64 m88) E (run_move rfl (E.get 18 rfl)) fun a E => ?_
     refine ep (v := .int .i64 ((((f + (i : Int)) % 7) * 1440) + m88)) E (run_iadd Tryz.underlying3 (E.get 1 rfl) (E.get 0 rfl) (by omega) (by omega) rfl) fun a E => ?_
     refine env_callv (d := 87) (R := fun u w8 => u = .tuple #[] ∧ RdO w8 rb G B en l88 ((ss ++ acc ++ dayP f m85 m88 i) ++ addL ((((f + (i : Int)) % 7) * 1440) + m85) ((((f + (i : Int)) % 7) * 1440) + m88)) ∧ Fr (fun r => r = rb ∨ B ≤ r) w2 w8) E rfl (by decide) rfl (wanted_none rfl _) (run_call3 (enters_of Tryz.func57 (by kernel_rfl) rfl) rfl rfl (E.get 6 rfl) (E.get 3 rfl) (E.get 0 rfl)) ((add_calls ⟨hrB, hBs, _, hR, hO⟩ (by omega) (by omega) (by have := dayP_len f m85 m88 i; simp only [List.length_append]; omega)).mono fun e w8 h => by obtain ⟨rfl, h⟩ := h; exact ⟨_, rfl, rfl, h⟩) fun a w1 u ⟨hu, hRO, f1⟩ E => ?_
     subst hu
     have hf := hf.trans f1
     clear hR hO hBs f1
     obtain ⟨_, hBs, sv99, hR, hO⟩ := hRO
     refine wpList_nil ?_
     refine blk_n ?_
     refine then_n ?_
     refine wp_region_lit ?_
     refine ep (v := .int .i64 ((i : Int) + 1)) E (run_iadd Tryz.underlying3 (E.get 23 rfl) rfl (by omega) (by omega) rfl) fun a E => ?_
     refine env_set (d := 72) (v := .int .i64 ((i : Int) + 1)) E rfl (by decide) (wanted_none rfl _) (run_move rfl (E.get 0 rfl)) fun a E => ?_
     refine wpList_nil ?_
     refine then_n ?_
     refine ⟨⟨i + 1, sv99, E.of ⟨E.get 19 rfl, E.get 20 rfl, E.get 21 rfl, E.get 22 rfl, E.get 23 rfl, E.get 24 rfl, E.get 0 rfl, trivial⟩, hlt, hR, by rw [dayP_succ, tm7 hf0.1, ← List.append_assoc]; exact hO, hf, hBs⟩, ?_⟩
     rw [E.get 0 rfl]; simp only [intOf]; omega
   | true =>
    rw [hq90] at E
    refine wp_cond_true (E.get 0 rfl) ?_
    refine wp_region_lit ?_
    refine ep (v := .int .i64 m88) E (run_move rfl (E.get 9 rfl)) fun a E => ?_
    refine ep (v := .int .i64 (m88 + 1440)) E (run_iadd Tryz.underlying3 (E.get 0 rfl) rfl (by omega) (by omega) rfl) fun a E => ?_
    refine env_set (d := 7) (v := .int .i64 (m88 + 1440)) E rfl (by decide) (wanted_none rfl _) (run_assign rfl (E.get 0 rfl)) fun a E => ?_
    refine wpList_nil ?_
    refine blk_n ?_
    refine then_n ?_
    refine wp_seq ?_
    refine wp_seq ?_
    refine wp_region_lit ?_
    refine ep (v := .int .i64 t) E (run_move rfl (E.get 31 rfl)) fun a E => ?_
    refine ep (v := .int .i64 f) E (run_move rfl (E.get 31 rfl)) fun a E => ?_
    refine ep (v := .int .i64 (t - f)) E (run_isub Tryz.underlying3 (E.get 1 rfl) (E.get 0 rfl) (by omega) (by omega) rfl) fun a E => ?_
    refine ep (v := .int .i64 ((t - f) + 7)) E (run_iadd Tryz.underlying3 (E.get 0 rfl) rfl (by omega) (by omega) rfl) fun a E => ?_
    refine ep (v := .int .i64 (((t - f) + 7) % 7)) E (run_irem (E.get 0 rfl) rfl (by omega) (by omega) (by omega) (by omega) rfl) fun a E => ?_
    refine ep (v := .int .i64 ((((t - f) + 7) % 7) + 1)) E (run_iadd Tryz.underlying3 (E.get 0 rfl) rfl (by omega) (by omega) rfl) fun a E => ?_
    refine ep (v := .int .i64 0) E (run_move rfl rfl) fun a E => ?_
    refine wpList_nil ?_
    refine then_n ?_
    refine wp_block ?_
    obtain ⟨n, hn⟩ : ∃ n : Nat, n = ((t - f + 7) % 7 + 1).toNat := ⟨_, rfl⟩
    have hnn : (t - f + 7) % 7 + 1 = (n : Int) := by omega
    have hn7 : n ≤ 7 := by omega
    rw [hnn] at E
    refine wp_loop (fun a w2 => ∃ (i : Nat) (sv2 : Value), Env 119 [(0, .pointer (some ⟨rb, 0, none⟩)), (3, .int .i64 f), (4, .int .i64 t), (5, .int .i64 m85), (7, .int .i64 (m88 + 1440)), (71, .int .i64 (n : Int)), (72, .int .i64 (i : Int))] a ∧ i ≤ n ∧ Rd w2 rb G en l88 sv2 ∧ oSp w2 B sv2 (ss ++ acc ++ dayP f m85 (m88 + 1440) i) ∧ Fr (fun r => r = rb ∨ B ≤ r) w w2 ∧ B ≤ w2.heap.size) (fun a _ => n - (intOf (a.eval (.tmp 72))).toNat) ?_ ?_
    ·exact ⟨0, _, E.of ⟨E.get 36 rfl, E.get 37 rfl, E.get 38 rfl, E.get 30 rfl, E.get 7 rfl, E.get 1 rfl, E.get 0 rfl, trivial⟩, Nat.zero_le _, hR, by rw [show dayP f m85 (m88 + 1440) 0 = [] from rfl, List.append_nil]; exact hO, hf, hBs⟩
    clear E
    rintro a w2 ⟨i, sv2, E, hi, hR, hO, hf, hBs⟩
    have hmu : n - (intOf (a.eval (.tmp 72))).toNat = n - i := by rw [E.get 6 rfl]; first | rfl | (simp [intOf]; done) | (simp only [intOf]; omega)
    rw [hmu]
    clear hmu
    refine wp_seq ?_
    refine wp_region_lit ?_
    refine ep (v := .bool (decide ((i : Int) < (n : Int)))) E (run_ilss (E.get 6 rfl) (E.get 5 rfl) Tryz.underlying3 rfl) fun a E => ?_
    refine wpList_nil ?_
    refine then_n ?_
    refine wp_seq ?_
    cases hq101 : (decide ((i : Int) < (n : Int))) with
    | false =>
     rw [hq101] at E
     have hie : i = n := by have := of_decide_eq_false hq101; omega
     refine wp_cond_false (E.get 0 rfl) ?_
     refine wp_exit ?_
     refine then_e ?_
     refine then_e ?_
     refine blk_e ?_
     refine then_n ?_
     refine wp_seq ?_
     refine wp_seq ?_
     have hti : time en f t l = .ok ((dayP f m85 (m88 + 1440) n), l88) := by
      unfold time
      rw [hck85]
      simp only
      rw [htk87]
      simp only
      rw [hck88]
      simp only
      rw [if_neg (by rw [hq89]; simp), if_pos (of_decide_eq_true hq90), day_n hf0.1 hf0.2 ht0.1 ht0.2, hnn]
      rfl
     rw [hie] at hO
     have hR9 := hR
     obtain ⟨hGr, lv, hrb, pl, cl, hlv, hlv0, hlv1, hts, hzl⟩ := hR9
     subst hlv
     have hO : oSp w2 B sv2 (ss ++ acc ++ (dayP f m85 (m88 + 1440) n)) := hO
     refine wp_region_lit ?_
     refine ep (v := .pointer (some ⟨rb, 0, none⟩)) E (run_move rfl (E.get 1 rfl)) fun a E => ?_
     refine ep (v := .pointer (some ⟨rb, 0, none⟩)) E (run_nilchk rfl (E.get 0 rfl)) fun a E => ?_
     refine ep (v := .pointer (some ⟨rb, 0, none⟩)) E (fa59_0 rfl (E.get 0 rfl)) fun a E => ?_
     refine env_one70 (d := 92) E rfl (by decide) rfl (wanted_none rfl _) rfl rfl fun a w1 b102 eb102 hbb102 f1 E => ?_
     have hR := Rd.fr hR f1 (fun r hr => id)
     have hO := ow.fr hO f1 (fun _ _ h => h)
     have hBs := Nat.le_trans hBs f1.size
     have hrb := f1.obj hrb id
     have hts := srcAt.fr hts f1 (fun r hr => id)
     have hf := hf.trans' f1 (fun _ _ h => h.elim)
     clear f1
     have hsb102 := src_one (f := stL) (c := 1) (G := w1.heap.size) hbb102 (lt_of_blk hbb102)
     clear hbb102 eb102
     refine env_call (d := 93) (v := .bool (sees 4 [cComma] l88)) E rfl (by decide) rfl (wanted_none rfl _) (run_call3 (enters_of Tryz.func55 (by kernel_rfl) rfl) rfl rfl (E.get 1 rfl) rfl (E.get 0 rfl)) (sees_calls (xs := [cComma]) hR ⟨_, 1, rfl, Nat.le_refl _, by omega, hsb102, fun h => by cases h⟩ 4) fun a w1 f1 E => ?_
     have hR := Rd.fr hR f1 (fun r hr => id)
     have hO := ow.fr hO f1 (fun _ _ h => h)
     have hBs := Nat.le_trans hBs f1.size
     have hrb := f1.obj hrb id
     have hts := srcAt.fr hts f1 (fun r hr => id)
     have hf := hf.trans' f1 (fun _ _ h => h.elim)
     clear f1
     refine ep (v := .bool (!(sees 4 [cComma] l88))) E (run_not rfl (E.get 0 rfl)) fun a E => ?_
     refine ep (v := .bool (!(sees 4 [cComma] l88))) E (run_move rfl (E.get 0 rfl)) fun a E => ?_
     cases hq103 : (sees 4 [cComma] l88) with
     | false =>
      rw [hq103] at E
      refine ek E rfl (E.get 0 rfl) fun a E => ?_
      refine ek E rfl (E.get 1 rfl) fun a E => ?_
      refine ek E rfl (E.get 2 rfl) fun a E => ?_
      refine ek E rfl (E.get 3 rfl) fun a E => ?_
      refine ek E rfl (E.get 4 rfl) fun a E => ?_
      refine ek E rfl (E.get 5 rfl) fun a E => ?_
      refine ek E rfl (E.get 6 rfl) fun a E => ?_
      refine ep (v := .bool true) E (run_pick_t rfl (E.get 7 rfl) rfl) fun a E => ?_
      refine ep (v := .bool true) E (run_move rfl (E.get 0 rfl)) fun a E => ?_
      refine ek E rfl (E.get 0 rfl) fun a E => ?_
      refine ek E rfl (E.get 1 rfl) fun a E => ?_
      refine ek E rfl (E.get 2 rfl) fun a E => ?_
      refine ek E rfl (E.get 3 rfl) fun a E => ?_
      refine ek E rfl (E.get 4 rfl) fun a E => ?_
      refine ek E rfl (E.get 5 rfl) fun a E => ?_
      refine ek E rfl (E.get 6 rfl) fun a E => ?_
      refine ek E rfl (E.get 7 rfl) fun a E => ?_
      refine ek E rfl (E.get 8 rfl) fun a E => ?_
      refine ep (v := .bool true) E (run_pick_t rfl (E.get 9 rfl) rfl) fun a E => ?_
      refine wpList_nil ?_
      refine then_n ?_
      refine wp_cond_true (E.get 0 rfl) ?_
      refine wp_ret ?_
      refine then_r ?_
      refine blk_r ?_
      refine then_r ?_
      refine blk_r ?_
      refine (ret_nil rfl E ⟨hf, ?_⟩).2
      rw [hP, timesT_end hti (more_see hq103)]
      exact ⟨rfl, hrB, hBs, _, hR, by rw [← List.append_assoc]; exact hO⟩
     | true =>
      rw [hq103] at E
      refine eg (v := .pointer (some ⟨rb, 0, none⟩)) E (w_yes (g := 6) (s := 95) E rfl rfl (by decide) (E.get 0 rfl)) (run_move rfl (E.get 8 rfl)) fun a E => ?_
      refine eg (v := .pointer (some ⟨rb, 0, none⟩)) E (w_yes (g := 6) (s := 95) E rfl rfl (by decide) (E.get 1 rfl)) (run_nilchk rfl (E.get 0 rfl)) fun a E => ?_
      refine eg (v := .pointer (some ⟨rb, 0, none⟩)) E (w_yes (g := 6) (s := 95) E rfl rfl (by decide) (E.get 2 rfl)) (fa59_0 rfl (E.get 0 rfl)) fun a E => ?_
      refine eg (v := .pointer (some ⟨rb, 0, none⟩)) E (w_yes (g := 6) (s := 95) E rfl rfl (by decide) (E.get 3 rfl)) (fa57_0 rfl (E.get 0 rfl)) fun a E => ?_
      refine eg (v := .slice (pl) l88.length cl) E (w_yes (g := 6) (s := 95) E rfl rfl (by decide) (E.get 4 rfl)) (run_ld34 rfl (E.get 0 rfl) (bx hrb 0 rfl)) fun a E => ?_
      refine eg (v := .int .i64 (l88.length : Int)) E (w_yes (g := 6) (s := 95) E rfl rfl (by decide) (E.get 5 rfl)) (run_len34 rfl (E.get 0 rfl)) fun a E => ?_
      refine eg (v := .bool (decide ((l88.length : Int) < 2))) E (w_yes (g := 6) (s := 95) E rfl rfl (by decide) (E.get 6 rfl)) (run_ilss (E.get 0 rfl) rfl Tryz.underlying3 rfl) fun a E => ?_
      refine ep (v := .bool (decide ((l88.length : Int) < 2))) E (run_pick_f rfl (E.get 7 rfl) (E.get 0 rfl)) fun a E => ?_
      refine ep (v := .bool (decide ((l88.length : Int) < 2))) E (run_move rfl (E.get 0 rfl)) fun a E => ?_
      cases hq104 : (decide ((l88.length : Int) < 2)) with
      | false =>
       rw [hq104] at E
       have h1l : 1 < l88.length := by have := of_decide_eq_false hq104; omega
       obtain ⟨u, hu⟩ : ∃ y, l88[1]? = some y := ⟨_, List.getElem?_eq_getElem h1l⟩
       obtain ⟨g105, off105, hpe105, hgl105, hrow105⟩ := hts.at h1l
       replace hrow105 := hrow105 1 u hu
       refine eg (v := .pointer (some ⟨rb, 0, none⟩)) E (w_yes (g := 15) (s := 104) E rfl rfl (by decide) (E.get 0 rfl)) (run_move rfl (E.get 17 rfl)) fun a E => ?_
       refine eg (v := .pointer (some ⟨rb, 0, none⟩)) E (w_yes (g := 15) (s := 104) E rfl rfl (by decide) (E.get 1 rfl)) (run_nilchk rfl (E.get 0 rfl)) fun a E => ?_
       refine eg (v := .pointer (some ⟨rb, 0, none⟩)) E (w_yes (g := 15) (s := 104) E rfl rfl (by decide) (E.get 2 rfl)) (fa59_0 rfl (E.get 0 rfl)) fun a E => ?_
       refine eg (v := .pointer (some ⟨rb, 0, none⟩)) E (w_yes (g := 15) (s := 104) E rfl rfl (by decide) (E.get 3 rfl)) (fa57_0 rfl (E.get 0 rfl)) fun a E => ?_
       refine eg (v := .slice (pl) l88.length cl) E (w_yes (g := 15) (s := 104) E rfl rfl (by decide) (E.get 4 rfl)) (run_ld34 rfl (E.get 0 rfl) (bx hrb 0 rfl)) fun a E => ?_
       refine eg (v := .pointer (some ⟨g105, (off105 + 1 * 3), none⟩)) E (w_yes (g := 15) (s := 104) E rfl rfl (by decide) (E.get 5 rfl)) (run_index34 (i := 1) rfl ((E.get 0 rfl).trans (by rw [hpe105])) rfl h1l) fun a E => ?_
       refine eg (v := .pointer (some ⟨g105, ((off105 + 1 * 3) + 0), none⟩)) E (w_yes (g := 15) (s := 104) E rfl rfl (by decide) (E.get 6 rfl)) (fa38_0 rfl (E.get 0 rfl)) fun a E => ?_
       refine eg (v := .int .i64 u.1) E (w_yes (g := 15) (s := 104) E rfl rfl (by decide) (E.get 7 rfl)) (run_ldi rfl (E.get 0 rfl) (hrow105 0 _ rfl)) fun a E => ?_
       refine eg (v := .bool (u.1 != 2)) E (w_yes (g := 15) (s := 104) E rfl rfl (by decide) (E.get 8 rfl)) (run_ineq (E.get 0 rfl) rfl Tryz.underlying3 rfl) fun a E => ?_
       refine ep (v := .bool (u.1 != 2)) E (run_pick_f rfl (E.get 9 rfl) (E.get 0 rfl)) fun a E => ?_
       refine wpList_nil ?_
       refine then_n ?_
       cases hq106 : (u.1 != 2) with
       | false =>
        rw [hq106] at E
        refine wp_cond_false (E.get 0 rfl) ?_
        refine wp_skip ?_
        refine then_n ?_
        have hmo : more l88 = true := by rw [more_at hu, hq103]; have h9 := hq106; simp only [bne_eq_false_iff_eq] at h9; rw [h9]; rfl
        refine wp_region_lit ?_
        refine ep (v := .pointer (some ⟨rb, 0, none⟩)) E (run_move rfl (E.get 27 rfl)) fun a E => ?_
        refine ep (v := .pointer (some ⟨rb, 0, none⟩)) E (run_nilchk rfl (E.get 0 rfl)) fun a E => ?_
        refine ep (v := .pointer (some ⟨rb, 0, none⟩)) E (fa59_0 rfl (E.get 0 rfl)) fun a E => ?_
        rcases htk107 : take en 4 [] l88 with ⟨c107, x107⟩ | ⟨t107, l107⟩
        ·skip
         refine env_callp (ch := pn c107 x107) (R := fun w8 => Fr (fun r => r = rb) w1 w8) (wanted_none rfl _) (run_call3 (enters_of Tryz.func56 (by kernel_rfl) rfl) rfl rfl (E.get 0 rfl) rfl rfl) ((take_calls (xs := []) hR (Src.nil _) 4).mono fun e w8 h => by unfold StepP at h; rw [htk107] at h; exact ⟨h.2, h.1⟩) fun w1 f1 => ?_
         have hf := hf.trans' f1 (fun r hr e => by (try simp only at e); first | exact e | exact .inl e)
         obtain ⟨t9, l9, h9, _⟩ := take_any (en := en) hq103
         rw [h9] at htk107
         cases htk107
        refine env_callv (d := 118) (R := fun u w8 => u = .agg (tkA t107) ∧ Rd w8 rb G en l107 sv2 ∧ Fr (fun r => r = rb) w1 w8) E rfl (by decide) rfl (wanted_none rfl _) (run_call3 (enters_of Tryz.func56 (by kernel_rfl) rfl) rfl rfl (E.get 0 rfl) rfl rfl) ((take_calls (xs := []) hR (Src.nil _) 4).mono fun e w8 h => by unfold StepP at h; rw [htk107] at h; exact ⟨_, h.2.1, rfl, h.2.2, h.1⟩) fun a w1 u ⟨hu, hR2, f1⟩ E => ?_
        subst hu
        have hO := ow.fr hO f1 (fun k hk e => by have := (hO.lt hk).1; (try simp only at e); omega)
        have hBs := Nat.le_trans hBs f1.size
        have hf := hf.trans' f1 (fun r hr => (fun e => by (try simp only at e); omega))
        clear f1
        have hR := hR2
        clear hR2
        obtain ⟨hto107, hkd107, hk⟩ := take_tk hk htk107
        have hin107 := (take_ok htk107).2.2
        have htl107 : l88 = t107 :: l107 := (take_ok htk107).1
        refine wpList_nil ?_
        refine blk_n ?_
        refine then_n ?_
        have hPn : part en ts = pre (acc ++ (dayP f m85 (m88 + 1440) n)) (timesT en f t l107) := by rw [hP, timesT_more hti hmo, htl107]; rfl
        have hl9 := time_ok hti
        have hl8 : l88.length = l107.length + 1 := by rw [htl107]; rfl
        refine ⟨⟨l107, acc ++ (dayP f m85 (m88 + 1440) n), sv2, E.of ⟨E.get 31 rfl, E.get 32 rfl, E.get 33 rfl, trivial⟩, hR, by rw [← List.append_assoc]; exact hO, hk, hPn, hf, hBs, by have := dayP_len f m85 (m88 + 1440) n; simp only [List.length_append]; omega⟩, by have := hR.len; show rdLen _ rb < rdLen _ rb; omega⟩
       | true =>
        rw [hq106] at E
        refine wp_cond_true (E.get 0 rfl) ?_
        refine wp_ret ?_
        refine then_r ?_
        refine blk_r ?_
        refine then_r ?_
        refine blk_r ?_
        refine (ret_nil rfl E ⟨hf, ?_⟩).2
        rw [hP, timesT_end hti ((by rw [more_at hu]; have h9 := hq106; simp only [bne_iff_ne, ne_eq] at h9; rw [beq_eq_false_iff_ne.2 h9, Bool.and_false]))]
        exact ⟨rfl, hrB, hBs, _, hR, by rw [← List.append_assoc]; exact hO⟩
      | true =>
       rw [hq104] at E
       refine ek E rfl (E.get 0 rfl) fun a E => ?_
       refine ek E rfl (E.get 1 rfl) fun a E => ?_
       refine ek E rfl (E.get 2 rfl) fun a E => ?_
       refine ek E rfl (E.get 3 rfl) fun a E => ?_
       refine ek E rfl (E.get 4 rfl) fun a E => ?_
       refine ek E rfl (E.get 5 rfl) fun a E => ?_
       refine ek E rfl (E.get 6 rfl) fun a E => ?_
       refine ek E rfl (E.get 7 rfl) fun a E => ?_
       refine ek E rfl (E.get 8 rfl) fun a E => ?_
       refine ep (v := .bool true) E (run_pick_t rfl (E.get 9 rfl) rfl) fun a E => ?_
       refine wpList_nil ?_
       refine then_n ?_
       refine wp_cond_true (E.get 0 rfl) ?_
       refine wp_ret ?_
       refine then_r ?_
       refine blk_r ?_
       refine then_r ?_
       refine blk_r ?_
       refine (ret_nil rfl E ⟨hf, ?_⟩).2
       rw [hP, timesT_end hti (more_short (by have := of_decide_eq_true hq104; omega))]
       exact ⟨rfl, hrB, hBs, _, hR, by rw [← List.append_assoc]; exact hO⟩
    | true =>
     rw [hq101] at E
     have hlt : i < n := by have := of_decide_eq_true hq101; omega
     refine wp_cond_true (E.get 0 rfl) ?_
     refine wp_skip ?_
     refine then_n ?_
     refine wp_seq ?_
     refine wp_block ?_
     refine wp_seq ?_
     refine wp_region_lit ?_
     refine ep (v := .int .i64 (i : Int)) E (run_move rfl (E.get 7 rfl)) fun a E => ?_
     refine ep (v := .int .i64 (i : Int)) E (run_assign rfl (E.get 0 rfl)) fun a E => ?_
     refine wpList_nil ?_
     refine then_n ?_
     refine wp_seq ?_
     refine wp_region_lit ?_
     refine ep (v := .int .i64 f) E (run_move rfl (E.get 4 rfl)) fun a E => ?_
     refine ep (v := .int .i64 (i : Int)) E (run_move rfl (E.get 1 rfl)) fun a E => ?_
     refine ep (v := .int .i64 (f + (i : Int))) E (run_iadd Tryz.underlying3 (E.get 1 rfl) (E.get 0 rfl) (by omega) (by omega) rfl) fun a E => ?_
     refine ep (v := .int .i64 ((f + (i : Int)) % 7)) E (run_irem (E.get 0 rfl) rfl (by omega) (by omega) (by omega) (by omega) rfl) fun a E => ?_
     refine ep (v := .int .i64 (((f + (i : Int)) % 7) * 1440)) E (run_imul Tryz.underlying3 (E.get 0 rfl) rfl (by omega) (by omega) rfl) fun a E => ?_
     refine ep (v := .int .i64 (((f + (i : Int)) % 7) * 1440)) E (run_assign rfl (E.get 0 rfl)) fun a E => ?_
     refine wpList_nil ?_
     refine then_n ?_
     refine wp_region_lit ?_
     refine ep (v := .pointer (some ⟨rb, 0, none⟩)) E (run_move rfl (E.get 9 rfl)) fun a E => ?_
     refine ep (v := .int .i64 (((f + (i : Int)) % 7) * 1440)) E (run_move rfl (E.get 1 rfl)) fun a E => ?_
     refine ep (v := .int .i64 m85) E (run_move rfl (E.get 14 rfl)) fun a E => ?_
     refine ep (v := .int .i64 ((((f + (i : Int)) % 7) * 1440) + m85)) E (run_iadd Tryz.underlying3 (E.get 1 rfl) (E.get 0 rfl) (by omega) (by omega) rfl) fun a E => ?_
     refine ep (v := .int .i64 (((f + (i : Int)) % 7) * 1440)) E (run_move rfl (E.get 4 rfl)) fun a E => ?_
     refine ep (v := .int .i64 (m88 + 1440)) E (run_move rfl (E.get 18 rfl)) fun a E => ?_
     refine ep (v := .int .i64 ((((f + (i : Int)) % 7) * 1440) + (m88 + 1440))) E (run_iadd Tryz.underlying3 (E.get 1 rfl) (E.get 0 rfl) (by omega) (by omega) rfl) fun a E => ?_
     refine env_callv (d := 87) (R := fun u w8 => u = .tuple #[] ∧ RdO w8 rb G B en l88 ((ss ++ acc ++ dayP f m85 (m88 + 1440) i) ++ addL ((((f + (i : Int)) % 7) * 1440) + m85) ((((f + (i : Int)) % 7) * 1440) + (m88 + 1440))) ∧ Fr (fun r => r = rb ∨ B ≤ r) w2 w8) E rfl (by decide) rfl (wanted_none rfl _) (run_call3 (enters_of Tryz.func57 (by kernel_rfl) rfl) rfl rfl (E.get 6 rfl) (E.get 3 rfl) (E.get 0 rfl)) ((add_calls ⟨hrB, hBs, _, hR, hO⟩ (by omega) (by omega) (by have := dayP_len f m85 (m88 + 1440) i; simp only [List.length_append]; omega)).mono fun e w8 h => by obtain ⟨rfl, h⟩ := h; exact ⟨_, rfl, rfl, h⟩) fun a w1 u ⟨hu, hRO, f1⟩ E => ?_
     subst hu
     have hf := hf.trans f1
     clear hR hO hBs f1
     obtain ⟨_, hBs, sv108, hR, hO⟩ := hRO
     refine wpList_nil ?_
     refine blk_n ?_
     refine then_n ?_
     refine wp_region_lit ?_
     refine ep (v := .int .i64 ((i : Int) + 1)) E (run_iadd Tryz.underlying3 (E.get 23 rfl) rfl (by omega) (by omega) rfl) fun a E => ?_
     refine env_set (d := 72) (v := .int .i64 ((i : Int) + 1)) E rfl (by decide) (wanted_none rfl _) (run_move rfl (E.get 0 rfl)) fun a E => ?_
     refine wpList_nil ?_
     refine then_n ?_
     refine ⟨⟨i + 1, sv108, E.of ⟨E.get 19 rfl, E.get 20 rfl, E.get 21 rfl, E.get 22 rfl, E.get 23 rfl, E.get 24 rfl, E.get 0 rfl, trivial⟩, hlt, hR, by rw [dayP_succ, tm7 hf0.1, ← List.append_assoc]; exact hO, hf, hBs⟩, ?_⟩
     rw [E.get 0 rfl]; simp only [intOf]; omega
  | true =>
   rw [hq89] at E
   refine wp_cond_true (E.get 0 rfl) ?_
   refine wp_region_lit ?_
   refine ep (v := .int .i64 y88) E (run_move rfl (E.get 4 rfl)) fun a E => ?_
   refine ep (v := .agg #[.int .i64 10, .int .i64 y88]) E (run_of54 rfl rfl (E.get 0 rfl)) fun a E => ?_
   refine ep (v := prob 10 y88) E (run_mkif54 rfl (E.get 0 rfl)) fun a E => ?_
   refine env_panic (wanted_none rfl _) (run_panic rfl (E.get 0 rfl)) ?_
   refine blk_p ?_
   refine then_p ?_
   refine blk_p ?_
   refine then_p ?_
   refine blk_p ?_
   refine pan_end E ⟨hf, ?_⟩
   rw [hP, timesT_err (by
    unfold time
    rw [hck85]
    try simp only
    rw [htk87]
    try simp only
    rw [hck88]
    try simp only
    rw [if_pos hq89]
    )]
   rfl
 | true =>
  rw [hq84] at E
  refine wp_cond_true (E.get 0 rfl) ?_
  refine wp_seq ?_
  refine wp_region_lit ?_
  refine ep (v := .pointer (some ⟨rb, 0, none⟩)) E (run_move rfl (E.get 18 rfl)) fun a E => ?_
  refine ep (v := .pointer (some ⟨rb, 0, none⟩)) E (run_nilchk rfl (E.get 0 rfl)) fun a E => ?_
  refine ep (v := .pointer (some ⟨rb, 0, none⟩)) E (fa59_0 rfl (E.get 0 rfl)) fun a E => ?_
  rcases htk109 : take en 4 [] l82 with ⟨c109, x109⟩ | ⟨t109, l109⟩
  ·skip
   refine env_callp (ch := pn c109 x109) (R := fun w8 => Fr (fun r => r = rb) w1 w8) (wanted_none rfl _) (run_call3 (enters_of Tryz.func56 (by kernel_rfl) rfl) rfl rfl (E.get 0 rfl) rfl rfl) ((take_calls (xs := []) hR (Src.nil _) 4).mono fun e w8 h => by unfold StepP at h; rw [htk109] at h; exact ⟨h.2, h.1⟩) fun w1 f1 => ?_
   have hf := hf.trans' f1 (fun r hr e => by (try simp only at e); first | exact e | exact .inl e)
   obtain ⟨t9, l9, h9, _⟩ := take_any (en := en) hq84
   rw [h9] at htk109
   cases htk109
  refine env_callv (d := 29) (R := fun u w8 => u = .agg (tkA t109) ∧ Rd w8 rb G en l109 sv ∧ Fr (fun r => r = rb) w1 w8) E rfl (by decide) rfl (wanted_none rfl _) (run_call3 (enters_of Tryz.func56 (by kernel_rfl) rfl) rfl rfl (E.get 0 rfl) rfl rfl) ((take_calls (xs := []) hR (Src.nil _) 4).mono fun e w8 h => by unfold StepP at h; rw [htk109] at h; exact ⟨_, h.2.1, rfl, h.2.2, h.1⟩) fun a w1 u ⟨hu, hR2, f1⟩ E => ?_
  subst hu
  have hO := ow.fr hO f1 (fun k hk e => by have := (hO.lt hk).1; (try simp only at e); omega)
  have hBs := Nat.le_trans hBs f1.size
  have hbd := f1.obj hbd (fun e => by (try simp only at e); omega)
  have hf := hf.trans' f1 (fun r hr => (fun e => by (try simp only at e); omega))
  clear f1
  have hR := hR2
  clear hR2
  obtain ⟨hto109, hkd109, hk⟩ := take_tk hk htk109
  have hin109 := (take_ok htk109).2.2
  have htl109 : l82 = t109 :: l109 := (take_ok htk109).1
  refine wpList_nil ?_
  refine then_n ?_
  refine wp_region_lit ?_
  refine ep (v := .slice (some ⟨bd, 0, none⟩) 7 7) E (run_move rfl (E.get 20 rfl)) fun a E => ?_
  refine ep (v := .pointer (some ⟨rb, 0, none⟩)) E (run_move rfl (E.get 23 rfl)) fun a E => ?_
  refine ep (v := .pointer (some ⟨rb, 0, none⟩)) E (run_nilchk rfl (E.get 0 rfl)) fun a E => ?_
  refine ep (v := .pointer (some ⟨rb, 0, none⟩)) E (fa59_0 rfl (E.get 0 rfl)) fun a E => ?_
  refine ep (v := .slice (some ⟨bd, 0, none⟩) 7 7) E (run_move rfl (E.get 24 rfl)) fun a E => ?_
  rcases htk110 : take en 1 days l109 with ⟨c110, x110⟩ | ⟨t110, l110⟩
  ·skip
   refine env_callp (ch := pn c110 x110) (R := fun w8 => Fr (fun r => r = rb) w1 w8) (wanted_none rfl _) (run_call3 (enters_of Tryz.func56 (by kernel_rfl) rfl) rfl rfl (E.get 1 rfl) rfl (E.get 0 rfl)) ((take_calls (xs := days) hR (DaysAt.st hbd) 1).mono fun e w8 h => by unfold StepP at h; rw [htk110] at h; exact ⟨h.2, h.1⟩) fun w1 f1 => ?_
   have hf := hf.trans' f1 (fun r hr e => by (try simp only at e); first | exact e | exact .inl e)
   refine then_p ?_
   refine pan_end E ⟨hf, ?_⟩
   rw [part_er (by
    unfold dys
    rw [htk82]
    try simp only
    rw [if_pos hq84, htl109]
    simp only [List.drop_succ_cons, List.drop_zero]
    rw [htk110]
    try simp only
    )]
  refine env_callv (d := 35) (R := fun u w8 => u = .agg (tkA t110) ∧ Rd w8 rb G en l110 sv ∧ Fr (fun r => r = rb) w1 w8) E rfl (by decide) rfl (wanted_none rfl _) (run_call3 (enters_of Tryz.func56 (by kernel_rfl) rfl) rfl rfl (E.get 1 rfl) rfl (E.get 0 rfl)) ((take_calls (xs := days) hR (DaysAt.st hbd) 1).mono fun e w8 h => by unfold StepP at h; rw [htk110] at h; exact ⟨_, h.2.1, rfl, h.2.2, h.1⟩) fun a w1 u ⟨hu, hR2, f1⟩ E => ?_
  subst hu
  have hO := ow.fr hO f1 (fun k hk e => by have := (hO.lt hk).1; (try simp only at e); omega)
  have hBs := Nat.le_trans hBs f1.size
  have hbd := f1.obj hbd (fun e => by (try simp only at e); omega)
  have hf := hf.trans' f1 (fun r hr => (fun e => by (try simp only at e); omega))
  clear f1
  have hR := hR2
  clear hR2
  obtain ⟨hto110, hkd110, hk⟩ := take_tk hk htk110
  have hin110 := (take_ok htk110).2.2
  refine ep (v := .string (ofL t110.2.1)) E (run_fd38_1 rfl (E.get 0 rfl)) fun a E => ?_
  have hid110 : t110.2.1 ∈ days := hin110.resolve_left (by decide)
  have hir110 := idx_rng hid110
  refine env_call (d := 37) (v := .int .i64 (idx t110.2.1)) E rfl (by decide) rfl (wanted_none rfl _) (run_call2 (enters_of Tryz.func79 (by kernel_rfl) rfl) rfl rfl (E.get 6 rfl) (E.get 0 rfl)) (index_calls (DaysAt.st hbd) hid110) fun a w1 f1 E => ?_
  have hR := Rd.fr hR f1 (fun r hr => id)
  have hO := ow.fr hO f1 (fun _ _ h => h)
  have hBs := Nat.le_trans hBs f1.size
  have hbd := f1.obj hbd id
  have hf := hf.trans' f1 (fun _ _ h => h.elim)
  clear f1
  refine env_set (d := 4) (v := .int .i64 (idx t110.2.1)) E rfl (by decide) (wanted_none rfl _) (run_assign rfl (E.get 0 rfl)) fun a E => ?_
  refine wpList_nil ?_
  refine then_n ?_
  refine wp_block ?_
  have hdy : dys en ts = .ok (((idx t82.2.1), (idx t110.2.1)), l110) := by
   unfold dys
   rw [htk82]
   simp only
   rw [if_pos hq84, htl109]
   simp only [List.drop_succ_cons, List.drop_zero]
   rw [htk110]
  obtain ⟨f, hfe⟩ : ∃ f, f = (idx t82.2.1) := ⟨_, rfl⟩
  obtain ⟨t, hte⟩ : ∃ t, t = (idx t110.2.1) := ⟨_, rfl⟩
  have hdy : dys en ts = .ok ((f, t), l110) := by rw [hfe, hte]; exact hdy
  have hf0 : 0 ≤ f ∧ f < 7 := by rw [hfe]; omega
  have ht0 : 0 ≤ t ∧ t < 7 := by rw [hte]; omega
  have hP := part_eq hdy
  have hlen := dys_len hdy
  have E := E.of (L' := [(0, .pointer (some ⟨rb, 0, none⟩)), (3, .int .i64 f), (4, .int .i64 t)]) ⟨E.get 30 rfl, (E.get 19 rfl).trans (by rw [hfe]), (E.get 0 rfl).trans (by rw [hte]), trivial⟩
  refine wp_loop (fun a w2 => ∃ (l : List (Tok Int)) (acc : List Sp) (sv : Value), Env 119 [(0, .pointer (some ⟨rb, 0, none⟩)), (3, .int .i64 f), (4, .int .i64 t)] a ∧ Rd w2 rb G en l sv ∧ oSp w2 B sv (ss ++ acc) ∧ Tk l ∧ part en ts = pre acc (timesT en f t l) ∧ Fr (fun r => r = rb ∨ B ≤ r) w w2 ∧ B ≤ w2.heap.size ∧ acc.length + 14 * l.length ≤ 14 * ts.length) (fun _ w2 => rdLen w2 rb) ?_ ?_
  ·exact ⟨l110, [], _, E, hR, by rw [List.append_nil]; exact hO, hk, hP, hf, hBs, by simp only [List.length_nil]; omega⟩
  clear E hR hO hk hP hf hBs hdy hlen hfe hte
  rintro a w2 ⟨l, acc, sv, E, hR, hO, hk, hP, hf, hBs, hal⟩
  have hlen2 := hR.len
  refine wp_block ?_
  refine wp_seq ?_
  refine wp_region_lit ?_
  refine ep (v := .pointer (some ⟨rb, 0, none⟩)) E (run_move rfl (E.get 0 rfl)) fun a E => ?_
  rcases hck111 : clock en 23 l with ⟨c111, x111⟩ | ⟨⟨m111, y111⟩, l111⟩
  ·skip
   refine env_callp (ch := pn c111 x111) (R := fun w8 => Fr (fun r => r = rb) w2 w8) (wanted_none rfl _) (run_call2 (enters_of Tryz.func80 (by kernel_rfl) rfl) rfl rfl (E.get 0 rfl) rfl) ((clock_calls (most := 23) hR hk).mono fun e w8 h => by unfold StepP at h; rw [hck111] at h; exact ⟨h.2, h.1⟩) fun w1 f1 => ?_
   have hf := hf.trans' f1 (fun r hr e => by (try simp only at e); first | exact e | exact .inl e)
   refine then_p ?_
   refine blk_p ?_
   refine then_p ?_
   refine blk_p ?_
   refine pan_end E ⟨hf, ?_⟩
   rw [hP, timesT_err (by
    unfold time
    rw [hck111]
    try simp only
    )]
   rfl
  refine env_callv (d := 40) (R := fun u w8 => u = .tuple #[.int .i64 m111, .int .i64 y111] ∧ Rd w8 rb G en l111 sv ∧ Fr (fun r => r = rb) w2 w8) E rfl (by decide) rfl (wanted_none rfl _) (run_call2 (enters_of Tryz.func80 (by kernel_rfl) rfl) rfl rfl (E.get 0 rfl) rfl) ((clock_calls (most := 23) hR hk).mono fun e w8 h => by unfold StepP at h; rw [hck111] at h; exact ⟨_, h.2.1, rfl, h.2.2, h.1⟩) fun a w1 u ⟨hu, hR2, f1⟩ E => ?_
  subst hu
  have hO := ow.fr hO f1 (fun k hk e => by have := (hO.lt hk).1; (try simp only at e); omega)
  have hBs := Nat.le_trans hBs f1.size
  have hf := hf.trans' f1 (fun r hr => (fun e => by (try simp only at e); omega))
  clear f1
  have hR := hR2
  clear hR2
  obtain ⟨hm0111, hm1111, hm2111, hk⟩ := clock_rng hk hck111
  refine ep (v := .tuple #[.int .i64 m111, .int .i64 y111]) E (run_move rfl (E.get 0 rfl)) fun a E => ?_
  refine ep (v := .int .i64 m111) E (run_ext0 rfl (E.get 0 rfl)) fun a E => ?_
  refine ep (v := .int .i64 y111) E (run_ext1 rfl (E.get 1 rfl)) fun a E => ?_
  refine ep (v := .int .i64 m111) E (run_assign rfl (E.get 1 rfl)) fun a E => ?_
  refine ep (v := .int .i64 y111) E (run_assign rfl (E.get 1 rfl)) fun a E => ?_
  refine wpList_nil ?_
  refine then_n ?_
  refine wp_seq ?_
  refine wp_region_lit ?_
  refine ep (v := .pointer (some ⟨rb, 0, none⟩)) E (run_move rfl (E.get 7 rfl)) fun a E => ?_
  refine ep (v := .pointer (some ⟨rb, 0, none⟩)) E (run_nilchk rfl (E.get 0 rfl)) fun a E => ?_
  refine ep (v := .pointer (some ⟨rb, 0, none⟩)) E (fa59_0 rfl (E.get 0 rfl)) fun a E => ?_
  refine env_one70 (d := 46) E rfl (by decide) rfl (wanted_none rfl _) rfl rfl fun a w1 b112 eb112 hbb112 f1 E => ?_
  have hR := Rd.fr hR f1 (fun r hr => id)
  have hO := ow.fr hO f1 (fun _ _ h => h)
  have hBs := Nat.le_trans hBs f1.size
  have hf := hf.trans' f1 (fun _ _ h => h.elim)
  clear f1
  have hsb112 := src_one (f := stL) (c := 1) (G := w1.heap.size) hbb112 (lt_of_blk hbb112)
  clear hbb112 eb112
  rcases htk113 : take en 4 [cDash] l111 with ⟨c113, x113⟩ | ⟨t113, l113⟩
  ·skip
   refine env_callp (ch := pn c113 x113) (R := fun w8 => Fr (fun r => r = rb) w1 w8) (wanted_none rfl _) (run_call3 (enters_of Tryz.func56 (by kernel_rfl) rfl) rfl rfl (E.get 1 rfl) rfl (E.get 0 rfl)) ((take_calls (xs := [cDash]) hR ⟨_, 1, rfl, Nat.le_refl _, by omega, hsb112, fun h => by cases h⟩ 4).mono fun e w8 h => by unfold StepP at h; rw [htk113] at h; exact ⟨h.2, h.1⟩) fun w1 f1 => ?_
   have hf := hf.trans' f1 (fun r hr e => by (try simp only at e); first | exact e | exact .inl e)
   refine then_p ?_
   refine blk_p ?_
   refine then_p ?_
   refine blk_p ?_
   refine pan_end E ⟨hf, ?_⟩
   rw [hP, timesT_err (by
    unfold time
    rw [hck111]
    try simp only
    rw [htk113]
    try simp only
    )]
   rfl
  refine env_callv (d := 47) (R := fun u w8 => u = .agg (tkA t113) ∧ Rd w8 rb G en l113 sv ∧ Fr (fun r => r = rb) w1 w8) E rfl (by decide) rfl (wanted_none rfl _) (run_call3 (enters_of Tryz.func56 (by kernel_rfl) rfl) rfl rfl (E.get 1 rfl) rfl (E.get 0 rfl)) ((take_calls (xs := [cDash]) hR ⟨_, 1, rfl, Nat.le_refl _, by omega, hsb112, fun h => by cases h⟩ 4).mono fun e w8 h => by unfold StepP at h; rw [htk113] at h; exact ⟨_, h.2.1, rfl, h.2.2, h.1⟩) fun a w1 u ⟨hu, hR2, f1⟩ E => ?_
  subst hu
  have hO := ow.fr hO f1 (fun k hk e => by have := (hO.lt hk).1; (try simp only at e); omega)
  have hBs := Nat.le_trans hBs f1.size
  have hf := hf.trans' f1 (fun r hr => (fun e => by (try simp only at e); omega))
  clear f1
  have hR := hR2
  clear hR2
  obtain ⟨hto113, hkd113, hk⟩ := take_tk hk htk113
  have hin113 := (take_ok htk113).2.2
  refine wpList_nil ?_
  refine then_n ?_
  refine wp_seq ?_
  refine wp_region_lit ?_
  refine ep (v := .pointer (some ⟨rb, 0, none⟩)) E (run_move rfl (E.get 12 rfl)) fun a E => ?_
  rcases hck114 : clock en 24 l113 with ⟨c114, x114⟩ | ⟨⟨m114, y114⟩, l114⟩
  ·skip
   refine env_callp (ch := pn c114 x114) (R := fun w8 => Fr (fun r => r = rb) w1 w8) (wanted_none rfl _) (run_call2 (enters_of Tryz.func80 (by kernel_rfl) rfl) rfl rfl (E.get 0 rfl) rfl) ((clock_calls (most := 24) hR hk).mono fun e w8 h => by unfold StepP at h; rw [hck114] at h; exact ⟨h.2, h.1⟩) fun w1 f1 => ?_
   have hf := hf.trans' f1 (fun r hr e => by (try simp only at e); first | exact e | exact .inl e)
   refine then_p ?_
   refine blk_p ?_
   refine then_p ?_
   refine blk_p ?_
   refine pan_end E ⟨hf, ?_⟩
   rw [hP, timesT_err (by
    unfold time
    rw [hck111]
    try simp only
    rw [htk113]
    try simp only
    rw [hck114]
    try simp only
    )]
   rfl
  refine env_callv (d := 50) (R := fun u w8 => u = .tuple #[.int .i64 m114, .int .i64 y114] ∧ Rd w8 rb G en l114 sv ∧ Fr (fun r => r = rb) w1 w8) E rfl (by decide) rfl (wanted_none rfl _) (run_call2 (enters_of Tryz.func80 (by kernel_rfl) rfl) rfl rfl (E.get 0 rfl) rfl) ((clock_calls (most := 24) hR hk).mono fun e w8 h => by unfold StepP at h; rw [hck114] at h; exact ⟨_, h.2.1, rfl, h.2.2, h.1⟩) fun a w1 u ⟨hu, hR2, f1⟩ E => ?_
  subst hu
  have hO := ow.fr hO f1 (fun k hk e => by have := (hO.lt hk).1; (try simp only at e); omega)
  have hBs := Nat.le_trans hBs f1.size
  have hf := hf.trans' f1 (fun r hr => (fun e => by (try simp only at e); omega))
  clear f1
  have hR := hR2
  clear hR2
  obtain ⟨hm0114, hm1114, hm2114, hk⟩ := clock_rng hk hck114
  refine ep (v := .tuple #[.int .i64 m114, .int .i64 y114]) E (run_move rfl (E.get 0 rfl)) fun a E => ?_
  refine ep (v := .int .i64 m114) E (run_ext0 rfl (E.get 0 rfl)) fun a E => ?_
  refine ep (v := .int .i64 y114) E (run_ext1 rfl (E.get 1 rfl)) fun a E => ?_
  refine ep (v := .int .i64 m114) E (run_assign rfl (E.get 1 rfl)) fun a E => ?_
  refine ep (v := .int .i64 y114) E (run_assign rfl (E.get 1 rfl)) fun a E => ?_
  refine wpList_nil ?_
  refine then_n ?_
  refine wp_seq ?_
  refine wp_block ?_
  refine wp_seq ?_
  refine wp_region_lit ?_
  refine ep (v := .int .i64 m111) E (run_move rfl (E.get 13 rfl)) fun a E => ?_
  refine ep (v := .int .i64 m114) E (run_move rfl (E.get 2 rfl)) fun a E => ?_
  refine ep (v := .bool (m111 == m114)) E (run_ieql (E.get 1 rfl) (E.get 0 rfl) Tryz.underlying3 rfl) fun a E => ?_
  refine ep (v := .bool (m111 == m114)) E (run_assign rfl (E.get 0 rfl)) fun a E => ?_
  refine wpList_nil ?_
  refine then_n ?_
  cases hq115 : (m111 == m114) with
  | false =>
   rw [hq115] at E
   refine wp_cond_false (E.get 0 rfl) ?_
   refine wp_seq ?_
   refine wp_region_lit ?_
   refine ep (v := .int .i64 m114) E (run_move rfl (E.get 5 rfl)) fun a E => ?_
   refine ep (v := .int .i64 m111) E (run_move rfl (E.get 18 rfl)) fun a E => ?_
   refine ep (v := .bool (decide (m114 < m111))) E (run_ilss (E.get 1 rfl) (E.get 0 rfl) Tryz.underlying3 rfl) fun a E => ?_
   refine ep (v := .bool (decide (m114 < m111))) E (run_assign rfl (E.get 0 rfl)) fun a E => ?_
   refine wpList_nil ?_
   refine then_n ?_
   cases hq116 : (decide (m114 < m111)) with
   | false =>
    rw [hq116] at E
    refine wp_cond_false (E.get 0 rfl) ?_
    refine wp_skip ?_
    refine blk_n ?_
    refine then_n ?_
    refine wp_seq ?_
    refine wp_seq ?_
    refine wp_region_lit ?_
    refine ep (v := .int .i64 t) E (run_move rfl (E.get 29 rfl)) fun a E => ?_
    refine ep (v := .int .i64 f) E (run_move rfl (E.get 29 rfl)) fun a E => ?_
    refine ep (v := .int .i64 (t - f)) E (run_isub Tryz.underlying3 (E.get 1 rfl) (E.get 0 rfl) (by omega) (by omega) rfl) fun a E => ?_
    refine ep (v := .int .i64 ((t - f) + 7)) E (run_iadd Tryz.underlying3 (E.get 0 rfl) rfl (by omega) (by omega) rfl) fun a E => ?_
    refine ep (v := .int .i64 (((t - f) + 7) % 7)) E (run_irem (E.get 0 rfl) rfl (by omega) (by omega) (by omega) (by omega) rfl) fun a E => ?_
    refine ep (v := .int .i64 ((((t - f) + 7) % 7) + 1)) E (run_iadd Tryz.underlying3 (E.get 0 rfl) rfl (by omega) (by omega) rfl) fun a E => ?_
    refine ep (v := .int .i64 0) E (run_move rfl rfl) fun a E => ?_
    refine wpList_nil ?_
    refine then_n ?_
    refine wp_block ?_
    obtain ⟨n, hn⟩ : ∃ n : Nat, n = ((t - f + 7) % 7 + 1).toNat := ⟨_, rfl⟩
    have hnn : (t - f + 7) % 7 + 1 = (n : Int) := by omega
    have hn7 : n ≤ 7 := by omega
    rw [hnn] at E
    refine wp_loop (fun a w2 => ∃ (i : Nat) (sv2 : Value), Env 119 [(0, .pointer (some ⟨rb, 0, none⟩)), (3, .int .i64 f), (4, .int .i64 t), (5, .int .i64 m111), (7, .int .i64 m114), (71, .int .i64 (n : Int)), (72, .int .i64 (i : Int))] a ∧ i ≤ n ∧ Rd w2 rb G en l114 sv2 ∧ oSp w2 B sv2 (ss ++ acc ++ dayP f m111 m114 i) ∧ Fr (fun r => r = rb ∨ B ≤ r) w w2 ∧ B ≤ w2.heap.size) (fun a _ => n - (intOf (a.eval (.tmp 72))).toNat) ?_ ?_
    ·exact ⟨0, _, E.of ⟨E.get 34 rfl, E.get 35 rfl, E.get 36 rfl, E.get 28 rfl, E.get 16 rfl, E.get 1 rfl, E.get 0 rfl, trivial⟩, Nat.zero_le _, hR, by rw [show dayP f m111 m114 0 = [] from rfl, List.append_nil]; exact hO, hf, hBs⟩
    clear E
    rintro a w2 ⟨i, sv2, E, hi, hR, hO, hf, hBs⟩
    have hmu : n - (intOf (a.eval (.tmp 72))).toNat = n - i := by rw [E.get 6 rfl]; first | rfl | (simp [intOf]; done) | (simp only [intOf]; omega)
    rw [hmu]
    clear hmu
    refine wp_seq ?_
    refine wp_region_lit ?_
    refine ep (v := .bool (decide ((i : Int) < (n : Int)))) E (run_ilss (E.get 6 rfl) (E.get 5 rfl) Tryz.underlying3 rfl) fun a E => ?_
    refine wpList_nil ?_
    refine then_n ?_
    refine wp_seq ?_
    cases hq118 : (decide ((i : Int) < (n : Int))) with
    | false =>
     rw [hq118] at E
     have hie : i = n := by have := of_decide_eq_false hq118; omega
     refine wp_cond_false (E.get 0 rfl) ?_
     refine wp_exit ?_
     refine then_e ?_
     refine then_e ?_
     refine blk_e ?_
     refine then_n ?_
     refine wp_seq ?_
     refine wp_seq ?_
     have hti : time en f t l = .ok ((dayP f m111 m114 n), l114) := by
      unfold time
      rw [hck111]
      simp only
      rw [htk113]
      simp only
      rw [hck114]
      simp only
      rw [if_neg (by rw [hq115]; simp), if_neg (of_decide_eq_false hq116), day_n hf0.1 hf0.2 ht0.1 ht0.2, hnn]
      rfl
     rw [hie] at hO
     have hR9 := hR
     obtain ⟨hGr, lv, hrb, pl, cl, hlv, hlv0, hlv1, hts, hzl⟩ := hR9
     subst hlv
     have hO : oSp w2 B sv2 (ss ++ acc ++ (dayP f m111 m114 n)) := hO
     refine wp_region_lit ?_
     refine ep (v := .pointer (some ⟨rb, 0, none⟩)) E (run_move rfl (E.get 1 rfl)) fun a E => ?_
     refine ep (v := .pointer (some ⟨rb, 0, none⟩)) E (run_nilchk rfl (E.get 0 rfl)) fun a E => ?_
     refine ep (v := .pointer (some ⟨rb, 0, none⟩)) E (fa59_0 rfl (E.get 0 rfl)) fun a E => ?_
     refine env_one70 (d := 92) E rfl (by decide) rfl (wanted_none rfl _) rfl rfl fun a w1 b119 eb119 hbb119 f1 E => ?_
     have hR := Rd.fr hR f1 (fun r hr => id)
     have hO := ow.fr hO f1 (fun _ _ h => h)
     have hBs := Nat.le_trans hBs f1.size
     have hrb := f1.obj hrb id
     have hts := srcAt.fr hts f1 (fun r hr => id)
     have hf := hf.trans' f1 (fun _ _ h => h.elim)
     clear f1
     have hsb119 := src_one (f := stL) (c := 1) (G := w1.heap.size) hbb119 (lt_of_blk hbb119)
     clear hbb119 eb119
     refine env_call (d := 93) (v := .bool (sees 4 [cComma] l114)) E rfl (by decide) rfl (wanted_none rfl _) (run_call3 (enters_of Tryz.func55 (by kernel_rfl) rfl) rfl rfl (E.get 1 rfl) rfl (E.get 0 rfl)) (sees_calls (xs := [cComma]) hR ⟨_, 1, rfl, Nat.le_refl _, by omega, hsb119, fun h => by cases h⟩ 4) fun a w1 f1 E => ?_
     have hR := Rd.fr hR f1 (fun r hr => id)
     have hO := ow.fr hO f1 (fun _ _ h => h)
     have hBs := Nat.le_trans hBs f1.size
     have hrb := f1.obj hrb id
     have hts := srcAt.fr hts f1 (fun r hr => id)
     have hf := hf.trans' f1 (fun _ _ h => h.elim)
     clear f1
     refine ep (v := .bool (!(sees 4 [cComma] l114))) E (run_not rfl (E.get 0 rfl)) fun a E => ?_
     refine ep (v := .bool (!(sees 4 [cComma] l114))) E (run_move rfl (E.get 0 rfl)) fun a E => ?_
     cases hq120 : (sees 4 [cComma] l114) with
     | false =>
      rw [hq120] at E
      refine ek E rfl (E.get 0 rfl) fun a E => ?_
      refine ek E rfl (E.get 1 rfl) fun a E => ?_
      refine ek E rfl (E.get 2 rfl) fun a E => ?_
      refine ek E rfl (E.get 3 rfl) fun a E => ?_
      refine ek E rfl (E.get 4 rfl) fun a E => ?_
      refine ek E rfl (E.get 5 rfl) fun a E => ?_
      refine ek E rfl (E.get 6 rfl) fun a E => ?_
      refine ep (v := .bool true) E (run_pick_t rfl (E.get 7 rfl) rfl) fun a E => ?_
      refine ep (v := .bool true) E (run_move rfl (E.get 0 rfl)) fun a E => ?_
      refine ek E rfl (E.get 0 rfl) fun a E => ?_
      refine ek E rfl (E.get 1 rfl) fun a E => ?_
      refine ek E rfl (E.get 2 rfl) fun a E => ?_
      refine ek E rfl (E.get 3 rfl) fun a E => ?_
      refine ek E rfl (E.get 4 rfl) fun a E => ?_
      refine ek E rfl (E.get 5 rfl) fun a E => ?_
      refine ek E rfl (E.get 6 rfl) fun a E => ?_
      refine ek E rfl (E.get 7 rfl) fun a E => ?_
      refine ek E rfl (E.get 8 rfl) fun a E => ?_
      refine ep (v := .bool true) E (run_pick_t rfl (E.get 9 rfl) rfl) fun a E => ?_
      refine wpList_nil ?_
      refine then_n ?_
      refine wp_cond_true (E.get 0 rfl) ?_
      refine wp_ret ?_
      refine then_r ?_
      refine blk_r ?_
      refine then_r ?_
      refine blk_r ?_
      refine (ret_nil rfl E ⟨hf, ?_⟩).2
      rw [hP, timesT_end hti (more_see hq120)]
      exact ⟨rfl, hrB, hBs, _, hR, by rw [← List.append_assoc]; exact hO⟩
     | true =>
      rw [hq120] at E
      refine eg (v := .pointer (some ⟨rb, 0, none⟩)) E (w_yes (g := 6) (s := 95) E rfl rfl (by decide) (E.get 0 rfl)) (run_move rfl (E.get 8 rfl)) fun a E => ?_
      refine eg (v := .pointer (some ⟨rb, 0, none⟩)) E (w_yes (g := 6) (s := 95) E rfl rfl (by decide) (E.get 1 rfl)) (run_nilchk rfl (E.get 0 rfl)) fun a E => ?_
      refine eg (v := .pointer (some ⟨rb, 0, none⟩)) E (w_yes (g := 6) (s := 95) E rfl rfl (by decide) (E.get 2 rfl)) (fa59_0 rfl (E.get 0 rfl)) fun a E => ?_
      refine eg (v := .pointer (some ⟨rb, 0, none⟩)) E (w_yes (g := 6) (s := 95) E rfl rfl (by decide) (E.get 3 rfl)) (fa57_0 rfl (E.get 0 rfl)) fun a E => ?_
      refine eg (v := .slice (pl) l114.length cl) E (w_yes (g := 6) (s := 95) E rfl rfl (by decide) (E.get 4 rfl)) (run_ld34 rfl (E.get 0 rfl) (bx hrb 0 rfl)) fun a E => ?_
      refine eg (v := .int .i64 (l114.length : Int)) E (w_yes (g := 6) (s := 95) E rfl rfl (by decide) (E.get 5 rfl)) (run_len34 rfl (E.get 0 rfl)) fun a E => ?_
      refine eg (v := .bool (decide ((l114.length : Int) < 2))) E (w_yes (g := 6) (s := 95) E rfl rfl (by decide) (E.get 6 rfl)) (run_ilss (E.get 0 rfl) rfl Tryz.underlying3 rfl) fun a E => ?_
      refine ep (v := .bool (decide ((l114.length : Int) < 2))) E (run_pick_f rfl (E.get 7 rfl) (E.get 0 rfl)) fun a E => ?_
      refine ep (v := .bool (decide ((l114.length : Int) < 2))) E (run_move rfl (E.get 0 rfl)) fun a E => ?_
      cases hq121 : (decide ((l114.length : Int) < 2)) with
      | false =>
       rw [hq121] at E
       have h1l : 1 < l114.length := by have := of_decide_eq_false hq121; omega
       obtain ⟨u, hu⟩ : ∃ y, l114[1]? = some y := ⟨_, List.getElem?_eq_getElem h1l⟩
       obtain ⟨g122, off122, hpe122, hgl122, hrow122⟩ := hts.at h1l
       replace hrow122 := hrow122 1 u hu
       refine eg (v := .pointer (some ⟨rb, 0, none⟩)) E (w_yes (g := 15) (s := 104) E rfl rfl (by decide) (E.get 0 rfl)) (run_move rfl (E.get 17 rfl)) fun a E => ?_
       refine eg (v := .pointer (some ⟨rb, 0, none⟩)) E (w_yes (g := 15) (s := 104) E rfl rfl (by decide) (E.get 1 rfl)) (run_nilchk rfl (E.get 0 rfl)) fun a E => ?_
       refine eg (v := .pointer (some ⟨rb, 0, none⟩)) E (w_yes (g := 15) (s := 104) E rfl rfl (by decide) (E.get 2 rfl)) (fa59_0 rfl (E.get 0 rfl)) fun a E => ?_
       refine eg (v := .pointer (some ⟨rb, 0, none⟩)) E (w_yes (g := 15) (s := 104) E rfl rfl (by decide) (E.get 3 rfl)) (fa57_0 rfl (E.get 0 rfl)) fun a E => ?_
       refine eg (v := .slice (pl) l114.length cl) E (w_yes (g := 15) (s := 104) E rfl rfl (by decide) (E.get 4 rfl)) (run_ld34 rfl (E.get 0 rfl) (bx hrb 0 rfl)) fun a E => ?_
       refine eg (v := .pointer (some ⟨g122, (off122 + 1 * 3), none⟩)) E (w_yes (g := 15) (s := 104) E rfl rfl (by decide) (E.get 5 rfl)) (run_index34 (i := 1) rfl ((E.get 0 rfl).trans (by rw [hpe122])) rfl h1l) fun a E => ?_
       refine eg (v := .pointer (some ⟨g122, ((off122 + 1 * 3) + 0), none⟩)) E (w_yes (g := 15) (s := 104) E rfl rfl (by decide) (E.get 6 rfl)) (fa38_0 rfl (E.get 0 rfl)) fun a E => ?_
       refine eg (v := .int .i64 u.1) E (w_yes (g := 15) (s := 104) E rfl rfl (by decide) (E.get 7 rfl)) (run_ldi rfl (E.get 0 rfl) (hrow122 0 _ rfl)) fun a E => ?_
       refine eg (v := .bool (u.1 != 2)) E (w_yes (g := 15) (s := 104) E rfl rfl (by decide) (E.get 8 rfl)) (run_ineq (E.get 0 rfl) rfl Tryz.underlying3 rfl) fun a E => ?_
       refine ep (v := .bool (u.1 != 2)) E (run_pick_f rfl (E.get 9 rfl) (E.get 0 rfl)) fun a E => ?_
       refine wpList_nil ?_
       refine then_n ?_
       cases hq123 : (u.1 != 2) with
       | false =>
        rw [hq123] at E
        refine wp_cond_false (E.get 0 rfl) ?_
        refine wp_skip ?_
        refine then_n ?_
        have hmo : more l114 = true := by rw [more_at hu, hq120]; have h9 := hq123; simp only [bne_eq_false_iff_eq] at h9; rw [h9]; rfl
        refine wp_region_lit ?_
        refine ep (v := .pointer (some ⟨rb, 0, none⟩)) E (run_move rfl (E.get 27 rfl)) fun a E => ?_
        refine ep (v := .pointer (some ⟨rb, 0, none⟩)) E (run_nilchk rfl (E.get 0 rfl)) fun a E => ?_
        refine ep (v := .pointer (some ⟨rb, 0, none⟩)) E (fa59_0 rfl (E.get 0 rfl)) fun a E => ?_
        rcases htk124 : take en 4 [] l114 with ⟨c124, x124⟩ | ⟨t124, l124⟩
        ·skip
         refine env_callp (ch := pn c124 x124) (R := fun w8 => Fr (fun r => r = rb) w1 w8) (wanted_none rfl _) (run_call3 (enters_of Tryz.func56 (by kernel_rfl) rfl) rfl rfl (E.get 0 rfl) rfl rfl) ((take_calls (xs := []) hR (Src.nil _) 4).mono fun e w8 h => by unfold StepP at h; rw [htk124] at h; exact ⟨h.2, h.1⟩) fun w1 f1 => ?_
         have hf := hf.trans' f1 (fun r hr e => by (try simp only at e); first | exact e | exact .inl e)
         obtain ⟨t9, l9, h9, _⟩ := take_any (en := en) hq120
         rw [h9] at htk124
         cases htk124
        refine env_callv (d := 118) (R := fun u w8 => u = .agg (tkA t124) ∧ Rd w8 rb G en l124 sv2 ∧ Fr (fun r => r = rb) w1 w8) E rfl (by decide) rfl (wanted_none rfl _) (run_call3 (enters_of Tryz.func56 (by kernel_rfl) rfl) rfl rfl (E.get 0 rfl) rfl rfl) ((take_calls (xs := []) hR (Src.nil _) 4).mono fun e w8 h => by unfold StepP at h; rw [htk124] at h; exact ⟨_, h.2.1, rfl, h.2.2, h.1⟩) fun a w1 u ⟨hu, hR2, f1⟩ E => ?_
        subst hu
        have hO := ow.fr hO f1 (fun k hk e => by have := (hO.lt hk).1; (try simp only at e); omega)
        have hBs := Nat.le_trans hBs f1.size
        have hf := hf.trans' f1 (fun r hr => (fun e => by (try simp only at e); omega))
        clear f1
        have hR := hR2
        clear hR2
        obtain ⟨hto124, hkd124, hk⟩ := take_tk hk htk124
        have hin124 := (take_ok htk124).2.2
        have htl124 : l114 = t124 :: l124 := (take_ok htk124).1
        refine wpList_nil ?_
        refine blk_n ?_
        refine then_n ?_
        have hPn : part en ts = pre (acc ++ (dayP f m111 m114 n)) (timesT en f t l124) := by rw [hP, timesT_more hti hmo, htl124]; rfl
        have hl9 := time_ok hti
        have hl8 : l114.length = l124.length + 1 := by rw [htl124]; rfl
        refine ⟨⟨l124, acc ++ (dayP f m111 m114 n), sv2, E.of ⟨E.get 31 rfl, E.get 32 rfl, E.get 33 rfl, trivial⟩, hR, by rw [← List.append_assoc]; exact hO, hk, hPn, hf, hBs, by have := dayP_len f m111 m114 n; simp only [List.length_append]; omega⟩, by have := hR.len; show rdLen _ rb < rdLen _ rb; omega⟩
       | true =>
        rw [hq123] at E
        refine wp_cond_true (E.get 0 rfl) ?_
        refine wp_ret ?_
        refine then_r ?_
        refine blk_r ?_
        refine then_r ?_
        refine blk_r ?_
        refine (ret_nil rfl E ⟨hf, ?_⟩).2
        rw [hP, timesT_end hti ((by rw [more_at hu]; have h9 := hq123; simp only [bne_iff_ne, ne_eq] at h9; rw [beq_eq_false_iff_ne.2 h9, Bool.and_false]))]
        exact ⟨rfl, hrB, hBs, _, hR, by rw [← List.append_assoc]; exact hO⟩
      | true =>
       rw [hq121] at E
       refine ek E rfl (E.get 0 rfl) fun a E => ?_
       refine ek E rfl (E.get 1 rfl) fun a E => ?_
       refine ek E rfl (E.get 2 rfl) fun a E => ?_
       refine ek E rfl (E.get 3 rfl) fun a E => ?_
       refine ek E rfl (E.get 4 rfl) fun a E => ?_
       refine ek E rfl (E.get 5 rfl) fun a E => ?_
       refine ek E rfl (E.get 6 rfl) fun a E => ?_
       refine ek E rfl (E.get 7 rfl) fun a E => ?_
       refine ek E rfl (E.get 8 rfl) fun a E => ?_
       refine ep (v := .bool true) E (run_pick_t rfl (E.get 9 rfl) rfl) fun a E => ?_
       refine wpList_nil ?_
       refine then_n ?_
       refine wp_cond_true (E.get 0 rfl) ?_
       refine wp_ret ?_
       refine then_r ?_
       refine blk_r ?_
       refine then_r ?_
       refine blk_r ?_
       refine (ret_nil rfl E ⟨hf, ?_⟩).2
       rw [hP, timesT_end hti (more_short (by have := of_decide_eq_true hq121; omega))]
       exact ⟨rfl, hrB, hBs, _, hR, by rw [← List.append_assoc]; exact hO⟩
    | true =>
     rw [hq118] at E
     have hlt : i < n := by have := of_decide_eq_true hq118; omega
     refine wp_cond_true (E.get 0 rfl) ?_
     refine wp_skip ?_
     refine then_n ?_
     refine wp_seq ?_
     refine wp_block ?_
     refine wp_seq ?_
     refine wp_region_lit ?_
     refine ep (v := .int .i64 (i : Int)) E (run_move rfl (E.get 7 rfl)) fun a E => ?_
     refine ep (v := .int .i64 (i : Int)) E (run_assign rfl (E.get 0 rfl)) fun a E => ?_
     refine wpList_nil ?_
     refine then_n ?_
     refine wp_seq ?_
     refine wp_region_lit ?_
     refine ep (v := .int .i64 f) E (run_move rfl (E.get 4 rfl)) fun a E => ?_
     refine ep (v := .int .i64 (i : Int)) E (run_move rfl (E.get 1 rfl)) fun a E => ?_
     refine ep (v := .int .i64 (f + (i : Int))) E (run_iadd Tryz.underlying3 (E.get 1 rfl) (E.get 0 rfl) (by omega) (by omega) rfl) fun a E => ?_
     refine ep (v := .int .i64 ((f + (i : Int)) % 7)) E (run_irem (E.get 0 rfl) rfl (by omega) (by omega) (by omega) (by omega) rfl) fun a E => ?_
     refine ep (v := .int .i64 (((f + (i : Int)) % 7) * 1440)) E (run_imul Tryz.underlying3 (E.get 0 rfl) rfl (by omega) (by omega) rfl) fun a E => ?_
     refine ep (v := .int .i64 (((f + (i : Int)) % 7) * 1440)) E (run_assign rfl (E.get 0 rfl)) fun a E => ?_
     refine wpList_nil ?_
     refine then_n ?_
     refine wp_region_lit ?_
     refine ep (v := .pointer (some ⟨rb, 0, none⟩)) E (run_move rfl (E.get 9 rfl)) fun a E => ?_
     refine ep (v := .int .i64 (((f + (i : Int)) % 7) * 1440)) E (run_move rfl (E.get 1 rfl)) fun a E => ?_
     refine ep (v := .int .i64 m111) E (run_move rfl (E.get 14 rfl)) fun a E => ?_
     refine ep (v := .int .i64 ((((f + (i : Int)) % 7) * 1440) + m111)) E (run_iadd Tryz.underlying3 (E.get 1 rfl) (E.get 0 rfl) (by omega) (by omega) rfl) fun a E => ?_
     refine ep (v := .int .i64 (((f + (i : Int)) % 7) * 1440)) E (run_move rfl (E.get 4 rfl)) fun a E => ?_
     refine ep (v := .int .i64 m114) E (run_move rfl (E.get 18 rfl)) fun a E => ?_
     refine ep (v := .int .i64 ((((f + (i : Int)) % 7) * 1440) + m114)) E (run_iadd Tryz.underlying3 (E.get 1 rfl) (E.get 0 rfl) (by omega) (by omega) rfl) fun a E => ?_
     refine env_callv (d := 87) (R := fun u w8 => u = .tuple #[] ∧ RdO w8 rb G B en l114 ((ss ++ acc ++ dayP f m111 m114 i) ++ addL ((((f + (i : Int)) % 7) * 1440) + m111) ((((f + (i : Int)) % 7) * 1440) + m114)) ∧ Fr (fun r => r = rb ∨ B ≤ r) w2 w8) E rfl (by decide) rfl (wanted_none rfl _) (run_call3 (enters_of Tryz.func57 (by kernel_rfl) rfl) rfl rfl (E.get 6 rfl) (E.get 3 rfl) (E.get 0 rfl)) ((add_calls ⟨hrB, hBs, _, hR, hO⟩ (by omega) (by omega) (by have := dayP_len f m111 m114 i; simp only [List.length_append]; omega)).mono fun e w8 h => by obtain ⟨rfl, h⟩ := h; exact ⟨_, rfl, rfl, h⟩) fun a w1 u ⟨hu, hRO, f1⟩ E => ?_
     subst hu
     have hf := hf.trans f1
     clear hR hO hBs f1
     obtain ⟨_, hBs, sv125, hR, hO⟩ := hRO
     refine wpList_nil ?_
     refine blk_n ?_
     refine then_n ?_
     refine wp_region_lit ?_
     refine ep (v := .int .i64 ((i : Int) + 1)) E (run_iadd Tryz.underlying3 (E.get 23 rfl) rfl (by omega) (by omega) rfl) fun a E => ?_
     refine env_set (d := 72) (v := .int .i64 ((i : Int) + 1)) E rfl (by decide) (wanted_none rfl _) (run_move rfl (E.get 0 rfl)) fun a E => ?_
     refine wpList_nil ?_
     refine then_n ?_
     refine ⟨⟨i + 1, sv125, E.of ⟨E.get 19 rfl, E.get 20 rfl, E.get 21 rfl, E.get 22 rfl, E.get 23 rfl, E.get 24 rfl, E.get 0 rfl, trivial⟩, hlt, hR, by rw [dayP_succ, tm7 hf0.1, ← List.append_assoc]; exact hO, hf, hBs⟩, ?_⟩
     rw [E.get 0 rfl]; simp only [intOf]; omega
   | true =>
    rw [hq116] at E
    refine wp_cond_true (E.get 0 rfl) ?_
    refine wp_region_lit ?_
    refine ep (v := .int .i64 m114) E (run_move rfl (E.get 9 rfl)) fun a E => ?_
    refine ep (v := .int .i64 (m114 + 1440)) E (run_iadd Tryz.underlying3 (E.get 0 rfl) rfl (by omega) (by omega) rfl) fun a E => ?_
    refine env_set (d := 7) (v := .int .i64 (m114 + 1440)) E rfl (by decide) (wanted_none rfl _) (run_assign rfl (E.get 0 rfl)) fun a E => ?_
    refine wpList_nil ?_
    refine blk_n ?_
    refine then_n ?_
    refine wp_seq ?_
    refine wp_seq ?_
    refine wp_region_lit ?_
    refine ep (v := .int .i64 t) E (run_move rfl (E.get 31 rfl)) fun a E => ?_
    refine ep (v := .int .i64 f) E (run_move rfl (E.get 31 rfl)) fun a E => ?_
    refine ep (v := .int .i64 (t - f)) E (run_isub Tryz.underlying3 (E.get 1 rfl) (E.get 0 rfl) (by omega) (by omega) rfl) fun a E => ?_
    refine ep (v := .int .i64 ((t - f) + 7)) E (run_iadd Tryz.underlying3 (E.get 0 rfl) rfl (by omega) (by omega) rfl) fun a E => ?_
    refine ep (v := .int .i64 (((t - f) + 7) % 7)) E (run_irem (E.get 0 rfl) rfl (by omega) (by omega) (by omega) (by omega) rfl) fun a E => ?_
    refine ep (v := .int .i64 ((((t - f) + 7) % 7) + 1)) E (run_iadd Tryz.underlying3 (E.get 0 rfl) rfl (by omega) (by omega) rfl) fun a E => ?_
    refine ep (v := .int .i64 0) E (run_move rfl rfl) fun a E => ?_
    refine wpList_nil ?_
    refine then_n ?_
    refine wp_block ?_
    obtain ⟨n, hn⟩ : ∃ n : Nat, n = ((t - f + 7) % 7 + 1).toNat := ⟨_, rfl⟩
    have hnn : (t - f + 7) % 7 + 1 = (n : Int) := by omega
    have hn7 : n ≤ 7 := by omega
    rw [hnn] at E
    refine wp_loop (fun a w2 => ∃ (i : Nat) (sv2 : Value), Env 119 [(0, .pointer (some ⟨rb, 0, none⟩)), (3, .int .i64 f), (4, .int .i64 t), (5, .int .i64 m111), (7, .int .i64 (m114 + 1440)), (71, .int .i64 (n : Int)), (72, .int .i64 (i : Int))] a ∧ i ≤ n ∧ Rd w2 rb G en l114 sv2 ∧ oSp w2 B sv2 (ss ++ acc ++ dayP f m111 (m114 + 1440) i) ∧ Fr (fun r => r = rb ∨ B ≤ r) w w2 ∧ B ≤ w2.heap.size) (fun a _ => n - (intOf (a.eval (.tmp 72))).toNat) ?_ ?_
    ·exact ⟨0, _, E.of ⟨E.get 36 rfl, E.get 37 rfl, E.get 38 rfl, E.get 30 rfl, E.get 7 rfl, E.get 1 rfl, E.get 0 rfl, trivial⟩, Nat.zero_le _, hR, by rw [show dayP f m111 (m114 + 1440) 0 = [] from rfl, List.append_nil]; exact hO, hf, hBs⟩
    clear E
    rintro a w2 ⟨i, sv2, E, hi, hR, hO, hf, hBs⟩
    have hmu : n - (intOf (a.eval (.tmp 72))).toNat = n - i := by rw [E.get 6 rfl]; first | rfl | (simp [intOf]; done) | (simp only [intOf]; omega)
    rw [hmu]
    clear hmu
    refine wp_seq ?_
    refine wp_region_lit ?_
    refine ep (v := .bool (decide ((i : Int) < (n : Int)))) E (run_ilss (E.get 6 rfl) (E.get 5 rfl) Tryz.underlying3 rfl) fun a E => ?_
    refine wpList_nil ?_
    refine then_n ?_
    refine wp_seq ?_
    cases hq127 : (decide ((i : Int) < (n : Int))) with
    | false =>
     rw [hq127] at E
     have hie : i = n := by have := of_decide_eq_false hq127; omega
     refine wp_cond_false (E.get 0 rfl) ?_
     refine wp_exit ?_
     refine then_e ?_
     refine then_e ?_
     refine blk_e ?_
     refine then_n ?_
     refine wp_seq ?_
     refine wp_seq ?_
     have hti : time en f t l = .ok ((dayP f m111 (m114 + 1440) n), l114) := by
      unfold time
      rw [hck111]
      simp only
      rw [htk113]
      simp only
      rw [hck114]
      simp only
      rw [if_neg (by rw [hq115]; simp), if_pos (of_decide_eq_true hq116), day_n hf0.1 hf0.2 ht0.1 ht0.2, hnn]
      rfl
     rw [hie] at hO
     have hR9 := hR
     obtain ⟨hGr, lv, hrb, pl, cl, hlv, hlv0, hlv1, hts, hzl⟩ := hR9
     subst hlv
     have hO : oSp w2 B sv2 (ss ++ acc ++ (dayP f m111 (m114 + 1440) n)) := hO
     refine wp_region_lit ?_
     refine ep (v := .pointer (some ⟨rb, 0, none⟩)) E (run_move rfl (E.get 1 rfl)) fun a E => ?_
     refine ep (v := .pointer (some ⟨rb, 0, none⟩)) E (run_nilchk rfl (E.get 0 rfl)) fun a E => ?_
     refine ep (v := .pointer (some ⟨rb, 0, none⟩)) E (fa59_0 rfl (E.get 0 rfl)) fun a E => ?_
     refine env_one70 (d := 92) E rfl (by decide) rfl (wanted_none rfl _) rfl rfl fun a w1 b128 eb128 hbb128 f1 E => ?_
     have hR := Rd.fr hR f1 (fun r hr => id)
     have hO := ow.fr hO f1 (fun _ _ h => h)
     have hBs := Nat.le_trans hBs f1.size
     have hrb := f1.obj hrb id
     have hts := srcAt.fr hts f1 (fun r hr => id)
     have hf := hf.trans' f1 (fun _ _ h => h.elim)
     clear f1
     have hsb128 := src_one (f := stL) (c := 1) (G := w1.heap.size) hbb128 (lt_of_blk hbb128)
     clear hbb128 eb128
     refine env_call (d := 93) (v := .bool (sees 4 [cComma] l114)) E rfl (by decide) rfl (wanted_none rfl _) (run_call3 (enters_of Tryz.func55 (by kernel_rfl) rfl) rfl rfl (E.get 1 rfl) rfl (E.get 0 rfl)) (sees_calls (xs := [cComma]) hR ⟨_, 1, rfl, Nat.le_refl _, by omega, hsb128, fun h => by cases h⟩ 4) fun a w1 f1 E => ?_
     have hR := Rd.fr hR f1 (fun r hr => id)
     have hO := ow.fr hO f1 (fun _ _ h => h)
     have hBs := Nat.le_trans hBs f1.size
     have hrb := f1.obj hrb id
     have hts := srcAt.fr hts f1 (fun r hr => id)
     have hf := hf.trans' f1 (fun _ _ h => h.elim)
     clear f1
     refine ep (v := .bool (!(sees 4 [cComma] l114))) E (run_not rfl (E.get 0 rfl)) fun a E => ?_
     refine ep (v := .bool (!(sees 4 [cComma] l114))) E (run_move rfl (E.get 0 rfl)) fun a E => ?_
     cases hq129 : (sees 4 [cComma] l114) with
     | false =>
      rw [hq129] at E
      refine ek E rfl (E.get 0 rfl) fun a E => ?_
      refine ek E rfl (E.get 1 rfl) fun a E => ?_
      refine ek E rfl (E.get 2 rfl) fun a E => ?_
      refine ek E rfl (E.get 3 rfl) fun a E => ?_
      refine ek E rfl (E.get 4 rfl) fun a E => ?_
      refine ek E rfl (E.get 5 rfl) fun a E => ?_
      refine ek E rfl (E.get 6 rfl) fun a E => ?_
      refine ep (v := .bool true) E (run_pick_t rfl (E.get 7 rfl) rfl) fun a E => ?_
      refine ep (v := .bool true) E (run_move rfl (E.get 0 rfl)) fun a E => ?_
      refine ek E rfl (E.get 0 rfl) fun a E => ?_
      refine ek E rfl (E.get 1 rfl) fun a E => ?_
      refine ek E rfl (E.get 2 rfl) fun a E => ?_
      refine ek E rfl (E.get 3 rfl) fun a E => ?_
      refine ek E rfl (E.get 4 rfl) fun a E => ?_
      refine ek E rfl (E.get 5 rfl) fun a E => ?_
      refine ek E rfl (E.get 6 rfl) fun a E => ?_
      refine ek E rfl (E.get 7 rfl) fun a E => ?_
      refine ek E rfl (E.get 8 rfl) fun a E => ?_
      refine ep (v := .bool true) E (run_pick_t rfl (E.get 9 rfl) rfl) fun a E => ?_
      refine wpList_nil ?_
      refine then_n ?_
      refine wp_cond_true (E.get 0 rfl) ?_
      refine wp_ret ?_
      refine then_r ?_
      refine blk_r ?_
      refine then_r ?_
      refine blk_r ?_
      refine (ret_nil rfl E ⟨hf, ?_⟩).2
      rw [hP, timesT_end hti (more_see hq129)]
      exact ⟨rfl, hrB, hBs, _, hR, by rw [← List.append_assoc]; exact hO⟩
     | true =>
      rw [hq129] at E
      refine eg (v := .pointer (some ⟨rb, 0, none⟩)) E (w_yes (g := 6) (s := 95) E rfl rfl (by decide) (E.get 0 rfl)) (run_move rfl (E.get 8 rfl)) fun a E => ?_
      refine eg (v := .pointer (some ⟨rb, 0, none⟩)) E (w_yes (g := 6) (s := 95) E rfl rfl (by decide) (E.get 1 rfl)) (run_nilchk rfl (E.get 0 rfl)) fun a E => ?_
      refine eg (v := .pointer (some ⟨rb, 0, none⟩)) E (w_yes (g := 6) (s := 95) E rfl rfl (by decide) (E.get 2 rfl)) (fa59_0 rfl (E.get 0 rfl)) fun a E => ?_
      refine eg (v := .pointer (some ⟨rb, 0, none⟩)) E (w_yes (g := 6) (s := 95) E rfl rfl (by decide) (E.get 3 rfl)) (fa57_0 rfl (E.get 0 rfl)) fun a E => ?_
      refine eg (v := .slice (pl) l114.length cl) E (w_yes (g := 6) (s := 95) E rfl rfl (by decide) (E.get 4 rfl)) (run_ld34 rfl (E.get 0 rfl) (bx hrb 0 rfl)) fun a E => ?_
      refine eg (v := .int .i64 (l114.length : Int)) E (w_yes (g := 6) (s := 95) E rfl rfl (by decide) (E.get 5 rfl)) (run_len34 rfl (E.get 0 rfl)) fun a E => ?_
      refine eg (v := .bool (decide ((l114.length : Int) < 2))) E (w_yes (g := 6) (s := 95) E rfl rfl (by decide) (E.get 6 rfl)) (run_ilss (E.get 0 rfl) rfl Tryz.underlying3 rfl) fun a E => ?_
      refine ep (v := .bool (decide ((l114.length : Int) < 2))) E (run_pick_f rfl (E.get 7 rfl) (E.get 0 rfl)) fun a E => ?_
      refine ep (v := .bool (decide ((l114.length : Int) < 2))) E (run_move rfl (E.get 0 rfl)) fun a E => ?_
      cases hq130 : (decide ((l114.length : Int) < 2)) with
      | false =>
       rw [hq130] at E
       have h1l : 1 < l114.length := by have := of_decide_eq_false hq130; omega
       obtain ⟨u, hu⟩ : ∃ y, l114[1]? = some y := ⟨_, List.getElem?_eq_getElem h1l⟩
       obtain ⟨g131, off131, hpe131, hgl131, hrow131⟩ := hts.at h1l
       replace hrow131 := hrow131 1 u hu
       refine eg (v := .pointer (some ⟨rb, 0, none⟩)) E (w_yes (g := 15) (s := 104) E rfl rfl (by decide) (E.get 0 rfl)) (run_move rfl (E.get 17 rfl)) fun a E => ?_
       refine eg (v := .pointer (some ⟨rb, 0, none⟩)) E (w_yes (g := 15) (s := 104) E rfl rfl (by decide) (E.get 1 rfl)) (run_nilchk rfl (E.get 0 rfl)) fun a E => ?_
       refine eg (v := .pointer (some ⟨rb, 0, none⟩)) E (w_yes (g := 15) (s := 104) E rfl rfl (by decide) (E.get 2 rfl)) (fa59_0 rfl (E.get 0 rfl)) fun a E => ?_
       refine eg (v := .pointer (some ⟨rb, 0, none⟩)) E (w_yes (g := 15) (s := 104) E rfl rfl (by decide) (E.get 3 rfl)) (fa57_0 rfl (E.get 0 rfl)) fun a E => ?_
       refine eg (v := .slice (pl) l114.length cl) E (w_yes (g := 15) (s := 104) E rfl rfl (by decide) (E.get 4 rfl)) (run_ld34 rfl (E.get 0 rfl) (bx hrb 0 rfl)) fun a E => ?_
       refine eg (v := .pointer (some ⟨g131, (off131 + 1 * 3), none⟩)) E (w_yes (g := 15) (s := 104) E rfl rfl (by decide) (E.get 5 rfl)) (run_index34 (i := 1) rfl ((E.get 0 rfl).trans (by rw [hpe131])) rfl h1l) fun a E => ?_
       refine eg (v := .pointer (some ⟨g131, ((off131 + 1 * 3) + 0), none⟩)) E (w_yes (g := 15) (s := 104) E rfl rfl (by decide) (E.get 6 rfl)) (fa38_0 rfl (E.get 0 rfl)) fun a E => ?_
       refine eg (v := .int .i64 u.1) E (w_yes (g := 15) (s := 104) E rfl rfl (by decide) (E.get 7 rfl)) (run_ldi rfl (E.get 0 rfl) (hrow131 0 _ rfl)) fun a E => ?_
       refine eg (v := .bool (u.1 != 2)) E (w_yes (g := 15) (s := 104) E rfl rfl (by decide) (E.get 8 rfl)) (run_ineq (E.get 0 rfl) rfl Tryz.underlying3 rfl) fun a E => ?_
       refine ep (v := .bool (u.1 != 2)) E (run_pick_f rfl (E.get 9 rfl) (E.get 0 rfl)) fun a E => ?_
       refine wpList_nil ?_
       refine then_n ?_
       cases hq132 : (u.1 != 2) with
       | false =>
        rw [hq132] at E
        refine wp_cond_false (E.get 0 rfl) ?_
        refine wp_skip ?_
        refine then_n ?_
        have hmo : more l114 = true := by rw [more_at hu, hq129]; have h9 := hq132; simp only [bne_eq_false_iff_eq] at h9; rw [h9]; rfl
        refine wp_region_lit ?_
        refine ep (v := .pointer (some ⟨rb, 0, none⟩)) E (run_move rfl (E.get 27 rfl)) fun a E => ?_
        refine ep (v := .pointer (some ⟨rb, 0, none⟩)) E (run_nilchk rfl (E.get 0 rfl)) fun a E => ?_
        refine ep (v := .pointer (some ⟨rb, 0, none⟩)) E (fa59_0 rfl (E.get 0 rfl)) fun a E => ?_
        rcases htk133 : take en 4 [] l114 with ⟨c133, x133⟩ | ⟨t133, l133⟩
        ·skip
         refine env_callp (ch := pn c133 x133) (R := fun w8 => Fr (fun r => r = rb) w1 w8) (wanted_none rfl _) (run_call3 (enters_of Tryz.func56 (by kernel_rfl) rfl) rfl rfl (E.get 0 rfl) rfl rfl) ((take_calls (xs := []) hR (Src.nil _) 4).mono fun e w8 h => by unfold StepP at h; rw [htk133] at h; exact ⟨h.2, h.1⟩) fun w1 f1 => ?_
         have hf := hf.trans' f1 (fun r hr e => by (try simp only at e); first | exact e | exact .inl e)
         obtain ⟨t9, l9, h9, _⟩ := take_any (en := en) hq129
         rw [h9] at htk133
         cases htk133
        refine env_callv (d := 118) (R := fun u w8 => u = .agg (tkA t133) ∧ Rd w8 rb G en l133 sv2 ∧ Fr (fun r => r = rb) w1 w8) E rfl (by decide) rfl (wanted_none rfl _) (run_call3 (enters_of Tryz.func56 (by kernel_rfl) rfl) rfl rfl (E.get 0 rfl) rfl rfl) ((take_calls (xs := []) hR (Src.nil _) 4).mono fun e w8 h => by unfold StepP at h; rw [htk133] at h; exact ⟨_, h.2.1, rfl, h.2.2, h.1⟩) fun a w1 u ⟨hu, hR2, f1⟩ E => ?_
        subst hu
        have hO := ow.fr hO f1 (fun k hk e => by have := (hO.lt hk).1; (try simp only at e); omega)
        have hBs := Nat.le_trans hBs f1.size
        have hf := hf.trans' f1 (fun r hr => (fun e => by (try simp only at e); omega))
        clear f1
        have hR := hR2
        clear hR2
        obtain ⟨hto133, hkd133, hk⟩ := take_tk hk htk133
        have hin133 := (take_ok htk133).2.2
        have htl133 : l114 = t133 :: l133 := (take_ok htk133).1
        refine wpList_nil ?_
        refine blk_n ?_
        refine then_n ?_
        have hPn : part en ts = pre (acc ++ (dayP f m111 (m114 + 1440) n)) (timesT en f t l133) := by rw [hP, timesT_more hti hmo, htl133]; rfl
        have hl9 := time_ok hti
        have hl8 : l114.length = l133.length + 1 := by rw [htl133]; rfl
        refine ⟨⟨l133, acc ++ (dayP f m111 (m114 + 1440) n), sv2, E.of ⟨E.get 31 rfl, E.get 32 rfl, E.get 33 rfl, trivial⟩, hR, by rw [← List.append_assoc]; exact hO, hk, hPn, hf, hBs, by have := dayP_len f m111 (m114 + 1440) n; simp only [List.length_append]; omega⟩, by have := hR.len; show rdLen _ rb < rdLen _ rb; omega⟩
       | true =>
        rw [hq132] at E
        refine wp_cond_true (E.get 0 rfl) ?_
        refine wp_ret ?_
        refine then_r ?_
        refine blk_r ?_
        refine then_r ?_
        refine blk_r ?_
        refine (ret_nil rfl E ⟨hf, ?_⟩).2
        rw [hP, timesT_end hti ((by rw [more_at hu]; have h9 := hq132; simp only [bne_iff_ne, ne_eq] at h9; rw [beq_eq_false_iff_ne.2 h9, Bool.and_false]))]
        exact ⟨rfl, hrB, hBs, _, hR, by rw [← List.append_assoc]; exact hO⟩
      | true =>
       rw [hq130] at E
       refine ek E rfl (E.get 0 rfl) fun a E => ?_
       refine ek E rfl (E.get 1 rfl) fun a E => ?_
       refine ek E rfl (E.get 2 rfl) fun a E => ?_
       refine ek E rfl (E.get 3 rfl) fun a E => ?_
       refine ek E rfl (E.get 4 rfl) fun a E => ?_
       refine ek E rfl (E.get 5 rfl) fun a E => ?_
       refine ek E rfl (E.get 6 rfl) fun a E => ?_
       refine ek E rfl (E.get 7 rfl) fun a E => ?_
       refine ek E rfl (E.get 8 rfl) fun a E => ?_
       refine ep (v := .bool true) E (run_pick_t rfl (E.get 9 rfl) rfl) fun a E => ?_
       refine wpList_nil ?_
       refine then_n ?_
       refine wp_cond_true (E.get 0 rfl) ?_
       refine wp_ret ?_
       refine then_r ?_
       refine blk_r ?_
       refine then_r ?_
       refine blk_r ?_
       refine (ret_nil rfl E ⟨hf, ?_⟩).2
       rw [hP, timesT_end hti (more_short (by have := of_decide_eq_true hq130; omega))]
       exact ⟨rfl, hrB, hBs, _, hR, by rw [← List.append_assoc]; exact hO⟩
    | true =>
     rw [hq127] at E
     have hlt : i < n := by have := of_decide_eq_true hq127; omega
     refine wp_cond_true (E.get 0 rfl) ?_
     refine wp_skip ?_
     refine then_n ?_
     refine wp_seq ?_
     refine wp_block ?_
     refine wp_seq ?_
     refine wp_region_lit ?_
     refine ep (v := .int .i64 (i : Int)) E (run_move rfl (E.get 7 rfl)) fun a E => ?_
     refine ep (v := .int .i64 (i : Int)) E (run_assign rfl (E.get 0 rfl)) fun a E => ?_
     refine wpList_nil ?_
     refine then_n ?_
     refine wp_seq ?_
     refine wp_region_lit ?_
     refine ep (v := .int .i64 f) E (run_move rfl (E.get 4 rfl)) fun a E => ?_
     refine ep (v := .int .i64 (i : Int)) E (run_move rfl (E.get 1 rfl)) fun a E => ?_
     refine ep (v := .int .i64 (f + (i : Int))) E (run_iadd Tryz.underlying3 (E.get 1 rfl) (E.get 0 rfl) (by omega) (by omega) rfl) fun a E => ?_
     refine ep (v := .int .i64 ((f + (i : Int)) % 7)) E (run_irem (E.get 0 rfl) rfl (by omega) (by omega) (by omega) (by omega) rfl) fun a E => ?_
     refine ep (v := .int .i64 (((f + (i : Int)) % 7) * 1440)) E (run_imul Tryz.underlying3 (E.get 0 rfl) rfl (by omega) (by omega) rfl) fun a E => ?_
     refine ep (v := .int .i64 (((f + (i : Int)) % 7) * 1440)) E (run_assign rfl (E.get 0 rfl)) fun a E => ?_
     refine wpList_nil ?_
     refine then_n ?_
     refine wp_region_lit ?_
     refine ep (v := .pointer (some ⟨rb, 0, none⟩)) E (run_move rfl (E.get 9 rfl)) fun a E => ?_
     refine ep (v := .int .i64 (((f + (i : Int)) % 7) * 1440)) E (run_move rfl (E.get 1 rfl)) fun a E => ?_
     refine ep (v := .int .i64 m111) E (run_move rfl (E.get 14 rfl)) fun a E => ?_
     refine ep (v := .int .i64 ((((f + (i : Int)) % 7) * 1440) + m111)) E (run_iadd Tryz.underlying3 (E.get 1 rfl) (E.get 0 rfl) (by omega) (by omega) rfl) fun a E => ?_
     refine ep (v := .int .i64 (((f + (i : Int)) % 7) * 1440)) E (run_move rfl (E.get 4 rfl)) fun a E => ?_
     refine ep (v := .int .i64 (m114 + 1440)) E (run_move rfl (E.get 18 rfl)) fun a E => ?_
     refine ep (v := .int .i64 ((((f + (i : Int)) % 7) * 1440) + (m114 + 1440))) E (run_iadd Tryz.underlying3 (E.get 1 rfl) (E.get 0 rfl) (by omega) (by omega) rfl) fun a E => ?_
     refine env_callv (d := 87) (R := fun u w8 => u = .tuple #[] ∧ RdO w8 rb G B en l114 ((ss ++ acc ++ dayP f m111 (m114 + 1440) i) ++ addL ((((f + (i : Int)) % 7) * 1440) + m111) ((((f + (i : Int)) % 7) * 1440) + (m114 + 1440))) ∧ Fr (fun r => r = rb ∨ B ≤ r) w2 w8) E rfl (by decide) rfl (wanted_none rfl _) (run_call3 (enters_of Tryz.func57 (by kernel_rfl) rfl) rfl rfl (E.get 6 rfl) (E.get 3 rfl) (E.get 0 rfl)) ((add_calls ⟨hrB, hBs, _, hR, hO⟩ (by omega) (by omega) (by have := dayP_len f m111 (m114 + 1440) i; simp only [List.length_append]; omega)).mono fun e w8 h => by obtain ⟨rfl, h⟩ := h; exact ⟨_, rfl, rfl, h⟩) fun a w1 u ⟨hu, hRO, f1⟩ E => ?_
     subst hu
     have hf := hf.trans f1
     clear hR hO hBs f1
     obtain ⟨_, hBs, sv134, hR, hO⟩ := hRO
     refine wpList_nil ?_
     refine blk_n ?_
     refine then_n ?_
     refine wp_region_lit ?_
     refine ep (v := .int .i64 ((i : Int) + 1)) E (run_iadd Tryz.underlying3 (E.get 23 rfl) rfl (by omega) (by omega) rfl) fun a E => ?_
     refine env_set (d := 72) (v := .int .i64 ((i : Int) + 1)) E rfl (by decide) (wanted_none rfl _) (run_move rfl (E.get 0 rfl)) fun a E => ?_
     refine wpList_nil ?_
     refine then_n ?_
     refine ⟨⟨i + 1, sv134, E.of ⟨E.get 19 rfl, E.get 20 rfl, E.get 21 rfl, E.get 22 rfl, E.get 23 rfl, E.get 24 rfl, E.get 0 rfl, trivial⟩, hlt, hR, by rw [dayP_succ, tm7 hf0.1, ← List.append_assoc]; exact hO, hf, hBs⟩, ?_⟩
     rw [E.get 0 rfl]; simp only [intOf]; omega
  | true =>
   rw [hq115] at E
   refine wp_cond_true (E.get 0 rfl) ?_
   refine wp_region_lit ?_
   refine ep (v := .int .i64 y114) E (run_move rfl (E.get 4 rfl)) fun a E => ?_
   refine ep (v := .agg #[.int .i64 10, .int .i64 y114]) E (run_of54 rfl rfl (E.get 0 rfl)) fun a E => ?_
   refine ep (v := prob 10 y114) E (run_mkif54 rfl (E.get 0 rfl)) fun a E => ?_
   refine env_panic (wanted_none rfl _) (run_panic rfl (E.get 0 rfl)) ?_
   refine blk_p ?_
   refine then_p ?_
   refine blk_p ?_
   refine then_p ?_
   refine blk_p ?_
   refine pan_end E ⟨hf, ?_⟩
   rw [hP, timesT_err (by
    unfold time
    rw [hck111]
    try simp only
    rw [htk113]
    try simp only
    rw [hck114]
    try simp only
    rw [if_pos hq115]
    )]
   rfl
end Go.Proofs.YtjaffpnegdcjnaaGreatDoor
