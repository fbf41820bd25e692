/- The reference lineage agrees with the program's: plain laws. -/
import Derived.Test.YtcolfgnjmnapkaaRs
import Derived.Sort.Walk0
set_option linter.unusedVariables false
set_option linter.unusedSimpArgs false
namespace Go.Proofs.Ytcolfgnjmnapkaa
open Go.RowKit Go.Pl

/-- What every reference state is that follows edits. -/
structure Inv (R : RefS) : Prop where
  nd : R.ps.Nodup
  fst : ∀ p ∈ R.ps, p.1 ∈ R.ms
abbrev PP (R : RefS) (a x : ByteArray) : Prop := pairB R a x = true
theorem pp_iff {R : RefS} {a x : ByteArray} : PP R a x ↔ (a ∈ R.ms ∧ (a, x) ∈ R.ps) ∨ (a ∉ R.ms ∧ a = x) := by
  unfold PP pairB
  by_cases h : a ∈ R.ms
  · rw [if_pos (inB_iff.2 h), inP_iff]; simp [h]
  · rw [if_neg (fun e => h (inB_iff.1 e)), decide_eq_true_iff]; simp [h]
theorem Inv.new : Inv ⟨[], []⟩ := ⟨List.nodup_nil, fun p h => by cases h⟩
theorem menR_in {R : RefS} {b : ByteArray} (h : b ∈ R.ms) : menR R b = R := by unfold menR; rw [if_pos (inB_iff.2 h)]
theorem menR_out {R : RefS} {b : ByteArray} (h : b ∉ R.ms) : menR R b = ⟨R.ps ++ [(b, b)], R.ms ++ [b]⟩ := by unfold menR; rw [if_neg (fun e => h (inB_iff.1 e))]
theorem menR_mem {R : RefS} {b x : ByteArray} : x ∈ (menR R b).ms ↔ x ∈ R.ms ∨ x = b := by
  by_cases h : b ∈ R.ms
  · rw [menR_in h]
    constructor
    · exact .inl
    · rintro (h1 | rfl)
      · exact h1
      · exact h
  · rw [menR_out h]; simp
theorem menR_pp {R : RefS} (hI : Inv R) {b a x : ByteArray} : PP (menR R b) a x ↔ PP R a x := by
  by_cases h : b ∈ R.ms
  · rw [menR_in h]
  · rw [menR_out h, pp_iff, pp_iff]
    simp only [List.mem_append, List.mem_singleton, Prod.mk.injEq]
    by_cases hab : a = b
    · subst hab
      constructor
      · rintro (⟨_, h2 | ⟨_, h2⟩⟩ | ⟨h1, _⟩)
        · exact absurd (hI.fst _ h2) h
        · exact .inr ⟨h, h2.symm⟩
        · exact absurd (.inr rfl) h1
      · rintro (⟨h1, _⟩ | ⟨_, h2⟩)
        · exact absurd h1 h
        · exact .inl ⟨.inr rfl, .inr ⟨rfl, h2.symm⟩⟩
    · simp [hab]
theorem menR_inv {R : RefS} (hI : Inv R) (b : ByteArray) : Inv (menR R b) := by
  by_cases h : b ∈ R.ms
  · rw [menR_in h]; exact hI
  · rw [menR_out h]
    refine ⟨?_, fun p hp => ?_⟩
    · rw [List.nodup_append]
      refine ⟨hI.nd, by simp, ?_⟩
      intro p hp q hq e
      simp at hq
      subst hq; subst e
      exact h (hI.fst _ hp)
    · simp only [List.mem_append, List.mem_singleton] at hp ⊢
      rcases hp with hp | rfl
      · exact .inl (hI.fst p hp)
      · exact .inr rfl
theorem addR_pp {R : RefS} (hI : Inv R) {y q a x : ByteArray} (hy : y ∈ R.ms) : PP (addR R y q) a x ↔ PP R a x ∨ (a = y ∧ x = q) := by
  unfold addR
  split
  · rename_i h
    constructor
    · exact .inl
    · rintro (h1 | ⟨rfl, rfl⟩)
      · exact h1
      · exact h
  · rename_i h
    rw [pp_iff, pp_iff]
    simp only [List.mem_append, List.mem_singleton, Prod.mk.injEq]
    by_cases ha : a ∈ R.ms
    · simp [ha]
    · have : a ≠ y := fun e => ha (e ▸ hy)
      simp [ha, this]
theorem addR_inv {R : RefS} (hI : Inv R) {y q : ByteArray} (hy : y ∈ R.ms) : Inv (addR R y q) := by
  unfold addR
  split
  · exact hI
  · rename_i h
    refine ⟨?_, fun p hp => ?_⟩
    · rw [List.nodup_append]
      refine ⟨hI.nd, by simp, ?_⟩
      intro p hp r hr e
      simp at hr
      subst hr; subst e
      exact h (pp_iff.2 (.inl ⟨hy, hp⟩))
    · simp only [List.mem_append, List.mem_singleton] at hp
      rcases hp with hp | rfl
      · exact hI.fst p hp
      · exact hy
theorem stp_pp {R : RefS} (hI : Inv R) {p q y a x : ByteArray} (hy : y ∈ R.ms) : PP (stp p q R y) a x ↔ PP R a x ∨ (a = y ∧ x = q ∧ PP R a p) := by
  unfold stp
  split
  · rename_i h
    rw [addR_pp hI hy]
    constructor
    · rintro (h1 | ⟨rfl, rfl⟩)
      · exact .inl h1
      · exact .inr ⟨rfl, rfl, h⟩
    · rintro (h1 | ⟨h1, h2, _⟩)
      · exact .inl h1
      · exact .inr ⟨h1, h2⟩
  · rename_i h
    constructor
    · exact .inl
    · rintro (h1 | ⟨rfl, _, h3⟩)
      · exact h1
      · exact absurd h3 h
theorem stp_inv {R : RefS} (hI : Inv R) {p q y : ByteArray} (hy : y ∈ R.ms) : Inv (stp p q R y) := by
  unfold stp; split
  · exact addR_inv hI hy
  · exact hI
theorem fold_pp {p q : ByteArray} (hpq : p ≠ q) : ∀ (l : List ByteArray) {R : RefS}, Inv R → (∀ y ∈ l, y ∈ R.ms) → Inv (l.foldl (stp p q) R) ∧ ∀ a x, (PP (l.foldl (stp p q) R) a x ↔ PP R a x ∨ (a ∈ l ∧ x = q ∧ PP R a p))
  | [], R, hI, _ => ⟨hI, fun a x => by simp⟩
  | y :: l, R, hI, hl => by
    have hy := hl y (by simp)
    have ih := fold_pp hpq l (stp_inv hI (p := p) (q := q) hy) (fun z hz => by rw [stp_ms]; exact hl z (by simp [hz]))
    rw [List.foldl_cons]
    refine ⟨ih.1, fun a x => ?_⟩
    rw [ih.2, stp_pp hI hy, stp_pp hI hy]
    constructor
    · rintro ((h | ⟨rfl, h2, h3⟩) | ⟨h1, h2, h3 | ⟨_, h4, _⟩⟩)
      · exact .inl h
      · exact .inr ⟨by simp, h2, h3⟩
      · exact .inr ⟨by simp [h1], h2, h3⟩
      · exact absurd h4 hpq
    · rintro (h | ⟨h1, h2, h3⟩)
      · exact .inl (.inl h)
      · rcases List.mem_cons.1 h1 with rfl | h1
        · exact .inl (.inr ⟨rfl, h2, h3⟩)
        · exact .inr ⟨h1, h2, .inl h3⟩
open Classical in
theorem dropR_pp {R : RefS} {c a x : ByteArray} : PP (dropR R c) a x ↔ if a ∈ R.ms then PP R a x ∧ x ≠ c else a = x := by
  rw [pp_iff]
  have e : (dropR R c).ms = R.ms := rfl
  rw [e]
  by_cases ha : a ∈ R.ms
  · rw [if_pos ha, pp_iff]
    have : (a, x) ∈ (dropR R c).ps ↔ (a, x) ∈ R.ps ∧ x ≠ c := by unfold dropR; simp [List.mem_filter]
    rw [this]; simp [ha]
  · rw [if_neg ha]; simp [ha]
theorem dropR_inv {R : RefS} (hI : Inv R) (c : ByteArray) : Inv (dropR R c) := ⟨hI.nd.sublist List.filter_sublist, fun p hp => hI.fst p (List.mem_filter.1 hp).1⟩
theorem linS_ext {A B : LinS} (h1 : ∀ x, A.men x = B.men x) (h2 : ∀ a x, A.pt a x = true ↔ B.pt a x = true) : A = B := by
  obtain ⟨m, p⟩ := A
  obtain ⟨m', p'⟩ := B
  have e1 : m = m' := funext h1
  have e2 : p = p' := funext fun a => funext fun x => by rw [Bool.eq_iff_iff]; exact h2 a x
  rw [e1, e2]
theorem ag_follow {R : RefS} (hI : Inv R) (e : Edt) (hE : refE R e = 0) : linR (refF R e) = followS (linR R) e ∧ Inv (refF R e) := by
  have ok : Okay (linR R) e := okay_of hE
  have hlo := ok.lo
  have hhi := ok.hi
  have hM1 := menR_inv hI e.id
  have hM2 := menR_inv hM1 e.other
  by_cases o1 : e.op = 1
  · have hF : refF R e = menR R e.oid := by unfold refF; rw [if_pos o1]
    rw [hF]
    refine ⟨linS_ext (fun x => ?_) (fun a x => ?_), menR_inv hI _⟩
    · rw [followS_men hE, Bool.eq_iff_iff]
      show inB (menR R e.oid).ms x = true ↔ _
      rw [inB_iff, menR_mem, show e.idd = e.oid by unfold Edt.idd; rw [if_pos o1], show (decide e.two) = false from decide_eq_false (by unfold Edt.two; omega)]
      simp [linR, inB_iff]
    · rw [followS_pt hE, turn_iff, if_neg (by omega), if_neg (by omega), if_neg (by omega)]
      exact menR_pp hI
  · have hidd : e.idd = e.id := by unfold Edt.idd; rw [if_neg o1]
    have hmem2 : ∀ y, y ∈ (menR (menR R e.id) e.other).ms ↔ y ∈ R.ms ∨ y = e.id ∨ y = e.other := fun y => by rw [menR_mem, menR_mem, or_assoc]
    have hpp2 : ∀ a x, PP (menR (menR R e.id) e.other) a x ↔ PP R a x := fun a x => (menR_pp hM1).trans (menR_pp hI)
    have hknown : ∀ a c, PP R a c → a ∈ R.ms ∨ a = c := fun a c h => by
      rcases pp_iff.1 h with h | h
      · exact .inl h.1
      · exact .inr h.2
    have hunk : ∀ a x, a ∉ R.ms → (PP R a x ↔ a = x) := fun a x h => by rw [pp_iff]; simp [h]
    by_cases o6 : e.op = 6
    · have hF : refF R e = (menR (menR R e.id) e.other).ms.foldl (stp e.id e.other) (menR (menR R e.id) e.other) := by unfold refF; rw [if_neg o1, if_pos o6]
      have hne := ok.ne (.inl o6)
      obtain ⟨f1, f2⟩ := fold_pp hne (menR (menR R e.id) e.other).ms hM2 (fun y hy => hy)
      rw [hF]
      refine ⟨linS_ext (fun x => ?_) (fun a x => ?_), f1⟩
      · rw [followS_men hE, Bool.eq_iff_iff, hidd]
        show inB (RefS.ms (List.foldl _ _ _)) x = true ↔ _
        rw [inB_iff, fold_ms, hmem2, show (decide e.two) = true from decide_eq_true (.inl o6)]
        simp [linR, inB_iff, or_assoc]
      · rw [followS_pt hE, turn_iff, if_neg (by omega), if_pos o6]
        show PP _ a x ↔ PP R a x ∨ (x = e.other ∧ PP R a e.id)
        rw [f2, hpp2, hpp2, hmem2]
        constructor
        · rintro (h | ⟨_, h2, h3⟩)
          · exact .inl h
          · exact .inr ⟨h2, h3⟩
        · rintro (h | ⟨h2, h3⟩)
          · exact .inl h
          · refine .inr ⟨?_, h2, h3⟩
            rcases hknown _ _ h3 with h | h
            · exact .inl h
            · exact .inr (.inl h)
    · by_cases o7 : e.op = 7
      · have hF : refF R e = dropR ((menR (menR R e.id) e.other).ms.foldl (stp e.other e.id) (menR (menR R e.id) e.other)) e.other := by unfold refF; rw [if_neg o1, if_neg o6, if_pos o7]
        have hne := ok.ne (.inr o7)
        obtain ⟨f1, f2⟩ := fold_pp (Ne.symm hne) (menR (menR R e.id) e.other).ms hM2 (fun y hy => hy)
        rw [hF]
        refine ⟨linS_ext (fun x => ?_) (fun a x => ?_), dropR_inv f1 _⟩
        · rw [followS_men hE, Bool.eq_iff_iff, hidd]
          show inB (RefS.ms (List.foldl _ _ _)) x = true ↔ _
          rw [inB_iff, fold_ms, hmem2, show (decide e.two) = true from decide_eq_true (.inr o7)]
          simp [linR, inB_iff, or_assoc]
        · rw [followS_pt hE, turn_iff, if_neg (by omega), if_neg o6, if_pos o7]
          show PP _ a x ↔ (PP R a x ∧ x ≠ e.other) ∨ (x = e.id ∧ PP R a e.other)
          rw [dropR_pp, fold_ms]
          by_cases ha : a ∈ (menR (menR R e.id) e.other).ms
          · rw [if_pos ha, f2, hpp2, hpp2]
            constructor
            · rintro ⟨h | ⟨_, h2, h3⟩, h4⟩
              · exact .inl ⟨h, h4⟩
              · exact .inr ⟨h2, h3⟩
            · rintro (⟨h, h4⟩ | ⟨h2, h3⟩)
              · exact ⟨.inl h, h4⟩
              · exact ⟨.inr ⟨ha, h2, h3⟩, by rw [h2]; exact hne⟩
          · rw [if_neg ha]
            rw [hmem2] at ha
            simp only [not_or] at ha
            obtain ⟨h1, h2, h3⟩ := ha
            rw [hunk _ _ h1, hunk _ _ h1]
            constructor
            · rintro rfl; exact .inl ⟨rfl, h3⟩
            · rintro (⟨h, _⟩ | ⟨_, h⟩)
              · exact h
              · exact absurd h h3
      · have htwo : decide e.two = false := decide_eq_false (by unfold Edt.two; omega)
        by_cases o5 : e.op = 5
        · have hF : refF R e = dropR (menR R e.id) e.id := by unfold refF; rw [if_neg o1, if_neg o6, if_neg o7, if_pos o5]
          rw [hF]
          refine ⟨linS_ext (fun x => ?_) (fun a x => ?_), dropR_inv hM1 _⟩
          · rw [followS_men hE, Bool.eq_iff_iff, hidd, htwo]
            show inB (menR R e.id).ms x = true ↔ _
            rw [inB_iff, menR_mem]; simp [linR, inB_iff]
          · rw [followS_pt hE, turn_iff, if_pos o5]
            show PP _ a x ↔ PP R a x ∧ x ≠ e.id
            rw [dropR_pp]
            by_cases ha : a ∈ (menR R e.id).ms
            · rw [if_pos ha, menR_pp hI]
            · rw [if_neg ha]
              rw [menR_mem] at ha
              simp only [not_or] at ha
              rw [hunk _ _ ha.1]
              constructor
              · rintro rfl; exact ⟨rfl, ha.2⟩
              · exact fun h => h.1
        · have hF : refF R e = menR R e.id := by unfold refF; rw [if_neg o1, if_neg o6, if_neg o7, if_neg o5]
          rw [hF]
          refine ⟨linS_ext (fun x => ?_) (fun a x => ?_), hM1⟩
          · rw [followS_men hE, Bool.eq_iff_iff, hidd, htwo]
            show inB (menR R e.id).ms x = true ↔ _
            rw [inB_iff, menR_mem]; simp [linR, inB_iff]
          · rw [followS_pt hE, turn_iff, if_neg o5, if_neg o6, if_neg o7]
            exact menR_pp hI
/-- The state behind any edit. -/
noncomputable def refN (R : RefS) (e : Edt) : RefS := if refE R e = 0 then refF R e else R
theorem ag_next {R : RefS} (hI : Inv R) (e : Edt) : linR (refN R e) = followS (linR R) e ∧ Inv (refN R e) := by
  unfold refN
  by_cases h : refE R e = 0
  · rw [if_pos h]; exact ag_follow hI e h
  · rw [if_neg h]; exact ⟨(followS_err h).symm, hI⟩
theorem refN_ms (R : RefS) (e : Edt) : (refN R e).ms.length ≤ R.ms.length + 2 := by
  have h1 := menR_ms R e.id
  have h2 := menR_ms (menR R e.id) e.other
  have h3 := menR_ms R e.oid
  unfold refN refF
  split
  · split
    · omega
    · split
      · rw [fold_ms]; omega
      · split
        · show (RefS.ms (List.foldl _ _ _)).length ≤ _
          rw [fold_ms]; omega
        · split
          · show (menR R e.id).ms.length ≤ _
            omega
          · omega
  · omega
theorem refN_ps (R : RefS) (e : Edt) : (refN R e).ps.length ≤ R.ps.length + R.ms.length + 4 := by
  have h1 := menR_ms R e.id
  have h2 := menR_ms (menR R e.id) e.other
  have k1 := menR_ps R e.id
  have k2 := menR_ps (menR R e.id) e.other
  have k3 := menR_ps R e.oid
  have f1 := fold_len e.id e.other (menR (menR R e.id) e.other).ms (menR (menR R e.id) e.other)
  have f2 := fold_len e.other e.id (menR (menR R e.id) e.other).ms (menR (menR R e.id) e.other)
  have d : ∀ (Q : RefS) c, (dropR Q c).ps.length ≤ Q.ps.length := fun Q c => List.length_filter_le _ _
  unfold refN refF
  split
  · split
    · omega
    · split
      · omega
      · split
        · have := d ((menR (menR R e.id) e.other).ms.foldl (stp e.other e.id) (menR (menR R e.id) e.other)) e.other; omega
        · split
          · have := d (menR R e.id) e.id; omega
          · omega
  · omega
/-! ### what Now and Then hand back -/
theorem bl_iff {a b : ByteArray} : Op.bytesLess a.toList b.toList = true ↔ a.data.toList < b.data.toList := by
  rw [bytesLess_eq, Lib.toList_data, Lib.toList_data, decide_eq_true_iff]
theorem putL_mem {L : List ByteArray} {s x : ByteArray} : x ∈ putL L s ↔ x = s ∨ x ∈ L := by
  have e := List.takeWhile_append_dropWhile (p := fun x : ByteArray => Op.bytesLess x.toList s.toList) (l := L)
  unfold putL
  rw [List.mem_append, List.mem_cons]
  have : x ∈ L ↔ x ∈ L.takeWhile (fun x : ByteArray => Op.bytesLess x.toList s.toList) ∨ x ∈ L.dropWhile (fun x : ByteArray => Op.bytesLess x.toList s.toList) := by
    rw [← List.mem_append, e]
  rw [this]
  constructor
  · rintro (h | h | h)
    · exact .inr (.inl h)
    · exact .inl h
    · exact .inr (.inr h)
  · rintro (h | h | h)
    · exact .inr (.inl h)
    · exact .inl h
    · exact .inr (.inr h)
theorem putL_sorted : ∀ {L : List ByteArray} {s : ByteArray}, Sorted L → s ∉ L → Sorted (putL L s)
  | [], s, _, _ => List.pairwise_singleton _ _
  | y :: L, s, h, hs => by
    have h' := List.pairwise_cons.1 h
    by_cases hy : Op.bytesLess y.toList s.toList = true
    · have ih := putL_sorted (L := L) (s := s) h'.2 (fun hm => hs (by simp [hm]))
      have e : putL (y :: L) s = y :: putL L s := by unfold putL; rw [List.takeWhile_cons, List.dropWhile_cons, if_pos hy, if_pos hy]; rfl
      rw [e]
      refine List.pairwise_cons.2 ⟨fun z hz => ?_, ih⟩
      rcases putL_mem.1 hz with rfl | hz
      · exact bl_iff.1 hy
      · exact h'.1 z hz
    · have e : putL (y :: L) s = s :: y :: L := by unfold putL; rw [List.takeWhile_cons, List.dropWhile_cons, if_neg hy, if_neg hy]; rfl
      rw [e]
      have hlt : s.data.toList < y.data.toList := by
        have h1 : ¬ y.data.toList < s.data.toList := fun h => hy (bl_iff.2 h)
        have h2 : s.data.toList ≠ y.data.toList := fun e => hs (by
          have : s = y := ByteArray.ext (Array.toList_inj.1 e)
          rw [this]; simp)
        exact lt_of_le_ne (List.not_lt.1 h1) h2
      refine List.pairwise_cons.2 ⟨fun z hz => ?_, h⟩
      rcases List.mem_cons.1 hz with rfl | hz
      · exact hlt
      · exact List.lt_trans hlt (h'.1 z hz)
theorem fold_put : ∀ (l L : List ByteArray), Sorted L → l.Nodup → (∀ x ∈ l, x ∉ L) → Sorted (l.foldl putL L) ∧ ∀ x, x ∈ l.foldl putL L ↔ x ∈ L ∨ x ∈ l
  | [], L, h, _, _ => ⟨h, fun x => by simp⟩
  | s :: l, L, h, hn, hd => by
    have hn' := List.nodup_cons.1 hn
    have ih := fold_put l (putL L s) (putL_sorted h (hd s (by simp))) hn'.2 (fun x hx hm => by
      rcases putL_mem.1 hm with rfl | hm
      · exact hn'.1 hx
      · exact hd x (by simp [hx]) hm)
    rw [List.foldl_cons]
    refine ⟨ih.1, fun x => ?_⟩
    rw [ih.2, putL_mem, List.mem_cons]
    constructor
    · rintro ((h | h) | h)
      · exact .inr (.inl h)
      · exact .inl h
      · exact .inr (.inr h)
    · rintro (h | h | h)
      · exact .inl (.inr h)
      · exact .inl (.inl h)
      · exact .inr h
theorem now_ok {R : RefS} (hI : Inv R) (a : ByteArray) : Sorted (nowR R a) ∧ ∀ x, x ∈ nowR R a ↔ (linR R).pt a x = true := by
  unfold nowR
  by_cases h : a ∈ R.ms
  · rw [if_pos (inB_iff.2 h)]
    have hn : ((R.ps.filter (fun x => decide (x.1 = a))).map (·.2)).Nodup := by
      refine (List.pairwise_map).2 ((hI.nd.sublist List.filter_sublist).imp_of_mem fun {x y} hx hy hne e => hne ?_)
      have h1 := of_decide_eq_true (List.mem_filter.1 hx).2
      have h2 := of_decide_eq_true (List.mem_filter.1 hy).2
      exact Prod.ext (h1.trans h2.symm) e
    obtain ⟨h1, h2⟩ := fold_put _ [] List.Pairwise.nil hn (fun x _ hx => by cases hx)
    refine ⟨h1, fun x => ?_⟩
    rw [h2]
    show _ ↔ PP R a x
    rw [pp_iff]
    simp only [List.not_mem_nil, false_or, List.mem_map, List.mem_filter, decide_eq_true_eq, h, true_and, not_true, false_and, or_false]
    constructor
    · rintro ⟨⟨y1, y2⟩, ⟨h3, h4⟩, h5⟩
      simp only at h4 h5; subst h4; subst h5; exact h3
    · exact fun h3 => ⟨_, ⟨h3, rfl⟩, rfl⟩
  · rw [if_neg (fun e => h (inB_iff.1 e))]
    refine ⟨List.pairwise_singleton _ _, fun x => ?_⟩
    show _ ↔ PP R a x
    rw [pp_iff]; simp [h, eq_comm]
theorem then_ok {R : RefS} (hI : Inv R) (hF : Fine (linR R)) (a : ByteArray) : Sorted (thenR R a) ∧ ∀ x, x ∈ thenR R a ↔ (linR R).pt x a = true := by
  unfold thenR
  by_cases h : a ∈ R.ms
  · rw [if_pos (inB_iff.2 h)]
    have hn : ((R.ps.filter (fun x => decide (x.2 = a))).map (·.1)).Nodup := by
      refine (List.pairwise_map).2 ((hI.nd.sublist List.filter_sublist).imp_of_mem fun {x y} hx hy hne e => hne ?_)
      have h1 := of_decide_eq_true (List.mem_filter.1 hx).2
      have h2 := of_decide_eq_true (List.mem_filter.1 hy).2
      exact Prod.ext e (h1.trans h2.symm)
    obtain ⟨h1, h2⟩ := fold_put _ [] List.Pairwise.nil hn (fun x _ hx => by cases hx)
    refine ⟨h1, fun x => ?_⟩
    rw [h2]
    show _ ↔ PP R x a
    rw [pp_iff]
    simp only [List.not_mem_nil, false_or, List.mem_map, List.mem_filter, decide_eq_true_eq]
    constructor
    · rintro ⟨⟨y1, y2⟩, ⟨h3, h4⟩, h5⟩
      simp only at h4 h5; subst h4; subst h5; exact .inl ⟨hI.fst _ h3, h3⟩
    · rintro (⟨_, h3⟩ | ⟨h3, rfl⟩)
      · exact ⟨_, ⟨h3, rfl⟩, rfl⟩
      · exact absurd h h3
  · rw [if_neg (fun e => h (inB_iff.1 e))]
    refine ⟨List.pairwise_singleton _ _, fun x => ?_⟩
    constructor
    · intro hx
      simp at hx; subst hx
      show PP R x x
      rw [pp_iff]; simp [h]
    · intro hx
      rcases hF.known _ _ hx with h1 | h1
      · simp [h1]
      · exact absurd (inB_iff.1 h1) h
theorem gone_ok {R : RefS} (hI : Inv R) (a : ByteArray) : (((nowR R a).length : Int) == 0) = true ↔ ∀ y, (linR R).pt a y = false := by
  have h2 := (now_ok hI a).2
  rw [beq_iff_eq]
  constructor
  · intro h y
    have : nowR R a = [] := List.eq_nil_of_length_eq_zero (by omega)
    rw [this] at h2
    cases hp : (linR R).pt a y with
    | false => rfl
    | true => have := (h2 y).2 hp; cases this
  · intro h
    have : nowR R a = [] := List.eq_nil_iff_forall_not_mem.2 fun x hx => by have e := (h2 x).1 hx; rw [h x] at e; cases e
    rw [this]; rfl
theorem linR_new : linR ⟨[], []⟩ = LinS.new := linS_ext (fun x => by show inB [] x = false; rw [Bool.eq_false_iff]; exact fun h => by cases inB_iff.1 h) (fun a x => by
  show PP ⟨[], []⟩ a x ↔ decide (a = x) = true
  rw [pp_iff]; simp)
end Go.Proofs.Ytcolfgnjmnapkaa
