/- The reference's Meets: rows of points, and what its list of common ends answers. -/
import Derived.Test.YtiainjcimmeedaaLy
set_option linter.unusedVariables false
set_option linter.unusedSimpArgs false
namespace Go.Proofs.Ytiainjcimmeedaa
open Go.RowKit Go.Pl Go.Geo

def oP (w : World) (B : Nat) (v : Value) (L : List Pt) : Prop := w.ownsRow B 32 2 v L.length (L.flatMap fun p => (ptC p).toList)
theorem inf32 : (Try.prog.info? 32).map (fun i => (i.size, i.bytes, i.zero)) = some (2, 16, some (.agg (ptC (0, 0)))) := by kernel_rfl
section
variable {o : Oper} {w : World} {ρ : Operand → Value} {x y : Operand} {g off : Nat}
theorem run_index69 {i n cap : Nat} (ho : o.op = .indexAddr 69 x y) (hx : ρ x = .slice (some ⟨g, 0, none⟩) n cap) (hy : ρ y = .int .i64 i) (hi : i < n) : (execOp ρ o).run Try.prog w = .ok (.value (.pointer (some ⟨g, i * 2, none⟩))) w := by
  have h1 : (i : Int) < n := by omega
  simp [execOp, ho, hx, hy, go_sem, h1]
theorem run_len69 {n cap : Nat} {p : Option Addr} (ho : o.op = .call ⟨.builtin .len, #[x], #[69]⟩) (hx : ρ x = .slice p n cap) : (execOp ρ o).run Try.prog w = .ok (.value (.int .i64 n)) w := by
  simp [execOp, ho, hx, resolve, invoke, go_sem]
theorem ld_ptAt {ps : List Pt} {i : Nat} {p : Pt} (ho : o.op = .load 32 x) (hx : ρ x = .pointer (some ⟨g, i * 2, none⟩)) (h : PtsAt w g ps) (hp : ps[i]? = some p) : (execOp ρ o).run Try.prog w = .ok (.value (.agg (ptC p))) w := by
  obtain ⟨c0, c1⟩ := h i p hp
  simp [execOp, ho, hx, go_sem, c0, c1]
theorem run_one32 {p : Pt} (ho : o.op = .buildSlice 69 1 #[(0, x)]) (h1 : ρ x = .agg (ptC p)) : (execOp ρ o).run Try.prog w = .ok (.value (.slice (some ⟨w.heap.size, 0, none⟩) 1 1)) (w.alloc (.cells (ptC p) 32)) := by
  simp [execOp, ho, h1, go_sem]
end
theorem oP.row {w : World} {B : Nat} {v : Value} {L : List Pt} (h : oP w B v L) : ∃ p cap, v = .slice p L.length cap ∧ (L = [] ∨ ∃ g, p = some ⟨g, 0, none⟩ ∧ g < w.heap.size ∧ B ≤ g ∧ PtsAt w g L) := by
  rcases h.2 with ⟨h1, h2⟩ | ⟨g, cap, cur, h1, hB, h2, h3, h4, h5, h6⟩
  · exact ⟨none, 0, by rw [h1, h2], .inl (List.eq_nil_of_length_eq_zero h2)⟩
  · refine ⟨_, cap, h1, .inr ⟨g, rfl, lt_of_blk h2, hB, fun i p hp => ?_⟩⟩
    have hi := (List.getElem?_eq_some_iff.1 hp).1
    have := fun j (hj : j < 2) => flat_at (f := fun p : Pt => (ptC p).toList) (c := 2) (fun _ => rfl) L i p hp j hj
    have h0 := this 0 (by omega)
    have h7 := this 1 (by omega)
    rw [← h6, List.getElem?_take_of_lt (by omega), Array.getElem?_toList] at h0 h7
    rw [cell_of_blk h2, cell_of_blk h2]
    exact ⟨h0, h7⟩
section
variable {O : Array Oper} {Q : Exit → Act → World → Prop} {rest : List Oper} {o : Oper} {a : Act} {w : World} {n d : Nat} {L : List (Nat × Value)} {x y x1 x2 x3 x4 : Operand} {b : Nat}
theorem env_ends {p1 p2 p3 p4 : Pt} (E : Env n L a) (hd : o.dst = some d) (hn : d < n) (hf : (L.map (·.1)).contains d = false) (hw : Region.wanted o (yielded O a.tmps) = true) (ho : o.op = .buildSlice 69 4 #[(0, x1), (1, x2), (2, x3), (3, x4)]) (h1 : a.eval x1 = .agg (ptC p1)) (h2 : a.eval x2 = .agg (ptC p2)) (h3 : a.eval x3 = .agg (ptC p3)) (h4 : a.eval x4 = .agg (ptC p4))
    (k : ∀ a' w' b, w.heap.size = b → b < w'.heap.size → PtsAt w' b [p1, p2, p3, p4] → Fr (fun _ => False) w w' → Env n ((d, .slice (some ⟨b, 0, none⟩) 4 4) :: L) a' → wpList Try.prog O Q rest a' w') : wpList Try.prog O Q (o :: rest) a w :=
  env_put E hd hn hf hw (run_pts4 ho h1 h2 h3 h4) fun a' E' => k a' _ _ rfl (lt_of_blk (blk_alloc_new _ _)) (fun i p hp => by
    rw [cell_of_blk (blk_alloc_new _ _), cell_of_blk (blk_alloc_new _ _)]
    match i, hp with
    | 0, hp => simp at hp; subst hp; exact ⟨rfl, rfl⟩
    | 1, hp => simp at hp; subst hp; exact ⟨rfl, rfl⟩
    | 2, hp => simp at hp; subst hp; exact ⟨rfl, rfl⟩
    | 3, hp => simp at hp; subst hp; exact ⟨rfl, rfl⟩
    | i + 4, hp => simp at hp) ((Fr.refl _ _).alloc _) E'
theorem env_one32 {m : Pt} (E : Env n L a) (hd : o.dst = some d) (hn : d < n) (hf : (L.map (·.1)).contains d = false) (hw : Region.wanted o (yielded O a.tmps) = true) (ho : o.op = .buildSlice 69 1 #[(0, x)]) (hx : a.eval x = .agg (ptC m))
    (k : ∀ a' w' b, w.heap.size = b → ptB w' b m → Fr (fun _ => False) w w' → Env n ((d, .slice (some ⟨b, 0, none⟩) 1 1) :: L) a' → wpList Try.prog O Q rest a' w') : wpList Try.prog O Q (o :: rest) a w :=
  env_put E hd hn hf hw (run_one32 ho hx) fun a' E' => k a' _ _ rfl (blk_alloc_new _ _) ((Fr.refl _ _).alloc _) E'
theorem env_app32 {B : Nat} {v : Value} {A : List Pt} {m : Pt} (E : Env n L a) (hd : o.dst = some d) (hn : d < n) (hf : (L.map (·.1)).contains d = false) (hg : o.guard = none) (ho : o.op = .call { callee := .builtin .append, args := #[x, y], argTypes := #[69, 69] }) (hx : a.eval x = v) (hv : oP w B v A) (hy : a.eval y = .slice (some ⟨b, 0, none⟩) 1 1) (hb : ptB w b m) (hl : A.length ≤ 400000000) (hB : B ≤ w.heap.size)
    (k : ∀ a' w' v', oP w' B v' (A ++ [m]) → Fr (fun k => v.ownBlock = some k) w w' → (v'.ownBlock = v.ownBlock ∨ v'.ownBlock = some w.heap.size) → Env n ((d, v') :: L) a' → wpList Try.prog O Q rest a' w') : wpList Try.prog O Q (o :: rest) a w := by
  obtain ⟨i, hi, hz, h1, h2⟩ := parts_of inf32
  refine wpList_append_own_at w hg _ _ 69 ho B 32 i _ 2 16 Try.underlying69 hi hz h1 h2 rfl (by decide) v A.length _ hx hv ⟨b, 0, none⟩ 1 1 (ptC m).toList hy rfl (fun j u hu => ?_) (fun u hu => ?_) (by unfold maxLen; omega) (by omega) hB fun v' w' c1 c2 c3 c4 => ?_
  · rw [show (⟨b, 0, none⟩ : Addr).add j = ⟨b, j, none⟩ by simp [Addr.add]; exact fun h => h.symm, cell_of_blk hb]; simpa using hu
  · simp only [List.mem_cons, List.not_mem_nil, or_false] at hu
    rcases hu with rfl | rfl <;> rfl
  · rw [hd]
    refine k _ w' v' ?_ ((Fr.refl _ _).grown c2 fun k hk _ => hk) c4 (E.put hn hf)
    unfold oP
    rw [List.length_append, List.flatMap_append]
    simpa using c1
end
/-- The reference's list of common ends. -/
def comS (f : Pt → Bool) (acc : List Pt) (p : Pt) : List Pt := if acc.contains p = false ∧ f p = true then acc ++ [p] else acc
def comL (f : Pt → Bool) (l : List Pt) : List Pt := l.foldl (comS f) []
theorem comL_snoc (f : Pt → Bool) (l : List Pt) (p : Pt) : comL f (l ++ [p]) = comS f (comL f l) p := by unfold comL; rw [List.foldl_append]; rfl
theorem comL_mem (f : Pt → Bool) (l : List Pt) : ∀ p, p ∈ comL f l ↔ p ∈ l ∧ f p = true := by
  induction l using Swp.snoc_ind with
  | nil => intro p; simp [comL]
  | snoc l q ih =>
    intro p
    rw [comL_snoc]
    unfold comS
    by_cases h : (comL f l).contains q = false ∧ f q = true
    · rw [if_pos h, List.mem_append, ih, List.mem_append]
      simp only [List.mem_cons, List.not_mem_nil, or_false]
      constructor
      · rintro (⟨h1, h2⟩ | rfl)
        · exact ⟨.inl h1, h2⟩
        · exact ⟨.inr rfl, h.2⟩
      · rintro ⟨h1 | rfl, h2⟩
        · exact .inl ⟨h1, h2⟩
        · exact .inr rfl
    · rw [if_neg h, ih, List.mem_append]
      simp only [List.mem_cons, List.not_mem_nil, or_false]
      constructor
      · rintro ⟨h1, h2⟩; exact ⟨.inl h1, h2⟩
      · rintro ⟨h1 | rfl, h2⟩
        · exact ⟨h1, h2⟩
        · have hc : (comL f l).contains p = true := by
            cases hc : (comL f l).contains p with
            | true => rfl
            | false => exact absurd ⟨hc, h2⟩ h
          have := (ih p).1 (by simpa using hc)
          exact this
theorem comL_nodup (f : Pt → Bool) (l : List Pt) : (comL f l).Nodup := by
  induction l using Swp.snoc_ind with
  | nil => exact List.nodup_nil
  | snoc l q ih =>
    rw [comL_snoc]
    unfold comS
    split
    · rename_i h
      rw [List.nodup_append]
      refine ⟨ih, by simp, ?_⟩
      intro a ha b hb e
      simp at hb
      subst hb; subst e
      have := h.1
      simp [ha] at this
    · exact ih
theorem comL_len (f : Pt → Bool) (l : List Pt) : (comL f l).length ≤ l.length := by
  induction l using Swp.snoc_ind with
  | nil => simp [comL]
  | snoc l q ih => rw [comL_snoc, List.length_append]; unfold comS; split <;> simp <;> omega
def fC (s t : Sg) (p : Pt) : Bool := decide (ronP s p) && decide (ronP t p)
def endsL (s t : Sg) : List Pt := [s.1, s.2, t.1, t.2]
section
variable {s t : Sg} (hs : nearS s) (ht : nearS t)
include hs ht
theorem mem_com (p : Pt) : p ∈ comL (fC s t) (endsL s t) ↔ (isEnd s p ∨ isEnd t p) ∧ C s t p := by
  rw [comL_mem]
  have he : p ∈ endsL s t ↔ (isEnd s p ∨ isEnd t p) := by
    unfold endsL isEnd
    simp only [List.mem_cons, List.not_mem_nil, or_false]
    constructor
    · rintro (h | h | h | h) <;> simp [h]
    · rintro ((h | h) | h | h) <;> simp [h]
  rw [he]
  constructor
  · rintro ⟨h1, h2⟩
    unfold fC at h2
    rw [Bool.and_eq_true] at h2
    exact ⟨h1, (of_decide_eq_true h2.1).2, (of_decide_eq_true h2.2).2⟩
  · rintro ⟨h1, h2, h3⟩
    have hp : nearP p := by
      rcases h1 with (rfl | rfl) | (rfl | rfl)
      · exact hs.1
      · exact hs.2
      · exact ht.1
      · exact ht.2
    refine ⟨h1, ?_⟩
    unfold fC ronP
    simp [hs, ht, hp, h2, h3]
theorem near_all : ∀ p ∈ [s.1, s.2, t.1, t.2], nearP p := by
  intro p hp
  simp only [List.mem_cons, List.not_mem_nil, or_false] at hp
  rcases hp with rfl | rfl | rfl | rfl
  · exact hs.1
  · exact hs.2
  · exact ht.1
  · exact ht.2
theorem meetsN_near : meetsN s t = kindR s t := by unfold meetsN; rw [if_pos (near_all hs ht), meetsF_eq]
theorem kind_same (h : sameS s t) : meetsN s t = 4 := by rw [meetsN_near hs ht]; unfold kindR; rw [if_pos h]
theorem kind_many (h : ¬ sameS s t) (h2 : 1 < (comL (fC s t) (endsL s t)).length) : meetsN s t = 5 := by
  rw [meetsN_near hs ht]; unfold kindR; rw [if_neg h, if_pos]
  have hn := comL_nodup (fC s t) (endsL s t)
  have hm := mem_com hs ht
  generalize comL (fC s t) (endsL s t) = L at *
  match L, h2, hn with
  | p :: q :: L, _, hn =>
    have hp := (hm p).1 (by simp)
    have hq := (hm q).1 (by simp)
    unfold many
    rw [any4_iff]
    refine ⟨p, hp.1, ?_⟩
    rw [any4_iff]
    refine ⟨q, hq.1, ?_, hp.2, hq.2⟩
    rintro rfl; simp at hn
theorem not_many (h2 : (comL (fC s t) (endsL s t)).length ≤ 1) : ¬ many s t := by
  have hm := mem_com hs ht
  generalize comL (fC s t) (endsL s t) = L at *
  intro h
  unfold many at h
  rw [any4_iff] at h
  obtain ⟨p, hp, h⟩ := h
  rw [any4_iff] at h
  obtain ⟨q, hq, hne, hcp, hcq⟩ := h
  have h3 := (hm p).2 ⟨hp, hcp⟩
  have h4 := (hm q).2 ⟨hq, hcq⟩
  match L, h2 with
  | [], _ => cases h3
  | [c], _ => simp at h3 h4; exact hne (h3.trans h4.symm)
theorem kind_end {c : Pt} (h : ¬ sameS s t) (h2 : comL (fC s t) (endsL s t) = [c]) (h3 : c = s.1 ∨ c = s.2) (h4 : c = t.1 ∨ c = t.2) : meetsN s t = 1 := by
  rw [meetsN_near hs ht]; unfold kindR; rw [if_neg h, if_neg (not_many hs ht (by rw [h2]; simp)), if_pos]
  rw [any4_iff]
  have := (mem_com hs ht c).1 (by rw [h2]; simp)
  exact ⟨c, this.1, this.2, h3, h4⟩
theorem kind_touch {c : Pt} (h : ¬ sameS s t) (h2 : comL (fC s t) (endsL s t) = [c]) (h3 : ¬ ((c = s.1 ∨ c = s.2) ∧ (c = t.1 ∨ c = t.2))) : meetsN s t = 2 := by
  rw [meetsN_near hs ht]; unfold kindR; rw [if_neg h, if_neg (not_many hs ht (by rw [h2]; simp)), if_neg, if_pos]
  · rw [any4_iff]
    have := (mem_com hs ht c).1 (by rw [h2]; simp)
    exact ⟨c, this.1, this.2⟩
  · rw [any4_iff]
    rintro ⟨p, hp, hc, h5, h6⟩
    have := (mem_com hs ht p).2 ⟨hp, hc⟩
    rw [h2] at this
    simp at this
    subst this
    exact h3 ⟨h5, h6⟩
theorem kind_cross (h : ¬ sameS s t) (h2 : comL (fC s t) (endsL s t) = []) : meetsN s t = if crossing s t then 3 else 0 := by
  rw [meetsN_near hs ht]; unfold kindR; rw [if_neg h, if_neg (not_many hs ht (by rw [h2]; simp)), if_neg, if_neg]
  · rw [any4_iff]
    rintro ⟨p, hp, hc⟩
    have := (mem_com hs ht p).2 ⟨hp, hc⟩
    rw [h2] at this; cases this
  · rw [any4_iff]
    rintro ⟨p, hp, hc, _⟩
    have := (mem_com hs ht p).2 ⟨hp, hc⟩
    rw [h2] at this; cases this
end
theorem meetsN_far {s t : Sg} (h : ¬ (nearS s ∧ nearS t)) : meetsN s t = 0 := by
  unfold meetsN
  rw [if_neg]
  intro hn
  exact h ⟨⟨hn _ (by simp), hn _ (by simp)⟩, hn _ (by simp), hn _ (by simp)⟩
theorem oP.at {w : World} {B n c : Nat} {p : Option Addr} {L : List Pt} (h : oP w B (.slice p n c) L) {k : Nat} (hk : k < L.length) : ∃ g, p = some ⟨g, 0, none⟩ ∧ g < w.heap.size ∧ PtsAt w g L := by
  obtain ⟨p', cap, hv, hr⟩ := h.row
  obtain ⟨rfl, _, _⟩ : p = p' ∧ n = L.length ∧ c = cap := by simpa using hv
  obtain ⟨g, h1, h2, _, h3⟩ := hr.resolve_left (by rintro rfl; exact absurd hk (Nat.not_lt_zero _))
  exact ⟨g, h1, h2, h3⟩
theorem con_step {cm : List Pt} {k : Nat} {c e : Pt} (h : cm[k]? = some c) : (cm.take (k + 1)).contains e = ((cm.take k).contains e || decide (c = e)) := by
  rw [List.take_add_one, h, Bool.eq_iff_iff]
  rw [List.contains_iff_mem, Bool.or_eq_true, List.contains_iff_mem, List.mem_append, decide_eq_true_iff, Option.toList_some, List.mem_singleton]
  exact ⟨fun h => h.imp id Eq.symm, fun h => h.imp id Eq.symm⟩
theorem oriN_lo (a b c d e f : Pt) : -9223372036854775808 ≤ oriN a b c * oriN d e f := by
  have h : ∀ a b c, oriN a b c = -1 ∨ oriN a b c = 0 ∨ oriN a b c = 1 := fun a b c => by
    unfold oriN ori cmpI; split <;> (try split) <;> (try split) <;> simp
  rcases h a b c with h1 | h1 | h1 <;> rcases h d e f with h2 | h2 | h2 <;> rw [h1, h2] <;> decide
theorem oriN_hi (a b c d e f : Pt) : oriN a b c * oriN d e f ≤ 9223372036854775807 := by
  have h : ∀ a b c, oriN a b c = -1 ∨ oriN a b c = 0 ∨ oriN a b c = 1 := fun a b c => by
    unfold oriN ori cmpI; split <;> (try split) <;> (try split) <;> simp
  rcases h a b c with h1 | h1 | h1 <;> rcases h d e f with h2 | h2 | h2 <;> rw [h1, h2] <;> decide
theorem com_skip {f : Pt → Bool} {es : List Pt} {i : Nat} {e : Pt} {cm : List Pt} (he : es[i]? = some e) (hcm : cm = comL f (es.take i)) (h : cm.contains e = true ∨ f e = false) : Hid (cm = comL f (es.take (i + 1))) := by
  rw [Hid, List.take_add_one, he]
  show cm = comL f (_ ++ [e])
  rw [comL_snoc, ← hcm]
  unfold comS
  rw [if_neg]
  rintro ⟨h1, h2⟩
  rcases h with h | h
  · rw [h] at h1; cases h1
  · rw [h] at h2; cases h2
theorem com_add {f : Pt → Bool} {es : List Pt} {i : Nat} {e : Pt} {cm : List Pt} (he : es[i]? = some e) (hcm : cm = comL f (es.take i)) (h : cm.contains e = false) (h2 : f e = true) : Hid (cm ++ [e] = comL f (es.take (i + 1))) := by
  rw [Hid, List.take_add_one, he]
  show cm ++ [e] = comL f (_ ++ [e])
  rw [comL_snoc, ← hcm]
  unfold comS
  rw [if_pos ⟨h, h2⟩]
end Go.Proofs.Ytiainjcimmeedaa
