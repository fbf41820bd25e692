/- Part 4 of the proof: the texts U6, U7, U8, U9, U10, U11, W1, W2, W3, Rm, Hq. -/
import Derived.Test.YtbflfefahheidaaGreatDoorK3
import Derived.Shelf.Strconv.AtoiAll
import Derived.Test.YtbflfefahheidaaGreatDoorProg
/- The lexer: Lex. -/
set_option linter.unusedVariables false
set_option linter.unusedSimpArgs false
namespace Go.Proofs.YtbflfefahheidaaGreatDoor
open Go.RowKit Go.Pl
theorem lexP_len {s : Bys} : (lexL s 0).length ≤ s.length := lexL_len _ s 0 (Nat.le_refl _)
theorem err_no {l : List (Tok Int × Int)} (h : ∀ x ∈ l, x.2 = 0) : errOf l = none := (errOf_none _).2 h
theorem err_is : ∀ {l : List (Tok Int × Int)} {k : Nat} {x : Tok Int × Int}, l[k]? = some x → (∀ y ∈ l.take k, y.2 = 0) → x.2 ≠ 0 → errOf l = some (x.2, x.1.2.2) := by
  intro l
  induction l with
  | nil => intro k x h; simp at h
  | cons y l ih =>
    intro k x h h0 hx
    cases k with
    | zero => simp at h; subst h; unfold errOf; rw [if_pos (by simpa using hx)]
    | succ k =>
      have hy := h0 y (by simp)
      unfold errOf
      rw [if_neg (by simp [hy])]
      exact ih (by simpa using h) (fun z hz => h0 z (by simp [hz])) hx
def tkL (t : Tok Int) : List Value := [vI t.1, vS t.2.1, vI t.2.2]
theorem tkT : ElT Tryz.prog tkL 3 130 186 := ⟨fun _ => rfl, by decide, fun x u hu => by
  unfold tkL at hu
  simp only [List.mem_cons, List.not_mem_nil, or_false] at hu
  rcases hu with rfl | rfl | rfl <;> rfl, Tryz.underlying130, elOK_info (by kernel_rfl)⟩
/-- The lexer's own blocks. -/
structure TokH (bt bf bc : Nat) (s : Bys) (w w' : World) : Prop where
  t : w'.heap[bt]? = some (.cells #[vS s] 9 (0, 0))
  f : w'.heap[bf]? = some (.cells #[.func (.func 152) #[] #[vP bt 0, vP bc 0]] 228 (0, 0))
  c : ∃ cs, w'.heap[bc]? = some (.cells cs 153 (0, 0)) ∧ T8 cs clsT
  nt : w.heap.size ≤ bt
  nf : w.heap.size ≤ bf
  nc : w.heap.size ≤ bc
theorem tokens_calls (s : Bys) (w : World) : Calls Tryz.prog 120 #[vS s] w fun e w' => ∃ bt bf bc, e = .returned (.func (.func 153) #[] #[vP bt 0, vP bf 0]) ∧ TokH bt bf bc s w w' ∧ Fr (fun _ => False) w w' := by
  refine beg Tryz.func120 rfl rfl [(0, vS s)] rfl rfl fun Φ hΦ => ?_
  have hM := Mm.nil (fun _ => False) w
  refine newm 0 0 1 [] (cs := #[vS s]) (T := 9) (v := fun b => vP b 0) f0 hM fun b1 w1 hM => calk 1 0 5 [] (K := fun v w8 => ∃ cs, v = .agg cs ∧ T8 cs clsT) f0 hM ((classes_calls _).mono fun e w8 ⟨cs, h1, h2, h3⟩ => ⟨⟨_, h1, cs, rfl, h2⟩, h3⟩) fun _ w1 ⟨cs, hv9, hT⟩ hM f1 => ?_
  subst hv9
  refine newm 1 1 3 [] (cs := zT Tryz.prog 153) (T := 153) (v := fun b => vP b 0) f0 hM fun b2 w1 hM => stma 1 2 [] 153 1 f0 hM rfl zero8.1 hT.1 (T8.one hT) fun w1 hM => varm 2 1 4 [(6, .func (.func 152) #[] #[vP b1 0, vP b2 0])] [] 228 (.func (.func 152) #[] #[vP b1 0, vP b2 0]) f0 hM fun b3 w1 hM => rt1 2 (.func (.func 153) #[] #[vP b1 0, vP b3 0]) rfl f0 (hΦ _ _ ⟨_, _, _, rfl, ⟨hM.get 0 rfl, hM.get 2 rfl, ⟨_, hM.get 1 rfl, hT⟩, hM.ge (.head _) rfl, hM.ge (.tail _ (.tail _ (.head _))) rfl, hM.ge (.tail _ (.head _)) rfl⟩, hM.fr⟩)
/-- What Lex answers. -/
def lexR (s : Bys) (w w' : World) (e : Ending) : Prop := match lexP s with
  | .error (c, x) => ∃ v, e = .returned (.tuple #[vL none 0 0, vI c, v]) ∧ v = vI x
  | .ok ts => ∃ v, e = .returned (.tuple #[v, vI 0, vI 0]) ∧ NRow tkL 3 186 w w' v ts
theorem lex_calls {s : Bys} (hl : s.length ≤ 4999) (w : World) : Calls Tryz.prog 93 #[vS s] w fun e w' => lexR s w w' e ∧ Fr (fun _ => False) w w' := by
  refine begM Tryz.func93 rfl rfl [(0, vS s)] rfl rfl fun Φ hΦ => ?_
  have hM := Mm.nil (fun _ => False) w
  refine newm 0 0 2 [] (cs := #[vL none 0 0]) (T := 130) (v := fun b => vP b 0) f0 hM fun b4 w1 hM => newm 0 1 3 [] (cs := #[vI 0]) (T := 32) (v := fun b => vP b 0) f0 hM fun b5 w1 hM => newm 0 2 4 [] (cs := #[vI 0]) (T := 3) (v := fun b => vP b 0) f0 hM fun b6 w1 hM => seg 1 3 [(9, vB (decide (20000 < (s.length : Int))))] (fc (tlen 9 s) f0) ?_
  cases h7 : (decide (20000 < (s.length : Int))) with
  | false =>
   have rh7 := df h7
   refine newm 3 0 5 [] (cs := #[vL none 0 0]) (T := 130) (v := fun b => vP b 0) f0 hM fun b8 w1 hM => ?_
   skip
   refine cal 4 1 11 [(10, vS s)] (K := fun u w8 => ∃ bt bf bc, u = .func (.func 153) #[] #[vP bt 0, vP bf 0] ∧ TokH bt bf bc s _ w8 ∧ Fr (fun _ => False) _ w8) f0 ((tokens_calls s _).mono fun e w9 ⟨bt, bf, bc, h1, h2⟩ => ⟨_, h1, bt, bf, bc, rfl, h2⟩) fun u w1 ⟨bt, bf, bc, hu, hT, f1⟩ => ?_
   subst hu
   have nap : ∀ k, (World.heap _).size ≤ k → ¬ BlM _ k := fun k hk ⟨e, he, hb⟩ => Nat.lt_irrefl _ (Nat.lt_of_lt_of_le (e.lt (hM.at_ e he) hb) hk)
   have hnt := nap _ hT.nt
   have hnf := nap _ hT.nf
   have hnc := nap _ hT.nc
   have hM := hM.q f1
   have hM := hM.row (f := tkL) (c := 3) (E := 186)
   have hnt9 : ¬ BlM [bk b4 #[vL none 0 0] 130, bk b5 #[vI 0] 32, bk b6 #[vI 0] 3, bk b8 #[vL none 0 0] 130, rw_ tkL 3 186 (vL none 0 0) []] bt := fun h => hnt (by obtain ⟨e, he, hb⟩ := h; simp only [List.mem_cons, List.not_mem_nil, or_false] at he; rcases he with rfl | rfl | rfl | rfl | rfl; exact ⟨_, .head _, hb⟩; exact ⟨_, .tail _ (.head _), hb⟩; exact ⟨_, .tail _ (.tail _ (.head _)), hb⟩; exact ⟨_, .tail _ (.tail _ (.tail _ (.head _))), hb⟩; cases hb)
   have hnf9 : ¬ BlM [bk b4 #[vL none 0 0] 130, bk b5 #[vI 0] 32, bk b6 #[vI 0] 3, bk b8 #[vL none 0 0] 130, rw_ tkL 3 186 (vL none 0 0) []] bf := fun h => hnf (by obtain ⟨e, he, hb⟩ := h; simp only [List.mem_cons, List.not_mem_nil, or_false] at he; rcases he with rfl | rfl | rfl | rfl | rfl; exact ⟨_, .head _, hb⟩; exact ⟨_, .tail _ (.head _), hb⟩; exact ⟨_, .tail _ (.tail _ (.head _)), hb⟩; exact ⟨_, .tail _ (.tail _ (.tail _ (.head _))), hb⟩; cases hb)
   have hnc9 : ¬ BlM [bk b4 #[vL none 0 0] 130, bk b5 #[vI 0] 32, bk b6 #[vI 0] 3, bk b8 #[vL none 0 0] 130, rw_ tkL 3 186 (vL none 0 0) []] bc := fun h => hnc (by obtain ⟨e, he, hb⟩ := h; simp only [List.mem_cons, List.not_mem_nil, or_false] at he; rcases he with rfl | rfl | rfl | rfl | rfl; exact ⟨_, .head _, hb⟩; exact ⟨_, .tail _ (.head _), hb⟩; exact ⟨_, .tail _ (.tail _ (.head _)), hb⟩; exact ⟨_, .tail _ (.tail _ (.tail _ (.head _))), hb⟩; cases hb)
   refine seg 1005 0 [] f0 (rngf 5 (g := .tmp 11) (ps := #[12]) (vs := lexV s) (fun k Mk => ∃ q c, Mk = [bk b4 #[vL none 0 0] 130, bk b5 #[vI 0] 32, bk b6 #[vI 0] 3, bk b8 #[vL q (((lexL s 0).take k).map (·.1)).length c] 130, rw_ tkL 3 186 (vL q (((lexL s 0).take k).map (·.1)).length c) (((lexL s 0).take k).map (·.1))] ∧ ∀ x ∈ (lexL s 0).take k, x.2 = 0) (fun Mk => ∃ c x, Mk = [bk b4 #[vL none 0 0] 130, bk b5 #[vI c] 32, bk b6 #[vI x] 3] ∧ errOf (lexL s 0) = some (c, x)) hM ⟨none, 0, rfl, fun x h => by cases h⟩ (enters_of Tryz.func153 (by kernel_rfl) rfl) (tokens_yields (by omega)) (fun G W hG f => ⟨f.obj hT.t id, f.obj hT.f id, hT.c.imp fun cs h => ⟨f.obj h.1 id, h.2⟩, fun h => (hG _ h).elim hnt9 (fun h => Nat.lt_irrefl _ (Nat.lt_of_lt_of_le (lt_of_blk hT.t) h)), fun h => (hG _ h).elim hnf9 (fun h => Nat.lt_irrefl _ (Nat.lt_of_lt_of_le (lt_of_blk hT.f) h)), fun h => (hG _ h).elim hnc9 (fun h => Nat.lt_irrefl _ (Nat.lt_of_lt_of_le (lt_of_blk hT.c.choose_spec.1) h))⟩) (vsz (ps := #[12]) rfl) ?_ ?_ ?_)
   · skip
     intro k v Mk W l hv hI hfW hM
     obtain ⟨q, c, rfl, hz⟩ := hI
     obtain ⟨y, hy, rfl⟩ := vs_at hv
     refine varm 5 0 6 [] [] 205 (.agg #[vI y.1.1, vS y.1.2.1, vI y.1.2.2, vI y.2]) f0 hM fun b10 w1 hM => nrm_ [(6, vP b10 0), (5, vP b8 0), (4, vP b6 0), (3, vP b5 0), (2, vP b4 0)] f0 fun a E => ⟨_, _, E, hM, fun W2 l2 R2 hf2 hM hE => ?_⟩
     refine seg 6 4 [(13, vB (!(y.2 == 0)))] (fc (ldm 32 5 3 hM rfl rfl) f0) ?_
     cases h11 : (y.2 == 0) with
     | false =>
      have rh11 := ef h11
      refine seg 7 0 [] f0 (drx [5, 6, 7] (fun γ => [none, none, none]) _ (fun γ l => [bk b4 #[(bif l.getD 0 false then vL none 0 0 else vL none 0 0)] 130, bk b5 #[(bif l.getD 1 false then vI y.2 else vI 0)] 32, bk b6 #[(bif l.getD 2 false then vI y.1.2.2 else vI 0)] 3, bk b8 #[vL q (((lexL s 0).take k).map (·.1)).length c] 130, rw_ tkL 3 186 (vL q (((lexL s 0).take k).map (·.1)).length c) (((lexL s 0).take k).map (·.1)), bk b10 #[vI y.1.1, vS y.1.2.1, vI y.1.2.2, vI y.2] 205]) (fun γ => []) hM (fun γ => rfl) (fun γ l w5 hM => (fc (ldm 32 5 3 hM rfl rfl) (fc (ldm 3 5 2 hM rfl rfl) f0))) ⟨ar_st 0 5 130 0 0 (fun γ => b4) (fun γ l => #[(bif l.getD 0 false then vL none 0 0 else vL none 0 0)]) 130 (fun γ => vL none 0 0), ar_st 1 6 32 1 0 (fun γ => b5) (fun γ l => #[(bif l.getD 1 false then vI y.2 else vI 0)]) 32 (fun γ => vI y.2), ar_st 2 7 3 2 0 (fun γ => b6) (fun γ l => #[(bif l.getD 2 false then vI y.1.2.2 else vI 0)]) 3 (fun γ => vI y.1.2.2), trivial⟩ fun γ12 w1 hM => ?_)
      replace hM : Mm (BlM [bk b4 #[vL none 0 0] 130, bk b5 #[vI 0] 32, bk b6 #[vI 0] 3, bk b8 #[vL q (((lexL s 0).take k).map (·.1)).length c] 130, rw_ tkL 3 186 (vL q (((lexL s 0).take k).map (·.1)).length c) (((lexL s 0).take k).map (·.1)), bk b10 #[vI y.1.1, vS y.1.2.1, vI y.1.2.2, vI y.2] 205]) W2 w1 [bk b4 #[vL none 0 0] 130, bk b5 #[vI y.2] 32, bk b6 #[vI y.1.2.2] 3, bk b8 #[vL q (((lexL s 0).take k).map (·.1)).length c] 130, rw_ tkL 3 186 (vL q (((lexL s 0).take k).map (·.1)).length c) (((lexL s 0).take k).map (·.1)), bk b10 #[vI y.1.1, vS y.1.2.1, vI y.1.2.2, vI y.2] 205] := hM
      exact ret_ [] f0 fun a E => hE.ret a _ _ ⟨y.2, y.1.2.2, rfl, err_is hy hz rh11⟩ (hM.pick [0, 1, 2])
     | true =>
      have rh11 := et h11
      refine seg 8 4 [(22, vB (((((lexL s 0).take k).map (·.1)).length : Int) == 5000))] (fc (ldm 130 3 0 hM rfl rfl) f0) ?_
      cases h13 : (((((lexL s 0).take k).map (·.1)).length : Int) == 5000) with
      | false =>
       have rh13 := ef h13
       refine newm 10 3 32 [(29, vL q (((lexL s 0).take k).map (·.1)).length c), (31, .agg #[vI y.1.1, vS y.1.2.1, vI y.1.2.2])] (cs := #[vI y.1.1, vS y.1.2.1, vI y.1.2.2]) (T := 186) (v := fun b => vL (some ⟨b, 0, none⟩) 1 1) (fc (ldm 130 3 0 hM rfl rfl) (fc (lam 186 5 0 3 hM rfl) f0)) hM fun b14 w1 hM => appm 10 4 33 [] (cap := 1) (by decide) tkT f0 hM (j := 4) rfl (src_one (f := tkL) (x := y.1) (hM.get 6 rfl) (Nat.lt_succ_self _)) (fun h => by cases h) (by simp only [List.length_map, List.length_take, List.length_cons, List.length_nil]; have := lexP_len (s := s); omega) fun v15 w1 hM => ?_
       obtain ⟨qa15, ca15, e15, -⟩ := (hM.src (j := 4) rfl tkT.len).op
       subst e15
       refine stm 10 5 [] 130 3 0 (vL qa15 ((((lexL s 0).take k).map (·.1)) ++ [y.1]).length ca15) f0 hM rfl fun w1 hM => ?_
       have hAk : ((lexL s 0).take k).map (·.1) ++ [y.1] = ((lexL s 0).take (k + 1)).map (·.1) := by rw [gt_ hy, List.map_append]; rfl
       rw [hAk] at hM
       exact nrm_ [] f0 fun a E => hE.nrm a _ _ ⟨_, _, rfl, fun x hx => by rw [gt_ hy] at hx; rcases List.mem_append.1 hx with h | h; exact hz x h; rw [List.mem_singleton] at h; subst h; exact rh11⟩ (hM.pick [0, 1, 2, 3, 4])
      | true =>
       have rh13 := et h13
       exfalso
       have := gl hy
       have := lexP_len (s := s)
       rw [List.length_map, List.length_take] at rh13
       omega
   · skip
     intro Mk w1 hI hM
     obtain ⟨k, hk⟩ : ∃ k, k = (lexV s).length := ⟨_, rfl⟩
     rw [← hk] at hI
     obtain ⟨q, c, rfl, hz⟩ := hI
     refine stm 11 1 [(34, vL q (((lexL s 0).take k).map (·.1)).length c)] 130 0 0 (vL q (((lexL s 0).take k).map (·.1)).length c) (fc (ldm 130 3 0 hM rfl rfl) f0) hM rfl fun w1 hM => stm 11 2 [] 32 1 0 (vI 0) f0 hM rfl fun w1 hM => stm 11 3 [] 3 2 0 (vI 0) f0 hM rfl fun w1 hM => ?_
     have hM : Mm (fun _ => False) w _ ([bk b4 #[vL q (((lexL s 0).take k).map (·.1)).length c] 130, bk b5 #[vI 0] 32, bk b6 #[vI 0] 3, bk b8 #[vL q (((lexL s 0).take k).map (·.1)).length c] 130, rw_ tkL 3 186 (vL q (((lexL s 0).take k).map (·.1)).length c) (((lexL s 0).take k).map (·.1))] ++ [dfE _]) := hM
     exact rtm3c 0 1 2 rfl f0 hM rfl rfl rfl (fun w9 hM => hΦ _ _ ⟨by unfold lexR lexP; rw [err_no (fun x hx => hz x (by rw [List.take_of_length_le (by rw [hk]; unfold lexV; rw [List.length_map]; exact Nat.le_refl _)]; exact hx))]; exact ⟨_, rfl, by have := hM.nrow (j := 4) rfl; have e9 : (lexL s 0).take k = lexL s 0 := List.take_of_length_le (by rw [hk]; unfold lexV; rw [List.length_map]; exact Nat.le_refl _); rw [e9] at this ⊢; exact this⟩, hM.fr⟩)
   · skip
     intro a Mk w1 hT hM E
     obtain ⟨c, x, rfl, hex⟩ := hT
     exact (leaveM (u := true) E.df hM fun w9 hM => ⟨_, res3M rfl (E.at_ 2 (vP b4 0) rfl) (E.at_ 3 (vP b5 0) rfl) (E.at_ 4 (vP b6 0) rfl) 0 1 2 rfl rfl rfl (by kernel_rfl) hM, hΦ _ _ ⟨by unfold lexR lexP; rw [hex]; exact ⟨_, rfl, rfl⟩, hM.fr⟩⟩).1
  | true =>
   have rh7 := dt h7
   exfalso
   omega
end Go.Proofs.YtbflfefahheidaaGreatDoor
/- The reader: sees, take. -/
set_option linter.unusedVariables false
set_option linter.unusedSimpArgs false
namespace Go.Proofs.YtbflfefahheidaaGreatDoor
open Go.RowKit Go.Pl
theorem bytesW_fr (w : World) (e : TypeId) (s : ByteArray) : Fr (fun _ => False) w (Lib.bytesWorld w e s) := by
  refine ⟨rfl, rfl, rfl, ?_, fun r hr _ => ?_⟩
  · simp [Lib.bytesWorld, World.freeze]
  · have hne : w.heap.size ≠ r := by omega
    show ((w.drew.alloc _).heap.modify w.heap.size _)[r]? = _
    rw [Array.getElem?_modify, if_neg hne]
    exact (blk_alloc (by simpa using hr) _)
theorem idx_go : ∀ (xs : List Bys) (y : Bys) (i : Nat), Lib.idxFromS (xs.map ofL) (ofL y) i = if xs.contains y then ((i + xs.findIdx (· == y) : Nat) : Int) else -1 := by
  intro xs y
  induction xs with
  | nil => intro i; rfl
  | cons x xs ih =>
    intro i
    simp only [List.map_cons, Lib.idxFromS, ofL_inj, List.contains_cons, List.findIdx_cons]
    by_cases h : x = y
    · subst h; simp
    · rw [if_neg h, ih]
      have e : (y == x) = false := by simpa using fun e => h e.symm
      have e2 : (x == y) = false := by simpa using h
      rw [e, e2]
      simp only [Bool.false_or, cond_false]
      split
      · omega
      · rfl
theorem idxS_eq (xs : List Bys) (y : Bys) : Lib.idxOfS (xs.map ofL) (ofL y) = if xs.contains y then ((xs.findIdx (· == y) : Nat) : Int) else -1 := by
  have := idx_go xs y 0
  rwa [Nat.zero_add] at this
theorem containsS_eq (xs : List Bys) (y : Bys) : Lib.containsS (xs.map ofL) (ofL y) = xs.contains y := by
  unfold Lib.containsS
  rw [idxS_eq]
  cases h : xs.contains y
  · simp
  · rw [if_pos rfl, decide_eq_true (by omega)]
theorem src_cells {w : World} {G : Nat} {p : Option Addr} {g off : Nat} {xs : List Bys} (h : srcAt stL 1 w G p xs) (hp : p = some ⟨g, off, none⟩) : ∀ j, j < (xs.map ofL).length → w.cell? ⟨g, off + j, none⟩ = some (.string ((xs.map ofL).getD j ByteArray.empty)) := by
  intro j hj
  rw [List.length_map] at hj
  obtain ⟨g', off', he, _, hs⟩ := h.at hj
  rw [hp] at he
  cases he
  have := hs j xs[j] (List.getElem?_eq_getElem hj) 0 _ rfl
  rw [Nat.mul_one, Nat.add_zero] at this
  rw [this]
  simp [List.getD, List.getElem?_eq_getElem hj]
def Tb (w : World) : Prop := Lib.TabIs Tryz.prog w "internal/strconv.uint64pow10" .u64 Lib.pow10Tab ∧ Lib.TabIs Tryz.prog w "strings.asciiSpace" .u8 Lib.asciiSpaceTab
theorem dec_go : ∀ (l : Bys) (acc : Nat), (∀ b ∈ l, isDig b = true) → ∃ n : Nat, Lib.decFrom acc l = some n ∧ (n : Int) = l.foldl (fun n b => 10 * n + ((b.toNat : Int) - 48)) (acc : Int) := by
  intro l
  induction l with
  | nil => intro acc _; exact ⟨acc, rfl, rfl⟩
  | cons c l ih =>
    intro acc h
    have hc := h c List.mem_cons_self
    have h1 : 48 ≤ c.toNat ∧ c.toNat ≤ 57 := by
      unfold isDig at hc
      rw [Bool.and_eq_true] at hc
      exact ⟨UInt8.le_iff_toNat_le.1 (of_decide_eq_true hc.1), UInt8.le_iff_toNat_le.1 (of_decide_eq_true hc.2)⟩
    obtain ⟨n, h2, h3⟩ := ih (acc * 10 + (c.toNat - 48)) fun b hb => h b (List.mem_cons_of_mem _ hb)
    refine ⟨n, ?_, ?_⟩
    · simp only [Lib.decFrom, Lib.digitVal, h1, and_self, if_true]; exact h2
    · rw [h3, List.foldl_cons]
      congr 1
      omega
theorem atoi_num {l : Bys} (h0 : l ≠ []) (h : ∀ b ∈ l, isDig b = true) : Lib.atoi l = some (numT l) := by
  obtain ⟨c, r, rfl⟩ := List.exists_cons_of_ne_nil h0
  have hc := h c List.mem_cons_self
  have h1 : 48 ≤ c.toNat ∧ c.toNat ≤ 57 := by
    unfold isDig at hc
    rw [Bool.and_eq_true] at hc
    exact ⟨UInt8.le_iff_toNat_le.1 (of_decide_eq_true hc.1), UInt8.le_iff_toNat_le.1 (of_decide_eq_true hc.2)⟩
  have e1 : (c == 45) = false := by
    rw [beq_eq_false_iff_ne]; rintro rfl; simp at h1
  have e2 : (c == 43) = false := by
    rw [beq_eq_false_iff_ne]; rintro rfl; simp at h1
  obtain ⟨n, h2, h3⟩ := dec_go (c :: r) 0 h
  unfold Lib.atoi
  simp only [e1, e2, Bool.false_eq_true, if_false]
  unfold Lib.decNat
  simp only [List.isEmpty_cons, Bool.false_eq_true, if_false, h2, Option.map_some, Option.some.injEq]
  rw [h3]
  rfl
theorem num_le {l : Bys} (h : ∀ b ∈ l, isDig b = true) (hl : l.length ≤ 7) : numT l ≤ 9999999 := by
  have : ∀ (l : Bys) (n : Int), 0 ≤ n → (∀ b ∈ l, isDig b = true) → l.foldl (fun n b => 10 * n + ((b.toNat : Int) - 48)) n ≤ (n + 1) * 10 ^ l.length - 1 := by
    intro l
    induction l with
    | nil => intro n _ _; simp
    | cons c l ih =>
      intro n hn hd
      have hc := hd c List.mem_cons_self
      have h1 : 48 ≤ c.toNat ∧ c.toNat ≤ 57 := by
        unfold isDig at hc
        rw [Bool.and_eq_true] at hc
        exact ⟨UInt8.le_iff_toNat_le.1 (of_decide_eq_true hc.1), UInt8.le_iff_toNat_le.1 (of_decide_eq_true hc.2)⟩
      have := ih (10 * n + ((c.toNat : Int) - 48)) (by omega) fun b hb => hd b (List.mem_cons_of_mem _ hb)
      rw [List.foldl_cons]
      refine Int.le_trans this ?_
      rw [List.length_cons, Int.pow_succ]
      have hp : (0 : Int) < 10 ^ l.length := Int.pow_pos (by omega)
      have : (10 * n + ((c.toNat : Int) - 48) + 1) * 10 ^ l.length ≤ ((n + 1) * 10) * 10 ^ l.length := Int.mul_le_mul_of_nonneg_right (by omega) (Int.le_of_lt hp)
      have e : (n + 1) * (10 ^ l.length * 10) = ((n + 1) * 10) * 10 ^ l.length := by rw [Int.mul_comm (10 ^ l.length), Int.mul_assoc]
      omega
  have h1 := this l 0 (Int.le_refl _) h
  have h2 : (10 : Int) ^ l.length ≤ 10 ^ 7 := by
    have : (10 : Nat) ^ l.length ≤ 10 ^ 7 := Nat.pow_le_pow_right (by omega) hl
    exact_mod_cast this
  simp only [Int.zero_add, Int.one_mul] at h1
  have e : (10 : Int) ^ 7 = 10000000 := by decide
  unfold numT
  omega
def DaysAt (w : World) (b : Nat) : Prop := w.heap[b]? = some (.cells (days.map fun l => Value.string (ofL l)).toArray 9 (0, 0))
theorem DaysAt.st {w : World} {b : Nat} (h : DaysAt w b) : StV w (.slice (some ⟨b, 0, none⟩) 7 7) days := ⟨_, 7, rfl, Nat.le_refl _, by omega, .inr ⟨b, 0, rfl, lt_of_blk h, fun i z hz j u hu => by
  rw [cell_of_blk h]
  have hj : j = 0 := by
    have := (List.getElem?_eq_some_iff.1 hu).1
    simp [stL] at this; exact this
  subst hj
  simp only [stL, List.getElem?_cons_zero, Option.some.injEq] at hu
  subst hu
  simp [hz]⟩, fun h => by cases h⟩
theorem isEmpty_len {α : Type} (l : List α) : l.isEmpty = ((l.length : Int) == 0) := by
  cases l with
  | nil => rfl
  | cons x l =>
    have h : ¬ (((x :: l).length : Int) = 0) := by simp only [List.length_cons]; omega
    rw [beq_eq_false_iff_ne.2 h]; rfl
theorem num_tok {t : Tok Int} (h : tokOK t) (hk : t.1 = 2) : t.2.1 ≠ [] ∧ (∀ b ∈ t.2.1, isDig b = true) ∧ t.2.1.length ≤ 7 ∧ 0 ≤ numT t.2.1 ∧ numT t.2.1 ≤ 9999999 := by
  rcases h with ⟨h, _⟩ | ⟨h, h0, h1, h2⟩ | h | ⟨h, _⟩
  · omega
  · exact ⟨h0, h2, h1, numT_go _ 0 (Int.le_refl _) h2, num_le h2 h1⟩
  · omega
  · omega
theorem len_ne2 (l : Bys) : (l.length != 2) = ((l.length : Int) != 2) := by
  by_cases h : l.length = 2
  · rw [h]; rfl
  · rw [bne_iff_ne.2 h, bne_iff_ne.2 (by omega)]
theorem contains_calls {w : World} {v : Value} {xs : List Bys} {y : Bys} (h : StV w v xs) : Calls Tryz.prog 155 #[v, vS y] w fun e w' => e = .returned (vB (xs.contains y)) ∧ Fr (fun _ => False) w w' := by
  obtain ⟨p, c, rfl, h1, h2, h3, h4⟩ := h
  by_cases hx : xs = []
  · subst hx
    exact (Tryz.slices_Contains_string_empty p c (ofL y) w).mono fun e w' h => ⟨h.1, by rw [h.2]; exact Fr.refl _ _⟩
  · obtain ⟨g, off, rfl, _, _⟩ := h3.resolve_left hx
    refine (Tryz.slices_Contains_string g off xs.length c (xs.map ofL) (ofL y) w (by simp) (by omega) (src_cells h3 rfl)).mono fun e w' h => ⟨?_, by rw [h.2]; exact Fr.refl _ _⟩
    rw [h.1, List.take_of_length_le (by simp), containsS_eq]
theorem index_calls {w : World} {v : Value} {xs : List Bys} {y : Bys} (h : StV w v xs) (hy : y ∈ xs) : Calls Tryz.prog 157 #[v, vS y] w fun e w' => e = .returned (vI ((xs.findIdx (· == y) : Nat) : Int)) ∧ Fr (fun _ => False) w w' := by
  obtain ⟨p, c, rfl, h1, h2, h3, h4⟩ := h
  have hx : xs ≠ [] := List.ne_nil_of_mem hy
  obtain ⟨g, off, rfl, _, _⟩ := h3.resolve_left hx
  refine (Tryz.slices_Index_string g off xs.length c (xs.map ofL) (ofL y) w (by simp) (by omega) (src_cells h3 rfl)).mono fun e w' h => ⟨?_, by rw [h.2]; exact Fr.refl _ _⟩
  rw [h.1, List.take_of_length_le (by simp), idxS_eq, if_pos (by simpa using hy)]
/-- The problem that is raised. -/
abbrev prob (c x : Int) : Value := .iface 165 (.agg #[vI c, vI x])
abbrev pn (c x : Int) : List PanicEntry := [{ v := prob c x, recovered := false }]
/-- The tokens that are left, behind the first one. -/
theorem tail130 {B cap : Nat} {p : Option Addr} {t : Tok Int} {l : List (Tok Int)} {w : World} (hs : SrcB tkL 3 w B p cap (t :: l)) : ∃ p', (∀ w1, SrcB tkL 3 w1 B p cap (t :: l) → SrcB tkL 3 w1 B p' (cap - 1) l) ∧ ∀ w2, Ft.ok Tryz.prog w2 (.g2 (fun x a => .slice 130 x (some a) none none) (vL p (t :: l).length cap) (vI 1) (vL p' l.length (cap - 1))) := by
  have hle : l.length + 1 ≤ cap := hs.le
  obtain ⟨g, off, rfl⟩ : ∃ g off, p = some ⟨g, off, none⟩ := by
    rcases hs.at_ with h | ⟨g, off, h, _⟩
    · cases h
    · exact ⟨g, off, h⟩
  have h1 : (1 : Int) ≤ ((l.length + 1 : Nat) : Int) := by omega
  have h2 : ((l.length + 1 : Nat) : Int) ≤ cap := by omega
  by_cases h3 : cap = 1
  · subst h3
    obtain rfl : l = [] := List.eq_nil_of_length_eq_zero (by omega)
    refine ⟨some ⟨g, off, none⟩, fun w1 h => ⟨Nat.zero_le _, by omega, .inl rfl, fun h => by cases h⟩, fun w2 o ρ x a ho hx ha => by simp [execOp, ho, hx, ha, go_sem, Addr.add]⟩
  · refine ⟨some ⟨g, off + 3, none⟩, fun w1 h => ⟨by have : l.length + 1 ≤ cap := h.le; omega, Nat.le_trans (Nat.sub_le _ _) h.ca, ?_, fun h => by cases h⟩, fun w2 o ρ x a ho hx ha => ?_⟩
    · rcases h.at_ with h | ⟨g', off', he, hg, hs⟩
      · cases h
      · cases he
        refine .inr ⟨g, off + 3, rfl, hg, fun i t ht => ?_⟩
        have := hs (i + 1) t ht
        rwa [show off + (i + 1) * 3 = off + 3 + i * 3 by omega] at this
    · have h1' : (1 : Int) ≤ (l.length : Int) + 1 := by omega
      have h2' : (l.length : Int) + 1 ≤ cap := by omega
      simp [execOp, ho, hx, ha, go_sem, h1', h2', h3, Addr.add]
/-- Where the tokens l lie behind the tokens ts. -/
def Behind (B : Nat) (p : Option Addr) (c : Nat) (ts : List (Tok Int)) (p' : Option Addr) (c' : Nat) (l : List (Tok Int)) : Prop := ∀ w1, SrcB tkL 3 w1 B p c ts → SrcB tkL 3 w1 B p' c' l
/-- What a reader's step leaves. -/
def StepP (β : Type) (w : World) (G : Nat → Prop) (B rb : Nat) (en : Int) (sv : Value) (p : Option Addr) (c : Nat) (ts : List (Tok Int)) (val : β → Value) (r : Res Int (β × List (Tok Int))) (e : Ending) (w' : World) : Prop := match r with
  | .error (cc, x) => e = .panicked (pn cc x) ∧ Fr G w w'
  | .ok (b, l) => e = .returned (val b) ∧ ∃ p' c', Behind B p c ts p' c' l ∧ Mm G w w' [bk rb #[vL p' l.length c', vI en, sv] 170]
theorem sees_cons {w : World} {B rb c : Nat} {p : Option Addr} {en k : Int} {t : Tok Int} {l : List (Tok Int)} {sv xv : Value} {xs : List Bys} (hrb : w.heap[rb]? = some (.cells #[vL p (t :: l).length c, vI en, sv] 170 (0, 0))) (hs : SrcB tkL 3 w B p c (t :: l)) (hx : StV w xv xs) : Calls Tryz.prog 121 #[vP rb 0, vI k, xv] w fun e w' => e = .returned (vB (sees k xs (t :: l))) ∧ Fr (fun _ => False) w w' := by
  have hx0 := hx
  obtain ⟨px, cpx, hpx, spx⟩ := hx.op
  subst hpx; have bpx := spx.bnd
  refine beg Tryz.func121 rfl rfl [(0, vP rb 0), (1, vI k), (2, vL px xs.length cpx)] rfl rfl fun Φ hΦ => ?_
  have hM := Mm.nil (fun _ => False) w
  refine seg 1 7 [(13, vB (decide (0 < ((t :: l).length : Int))))] (fc (ld0 130 hM (bx hrb 0 rfl)) f0) ?_
  cases h1 : (decide (0 < ((t :: l).length : Int))) with
  | false =>
   have rh1 := df h1
   exfalso
   have : 0 < (t :: l).length := Nat.zero_lt_succ _
   omega
  | true =>
   have rh1 := dt h1
   obtain ⟨t9, ht9, g2, o2, q2, r2, n2⟩ := (hs).eb (fun k (h : False) => h.elim) (i := 0) (by omega)
   have e9 : t = t9 := Option.some.inj ht9
   subst e9
   refine seg 1 18 [(24, vB (t.1 == k))] (fc (ld0 130 hM (bx hrb 0 rfl)) (fc (ix 130 c q2 (gl ht9)) (fc (ld0 3 hM (r2 0 _ rfl) n2) f0))) ?_
   cases h3 : (t.1 == k) with
   | false =>
    have rh3 := ef h3
    exact rt1 6 (vB false) rfl f0 (hΦ _ _ ⟨by unfold sees; rw [isEmpty_len]; simp only [h3] <;> rfl, hM.fr⟩)
   | true =>
    have rh3 := et h3
    refine seg 1 22 [(28, vB ((xs.length : Int) == 0))] f0 ?_
    cases h4 : ((xs.length : Int) == 0) with
    | false =>
     have rh4 := ef h4
     refine calm 1 30 37 [(29, vL px xs.length cpx), (36, vS t.2.1)] (fc (ld0 130 hM (bx hrb 0 rfl)) (fc (ix 130 c q2 (gl ht9)) (fc (ld0 9 hM (r2 1 _ rfl) n2) f0))) hM (contains_calls (y := t.2.1) (hx0.fr hM.fr)) fun w1 hM => rt1 6 (vB (xs.contains t.2.1)) rfl f0 (hΦ _ _ ⟨by unfold sees; rw [isEmpty_len]; simp only [h3, h4] <;> rfl, hM.fr⟩)
    | true =>
     have rh4 := et h4
     exact rt1 6 (vB true) rfl f0 (hΦ _ _ ⟨by unfold sees; rw [isEmpty_len]; simp only [h3, h4] <;> rfl, hM.fr⟩)
theorem sees_nil {w : World} {rb c : Nat} {p : Option Addr} {en k : Int} {sv xv : Value} {xs : List Bys} (hrb : w.heap[rb]? = some (.cells #[vL p 0 c, vI en, sv] 170 (0, 0))) (hx : StV w xv xs) : Calls Tryz.prog 121 #[vP rb 0, vI k, xv] w fun e w' => e = .returned (vB (sees k xs ([] : List (Tok Int)))) ∧ Fr (fun _ => False) w w' := by
  obtain ⟨px, cpx, hpx, spx⟩ := hx.op
  subst hpx; have bpx := spx.bnd
  refine beg Tryz.func121 rfl rfl [(0, vP rb 0), (1, vI k), (2, vL px xs.length cpx)] rfl rfl fun Φ hΦ => ?_
  have hM := Mm.nil (fun _ => False) w
  exact rt1 6 (vB false) rfl (fc (ld0 130 hM (bx hrb 0 rfl)) f0) (hΦ _ _ ⟨rfl, hM.fr⟩)
theorem sees_calls {w : World} {B rb c : Nat} {p : Option Addr} {en : Int} {ts : List (Tok Int)} {sv xv : Value} {xs : List Bys} (hrb : w.heap[rb]? = some (.cells #[vL p ts.length c, vI en, sv] 170 (0, 0))) (hs : SrcB tkL 3 w B p c ts) (hx : StV w xv xs) (k : Int) : Calls Tryz.prog 121 #[vP rb 0, vI k, xv] w fun e w' => e = .returned (vB (sees k xs ts)) ∧ Fr (fun _ => False) w w' := by
  cases ts with
  | nil => exact sees_nil hrb hx
  | cons t l => exact sees_cons hrb hs hx
theorem take_nil {w : World} {G : Nat → Prop} {B rb c : Nat} {p : Option Addr} {en k : Int} {sv xv : Value} {xs : List Bys} (hM0 : Mm G w w [bk rb #[vL p 0 c, vI en, sv] 170]) (hx : StV w xv xs) : Calls Tryz.prog 122 #[vP rb 0, vI k, xv] w fun e w' => StepP (Tok Int) w G B rb en sv p c [] (fun t => vA (tkL t)) (take en k xs []) e w' := by
  have hx0 := hx
  obtain ⟨px, cpx, hpx, spx⟩ := hx.op
  subst hpx; have bpx := spx.bnd
  refine beg Tryz.func122 rfl rfl [(0, vP rb 0), (1, vI k), (2, vL px xs.length cpx)] rfl rfl fun Φ hΦ => ?_
  have hM := hM0
  refine newm 0 0 6 [] (cs := #[vI 0, vS [], vI 0]) (T := 186) (v := fun b => vP b 0) f0 hM fun b5 w1 hM => pan 2 6 [(19, prob 6 en)] 165 (.agg #[vI 6, vI en]) (fc (ldm 130 0 0 hM rfl rfl) (fc (ldm 3 0 1 hM rfl rfl) f0)) hM (fun a f9 hd => pn_ (P := Tryz.prog) (fn := Tryz.f122) hd (hΦ _ _ (⟨rfl, f9⟩)))
theorem take_cons {w : World} {G : Nat → Prop} {B rb c : Nat} {p : Option Addr} {en k : Int} {sv xv : Value} {xs : List Bys} {t : Tok Int} {l : List (Tok Int)} (hM0 : Mm G w w [bk rb #[vL p (t :: l).length c, vI en, sv] 170]) (hs : SrcB tkL 3 w B p c (t :: l)) (hG : ∀ k, G k → B ≤ k) (hx : Apt stL 1 G w xv xs) : Calls Tryz.prog 122 #[vP rb 0, vI k, xv] w fun e w' => StepP (Tok Int) w G B rb en sv p c (t :: l) (fun t => vA (tkL t)) (take en k xs (t :: l)) e w' := by
  have hx0 := hx
  have hx := hx w (Fr.refl _ _)
  obtain ⟨px, cpx, hpx, spx⟩ := hx.op
  subst hpx; have bpx := spx.bnd
  refine beg Tryz.func122 rfl rfl [(0, vP rb 0), (1, vI k), (2, vL px xs.length cpx)] rfl rfl fun Φ hΦ => ?_
  have hM := hM0
  obtain ⟨pq, htl, hft⟩ := tail130 hs
  refine newm 0 0 6 [] (cs := #[vI 0, vS [], vI 0]) (T := 186) (v := fun b => vP b 0) f0 hM fun b6 w1 hM => seg 1 6 [(13, vB (((t :: l).length : Int) == 0))] (fc (ldm 130 0 0 hM rfl rfl) f0) ?_
  cases h7 : (((t :: l).length : Int) == 0) with
  | false =>
   have rh7 := ef h7
   obtain ⟨t9, ht9, g8, o8, q8, r8, n8⟩ := (hs).eb hG (i := 0) (by omega)
   have e9 : t = t9 := Option.some.inj ht9
   subst e9
   refine varm 3 6 7 [(25, .agg #[vI t.1, vS t.2.1, vI t.2.2])] [] 186 (.agg #[vI t.1, vS t.2.1, vI t.2.2]) (fc (ldm 130 0 0 hM rfl rfl) (fc (ix 130 c q8 (gl ht9)) (fc (la0 186 hM r8 n8) f0))) hM fun b9 w1 hM => calm 4 3 29 [(26, vP rb 0), (27, vI k), (28, vL px xs.length cpx)] f0 hM (sees_calls (hM.get 0 rfl) (srcfw hs hM.fr hG) (hx0 _ hM.fr) k) fun w1 hM => seg 4 5 [(30, vB (!(sees k xs (t :: l))))] f0 ?_
   cases h10 : (sees k xs (t :: l)) with
   | false =>
    exact pan 5 4 [(34, prob 5 t.2.2)] 165 (.agg #[vI 5, vI t.2.2]) (fc (ldm 3 2 2 hM rfl rfl) f0) hM (fun a f9 hd => pn_ (P := Tryz.prog) (fn := Tryz.f122) hd (hΦ _ _ (by unfold take; simp only; rw [if_neg (by rw [h10]; simp)]; exact ⟨rfl, f9⟩)))
   | true =>
    refine stm 6 8 [(40, vL pq l.length (c - 1)), (42, vP rb 0)] 130 0 0 (vL pq l.length (c - 1)) (fc (ldm 130 0 0 hM rfl rfl) (fc (hft _) f0)) hM rfl fun w1 hM => stm 7 1 [(43, .agg #[vI t.1, vS t.2.1, vI t.2.2])] 186 1 0 (.agg #[vI t.1, vS t.2.1, vI t.2.2]) (fc (lam 186 2 0 3 hM rfl) f0) hM rfl fun w1 hM => ?_
    have hM : Mm G w w1 [bk rb #[vL pq l.length (c - 1), vI en, sv] 170, bk b6 #[vI t.1, vS t.2.1, vI t.2.2] 186, bk b9 #[vI t.1, vS t.2.1, vI t.2.2] 186] := hM
    exact rtc 6 186 rfl (run_loadA (T := 186) (l := tkL t) (by kernel_rfl) (fun j u hu => bx (hM.get 1 rfl) (0 + j) (by rw [Nat.zero_add]; simpa [tkL] using hu))) f0 (hΦ _ _ (by unfold take; simp only; rw [if_pos h10]; exact ⟨rfl, _, _, htl, hM.pick [0]⟩))
  | true =>
   have rh7 := et h7
   exfalso
   have : 0 < (t :: l).length := Nat.zero_lt_succ _
   omega
theorem take_calls {w : World} {G : Nat → Prop} {B rb c : Nat} {p : Option Addr} {en : Int} {ts : List (Tok Int)} {sv xv : Value} {xs : List Bys} (hM0 : Mm G w w [bk rb #[vL p ts.length c, vI en, sv] 170]) (hs : SrcB tkL 3 w B p c ts) (hG : ∀ k, G k → B ≤ k) (hx : Apt stL 1 G w xv xs) (k : Int) : Calls Tryz.prog 122 #[vP rb 0, vI k, xv] w (StepP (Tok Int) w G B rb en sv p c ts (fun t => vA (tkL t)) (take en k xs ts)) := by
  cases ts with
  | nil => exact take_nil hM0 (hx w (Fr.refl _ _))
  | cons t l => exact take_cons hM0 hs hG hx
end Go.Proofs.YtbflfefahheidaaGreatDoor
/- The reader: names, numbers, clocks, spans. -/
set_option linter.unusedVariables false
set_option linter.unusedSimpArgs false
namespace Go.Proofs.YtbflfefahheidaaGreatDoor
open Go.RowKit Go.Pl
theorem StV.one {w : World} {b : Nat} {s : Bys} (h : w.heap[b]? = some (.cells #[vS s] 9 (0, 0))) : StV w (vL (some ⟨b, 0, none⟩) 1 1) [s] := ⟨_, 1, rfl, Nat.le_refl _, by omega, src_one (f := stL) h (lt_of_blk h), fun h => by cases h⟩
theorem names_calls {w : World} (hT : Tb w) : Calls Tryz.prog 156 #[] w fun e w' => ∃ b, e = .returned (vL (some ⟨b, 0, none⟩) 7 7) ∧ DaysAt w' b ∧ w.heap.size ≤ b ∧ Fr (fun _ => False) w w' := by
  have hfe : Lib.fields (ofL [109, 111, 32, 116, 117, 32, 119, 101, 32, 116, 104, 32, 102, 114, 32, 115, 97, 32, 115, 117]).data.toList = days := by decide +kernel
  have hF := Tryz.strings_Fields (ofL [109, 111, 32, 116, 117, 32, 119, 101, 32, 116, 104, 32, 102, 114, 32, 115, 97, 32, 115, 117]) w (by decide +kernel) (by
    intro j b hb
    have : ∀ b ∈ (ofL [109, 111, 32, 116, 117, 32, 119, 101, 32, 116, 104, 32, 102, 114, 32, 115, 97, 32, 115, 117]).data.toList, b.toNat < 128 := by decide +kernel
    exact this b (List.mem_of_getElem? hb)) hT.2
  rw [hfe] at hF
  refine beg Tryz.func156 rfl rfl [] rfl rfl fun Φ hΦ => ?_
  have hM := Mm.nil (fun _ => False) w
  refine cal 1 0 1 [] (K := fun u w8 => ∃ b, u = vL (some ⟨b, 0, none⟩) 7 7 ∧ DaysAt w8 b ∧ w.heap.size ≤ b ∧ Fr (fun _ => False) w w8) f0 (hF.mono fun e w8 h => by obtain ⟨rfl, rfl⟩ := h; exact ⟨_, rfl, _, rfl, blk_alloc_new _ _, Nat.le_refl _, (Fr.refl _ _).alloc _⟩) fun u w1 ⟨bd, hu, hbd, hbn, f1⟩ => ?_
  subst hu
  have hM := hM.q f1
  exact rt1 0 (vL (some ⟨bd, 0, none⟩) 7 7) rfl f0 (hΦ _ _ ⟨_, rfl, hbd, hbn, hM.fr⟩)
theorem number_calls (t : Tok Int) (h0 : t.2.1 ≠ []) (hd : ∀ b ∈ t.2.1, isDig b = true) (hl : t.2.1.length ≤ 7) (w : World) : Calls Tryz.prog 174 #[vA (tkL t)] w fun e w' => e = .returned (vI (numT t.2.1)) ∧ Fr (fun _ => False) w w' := by
  refine beg Tryz.func174 rfl rfl [(0, .agg #[vI t.1, vS t.2.1, vI t.2.2])] rfl rfl fun Φ hΦ => ?_
  have hM := Mm.nil (fun _ => False) w
  refine newm 0 0 1 [] (cs := #[vI t.1, vS t.2.1, vI t.2.2]) (T := 186) (v := fun b => vP b 0) f0 hM fun b1 w1 hM => calm 1 2 8 [(7, vS t.2.1)] (fc (ldm 9 0 1 hM rfl rfl) f0) hM ((Tryz.strconv_Atoi (ofL t.2.1) (numT t.2.1) (by rw [ofL_size]; omega) (by rw [show (ofL t.2.1).data.toList = t.2.1 from by simp [ofL]]; exact atoi_num h0 hd) _).mono fun e w8 h => by obtain ⟨rfl, t9, rfl⟩ := h; exact ⟨rfl, bytesW_fr _ _ _⟩) fun w1 hM => rt1 2 (vI (numT t.2.1)) rfl f0 (hΦ _ _ ⟨rfl, hM.fr⟩)
theorem clock_calls {w : World} {G : Nat → Prop} {B rb c : Nat} {p : Option Addr} {en : Int} {ts : List (Tok Int)} {sv : Value} {most : Int} (hM0 : Mm G w w [bk rb #[vL p ts.length c, vI en, sv] 170]) (hs : SrcB tkL 3 w B p c ts) (hG : ∀ k, G k → B ≤ k) (hk : Tk ts) : Calls Tryz.prog 158 #[vP rb 0, vI most] w fun e w' => StepP (Int × Int) w G B rb en sv p c ts (fun r => .tuple #[vI r.1, vI r.2]) (clock en most ts) e w' := by
  refine beg Tryz.func158 rfl rfl [(0, vP rb 0), (1, vI most)] rfl rfl fun Φ hΦ => ?_
  have hM := hM0
  have hrB : B ≤ rb := hG rb (hM0.own _ (.head _) rb rfl (lt_of_blk (hM0.get 0 rfl)))
  have hB0 : Behind B p c ts p c ts := fun _ h => h
  rcases htk2 : take en 2 ([] : List Bys) ts with ⟨c2, x2⟩ | ⟨t2, l2⟩
  · exact calE 1 3 11 [(10, vP rb 0)] [0] f0 hM rfl (by decide) (fun hm => (take_calls (xs := ([] : List Bys)) hm (srcfw hs hM.fr hG) (fun k h => by rw [blM1 (b := rb) rfl h]; exact hrB) apt_nil 2).mono fun e w8 h => by unfold StepP at h; rw [htk2] at h; exact h) (fun a w9 f9 hd => pn_ (P := Tryz.prog) (fn := Tryz.f158) hd (hΦ _ _ ((by unfold clock; rw [htk2]; (try simp only); exact ⟨rfl, f9⟩))))
  refine calM 1 3 11 [(10, vP rb 0)] (K := fun u Mn => u = vA (tkL t2) ∧ ∃ p' c', Behind B p c ts p' c' l2 ∧ Mn = [bk rb #[vL p' l2.length c', vI en, sv] 170]) [] [0] f0 hM rfl rfl (by decide) (fun hm => (take_calls (xs := ([] : List Bys)) hm (srcfw hs hM.fr hG) (fun k h => by rw [blM1 (b := rb) rfl h]; exact hrB) apt_nil 2).mono fun e w8 h => by unfold StepP at h; rw [htk2] at h; obtain ⟨h1, p', c', h2, h3⟩ := h; exact ⟨_, _, h1, ⟨rfl, p', c', h2, rfl⟩, h3⟩) fun u Mn w1 hK hM => ?_
  obtain ⟨rfl, p2, cc2, hb2, rfl⟩ := hK
  have hs2 := hb2 _ hs
  have hB2 : Behind B p c ts p2 cc2 l2 := fun w1 h => hb2 w1 (hB0 w1 h)
  obtain ⟨hto2, hkd2, hk⟩ := take_tk hk htk2
  have hin2 := (take_ok htk2).2.2
  have hnt2 := num_tok hto2 hkd2
  refine varm 1 4 6 [] [] 186 (.agg #[vI t2.1, vS t2.2.1, vI t2.2.2]) f0 hM fun b3 w1 hM => calm 2 1 13 [(12, .agg #[vI t2.1, vS t2.2.1, vI t2.2.2])] (fc (lam 186 1 0 3 hM rfl) f0) hM (number_calls t2 hnt2.1 hnt2.2.1 hnt2.2.2.1 _) fun w1 hM => seg 2 4 [(15, vB (decide (most < (numT t2.2.1))))] f0 ?_
  cases h4 : (decide (most < (numT t2.2.1))) with
  | false =>
   have rh4 := df h4
   refine newm 4 3 23 [(22, vP rb 0)] (cs := #[vS [58]]) (T := 9) (v := fun b => vL (some ⟨b, 0, none⟩) 1 1) f0 hM fun b5 w1 hM => ?_
   rcases htk6 : take en 4 [cColon] l2 with ⟨c6, x6⟩ | ⟨t6, l6⟩
   · exact calE 4 4 24 [] [0] f0 hM rfl (by decide) (fun hm => (take_calls (xs := [cColon]) hm (srcfw hs2 hM.fr hG) (fun k h => by rw [blM1 (b := rb) rfl h]; exact hrB) (apt_of (hM.get 2 rfl) (hM.notin (i := 2) (js := [0]) rfl rfl (by decide)) fun w9 h => StV.one h) 4).mono fun e w8 h => by unfold StepP at h; rw [htk6] at h; exact h) (fun a w9 f9 hd => pn_ (P := Tryz.prog) (fn := Tryz.f158) hd (hΦ _ _ ((by unfold clock; rw [htk2]; (try simp only); rw [if_neg (of_decide_eq_false h4)]; (try simp only); rw [htk6]; (try simp only); exact ⟨rfl, f9⟩))))
   refine calM 4 4 24 [] (K := fun u Mn => u = vA (tkL t6) ∧ ∃ p' c', Behind B p2 cc2 l2 p' c' l6 ∧ Mn = [bk rb #[vL p' l6.length c', vI en, sv] 170]) [1, 2] [0] f0 hM rfl rfl (by decide) (fun hm => (take_calls (xs := [cColon]) hm (srcfw hs2 hM.fr hG) (fun k h => by rw [blM1 (b := rb) rfl h]; exact hrB) (apt_of (hM.get 2 rfl) (hM.notin (i := 2) (js := [0]) rfl rfl (by decide)) fun w9 h => StV.one h) 4).mono fun e w8 h => by unfold StepP at h; rw [htk6] at h; obtain ⟨h1, p', c', h2, h3⟩ := h; exact ⟨_, _, h1, ⟨rfl, p', c', h2, rfl⟩, h3⟩) fun u Mn w1 hK hM => ?_
   obtain ⟨rfl, p6, cc6, hb6, rfl⟩ := hK
   have hs6 := hb6 _ hs2
   have hB6 : Behind B p c ts p6 cc6 l6 := fun w1 h => hb6 w1 (hB2 w1 h)
   obtain ⟨hto6, hkd6, hk⟩ := take_tk hk htk6
   have hin6 := (take_ok htk6).2.2
   rcases htk7 : take en 2 ([] : List Bys) l6 with ⟨c7, x7⟩ | ⟨t7, l7⟩
   · exact calE 5 3 28 [(27, vP rb 0)] [2] f0 hM rfl (by decide) (fun hm => (take_calls (xs := ([] : List Bys)) hm (srcfw hs6 hM.fr hG) (fun k h => by rw [blM1 (b := rb) rfl h]; exact hrB) apt_nil 2).mono fun e w8 h => by unfold StepP at h; rw [htk7] at h; exact h) (fun a w9 f9 hd => pn_ (P := Tryz.prog) (fn := Tryz.f158) hd (hΦ _ _ ((by unfold clock; rw [htk2]; (try simp only); rw [if_neg (of_decide_eq_false h4)]; (try simp only); rw [htk6]; (try simp only); rw [htk7]; (try simp only); exact ⟨rfl, f9⟩))))
   refine calM 5 3 28 [(27, vP rb 0)] (K := fun u Mn => u = vA (tkL t7) ∧ ∃ p' c', Behind B p6 cc6 l6 p' c' l7 ∧ Mn = [bk rb #[vL p' l7.length c', vI en, sv] 170]) [0, 1] [2] f0 hM rfl rfl (by decide) (fun hm => (take_calls (xs := ([] : List Bys)) hm (srcfw hs6 hM.fr hG) (fun k h => by rw [blM1 (b := rb) rfl h]; exact hrB) apt_nil 2).mono fun e w8 h => by unfold StepP at h; rw [htk7] at h; obtain ⟨h1, p', c', h2, h3⟩ := h; exact ⟨_, _, h1, ⟨rfl, p', c', h2, rfl⟩, h3⟩) fun u Mn w1 hK hM => ?_
   obtain ⟨rfl, p7, cc7, hb7, rfl⟩ := hK
   have hs7 := hb7 _ hs6
   have hB7 : Behind B p c ts p7 cc7 l7 := fun w1 h => hb7 w1 (hB6 w1 h)
   obtain ⟨hto7, hkd7, hk⟩ := take_tk hk htk7
   have hin7 := (take_ok htk7).2.2
   have hnt7 := num_tok hto7 hkd7
   refine varm 5 4 7 [] [] 186 (.agg #[vI t7.1, vS t7.2.1, vI t7.2.2]) f0 hM fun b8 w1 hM => seg 6 5 [(33, vB (!((t7.2.1.length : Int) == 2)))] (fc (ldm 9 3 1 hM rfl rfl) (fc (tlen 9 t7.2.1) f0)) ?_
   cases h9 : ((t7.2.1.length : Int) == 2) with
   | false =>
    have rh9 := ef h9
    exact pan 7 4 [(51, prob 10 t7.2.2)] 165 (.agg #[vI 10, vI t7.2.2]) (fc (ldm 3 3 2 hM rfl rfl) f0) hM (fun a f9 hd => pn_ (P := Tryz.prog) (fn := Tryz.f158) hd (hΦ _ _ ((by unfold clock; rw [htk2]; (try simp only); rw [if_neg (of_decide_eq_false h4)]; (try simp only); rw [htk6]; (try simp only); rw [htk7]; (try simp only); have hbb : (t7.2.1.length != 2 || decide (numT t7.2.1 > 59) || (numT t2.2.1 == 24 && decide (numT t7.2.1 > 0))) = true := (by rw [len_ne2]; simp only [gt_iff_lt, bne, h9] <;> rfl); rw [hbb]; simp only [Bool.false_eq_true, if_true, if_false]; exact ⟨rfl, f9⟩))))
   | true =>
    have rh9 := et h9
    refine calm 6 6 35 [(34, .agg #[vI t7.1, vS t7.2.1, vI t7.2.2])] (fc (lam 186 3 0 3 hM rfl) f0) hM (number_calls t7 hnt7.1 hnt7.2.1 hnt7.2.2.1 _) fun w1 hM => seg 6 10 [(38, vB (decide (59 < (numT t7.2.1))))] f0 ?_
    cases h10 : (decide (59 < (numT t7.2.1))) with
    | false =>
     have rh10 := df h10
     refine calm 6 11 40 [(39, .agg #[vI t2.1, vS t2.2.1, vI t2.2.2])] (fc (lam 186 0 0 3 hM rfl) f0) hM (number_calls t2 hnt2.1 hnt2.2.1 hnt2.2.2.1 _) fun w1 hM => seg 6 14 [(42, vB ((numT t2.2.1) == 24))] f0 ?_
     cases h11 : ((numT t2.2.1) == 24) with
     | false =>
      have rh11 := ef h11
      refine seg 8 0 [] f0 (drc [(4, vI ((60 * (numT t2.2.1)) + (numT t7.2.1))), (5, vI t2.2.2)] hM (fun w5 hM => (fc (lam 186 0 0 3 hM rfl) (fc (tcl (number_calls t2 hnt2.1 hnt2.2.1 hnt2.2.2.1 _)) (fc (tmul 60 (numT t2.2.1) Tryz.underlying3) (fc (lam 186 3 0 3 hM rfl) (fc (tcl (number_calls t7 hnt7.1 hnt7.2.1 hnt7.2.2.1 _)) (fc (tadd (60 * (numT t2.2.1)) (numT t7.2.1) Tryz.underlying3) (fc (ldm 3 0 2 hM rfl rfl) f0)))))))) fun w5 hM => rt2 4 5 (vI ((60 * (numT t2.2.1)) + (numT t7.2.1))) (vI t2.2.2) rfl rfl f0 (hΦ _ _ (by unfold clock; rw [htk2]; (try simp only); rw [if_neg (of_decide_eq_false h4)]; (try simp only); rw [htk6]; (try simp only); rw [htk7]; (try simp only); have hbb : (t7.2.1.length != 2 || decide (numT t7.2.1 > 59) || (numT t2.2.1 == 24 && decide (numT t7.2.1 > 0))) = false := (by rw [len_ne2]; simp only [gt_iff_lt, bne, h9, h10, h11] <;> rfl); rw [hbb]; simp only [Bool.false_eq_true, if_true, if_false]; exact ⟨rfl, _, _, hB7, hM.pick [2]⟩)))
     | true =>
      have rh11 := et h11
      refine calm 6 15 44 [(43, .agg #[vI t7.1, vS t7.2.1, vI t7.2.2])] (fc (lam 186 3 0 3 hM rfl) f0) hM (number_calls t7 hnt7.1 hnt7.2.1 hnt7.2.2.1 _) fun w1 hM => seg 6 19 [(47, vB (decide (0 < (numT t7.2.1))))] f0 ?_
      cases h12 : (decide (0 < (numT t7.2.1))) with
      | false =>
       have rh12 := df h12
       refine seg 8 0 [] f0 (drc [(4, vI ((60 * (numT t2.2.1)) + (numT t7.2.1))), (5, vI t2.2.2)] hM (fun w5 hM => (fc (lam 186 0 0 3 hM rfl) (fc (tcl (number_calls t2 hnt2.1 hnt2.2.1 hnt2.2.2.1 _)) (fc (tmul 60 (numT t2.2.1) Tryz.underlying3) (fc (lam 186 3 0 3 hM rfl) (fc (tcl (number_calls t7 hnt7.1 hnt7.2.1 hnt7.2.2.1 _)) (fc (tadd (60 * (numT t2.2.1)) (numT t7.2.1) Tryz.underlying3) (fc (ldm 3 0 2 hM rfl rfl) f0)))))))) fun w5 hM => rt2 4 5 (vI ((60 * (numT t2.2.1)) + (numT t7.2.1))) (vI t2.2.2) rfl rfl f0 (hΦ _ _ (by unfold clock; rw [htk2]; (try simp only); rw [if_neg (of_decide_eq_false h4)]; (try simp only); rw [htk6]; (try simp only); rw [htk7]; (try simp only); have hbb : (t7.2.1.length != 2 || decide (numT t7.2.1 > 59) || (numT t2.2.1 == 24 && decide (numT t7.2.1 > 0))) = false := (by rw [len_ne2]; simp only [gt_iff_lt, bne, h9, h10, h11, h12] <;> rfl); rw [hbb]; simp only [Bool.false_eq_true, if_true, if_false]; exact ⟨rfl, _, _, hB7, hM.pick [2]⟩)))
      | true =>
       have rh12 := dt h12
       exact pan 7 4 [(51, prob 10 t7.2.2)] 165 (.agg #[vI 10, vI t7.2.2]) (fc (ldm 3 3 2 hM rfl rfl) f0) hM (fun a f9 hd => pn_ (P := Tryz.prog) (fn := Tryz.f158) hd (hΦ _ _ ((by unfold clock; rw [htk2]; (try simp only); rw [if_neg (of_decide_eq_false h4)]; (try simp only); rw [htk6]; (try simp only); rw [htk7]; (try simp only); have hbb : (t7.2.1.length != 2 || decide (numT t7.2.1 > 59) || (numT t2.2.1 == 24 && decide (numT t7.2.1 > 0))) = true := (by rw [len_ne2]; simp only [gt_iff_lt, bne, h9, h10, h11, h12] <;> rfl); rw [hbb]; simp only [Bool.false_eq_true, if_true, if_false]; exact ⟨rfl, f9⟩))))
    | true =>
     have rh10 := dt h10
     exact pan 7 4 [(51, prob 10 t7.2.2)] 165 (.agg #[vI 10, vI t7.2.2]) (fc (ldm 3 3 2 hM rfl rfl) f0) hM (fun a f9 hd => pn_ (P := Tryz.prog) (fn := Tryz.f158) hd (hΦ _ _ ((by unfold clock; rw [htk2]; (try simp only); rw [if_neg (of_decide_eq_false h4)]; (try simp only); rw [htk6]; (try simp only); rw [htk7]; (try simp only); have hbb : (t7.2.1.length != 2 || decide (numT t7.2.1 > 59) || (numT t2.2.1 == 24 && decide (numT t7.2.1 > 0))) = true := (by rw [len_ne2]; simp only [gt_iff_lt, bne, h9, h10] <;> rfl); rw [hbb]; simp only [Bool.false_eq_true, if_true, if_false]; exact ⟨rfl, f9⟩))))
  | true =>
   have rh4 := dt h4
   exact pan 3 4 [(19, prob 10 t2.2.2)] 165 (.agg #[vI 10, vI t2.2.2]) (fc (ldm 3 1 2 hM rfl rfl) f0) hM (fun a f9 hd => pn_ (P := Tryz.prog) (fn := Tryz.f158) hd (hΦ _ _ ((by unfold clock; rw [htk2]; (try simp only); rw [if_pos (of_decide_eq_true h4)]; (try simp only); exact ⟨rfl, f9⟩))))
/-- What a reader's step leaves that adds spans. -/
def StepO (w : World) (G : Nat → Prop) (B rb : Nat) (en : Int) (ss : List Sp) (p : Option Addr) (c : Nat) (ts : List (Tok Int)) (r : Res Int (List Sp × List (Tok Int))) (e : Ending) (w' : World) : Prop := match r with
  | .error (cc, x) => e = .panicked (pn cc x) ∧ Fr G w w'
  | .ok (s, l) => e = .returned (.tuple #[]) ∧ ∃ p' c' q cq, Behind B p c ts p' c' l ∧ Mm G w w' [bk rb #[vL p' l.length c', vI en, vL q (ss ++ s).length cq] 170, rw_ spL 2 141 (vL q (ss ++ s).length cq) (ss ++ s)]
theorem add_calls {w : World} {G : Nat → Prop} {rb cq : Nat} {q : Option Addr} {lv : Value} {en f t : Int} {ss : List Sp} (ht : 0 ≤ t) (ht2 : t ≤ 30000) (hl : ss.length ≤ 300000000) (hM0 : Mm G w w [bk rb #[lv, vI en, vL q ss.length cq] 170, rw_ spL 2 141 (vL q ss.length cq) ss]) : Calls Tryz.prog 123 #[vP rb 0, vI f, vI t] w fun e w' => ∃ u Mn, e = .returned u ∧ (u = .tuple #[] ∧ ∃ q2 c2, Mn = [bk rb #[lv, vI en, vL q2 (ss ++ addL f t).length c2] 170, rw_ spL 2 141 (vL q2 (ss ++ addL f t).length c2) (ss ++ addL f t)]) ∧ Mm G w w' Mn := by
  refine beg Tryz.func123 rfl rfl [(0, vP rb 0), (1, vI f), (2, vI t)] rfl rfl fun Φ hΦ => ?_
  have hM := hM0
  refine newm 0 9 15 [(6, vP rb 0), (10, vL q ss.length cq), (14, .agg #[vI f, vI (min t 10080)])] (cs := #[vI f, vI (min t 10080)]) (T := 141) (v := fun b => vL (some ⟨b, 0, none⟩) 1 1) (fc (ldm 48 0 2 hM rfl rfl) (fc (tmin 3 t 10080) f0)) hM fun b13 w1 hM => appm 0 10 16 [] (cap := 1) (by decide) spT f0 hM (j := 1) rfl (src_one (f := spL) (x := (f, (min t 10080))) (hM.get 2 rfl) (Nat.lt_succ_self _)) (fun h => by cases h) (by simp only [List.length_append, List.length_cons, List.length_nil]; omega) fun v14 w1 hM => ?_
  obtain ⟨qa14, ca14, e14, -⟩ := (hM.src (j := 1) rfl spT.len).op
  subst e14
  refine stm 0 13 [(18, vP rb 2)] 48 0 2 (vL qa14 (ss ++ [(f, (min t 10080))]).length ca14) f0 hM rfl fun w1 hM => seg 1 2 [(20, vB (decide (10080 < t)))] f0 ?_
  cases h15 : (decide (10080 < t)) with
  | false =>
   have rh15 := df h15
   have hal : (ss ++ [(f, (min t 10080))]) = ss ++ addL f t := by unfold addL; rw [if_neg (of_decide_eq_false h15)] <;> (try simp)
   rw [hal] at hM
   exact rt0 rfl f0 (hΦ _ _ ⟨_, _, rfl, ⟨rfl, _, _, rfl⟩, hM.pick [0, 1]⟩)
  | true =>
   have rh15 := dt h15
   refine newm 2 8 29 [(21, vP rb 0), (25, vL qa14 (ss ++ [(f, (min t 10080))]).length ca14), (28, .agg #[vI 0, vI (t - 10080)])] (cs := #[vI 0, vI (t - 10080)]) (T := 141) (v := fun b => vL (some ⟨b, 0, none⟩) 1 1) (fc (ldm 48 0 2 hM rfl rfl) (fc (tsub t 10080 Tryz.underlying3) f0)) hM fun b16 w1 hM => appm 2 9 30 [] (cap := 1) (by decide) spT f0 hM (j := 1) rfl (src_one (f := spL) (x := (0, (t - 10080))) (hM.get 3 rfl) (Nat.lt_succ_self _)) (fun h => by cases h) (by simp only [List.length_append, List.length_cons, List.length_nil]; omega) fun v17 w1 hM => ?_
   obtain ⟨qa17, ca17, e17, -⟩ := (hM.src (j := 1) rfl spT.len).op
   subst e17
   refine stm 2 12 [(32, vP rb 2)] 48 0 2 (vL qa17 ((ss ++ [(f, (min t 10080))]) ++ [(0, (t - 10080))]).length ca17) f0 hM rfl fun w1 hM => ?_
   have hal : ((ss ++ [(f, (min t 10080))]) ++ [(0, (t - 10080))]) = ss ++ addL f t := by unfold addL; rw [if_pos (of_decide_eq_true h15)] <;> (try simp)
   rw [hal] at hM
   exact rt0 rfl f0 (hΦ _ _ ⟨_, _, rfl, ⟨rfl, _, _, rfl⟩, hM.pick [0, 1]⟩)
end Go.Proofs.YtbflfefahheidaaGreatDoor
/- The reader: parts. -/
set_option linter.unusedVariables false
set_option linter.unusedSimpArgs false
namespace Go.Proofs.YtbflfefahheidaaGreatDoor
open Go.RowKit Go.Pl
section
variable {α : Type} {en : α}
def pre (acc : List Sp) : Res α (List Sp × List (Tok α)) → Res α (List Sp × List (Tok α))
  | .error e => .error e
  | .ok (s, l) => .ok (acc ++ s, l)
theorem pre_nil (r : Res α (List Sp × List (Tok α))) : pre [] r = r := by cases r <;> rfl
def timesT (en : α) (f t : Int) (l : List (Tok α)) : Res α (List Sp × List (Tok α)) := times en f t (l.length + 1) l
theorem timesT_err {f t : Int} {l : List (Tok α)} {e : Int × α} (h : time en f t l = .error e) : timesT en f t l = .error e := by
  unfold timesT times; rw [h]
theorem timesT_end {f t : Int} {l l2 : List (Tok α)} {s : List Sp} (h : time en f t l = .ok (s, l2)) (hm : more l2 = false) : timesT en f t l = .ok (s, l2) := by
  unfold timesT times; rw [h]; simp [hm]
theorem timesT_more {f t : Int} {l l2 : List (Tok α)} {s acc : List Sp} (h : time en f t l = .ok (s, l2)) (hm : more l2 = true) : pre acc (timesT en f t l) = pre (acc ++ s) (timesT en f t (l2.drop 1)) := by
  have hl := time_ok h
  have : timesT en f t l = pre s (timesT en f t (l2.drop 1)) := by
    unfold timesT
    rw [times, h]
    simp only
    rw [if_pos hm, times_fuel l.length ((l2.drop 1).length + 1) (l2.drop 1) (by simp; omega) (by simp)]
    cases times en f t ((l2.drop 1).length + 1) (l2.drop 1) <;> rfl
  rw [this]
  cases timesT en f t (l2.drop 1) with
  | error e => rfl
  | ok r => simp [pre, List.append_assoc]
theorem part_eq {ts l : List (Tok α)} {f t : Int} (h : dys en ts = .ok ((f, t), l)) : part en ts = pre [] (timesT en f t l) := by
  unfold part; rw [h, pre_nil]; rfl
theorem part_er {ts : List (Tok α)} {e : Int × α} (h : dys en ts = .error e) : part en ts = .error e := by
  unfold part; rw [h]
theorem take_any {k : Int} {xs : List Bys} {l : List (Tok α)} (h : sees k xs l = true) : ∃ t l', take en k [] l = .ok (t, l') ∧ l = t :: l' := by
  cases l with
  | nil => cases h
  | cons t l =>
    refine ⟨t, l, ?_, rfl⟩
    unfold sees at h
    unfold take sees
    rw [Bool.and_eq_true] at h
    simp [h.1]
theorem more_eq {l : List (Tok α)} {t u : Tok α} {r : List (Tok α)} (h : l = t :: u :: r) : more l = (sees 4 [cComma] l && u.1 == 2) := by subst h; rfl
end
theorem more_short {l : List (Tok Int)} (h : l.length < 2) : more l = false := by
  rcases l with _ | ⟨t, _ | ⟨u, l⟩⟩
  · rfl
  · rfl
  · simp only [List.length_cons] at h; omega
theorem more_see {l : List (Tok Int)} (h : sees 4 [cComma] l = false) : more l = false := by
  rcases l with _ | ⟨t, _ | ⟨u, r⟩⟩
  · rfl
  · rfl
  · rw [more_eq rfl, h]; rfl
theorem more_at {l : List (Tok Int)} {u : Tok Int} (h : l[1]? = some u) : more l = (sees 4 [cComma] l && u.1 == 2) := by
  rcases l with _ | ⟨t, _ | ⟨v, r⟩⟩
  · simp at h
  · simp at h
  · simp at h; subst h; exact more_eq rfl
def dayP (f a b : Int) (n : Nat) : List Sp := (List.range n).flatMap fun (i : Nat) => addL ((f + (i : Int)).tmod 7 * 1440 + a) ((f + (i : Int)).tmod 7 * 1440 + b)
theorem dayP_succ (f a b : Int) (n : Nat) : dayP f a b (n + 1) = dayP f a b n ++ addL ((f + (n : Int)).tmod 7 * 1440 + a) ((f + (n : Int)).tmod 7 * 1440 + b) := by
  unfold dayP; rw [List.range_succ]; simp
theorem addL_len (f t : Int) : (addL f t).length ≤ 2 := by unfold addL; split <;> simp
theorem dayP_len (f a b : Int) (n : Nat) : (dayP f a b n).length ≤ 2 * n := by
  induction n with
  | zero => simp [dayP]
  | succ n ih => rw [dayP_succ, List.length_append]; have := addL_len ((f + (n : Int)).tmod 7 * 1440 + a) ((f + (n : Int)).tmod 7 * 1440 + b); omega
theorem day_n {f t : Int} (hf : 0 ≤ f) (hf7 : f < 7) (ht : 0 ≤ t) (ht7 : t < 7) : (t - f + 7).tmod 7 = (t - f + 7) % 7 := Int.tmod_eq_emod_of_nonneg (by omega)
theorem tm7 {f : Int} (hf : 0 ≤ f) (n : Nat) : (f + (n : Int)).tmod 7 = (f + (n : Int)) % 7 := Int.tmod_eq_emod_of_nonneg (by omega)
theorem idx_rng {d : Bys} (h : d ∈ days) : 0 ≤ idx d ∧ idx d < 7 := by
  have hidx : ∀ d ∈ days, 0 ≤ idx d ∧ idx d < 7 := by decide +kernel
  exact hidx d h
abbrev A124 (Φ : Ending → World → Prop) := AtO Tryz.prog (bodyOf Tryz.f124) (whole (bodyPost Tryz.prog Tryz.f124 Φ)) [] 119
theorem part_calls {w : World} {G : Nat → Prop} {B rb c cq : Nat} {p q : Option Addr} {en : Int} {ts : List (Tok Int)} {ss : List Sp} (hM0 : Mm G w w [bk rb #[vL p ts.length c, vI en, vL q ss.length cq] 170, rw_ spL 2 141 (vL q ss.length cq) ss]) (hs : SrcB tkL 3 w B p c ts) (hG : ∀ k, G k → B ≤ k) (hk : Tk ts) (hT : Tb w) (hlen : ss.length + 14 * ts.length ≤ 200000000) : Calls Tryz.prog 124 #[vP rb 0] w fun e w' => StepO w G B rb en ss p c ts (part en ts) e w' := by
  refine beg Tryz.func124 rfl rfl [(0, vP rb 0)] rfl rfl fun Φ hΦ => ?_
  have hM := hM0
  have hrB : B ≤ rb := hG rb (hM0.own _ (.head _) rb rfl (lt_of_blk (hM0.get 0 rfl)))
  have hB0 : Behind B p c ts p c ts := fun _ h => h
  refine cal 0 0 11 [] (K := fun u w8 => ∃ b, u = vL (some ⟨b, 0, none⟩) 7 7 ∧ DaysAt w8 b ∧ w.heap.size ≤ b ∧ Fr (fun _ => False) w w8) f0 ((names_calls hT).mono fun e w8 ⟨b, h1, h2⟩ => ⟨_, h1, b, rfl, h2⟩) fun u w1 ⟨bd, hu, hbd, hbn, f1⟩ => ?_
  subst hu
  have hM := hM.add f1 (bk bd (days.map fun l => Value.string (ofL l)).toArray 9) hbd (fun k h => by rw [(h : k = bd)]; exact hbn)
  rcases htk18 : take en 1 days ts with ⟨c18, x18⟩ | ⟨t18, l18⟩
  · exact calE 1 5 17 [(2, vL (some ⟨bd, 0, none⟩) 7 7), (12, vL (some ⟨bd, 0, none⟩) 7 7), (15, vP rb 0), (16, vL (some ⟨bd, 0, none⟩) 7 7)] [0] f0 hM rfl (by decide) (fun hm => (take_calls (xs := days) hm (srcfw hs hM.fr hG) (fun k h => by rw [blM1 (b := rb) rfl h]; exact hrB) (apt_of (hM.get 2 rfl) (hM.notin (i := 2) (js := [0]) rfl rfl (by decide)) fun w9 h => DaysAt.st h) 1).mono fun e w8 h => by unfold StepP at h; rw [htk18] at h; exact h) (fun a w9 f9 hd => pn_ (P := Tryz.prog) (fn := Tryz.f124) hd (hΦ _ _ ((by rw [part_er (by unfold dys; rw [htk18]; (try simp only); (try rfl))]; exact ⟨rfl, f9⟩))))
  refine calM 1 5 17 [(2, vL (some ⟨bd, 0, none⟩) 7 7), (12, vL (some ⟨bd, 0, none⟩) 7 7), (15, vP rb 0), (16, vL (some ⟨bd, 0, none⟩) 7 7)] (K := fun u Mn => u = vA (tkL t18) ∧ ∃ p' c', Behind B p c ts p' c' l18 ∧ Mn = [bk rb #[vL p' l18.length c', vI en, vL q ss.length cq] 170]) [1, 2] [0] f0 hM rfl rfl (by decide) (fun hm => (take_calls (xs := days) hm (srcfw hs hM.fr hG) (fun k h => by rw [blM1 (b := rb) rfl h]; exact hrB) (apt_of (hM.get 2 rfl) (hM.notin (i := 2) (js := [0]) rfl rfl (by decide)) fun w9 h => DaysAt.st h) 1).mono fun e w8 h => by unfold StepP at h; rw [htk18] at h; obtain ⟨h1, p', c', h2, h3⟩ := h; exact ⟨_, _, h1, ⟨rfl, p', c', h2, rfl⟩, h3⟩) fun u Mn w1 hK hM => ?_
  obtain ⟨rfl, p18, cc18, hb18, rfl⟩ := hK
  have hs18 := hb18 _ hs
  have hB18 : Behind B p c ts p18 cc18 l18 := fun w1 h => hb18 w1 (hB0 w1 h)
  obtain ⟨hto18, hkd18, hk⟩ := take_tk hk htk18
  have hin18 := (take_ok htk18).2.2
  have hid18 : t18.2.1 ∈ days := hin18.resolve_left (by decide)
  have hir18 := idx_rng hid18
  refine calm 1 7 19 [(18, vS t18.2.1)] f0 hM (index_calls (DaysAt.st (hM.get 1 rfl)) hid18) fun w1 hM => newm 3 3 24 [(3, vI (idx t18.2.1)), (4, vI (idx t18.2.1)), (23, vP rb 0)] (cs := #[vS [45]]) (T := 9) (v := fun b => vL (some ⟨b, 0, none⟩) 1 1) f0 hM fun b19 w1 hM => calm 3 4 25 [] f0 hM (sees_calls (xs := [cDash]) (hM.get 2 rfl) (srcfw hs18 hM.fr hG) (StV.one (hM.get 3 rfl)) 4) fun w1 hM => ?_
  cases h20 : (sees 4 [cDash] l18) with
  | false =>
   refine seg 6 0 [] f0 ?_
   have hdy : dys en ts = .ok (((idx t18.2.1), (idx t18.2.1)), l18) := (by unfold dys; rw [htk18]; simp only; rw [if_neg (by rw [h20]; simp)])
   obtain ⟨f, hfe⟩ : ∃ f, f = (idx t18.2.1) := ⟨_, rfl⟩
   have hf0 : 0 ≤ f ∧ f < 7 := by rw [hfe]; omega
   rw [← hfe]
   rw [← hfe] at hdy
   have hP := part_eq hdy
   have hlen0 : l18.length ≤ ts.length := by have := dys_len hdy; omega
   have hM : Mm G w _ [bk bd (days.map fun l => Value.string (ofL l)).toArray 9, rw_ spL 2 141 (vL q ss.length cq) ss, bk rb #[vL p18 l18.length cc18, vI en, vL q ss.length cq] 170] := (hM.pick [1, 0, 2])
   have lp21 : ∀ (m23 : Nat) (l : List (Tok Int)) (acc : List Sp) (pl : Option Addr) (cl : Nat) (q : Option Addr) (cq : Nat) (w2 : World), SrcB tkL 3 w B pl cl l → Behind B p c ts pl cl l → Tk l → part en ts = pre acc (timesT en f f l) → acc.length + 14 * l.length ≤ 14 * ts.length → Mm G w w2 [bk bd (days.map fun l => Value.string (ofL l)).toArray 9, rw_ spL 2 141 (vL q (ss ++ acc).length cq) (ss ++ acc), bk rb #[vL pl l.length cl, vI en, vL q (ss ++ acc).length cq] 170] → m23 = l.length → A124 Φ (some (6, 0)) [(4, vI f), (3, vI f), (0, vP rb 0)] w2 := by
    refine srec fun m23 ih22 l acc pl cl q cq w2 hs2 hB2 hk hP hal hM hm23 => ?_
    rcases hck24 : clock en 23 l with ⟨c24, x24⟩ | ⟨⟨m24, y24⟩, l24⟩
    · exact calE 6 1 40 [(39, vP rb 0)] [2] f0 hM rfl (by decide) (fun hm => (clock_calls (most := 23) hm (srcfw hs2 hM.fr hG) (fun k h => by rw [blM1 (b := rb) rfl h]; exact hrB) hk).mono fun e w8 h => by unfold StepP at h; rw [hck24] at h; exact h) (fun a w9 f9 hd => pn_ (P := Tryz.prog) (fn := Tryz.f124) hd (hΦ _ _ ((by rw [hP, timesT_err (by unfold time; rw [hck24]; (try simp only))]; exact ⟨rfl, f9⟩))))
    refine calM 6 1 40 [(39, vP rb 0)] (K := fun u Mn => u = .tuple #[vI m24, vI y24] ∧ ∃ p' c', Behind B pl cl l p' c' l24 ∧ Mn = [bk rb #[vL p' l24.length c', vI en, vL q (ss ++ acc).length cq] 170]) [0, 1] [2] f0 hM rfl rfl (by decide) (fun hm => (clock_calls (most := 23) hm (srcfw hs2 hM.fr hG) (fun k h => by rw [blM1 (b := rb) rfl h]; exact hrB) hk).mono fun e w8 h => by unfold StepP at h; rw [hck24] at h; obtain ⟨h1, p', c', h2, h3⟩ := h; exact ⟨_, _, h1, ⟨rfl, p', c', h2, rfl⟩, h3⟩) fun u Mn w1 hK hM => ?_
    obtain ⟨rfl, p24, cc24, hb24, rfl⟩ := hK
    have hs24 := hb24 _ hs2
    have hB24 : Behind B p c ts p24 cc24 l24 := fun w1 h => hb24 w1 (hB2 w1 h)
    obtain ⟨hm024, hm124, hm224, hk⟩ := clock_rng hk hck24
    refine newm 7 3 46 [(5, vI m24), (45, vP rb 0)] (cs := #[vS [45]]) (T := 9) (v := fun b => vL (some ⟨b, 0, none⟩) 1 1) f0 hM fun b25 w1 hM => ?_
    rcases htk26 : take en 4 [cDash] l24 with ⟨c26, x26⟩ | ⟨t26, l26⟩
    · exact calE 7 4 47 [] [2] f0 hM rfl (by decide) (fun hm => (take_calls (xs := [cDash]) hm (srcfw hs24 hM.fr hG) (fun k h => by rw [blM1 (b := rb) rfl h]; exact hrB) (apt_of (hM.get 3 rfl) (hM.notin (i := 3) (js := [2]) rfl rfl (by decide)) fun w9 h => StV.one h) 4).mono fun e w8 h => by unfold StepP at h; rw [htk26] at h; exact h) (fun a w9 f9 hd => pn_ (P := Tryz.prog) (fn := Tryz.f124) hd (hΦ _ _ ((by rw [hP, timesT_err (by unfold time; rw [hck24]; (try simp only); rw [htk26]; (try simp only))]; exact ⟨rfl, f9⟩))))
    refine calM 7 4 47 [] (K := fun u Mn => u = vA (tkL t26) ∧ ∃ p' c', Behind B p24 cc24 l24 p' c' l26 ∧ Mn = [bk rb #[vL p' l26.length c', vI en, vL q (ss ++ acc).length cq] 170]) [0, 1, 3] [2] f0 hM rfl rfl (by decide) (fun hm => (take_calls (xs := [cDash]) hm (srcfw hs24 hM.fr hG) (fun k h => by rw [blM1 (b := rb) rfl h]; exact hrB) (apt_of (hM.get 3 rfl) (hM.notin (i := 3) (js := [2]) rfl rfl (by decide)) fun w9 h => StV.one h) 4).mono fun e w8 h => by unfold StepP at h; rw [htk26] at h; obtain ⟨h1, p', c', h2, h3⟩ := h; exact ⟨_, _, h1, ⟨rfl, p', c', h2, rfl⟩, h3⟩) fun u Mn w1 hK hM => ?_
    obtain ⟨rfl, p26, cc26, hb26, rfl⟩ := hK
    have hs26 := hb26 _ hs24
    have hB26 : Behind B p c ts p26 cc26 l26 := fun w1 h => hb26 w1 (hB24 w1 h)
    obtain ⟨hto26, hkd26, hk⟩ := take_tk hk htk26
    have hin26 := (take_ok htk26).2.2
    rcases hck27 : clock en 24 l26 with ⟨c27, x27⟩ | ⟨⟨m27, y27⟩, l27⟩
    · exact calE 8 1 50 [(49, vP rb 0)] [3] f0 hM rfl (by decide) (fun hm => (clock_calls (most := 24) hm (srcfw hs26 hM.fr hG) (fun k h => by rw [blM1 (b := rb) rfl h]; exact hrB) hk).mono fun e w8 h => by unfold StepP at h; rw [hck27] at h; exact h) (fun a w9 f9 hd => pn_ (P := Tryz.prog) (fn := Tryz.f124) hd (hΦ _ _ ((by rw [hP, timesT_err (by unfold time; rw [hck24]; (try simp only); rw [htk26]; (try simp only); rw [hck27]; (try simp only))]; exact ⟨rfl, f9⟩))))
    refine calM 8 1 50 [(49, vP rb 0)] (K := fun u Mn => u = .tuple #[vI m27, vI y27] ∧ ∃ p' c', Behind B p26 cc26 l26 p' c' l27 ∧ Mn = [bk rb #[vL p' l27.length c', vI en, vL q (ss ++ acc).length cq] 170]) [0, 1, 2] [3] f0 hM rfl rfl (by decide) (fun hm => (clock_calls (most := 24) hm (srcfw hs26 hM.fr hG) (fun k h => by rw [blM1 (b := rb) rfl h]; exact hrB) hk).mono fun e w8 h => by unfold StepP at h; rw [hck27] at h; obtain ⟨h1, p', c', h2, h3⟩ := h; exact ⟨_, _, h1, ⟨rfl, p', c', h2, rfl⟩, h3⟩) fun u Mn w1 hK hM => ?_
    obtain ⟨rfl, p27, cc27, hb27, rfl⟩ := hK
    have hs27 := hb27 _ hs26
    have hB27 : Behind B p c ts p27 cc27 l27 := fun w1 h => hb27 w1 (hB26 w1 h)
    obtain ⟨hm027, hm127, hm227, hk⟩ := clock_rng hk hck27
    refine seg 9 4 [(7, vI m27), (8, vI y27), (53, vB (m24 == m27))] f0 ?_
    cases h28 : (m24 == m27) with
    | false =>
     have rh28 := ef h28
     refine seg 11 4 [(60, vB (decide (m27 < m24)))] f0 ?_
     cases h29 : (decide (m27 < m24)) with
     | false =>
      have rh29 := df h29
      refine seg 14 0 [(71, vI ((((f - f) + 7) % 7) + 1)), (72, vI 0)] (fc (tsub f f Tryz.underlying3) (fc (tadd (f - f) 7 Tryz.underlying3) (fc (trem ((f - f) + 7) 7 Tryz.underlying3) (fc (tadd (((f - f) + 7) % 7) 1 Tryz.underlying3) f0)))) ?_
      obtain ⟨n, hn⟩ : ∃ n : Nat, n = ((f - f + 7) % 7 + 1).toNat := ⟨_, rfl⟩
      have hnn : ((((f - f) + 7) % 7) + 1) = (n : Int) := by omega
      have hn7 : n ≤ 7 := by omega
      rw [hnn]
      have hM : Mm G w _ [bk bd (days.map fun l => Value.string (ofL l)).toArray 9, rw_ spL 2 141 (vL q (ss ++ acc).length cq) (ss ++ acc), bk rb #[vL p27 l27.length cc27, vI en, vL q (ss ++ acc).length cq] 170] := (hM.pick [0, 1, 3])
      have lp30 : ∀ (m32 : Nat) (i : Nat) (q2 : Option Addr) (cq2 : Nat) (w2 : World), i ≤ n → Mm G w w2 [bk bd (days.map fun l => Value.string (ofL l)).toArray 9, rw_ spL 2 141 (vL q2 (ss ++ acc ++ dayP f m24 m27 i).length cq2) (ss ++ acc ++ dayP f m24 m27 i), bk rb #[vL p27 l27.length cc27, vI en, vL q2 (ss ++ acc ++ dayP f m24 m27 i).length cq2] 170] → m32 = n - i → A124 Φ (some (14, 0)) [(72, vI (i : Int)), (71, vI (n : Int)), (7, vI m27), (5, vI m24), (4, vI f), (3, vI f), (0, vP rb 0)] w2 := by
       refine srec fun m32 ih31 i q2 cq2 w2 hi hM hm32 => seg 14 1 [(73, vB (decide ((i : Int) < (n : Int))))] f0 ?_
       cases h33 : (decide ((i : Int) < (n : Int))) with
       | false =>
        have rh33 := df h33
        have hti : time en f f l = .ok ((dayP f m24 m27 n), l27) := (by unfold time; rw [hck24]; simp only; rw [htk26]; simp only; rw [hck27]; simp only; rw [if_neg (by rw [h28]; simp), if_neg (of_decide_eq_false h29), day_n hf0.1 hf0.2 hf0.1 hf0.2, show (f - f + 7) % 7 + 1 = (n : Int) from hnn]; rfl)
        have hie : i = n := by omega
        rw [hie] at hM
        replace hM : Mm G w _ [bk bd (days.map fun l => Value.string (ofL l)).toArray 9, rw_ spL 2 141 (vL q2 (ss ++ acc ++ (dayP f m24 m27 n)).length cq2) (ss ++ acc ++ (dayP f m24 m27 n)), bk rb #[vL p27 l27.length cc27, vI en, vL q2 (ss ++ acc ++ (dayP f m24 m27 n)).length cq2] 170] := hM
        refine newm 19 3 92 [(91, vP rb 0)] (cs := #[vS [44]]) (T := 9) (v := fun b => vL (some ⟨b, 0, none⟩) 1 1) f0 hM fun b34 w1 hM => calm 19 4 93 [] f0 hM (sees_calls (xs := [cComma]) (hM.get 2 rfl) (srcfw hs27 hM.fr hG) (StV.one (hM.get 3 rfl)) 4) fun w1 hM => seg 19 7 [(95, vB (!(sees 4 [cComma] l27)))] f0 ?_
        cases h35 : (sees 4 [cComma] l27) with
        | false =>
         rw [List.append_assoc] at hM
         exact rt0 rfl f0 (hΦ _ _ (by rw [hP, timesT_end hti (more_see h35)]; exact ⟨rfl, _, _, _, _, hB27, hM.pick [2, 1]⟩))
        | true =>
         refine seg 19 16 [(104, vB (decide ((l27.length : Int) < 2)))] (fc (ldm 130 2 0 hM rfl rfl) f0) ?_
         cases h36 : (decide ((l27.length : Int) < 2)) with
         | false =>
          have rh36 := df h36
          obtain ⟨y37, hy37, g37, o37, q37, r37, n37⟩ := (hs27).eb hG (i := 1) (by omega)
          refine seg 19 26 [(114, vB (!(y37.1 == 2)))] (fc (ldm 130 2 0 hM rfl rfl) (fc (ix 130 cc27 q37 (gl hy37)) (fc (ld0 3 hM (r37 0 _ rfl) n37) f0))) ?_
          cases h38 : (y37.1 == 2) with
          | false =>
           have rh38 := ef h38
           rw [List.append_assoc] at hM
           exact rt0 rfl f0 (hΦ _ _ (by rw [hP, timesT_end hti ((by rw [more_at hy37, h38, Bool.and_false]))]; exact ⟨rfl, _, _, _, _, hB27, hM.pick [2, 1]⟩))
          | true =>
           have rh38 := et h38
           have hmo : more l27 = true := by rw [more_at hy37, h35, h38]; rfl
           rcases htk39 : take en 4 ([] : List Bys) l27 with ⟨c39, x39⟩ | ⟨t39, l39⟩
           · exfalso; obtain ⟨t9, l9, h9, _⟩ := take_any (en := en) h35; rw [h9] at htk39; cases htk39
           refine calM 20 3 118 [(117, vP rb 0)] (K := fun u Mn => u = vA (tkL t39) ∧ ∃ p' c', Behind B p27 cc27 l27 p' c' l39 ∧ Mn = [bk rb #[vL p' l39.length c', vI en, vL q2 (ss ++ acc ++ (dayP f m24 m27 n)).length cq2] 170]) [0, 1, 3] [2] f0 hM rfl rfl (by decide) (fun hm => (take_calls (xs := ([] : List Bys)) hm (srcfw hs27 hM.fr hG) (fun k h => by rw [blM1 (b := rb) rfl h]; exact hrB) apt_nil 4).mono fun e w8 h => by unfold StepP at h; rw [htk39] at h; obtain ⟨h1, p', c', h2, h3⟩ := h; exact ⟨_, _, h1, ⟨rfl, p', c', h2, rfl⟩, h3⟩) fun u Mn w1 hK hM => ?_
           obtain ⟨rfl, p39, cc39, hb39, rfl⟩ := hK
           have hs39 := hb39 _ hs27
           have hB39 : Behind B p c ts p39 cc39 l39 := fun w1 h => hb39 w1 (hB27 w1 h)
           obtain ⟨hto39, hkd39, hk⟩ := take_tk hk htk39
           have hin39 := (take_ok htk39).2.2
           have htl39 : l27 = t39 :: l39 := (take_ok htk39).1
           refine seg 6 0 [] f0 ?_
           have hPn : part en ts = pre (acc ++ (dayP f m24 m27 n)) (timesT en f f l39) := by rw [hP, timesT_more hti hmo, htl39]; rfl
           have hl9 := time_ok hti
           have hl8 : l27.length = l39.length + 1 := by rw [htl39]; rfl
           have hdn := dayP_len f m24 m27 n
           rw [List.append_assoc] at hM
           exact fewer _ (ih22 _ (by omega) l39 (acc ++ (dayP f m24 m27 n)) p39 cc39 q2 cq2 _ (hs39) (hB39) hk hPn (by simp only [List.length_append]; omega) (hM.pick [0, 1, 3]) rfl)
         | true =>
          have rh36 := dt h36
          rw [List.append_assoc] at hM
          exact rt0 rfl f0 (hΦ _ _ (by rw [hP, timesT_end hti (more_short (by omega))]; exact ⟨rfl, _, _, _, _, hB27, hM.pick [2, 1]⟩))
       | true =>
        have rh33 := dt h33
        refine calM 17 7 87 [(80, vP rb 0), (83, vI ((((f + (i : Int)) % 7) * 1440) + m24)), (86, vI ((((f + (i : Int)) % 7) * 1440) + m27))] (K := fun u Mn => u = .tuple #[] ∧ ∃ q2 c2, Mn = [bk rb #[vL p27 l27.length cc27, vI en, vL q2 ((ss ++ acc ++ dayP f m24 m27 i) ++ addL ((((f + (i : Int)) % 7) * 1440) + m24) ((((f + (i : Int)) % 7) * 1440) + m27)).length c2] 170, rw_ spL 2 141 (vL q2 ((ss ++ acc ++ dayP f m24 m27 i) ++ addL ((((f + (i : Int)) % 7) * 1440) + m24) ((((f + (i : Int)) % 7) * 1440) + m27)).length c2) ((ss ++ acc ++ dayP f m24 m27 i) ++ addL ((((f + (i : Int)) % 7) * 1440) + m24) ((((f + (i : Int)) % 7) * 1440) + m27))]) [0] [2, 1] (fc (tadd f (i : Int) Tryz.underlying3) (fc (trem (f + (i : Int)) 7 Tryz.underlying3) (fc (tmul ((f + (i : Int)) % 7) 1440 Tryz.underlying3) (fc (tadd (((f + (i : Int)) % 7) * 1440) m24 Tryz.underlying3) (fc (tadd (((f + (i : Int)) % 7) * 1440) m27 Tryz.underlying3) f0))))) hM rfl rfl (by decide) (fun hm => add_calls (by omega) (by omega) (by have := dayP_len f m24 m27 i; simp only [List.length_append]; omega) hm) fun u Mn w1 hK hM => ?_
        obtain ⟨rfl, qa40, ca40, rfl⟩ := hK
        refine seg 14 0 [(72, vI ((i : Int) + 1))] (fc (tadd (i : Int) 1 Tryz.underlying3) f0) ?_
        have e9 : ((ss ++ acc ++ dayP f m24 m27 i) ++ addL ((((f + (i : Int)) % 7) * 1440) + m24) ((((f + (i : Int)) % 7) * 1440) + m27)) = ss ++ acc ++ dayP f m24 m27 (i + 1) := by rw [dayP_succ, tm7 hf0.1, ← List.append_assoc]
        rw [e9] at hM
        exact fewer _ (ih31 _ (by omega) (i + 1) qa40 ca40 _ (by omega) (hM.pick [0, 2, 1]) rfl)
      exact fewer _ (lp30 _ 0 q cq _ (Nat.zero_le _) (hM.cast (by simp only [show dayP f m24 m27 0 = [] from rfl, List.append_nil])) rfl)
     | true =>
      have rh29 := dt h29
      refine seg 14 0 [(7, vI (m27 + 1440)), (71, vI ((((f - f) + 7) % 7) + 1)), (72, vI 0)] (fc (tadd m27 1440 Tryz.underlying3) (fc (tsub f f Tryz.underlying3) (fc (tadd (f - f) 7 Tryz.underlying3) (fc (trem ((f - f) + 7) 7 Tryz.underlying3) (fc (tadd (((f - f) + 7) % 7) 1 Tryz.underlying3) f0))))) ?_
      obtain ⟨n, hn⟩ : ∃ n : Nat, n = ((f - f + 7) % 7 + 1).toNat := ⟨_, rfl⟩
      have hnn : ((((f - f) + 7) % 7) + 1) = (n : Int) := by omega
      have hn7 : n ≤ 7 := by omega
      rw [hnn]
      have hM : Mm G w _ [bk bd (days.map fun l => Value.string (ofL l)).toArray 9, rw_ spL 2 141 (vL q (ss ++ acc).length cq) (ss ++ acc), bk rb #[vL p27 l27.length cc27, vI en, vL q (ss ++ acc).length cq] 170] := (hM.pick [0, 1, 3])
      have lp41 : ∀ (m43 : Nat) (i : Nat) (q2 : Option Addr) (cq2 : Nat) (w2 : World), i ≤ n → Mm G w w2 [bk bd (days.map fun l => Value.string (ofL l)).toArray 9, rw_ spL 2 141 (vL q2 (ss ++ acc ++ dayP f m24 (m27 + 1440) i).length cq2) (ss ++ acc ++ dayP f m24 (m27 + 1440) i), bk rb #[vL p27 l27.length cc27, vI en, vL q2 (ss ++ acc ++ dayP f m24 (m27 + 1440) i).length cq2] 170] → m43 = n - i → A124 Φ (some (14, 0)) [(72, vI (i : Int)), (71, vI (n : Int)), (7, vI (m27 + 1440)), (5, vI m24), (4, vI f), (3, vI f), (0, vP rb 0)] w2 := by
       refine srec fun m43 ih42 i q2 cq2 w2 hi hM hm43 => seg 14 1 [(73, vB (decide ((i : Int) < (n : Int))))] f0 ?_
       cases h44 : (decide ((i : Int) < (n : Int))) with
       | false =>
        have rh44 := df h44
        have hti : time en f f l = .ok ((dayP f m24 (m27 + 1440) n), l27) := (by unfold time; rw [hck24]; simp only; rw [htk26]; simp only; rw [hck27]; simp only; rw [if_neg (by rw [h28]; simp), if_pos (of_decide_eq_true h29), day_n hf0.1 hf0.2 hf0.1 hf0.2, show (f - f + 7) % 7 + 1 = (n : Int) from hnn]; rfl)
        have hie : i = n := by omega
        rw [hie] at hM
        replace hM : Mm G w _ [bk bd (days.map fun l => Value.string (ofL l)).toArray 9, rw_ spL 2 141 (vL q2 (ss ++ acc ++ (dayP f m24 (m27 + 1440) n)).length cq2) (ss ++ acc ++ (dayP f m24 (m27 + 1440) n)), bk rb #[vL p27 l27.length cc27, vI en, vL q2 (ss ++ acc ++ (dayP f m24 (m27 + 1440) n)).length cq2] 170] := hM
        refine newm 19 3 92 [(91, vP rb 0)] (cs := #[vS [44]]) (T := 9) (v := fun b => vL (some ⟨b, 0, none⟩) 1 1) f0 hM fun b45 w1 hM => calm 19 4 93 [] f0 hM (sees_calls (xs := [cComma]) (hM.get 2 rfl) (srcfw hs27 hM.fr hG) (StV.one (hM.get 3 rfl)) 4) fun w1 hM => seg 19 7 [(95, vB (!(sees 4 [cComma] l27)))] f0 ?_
        cases h46 : (sees 4 [cComma] l27) with
        | false =>
         rw [List.append_assoc] at hM
         exact rt0 rfl f0 (hΦ _ _ (by rw [hP, timesT_end hti (more_see h46)]; exact ⟨rfl, _, _, _, _, hB27, hM.pick [2, 1]⟩))
        | true =>
         refine seg 19 16 [(104, vB (decide ((l27.length : Int) < 2)))] (fc (ldm 130 2 0 hM rfl rfl) f0) ?_
         cases h47 : (decide ((l27.length : Int) < 2)) with
         | false =>
          have rh47 := df h47
          obtain ⟨y48, hy48, g48, o48, q48, r48, n48⟩ := (hs27).eb hG (i := 1) (by omega)
          refine seg 19 26 [(114, vB (!(y48.1 == 2)))] (fc (ldm 130 2 0 hM rfl rfl) (fc (ix 130 cc27 q48 (gl hy48)) (fc (ld0 3 hM (r48 0 _ rfl) n48) f0))) ?_
          cases h49 : (y48.1 == 2) with
          | false =>
           have rh49 := ef h49
           rw [List.append_assoc] at hM
           exact rt0 rfl f0 (hΦ _ _ (by rw [hP, timesT_end hti ((by rw [more_at hy48, h49, Bool.and_false]))]; exact ⟨rfl, _, _, _, _, hB27, hM.pick [2, 1]⟩))
          | true =>
           have rh49 := et h49
           have hmo : more l27 = true := by rw [more_at hy48, h46, h49]; rfl
           rcases htk50 : take en 4 ([] : List Bys) l27 with ⟨c50, x50⟩ | ⟨t50, l50⟩
           · exfalso; obtain ⟨t9, l9, h9, _⟩ := take_any (en := en) h46; rw [h9] at htk50; cases htk50
           refine calM 20 3 118 [(117, vP rb 0)] (K := fun u Mn => u = vA (tkL t50) ∧ ∃ p' c', Behind B p27 cc27 l27 p' c' l50 ∧ Mn = [bk rb #[vL p' l50.length c', vI en, vL q2 (ss ++ acc ++ (dayP f m24 (m27 + 1440) n)).length cq2] 170]) [0, 1, 3] [2] f0 hM rfl rfl (by decide) (fun hm => (take_calls (xs := ([] : List Bys)) hm (srcfw hs27 hM.fr hG) (fun k h => by rw [blM1 (b := rb) rfl h]; exact hrB) apt_nil 4).mono fun e w8 h => by unfold StepP at h; rw [htk50] at h; obtain ⟨h1, p', c', h2, h3⟩ := h; exact ⟨_, _, h1, ⟨rfl, p', c', h2, rfl⟩, h3⟩) fun u Mn w1 hK hM => ?_
           obtain ⟨rfl, p50, cc50, hb50, rfl⟩ := hK
           have hs50 := hb50 _ hs27
           have hB50 : Behind B p c ts p50 cc50 l50 := fun w1 h => hb50 w1 (hB27 w1 h)
           obtain ⟨hto50, hkd50, hk⟩ := take_tk hk htk50
           have hin50 := (take_ok htk50).2.2
           have htl50 : l27 = t50 :: l50 := (take_ok htk50).1
           refine seg 6 0 [] f0 ?_
           have hPn : part en ts = pre (acc ++ (dayP f m24 (m27 + 1440) n)) (timesT en f f l50) := by rw [hP, timesT_more hti hmo, htl50]; rfl
           have hl9 := time_ok hti
           have hl8 : l27.length = l50.length + 1 := by rw [htl50]; rfl
           have hdn := dayP_len f m24 (m27 + 1440) n
           rw [List.append_assoc] at hM
           exact fewer _ (ih22 _ (by omega) l50 (acc ++ (dayP f m24 (m27 + 1440) n)) p50 cc50 q2 cq2 _ (hs50) (hB50) hk hPn (by simp only [List.length_append]; omega) (hM.pick [0, 1, 3]) rfl)
         | true =>
          have rh47 := dt h47
          rw [List.append_assoc] at hM
          exact rt0 rfl f0 (hΦ _ _ (by rw [hP, timesT_end hti (more_short (by omega))]; exact ⟨rfl, _, _, _, _, hB27, hM.pick [2, 1]⟩))
       | true =>
        have rh44 := dt h44
        refine calM 17 7 87 [(80, vP rb 0), (83, vI ((((f + (i : Int)) % 7) * 1440) + m24)), (86, vI ((((f + (i : Int)) % 7) * 1440) + (m27 + 1440)))] (K := fun u Mn => u = .tuple #[] ∧ ∃ q2 c2, Mn = [bk rb #[vL p27 l27.length cc27, vI en, vL q2 ((ss ++ acc ++ dayP f m24 (m27 + 1440) i) ++ addL ((((f + (i : Int)) % 7) * 1440) + m24) ((((f + (i : Int)) % 7) * 1440) + (m27 + 1440))).length c2] 170, rw_ spL 2 141 (vL q2 ((ss ++ acc ++ dayP f m24 (m27 + 1440) i) ++ addL ((((f + (i : Int)) % 7) * 1440) + m24) ((((f + (i : Int)) % 7) * 1440) + (m27 + 1440))).length c2) ((ss ++ acc ++ dayP f m24 (m27 + 1440) i) ++ addL ((((f + (i : Int)) % 7) * 1440) + m24) ((((f + (i : Int)) % 7) * 1440) + (m27 + 1440)))]) [0] [2, 1] (fc (tadd f (i : Int) Tryz.underlying3) (fc (trem (f + (i : Int)) 7 Tryz.underlying3) (fc (tmul ((f + (i : Int)) % 7) 1440 Tryz.underlying3) (fc (tadd (((f + (i : Int)) % 7) * 1440) m24 Tryz.underlying3) (fc (tadd (((f + (i : Int)) % 7) * 1440) (m27 + 1440) Tryz.underlying3) f0))))) hM rfl rfl (by decide) (fun hm => add_calls (by omega) (by omega) (by have := dayP_len f m24 (m27 + 1440) i; simp only [List.length_append]; omega) hm) fun u Mn w1 hK hM => ?_
        obtain ⟨rfl, qa51, ca51, rfl⟩ := hK
        refine seg 14 0 [(72, vI ((i : Int) + 1))] (fc (tadd (i : Int) 1 Tryz.underlying3) f0) ?_
        have e9 : ((ss ++ acc ++ dayP f m24 (m27 + 1440) i) ++ addL ((((f + (i : Int)) % 7) * 1440) + m24) ((((f + (i : Int)) % 7) * 1440) + (m27 + 1440))) = ss ++ acc ++ dayP f m24 (m27 + 1440) (i + 1) := by rw [dayP_succ, tm7 hf0.1, ← List.append_assoc]
        rw [e9] at hM
        exact fewer _ (ih42 _ (by omega) (i + 1) qa51 ca51 _ (by omega) (hM.pick [0, 2, 1]) rfl)
      exact fewer _ (lp41 _ 0 q cq _ (Nat.zero_le _) (hM.cast (by simp only [show dayP f m24 (m27 + 1440) 0 = [] from rfl, List.append_nil])) rfl)
    | true =>
     have rh28 := et h28
     exact pan 10 3 [(59, prob 10 y27)] 165 (.agg #[vI 10, vI y27]) f0 hM (fun a f9 hd => pn_ (P := Tryz.prog) (fn := Tryz.f124) hd (hΦ _ _ ((by rw [hP, timesT_err (by unfold time; rw [hck24]; (try simp only); rw [htk26]; (try simp only); rw [hck27]; (try simp only); rw [if_pos h28])]; exact ⟨rfl, f9⟩))))
   exact fewer _ (lp21 _ l18 [] p18 cc18 q cq _ (hs18) (hB18) hk hP (by simp only [List.length_nil]; omega) (hM.cast (by simp only [List.append_nil])) rfl)
  | true =>
   rcases htk52 : take en 4 ([] : List Bys) l18 with ⟨c52, x52⟩ | ⟨t52, l52⟩
   · exfalso; obtain ⟨t9, l9, h9, _⟩ := take_any (en := en) h20; rw [h9] at htk52; cases htk52
   refine calM 4 3 29 [(28, vP rb 0)] (K := fun u Mn => u = vA (tkL t52) ∧ ∃ p' c', Behind B p18 cc18 l18 p' c' l52 ∧ Mn = [bk rb #[vL p' l52.length c', vI en, vL q ss.length cq] 170]) [0, 1, 3] [2] f0 hM rfl rfl (by decide) (fun hm => (take_calls (xs := ([] : List Bys)) hm (srcfw hs18 hM.fr hG) (fun k h => by rw [blM1 (b := rb) rfl h]; exact hrB) apt_nil 4).mono fun e w8 h => by unfold StepP at h; rw [htk52] at h; obtain ⟨h1, p', c', h2, h3⟩ := h; exact ⟨_, _, h1, ⟨rfl, p', c', h2, rfl⟩, h3⟩) fun u Mn w1 hK hM => ?_
   obtain ⟨rfl, p52, cc52, hb52, rfl⟩ := hK
   have hs52 := hb52 _ hs18
   have hB52 : Behind B p c ts p52 cc52 l52 := fun w1 h => hb52 w1 (hB18 w1 h)
   obtain ⟨hto52, hkd52, hk⟩ := take_tk hk htk52
   have hin52 := (take_ok htk52).2.2
   have htl52 : l18 = t52 :: l52 := (take_ok htk52).1
   rcases htk53 : take en 1 days l52 with ⟨c53, x53⟩ | ⟨t53, l53⟩
   · exact calE 5 5 35 [(30, vL (some ⟨bd, 0, none⟩) 7 7), (33, vP rb 0), (34, vL (some ⟨bd, 0, none⟩) 7 7)] [3] f0 hM rfl (by decide) (fun hm => (take_calls (xs := days) hm (srcfw hs52 hM.fr hG) (fun k h => by rw [blM1 (b := rb) rfl h]; exact hrB) (apt_of (hM.get 1 rfl) (hM.notin (i := 1) (js := [3]) rfl rfl (by decide)) fun w9 h => DaysAt.st h) 1).mono fun e w8 h => by unfold StepP at h; rw [htk53] at h; exact h) (fun a w9 f9 hd => pn_ (P := Tryz.prog) (fn := Tryz.f124) hd (hΦ _ _ ((by rw [part_er (by unfold dys; rw [htk18]; (try simp only); rw [if_pos h20, htl52]; simp only [List.drop_succ_cons, List.drop_zero]; rw [htk53]; (try simp only); (try rfl))]; exact ⟨rfl, f9⟩))))
   refine calM 5 5 35 [(30, vL (some ⟨bd, 0, none⟩) 7 7), (33, vP rb 0), (34, vL (some ⟨bd, 0, none⟩) 7 7)] (K := fun u Mn => u = vA (tkL t53) ∧ ∃ p' c', Behind B p52 cc52 l52 p' c' l53 ∧ Mn = [bk rb #[vL p' l53.length c', vI en, vL q ss.length cq] 170]) [0, 1, 2] [3] f0 hM rfl rfl (by decide) (fun hm => (take_calls (xs := days) hm (srcfw hs52 hM.fr hG) (fun k h => by rw [blM1 (b := rb) rfl h]; exact hrB) (apt_of (hM.get 1 rfl) (hM.notin (i := 1) (js := [3]) rfl rfl (by decide)) fun w9 h => DaysAt.st h) 1).mono fun e w8 h => by unfold StepP at h; rw [htk53] at h; obtain ⟨h1, p', c', h2, h3⟩ := h; exact ⟨_, _, h1, ⟨rfl, p', c', h2, rfl⟩, h3⟩) fun u Mn w1 hK hM => ?_
   obtain ⟨rfl, p53, cc53, hb53, rfl⟩ := hK
   have hs53 := hb53 _ hs52
   have hB53 : Behind B p c ts p53 cc53 l53 := fun w1 h => hb53 w1 (hB52 w1 h)
   obtain ⟨hto53, hkd53, hk⟩ := take_tk hk htk53
   have hin53 := (take_ok htk53).2.2
   have hid53 : t53.2.1 ∈ days := hin53.resolve_left (by decide)
   have hir53 := idx_rng hid53
   refine calm 5 7 37 [(36, vS t53.2.1)] f0 hM (index_calls (DaysAt.st (hM.get 1 rfl)) hid53) fun w1 hM => seg 6 0 [(4, vI (idx t53.2.1))] f0 ?_
   have hdy : dys en ts = .ok (((idx t18.2.1), (idx t53.2.1)), l53) := (by unfold dys; rw [htk18]; simp only; rw [if_pos h20, htl52]; simp only [List.drop_succ_cons, List.drop_zero]; rw [htk53])
   obtain ⟨f, hfe⟩ : ∃ f, f = (idx t18.2.1) := ⟨_, rfl⟩
   have hf0 : 0 ≤ f ∧ f < 7 := by rw [hfe]; omega
   rw [← hfe]
   rw [← hfe] at hdy
   obtain ⟨t, hte⟩ : ∃ t, t = (idx t53.2.1) := ⟨_, rfl⟩
   have ht0 : 0 ≤ t ∧ t < 7 := by rw [hte]; omega
   rw [← hte]
   rw [← hte] at hdy
   have hP := part_eq hdy
   have hlen0 : l53.length ≤ ts.length := by have := dys_len hdy; omega
   have hM : Mm G w _ [bk bd (days.map fun l => Value.string (ofL l)).toArray 9, rw_ spL 2 141 (vL q ss.length cq) ss, bk rb #[vL p53 l53.length cc53, vI en, vL q ss.length cq] 170] := (hM.pick [1, 0, 3])
   have lp54 : ∀ (m56 : Nat) (l : List (Tok Int)) (acc : List Sp) (pl : Option Addr) (cl : Nat) (q : Option Addr) (cq : Nat) (w2 : World), SrcB tkL 3 w B pl cl l → Behind B p c ts pl cl l → Tk l → part en ts = pre acc (timesT en f t l) → acc.length + 14 * l.length ≤ 14 * ts.length → Mm G w w2 [bk bd (days.map fun l => Value.string (ofL l)).toArray 9, rw_ spL 2 141 (vL q (ss ++ acc).length cq) (ss ++ acc), bk rb #[vL pl l.length cl, vI en, vL q (ss ++ acc).length cq] 170] → m56 = l.length → A124 Φ (some (6, 0)) [(4, vI t), (3, vI f), (0, vP rb 0)] w2 := by
    refine srec fun m56 ih55 l acc pl cl q cq w2 hs2 hB2 hk hP hal hM hm56 => ?_
    rcases hck57 : clock en 23 l with ⟨c57, x57⟩ | ⟨⟨m57, y57⟩, l57⟩
    · exact calE 6 1 40 [(39, vP rb 0)] [2] f0 hM rfl (by decide) (fun hm => (clock_calls (most := 23) hm (srcfw hs2 hM.fr hG) (fun k h => by rw [blM1 (b := rb) rfl h]; exact hrB) hk).mono fun e w8 h => by unfold StepP at h; rw [hck57] at h; exact h) (fun a w9 f9 hd => pn_ (P := Tryz.prog) (fn := Tryz.f124) hd (hΦ _ _ ((by rw [hP, timesT_err (by unfold time; rw [hck57]; (try simp only))]; exact ⟨rfl, f9⟩))))
    refine calM 6 1 40 [(39, vP rb 0)] (K := fun u Mn => u = .tuple #[vI m57, vI y57] ∧ ∃ p' c', Behind B pl cl l p' c' l57 ∧ Mn = [bk rb #[vL p' l57.length c', vI en, vL q (ss ++ acc).length cq] 170]) [0, 1] [2] f0 hM rfl rfl (by decide) (fun hm => (clock_calls (most := 23) hm (srcfw hs2 hM.fr hG) (fun k h => by rw [blM1 (b := rb) rfl h]; exact hrB) hk).mono fun e w8 h => by unfold StepP at h; rw [hck57] at h; obtain ⟨h1, p', c', h2, h3⟩ := h; exact ⟨_, _, h1, ⟨rfl, p', c', h2, rfl⟩, h3⟩) fun u Mn w1 hK hM => ?_
    obtain ⟨rfl, p57, cc57, hb57, rfl⟩ := hK
    have hs57 := hb57 _ hs2
    have hB57 : Behind B p c ts p57 cc57 l57 := fun w1 h => hb57 w1 (hB2 w1 h)
    obtain ⟨hm057, hm157, hm257, hk⟩ := clock_rng hk hck57
    refine newm 7 3 46 [(5, vI m57), (45, vP rb 0)] (cs := #[vS [45]]) (T := 9) (v := fun b => vL (some ⟨b, 0, none⟩) 1 1) f0 hM fun b58 w1 hM => ?_
    rcases htk59 : take en 4 [cDash] l57 with ⟨c59, x59⟩ | ⟨t59, l59⟩
    · exact calE 7 4 47 [] [2] f0 hM rfl (by decide) (fun hm => (take_calls (xs := [cDash]) hm (srcfw hs57 hM.fr hG) (fun k h => by rw [blM1 (b := rb) rfl h]; exact hrB) (apt_of (hM.get 3 rfl) (hM.notin (i := 3) (js := [2]) rfl rfl (by decide)) fun w9 h => StV.one h) 4).mono fun e w8 h => by unfold StepP at h; rw [htk59] at h; exact h) (fun a w9 f9 hd => pn_ (P := Tryz.prog) (fn := Tryz.f124) hd (hΦ _ _ ((by rw [hP, timesT_err (by unfold time; rw [hck57]; (try simp only); rw [htk59]; (try simp only))]; exact ⟨rfl, f9⟩))))
    refine calM 7 4 47 [] (K := fun u Mn => u = vA (tkL t59) ∧ ∃ p' c', Behind B p57 cc57 l57 p' c' l59 ∧ Mn = [bk rb #[vL p' l59.length c', vI en, vL q (ss ++ acc).length cq] 170]) [0, 1, 3] [2] f0 hM rfl rfl (by decide) (fun hm => (take_calls (xs := [cDash]) hm (srcfw hs57 hM.fr hG) (fun k h => by rw [blM1 (b := rb) rfl h]; exact hrB) (apt_of (hM.get 3 rfl) (hM.notin (i := 3) (js := [2]) rfl rfl (by decide)) fun w9 h => StV.one h) 4).mono fun e w8 h => by unfold StepP at h; rw [htk59] at h; obtain ⟨h1, p', c', h2, h3⟩ := h; exact ⟨_, _, h1, ⟨rfl, p', c', h2, rfl⟩, h3⟩) fun u Mn w1 hK hM => ?_
    obtain ⟨rfl, p59, cc59, hb59, rfl⟩ := hK
    have hs59 := hb59 _ hs57
    have hB59 : Behind B p c ts p59 cc59 l59 := fun w1 h => hb59 w1 (hB57 w1 h)
    obtain ⟨hto59, hkd59, hk⟩ := take_tk hk htk59
    have hin59 := (take_ok htk59).2.2
    rcases hck60 : clock en 24 l59 with ⟨c60, x60⟩ | ⟨⟨m60, y60⟩, l60⟩
    · exact calE 8 1 50 [(49, vP rb 0)] [3] f0 hM rfl (by decide) (fun hm => (clock_calls (most := 24) hm (srcfw hs59 hM.fr hG) (fun k h => by rw [blM1 (b := rb) rfl h]; exact hrB) hk).mono fun e w8 h => by unfold StepP at h; rw [hck60] at h; exact h) (fun a w9 f9 hd => pn_ (P := Tryz.prog) (fn := Tryz.f124) hd (hΦ _ _ ((by rw [hP, timesT_err (by unfold time; rw [hck57]; (try simp only); rw [htk59]; (try simp only); rw [hck60]; (try simp only))]; exact ⟨rfl, f9⟩))))
    refine calM 8 1 50 [(49, vP rb 0)] (K := fun u Mn => u = .tuple #[vI m60, vI y60] ∧ ∃ p' c', Behind B p59 cc59 l59 p' c' l60 ∧ Mn = [bk rb #[vL p' l60.length c', vI en, vL q (ss ++ acc).length cq] 170]) [0, 1, 2] [3] f0 hM rfl rfl (by decide) (fun hm => (clock_calls (most := 24) hm (srcfw hs59 hM.fr hG) (fun k h => by rw [blM1 (b := rb) rfl h]; exact hrB) hk).mono fun e w8 h => by unfold StepP at h; rw [hck60] at h; obtain ⟨h1, p', c', h2, h3⟩ := h; exact ⟨_, _, h1, ⟨rfl, p', c', h2, rfl⟩, h3⟩) fun u Mn w1 hK hM => ?_
    obtain ⟨rfl, p60, cc60, hb60, rfl⟩ := hK
    have hs60 := hb60 _ hs59
    have hB60 : Behind B p c ts p60 cc60 l60 := fun w1 h => hb60 w1 (hB59 w1 h)
    obtain ⟨hm060, hm160, hm260, hk⟩ := clock_rng hk hck60
    refine seg 9 4 [(7, vI m60), (8, vI y60), (53, vB (m57 == m60))] f0 ?_
    cases h61 : (m57 == m60) with
    | false =>
     have rh61 := ef h61
     refine seg 11 4 [(60, vB (decide (m60 < m57)))] f0 ?_
     cases h62 : (decide (m60 < m57)) with
     | false =>
      have rh62 := df h62
      refine seg 14 0 [(71, vI ((((t - f) + 7) % 7) + 1)), (72, vI 0)] (fc (tsub t f Tryz.underlying3) (fc (tadd (t - f) 7 Tryz.underlying3) (fc (trem ((t - f) + 7) 7 Tryz.underlying3) (fc (tadd (((t - f) + 7) % 7) 1 Tryz.underlying3) f0)))) ?_
      obtain ⟨n, hn⟩ : ∃ n : Nat, n = ((t - f + 7) % 7 + 1).toNat := ⟨_, rfl⟩
      have hnn : ((((t - f) + 7) % 7) + 1) = (n : Int) := by omega
      have hn7 : n ≤ 7 := by omega
      rw [hnn]
      have hM : Mm G w _ [bk bd (days.map fun l => Value.string (ofL l)).toArray 9, rw_ spL 2 141 (vL q (ss ++ acc).length cq) (ss ++ acc), bk rb #[vL p60 l60.length cc60, vI en, vL q (ss ++ acc).length cq] 170] := (hM.pick [0, 1, 3])
      have lp63 : ∀ (m65 : Nat) (i : Nat) (q2 : Option Addr) (cq2 : Nat) (w2 : World), i ≤ n → Mm G w w2 [bk bd (days.map fun l => Value.string (ofL l)).toArray 9, rw_ spL 2 141 (vL q2 (ss ++ acc ++ dayP f m57 m60 i).length cq2) (ss ++ acc ++ dayP f m57 m60 i), bk rb #[vL p60 l60.length cc60, vI en, vL q2 (ss ++ acc ++ dayP f m57 m60 i).length cq2] 170] → m65 = n - i → A124 Φ (some (14, 0)) [(72, vI (i : Int)), (71, vI (n : Int)), (7, vI m60), (5, vI m57), (4, vI t), (3, vI f), (0, vP rb 0)] w2 := by
       refine srec fun m65 ih64 i q2 cq2 w2 hi hM hm65 => seg 14 1 [(73, vB (decide ((i : Int) < (n : Int))))] f0 ?_
       cases h66 : (decide ((i : Int) < (n : Int))) with
       | false =>
        have rh66 := df h66
        have hti : time en f t l = .ok ((dayP f m57 m60 n), l60) := (by unfold time; rw [hck57]; simp only; rw [htk59]; simp only; rw [hck60]; simp only; rw [if_neg (by rw [h61]; simp), if_neg (of_decide_eq_false h62), day_n hf0.1 hf0.2 ht0.1 ht0.2, show (t - f + 7) % 7 + 1 = (n : Int) from hnn]; rfl)
        have hie : i = n := by omega
        rw [hie] at hM
        replace hM : Mm G w _ [bk bd (days.map fun l => Value.string (ofL l)).toArray 9, rw_ spL 2 141 (vL q2 (ss ++ acc ++ (dayP f m57 m60 n)).length cq2) (ss ++ acc ++ (dayP f m57 m60 n)), bk rb #[vL p60 l60.length cc60, vI en, vL q2 (ss ++ acc ++ (dayP f m57 m60 n)).length cq2] 170] := hM
        refine newm 19 3 92 [(91, vP rb 0)] (cs := #[vS [44]]) (T := 9) (v := fun b => vL (some ⟨b, 0, none⟩) 1 1) f0 hM fun b67 w1 hM => calm 19 4 93 [] f0 hM (sees_calls (xs := [cComma]) (hM.get 2 rfl) (srcfw hs60 hM.fr hG) (StV.one (hM.get 3 rfl)) 4) fun w1 hM => seg 19 7 [(95, vB (!(sees 4 [cComma] l60)))] f0 ?_
        cases h68 : (sees 4 [cComma] l60) with
        | false =>
         rw [List.append_assoc] at hM
         exact rt0 rfl f0 (hΦ _ _ (by rw [hP, timesT_end hti (more_see h68)]; exact ⟨rfl, _, _, _, _, hB60, hM.pick [2, 1]⟩))
        | true =>
         refine seg 19 16 [(104, vB (decide ((l60.length : Int) < 2)))] (fc (ldm 130 2 0 hM rfl rfl) f0) ?_
         cases h69 : (decide ((l60.length : Int) < 2)) with
         | false =>
          have rh69 := df h69
          obtain ⟨y70, hy70, g70, o70, q70, r70, n70⟩ := (hs60).eb hG (i := 1) (by omega)
          refine seg 19 26 [(114, vB (!(y70.1 == 2)))] (fc (ldm 130 2 0 hM rfl rfl) (fc (ix 130 cc60 q70 (gl hy70)) (fc (ld0 3 hM (r70 0 _ rfl) n70) f0))) ?_
          cases h71 : (y70.1 == 2) with
          | false =>
           have rh71 := ef h71
           rw [List.append_assoc] at hM
           exact rt0 rfl f0 (hΦ _ _ (by rw [hP, timesT_end hti ((by rw [more_at hy70, h71, Bool.and_false]))]; exact ⟨rfl, _, _, _, _, hB60, hM.pick [2, 1]⟩))
          | true =>
           have rh71 := et h71
           have hmo : more l60 = true := by rw [more_at hy70, h68, h71]; rfl
           rcases htk72 : take en 4 ([] : List Bys) l60 with ⟨c72, x72⟩ | ⟨t72, l72⟩
           · exfalso; obtain ⟨t9, l9, h9, _⟩ := take_any (en := en) h68; rw [h9] at htk72; cases htk72
           refine calM 20 3 118 [(117, vP rb 0)] (K := fun u Mn => u = vA (tkL t72) ∧ ∃ p' c', Behind B p60 cc60 l60 p' c' l72 ∧ Mn = [bk rb #[vL p' l72.length c', vI en, vL q2 (ss ++ acc ++ (dayP f m57 m60 n)).length cq2] 170]) [0, 1, 3] [2] f0 hM rfl rfl (by decide) (fun hm => (take_calls (xs := ([] : List Bys)) hm (srcfw hs60 hM.fr hG) (fun k h => by rw [blM1 (b := rb) rfl h]; exact hrB) apt_nil 4).mono fun e w8 h => by unfold StepP at h; rw [htk72] at h; obtain ⟨h1, p', c', h2, h3⟩ := h; exact ⟨_, _, h1, ⟨rfl, p', c', h2, rfl⟩, h3⟩) fun u Mn w1 hK hM => ?_
           obtain ⟨rfl, p72, cc72, hb72, rfl⟩ := hK
           have hs72 := hb72 _ hs60
           have hB72 : Behind B p c ts p72 cc72 l72 := fun w1 h => hb72 w1 (hB60 w1 h)
           obtain ⟨hto72, hkd72, hk⟩ := take_tk hk htk72
           have hin72 := (take_ok htk72).2.2
           have htl72 : l60 = t72 :: l72 := (take_ok htk72).1
           refine seg 6 0 [] f0 ?_
           have hPn : part en ts = pre (acc ++ (dayP f m57 m60 n)) (timesT en f t l72) := by rw [hP, timesT_more hti hmo, htl72]; rfl
           have hl9 := time_ok hti
           have hl8 : l60.length = l72.length + 1 := by rw [htl72]; rfl
           have hdn := dayP_len f m57 m60 n
           rw [List.append_assoc] at hM
           exact fewer _ (ih55 _ (by omega) l72 (acc ++ (dayP f m57 m60 n)) p72 cc72 q2 cq2 _ (hs72) (hB72) hk hPn (by simp only [List.length_append]; omega) (hM.pick [0, 1, 3]) rfl)
         | true =>
          have rh69 := dt h69
          rw [List.append_assoc] at hM
          exact rt0 rfl f0 (hΦ _ _ (by rw [hP, timesT_end hti (more_short (by omega))]; exact ⟨rfl, _, _, _, _, hB60, hM.pick [2, 1]⟩))
       | true =>
        have rh66 := dt h66
        refine calM 17 7 87 [(80, vP rb 0), (83, vI ((((f + (i : Int)) % 7) * 1440) + m57)), (86, vI ((((f + (i : Int)) % 7) * 1440) + m60))] (K := fun u Mn => u = .tuple #[] ∧ ∃ q2 c2, Mn = [bk rb #[vL p60 l60.length cc60, vI en, vL q2 ((ss ++ acc ++ dayP f m57 m60 i) ++ addL ((((f + (i : Int)) % 7) * 1440) + m57) ((((f + (i : Int)) % 7) * 1440) + m60)).length c2] 170, rw_ spL 2 141 (vL q2 ((ss ++ acc ++ dayP f m57 m60 i) ++ addL ((((f + (i : Int)) % 7) * 1440) + m57) ((((f + (i : Int)) % 7) * 1440) + m60)).length c2) ((ss ++ acc ++ dayP f m57 m60 i) ++ addL ((((f + (i : Int)) % 7) * 1440) + m57) ((((f + (i : Int)) % 7) * 1440) + m60))]) [0] [2, 1] (fc (tadd f (i : Int) Tryz.underlying3) (fc (trem (f + (i : Int)) 7 Tryz.underlying3) (fc (tmul ((f + (i : Int)) % 7) 1440 Tryz.underlying3) (fc (tadd (((f + (i : Int)) % 7) * 1440) m57 Tryz.underlying3) (fc (tadd (((f + (i : Int)) % 7) * 1440) m60 Tryz.underlying3) f0))))) hM rfl rfl (by decide) (fun hm => add_calls (by omega) (by omega) (by have := dayP_len f m57 m60 i; simp only [List.length_append]; omega) hm) fun u Mn w1 hK hM => ?_
        obtain ⟨rfl, qa73, ca73, rfl⟩ := hK
        refine seg 14 0 [(72, vI ((i : Int) + 1))] (fc (tadd (i : Int) 1 Tryz.underlying3) f0) ?_
        have e9 : ((ss ++ acc ++ dayP f m57 m60 i) ++ addL ((((f + (i : Int)) % 7) * 1440) + m57) ((((f + (i : Int)) % 7) * 1440) + m60)) = ss ++ acc ++ dayP f m57 m60 (i + 1) := by rw [dayP_succ, tm7 hf0.1, ← List.append_assoc]
        rw [e9] at hM
        exact fewer _ (ih64 _ (by omega) (i + 1) qa73 ca73 _ (by omega) (hM.pick [0, 2, 1]) rfl)
      exact fewer _ (lp63 _ 0 q cq _ (Nat.zero_le _) (hM.cast (by simp only [show dayP f m57 m60 0 = [] from rfl, List.append_nil])) rfl)
     | true =>
      have rh62 := dt h62
      refine seg 14 0 [(7, vI (m60 + 1440)), (71, vI ((((t - f) + 7) % 7) + 1)), (72, vI 0)] (fc (tadd m60 1440 Tryz.underlying3) (fc (tsub t f Tryz.underlying3) (fc (tadd (t - f) 7 Tryz.underlying3) (fc (trem ((t - f) + 7) 7 Tryz.underlying3) (fc (tadd (((t - f) + 7) % 7) 1 Tryz.underlying3) f0))))) ?_
      obtain ⟨n, hn⟩ : ∃ n : Nat, n = ((t - f + 7) % 7 + 1).toNat := ⟨_, rfl⟩
      have hnn : ((((t - f) + 7) % 7) + 1) = (n : Int) := by omega
      have hn7 : n ≤ 7 := by omega
      rw [hnn]
      have hM : Mm G w _ [bk bd (days.map fun l => Value.string (ofL l)).toArray 9, rw_ spL 2 141 (vL q (ss ++ acc).length cq) (ss ++ acc), bk rb #[vL p60 l60.length cc60, vI en, vL q (ss ++ acc).length cq] 170] := (hM.pick [0, 1, 3])
      have lp74 : ∀ (m76 : Nat) (i : Nat) (q2 : Option Addr) (cq2 : Nat) (w2 : World), i ≤ n → Mm G w w2 [bk bd (days.map fun l => Value.string (ofL l)).toArray 9, rw_ spL 2 141 (vL q2 (ss ++ acc ++ dayP f m57 (m60 + 1440) i).length cq2) (ss ++ acc ++ dayP f m57 (m60 + 1440) i), bk rb #[vL p60 l60.length cc60, vI en, vL q2 (ss ++ acc ++ dayP f m57 (m60 + 1440) i).length cq2] 170] → m76 = n - i → A124 Φ (some (14, 0)) [(72, vI (i : Int)), (71, vI (n : Int)), (7, vI (m60 + 1440)), (5, vI m57), (4, vI t), (3, vI f), (0, vP rb 0)] w2 := by
       refine srec fun m76 ih75 i q2 cq2 w2 hi hM hm76 => seg 14 1 [(73, vB (decide ((i : Int) < (n : Int))))] f0 ?_
       cases h77 : (decide ((i : Int) < (n : Int))) with
       | false =>
        have rh77 := df h77
        have hti : time en f t l = .ok ((dayP f m57 (m60 + 1440) n), l60) := (by unfold time; rw [hck57]; simp only; rw [htk59]; simp only; rw [hck60]; simp only; rw [if_neg (by rw [h61]; simp), if_pos (of_decide_eq_true h62), day_n hf0.1 hf0.2 ht0.1 ht0.2, show (t - f + 7) % 7 + 1 = (n : Int) from hnn]; rfl)
        have hie : i = n := by omega
        rw [hie] at hM
        replace hM : Mm G w _ [bk bd (days.map fun l => Value.string (ofL l)).toArray 9, rw_ spL 2 141 (vL q2 (ss ++ acc ++ (dayP f m57 (m60 + 1440) n)).length cq2) (ss ++ acc ++ (dayP f m57 (m60 + 1440) n)), bk rb #[vL p60 l60.length cc60, vI en, vL q2 (ss ++ acc ++ (dayP f m57 (m60 + 1440) n)).length cq2] 170] := hM
        refine newm 19 3 92 [(91, vP rb 0)] (cs := #[vS [44]]) (T := 9) (v := fun b => vL (some ⟨b, 0, none⟩) 1 1) f0 hM fun b78 w1 hM => calm 19 4 93 [] f0 hM (sees_calls (xs := [cComma]) (hM.get 2 rfl) (srcfw hs60 hM.fr hG) (StV.one (hM.get 3 rfl)) 4) fun w1 hM => seg 19 7 [(95, vB (!(sees 4 [cComma] l60)))] f0 ?_
        cases h79 : (sees 4 [cComma] l60) with
        | false =>
         rw [List.append_assoc] at hM
         exact rt0 rfl f0 (hΦ _ _ (by rw [hP, timesT_end hti (more_see h79)]; exact ⟨rfl, _, _, _, _, hB60, hM.pick [2, 1]⟩))
        | true =>
         refine seg 19 16 [(104, vB (decide ((l60.length : Int) < 2)))] (fc (ldm 130 2 0 hM rfl rfl) f0) ?_
         cases h80 : (decide ((l60.length : Int) < 2)) with
         | false =>
          have rh80 := df h80
          obtain ⟨y81, hy81, g81, o81, q81, r81, n81⟩ := (hs60).eb hG (i := 1) (by omega)
          refine seg 19 26 [(114, vB (!(y81.1 == 2)))] (fc (ldm 130 2 0 hM rfl rfl) (fc (ix 130 cc60 q81 (gl hy81)) (fc (ld0 3 hM (r81 0 _ rfl) n81) f0))) ?_
          cases h82 : (y81.1 == 2) with
          | false =>
           have rh82 := ef h82
           rw [List.append_assoc] at hM
           exact rt0 rfl f0 (hΦ _ _ (by rw [hP, timesT_end hti ((by rw [more_at hy81, h82, Bool.and_false]))]; exact ⟨rfl, _, _, _, _, hB60, hM.pick [2, 1]⟩))
          | true =>
           have rh82 := et h82
           have hmo : more l60 = true := by rw [more_at hy81, h79, h82]; rfl
           rcases htk83 : take en 4 ([] : List Bys) l60 with ⟨c83, x83⟩ | ⟨t83, l83⟩
           · exfalso; obtain ⟨t9, l9, h9, _⟩ := take_any (en := en) h79; rw [h9] at htk83; cases htk83
           refine calM 20 3 118 [(117, vP rb 0)] (K := fun u Mn => u = vA (tkL t83) ∧ ∃ p' c', Behind B p60 cc60 l60 p' c' l83 ∧ Mn = [bk rb #[vL p' l83.length c', vI en, vL q2 (ss ++ acc ++ (dayP f m57 (m60 + 1440) n)).length cq2] 170]) [0, 1, 3] [2] f0 hM rfl rfl (by decide) (fun hm => (take_calls (xs := ([] : List Bys)) hm (srcfw hs60 hM.fr hG) (fun k h => by rw [blM1 (b := rb) rfl h]; exact hrB) apt_nil 4).mono fun e w8 h => by unfold StepP at h; rw [htk83] at h; obtain ⟨h1, p', c', h2, h3⟩ := h; exact ⟨_, _, h1, ⟨rfl, p', c', h2, rfl⟩, h3⟩) fun u Mn w1 hK hM => ?_
           obtain ⟨rfl, p83, cc83, hb83, rfl⟩ := hK
           have hs83 := hb83 _ hs60
           have hB83 : Behind B p c ts p83 cc83 l83 := fun w1 h => hb83 w1 (hB60 w1 h)
           obtain ⟨hto83, hkd83, hk⟩ := take_tk hk htk83
           have hin83 := (take_ok htk83).2.2
           have htl83 : l60 = t83 :: l83 := (take_ok htk83).1
           refine seg 6 0 [] f0 ?_
           have hPn : part en ts = pre (acc ++ (dayP f m57 (m60 + 1440) n)) (timesT en f t l83) := by rw [hP, timesT_more hti hmo, htl83]; rfl
           have hl9 := time_ok hti
           have hl8 : l60.length = l83.length + 1 := by rw [htl83]; rfl
           have hdn := dayP_len f m57 (m60 + 1440) n
           rw [List.append_assoc] at hM
           exact fewer _ (ih55 _ (by omega) l83 (acc ++ (dayP f m57 (m60 + 1440) n)) p83 cc83 q2 cq2 _ (hs83) (hB83) hk hPn (by simp only [List.length_append]; omega) (hM.pick [0, 1, 3]) rfl)
         | true =>
          have rh80 := dt h80
          rw [List.append_assoc] at hM
          exact rt0 rfl f0 (hΦ _ _ (by rw [hP, timesT_end hti (more_short (by omega))]; exact ⟨rfl, _, _, _, _, hB60, hM.pick [2, 1]⟩))
       | true =>
        have rh77 := dt h77
        refine calM 17 7 87 [(80, vP rb 0), (83, vI ((((f + (i : Int)) % 7) * 1440) + m57)), (86, vI ((((f + (i : Int)) % 7) * 1440) + (m60 + 1440)))] (K := fun u Mn => u = .tuple #[] ∧ ∃ q2 c2, Mn = [bk rb #[vL p60 l60.length cc60, vI en, vL q2 ((ss ++ acc ++ dayP f m57 (m60 + 1440) i) ++ addL ((((f + (i : Int)) % 7) * 1440) + m57) ((((f + (i : Int)) % 7) * 1440) + (m60 + 1440))).length c2] 170, rw_ spL 2 141 (vL q2 ((ss ++ acc ++ dayP f m57 (m60 + 1440) i) ++ addL ((((f + (i : Int)) % 7) * 1440) + m57) ((((f + (i : Int)) % 7) * 1440) + (m60 + 1440))).length c2) ((ss ++ acc ++ dayP f m57 (m60 + 1440) i) ++ addL ((((f + (i : Int)) % 7) * 1440) + m57) ((((f + (i : Int)) % 7) * 1440) + (m60 + 1440)))]) [0] [2, 1] (fc (tadd f (i : Int) Tryz.underlying3) (fc (trem (f + (i : Int)) 7 Tryz.underlying3) (fc (tmul ((f + (i : Int)) % 7) 1440 Tryz.underlying3) (fc (tadd (((f + (i : Int)) % 7) * 1440) m57 Tryz.underlying3) (fc (tadd (((f + (i : Int)) % 7) * 1440) (m60 + 1440) Tryz.underlying3) f0))))) hM rfl rfl (by decide) (fun hm => add_calls (by omega) (by omega) (by have := dayP_len f m57 (m60 + 1440) i; simp only [List.length_append]; omega) hm) fun u Mn w1 hK hM => ?_
        obtain ⟨rfl, qa84, ca84, rfl⟩ := hK
        refine seg 14 0 [(72, vI ((i : Int) + 1))] (fc (tadd (i : Int) 1 Tryz.underlying3) f0) ?_
        have e9 : ((ss ++ acc ++ dayP f m57 (m60 + 1440) i) ++ addL ((((f + (i : Int)) % 7) * 1440) + m57) ((((f + (i : Int)) % 7) * 1440) + (m60 + 1440))) = ss ++ acc ++ dayP f m57 (m60 + 1440) (i + 1) := by rw [dayP_succ, tm7 hf0.1, ← List.append_assoc]
        rw [e9] at hM
        exact fewer _ (ih75 _ (by omega) (i + 1) qa84 ca84 _ (by omega) (hM.pick [0, 2, 1]) rfl)
      exact fewer _ (lp74 _ 0 q cq _ (Nat.zero_le _) (hM.cast (by simp only [show dayP f m57 (m60 + 1440) 0 = [] from rfl, List.append_nil])) rfl)
    | true =>
     have rh61 := et h61
     exact pan 10 3 [(59, prob 10 y60)] 165 (.agg #[vI 10, vI y60]) f0 hM (fun a f9 hd => pn_ (P := Tryz.prog) (fn := Tryz.f124) hd (hΦ _ _ ((by rw [hP, timesT_err (by unfold time; rw [hck57]; (try simp only); rw [htk59]; (try simp only); rw [hck60]; (try simp only); rw [if_pos h61])]; exact ⟨rfl, f9⟩))))
   exact fewer _ (lp54 _ l53 [] p53 cc53 q cq _ (hs53) (hB53) hk hP (by simp only [List.length_nil]; omega) (hM.cast (by simp only [List.append_nil])) rfl)
end Go.Proofs.YtbflfefahheidaaGreatDoor
/- The reader: a text. -/
set_option linter.unusedVariables false
set_option linter.unusedSimpArgs false
namespace Go.Proofs.YtbflfefahheidaaGreatDoor
open Go.RowKit Go.Pl
section
variable {α : Type} {en : α}
def partsT (en : α) (l : List (Tok α)) : Res α (List Sp × List (Tok α)) := parts en (l.length + 1) l
def cont (en : α) (acc : List Sp) (l : List (Tok α)) : Res α (List Sp × List (Tok α)) := if sees 4 [cComma] l = true then pre acc (partsT en (l.drop 1)) else .ok (acc, l)
theorem partsT_err {l : List (Tok α)} {e : Int × α} (h : part en l = .error e) : partsT en l = .error e := by
  unfold partsT parts; rw [h]
theorem partsT_ok {l l2 : List (Tok α)} {s : List Sp} (h : part en l = .ok (s, l2)) : partsT en l = cont en s l2 := by
  have hl := part_len h
  unfold partsT parts cont
  rw [h]
  simp only
  split
  · rename_i hs
    have hne : l2 ≠ [] := by rintro rfl; cases hs
    have hl2 : 0 < l2.length := List.length_pos_iff.2 hne
    unfold partsT
    rw [parts_fuel l.length ((l2.drop 1).length + 1) (l2.drop 1) (by simp; omega) (by simp)]
    cases parts en ((l2.drop 1).length + 1) (l2.drop 1) <;> rfl
  · rfl
theorem cont_err {acc : List Sp} {l : List (Tok α)} {e : Int × α} (hs : sees 4 [cComma] l = true) (h : part en (l.drop 1) = .error e) : cont en acc l = .error e := by
  unfold cont; rw [if_pos hs, partsT_err h]; rfl
theorem cont_ok {acc s : List Sp} {l l2 : List (Tok α)} (hs : sees 4 [cComma] l = true) (h : part en (l.drop 1) = .ok (s, l2)) : cont en acc l = cont en (acc ++ s) l2 := by
  unfold cont
  rw [if_pos hs, partsT_ok h]
  unfold cont
  split
  · cases partsT en (l2.drop 1) with
    | error e => rfl
    | ok r => simp [pre, List.append_assoc]
  · rfl
theorem cont_end {acc : List Sp} {l : List (Tok α)} (hs : sees 4 [cComma] l = false) : cont en acc l = .ok (acc, l) := by
  unfold cont; rw [if_neg (by rw [hs]; simp)]
def finS : Res α (List Sp × List (Tok α)) → Res α (List Sp × List (Tok α))
  | .error e => .error e
  | .ok (s, []) => .ok (s, [])
  | .ok (_, t :: _) => .error (5, t.2.2)
def textS (en : α) (ts : List (Tok α)) : Res α (List Sp × List (Tok α)) := finS (textQ en ts)
theorem textP_S (ts : List (Tok α)) : textP en ts = match textS en ts with | .error e => .error e | .ok (s, _) => .ok s := by
  unfold textP textS
  cases textQ en ts with
  | error e => rfl
  | ok r =>
    obtain ⟨s, l⟩ := r
    cases l <;> rfl
theorem textQ_parts {ts : List (Tok α)} (h1 : sees 1 [always] ts = false) (h2 : sees 1 [never] ts = false) : textQ en ts = partsT en ts := by
  unfold textQ; rw [h1, h2]; simp [partsT]
end
theorem var_fr {w w' : World} {F : Nat → Prop} {n : String} {cs : Array Value} {g : Nat} (hg : Tryz.prog.globalNamed n = some g) (h : w.var? Tryz.prog n = some cs) (f : Fr F w w') (hF : ¬ F g) : w'.var? Tryz.prog n = some cs := by
  unfold World.var? at h ⊢
  rw [hg] at h ⊢
  simp only [Option.bind_some] at h ⊢
  cases hb : w.heap[g]? with
  | none => rw [hb] at h; cases h
  | some ob => rw [f.obj hb hF, ← hb]; exact h
theorem Tb.fr {w w' : World} {F : Nat → Prop} (h : Tb w) (f : Fr F w w') (hF : ∀ r, r < 5 → ¬ F r) : Tb w' :=
  ⟨var_fr (g := 4) (by kernel_rfl) h.1 f (hF _ (by decide)), var_fr (g := 3) (by kernel_rfl) h.2 f (hF _ (by decide))⟩
theorem dayL_len {f n a b : Int} (h : n ≤ 7) : (dayL f n a b).length ≤ 14 := by
  have h6 := dayP_len f a b n.toNat
  have h7 : dayL f n a b = dayP f a b n.toNat := rfl
  rw [h7]; omega
theorem part_cnt {en : Int} {ts l : List (Tok Int)} {s : List Sp} (hk : Tk ts) (h : part en ts = .ok (s, l)) : s.length + 14 * l.length ≤ 14 * ts.length ∧ l.length < ts.length := by
  have ht : ∀ {f t : Int} {ts l : List (Tok Int)} {s : List Sp}, 0 ≤ f → f < 7 → 0 ≤ t → t < 7 → time en f t ts = .ok (s, l) → s.length + 14 * l.length ≤ 14 * ts.length := by
    intro f t ts l s h1 h2 h3 h4 h
    have hl := time_ok h
    have : s.length ≤ 14 := by
      unfold time at h
      split at h
      · cases h
      · split at h
        · cases h
        · split at h
          · cases h
          · split at h
            · cases h
            · cases h
              exact dayL_len (by rw [day_n h1 h2 h3 h4]; omega)
    omega
  have hts : ∀ {f t : Int}, 0 ≤ f → f < 7 → 0 ≤ t → t < 7 → ∀ (n : Nat) {ts l : List (Tok Int)} {s : List Sp}, times en f t n ts = .ok (s, l) → s.length + 14 * l.length ≤ 14 * ts.length := by
    intro f t h1 h2 h3 h4 n
    induction n with
    | zero => intro ts l s h; cases h
    | succ n ih =>
      intro ts l s h
      unfold times at h
      split at h
      · cases h
      · rename_i s1 ts1 he
        have := ht h1 h2 h3 h4 he
        split at h
        · split at h
          · cases h
          · rename_i s2 ts2 he2
            have h5 := ih he2
            cases h
            simp only [List.length_append, List.length_drop] at h5 ⊢
            omega
        · cases h; exact this
  refine ⟨?_, part_len h⟩
  unfold part at h
  split at h
  · cases h
  · rename_i a b ts1 he
    obtain ⟨h1, h2, h3, h4, _⟩ := dys_tk hk he
    have := dys_len he
    have := hts h1 h2 h3 h4 _ h
    omega
theorem Tb.lt {w : World} (h : Tb w) : 5 ≤ w.heap.size := by
  have h1 := h.1
  unfold Lib.TabIs World.var? at h1
  have hg : Tryz.prog.globalNamed "internal/strconv.uint64pow10" = some 4 := by kernel_rfl
  rw [hg] at h1
  simp only [Option.bind_some] at h1
  cases hb : w.heap[4]? with
  | none => rw [hb] at h1; cases h1
  | some ob => exact lt_of_blk hb
theorem _root_.Go.Pl.Mm.low {F0 : Nat → Prop} {w0 w : World} {M Ms : List Ent} (h : Mm F0 w0 w M) {B : Nat} (hG : ∀ k, F0 k → B ≤ k) (hB : B ≤ w0.heap.size) {js : List Nat} (hs : pickE M js = Ms) (hn : js.Nodup) : ∀ k, BlM Ms k → B ≤ k := fun k ⟨e, he, hb⟩ => by
  rcases Nat.lt_or_ge k w0.heap.size with h9 | h9
  · exact hG k ((h.pick js hs hn).own e he k hb h9)
  · omega
theorem finS_at {α : Type} {s : List Sp} {l : List (Tok α)} {t : Tok α} (h : l[0]? = some t) : finS (.ok (s, l)) = .error (5, t.2.2) := by
  cases l with
  | nil => cases h
  | cons a l => cases h; rfl
theorem finS_ok {α : Type} {s : List Sp} {l : List (Tok α)} (h : l = []) : finS (.ok (s, l)) = .ok (s, l) := by subst h; rfl
abbrev A95 (Φ : Ending → World → Prop) := AtO Tryz.prog (bodyOf Tryz.f95) (whole (bodyPost Tryz.prog Tryz.f95 Φ)) [] 54
theorem text_calls {w : World} {G : Nat → Prop} {B rb c cq : Nat} {p q : Option Addr} {en : Int} {ts : List (Tok Int)} {ss : List Sp} (hM0 : Mm G w w [bk rb #[vL p ts.length c, vI en, vL q ss.length cq] 170, rw_ spL 2 141 (vL q ss.length cq) ss]) (hs : SrcB tkL 3 w B p c ts) (hG : ∀ k, G k → B ≤ k) (hr4 : 5 ≤ B) (hk : Tk ts) (hT : Tb w) (hlen : ss.length + 14 * ts.length ≤ 100000000) : Calls Tryz.prog 95 #[vP rb 0] w fun e w' => StepO w G B rb en ss p c ts (textS en ts) e w' := by
  refine beg Tryz.func95 rfl rfl [(0, vP rb 0)] rfl rfl fun Φ hΦ => ?_
  have hM := hM0
  have hrB : B ≤ rb := hG rb (hM0.own _ (.head _) rb rfl (lt_of_blk (hM0.get 0 rfl)))
  have hB0 : Behind B p c ts p c ts := fun _ h => h
  have hBw : B ≤ w.heap.size := by have := lt_of_blk (hM0.get 0 rfl); omega
  refine newm 4 3 19 [(18, vP rb 0)] (cs := #[vS [97, 108, 119, 97, 121, 115]]) (T := 9) (v := fun b => vL (some ⟨b, 0, none⟩) 1 1) f0 hM fun b18 w1 hM => calm 4 4 20 [] f0 hM (sees_calls (xs := [always]) (hM.get 0 rfl) (srcfw hs hM.fr hG) (StV.one (hM.get 2 rfl)) 1) fun w1 hM => seg 4 6 [(15, vB (sees 1 [always] ts))] f0 ?_
  cases h19 : (sees 1 [always] ts) with
  | false =>
   refine newm 7 3 31 [(30, vP rb 0)] (cs := #[vS [110, 101, 118, 101, 114]]) (T := 9) (v := fun b => vL (some ⟨b, 0, none⟩) 1 1) f0 hM fun b20 w1 hM => calm 7 4 32 [] f0 hM (sees_calls (xs := [never]) (hM.get 0 rfl) (srcfw hs hM.fr hG) (StV.one (hM.get 3 rfl)) 1) fun w1 hM => seg 7 6 [(27, vB (sees 1 [never] ts))] f0 ?_
   cases h21 : (sees 1 [never] ts) with
   | false =>
    have hTn22 : Tb _ := hT.fr hM.fr fun k hk e => by have := hG k e; omega
    rcases hpt22 : part en ts with ⟨c22, x22⟩ | ⟨s22, l22⟩
    · exact calE 0 1 3 [(2, vP rb 0)] [0, 1] f0 hM rfl (by decide) (fun hm => (part_calls (ss := ss) hm (srcfw hs hM.fr hG) (hM.low hG hBw (js := [0, 1]) rfl (by decide)) hk hTn22 (by omega)).mono fun e w8 h => by unfold StepO at h; rw [hpt22] at h; exact h) (fun a w9 f9 hd => pn_ (P := Tryz.prog) (fn := Tryz.f95) hd (hΦ _ _ ((by unfold textS; rw [textQ_parts h19 h21, partsT_err hpt22]; exact ⟨rfl, f9⟩))))
    refine calM 0 1 3 [(2, vP rb 0)] (K := fun u Mn => u = .tuple #[] ∧ ∃ p' c' q' cq', Behind B p c ts p' c' l22 ∧ Mn = [bk rb #[vL p' l22.length c', vI en, vL q' (ss ++ s22).length cq'] 170, rw_ spL 2 141 (vL q' (ss ++ s22).length cq') (ss ++ s22)]) [2, 3] [0, 1] f0 hM rfl rfl (by decide) (fun hm => (part_calls (ss := ss) hm (srcfw hs hM.fr hG) (hM.low hG hBw (js := [0, 1]) rfl (by decide)) hk hTn22 (by omega)).mono fun e w8 h => by unfold StepO at h; rw [hpt22] at h; obtain ⟨h1, p', c', q', cq', h2, h3⟩ := h; exact ⟨_, _, h1, ⟨rfl, p', c', q', cq', h2, rfl⟩, h3⟩) fun u Mn w1 hK hM => ?_
    obtain ⟨rfl, p22, cc22, qa22, ca22, hb22, rfl⟩ := hK
    have hs22 := hb22 _ hs
    have hB22 : Behind B p c ts p22 cc22 l22 := fun w1 h => hb22 w1 (hB0 w1 h)
    have hpc22 := part_cnt hk hpt22
    have hk := (part_wk hk hpt22).2
    have hQ : textQ en ts = cont en s22 l22 := by rw [textQ_parts h19 h21, partsT_ok hpt22]
    have hM : Mm G w _ [rw_ spL 2 141 (vL qa22 (ss ++ s22).length ca22) (ss ++ s22), bk rb #[vL p22 l22.length cc22, vI en, vL qa22 (ss ++ s22).length ca22] 170] := (hM.pick [3, 2])
    refine seg 1 0 [] f0 ?_
    have lp23 : ∀ (m25 : Nat) (l : List (Tok Int)) (acc : List Sp) (pl : Option Addr) (cl : Nat) (q : Option Addr) (cq : Nat) (w2 : World), SrcB tkL 3 w B pl cl l → Behind B p c ts pl cl l → Tk l → textQ en ts = cont en acc l → acc.length + 14 * l.length ≤ 14 * ts.length → Mm G w w2 [rw_ spL 2 141 (vL q (ss ++ acc).length cq) (ss ++ acc), bk rb #[vL pl l.length cl, vI en, vL q (ss ++ acc).length cq] 170] → m25 = l.length → A95 Φ (some (1, 0)) [(0, vP rb 0)] w2 := by
     refine srec fun m25 ih24 l acc pl cl q cq w2 hs2 hB2 hk hQ hal hM hm25 => newm 1 3 7 [(6, vP rb 0)] (cs := #[vS [44]]) (T := 9) (v := fun b => vL (some ⟨b, 0, none⟩) 1 1) f0 hM fun b26 w1 hM => calm 1 4 8 [] f0 hM (sees_calls (xs := [cComma]) (hM.get 1 rfl) (srcfw hs2 hM.fr hG) (StV.one (hM.get 2 rfl)) 4) fun w1 hM => ?_
     cases h27 : (sees 4 [cComma] l) with
     | false =>
      have hQ9 : textQ en ts = .ok (acc, l) := by rw [hQ]; exact cont_end h27
      refine seg 9 7 [(43, vB (decide (0 < (l.length : Int))))] (fc (ldm 130 1 0 hM rfl rfl) f0) ?_
      cases h28 : (decide (0 < (l.length : Int))) with
      | false =>
       have rh28 := df h28
       have hnil : l = [] := List.eq_nil_of_length_eq_zero (by omega)
       exact rt0 rfl f0 (hΦ _ _ (by unfold textS; rw [hQ9, finS_ok hnil]; exact ⟨rfl, _, _, _, _, hB2, hM.pick [1, 0]⟩))
      | true =>
       have rh28 := dt h28
       obtain ⟨y29, hy29, g29, o29, q29, r29, n29⟩ := (hs2).eb hG (i := 0) (by omega)
       exact pan 10 10 [(53, prob 5 y29.2.2)] 165 (.agg #[vI 5, vI y29.2.2]) (fc (ldm 130 1 0 hM rfl rfl) (fc (ix 130 cl q29 (gl hy29)) (fc (ld0 3 hM (r29 2 _ rfl) n29) f0))) hM (fun a f9 hd => pn_ (P := Tryz.prog) (fn := Tryz.f95) hd (hΦ _ _ ((by unfold textS; rw [hQ9, finS_at hy29]; exact ⟨rfl, f9⟩))))
     | true =>
      rcases htk30 : take en 4 ([] : List Bys) l with ⟨c30, x30⟩ | ⟨t30, l30⟩
      · exfalso; obtain ⟨t9, l9, h9, _⟩ := take_any (en := en) h27; rw [h9] at htk30; cases htk30
      refine calM 2 3 12 [(11, vP rb 0)] (K := fun u Mn => u = vA (tkL t30) ∧ ∃ p' c', Behind B pl cl l p' c' l30 ∧ Mn = [bk rb #[vL p' l30.length c', vI en, vL q (ss ++ acc).length cq] 170]) [0, 2] [1] f0 hM rfl rfl (by decide) (fun hm => (take_calls (xs := ([] : List Bys)) hm (srcfw hs2 hM.fr hG) (fun k h => by rw [blM1 (b := rb) rfl h]; exact hrB) apt_nil 4).mono fun e w8 h => by unfold StepP at h; rw [htk30] at h; obtain ⟨h1, p', c', h2, h3⟩ := h; exact ⟨_, _, h1, ⟨rfl, p', c', h2, rfl⟩, h3⟩) fun u Mn w1 hK hM => ?_
      obtain ⟨rfl, p30, cc30, hb30, rfl⟩ := hK
      have hs30 := hb30 _ hs2
      have hB30 : Behind B p c ts p30 cc30 l30 := fun w1 h => hb30 w1 (hB2 w1 h)
      obtain ⟨hto30, hkd30, hk⟩ := take_tk hk htk30
      have hin30 := (take_ok htk30).2.2
      have htl30 : l = t30 :: l30 := (take_ok htk30).1
      have hl6 : l.length = l30.length + 1 := by rw [htl30]; rfl
      have hTn31 : Tb _ := hT.fr hM.fr fun k hk e => by have := hG k e; omega
      rcases hpt31 : part en l30 with ⟨c31, x31⟩ | ⟨s31, l31⟩
      · exact calE 3 1 14 [(13, vP rb 0)] [2, 0] f0 hM rfl (by decide) (fun hm => (part_calls (ss := (ss ++ acc)) hm (srcfw hs30 hM.fr hG) (hM.low hG hBw (js := [2, 0]) rfl (by decide)) hk hTn31 (by simp only [List.length_append]; omega)).mono fun e w8 h => by unfold StepO at h; rw [hpt31] at h; exact h) (fun a w9 f9 hd => pn_ (P := Tryz.prog) (fn := Tryz.f95) hd (hΦ _ _ ((by unfold textS; rw [hQ, cont_err h27 (by rw [htl30]; exact hpt31)]; exact ⟨rfl, f9⟩))))
      refine calM 3 1 14 [(13, vP rb 0)] (K := fun u Mn => u = .tuple #[] ∧ ∃ p' c' q' cq', Behind B p30 cc30 l30 p' c' l31 ∧ Mn = [bk rb #[vL p' l31.length c', vI en, vL q' ((ss ++ acc) ++ s31).length cq'] 170, rw_ spL 2 141 (vL q' ((ss ++ acc) ++ s31).length cq') ((ss ++ acc) ++ s31)]) [1] [2, 0] f0 hM rfl rfl (by decide) (fun hm => (part_calls (ss := (ss ++ acc)) hm (srcfw hs30 hM.fr hG) (hM.low hG hBw (js := [2, 0]) rfl (by decide)) hk hTn31 (by simp only [List.length_append]; omega)).mono fun e w8 h => by unfold StepO at h; rw [hpt31] at h; obtain ⟨h1, p', c', q', cq', h2, h3⟩ := h; exact ⟨_, _, h1, ⟨rfl, p', c', q', cq', h2, rfl⟩, h3⟩) fun u Mn w1 hK hM => ?_
      obtain ⟨rfl, p31, cc31, qa31, ca31, hb31, rfl⟩ := hK
      have hs31 := hb31 _ hs30
      have hB31 : Behind B p c ts p31 cc31 l31 := fun w1 h => hb31 w1 (hB30 w1 h)
      have hpc31 := part_cnt hk hpt31
      have hk := (part_wk hk hpt31).2
      refine seg 1 0 [] f0 ?_
      have hQn : textQ en ts = cont en (acc ++ s31) l31 := by rw [hQ]; exact cont_ok h27 (by rw [htl30]; exact hpt31)
      have hl7 : l.length = l30.length + 1 := by rw [htl30]; rfl
      rw [List.append_assoc ss acc] at hM
      exact fewer _ (ih24 _ (by omega) l31 (acc ++ s31) p31 cc31 qa31 ca31 _ (hs31) (hB31) hk hQn (by simp only [List.length_append]; omega) (hM.pick [2, 1]) rfl)
    exact fewer _ (lp23 _ l22 s22 p22 cc22 qa22 ca22 _ (hs22) (hB22) hk hQ (by omega) hM rfl)
   | true =>
    rcases htk32 : take en 1 ([] : List Bys) ts with ⟨c32, x32⟩ | ⟨t32, l32⟩
    · exfalso; obtain ⟨t9, l9, h9, _⟩ := take_any (en := en) h21; rw [h9] at htk32; cases htk32
    refine calM 8 3 36 [(35, vP rb 0)] (K := fun u Mn => u = vA (tkL t32) ∧ ∃ p' c', Behind B p c ts p' c' l32 ∧ Mn = [bk rb #[vL p' l32.length c', vI en, vL q ss.length cq] 170]) [1, 2, 3] [0] f0 hM rfl rfl (by decide) (fun hm => (take_calls (xs := ([] : List Bys)) hm (srcfw hs hM.fr hG) (fun k h => by rw [blM1 (b := rb) rfl h]; exact hrB) apt_nil 1).mono fun e w8 h => by unfold StepP at h; rw [htk32] at h; obtain ⟨h1, p', c', h2, h3⟩ := h; exact ⟨_, _, h1, ⟨rfl, p', c', h2, rfl⟩, h3⟩) fun u Mn w1 hK hM => ?_
    obtain ⟨rfl, p32, cc32, hb32, rfl⟩ := hK
    have hs32 := hb32 _ hs
    have hB32 : Behind B p c ts p32 cc32 l32 := fun w1 h => hb32 w1 (hB0 w1 h)
    obtain ⟨hto32, hkd32, hk⟩ := take_tk hk htk32
    have hin32 := (take_ok htk32).2.2
    have htl32 : ts = t32 :: l32 := (take_ok htk32).1
    have hQ9 : textQ en ts = .ok (([] : List Sp), l32) := by unfold textQ; rw [if_neg (by rw [h19]; simp), if_pos h21, htl32]; rfl
    refine seg 9 7 [(43, vB (decide (0 < (l32.length : Int))))] (fc (ldm 130 3 0 hM rfl rfl) f0) ?_
    cases h33 : (decide (0 < (l32.length : Int))) with
    | false =>
     have rh33 := df h33
     have hnil : l32 = [] := List.eq_nil_of_length_eq_zero (by omega)
     exact rt0 rfl f0 (hΦ _ _ (by unfold textS; rw [hQ9, finS_ok hnil]; exact ⟨rfl, _, _, _, _, hB32, (by rw [List.append_nil]; exact hM.pick [3, 0])⟩))
    | true =>
     have rh33 := dt h33
     obtain ⟨y34, hy34, g34, o34, q34, r34, n34⟩ := (hs32).eb hG (i := 0) (by omega)
     exact pan 10 10 [(53, prob 5 y34.2.2)] 165 (.agg #[vI 5, vI y34.2.2]) (fc (ldm 130 3 0 hM rfl rfl) (fc (ix 130 cc32 q34 (gl hy34)) (fc (ld0 3 hM (r34 2 _ rfl) n34) f0))) hM (fun a f9 hd => pn_ (P := Tryz.prog) (fn := Tryz.f95) hd (hΦ _ _ ((by unfold textS; rw [hQ9, finS_at hy34]; exact ⟨rfl, f9⟩))))
  | true =>
   rcases htk35 : take en 1 ([] : List Bys) ts with ⟨c35, x35⟩ | ⟨t35, l35⟩
   · exfalso; obtain ⟨t9, l9, h9, _⟩ := take_any (en := en) h19; rw [h9] at htk35; cases htk35
   refine calM 5 3 24 [(23, vP rb 0)] (K := fun u Mn => u = vA (tkL t35) ∧ ∃ p' c', Behind B p c ts p' c' l35 ∧ Mn = [bk rb #[vL p' l35.length c', vI en, vL q ss.length cq] 170]) [1, 2] [0] f0 hM rfl rfl (by decide) (fun hm => (take_calls (xs := ([] : List Bys)) hm (srcfw hs hM.fr hG) (fun k h => by rw [blM1 (b := rb) rfl h]; exact hrB) apt_nil 1).mono fun e w8 h => by unfold StepP at h; rw [htk35] at h; obtain ⟨h1, p', c', h2, h3⟩ := h; exact ⟨_, _, h1, ⟨rfl, p', c', h2, rfl⟩, h3⟩) fun u Mn w1 hK hM => ?_
   obtain ⟨rfl, p35, cc35, hb35, rfl⟩ := hK
   have hs35 := hb35 _ hs
   have hB35 : Behind B p c ts p35 cc35 l35 := fun w1 h => hb35 w1 (hB0 w1 h)
   obtain ⟨hto35, hkd35, hk⟩ := take_tk hk htk35
   have hin35 := (take_ok htk35).2.2
   have htl35 : ts = t35 :: l35 := (take_ok htk35).1
   refine calM 6 1 26 [(25, vP rb 0)] (K := fun u Mn => u = .tuple #[] ∧ ∃ q2 c2, Mn = [bk rb #[vL p35 l35.length cc35, vI en, vL q2 (ss ++ addL 0 10080).length c2] 170, rw_ spL 2 141 (vL q2 (ss ++ addL 0 10080).length c2) (ss ++ addL 0 10080)]) [1] [2, 0] f0 hM rfl rfl (by decide) (fun hm => add_calls (by omega) (by omega) (by omega) hm) fun u Mn w1 hK hM => ?_
   obtain ⟨rfl, qa36, ca36, rfl⟩ := hK
   have hQ9 : textQ en ts = .ok (addL 0 10080, l35) := by unfold textQ; rw [if_pos h19, htl35]; rfl
   refine seg 9 7 [(43, vB (decide (0 < (l35.length : Int))))] (fc (ldm 130 1 0 hM rfl rfl) f0) ?_
   cases h37 : (decide (0 < (l35.length : Int))) with
   | false =>
    have rh37 := df h37
    have hnil : l35 = [] := List.eq_nil_of_length_eq_zero (by omega)
    exact rt0 rfl f0 (hΦ _ _ (by unfold textS; rw [hQ9, finS_ok hnil]; exact ⟨rfl, _, _, _, _, hB35, hM.pick [1, 2]⟩))
   | true =>
    have rh37 := dt h37
    obtain ⟨y38, hy38, g38, o38, q38, r38, n38⟩ := (hs35).eb hG (i := 0) (by omega)
    exact pan 10 10 [(53, prob 5 y38.2.2)] 165 (.agg #[vI 5, vI y38.2.2]) (fc (ldm 130 1 0 hM rfl rfl) (fc (ix 130 cc35 q38 (gl hy38)) (fc (ld0 3 hM (r38 2 _ rfl) n38) f0))) hM (fun a f9 hd => pn_ (P := Tryz.prog) (fn := Tryz.f95) hd (hΦ _ _ ((by unfold textS; rw [hQ9, finS_at hy38]; exact ⟨rfl, f9⟩))))
end Go.Proofs.YtbflfefahheidaaGreatDoor
/- Parse. -/
set_option linter.unusedVariables false
set_option linter.unusedSimpArgs false
namespace Go.Proofs.YtbflfefahheidaaGreatDoor
open Go.RowKit Go.Pl
theorem text_cnt {en : Int} {ts l : List (Tok Int)} {s : List Sp} (hk : Tk ts) (h : textS en ts = .ok (s, l)) : s.length ≤ 2 * ts.length + 2 := by
  have ht : ∀ {f t : Int} {ts l : List (Tok Int)} {s : List Sp}, 0 ≤ f → f < 7 → 0 ≤ t → t < 7 → time en f t ts = .ok (s, l) → s.length + 2 * l.length ≤ 2 * ts.length := by
    intro f t ts l s h1 h2 h3 h4 h
    have hl := time_ok h
    have : s.length ≤ 14 := by
      unfold time at h
      split at h
      · cases h
      · split at h
        · cases h
        · split at h
          · cases h
          · split at h
            · cases h
            · cases h
              exact dayL_len (by rw [day_n h1 h2 h3 h4]; omega)
    omega
  have hts : ∀ {f t : Int}, 0 ≤ f → f < 7 → 0 ≤ t → t < 7 → ∀ (n : Nat) {ts l : List (Tok Int)} {s : List Sp}, times en f t n ts = .ok (s, l) → s.length + 2 * l.length ≤ 2 * ts.length := by
    intro f t h1 h2 h3 h4 n
    induction n with
    | zero => intro ts l s h; cases h
    | succ n ih =>
      intro ts l s h
      unfold times at h
      split at h
      · cases h
      · rename_i s1 ts1 he
        have := ht h1 h2 h3 h4 he
        split at h
        · split at h
          · cases h
          · rename_i s2 ts2 he2
            have h5 := ih he2
            cases h
            simp only [List.length_append, List.length_drop] at h5 ⊢
            omega
        · cases h; exact this
  have hp : ∀ {ts l : List (Tok Int)} {s : List Sp}, Tk ts → part en ts = .ok (s, l) → s.length + 2 * l.length ≤ 2 * ts.length := by
    intro ts l s hk h
    unfold part at h
    split at h
    · cases h
    · rename_i a b ts1 he
      obtain ⟨h1, h2, h3, h4, _⟩ := dys_tk hk he
      have := dys_len he
      have := hts h1 h2 h3 h4 _ h
      omega
  have hps : ∀ (n : Nat) {ts l : List (Tok Int)} {s : List Sp}, Tk ts → parts en n ts = .ok (s, l) → s.length + 2 * l.length ≤ 2 * ts.length := by
    intro n
    induction n with
    | zero => intro ts l s _ h; cases h
    | succ n ih =>
      intro ts l s hk h
      unfold parts at h
      split at h
      · cases h
      · rename_i s1 ts1 he
        have h1 := hp hk he
        have k1 := (part_wk hk he).2
        split at h
        · split at h
          · cases h
          · rename_i s2 ts2 he2
            have h5 := ih (k1.drop 1) he2
            cases h
            simp only [List.length_append, List.length_drop] at h5 ⊢
            omega
        · cases h; exact h1
  have hq : ∀ {l : List (Tok Int)} {s : List Sp}, textQ en ts = .ok (s, l) → s.length ≤ 2 * ts.length + 2 := by
    intro l s h
    unfold textQ at h
    split at h
    · cases h; unfold addL; split <;> simp
    · split at h
      · cases h; simp
      · have := hps _ hk h; omega
  unfold textS at h
  cases hqq : textQ en ts with
  | error e => rw [hqq] at h; cases h
  | ok r =>
    obtain ⟨s1, l1⟩ := r
    rw [hqq] at h
    have := hq hqq
    cases l1 with
    | nil => cases h; exact this
    | cons t l1 => cases h
theorem _root_.Go.Pl.Mm.fresh {w w' : World} {M : List Ent} {b : Nat} {cs : Array Value} {T : TypeId} (h : Mm (BlM M) w w' (M ++ [bk b cs T])) : w.heap.size ≤ b := by
  rcases Nat.lt_or_ge b w.heap.size with h1 | h1
  · obtain ⟨e, he, hb⟩ := h.own (bk b cs T) (List.mem_append_right _ (.head _)) b rfl h1
    exact absurd rfl ((List.pairwise_append.1 h.nd).2.2 e he (bk b cs T) (.head _) b hb)
  · exact h1
abbrev rest1 (fn : Func) : Code := match fn.body with | some (.seq _ y) => y | _ => .skip
theorem catch_go {w : World} {G : Nat → Prop} {b2 b3 b4 m k : Nat} {p : Option Addr} {e0 x0 c x : Int} {Q : Exit → Act → World → Prop} (hM0 : Mm G w w [bk b2 #[vL p m k] 48, bk b3 #[vI e0] 32, bk b4 #[vI x0] 3]) (hQ : ∀ a w', a.defers = [] → Mm G w w' [bk b2 #[vL none 0 0] 48, bk b3 #[vI c] 32, bk b4 #[vI x] 3] → Q .ret a w' ∧ Q .normal a w') : AtO Tryz.prog (rest1 Tryz.f94) (whole Q) [] 14 none [(0, vP b2 0), (1, vP b3 0), (2, vP b4 0), (3, prob c x)] w := by
  have hM := hM0
  refine opp 1 1 7 [(6, prob c x)] (v := vB true) f0 (opp 2 1 9 [(8, prob c x)] (v := .agg #[vI c, vI x]) f0 (varm 2 2 4 [] [] 165 (.agg #[vI c, vI x]) f0 hM fun b39 w1 hM => seg 3 0 [] f0 (drx [4, 5, 6] (fun γ => [none, none, none]) _ (fun γ l => [bk b2 #[(bif l.getD 0 false then vL none 0 0 else vL p m k)] 48, bk b3 #[(bif l.getD 1 false then vI c else vI e0)] 32, bk b4 #[(bif l.getD 2 false then vI x else vI x0)] 3, bk b39 #[vI c, vI x] 165]) (fun γ => []) hM (fun γ => rfl) (fun γ l w5 hM => (fc (ldm 32 3 0 hM rfl rfl) (fc (ldm 3 3 1 hM rfl rfl) f0))) ⟨ar_st 0 4 48 0 0 (fun γ => b2) (fun γ l => #[(bif l.getD 0 false then vL none 0 0 else vL p m k)]) 48 (fun γ => vL none 0 0), ar_st 1 5 32 1 0 (fun γ => b3) (fun γ l => #[(bif l.getD 1 false then vI c else vI e0)]) 32 (fun γ => vI c), ar_st 2 6 3 2 0 (fun γ => b4) (fun γ l => #[(bif l.getD 2 false then vI x else vI x0)]) 3 (fun γ => vI x), trivial⟩ fun γ40 w1 hM => ?_)))
  replace hM : Mm G w w1 [bk b2 #[vL none 0 0] 48, bk b3 #[vI c] 32, bk b4 #[vI x] 3, bk b39 #[vI c, vI x] 165] := hM
  exact fin_ [] f0 (by kernel_rfl) fun a E => hQ a _ E.df (hM.pick [0, 1, 2])
theorem catch_panic {w : World} {G : Nat → Prop} {b2 b3 b4 m k : Nat} {p : Option Addr} {e0 x0 : Int} (c x : Int) (hM0 : Mm G w w [bk b2 #[vL p m k] 48, bk b3 #[vI e0] 32, bk b4 #[vI x0] 3]) : CallsD Tryz.prog 94 #[vP b2 0, vP b3 0, vP b4 0] (.panicking (pn c x)) w fun e u w' => e = .returned (.tuple #[]) ∧ u = .panicking [{ v := prob c x, recovered := true }] ∧ Mm G w w' [bk b2 #[vL none 0 0] 48, bk b3 #[vI c] 32, bk b4 #[vI x] 3] := by
  refine callsD_of_wpS Tryz.func94 rfl fun c₀ cs hu => ?_
  apply wpS_seq
  apply wpS_region
  simp [wpOpsS, go_sem, recoverD, hu, Tryz.ntmps94, Exit.thenS]
  refine wpS_of_wp ((fun (H : ∀ a, EnvS [] 14 [(0, vP b2 0), (1, vP b3 0), (2, vP b4 0), (3, prob c x)] a → Code.wp Tryz.prog _ _ a w) => H _ ⟨by rfl, fun s v hs => by (have hz := look_mem hs; simp at hz; rcases hz with ⟨rfl, rfl⟩ | ⟨rfl, rfl⟩ | ⟨rfl, rfl⟩ | ⟨rfl, rfl⟩ <;> rfl), rfl⟩) fun a E => ?_)
  exact wpIn_wide.1 (catch_go (Q := _) hM0 (fun a w' hd h => by
    have hr : (results Tryz.f94 a.tmps).run Tryz.prog w' = .ok (.tuple #[]) w' := by simp [results, Tryz.results94]
    exact ⟨⟨hd, _, rfl, .tuple #[], hr, rfl, rfl, h⟩, ⟨hd, _, rfl, .tuple #[], hr, rfl, rfl, h⟩⟩) a E)
theorem catch_idle (b2 b3 b4 : Nat) (w : World) : CallsD Tryz.prog 94 #[vP b2 0, vP b3 0, vP b4 0] .returning w fun e u w' => e = .returned (.tuple #[]) ∧ u = .returning ∧ w' = w := by
  refine callsD_of_wpS Tryz.func94 rfl fun c₀ cs hu => ?_
  apply wpS_seq
  apply wpS_region
  simp [wpOpsS, go_sem, recoverD, hu, Tryz.ntmps94, Exit.thenS]
  apply wpS_seq
  apply wpS_region
  simp [wpOpsS, go_sem, Exit.thenS]
  refine wpS_cond (t := false) (by simp [Act.eval, Array.replicate]) ?_
  simp only [Bool.false_eq_true, if_false]
  refine wpS_of_wp (k_ ?_)
  cases c₀
  simp_all [bodyPostS, results, Tryz.results94]
/-- What Parse leaves. -/
def parseR (s : Bys) (w w' : World) (e : Ending) : Prop := match parseP s with
  | .error (c, x) => e = .returned (.tuple #[vL none 0 0, vI c, vI x])
  | .ok l => ∃ v, e = .returned (.tuple #[v, vI 0, vI 0]) ∧ NRow spL 2 141 w w' v l
theorem parse_calls {s : Bys} (hl : s.length ≤ 4900) {w : World} (hT : Tb w) : Calls Tryz.prog 58 #[vS s] w fun e w' => parseR s w w' e ∧ Fr (fun _ => False) w w' := by
  rcases hlx : lexP s with ⟨c, x⟩ | ts
  · rcases lexP_cases s with ⟨c9, x9, h9, hc8, -⟩ | ⟨h9, -⟩
    · rw [hlx] at h9
      have hc9 : c ≠ 0 := by cases h9; exact hc8
      clear h9 hc8 c9 x9
      refine begD Tryz.func58 rfl rfl [(0, vS s)] rfl rfl fun Φ hΦ => ?_
      have hM := Mm.nil (fun _ => False) w
      refine newm 0 0 2 [] (cs := #[vL none 0 0]) (T := 48) (v := fun b => vP b 0) f0 hM fun b41 w1 hM => newm 0 1 3 [] (cs := #[vI 0]) (T := 32) (v := fun b => vP b 0) f0 hM fun b42 w1 hM => newm 0 2 4 [] (cs := #[vI 0]) (T := 3) (v := fun b => vP b 0) f0 hM fun b43 w1 hM => calv 1 1 10 [(9, vS s)] (v := .tuple #[vL none 0 0, vI c, vI x]) (K := fun w8 => Fr (fun _ => False) _ w8) f0 ((lex_calls (s := s) (by omega) _).mono fun e w8 h => by unfold lexR at h; rw [hlx] at h; obtain ⟨⟨v, h1, h2⟩, h3⟩ := h; subst h2; exact ⟨h1, h3⟩) fun w1 f1 => ?_
      have hM := hM.q f1
      refine stm 1 8 [(13, vI x), (5, vL none 0 0), (6, vI c)] 3 2 0 (vI x) f0 hM rfl fun w1 hM => seg 2 2 [(15, vB (!(c == 0)))] f0 ?_
      cases h44 : (c == 0) with
      | false =>
       have rh44 := ef h44
       refine seg 3 0 [] f0 (drx [1, 2, 3, 4] (fun γ => [some (vI x), none, none, none]) _ (fun γ l => [bk b41 #[(bif l.getD 1 false then vL none 0 0 else vL none 0 0)] 48, bk b42 #[(bif l.getD 2 false then vI c else vI 0)] 32, bk b43 #[(bif l.getD 3 false then vI x else vI x)] 3]) (fun γ => []) hM (fun γ => rfl) (fun γ l w5 hM => f0) ⟨ar_ld 0 1 3 2 0 17 (fun γ => b43) (fun γ l => #[(bif l.getD 3 false then vI x else vI x)]) 3 (fun γ => vI x), ar_st 1 2 48 0 0 (fun γ => b41) (fun γ l => #[(bif l.getD 1 false then vL none 0 0 else vL none 0 0)]) 48 (fun γ => vL none 0 0), ar_st 2 3 32 1 0 (fun γ => b42) (fun γ l => #[(bif l.getD 2 false then vI c else vI 0)]) 32 (fun γ => vI c), ar_st 3 4 3 2 0 (fun γ => b43) (fun γ l => #[(bif l.getD 3 false then vI x else vI x)]) 3 (fun γ => vI x), trivial⟩ fun γ45 w1 hM => ?_)
       replace hM : Mm (fun _ => False) w w1 [bk b41 #[vL none 0 0] 48, bk b42 #[vI c] 32, bk b43 #[vI x] 3] := hM
       replace hM : Mm (fun _ => False) w _ [bk b41 #[vL none 0 0] 48, bk b42 #[vI c] 32, bk b43 #[vI x] 3] := hM
       exact rt3c0 0 1 2 rfl f0 hM rfl rfl rfl (hΦ _ _ ⟨by unfold parseR parseP; rw [hlx], hM.fr⟩)
      | true =>
       have rh44 := et h44
       exact absurd rh44 hc9
    · rw [hlx] at h9; cases h9
  · obtain ⟨-, -, hk, -, hlt⟩ := lexP_tk hlx
    refine begD Tryz.func58 rfl rfl [(0, vS s)] rfl rfl fun Φ hΦ => ?_
    have hM := Mm.nil (fun _ => False) w
    refine newm 0 0 2 [] (cs := #[vL none 0 0]) (T := 48) (v := fun b => vP b 0) f0 hM fun b46 w1 hM => newm 0 1 3 [] (cs := #[vI 0]) (T := 32) (v := fun b => vP b 0) f0 hM fun b47 w1 hM => newm 0 2 4 [] (cs := #[vI 0]) (T := 3) (v := fun b => vP b 0) f0 hM fun b48 w1 hM => cal 1 1 10 [(9, vS s)] (K := fun u w8 => ∃ v, u = .tuple #[v, vI 0, vI 0] ∧ NRow tkL 3 186 w1 w8 v ts ∧ Fr (fun _ => False) w1 w8) f0 ((lex_calls (s := s) (by omega) _).mono fun e w8 h => by unfold lexR at h; rw [hlx] at h; obtain ⟨⟨v, h1, h2⟩, h3⟩ := h; exact ⟨_, h1, v, rfl, h2, h3⟩) fun u w1 ⟨v, hu, hO, f1⟩ => ?_
    subst hu
    have hM := hM.add f1 (rw_ tkL 3 186 v ts) hO.1 hO.2
    obtain ⟨pt, ct, rfl, -⟩ := hO.op tkT.len
    refine stm 1 8 [(13, vI 0), (5, vL pt ts.length ct), (6, vI 0)] 3 2 0 (vI 0) f0 hM rfl fun w1 hM => dfr 4 1 [(18, .func (.func 94) #[] #[vP b46 0, vP b47 0, vP b48 0])] 94 #[vP b46 0, vP b47 0, vP b48 0] f0 ?_ rfl
    obtain ⟨B, hB⟩ : ∃ B, B = w1.heap.size := ⟨_, rfl⟩
    have hst : SrcB tkL 3 w1 B pt ct ts := by rw [hB]; obtain ⟨pt9, ct9, h9, h8⟩ := (hM.src (j := 3) rfl tkT.len).op; cases h9; exact h8.b (Fr.refl _ _)
    have hB5 : 5 ≤ B := by have := hM.fr.size; have := hT.lt; omega
    refine newmB 5 5 24 [(23, .agg #[vL pt ts.length ct, vI (s.length : Int), vL none 0 0])] (cs := #[vL pt ts.length ct, vI (s.length : Int), vL none 0 0]) (T := 170) (v := fun b => vP b 0) (fc (tlen 9 s) f0) hM fun b49 w1 f170 hrb hM => ?_
    have hrb := hB ▸ hrb
    have hst := srcfw hst f170 fun _ h => h.elim
    have hM := hM.row (f := spL) (c := 2) (E := 141)
    have hTn : Tb _ := hT.fr hM.fr fun _ _ h => h
    skip
    rcases hqt : textS (s.length : Int) ts with ⟨c, x⟩ | ⟨sp, l9⟩
    · refine calEM 6 1 26 [(7, vP b49 0), (25, vP b49 0)] (ch := pn c x) [0, 1, 2] [4, 5] f0 hM rfl rfl (by decide) (fun hm => (text_calls (ss := []) (en := (s.length : Int)) hm hst (fun k h => (blM2 rfl h).elim (fun h => by rw [h]; exact hrb) fun h => by cases h) hB5 hk hTn (by simp only [List.length_nil]; omega)).mono fun e w8 h => by unfold StepO at h; rw [hqt] at h; exact h) fun a w9 hM9 E => ?_
      refine pan3c (v2 := vL none 0 0) (v3 := vI c) (v4 := vI x) (ch' := [{ v := prob c x, recovered := true }]) (fun _ => by simp [go_sem]) rfl E rfl rfl rfl (by kernel_rfl) rfl ((catch_panic c x (hM9.re (G := BlM _) fun e he k hk => ⟨e, he, hk⟩)).mono ?_)
      rintro e u w8 ⟨rfl, rfl, h9⟩
      have hM8 := hM9.call (A := []) h9 fun _ _ h => h
      refine ⟨rfl, rfl, h9.get 0 rfl, h9.get 1 rfl, h9.get 2 rfl, hΦ _ _ ⟨?_, hM8.fr⟩⟩
      unfold parseR parseP; rw [hlx]; simp only; rw [textP_S, hqt]
    refine calM 6 1 26 [(7, vP b49 0), (25, vP b49 0)] (K := fun u Mn => u = .tuple #[] ∧ ∃ p' c' q' cq', Mn = [bk b49 #[vL p' l9.length c', vI (s.length : Int), vL q' sp.length cq'] 170, rw_ spL 2 141 (vL q' sp.length cq') sp]) [0, 1, 2, 3] [4, 5] f0 hM rfl rfl (by decide) (fun hm => (text_calls (ss := []) (en := (s.length : Int)) hm hst (fun k h => (blM2 rfl h).elim (fun h => by rw [h]; exact hrb) fun h => by cases h) hB5 hk hTn (by simp only [List.length_nil]; omega)).mono fun e w8 h => by unfold StepO at h; rw [hqt] at h; obtain ⟨h1, p', c', q', cq', h2, h3⟩ := h; exact ⟨_, _, h1, ⟨rfl, p', c', q', cq', rfl⟩, h3⟩) fun u Mn w1 hK hM => ?_
    obtain ⟨rfl, p9, c9, q9, cq9, rfl⟩ := hK
    have hcn := text_cnt hk hqt
    have hwk : wk sp := textP_wk hk (by rw [textP_S, hqt])
    refine calrow 7 4 31 [(30, vL q9 sp.length cq9)] (f := spL) (c := 2) (E := 141) (A := (canon sp)) (fc (ldm 48 4 2 hM rfl rfl) f0) hM (united_calls (hM.src (j := 5) rfl spT.len) hwk (by omega)) fun u w1 hM => ?_
    obtain ⟨qa50, ca50, eqa50, sqa50⟩ := (hM.src (j := 6) rfl spT.len).op
    subst eqa50
    refine stm 7 5 [] 48 0 0 (vL qa50 (canon sp).length ca50) f0 hM rfl fun w1 hM => seg 8 3 [(34, vB (decide (60 < ((canon sp).length : Int))))] (fc (ldm 48 0 0 hM rfl rfl) f0) ?_
    cases h51 : (decide (60 < ((canon sp).length : Int))) with
    | false =>
     have rh51 := df h51
     refine stm 10 1 [(37, vL qa50 (canon sp).length ca50)] 48 0 0 (vL qa50 (canon sp).length ca50) (fc (ldm 48 0 0 hM rfl rfl) f0) hM rfl fun w1 hM => stm 10 2 [] 32 1 0 (vI 0) f0 hM rfl fun w1 hM => stm 10 3 [] 3 2 0 (vI 0) f0 hM rfl fun w1 hM => ?_
     replace hM : Mm (fun _ => False) w _ [bk b46 #[vL qa50 (canon sp).length ca50] 48, bk b47 #[vI 0] 32, bk b48 #[vI 0] 3, rw_ tkL 3 186 (vL pt ts.length ct) ts, bk b49 #[vL p9 l9.length c9, vI (s.length : Int), vL q9 sp.length cq9] 170, rw_ spL 2 141 (vL q9 sp.length cq9) sp, rw_ spL 2 141 (vL qa50 (canon sp).length ca50) (canon sp)] := hM
     have hP : parseP s = .ok (canon sp) := by
       unfold parseP; rw [hlx]; simp only; rw [textP_S, hqt]; simp only
       rw [if_neg (by have := of_decide_eq_false h51; omega)]
     exact rt3cD (fun _ => by simp [go_sem]) 0 1 2 rfl (catch_idle _ _ _ _) f0 hM rfl rfl rfl (hΦ _ _ ⟨by unfold parseR; rw [hP]; exact ⟨_, rfl, hM.nrow (j := 6) rfl⟩, hM.fr⟩)
    | true =>
     have rh51 := dt h51
     refine stm 9 2 [(36, vI (s.length : Int))] 48 0 0 (vL none 0 0) (fc (tlen 9 s) f0) hM rfl fun w1 hM => stm 9 3 [] 32 1 0 (vI 2) f0 hM rfl fun w1 hM => stm 9 4 [] 3 2 0 (vI (s.length : Int)) f0 hM rfl fun w1 hM => ?_
     replace hM : Mm (fun _ => False) w _ [bk b46 #[vL none 0 0] 48, bk b47 #[vI 2] 32, bk b48 #[vI (s.length : Int)] 3, rw_ tkL 3 186 (vL pt ts.length ct) ts, bk b49 #[vL p9 l9.length c9, vI (s.length : Int), vL q9 sp.length cq9] 170, rw_ spL 2 141 (vL q9 sp.length cq9) sp, rw_ spL 2 141 (vL qa50 (canon sp).length ca50) (canon sp)] := hM
     have hP : parseP s = .error (2, (s.length : Int)) := by
       unfold parseP; rw [hlx]; simp only; rw [textP_S, hqt]; simp only
       rw [if_pos (by have := of_decide_eq_true h51; omega)]
     exact rt3cD (fun _ => by simp [go_sem]) 0 1 2 rfl (catch_idle _ _ _ _) f0 hM rfl rfl rfl (hΦ _ _ ⟨by unfold parseR; rw [hP], hM.fr⟩)
end Go.Proofs.YtbflfefahheidaaGreatDoor
/- Speeds. -/
set_option linter.unusedVariables false
set_option linter.unusedSimpArgs false
namespace Go.Proofs.YtbflfefahheidaaGreatDoor
open Go.RowKit Go.Pl
/-- The two error variables of strconv hold something. -/
def ErrV (w : World) (g : Nat) : Prop := ∃ ev, w.cell? ⟨g, 0, none⟩ = some ev ∧ (ev = .nilIface ∨ ∃ te pe, ev = .iface te pe)
structure Te (w : World) : Prop where
  tb : Tb w
  e0 : ErrV w 0
  e1 : ErrV w 1
theorem Te.fr {w w' : World} (h : Te w) (f : Fr (fun _ => False) w w') : Te w' :=
  ⟨h.tb.fr f fun _ _ h => h, let ⟨ev, h1, h2⟩ := h.e0; ⟨ev, f.cell h1 id, h2⟩, let ⟨ev, h1, h2⟩ := h.e1; ⟨ev, f.cell h1 id, h2⟩⟩
theorem ofL_dt (s : Bys) : (ofL s).data.toList = s := by unfold ofL; simp
/-- strconv.Atoi. -/
def atoiV (s : Bys) : Option Int := match Lib.atoiAll s with
  | .ok v => some v
  | _ => none
theorem atoi_calls {w : World} {s : Bys} (hs : s.length ≤ 281474976710656) (hT : Te w) : Calls Tryz.prog 97 #[vS s] w fun e w' => (∃ n ev, e = .returned (.tuple #[vI n, ev]) ∧ ((atoiV s = some n ∧ ev = .nilIface ∧ -9223372036854775808 ≤ n ∧ n ≤ 9223372036854775807) ∨ (atoiV s = none ∧ ∃ T v, ev = .iface T v))) ∧ Fr (fun _ => False) w w' := by
  have hsz : (ofL s).size = s.length := ofL_size s
  cases h : Lib.atoiAll s
  · rename_i v
    have h1 := h
    rw [← ofL_dt s] at h1
    refine (Go.Proofs.Any.strconv_Atoi_ok Tryz.laysC172 (ofL s) (by omega) v h1 w).mono ?_
    rintro e w' ⟨rfl, hw⟩
    obtain ⟨b1, b2⟩ := Lib.atoiAll_bounds h
    refine ⟨⟨v, .nilIface, rfl, .inl ⟨by unfold atoiV; rw [h], rfl, b1, b2⟩⟩, ?_⟩
    rcases hw with rfl | ⟨t, rfl⟩
    · exact Fr.refl _ _
    · exact bytesW_fr _ _ _
  · have h1 := h
    rw [← ofL_dt s] at h1
    obtain ⟨ev, hv, hev⟩ := hT.e0
    refine (Go.Proofs.Any.strconv_Atoi_syntax Tryz.laysC172 (ofL s) (by omega) h1 ev w hv hev).mono ?_
    rintro e w' ⟨N, rfl, _, _, hb⟩
    exact ⟨⟨_, _, rfl, .inr ⟨by unfold atoiV; rw [h], _, _, rfl⟩⟩, Fr.of_below hb⟩
  · have h1 := h
    rw [← ofL_dt s] at h1
    obtain ⟨ev, hv, hev⟩ := hT.e1
    refine (Go.Proofs.Any.strconv_Atoi_range Tryz.laysC172 (ofL s) (by omega) h1 ev w hv hev).mono ?_
    rintro e w' ⟨N, rfl, _, _, hb⟩
    exact ⟨⟨_, _, rfl, .inr ⟨by unfold atoiV; rw [h], _, _, rfl⟩⟩, Fr.of_below hb⟩
theorem Fr.grow_ (w : World) (k : Nat) (os : Array Obj) : Fr (fun _ => False) w (Go.Sort.grow (w.drewN k) os) :=
  ⟨rfl, rfl, rfl, by show _ ≤ (w.heap ++ os).size; simp, fun r hr _ => by show (w.heap ++ os)[r]? = _; rw [Array.getElem?_append_left hr]⟩
theorem itoa_calls {w : World} (n : Int) (h0 : -9223372036854775808 ≤ n) (h1 : n ≤ 9223372036854775807) (hT : Te w) : Calls Tryz.prog 98 #[vI n] w fun e w' => e = .returned (vS (Lib.itoa n)) ∧ Fr (fun _ => False) w w' :=
  (Tryz.strconv_Itoa n h0 h1 w hT.tb.1).mono fun e w' ⟨h2, k, os, h3⟩ => ⟨h2, h3 ▸ Fr.grow_ w k os⟩
/-- The speed that a tag says. -/
def speedP (s : Bys) : Int := match atoiV s with
  | some n => bif decide (n < 1) || decide (9999999 < n) || !(Lib.itoa n == s) then 100 else n
  | none => 100
theorem speed_calls {w : World} {s : Bys} (hs : s.length ≤ 281474976710656) (hT : Te w) : Calls Tryz.prog 59 #[vS s] w fun e w' => e = .returned (vI (speedP s)) ∧ Fr (fun _ => False) w w' := by
  cases hat : atoiV s with
  | none =>
    refine beg Tryz.func59 rfl rfl [(0, vS s)] rfl rfl fun Φ hΦ => ?_
    have hM := Mm.nil (fun _ => False) w
    refine cal 1 1 7 [(6, vS s)] (K := fun u w8 => ∃ n T v, u = .tuple #[vI n, .iface T v] ∧ Fr (fun _ => False) w w8) f0 ((atoi_calls hs (hT.fr hM.fr)).mono fun e w8 ⟨⟨n1, ev, h1, h2⟩, h3⟩ => by rcases h2 with ⟨h4, _⟩ | ⟨h4, T, v, rfl⟩ <;> rw [hat] at h4 <;> cases h4; exact ⟨_, h1, n1, T, v, rfl, h3⟩) fun u w1 ⟨n, T, v, hu, f1⟩ => ?_
    subst hu
    have hM := hM.q f1
    refine opp 2 1 11 [(3, vI n), (10, .iface T v)] (v := vB true) f0 (rt1 2 (vI 100) rfl f0 (hΦ _ _ ⟨by unfold speedP; rw [hat], hM.fr⟩))
  | some n =>
    refine beg Tryz.func59 rfl rfl [(0, vS s)] rfl rfl fun Φ hΦ => ?_
    have hM := Mm.nil (fun _ => False) w
    refine calv 1 1 7 [(6, vS s)] (v := .tuple #[vI n, .nilIface]) (K := fun w8 => Fr (fun _ => False) _ w8) f0 ((atoi_calls hs (hT.fr hM.fr)).mono fun e w8 ⟨⟨n1, ev, h1, h2⟩, h3⟩ => by rcases h2 with ⟨h4, rfl, _⟩ | ⟨h4, _⟩ <;> rw [hat] at h4 <;> cases h4; exact ⟨h1, h3⟩) fun w1 f1 => ?_
    have hM := hM.q f1
    refine opp 2 1 11 [(3, vI n), (10, .nilIface)] (v := vB false) f0 (seg 2 7 [(16, vB (decide (n < 1)))] f0 ?_)
    cases h78 : (decide (n < 1)) with
    | false =>
     have rh78 := df h78
     refine seg 2 11 [(20, vB (decide (9999999 < n)))] f0 ?_
     cases h79 : (decide (9999999 < n)) with
     | false =>
      have rh79 := df h79
      refine calm 2 12 22 [(21, vI n)] f0 hM (itoa_calls n (by omega) (by omega) (hT.fr hM.fr)) fun w1 hM => seg 2 16 [(25, vB (!((Lib.itoa n) == s)))] (fc (sne 9 (Lib.itoa n) s) f0) ?_
      cases h80 : ((Lib.itoa n) == s) with
      | false =>
       have rh80 := ef h80
       exact rt1 2 (vI 100) rfl f0 (hΦ _ _ ⟨by unfold speedP; rw [hat]; simp only [h78, h79, h80] <;> rfl, hM.fr⟩)
      | true =>
       have rh80 := et h80
       exact rt1 2 (vI n) rfl f0 (hΦ _ _ ⟨by unfold speedP; rw [hat]; simp only [h78, h79, h80] <;> rfl, hM.fr⟩)
     | true =>
      have rh79 := dt h79
      exact rt1 2 (vI 100) rfl f0 (hΦ _ _ ⟨by unfold speedP; rw [hat]; simp only [h78, h79] <;> rfl, hM.fr⟩)
    | true =>
     have rh78 := dt h78
     exact rt1 2 (vI 100) rfl f0 (hΦ _ _ ⟨by unfold speedP; rw [hat]; simp only [h78] <;> rfl, hM.fr⟩)
end Go.Proofs.YtbflfefahheidaaGreatDoor
/- A network of roads. -/
set_option linter.unusedVariables false
set_option linter.unusedSimpArgs false
namespace Go.Proofs.YtbflfefahheidaaGreatDoor
open Go.RowKit Go.Pl
/-! ### bags of rows -/
/-- Rows of one's own, as9 one entry. -/
def bagE {α : Type} (f : α → List Value) (c E : Nat) (L : List (Value × List α)) : Ent where
  B := fun k => ∃ x ∈ L, x.1.ownBlock = some k
  H := fun w => (∀ x ∈ L, ow f c E w 0 x.1 x.2) ∧ L.Pairwise fun x y => ∀ k, x.1.ownBlock = some k → y.1.ownBlock ≠ some k
  lt := fun h ⟨x, hx, hk⟩ => (rw_ f c E x.1 x.2).lt (h.1 x hx) hk
  fr := fun h k hd => ⟨fun x hx => (rw_ f c E x.1 x.2).fr (h.1 x hx) k fun b hb => hd b ⟨x, hx, hb⟩, h.2⟩
theorem bag_nil {α : Type} {f : α → List Value} {c E : Nat} {F0 : Nat → Prop} {w0 w : World} {M : List Ent} (h : Mm F0 w0 w M) : Mm F0 w0 w (M ++ [bagE f c E ([] : List (Value × List α))]) :=
  h.add (Fr.refl _ _) _ ⟨fun x hx => (by cases hx), .nil⟩ fun k ⟨x, hx, _⟩ => (by cases hx)
/-- A row goes into the bag. -/
theorem bag_in {α : Type} {f : α → List Value} {c E : Nat} {F0 : Nat → Prop} {w0 w : World} {A : List Ent} {L L' : List (Value × List α)} {v : Value} {r : List α} (h : Mm F0 w0 w (A ++ [bagE f c E L, rw_ f c E v r])) (hL : L'.Perm ((v, r) :: L)) : Mm F0 w0 w (A ++ [bagE f c E L']) := by
  have hb := h.at_ (bagE f c E L) (by simp)
  have hr := h.at_ (rw_ f c E v r) (by simp)
  have hnd := List.pairwise_append.1 h.nd
  have hmem : ∀ {k}, (bagE f c E L').B k → (bagE f c E L).B k ∨ (rw_ f c E v r).B k := fun ⟨x, hx, hk⟩ => by
    rcases List.mem_cons.1 (hL.mem_iff.1 hx) with rfl | hx
    · exact .inr hk
    · exact .inl ⟨x, hx, hk⟩
  have hdis : ∀ k, (bagE f c E L).B k → ¬ (rw_ f c E v r).B k := (List.pairwise_cons.1 hnd.2.1).1 _ (by simp)
  refine ⟨h.fr, fun x hx => ?_, fun x hx k hk hl => ?_, ?_⟩
  · rcases List.mem_append.1 hx with hx | hx
    · exact h.at_ x (List.mem_append_left _ hx)
    · rw [List.mem_singleton] at hx
      subst hx
      refine ⟨fun x hx => ?_, (hL.pairwise_iff (fun {x y} hxy k hy hx => hxy k hx hy)).2 (List.pairwise_cons.2 ⟨fun y hy k hk hy2 => hdis k ⟨y, hy, hy2⟩ hk, hb.2⟩)⟩
      rcases List.mem_cons.1 (hL.mem_iff.1 hx) with rfl | hx
      · exact hr
      · exact hb.1 x hx
  · rcases List.mem_append.1 hx with hx | hx
    · exact h.own x (List.mem_append_left _ hx) k hk hl
    · rw [List.mem_singleton] at hx
      subst hx
      rcases hmem hk with h1 | h1
      · exact h.own _ (by simp) k h1 hl
      · exact h.own (rw_ f c E v r) (by simp) k h1 hl
  · refine List.pairwise_append.2 ⟨hnd.1, List.pairwise_singleton _ _, fun x hx y hy k hxk hyk => ?_⟩
    rw [List.mem_singleton] at hy
    subst hy
    rcases hmem hyk with h1 | h1
    · exact hnd.2.2 x hx _ (by simp) k hxk h1
    · exact hnd.2.2 x hx (rw_ f c E v r) (by simp) k hxk h1
/-- A row comes out of the bag. -/
theorem bag_out {α : Type} {f : α → List Value} {c E : Nat} {F0 : Nat → Prop} {w0 w : World} {A : List Ent} {L L' : List (Value × List α)} {v : Value} {r : List α} (h : Mm F0 w0 w (A ++ [bagE f c E L'])) (hL : L'.Perm ((v, r) :: L)) : Mm F0 w0 w (A ++ [bagE f c E L, rw_ f c E v r]) := by
  have hb := h.at_ (bagE f c E L') (by simp)
  have hnd := List.pairwise_append.1 h.nd
  have hp := List.pairwise_cons.1 ((hL.pairwise_iff (fun {x y} hxy k hy hx => hxy k hx hy)).1 hb.2)
  have m1 : ∀ {k}, (bagE f c E L).B k → (bagE f c E L').B k := fun ⟨x, hx, hk⟩ => ⟨x, hL.mem_iff.2 (.tail _ hx), hk⟩
  have m2 : ∀ {k}, (rw_ f c E v r).B k → (bagE f c E L').B k := fun hk => ⟨(v, r), hL.mem_iff.2 (.head _), hk⟩
  refine ⟨h.fr, fun x hx => ?_, fun x hx k hk hl => ?_, ?_⟩
  · rcases List.mem_append.1 hx with hx | hx
    · exact h.at_ x (List.mem_append_left _ hx)
    · simp only [List.mem_cons, List.not_mem_nil, or_false] at hx
      rcases hx with rfl | rfl
      · exact ⟨fun x hx => hb.1 x (hL.mem_iff.2 (.tail _ hx)), hp.2⟩
      · exact hb.1 (v, r) (hL.mem_iff.2 (.head _))
  · rcases List.mem_append.1 hx with hx | hx
    · exact h.own x (List.mem_append_left _ hx) k hk hl
    · simp only [List.mem_cons, List.not_mem_nil, or_false] at hx
      rcases hx with rfl | rfl
      · exact h.own _ (by simp) k (m1 hk) hl
      · exact h.own (bagE f c E L') (by simp) k (m2 hk) hl
  · refine List.pairwise_append.2 ⟨hnd.1, List.pairwise_cons.2 ⟨fun y hy k hk hy2 => ?_, List.pairwise_singleton _ _⟩, fun x hx y hy k hxk hyk => ?_⟩
    · rw [List.mem_singleton] at hy
      subst hy
      obtain ⟨x, hx, hk⟩ := hk
      exact hp.1 x hx k hy2 hk
    · simp only [List.mem_cons, List.not_mem_nil, or_false] at hy
      rcases hy with rfl | rfl
      · exact hnd.2.2 x hx _ (by simp) k hxk (m1 hyk)
      · exact hnd.2.2 x hx (bagE f c E L') (by simp) k hxk (m2 hyk)
/-! ### indices of arcs by the nodes at which they begin -/
def inL (n : Int) : List Value := [vI n]
theorem inT : ElT Tryz.prog inL 1 29 3 := ⟨fun _ => rfl, by decide, fun x u hu => by
  unfold inL at hu
  rw [List.mem_singleton] at hu
  subst hu; rfl, Tryz.underlying29, elOK_info (by kernel_rfl)⟩
abbrev OutT := List (Bys × Value × List Int)
def outF (T : OutT) : Value → Option Value
  | .string s => (T.find? fun x => x.1 == s.toList).map (·.2.1)
  | _ => none
theorem outF_at (T : OutT) (s : Bys) : outF T (vS s) = (T.find? fun x => x.1 == s).map (·.2.1) := by
  show (T.find? fun x => x.1 == (ofL s).toList).map _ = _
  rw [ofL_toList]
def rowOf (T : OutT) (s : Bys) : List Int := match T.find? fun x => x.1 == s with
  | some x => x.2.2
  | none => []
def restT (T : OutT) (s : Bys) : OutT := T.filter fun x => !(x.1 == s)
theorem rest_find {T : OutT} {s t : Bys} (h : ¬ t = s) : (restT T s).find? (fun x => x.1 == t) = T.find? fun x => x.1 == t := by
  unfold restT
  rw [List.find?_filter]
  congr 1
  funext x
  by_cases e : x.1 = t
  · have h1 : (x.1 == t) = true := by simpa using e
    have h2 : (x.1 == s) = false := by simpa using fun e2 : x.1 = s => h (e.symm.trans e2)
    rw [h1, h2]; rfl
  · have h1 : (x.1 == t) = false := by simpa using e
    rw [h1]; simp
theorem outF_nil : outF [] = fun _ => none := by funext v; cases v <;> rfl
theorem outF_upd (T : OutT) (s : Bys) (v : Value) (r : List Int) : upd (outF T) (vS s) v = outF ((s, v, r) :: restT T s) := by
  funext z
  by_cases e : z = vS s
  · subst e; rw [upd_same, outF_at]; simp
  · rw [upd_other _ e]
    cases z with
    | string b =>
      have hne : ¬ b.toList = s := vS_ne e
      show (T.find? fun x => x.1 == b.toList).map _ = (List.find? _ ((s, v, r) :: restT T s)).map _
      rw [List.find?_cons, show (s == b.toList) = false by simpa using fun h : s = b.toList => hne h.symm]
      simp only
      rw [rest_find hne]
    | _ => rfl
theorem rowOf_cons (T : OutT) (s t : Bys) (v : Value) (r : List Int) : rowOf ((s, v, r) :: restT T s) t = bif s == t then r else rowOf T t := by
  unfold rowOf
  rw [List.find?_cons]
  cases h : s == t with
  | true => rfl
  | false =>
    simp only
    rw [rest_find (by simpa using fun e : t = s => (by simp [e] at h))]
    rfl
theorem rest_nodup {T : OutT} (h : (T.map (·.1)).Nodup) (s : Bys) (v : Value) (r : List Int) : (((s, v, r) :: restT T s).map (·.1)).Nodup := by
  rw [List.map_cons, List.nodup_cons]
  refine ⟨fun hm => ?_, ?_⟩
  · obtain ⟨x, hx, e⟩ := List.mem_map.1 hm
    have := (List.mem_filter.1 hx).2
    simp [e] at this
  · exact (List.Sublist.map _ List.filter_sublist).nodup h
theorem rest_perm : ∀ {T : OutT}, (T.map (·.1)).Nodup → ∀ {x : Bys × Value × List Int} {s : Bys}, T.find? (fun y => y.1 == s) = some x → x.1 = s ∧ T.Perm (x :: restT T s)
  | [], _, x, s, h => by cases h
  | y :: T, hn, x, s, h => by
    rw [List.map_cons, List.nodup_cons] at hn
    rw [List.find?_cons] at h
    cases hy : y.1 == s with
    | true =>
      rw [hy] at h
      cases h
      have hys : y.1 = s := by simpa using hy
      refine ⟨hys, ?_⟩
      have : restT (y :: T) s = T := by
        unfold restT
        rw [List.filter_cons, hy]
        simp only [Bool.not_true, Bool.false_eq_true, if_false]
        rw [List.filter_eq_self]
        intro z hz
        have : ¬ z.1 = s := fun e => hn.1 (by rw [hys, ← e]; exact List.mem_map.2 ⟨z, hz, rfl⟩)
        simpa using this
      rw [this]
    | false =>
      rw [hy] at h
      obtain ⟨h1, h2⟩ := rest_perm hn.2 h
      refine ⟨h1, ?_⟩
      have : restT (y :: T) s = y :: restT T s := by unfold restT; rw [List.filter_cons, hy]; rfl
      rw [this]
      exact (h2.cons y).trans (List.Perm.swap x y _)
theorem rest_none {T : OutT} {s : Bys} (h : T.find? (fun y => y.1 == s) = none) : restT T s = T := by
  unfold restT
  rw [List.filter_eq_self]
  intro z hz
  have := List.find?_eq_none.1 h z hz
  simpa using this
/-- A key's row comes out of the bag. -/
theorem out_take {F0 : Nat → Prop} {w0 w : World} {A : List Ent} {T : OutT} (s : Bys) (hn : (T.map (·.1)).Nodup) (h : Mm F0 w0 w (A ++ [bagE inL 1 3 (T.map (·.2))])) : ∃ v r, (outF T (vS s)).getD (vL none 0 0) = v ∧ r = rowOf T s ∧ Mm F0 w0 w (A ++ [bagE inL 1 3 ((restT T s).map (·.2)), rw_ inL 1 3 v r]) := by
  rw [outF_at]
  unfold rowOf
  cases hf : T.find? (fun y => y.1 == s) with
  | none =>
    refine ⟨vL none 0 0, [], rfl, rfl, ?_⟩
    rw [rest_none hf]
    have := h.row (f := inL) (c := 1) (E := 3)
    rwa [List.append_assoc] at this
  | some x =>
    obtain ⟨h1, h2⟩ := rest_perm hn hf
    exact ⟨x.2.1, x.2.2, rfl, rfl, bag_out h (h2.map (·.2))⟩
/-- The indices of the arcs that begin at a node. -/
def idxs (l : List Arc) (s : Bys) : List Int := (l.zipIdx.filter fun x => x.1.1 == s).map fun x => (x.2 : Int)
theorem idxs_snoc (l : List Arc) (a : Arc) (s : Bys) : idxs (l ++ [a]) s = bif a.1 == s then idxs l s ++ [(l.length : Int)] else idxs l s := by
  unfold idxs
  rw [List.zipIdx_append, List.filter_append, List.map_append]
  cases h : a.1 == s <;> simp [h]
theorem out_step {T : OutT} {l : List Arc} {a : Arc} {i : Nat} {v : Value} (hT : ∀ s, rowOf T s = idxs (l.take i) s) (ha : l[i]? = some a) : ∀ s, rowOf ((a.1, v, rowOf T a.1 ++ [(i : Int)]) :: restT T a.1) s = idxs (l.take (i + 1)) s := by
  intro s
  rw [rowOf_cons, gt_ ha, idxs_snoc, List.length_take, Nat.min_eq_left (Nat.le_of_lt (gl ha)), hT, hT]
  cases h : a.1 == s with
  | true =>
    have : a.1 = s := by simpa using h
    rw [this]
  | false => rfl
/-! ### roads -/
structure Road where
  closed : Bool
  oneway : Bool
  limited : Bool
  speed : Int
  hours : List Sp
  refs : List Bys
def foot : Bys := [102, 111, 111, 116]
def hoursT (o : Ob) : Except (Int × Int) (List Sp) := parseP (getT o.tags [104, 111, 117, 114, 115]).1
def hoursL (o : Ob) : List Sp := match hoursT o with
  | .ok l => l
  | .error _ => []
def hoursB (o : Ob) : Bool := match hoursT o with
  | .ok _ => true
  | .error _ => false
def roadO (prof : Bys) (o : Ob) : Road :=
  { closed := (getT o.tags prof).1 == [110, 111]
    oneway := ((getT o.tags [111, 110, 101, 119, 97, 121]).1 == [121, 101, 115]) && !(prof == foot)
    limited := (getT o.tags [104, 111, 117, 114, 115]).2 && hoursB o
    speed := speedP (getT o.tags [115, 112, 101, 101, 100]).1
    hours := hoursL o
    refs := o.refs }
abbrev roadV (prof : Bys) (b : ObR) (hv : Value) : Value := .agg #[vB (roadO prof b.o).closed, vB (roadO prof b.o).oneway, vB (roadO prof b.o).limited, vI (roadO prof b.o).speed, hv, rfV b]
abbrev RdT := List (ObR × Value)
def rdF (prof : Bys) (T : RdT) : Value → Option Value
  | .string s => (T.find? fun x => x.1.o.id == s.toList).map fun x => roadV prof x.1 x.2
  | _ => none
theorem rdF_at (prof : Bys) (T : RdT) (s : Bys) : rdF prof T (vS s) = (T.find? fun x => x.1.o.id == s).map fun x => roadV prof x.1 x.2 := by
  show (T.find? fun x => x.1.o.id == (ofL s).toList).map _ = _
  rw [ofL_toList]
theorem rdF_nil (prof : Bys) : rdF prof [] = fun _ => none := by funext v; cases v <;> rfl
theorem rdF_upd (prof : Bys) (T : RdT) (b : ObR) (hv : Value) : upd (rdF prof T) (vS b.o.id) (roadV prof b hv) = rdF prof ((b, hv) :: T) := by
  funext z
  by_cases e : z = vS b.o.id
  · subst e; rw [upd_same, rdF_at]; simp
  · rw [upd_other _ e]
    cases z with
    | string s =>
      have hne : ¬ s.toList = b.o.id := vS_ne e
      show (T.find? _).map _ = (List.find? _ ((b, hv) :: T)).map _
      rw [List.find?_cons, show (b.o.id == s.toList) = false by simpa using fun h : b.o.id = s.toList => hne h.symm]
    | _ => rfl
/-- The hours' rows. -/
def hrB (T : RdT) : List (Value × List Sp) := T.map fun x => (x.2, hoursL x.1.o)
/-- The ways, the last first. -/
def waysR (os : List ObR) : List ObR := (os.filter fun b => b.o.kind == 2).reverse
theorem waysR_yes {os : List ObR} {b : ObR} (h : (b.o.kind == 2) = true) : waysR (os ++ [b]) = b :: waysR os := by unfold waysR; rw [List.filter_append]; simp [h]
theorem waysR_no {os : List ObR} {b : ObR} (h : (b.o.kind == 2) = false) : waysR (os ++ [b]) = waysR os := by unfold waysR; rw [List.filter_append]; simp [h]
/-! ### turns -/
abbrev Tri := Bys × Bys × Bys
abbrev triV (t : Tri) : Value := .agg #[vS t.1, vS t.2.1, vS t.2.2]
open Classical in
noncomputable def setT (S : List Tri) : Value → Option Value := fun v => if ∃ a ∈ S, v = triV a then some (vB true) else none
theorem triV_inj {a b : Tri} (h : triV a = triV b) : a = b := by
  obtain ⟨a1, a2, a3⟩ := a
  obtain ⟨b1, b2, b3⟩ := b
  have h : Value.agg #[vS a1, vS a2, vS a3] = .agg #[vS b1, vS b2, vS b3] := h
  simp only [Value.agg.injEq, Array.mk.injEq, List.cons.injEq, and_true] at h
  obtain ⟨h1, h2, h3⟩ := h
  rw [vS_inj h1, vS_inj h2, vS_inj h3]
theorem setT_look (S : List Tri) (x : Tri) : ((setT S) (triV x)).getD (vB false) = vB (S.contains x) := by
  unfold setT
  by_cases h : x ∈ S
  · rw [if_pos ⟨x, h, rfl⟩, show S.contains x = true by simpa using h]; rfl
  · rw [if_neg (fun ⟨a, ha, e⟩ => h (by rw [triV_inj e]; exact ha)), show S.contains x = false by simpa using h]; rfl
theorem setT_upd (S : List Tri) (x : Tri) : upd (setT S) (triV x) (vB true) = setT (S ++ [x]) := by
  funext v
  unfold setT
  by_cases e : v = triV x
  · subst e; rw [upd_same, if_pos ⟨x, by simp, rfl⟩]
  · rw [upd_other _ e]
    by_cases h : ∃ a ∈ S, v = triV a
    · obtain ⟨a, ha, rfl⟩ := h
      rw [if_pos ⟨a, ha, rfl⟩, if_pos ⟨a, List.mem_append_left _ ha, rfl⟩]
    · rw [if_neg h, if_neg]
      rintro ⟨a, ha, rfl⟩
      rw [List.mem_append, List.mem_singleton] at ha
      rcases ha with ha | rfl
      · exact h ⟨a, ha, rfl⟩
      · exact e rfl
theorem setT_nil : setT [] = fun _ => none := by funext v; unfold setT; rw [if_neg (by rintro ⟨a, ha, -⟩; cases ha)]
def triO (o : Ob) : Tri := (o.refs.getD 0 [], o.refs.getD 1 [], o.refs.getD 2 [])
/-- The turns that are not allowed. -/
def bans (prof : Bys) (os : List ObR) : List Tri := bif prof == foot then [] else (os.filter fun b => b.o.kind == 5).map fun b => triO b.o
theorem bans_snoc (prof : Bys) (os : List ObR) (b : ObR) : bans prof (os ++ [b]) = bif !(prof == foot) && (b.o.kind == 5) then bans prof os ++ [triO b.o] else bans prof os := by
  unfold bans
  rw [List.filter_append, List.map_append]
  cases h1 : prof == foot <;> cases h2 : b.o.kind == 5 <;> simp [h2]
theorem law114 : Maps.Keyed Tryz.prog 114 := Maps.Keyed.of_law (deep_law (m := 2) (by decide) (by kernel_rfl) (by kernel_rfl) (by kernel_rfl))
theorem key114 {a : Tri} (h1 : B63 a.1) (h2 : B63 a.2.1) (h3 : B63 a.2.2) : ∃ l, keyOf Tryz.prog 114 (triV a) = some l := by
  obtain ⟨m, hm⟩ := tsz
  unfold keyOf
  rw [Tryz.underlying114]
  simp only
  rw [if_pos (by kernel_rfl), hm]
  refine ⟨.string (keyBytes [.string (ofL a.1).data.toList, .string (ofL a.2.1).data.toList, .string (ofL a.2.2).data.toList]), ?_⟩
  have hk : Tryz.prog.keyLits (m + 1 + 1) 114 [vS a.1, vS a.2.1, vS a.2.2] = some [.string (ofL a.1).data.toList, .string (ofL a.2.1).data.toList, .string (ofL a.2.2).data.toList] := by
    unfold Program.keyLits
    simp only [Tryz.underlying114]
    rw [if_pos (by kernel_rfl)]
    simp [List.range_succ, co9, kl9 h1, kl9 h2, kl9 h3]
  show (Tryz.prog.keyLits (m + 1 + 1) 114 [vS a.1, vS a.2.1, vS a.2.2]).map _ = _
  rw [hk]; rfl
theorem nub_mem {l : List Arc} {a : Arc} (h : a ∈ nubA l) : a ∈ l := by
  have key : ∀ (l r : List Arc), a ∈ l.foldl (fun r a => bif r.contains a then r else r ++ [a]) r → a ∈ r ∨ a ∈ l := by
    intro l
    induction l with
    | nil => intro r h; exact .inl h
    | cons b l ih =>
      intro r h
      rw [List.foldl_cons] at h
      rcases ih _ h with h | h
      · cases hb : r.contains b with
        | true => rw [hb] at h; exact .inl h
        | false =>
          rw [hb] at h
          rcases List.mem_append.1 h with h | h
          · exact .inl h
          · rw [List.mem_singleton] at h; exact .inr (h ▸ .head _)
      · exact .inr (.tail _ h)
  rcases key l [] h with h | h
  · cases h
  · exact h
theorem idxs_len (l : List Arc) (s : Bys) : (idxs l s).length ≤ l.length := by
  unfold idxs
  rw [List.length_map]
  exact Nat.le_trans (List.length_filter_le _ _) (by rw [List.length_zipIdx]; exact Nat.le_refl _)
theorem zero29 (w : World) : (zeroValue 29).run Tryz.prog w = .ok (vL none 0 0) w := by kernel_rfl
abbrev AS (os : List ObR) : List Arc := nubA (arcsP os)
theorem bans_nil (prof : Bys) : bans prof [] = [] := by unfold bans; cases prof == foot <;> rfl
theorem arr3 {w : World} {p : Option Addr} {cap : Nat} {a b c : Bys} (h : SrcP stL 1 w p cap [a, b, c]) : ∃ g off, p = some ⟨g, off, none⟩ ∧ w.rangeAt g off [vS a, vS b, vS c] := by
  rcases h.at_ with h | ⟨g, off, h1, h2, h3⟩
  · cases h
  · refine ⟨g, off, h1, fun j u hu => ?_⟩
    have h0 := h3 0 a rfl 0 (vS a) rfl
    have h1 := h3 1 b rfl 0 (vS b) rfl
    have h2 := h3 2 c rfl 0 (vS c) rfl
    match j, hu with
    | 0, hu => cases hu; exact h0
    | 1, hu => cases hu; exact h1
    | 2, hu => cases hu; exact h2
theorem stap {P : Program} {w : World} {T e : TypeId} {p : Option Addr} {n c g off : Nat} (hT : P.underlying T = some (.array 3 e)) (hp : p = some ⟨g, off, none⟩) (hn : 3 ≤ n) : Ft.ok P w (.g1 (fun x => .sliceToArrayPointer T x) (vL p n c) (vP g off)) := fun o ρ x ho hx => by
  subst hp
  have := run_arrayAt (P := P) (w := w) T e 3 (some ⟨g, off, none⟩) n c hT hn
  simp only [execOp, ho, hx, Sem.run_bind, this, Result.andThen_ok, Sem.run_pure]
theorem parse_tag {w : World} {o : Ob} (hT : Tb w) (hl : (getT o.tags [104, 111, 117, 114, 115]).1.length ≤ 4900) : Calls Tryz.prog 58 #[vS (getT o.tags [104, 111, 117, 114, 115]).1] w fun e w' => ∃ v c x, e = .returned (.tuple #[v, vI c, vI x]) ∧ (c == 0) = hoursB o ∧ NRow spL 2 141 w w' v (hoursL o) ∧ Fr (fun _ => False) w w' := by
  refine (parse_calls hl hT).mono ?_
  rintro e w' ⟨h1, h2⟩
  unfold parseR at h1
  rcases parse_cases (getT o.tags [104, 111, 117, 114, 115]).1 with ⟨c, x, hp, hc, -⟩ | ⟨l, hp, -⟩
  · rw [hp] at h1
    refine ⟨_, c, x, h1, ?_, ?_, h2⟩
    · unfold hoursB hoursT; rw [hp]; simpa using hc
    · unfold hoursL hoursT; rw [hp]; exact ⟨ow_nil _, fun k h => by cases h⟩
  · rw [hp] at h1
    obtain ⟨v, h1, h3⟩ := h1
    refine ⟨v, 0, 0, h1, ?_, ?_, h2⟩
    · unfold hoursB hoursT; rw [hp]; rfl
    · unfold hoursL hoursT; rw [hp]; exact h3
/-- What is known of the objects of a valid map. -/
theorem valid_at {k : Bys} : ∀ {l : List Ob}, mapT k l = true → ∀ o ∈ l, validO o = true
  | [], _, o, h => by cases h
  | b :: l, hm, o, h => by
    unfold mapT at hm
    simp only [Bool.and_eq_true] at hm
    rcases List.mem_cons.1 h with rfl | h
    · exact hm.1.1
    · exact valid_at hm.2 o h
theorem tagT_len {k : Bys} : ∀ {l : List Tag}, tagT k l = true → ∀ t ∈ l, t.2.length ≤ 200
  | [], _, t, h => by cases h
  | b :: l, hm, t, h => by
    unfold tagT at hm
    simp only [Bool.and_eq_true, decide_eq_true_eq] at hm
    rcases List.mem_cons.1 h with rfl | h
    · have := hm.1.2; omega
    · exact tagT_len hm.2 t h
theorem getT_len {l : List Tag} (h : ∀ t ∈ l, t.2.length ≤ 200) (k : Bys) : (getT l k).1.length ≤ 200 := by
  induction l with
  | nil => simp [getT]
  | cons t l ih =>
    unfold getT
    cases t.1 == k with
    | true => exact h t (.head _)
    | false => exact ih fun t ht => h t (.tail _ ht)
theorem valid_tags {o : Ob} (h : validO o = true) (k : Bys) : (getT o.tags k).1.length ≤ 200 := by
  unfold validO at h
  simp only [Bool.and_eq_true] at h
  have h1 := h.1.1.1.1.2
  unfold tagsB at h1
  rw [Bool.and_eq_true] at h1
  exact getT_len (tagT_len h1.1) k
theorem valid_turn {o : Ob} (h : validO o = true) (hk : o.kind = 5) : o.refs.length = 3 := by
  unfold validO at h
  rw [hk] at h
  simp only [Bool.and_eq_true] at h
  have := h.2
  simp at this
  omega
/-- The memory of a network of roads. -/
noncomputable abbrev stM (bs ca bo br bb no nr nb : Nat) (qa : Option Addr) (prof : Bys) (os : List ObR) (T : OutT) (T2 : RdT) : List Ent :=
  [bk bs #[vS prof, vL qa (AS os).length ca, .map (some bo), .map (some br), .map (some bb)] 80, rw_ arL 4 47 (vL qa (AS os).length ca) (AS os), mp Tryz.prog 9 bo no (outF T), bagE inL 1 3 (T.map (·.2)), mp Tryz.prog 9 br nr (rdF prof T2), bagE spL 2 141 (hrB T2), mp Tryz.prog 114 bb nb (setT (bans prof os))]
abbrev A29 (Φ : Ending → World → Prop) := AtO Tryz.prog (bodyOf Tryz.f29) (whole (bodyPost Tryz.prog Tryz.f29 Φ)) [] 137
theorem pathOf_calls {w : World} {v : Value} {os : List ObR} {prof : Bys} (hm : ObsV w v os) (hvm : validMap (pure_ os) = true) (hlen : (arcsP os).length ≤ 300000000) (hTe : Te w) : Calls Tryz.prog 29 #[.agg #[v], vS prof] w fun e w' => ∃ bs ca bo br bb no nr nb qa T T2, e = .returned (vP bs 0) ∧ (T.map (·.1)).Nodup ∧ (∀ s, rowOf T s = idxs (AS os) s) ∧ T2.map (·.1) = waysR os ∧ Mm (fun _ => False) w w' (stM bs ca bo br bb no nr nb qa prof os T T2) := by
  have hm0 := hm; obtain ⟨hs0, hob⟩ := hm0
  have hll : (AS os).length ≤ 300000000 := Nat.le_trans (nub_len _) hlen
  obtain ⟨p0, cp0, hp0, sp0⟩ := hs0.op
  subst hp0; have bp0 := sp0.bnd
  refine beg Tryz.func29 rfl rfl [(0, .agg #[vL p0 os.length cp0]), (1, vS prof)] rfl rfl fun Φ hΦ => ?_
  have hM := Mm.nil (fun _ => False) w
  refine newm 0 0 2 [] (cs := #[vL p0 os.length cp0]) (T := 24) (v := fun b => vP b 0) f0 hM fun b78 w1 hM => calrow 1 2 23 [(21, vS prof), (22, .agg #[vL p0 os.length cp0])] (f := arL) (c := 4) (E := 47) (A := (AS os)) (fc (lam 24 0 0 1 hM rfl) f0) hM (arcs_calls (hm.fr hM.fr) hvm hlen) fun u w1 hM => ?_
  obtain ⟨qa79, ca79, eqa79, sqa79⟩ := (hM.src (j := 1) rfl arT.len).op
  subst eqa79
  refine newmp 1 3 24 [] 9 f0 hM fun b80 w1 hM => newmp 1 4 25 [] 9 f0 hM fun b81 w1 hM => newmp 1 5 26 [] 114 f0 hM fun b82 w1 hM => newm 1 7 28 [(27, .agg #[vS prof, vL qa79 (AS os).length ca79, .map (some b80), .map (some b81), .map (some b82)])] (cs := #[vS prof, vL qa79 (AS os).length ca79, .map (some b80), .map (some b81), .map (some b82)]) (T := 80) (v := fun b => vP b 0) f0 hM fun b83 w1 hM => seg 3 0 [(5, vP b83 0), (32, vL qa79 (AS os).length ca79), (33, vI ((AS os).length : Int)), (34, vI 0)] (fc (ldm 75 5 1 hM rfl rfl) f0) ?_
  have hM := bag_nil (f := inL) (c := 1) (E := 3) hM
  have hM : Mm (fun _ => False) w _ [bk b78 #[vL p0 os.length cp0] 24, rw_ arL 4 47 (vL qa79 (AS os).length ca79) (AS os), mp Tryz.prog 9 b81 0 (fun _ => none), mp Tryz.prog 114 b82 0 (fun _ => none), bk b83 #[vS prof, vL qa79 (AS os).length ca79, .map (some b80), .map (some b81), .map (some b82)] 80, mp Tryz.prog 9 b80 0 (fun _ => none), bagE inL 1 3 (([] : OutT).map (·.2))] := hM.pick [0, 1, 3, 4, 5, 2, 6]
  have hM := hM.cast (M' := [bk b78 #[vL p0 os.length cp0] 24, rw_ arL 4 47 (vL qa79 (AS os).length ca79) (AS os), mp Tryz.prog 9 b81 0 (fun _ => none), mp Tryz.prog 114 b82 0 (fun _ => none), bk b83 #[vS prof, vL qa79 (AS os).length ca79, .map (some b80), .map (some b81), .map (some b82)] 80, mp Tryz.prog 9 b80 0 (outF []), bagE inL 1 3 (([] : OutT).map (·.2))]) (by rw [outF_nil])
  have lp84 : ∀ (m86 : Nat) (i : Nat) (n : Nat) (T : OutT) (w2 : World), i ≤ (AS os).length → (T.map (·.1)).Nodup → (∀ s, rowOf T s = idxs ((AS os).take i) s) → Mm (fun _ => False) w w2 [bk b78 #[vL p0 os.length cp0] 24, rw_ arL 4 47 (vL qa79 (AS os).length ca79) (AS os), mp Tryz.prog 9 b81 0 (fun _ => none), mp Tryz.prog 114 b82 0 (fun _ => none), bk b83 #[vS prof, vL qa79 (AS os).length ca79, .map (some b80), .map (some b81), .map (some b82)] 80, mp Tryz.prog 9 b80 n (outF T), bagE inL 1 3 (T.map (·.2))] → m86 = (AS os).length - i → A29 Φ (some (3, 0)) [(34, vI (i : Int)), (33, vI ((AS os).length : Int)), (32, vL qa79 (AS os).length ca79), (5, vP b83 0), (2, vP b78 0), (1, vS prof)] w2 := by
   refine srec fun m86 ih85 i n T w2 hi hnd hT hM hm86 => seg 3 1 [(35, vB (decide ((i : Int) < ((AS os).length : Int))))] f0 ?_
   cases h87 : (decide ((i : Int) < ((AS os).length : Int))) with
   | false =>
    have rh87 := df h87
    refine seg 8 0 [(57, vL p0 os.length cp0), (58, vI (os.length : Int)), (59, vI 0)] (fc (ldm 22 0 0 hM rfl rfl) f0) ?_
    have hM := bag_nil (f := spL) (c := 2) (E := 141) hM
    have et9 : (AS os).take i = AS os := List.take_of_length_le (by omega)
    rw [et9] at hT
    clear et9
    have hM : Mm (fun _ => False) w _ [bk b78 #[vL p0 os.length cp0] 24, rw_ arL 4 47 (vL qa79 (AS os).length ca79) (AS os), bk b83 #[vS prof, vL qa79 (AS os).length ca79, .map (some b80), .map (some b81), .map (some b82)] 80, mp Tryz.prog 9 b80 n (outF T), bagE inL 1 3 (T.map (·.2)), mp Tryz.prog 9 b81 0 (fun _ => none), mp Tryz.prog 114 b82 0 (fun _ => none), bagE spL 2 141 ([] : List (Value × List Sp))] := hM.pick [0, 1, 4, 5, 6, 2, 3, 7]
    have hM := hM.cast (M' := [bk b78 #[vL p0 os.length cp0] 24, rw_ arL 4 47 (vL qa79 (AS os).length ca79) (AS os), bk b83 #[vS prof, vL qa79 (AS os).length ca79, .map (some b80), .map (some b81), .map (some b82)] 80, mp Tryz.prog 9 b80 n (outF T), bagE inL 1 3 (T.map (·.2)), mp Tryz.prog 9 b81 0 (rdF prof []), mp Tryz.prog 114 b82 0 (setT (bans prof (os.take 0))), bagE spL 2 141 (hrB [])]) (by rw [rdF_nil, List.take_zero, bans_nil, setT_nil]; rfl)
    have lp88 : ∀ (m90 : Nat) (i2 : Nat) (n3 : Nat) (n4 : Nat) (T2 : RdT) (w2 : World), i2 ≤ os.length → T2.map (·.1) = waysR (os.take i2) → Mm (fun _ => False) w w2 [bk b78 #[vL p0 os.length cp0] 24, rw_ arL 4 47 (vL qa79 (AS os).length ca79) (AS os), bk b83 #[vS prof, vL qa79 (AS os).length ca79, .map (some b80), .map (some b81), .map (some b82)] 80, mp Tryz.prog 9 b80 n (outF T), bagE inL 1 3 (T.map (·.2)), mp Tryz.prog 9 b81 n3 (rdF prof T2), mp Tryz.prog 114 b82 n4 (setT (bans prof (os.take i2))), bagE spL 2 141 (hrB T2)] → m90 = os.length - i2 → A29 Φ (some (8, 0)) [(59, vI (i2 : Int)), (58, vI (os.length : Int)), (57, vL p0 os.length cp0), (5, vP b83 0), (1, vS prof)] w2 := by
     refine srec fun m90 ih89 i2 n3 n4 T2 w2 hi2 hT2 hM hm90 => seg 8 1 [(60, vB (decide ((i2 : Int) < (os.length : Int))))] f0 ?_
     cases h91 : (decide ((i2 : Int) < (os.length : Int))) with
     | false =>
      have rh91 := df h91
      have e9 : os.take i2 = os := List.take_of_length_le (by omega)
      rw [e9] at hT2 hM
      exact rt1 4 (vP b83 0) rfl f0 (hΦ _ _ ⟨_, _, _, _, _, _, _, _, _, T, T2, rfl, hnd, hT, hT2, hM.pick [2, 1, 3, 4, 5, 7, 6]⟩)
     | true =>
      have rh91 := dt h91
      obtain ⟨y2, hy2, g92, o92, q92, r92⟩ := sp0.el (i := i2) (by omega)
      refine varm 9 2 9 [(62, .agg #[vS y2.o.id, vI y2.o.kind, vI y2.o.x, vI y2.o.y, vL y2.pr y2.o.refs.length y2.cr, vL y2.pt y2.o.tags.length y2.ct])] [] 64 (.agg #[vS y2.o.id, vI y2.o.kind, vI y2.o.x, vI y2.o.y, vL y2.pr y2.o.refs.length y2.cr, vL y2.pt y2.o.tags.length y2.ct]) (fc (ix 22 cp0 q92 (gl hy2)) (fc (la0 64 hM r92) f0)) hM fun b93 w1 hM => ?_
      have hvo : validO y2.o = true := by unfold validMap at hvm; rw [Bool.and_eq_true] at hvm; exact valid_at hvm.1 _ (List.mem_map.2 ⟨y2, gm hy2, rfl⟩)
      refine seg 11 2 [(64, vI y2.o.kind), (65, vB (y2.o.kind == 2))] (fc (ldm 3 8 1 hM rfl rfl) f0) ?_
      cases h94 : (y2.o.kind == 2) with
      | false =>
       have rh94 := ef h94
       refine seg 18 2 [(123, vB (y2.o.kind == 5))] f0 ?_
       cases h95 : (y2.o.kind == 5) with
       | false =>
        have rh95 := ef h95
        refine seg 8 0 [(59, vI ((i2 : Int) + 1))] (fc (tadd (i2 : Int) 1 Tryz.underlying3) f0) ?_
        have hM : Mm (fun _ => False) w _ [bk b78 #[vL p0 os.length cp0] 24, rw_ arL 4 47 (vL qa79 (AS os).length ca79) (AS os), bk b83 #[vS prof, vL qa79 (AS os).length ca79, .map (some b80), .map (some b81), .map (some b82)] 80, mp Tryz.prog 9 b80 n (outF T), bagE inL 1 3 (T.map (·.2)), mp Tryz.prog 9 b81 n3 (rdF prof T2), mp Tryz.prog 114 b82 n4 (setT (bans prof (os.take i2))), bagE spL 2 141 (hrB T2)] := hM.pick [0, 1, 2, 3, 4, 5, 6, 7]
        have e9 : (rdF prof T2) = rdF prof T2 := rfl
        have e8 : (setT (bans prof (os.take i2))) = (setT (bans prof (os.take (i2 + 1)))) := by rw [gt_ hy2, bans_snoc, h95, Bool.and_false]; (try rfl)
        have hM := hM.cast (M' := [bk b78 #[vL p0 os.length cp0] 24, rw_ arL 4 47 (vL qa79 (AS os).length ca79) (AS os), bk b83 #[vS prof, vL qa79 (AS os).length ca79, .map (some b80), .map (some b81), .map (some b82)] 80, mp Tryz.prog 9 b80 n (outF T), bagE inL 1 3 (T.map (·.2)), mp Tryz.prog 9 b81 n3 (rdF prof T2), mp Tryz.prog 114 b82 n4 (setT (bans prof (os.take (i2 + 1)))), bagE spL 2 141 (hrB T2)]) (by rw [e9, e8]; (try rfl))
        exact fewer _ (ih89 _ (by omega) (i2 + 1) n3 n4 T2 _ (gl hy2) (by rw [gt_ hy2, waysR_no h94, ← hT2]) hM rfl)
       | true =>
        have rh95 := et h95
        refine seg 19 2 [(126, vB (!(prof == [102, 111, 111, 116])))] (fc (sne 9 prof [102, 111, 111, 116]) f0) ?_
        cases h96 : (prof == [102, 111, 111, 116]) with
        | false =>
         have rh96 := ef h96
         have hl3 := valid_turn hvo (et h95)
         obtain ⟨t0, t1, t2, hr3⟩ : ∃ t0 t1 t2, y2.o.refs = [t0, t1, t2] := by
                    match h : y2.o.refs, hl3 with
                    | [a, b, c], _ => exact ⟨a, b, c, rfl⟩
         obtain ⟨ga, oa, hqa, hra⟩ := arr3 (hr3 ▸ (hob _ (gm hy2)).refs)
         have hb3 := (hob _ (gm hy2)).bnd.refs; rw [hr3] at hb3
         refine seg 20 0 [] f0 (drx [8] (fun γ => [none]) _ (fun γ l => [bk b78 #[vL p0 os.length cp0] 24, rw_ arL 4 47 (vL qa79 (AS os).length ca79) (AS os), bk b83 #[vS prof, vL qa79 (AS os).length ca79, .map (some b80), .map (some b81), .map (some b82)] 80, mp Tryz.prog 9 b80 n (outF T), bagE inL 1 3 (T.map (·.2)), mp Tryz.prog 9 b81 n3 (rdF prof T2), (bif l.getD 0 false then mp Tryz.prog 114 b82 (n4 + 1) (upd (setT (bans prof (os.take i2))) (.agg #[vS t0, vS t1, vS t2]) (vB true)) else mp Tryz.prog 114 b82 n4 (setT (bans prof (os.take i2)))), bagE spL 2 141 (hrB T2), bk b93 #[vS y2.o.id, vI y2.o.kind, vI y2.o.x, vI y2.o.y, vL y2.pr y2.o.refs.length y2.cr, vL y2.pt y2.o.tags.length y2.ct] 64]) (fun γ => []) hM (fun γ => rfl) (fun γ l w5 hM => (fc (ldm 78 2 4 hM rfl rfl) (fc (ldm 28 8 4 hM rfl rfl) (fc (stap (n := y2.o.refs.length) (c := y2.cr) Tryz.underlying114 hqa (by omega)) (fc (la0 114 hM hra) f0))))) ⟨ar_mup 0 8 78 6 (fun γ => b82) n4 (setT (bans prof (os.take i2))) (fun γ => .agg #[vS t0, vS t1, vS t2]) (fun γ => vB true) law114 Tryz.underlying78 (fun γ => (key114 (a := (t0, t1, t2)) (hb3 t0 (by simp)) (hb3 t1 (by simp)) (hb3 t2 (by simp)))), trivial⟩ fun γ97 w1 hM => ?_)
         replace hM : Mm (fun _ => False) w w1 [bk b78 #[vL p0 os.length cp0] 24, rw_ arL 4 47 (vL qa79 (AS os).length ca79) (AS os), bk b83 #[vS prof, vL qa79 (AS os).length ca79, .map (some b80), .map (some b81), .map (some b82)] 80, mp Tryz.prog 9 b80 n (outF T), bagE inL 1 3 (T.map (·.2)), mp Tryz.prog 9 b81 n3 (rdF prof T2), mp Tryz.prog 114 b82 (n4 + 1) (upd (setT (bans prof (os.take i2))) (.agg #[vS t0, vS t1, vS t2]) (vB true)), bagE spL 2 141 (hrB T2), bk b93 #[vS y2.o.id, vI y2.o.kind, vI y2.o.x, vI y2.o.y, vL y2.pr y2.o.refs.length y2.cr, vL y2.pt y2.o.tags.length y2.ct] 64] := hM
         refine seg 8 0 [(59, vI ((i2 : Int) + 1))] (fc (tadd (i2 : Int) 1 Tryz.underlying3) f0) ?_
         have hM : Mm (fun _ => False) w _ [bk b78 #[vL p0 os.length cp0] 24, rw_ arL 4 47 (vL qa79 (AS os).length ca79) (AS os), bk b83 #[vS prof, vL qa79 (AS os).length ca79, .map (some b80), .map (some b81), .map (some b82)] 80, mp Tryz.prog 9 b80 n (outF T), bagE inL 1 3 (T.map (·.2)), mp Tryz.prog 9 b81 n3 (rdF prof T2), mp Tryz.prog 114 b82 (n4 + 1) (upd (setT (bans prof (os.take i2))) (.agg #[vS t0, vS t1, vS t2]) (vB true)), bagE spL 2 141 (hrB T2)] := hM.pick [0, 1, 2, 3, 4, 5, 6, 7]
         have e9 : (rdF prof T2) = rdF prof T2 := rfl
         have e8 : (upd (setT (bans prof (os.take i2))) (.agg #[vS t0, vS t1, vS t2]) (vB true)) = (setT (bans prof (os.take (i2 + 1)))) := by rw [gt_ hy2, bans_snoc, show (prof == foot) = false from h96, h95, show triO y2.o = (t0, t1, t2) by unfold triO; rw [hr3]; rfl]; exact setT_upd _ (t0, t1, t2)
         have hM := hM.cast (M' := [bk b78 #[vL p0 os.length cp0] 24, rw_ arL 4 47 (vL qa79 (AS os).length ca79) (AS os), bk b83 #[vS prof, vL qa79 (AS os).length ca79, .map (some b80), .map (some b81), .map (some b82)] 80, mp Tryz.prog 9 b80 n (outF T), bagE inL 1 3 (T.map (·.2)), mp Tryz.prog 9 b81 n3 (rdF prof T2), mp Tryz.prog 114 b82 (n4 + 1) (setT (bans prof (os.take (i2 + 1)))), bagE spL 2 141 (hrB T2)]) (by rw [e9, e8]; (try rfl))
         exact fewer _ (ih89 _ (by omega) (i2 + 1) n3 (n4 + 1) T2 _ (gl hy2) (by rw [gt_ hy2, waysR_no h94, ← hT2]) hM rfl)
        | true =>
         have rh96 := et h96
         refine seg 8 0 [(59, vI ((i2 : Int) + 1))] (fc (tadd (i2 : Int) 1 Tryz.underlying3) f0) ?_
         have hM : Mm (fun _ => False) w _ [bk b78 #[vL p0 os.length cp0] 24, rw_ arL 4 47 (vL qa79 (AS os).length ca79) (AS os), bk b83 #[vS prof, vL qa79 (AS os).length ca79, .map (some b80), .map (some b81), .map (some b82)] 80, mp Tryz.prog 9 b80 n (outF T), bagE inL 1 3 (T.map (·.2)), mp Tryz.prog 9 b81 n3 (rdF prof T2), mp Tryz.prog 114 b82 n4 (setT (bans prof (os.take i2))), bagE spL 2 141 (hrB T2)] := hM.pick [0, 1, 2, 3, 4, 5, 6, 7]
         have e9 : (rdF prof T2) = rdF prof T2 := rfl
         have e8 : (setT (bans prof (os.take i2))) = (setT (bans prof (os.take (i2 + 1)))) := by rw [gt_ hy2, bans_snoc, show (prof == foot) = true from h96]; (try rfl)
         have hM := hM.cast (M' := [bk b78 #[vL p0 os.length cp0] 24, rw_ arL 4 47 (vL qa79 (AS os).length ca79) (AS os), bk b83 #[vS prof, vL qa79 (AS os).length ca79, .map (some b80), .map (some b81), .map (some b82)] 80, mp Tryz.prog 9 b80 n (outF T), bagE inL 1 3 (T.map (·.2)), mp Tryz.prog 9 b81 n3 (rdF prof T2), mp Tryz.prog 114 b82 n4 (setT (bans prof (os.take (i2 + 1)))), bagE spL 2 141 (hrB T2)]) (by rw [e9, e8]; (try rfl))
         exact fewer _ (ih89 _ (by omega) (i2 + 1) n3 n4 T2 _ (gl hy2) (by rw [gt_ hy2, waysR_no h94, ← hT2]) hM rfl)
      | true =>
       have rh94 := et h94
       refine calm 12 3 71 [(69, vL y2.pt y2.o.tags.length y2.ct), (70, vS prof)] (fc (ldm 62 8 5 hM rfl rfl) f0) hM (get_calls ((hob _ (gm hy2)).tags.src.fr hM.fr) prof) fun w1 hM => calm 13 2 77 [(10, vS ((getT y2.o.tags prof).1)), (76, vL y2.pt y2.o.tags.length y2.ct)] (fc (ldm 62 8 5 hM rfl rfl) f0) hM (get_calls ((hob _ (gm hy2)).tags.src.fr hM.fr) [111, 110, 101, 119, 97, 121]) fun w1 hM => calm 14 2 83 [(12, vS ((getT y2.o.tags [111, 110, 101, 119, 97, 121]).1)), (82, vL y2.pt y2.o.tags.length y2.ct)] (fc (ldm 62 8 5 hM rfl rfl) f0) hM (get_calls ((hob _ (gm hy2)).tags.src.fr hM.fr) [115, 112, 101, 101, 100]) fun w1 hM => calm 15 2 89 [(14, vS ((getT y2.o.tags [115, 112, 101, 101, 100]).1)), (88, vL y2.pt y2.o.tags.length y2.ct)] (fc (ldm 62 8 5 hM rfl rfl) f0) hM (get_calls ((hob _ (gm hy2)).tags.src.fr hM.fr) [104, 111, 117, 114, 115]) fun w1 hM => cal 16 1 94 [(17, vB (getT y2.o.tags [104, 111, 117, 114, 115]).2), (93, vS ((getT y2.o.tags [104, 111, 117, 114, 115]).1))] (K := fun u w8 => ∃ v c x, u = .tuple #[v, vI c, vI x] ∧ (c == 0) = hoursB y2.o ∧ NRow spL 2 141 w1 w8 v (hoursL y2.o) ∧ Fr (fun _ => False) w1 w8) f0 ((parse_tag (hTe.fr hM.fr).tb (Nat.le_trans (valid_tags hvo _) (by decide))).mono fun e w8 ⟨v, c, x, h1, h2⟩ => ⟨_, h1, v, c, x, rfl, h2⟩) fun u w1 ⟨v, c, x, hu, hco, hO, f1⟩ => ?_
       subst hu
       have hM := hM.add f1 (rw_ spL 2 141 v (hoursL y2.o)) hO.1 hO.2
       obtain ⟨qh, ch, rfl, -⟩ := hO.op spT.len
       refine seg 17 0 [(18, vL qh (hoursL y2.o).length ch), (19, vI c)] f0 ?_
       cases h98 : ((getT y2.o.tags [111, 110, 101, 119, 97, 121]).1 == [121, 101, 115]) with
       | false =>
        have rh98 := ef h98
        cases h99 : (getT y2.o.tags [104, 111, 117, 114, 115]).2 with
        | false =>
         refine drx [25] (fun γ => [none]) _ (fun γ l => [bk b78 #[vL p0 os.length cp0] 24, rw_ arL 4 47 (vL qa79 (AS os).length ca79) (AS os), bk b83 #[vS prof, vL qa79 (AS os).length ca79, .map (some b80), .map (some b81), .map (some b82)] 80, mp Tryz.prog 9 b80 n (outF T), bagE inL 1 3 (T.map (·.2)), (bif l.getD 0 false then mp Tryz.prog 9 b81 (n3 + 1) (upd (rdF prof T2) (vS y2.o.id) (.agg #[vB ((getT y2.o.tags prof).1 == [110, 111]), vB false, vB false, vI (speedP (getT y2.o.tags [115, 112, 101, 101, 100]).1), vL qh (hoursL y2.o).length ch, vL y2.pr y2.o.refs.length y2.cr])) else mp Tryz.prog 9 b81 n3 (rdF prof T2)), mp Tryz.prog 114 b82 n4 (setT (bans prof (os.take i2))), bagE spL 2 141 (hrB T2), bk b93 #[vS y2.o.id, vI y2.o.kind, vI y2.o.x, vI y2.o.y, vL y2.pr y2.o.refs.length y2.cr, vL y2.pt y2.o.tags.length y2.ct] 64, rw_ spL 2 141 (vL qh (hoursL y2.o).length ch) (hoursL y2.o)]) (fun γ => []) hM (fun γ => rfl) (fun γ l w5 hM => (fc (ldm 77 2 3 hM rfl rfl) (fc (ldm 9 8 0 hM rfl rfl) (fc (seq 9 ((getT y2.o.tags prof).1) [110, 111]) (fc (rz (seq 9 ((getT y2.o.tags [111, 110, 101, 119, 97, 121]).1) [121, 101, 115]) h98) (fc (tcl (speed_calls (s := (getT y2.o.tags [115, 112, 101, 101, 100]).1) (Nat.le_trans (valid_tags hvo _) (by decide)) (hTe.fr hM.fr))) (fc (ldm 28 8 4 hM rfl rfl) f0))))))) ⟨ar_mup 0 25 77 5 (fun γ => b81) n3 (rdF prof T2) (fun γ => vS y2.o.id) (fun γ => .agg #[vB ((getT y2.o.tags prof).1 == [110, 111]), vB false, vB false, vI (speedP (getT y2.o.tags [115, 112, 101, 101, 100]).1), vL qh (hoursL y2.o).length ch, vL y2.pr y2.o.refs.length y2.cr]) law9 Tryz.underlying77 (fun γ => (key9 (hob _ (gm hy2)).bnd.id)), trivial⟩ fun γ100 w1 hM => ?_
         replace hM : Mm (fun _ => False) w w1 [bk b78 #[vL p0 os.length cp0] 24, rw_ arL 4 47 (vL qa79 (AS os).length ca79) (AS os), bk b83 #[vS prof, vL qa79 (AS os).length ca79, .map (some b80), .map (some b81), .map (some b82)] 80, mp Tryz.prog 9 b80 n (outF T), bagE inL 1 3 (T.map (·.2)), mp Tryz.prog 9 b81 (n3 + 1) (upd (rdF prof T2) (vS y2.o.id) (.agg #[vB ((getT y2.o.tags prof).1 == [110, 111]), vB false, vB false, vI (speedP (getT y2.o.tags [115, 112, 101, 101, 100]).1), vL qh (hoursL y2.o).length ch, vL y2.pr y2.o.refs.length y2.cr])), mp Tryz.prog 114 b82 n4 (setT (bans prof (os.take i2))), bagE spL 2 141 (hrB T2), bk b93 #[vS y2.o.id, vI y2.o.kind, vI y2.o.x, vI y2.o.y, vL y2.pr y2.o.refs.length y2.cr, vL y2.pt y2.o.tags.length y2.ct] 64, rw_ spL 2 141 (vL qh (hoursL y2.o).length ch) (hoursL y2.o)] := hM
         refine seg 8 0 [(59, vI ((i2 : Int) + 1))] (fc (tadd (i2 : Int) 1 Tryz.underlying3) f0) ?_
         have hM : Mm (fun _ => False) w _ ([bk b78 #[vL p0 os.length cp0] 24, rw_ arL 4 47 (vL qa79 (AS os).length ca79) (AS os), bk b83 #[vS prof, vL qa79 (AS os).length ca79, .map (some b80), .map (some b81), .map (some b82)] 80, mp Tryz.prog 9 b80 n (outF T), bagE inL 1 3 (T.map (·.2)), mp Tryz.prog 9 b81 (n3 + 1) (upd (rdF prof T2) (vS y2.o.id) (.agg #[vB ((getT y2.o.tags prof).1 == [110, 111]), vB false, vB false, vI (speedP (getT y2.o.tags [115, 112, 101, 101, 100]).1), vL qh (hoursL y2.o).length ch, vL y2.pr y2.o.refs.length y2.cr])), mp Tryz.prog 114 b82 n4 (setT (bans prof (os.take i2)))] ++ [bagE spL 2 141 (hrB T2), rw_ spL 2 141 (vL qh (hoursL y2.o).length ch) (hoursL y2.o)]) := hM.pick [0, 1, 2, 3, 4, 5, 6, 7, 9]
         have hM := bag_in (L' := hrB ((y2, vL qh (hoursL y2.o).length ch) :: T2)) hM (.refl _)
         have hrv : (.agg #[vB ((getT y2.o.tags prof).1 == [110, 111]), vB false, vB false, vI (speedP (getT y2.o.tags [115, 112, 101, 101, 100]).1), vL qh (hoursL y2.o).length ch, vL y2.pr y2.o.refs.length y2.cr]) = roadV prof y2 (vL qh (hoursL y2.o).length ch) := by
                    have hf : (prof == foot) = (prof == [102, 111, 111, 116]) := rfl
                    simp only [roadV, roadO, rfV, hf, ← hco, h87, h91, h98, h99] <;> rfl
         have e9 : (upd (rdF prof T2) (vS y2.o.id) (.agg #[vB ((getT y2.o.tags prof).1 == [110, 111]), vB false, vB false, vI (speedP (getT y2.o.tags [115, 112, 101, 101, 100]).1), vL qh (hoursL y2.o).length ch, vL y2.pr y2.o.refs.length y2.cr])) = rdF prof ((y2, vL qh (hoursL y2.o).length ch) :: T2) := (congrArg (upd (rdF prof T2) (vS y2.o.id)) hrv).trans (rdF_upd prof T2 y2 _)
         have e8 : (setT (bans prof (os.take i2))) = (setT (bans prof (os.take (i2 + 1)))) := by rw [gt_ hy2, bans_snoc, show (y2.o.kind == 5) = false by rw [et h94]; rfl, Bool.and_false]; (try rfl)
         have hM := hM.cast (M' := [bk b78 #[vL p0 os.length cp0] 24, rw_ arL 4 47 (vL qa79 (AS os).length ca79) (AS os), bk b83 #[vS prof, vL qa79 (AS os).length ca79, .map (some b80), .map (some b81), .map (some b82)] 80, mp Tryz.prog 9 b80 n (outF T), bagE inL 1 3 (T.map (·.2)), mp Tryz.prog 9 b81 (n3 + 1) (rdF prof ((y2, vL qh (hoursL y2.o).length ch) :: T2)), mp Tryz.prog 114 b82 n4 (setT (bans prof (os.take (i2 + 1)))), bagE spL 2 141 (hrB ((y2, vL qh (hoursL y2.o).length ch) :: T2))]) (by rw [e9, e8]; (try rfl))
         exact fewer _ (ih89 _ (by omega) (i2 + 1) (n3 + 1) n4 ((y2, vL qh (hoursL y2.o).length ch) :: T2) _ (gl hy2) (by rw [gt_ hy2, waysR_yes h94, ← hT2]; rfl) hM rfl)
        | true =>
         refine drx [25] (fun γ => [none]) _ (fun γ l => [bk b78 #[vL p0 os.length cp0] 24, rw_ arL 4 47 (vL qa79 (AS os).length ca79) (AS os), bk b83 #[vS prof, vL qa79 (AS os).length ca79, .map (some b80), .map (some b81), .map (some b82)] 80, mp Tryz.prog 9 b80 n (outF T), bagE inL 1 3 (T.map (·.2)), (bif l.getD 0 false then mp Tryz.prog 9 b81 (n3 + 1) (upd (rdF prof T2) (vS y2.o.id) (.agg #[vB ((getT y2.o.tags prof).1 == [110, 111]), vB false, vB (c == 0), vI (speedP (getT y2.o.tags [115, 112, 101, 101, 100]).1), vL qh (hoursL y2.o).length ch, vL y2.pr y2.o.refs.length y2.cr])) else mp Tryz.prog 9 b81 n3 (rdF prof T2)), mp Tryz.prog 114 b82 n4 (setT (bans prof (os.take i2))), bagE spL 2 141 (hrB T2), bk b93 #[vS y2.o.id, vI y2.o.kind, vI y2.o.x, vI y2.o.y, vL y2.pr y2.o.refs.length y2.cr, vL y2.pt y2.o.tags.length y2.ct] 64, rw_ spL 2 141 (vL qh (hoursL y2.o).length ch) (hoursL y2.o)]) (fun γ => []) hM (fun γ => rfl) (fun γ l w5 hM => (fc (ldm 77 2 3 hM rfl rfl) (fc (ldm 9 8 0 hM rfl rfl) (fc (seq 9 ((getT y2.o.tags prof).1) [110, 111]) (fc (rz (seq 9 ((getT y2.o.tags [111, 110, 101, 119, 97, 121]).1) [121, 101, 115]) h98) (fc (tcl (speed_calls (s := (getT y2.o.tags [115, 112, 101, 101, 100]).1) (Nat.le_trans (valid_tags hvo _) (by decide)) (hTe.fr hM.fr))) (fc (ldm 28 8 4 hM rfl rfl) f0))))))) ⟨ar_mup 0 25 77 5 (fun γ => b81) n3 (rdF prof T2) (fun γ => vS y2.o.id) (fun γ => .agg #[vB ((getT y2.o.tags prof).1 == [110, 111]), vB false, vB (c == 0), vI (speedP (getT y2.o.tags [115, 112, 101, 101, 100]).1), vL qh (hoursL y2.o).length ch, vL y2.pr y2.o.refs.length y2.cr]) law9 Tryz.underlying77 (fun γ => (key9 (hob _ (gm hy2)).bnd.id)), trivial⟩ fun γ101 w1 hM => ?_
         replace hM : Mm (fun _ => False) w w1 [bk b78 #[vL p0 os.length cp0] 24, rw_ arL 4 47 (vL qa79 (AS os).length ca79) (AS os), bk b83 #[vS prof, vL qa79 (AS os).length ca79, .map (some b80), .map (some b81), .map (some b82)] 80, mp Tryz.prog 9 b80 n (outF T), bagE inL 1 3 (T.map (·.2)), mp Tryz.prog 9 b81 (n3 + 1) (upd (rdF prof T2) (vS y2.o.id) (.agg #[vB ((getT y2.o.tags prof).1 == [110, 111]), vB false, vB (c == 0), vI (speedP (getT y2.o.tags [115, 112, 101, 101, 100]).1), vL qh (hoursL y2.o).length ch, vL y2.pr y2.o.refs.length y2.cr])), mp Tryz.prog 114 b82 n4 (setT (bans prof (os.take i2))), bagE spL 2 141 (hrB T2), bk b93 #[vS y2.o.id, vI y2.o.kind, vI y2.o.x, vI y2.o.y, vL y2.pr y2.o.refs.length y2.cr, vL y2.pt y2.o.tags.length y2.ct] 64, rw_ spL 2 141 (vL qh (hoursL y2.o).length ch) (hoursL y2.o)] := hM
         refine seg 8 0 [(59, vI ((i2 : Int) + 1))] (fc (tadd (i2 : Int) 1 Tryz.underlying3) f0) ?_
         have hM : Mm (fun _ => False) w _ ([bk b78 #[vL p0 os.length cp0] 24, rw_ arL 4 47 (vL qa79 (AS os).length ca79) (AS os), bk b83 #[vS prof, vL qa79 (AS os).length ca79, .map (some b80), .map (some b81), .map (some b82)] 80, mp Tryz.prog 9 b80 n (outF T), bagE inL 1 3 (T.map (·.2)), mp Tryz.prog 9 b81 (n3 + 1) (upd (rdF prof T2) (vS y2.o.id) (.agg #[vB ((getT y2.o.tags prof).1 == [110, 111]), vB false, vB (c == 0), vI (speedP (getT y2.o.tags [115, 112, 101, 101, 100]).1), vL qh (hoursL y2.o).length ch, vL y2.pr y2.o.refs.length y2.cr])), mp Tryz.prog 114 b82 n4 (setT (bans prof (os.take i2)))] ++ [bagE spL 2 141 (hrB T2), rw_ spL 2 141 (vL qh (hoursL y2.o).length ch) (hoursL y2.o)]) := hM.pick [0, 1, 2, 3, 4, 5, 6, 7, 9]
         have hM := bag_in (L' := hrB ((y2, vL qh (hoursL y2.o).length ch) :: T2)) hM (.refl _)
         have hrv : (.agg #[vB ((getT y2.o.tags prof).1 == [110, 111]), vB false, vB (c == 0), vI (speedP (getT y2.o.tags [115, 112, 101, 101, 100]).1), vL qh (hoursL y2.o).length ch, vL y2.pr y2.o.refs.length y2.cr]) = roadV prof y2 (vL qh (hoursL y2.o).length ch) := by
                    have hf : (prof == foot) = (prof == [102, 111, 111, 116]) := rfl
                    simp only [roadV, roadO, rfV, hf, ← hco, h87, h91, h98, h99] <;> rfl
         have e9 : (upd (rdF prof T2) (vS y2.o.id) (.agg #[vB ((getT y2.o.tags prof).1 == [110, 111]), vB false, vB (c == 0), vI (speedP (getT y2.o.tags [115, 112, 101, 101, 100]).1), vL qh (hoursL y2.o).length ch, vL y2.pr y2.o.refs.length y2.cr])) = rdF prof ((y2, vL qh (hoursL y2.o).length ch) :: T2) := (congrArg (upd (rdF prof T2) (vS y2.o.id)) hrv).trans (rdF_upd prof T2 y2 _)
         have e8 : (setT (bans prof (os.take i2))) = (setT (bans prof (os.take (i2 + 1)))) := by rw [gt_ hy2, bans_snoc, show (y2.o.kind == 5) = false by rw [et h94]; rfl, Bool.and_false]; (try rfl)
         have hM := hM.cast (M' := [bk b78 #[vL p0 os.length cp0] 24, rw_ arL 4 47 (vL qa79 (AS os).length ca79) (AS os), bk b83 #[vS prof, vL qa79 (AS os).length ca79, .map (some b80), .map (some b81), .map (some b82)] 80, mp Tryz.prog 9 b80 n (outF T), bagE inL 1 3 (T.map (·.2)), mp Tryz.prog 9 b81 (n3 + 1) (rdF prof ((y2, vL qh (hoursL y2.o).length ch) :: T2)), mp Tryz.prog 114 b82 n4 (setT (bans prof (os.take (i2 + 1)))), bagE spL 2 141 (hrB ((y2, vL qh (hoursL y2.o).length ch) :: T2))]) (by rw [e9, e8]; (try rfl))
         exact fewer _ (ih89 _ (by omega) (i2 + 1) (n3 + 1) n4 ((y2, vL qh (hoursL y2.o).length ch) :: T2) _ (gl hy2) (by rw [gt_ hy2, waysR_yes h94, ← hT2]; rfl) hM rfl)
       | true =>
        have rh98 := et h98
        cases h102 : (getT y2.o.tags [104, 111, 117, 114, 115]).2 with
        | false =>
         refine drx [25] (fun γ => [none]) _ (fun γ l => [bk b78 #[vL p0 os.length cp0] 24, rw_ arL 4 47 (vL qa79 (AS os).length ca79) (AS os), bk b83 #[vS prof, vL qa79 (AS os).length ca79, .map (some b80), .map (some b81), .map (some b82)] 80, mp Tryz.prog 9 b80 n (outF T), bagE inL 1 3 (T.map (·.2)), (bif l.getD 0 false then mp Tryz.prog 9 b81 (n3 + 1) (upd (rdF prof T2) (vS y2.o.id) (.agg #[vB ((getT y2.o.tags prof).1 == [110, 111]), vB (!(prof == [102, 111, 111, 116])), vB false, vI (speedP (getT y2.o.tags [115, 112, 101, 101, 100]).1), vL qh (hoursL y2.o).length ch, vL y2.pr y2.o.refs.length y2.cr])) else mp Tryz.prog 9 b81 n3 (rdF prof T2)), mp Tryz.prog 114 b82 n4 (setT (bans prof (os.take i2))), bagE spL 2 141 (hrB T2), bk b93 #[vS y2.o.id, vI y2.o.kind, vI y2.o.x, vI y2.o.y, vL y2.pr y2.o.refs.length y2.cr, vL y2.pt y2.o.tags.length y2.ct] 64, rw_ spL 2 141 (vL qh (hoursL y2.o).length ch) (hoursL y2.o)]) (fun γ => []) hM (fun γ => rfl) (fun γ l w5 hM => (fc (ldm 77 2 3 hM rfl rfl) (fc (ldm 9 8 0 hM rfl rfl) (fc (seq 9 ((getT y2.o.tags prof).1) [110, 111]) (fc (rz (seq 9 ((getT y2.o.tags [111, 110, 101, 119, 97, 121]).1) [121, 101, 115]) h98) (fc (sne 9 prof [102, 111, 111, 116]) (fc (tcl (speed_calls (s := (getT y2.o.tags [115, 112, 101, 101, 100]).1) (Nat.le_trans (valid_tags hvo _) (by decide)) (hTe.fr hM.fr))) (fc (ldm 28 8 4 hM rfl rfl) f0)))))))) ⟨ar_mup 0 25 77 5 (fun γ => b81) n3 (rdF prof T2) (fun γ => vS y2.o.id) (fun γ => .agg #[vB ((getT y2.o.tags prof).1 == [110, 111]), vB (!(prof == [102, 111, 111, 116])), vB false, vI (speedP (getT y2.o.tags [115, 112, 101, 101, 100]).1), vL qh (hoursL y2.o).length ch, vL y2.pr y2.o.refs.length y2.cr]) law9 Tryz.underlying77 (fun γ => (key9 (hob _ (gm hy2)).bnd.id)), trivial⟩ fun γ103 w1 hM => ?_
         replace hM : Mm (fun _ => False) w w1 [bk b78 #[vL p0 os.length cp0] 24, rw_ arL 4 47 (vL qa79 (AS os).length ca79) (AS os), bk b83 #[vS prof, vL qa79 (AS os).length ca79, .map (some b80), .map (some b81), .map (some b82)] 80, mp Tryz.prog 9 b80 n (outF T), bagE inL 1 3 (T.map (·.2)), mp Tryz.prog 9 b81 (n3 + 1) (upd (rdF prof T2) (vS y2.o.id) (.agg #[vB ((getT y2.o.tags prof).1 == [110, 111]), vB (!(prof == [102, 111, 111, 116])), vB false, vI (speedP (getT y2.o.tags [115, 112, 101, 101, 100]).1), vL qh (hoursL y2.o).length ch, vL y2.pr y2.o.refs.length y2.cr])), mp Tryz.prog 114 b82 n4 (setT (bans prof (os.take i2))), bagE spL 2 141 (hrB T2), bk b93 #[vS y2.o.id, vI y2.o.kind, vI y2.o.x, vI y2.o.y, vL y2.pr y2.o.refs.length y2.cr, vL y2.pt y2.o.tags.length y2.ct] 64, rw_ spL 2 141 (vL qh (hoursL y2.o).length ch) (hoursL y2.o)] := hM
         refine seg 8 0 [(59, vI ((i2 : Int) + 1))] (fc (tadd (i2 : Int) 1 Tryz.underlying3) f0) ?_
         have hM : Mm (fun _ => False) w _ ([bk b78 #[vL p0 os.length cp0] 24, rw_ arL 4 47 (vL qa79 (AS os).length ca79) (AS os), bk b83 #[vS prof, vL qa79 (AS os).length ca79, .map (some b80), .map (some b81), .map (some b82)] 80, mp Tryz.prog 9 b80 n (outF T), bagE inL 1 3 (T.map (·.2)), mp Tryz.prog 9 b81 (n3 + 1) (upd (rdF prof T2) (vS y2.o.id) (.agg #[vB ((getT y2.o.tags prof).1 == [110, 111]), vB (!(prof == [102, 111, 111, 116])), vB false, vI (speedP (getT y2.o.tags [115, 112, 101, 101, 100]).1), vL qh (hoursL y2.o).length ch, vL y2.pr y2.o.refs.length y2.cr])), mp Tryz.prog 114 b82 n4 (setT (bans prof (os.take i2)))] ++ [bagE spL 2 141 (hrB T2), rw_ spL 2 141 (vL qh (hoursL y2.o).length ch) (hoursL y2.o)]) := hM.pick [0, 1, 2, 3, 4, 5, 6, 7, 9]
         have hM := bag_in (L' := hrB ((y2, vL qh (hoursL y2.o).length ch) :: T2)) hM (.refl _)
         have hrv : (.agg #[vB ((getT y2.o.tags prof).1 == [110, 111]), vB (!(prof == [102, 111, 111, 116])), vB false, vI (speedP (getT y2.o.tags [115, 112, 101, 101, 100]).1), vL qh (hoursL y2.o).length ch, vL y2.pr y2.o.refs.length y2.cr]) = roadV prof y2 (vL qh (hoursL y2.o).length ch) := by
                    have hf : (prof == foot) = (prof == [102, 111, 111, 116]) := rfl
                    simp only [roadV, roadO, rfV, hf, ← hco, h87, h91, h98, h102] <;> rfl
         have e9 : (upd (rdF prof T2) (vS y2.o.id) (.agg #[vB ((getT y2.o.tags prof).1 == [110, 111]), vB (!(prof == [102, 111, 111, 116])), vB false, vI (speedP (getT y2.o.tags [115, 112, 101, 101, 100]).1), vL qh (hoursL y2.o).length ch, vL y2.pr y2.o.refs.length y2.cr])) = rdF prof ((y2, vL qh (hoursL y2.o).length ch) :: T2) := (congrArg (upd (rdF prof T2) (vS y2.o.id)) hrv).trans (rdF_upd prof T2 y2 _)
         have e8 : (setT (bans prof (os.take i2))) = (setT (bans prof (os.take (i2 + 1)))) := by rw [gt_ hy2, bans_snoc, show (y2.o.kind == 5) = false by rw [et h94]; rfl, Bool.and_false]; (try rfl)
         have hM := hM.cast (M' := [bk b78 #[vL p0 os.length cp0] 24, rw_ arL 4 47 (vL qa79 (AS os).length ca79) (AS os), bk b83 #[vS prof, vL qa79 (AS os).length ca79, .map (some b80), .map (some b81), .map (some b82)] 80, mp Tryz.prog 9 b80 n (outF T), bagE inL 1 3 (T.map (·.2)), mp Tryz.prog 9 b81 (n3 + 1) (rdF prof ((y2, vL qh (hoursL y2.o).length ch) :: T2)), mp Tryz.prog 114 b82 n4 (setT (bans prof (os.take (i2 + 1)))), bagE spL 2 141 (hrB ((y2, vL qh (hoursL y2.o).length ch) :: T2))]) (by rw [e9, e8]; (try rfl))
         exact fewer _ (ih89 _ (by omega) (i2 + 1) (n3 + 1) n4 ((y2, vL qh (hoursL y2.o).length ch) :: T2) _ (gl hy2) (by rw [gt_ hy2, waysR_yes h94, ← hT2]; rfl) hM rfl)
        | true =>
         refine drx [25] (fun γ => [none]) _ (fun γ l => [bk b78 #[vL p0 os.length cp0] 24, rw_ arL 4 47 (vL qa79 (AS os).length ca79) (AS os), bk b83 #[vS prof, vL qa79 (AS os).length ca79, .map (some b80), .map (some b81), .map (some b82)] 80, mp Tryz.prog 9 b80 n (outF T), bagE inL 1 3 (T.map (·.2)), (bif l.getD 0 false then mp Tryz.prog 9 b81 (n3 + 1) (upd (rdF prof T2) (vS y2.o.id) (.agg #[vB ((getT y2.o.tags prof).1 == [110, 111]), vB (!(prof == [102, 111, 111, 116])), vB (c == 0), vI (speedP (getT y2.o.tags [115, 112, 101, 101, 100]).1), vL qh (hoursL y2.o).length ch, vL y2.pr y2.o.refs.length y2.cr])) else mp Tryz.prog 9 b81 n3 (rdF prof T2)), mp Tryz.prog 114 b82 n4 (setT (bans prof (os.take i2))), bagE spL 2 141 (hrB T2), bk b93 #[vS y2.o.id, vI y2.o.kind, vI y2.o.x, vI y2.o.y, vL y2.pr y2.o.refs.length y2.cr, vL y2.pt y2.o.tags.length y2.ct] 64, rw_ spL 2 141 (vL qh (hoursL y2.o).length ch) (hoursL y2.o)]) (fun γ => []) hM (fun γ => rfl) (fun γ l w5 hM => (fc (ldm 77 2 3 hM rfl rfl) (fc (ldm 9 8 0 hM rfl rfl) (fc (seq 9 ((getT y2.o.tags prof).1) [110, 111]) (fc (rz (seq 9 ((getT y2.o.tags [111, 110, 101, 119, 97, 121]).1) [121, 101, 115]) h98) (fc (sne 9 prof [102, 111, 111, 116]) (fc (tcl (speed_calls (s := (getT y2.o.tags [115, 112, 101, 101, 100]).1) (Nat.le_trans (valid_tags hvo _) (by decide)) (hTe.fr hM.fr))) (fc (ldm 28 8 4 hM rfl rfl) f0)))))))) ⟨ar_mup 0 25 77 5 (fun γ => b81) n3 (rdF prof T2) (fun γ => vS y2.o.id) (fun γ => .agg #[vB ((getT y2.o.tags prof).1 == [110, 111]), vB (!(prof == [102, 111, 111, 116])), vB (c == 0), vI (speedP (getT y2.o.tags [115, 112, 101, 101, 100]).1), vL qh (hoursL y2.o).length ch, vL y2.pr y2.o.refs.length y2.cr]) law9 Tryz.underlying77 (fun γ => (key9 (hob _ (gm hy2)).bnd.id)), trivial⟩ fun γ104 w1 hM => ?_
         replace hM : Mm (fun _ => False) w w1 [bk b78 #[vL p0 os.length cp0] 24, rw_ arL 4 47 (vL qa79 (AS os).length ca79) (AS os), bk b83 #[vS prof, vL qa79 (AS os).length ca79, .map (some b80), .map (some b81), .map (some b82)] 80, mp Tryz.prog 9 b80 n (outF T), bagE inL 1 3 (T.map (·.2)), mp Tryz.prog 9 b81 (n3 + 1) (upd (rdF prof T2) (vS y2.o.id) (.agg #[vB ((getT y2.o.tags prof).1 == [110, 111]), vB (!(prof == [102, 111, 111, 116])), vB (c == 0), vI (speedP (getT y2.o.tags [115, 112, 101, 101, 100]).1), vL qh (hoursL y2.o).length ch, vL y2.pr y2.o.refs.length y2.cr])), mp Tryz.prog 114 b82 n4 (setT (bans prof (os.take i2))), bagE spL 2 141 (hrB T2), bk b93 #[vS y2.o.id, vI y2.o.kind, vI y2.o.x, vI y2.o.y, vL y2.pr y2.o.refs.length y2.cr, vL y2.pt y2.o.tags.length y2.ct] 64, rw_ spL 2 141 (vL qh (hoursL y2.o).length ch) (hoursL y2.o)] := hM
         refine seg 8 0 [(59, vI ((i2 : Int) + 1))] (fc (tadd (i2 : Int) 1 Tryz.underlying3) f0) ?_
         have hM : Mm (fun _ => False) w _ ([bk b78 #[vL p0 os.length cp0] 24, rw_ arL 4 47 (vL qa79 (AS os).length ca79) (AS os), bk b83 #[vS prof, vL qa79 (AS os).length ca79, .map (some b80), .map (some b81), .map (some b82)] 80, mp Tryz.prog 9 b80 n (outF T), bagE inL 1 3 (T.map (·.2)), mp Tryz.prog 9 b81 (n3 + 1) (upd (rdF prof T2) (vS y2.o.id) (.agg #[vB ((getT y2.o.tags prof).1 == [110, 111]), vB (!(prof == [102, 111, 111, 116])), vB (c == 0), vI (speedP (getT y2.o.tags [115, 112, 101, 101, 100]).1), vL qh (hoursL y2.o).length ch, vL y2.pr y2.o.refs.length y2.cr])), mp Tryz.prog 114 b82 n4 (setT (bans prof (os.take i2)))] ++ [bagE spL 2 141 (hrB T2), rw_ spL 2 141 (vL qh (hoursL y2.o).length ch) (hoursL y2.o)]) := hM.pick [0, 1, 2, 3, 4, 5, 6, 7, 9]
         have hM := bag_in (L' := hrB ((y2, vL qh (hoursL y2.o).length ch) :: T2)) hM (.refl _)
         have hrv : (.agg #[vB ((getT y2.o.tags prof).1 == [110, 111]), vB (!(prof == [102, 111, 111, 116])), vB (c == 0), vI (speedP (getT y2.o.tags [115, 112, 101, 101, 100]).1), vL qh (hoursL y2.o).length ch, vL y2.pr y2.o.refs.length y2.cr]) = roadV prof y2 (vL qh (hoursL y2.o).length ch) := by
                    have hf : (prof == foot) = (prof == [102, 111, 111, 116]) := rfl
                    simp only [roadV, roadO, rfV, hf, ← hco, h87, h91, h98, h102] <;> rfl
         have e9 : (upd (rdF prof T2) (vS y2.o.id) (.agg #[vB ((getT y2.o.tags prof).1 == [110, 111]), vB (!(prof == [102, 111, 111, 116])), vB (c == 0), vI (speedP (getT y2.o.tags [115, 112, 101, 101, 100]).1), vL qh (hoursL y2.o).length ch, vL y2.pr y2.o.refs.length y2.cr])) = rdF prof ((y2, vL qh (hoursL y2.o).length ch) :: T2) := (congrArg (upd (rdF prof T2) (vS y2.o.id)) hrv).trans (rdF_upd prof T2 y2 _)
         have e8 : (setT (bans prof (os.take i2))) = (setT (bans prof (os.take (i2 + 1)))) := by rw [gt_ hy2, bans_snoc, show (y2.o.kind == 5) = false by rw [et h94]; rfl, Bool.and_false]; (try rfl)
         have hM := hM.cast (M' := [bk b78 #[vL p0 os.length cp0] 24, rw_ arL 4 47 (vL qa79 (AS os).length ca79) (AS os), bk b83 #[vS prof, vL qa79 (AS os).length ca79, .map (some b80), .map (some b81), .map (some b82)] 80, mp Tryz.prog 9 b80 n (outF T), bagE inL 1 3 (T.map (·.2)), mp Tryz.prog 9 b81 (n3 + 1) (rdF prof ((y2, vL qh (hoursL y2.o).length ch) :: T2)), mp Tryz.prog 114 b82 n4 (setT (bans prof (os.take (i2 + 1)))), bagE spL 2 141 (hrB ((y2, vL qh (hoursL y2.o).length ch) :: T2))]) (by rw [e9, e8]; (try rfl))
         exact fewer _ (ih89 _ (by omega) (i2 + 1) (n3 + 1) n4 ((y2, vL qh (hoursL y2.o).length ch) :: T2) _ (gl hy2) (by rw [gt_ hy2, waysR_yes h94, ← hT2]; rfl) hM rfl)
    exact fewer _ (lp88 _ 0 0 0 [] _ (Nat.zero_le _) rfl hM rfl)
   | true =>
    have rh87 := dt h87
    obtain ⟨y, hy⟩ := geb (l := AS os) (i := i) (by omega)
    obtain ⟨g105, eg105, -⟩ := hM.el arT (j := 1) rfl hy
    refine newm 4 3 7 [(36, vI (i : Int)), (38, .agg #[vS y.1, vS y.2.1, vS y.2.2.1, vI y.2.2.2])] (cs := #[vS [], vS [], vS [], vI 0]) (T := 47) (v := fun b => vP b 0) (fc (ix 75 ca79 eg105 (gl hy)) (fc (lar 47 1 0 4 arT hM rfl eg105 hy) f0)) hM fun b106 w1 hM => stm 4 5 [(6, vI (i : Int))] 47 7 0 (.agg #[vS y.1, vS y.2.1, vS y.2.2.1, vI y.2.2.2]) f0 hM rfl fun w1 hM => ?_
    have hM : Mm (fun _ => False) w _ ([bk b78 #[vL p0 os.length cp0] 24, rw_ arL 4 47 (vL qa79 (AS os).length ca79) (AS os), mp Tryz.prog 9 b81 0 (fun _ => none), mp Tryz.prog 114 b82 0 (fun _ => none), bk b83 #[vS prof, vL qa79 (AS os).length ca79, .map (some b80), .map (some b81), .map (some b82)] 80, bk b106 #[vS y.1, vS y.2.1, vS y.2.2.1, vI y.2.2.2] 47, mp Tryz.prog 9 b80 n (outF T)] ++ [bagE inL 1 3 (T.map (·.2))]) := hM.pick [0, 1, 2, 3, 4, 7, 5, 6]
    obtain ⟨v9, ro, hov, hro, hM⟩ := out_take y.1 hnd hM
    obtain ⟨qo, co, rfl, -⟩ := (hM.src (j := 8) rfl inT.len).op
    have hab := arcs_b (fun b hb => (hob b hb).bnd) y (nub_mem (gm hy))
    have hrl : ro.length ≤ 300000000 := by rw [hro, hT]; exact Nat.le_trans (idxs_len _ _) (Nat.le_trans (by rw [List.length_take]; exact Nat.min_le_right _ _) hll)
    replace hM : Mm (fun _ => False) w _ [bk b78 #[vL p0 os.length cp0] 24, rw_ arL 4 47 (vL qa79 (AS os).length ca79) (AS os), mp Tryz.prog 9 b81 0 (fun _ => none), mp Tryz.prog 114 b82 0 (fun _ => none), bk b83 #[vS prof, vL qa79 (AS os).length ca79, .map (some b80), .map (some b81), .map (some b82)] 80, bk b106 #[vS y.1, vS y.2.1, vS y.2.2.1, vI y.2.2.2] 47, mp Tryz.prog 9 b80 n (outF T), bagE inL 1 3 ((restT T y.1).map (·.2)), rw_ inL 1 3 (vL qo ro.length co) ro] := hM
    refine seg 5 0 [] f0 ?_
    have hM := hM.nl
    refine drx [12, 14, 15, 16] (fun γ => [some (vL qo ro.length co), some (vL (some ⟨(bn (γ 1)), 0, none⟩) 1 1), some ((γ 2)), none]) _ (fun γ l => [bk b78 #[vL p0 os.length cp0] 24, rw_ arL 4 47 (vL qa79 (AS os).length ca79) (AS os), mp Tryz.prog 9 b81 0 (fun _ => none), mp Tryz.prog 114 b82 0 (fun _ => none), bk b83 #[vS prof, vL qa79 (AS os).length ca79, .map (some b80), .map (some b81), .map (some b82)] 80, bk b106 #[vS y.1, vS y.2.1, vS y.2.2.1, vI y.2.2.2] 47, (bif l.getD 3 false then mp Tryz.prog 9 b80 (n + 1) (upd (outF T) (vS y.1) ((γ 2))) else mp Tryz.prog 9 b80 n (outF T)), bagE inL 1 3 ((restT T y.1).map (·.2)), (bif l.getD 2 false then rw_ inL 1 3 (γ 2) (ro ++ [(i : Int)]) else rw_ inL 1 3 (vL qo ro.length co) ro), (bif l.getD 1 false then bk (bn (γ 1)) #[vI (i : Int)] 3 else nilE)]) (fun γ => []) hM (fun γ => rfl) (fun γ l w5 hM => (fc (ldm 76 4 2 hM rfl rfl) (fc (ldm 9 5 0 hM rfl rfl) (fc (ldm 76 4 2 hM rfl rfl) (fc (ldm 9 5 0 hM rfl rfl) f0))))) ⟨ar_lk 0 12 76 6 51 n b80 (outF T) (vS y.1) (vL none 0 0) (vL qo ro.length co) law9 Tryz.underlying76 (key9 hab.f1) zero29 hov, ar_new 1 14 9 53 (fun γ => #[vI (i : Int)]) 3 (fun b => vL (some ⟨b, 0, none⟩) 1 1), ar_app 2 15 8 54 29 3 0 (fun γ => vL qo ro.length co) ro [(i : Int)] (fun γ => (bn (γ 1))) 1 inT (by simp only [List.length_cons, List.length_nil]; omega) (fun γ fr wm hM => src_one (f := inL) (x := (i : Int)) (hM.get 9 (e := bk ((bn (γ 1))) (inL (i : Int)).toArray 3) (by kernel_rfl)) (Nat.lt_succ_self _)), ar_mup 3 16 76 6 (fun γ => b80) n (outF T) (fun γ => vS y.1) (fun γ => (γ 2)) law9 Tryz.underlying76 (fun γ => (key9 hab.f1)), trivial⟩ fun γ107 w1 hM => ?_
    replace hM : Mm (fun _ => False) w w1 [bk b78 #[vL p0 os.length cp0] 24, rw_ arL 4 47 (vL qa79 (AS os).length ca79) (AS os), mp Tryz.prog 9 b81 0 (fun _ => none), mp Tryz.prog 114 b82 0 (fun _ => none), bk b83 #[vS prof, vL qa79 (AS os).length ca79, .map (some b80), .map (some b81), .map (some b82)] 80, bk b106 #[vS y.1, vS y.2.1, vS y.2.2.1, vI y.2.2.2] 47, mp Tryz.prog 9 b80 (n + 1) (upd (outF T) (vS y.1) ((γ107 2))), bagE inL 1 3 ((restT T y.1).map (·.2)), rw_ inL 1 3 (γ107 2) (ro ++ [(i : Int)]), bk (bn (γ107 1)) #[vI (i : Int)] 3] := hM
    have hM : Mm (fun _ => False) w _ ([bk b78 #[vL p0 os.length cp0] 24, rw_ arL 4 47 (vL qa79 (AS os).length ca79) (AS os), mp Tryz.prog 9 b81 0 (fun _ => none), mp Tryz.prog 114 b82 0 (fun _ => none), bk b83 #[vS prof, vL qa79 (AS os).length ca79, .map (some b80), .map (some b81), .map (some b82)] 80, mp Tryz.prog 9 b80 (n + 1) (upd (outF T) (vS y.1) ((γ107 2)))] ++ [bagE inL 1 3 ((restT T y.1).map (·.2)), rw_ inL 1 3 (γ107 2) (ro ++ [(i : Int)])]) := hM.pick [0, 1, 2, 3, 4, 6, 7, 8]
    have hM := bag_in (L' := ((y.1, (γ107 2), ro ++ [(i : Int)]) :: restT T y.1).map (·.2)) hM (.refl _)
    have e9 : (upd (outF T) (vS y.1) ((γ107 2))) = outF ((y.1, (γ107 2), ro ++ [(i : Int)]) :: restT T y.1) := outF_upd T y.1 _ _
    have hM := hM.cast (M' := [bk b78 #[vL p0 os.length cp0] 24, rw_ arL 4 47 (vL qa79 (AS os).length ca79) (AS os), mp Tryz.prog 9 b81 0 (fun _ => none), mp Tryz.prog 114 b82 0 (fun _ => none), bk b83 #[vS prof, vL qa79 (AS os).length ca79, .map (some b80), .map (some b81), .map (some b82)] 80, mp Tryz.prog 9 b80 (n + 1) (outF ((y.1, (γ107 2), ro ++ [(i : Int)]) :: restT T y.1)), bagE inL 1 3 (((y.1, (γ107 2), ro ++ [(i : Int)]) :: restT T y.1).map (·.2))]) (by rw [e9]; rfl)
    refine seg 3 0 [(34, vI ((i : Int) + 1))] (fc (tadd (i : Int) 1 Tryz.underlying3) f0) (fewer _ (ih85 _ (by omega) (i + 1) (n + 1) ((y.1, (γ107 2), ro ++ [(i : Int)]) :: restT T y.1) _ (gl hy) (rest_nodup hnd _ _ _) (hro ▸ out_step hT hy) hM rfl))
  exact fewer _ (lp84 _ 0 0 [] _ (Nat.zero_le _) List.nodup_nil (fun s => rfl) hM rfl)
end Go.Proofs.YtbflfefahheidaaGreatDoor
/- Passing arcs. -/
set_option linter.unusedVariables false
set_option linter.unusedSimpArgs false
namespace Go.Proofs.YtbflfefahheidaaGreatDoor
open Go.RowKit Go.Pl
/-- A way leads from a node directly to another one. -/
def fwd (a b : Bys) : List Bys → Bool
  | x :: y :: t => ((x == a) && (y == b)) || fwd a b (y :: t)
  | _ => false
theorem fwd_at {a b x y : Bys} {rs : List Bys} {m : Nat} (hx : rs[m]? = some x) (hy : rs[m + 1]? = some y) : fwd a b (rs.drop m) = (((x == a) && (y == b)) || fwd a b (rs.drop (m + 1))) := by
  rw [gd hx, gd hy]; rfl
theorem fwd_end {a b : Bys} {rs : List Bys} {m : Nat} (h : rs.length ≤ m + 1) : fwd a b (rs.drop m) = false := by
  have : (rs.drop m).length ≤ 1 := by rw [List.length_drop]; omega
  cases h1 : rs.drop m with
  | nil => rfl
  | cons x t =>
    cases t with
    | nil => rfl
    | cons y t => rw [h1] at this; simp at this
abbrev A99 (Φ : Ending → World → Prop) := AtO Tryz.prog (bodyOf Tryz.f99) (whole (bodyPost Tryz.prog Tryz.f99 Φ)) [] 32
theorem forward_calls {w : World} {cl ow li : Bool} {sp : Int} {hv : Value} {pr : Option Addr} {cr : Nat} {rs : List Bys} (hs : SrcP stL 1 w pr cr rs) (a b : Bys) : Calls Tryz.prog 99 #[.agg #[vB cl, vB ow, vB li, vI sp, hv, vL pr rs.length cr], vS a, vS b] w fun e w' => e = .returned (vB (fwd a b rs)) ∧ Fr (fun _ => False) w w' := by
  have bb := hs.bnd
  refine beg Tryz.func99 rfl rfl [(0, .agg #[vB cl, vB ow, vB li, vI sp, hv, vL pr rs.length cr]), (1, vS a), (2, vS b)] rfl rfl fun Φ hΦ => ?_
  have hM := Mm.nil (fun _ => False) w
  refine newm 0 0 3 [] (cs := #[vB cl, vB ow, vB li, vI sp, hv, vL pr rs.length cr]) (T := 113) (v := fun b => vP b 0) f0 hM fun b108 w1 hM => seg 2 0 [(7, vI 1)] f0 ?_
  have lp109 : ∀ (m111 : Nat) (m : Nat) (w2 : World), m ≤ rs.length → fwd a b rs = fwd a b (rs.drop m) → Mm (fun _ => False) w w2 [bk b108 #[vB cl, vB ow, vB li, vI sp, hv, vL pr rs.length cr] 113] → m111 = rs.length - m → A99 Φ (some (2, 0)) [(7, vI ((m : Int) + 1)), (3, vP b108 0), (1, vS a), (2, vS b)] w2 := by
   refine srec fun m111 ih110 m w2 hm hf hM hm111 => seg 2 5 [(12, vB (decide (((m : Int) + 1) < (rs.length : Int))))] (fc (ldm 28 0 5 hM rfl rfl) f0) ?_
   cases h112 : (decide (((m : Int) + 1) < (rs.length : Int))) with
   | false =>
    have rh112 := df h112
    exact rt1 6 (vB false) rfl f0 (hΦ _ _ ⟨by rw [hf, fwd_end (by omega)], hM.fr⟩)
   | true =>
    have rh112 := dt h112
    obtain ⟨y1, hy1, g113, o113, q113, r113⟩ := hs.el (i := m) (by omega)
    refine seg 4 9 [(23, vB (y1 == a))] (fc (ldm 28 0 5 hM rfl rfl) (fc (tsub ((m : Int) + 1) 1 Tryz.underlying3) (fc (ix 28 cr q113 (gl hy1) (z := (((m : Int) + 1) - 1)) (hz := (by omega))) (fc (ld0 9 hM (r113 0 _ rfl)) (fc (seq 9 y1 a) f0))))) ?_
    cases h114 : (y1 == a) with
    | false =>
     have rh114 := ef h114
     refine seg 2 0 [(7, vI (((m : Int) + 1) + 1))] (fc (tadd ((m : Int) + 1) 1 Tryz.underlying3) f0) ?_
     obtain ⟨y2, hy2, g115, o115, q115, r115⟩ := hs.el (i := (m + 1)) (by omega)
     exact fewer _ (ih110 _ (by omega) (m + 1) _ (by have := gl hy2; omega) (by rw [hf, fwd_at hy1 hy2]; simp only [h114] <;> rfl) hM rfl)
    | true =>
     have rh114 := et h114
     obtain ⟨y2, hy2, g116, o116, q116, r116⟩ := hs.el (i := (m + 1)) (by omega)
     refine seg 4 17 [(31, vB (y2 == b))] (fc (ldm 28 0 5 hM rfl rfl) (fc (ix 28 cr q116 (gl hy2)) (fc (ld0 9 hM (r116 0 _ rfl)) (fc (seq 9 y2 b) f0)))) ?_
     cases h117 : (y2 == b) with
     | false =>
      have rh117 := ef h117
      refine seg 2 0 [(7, vI (((m : Int) + 1) + 1))] (fc (tadd ((m : Int) + 1) 1 Tryz.underlying3) f0) (fewer _ (ih110 _ (by omega) (m + 1) _ (by have := gl hy2; omega) (by rw [hf, fwd_at hy1 hy2]; simp only [h114, h117] <;> rfl) hM rfl))
     | true =>
      have rh117 := et h117
      exact rt1 6 (vB true) rfl f0 (hΦ _ _ ⟨by rw [hf, fwd_at hy1 hy2]; simp only [h114, h117] <;> rfl, hM.fr⟩)
  exact fewer _ (lp109 _ 0 _ (Nat.zero_le _) rfl hM rfl)
/-- A network of roads, as9 it is read. -/
structure StF (w : World) (bs ca bo br bb no nr nb : Nat) (qa : Option Addr) (prof : Bys) (os : List ObR) (T : OutT) (T2 : RdT) : Prop where
  blk : w.heap[bs]? = some (.cells #[vS prof, vL qa (AS os).length ca, .map (some bo), .map (some br), .map (some bb)] 80 (0, 0))
  arcs : SrcP arL 4 w qa ca (AS os)
  out : MapN Tryz.prog 9 w bo no (outF T)
  rows : ∀ x ∈ T, Src inL 1 w x.2.1 x.2.2
  rds : MapN Tryz.prog 9 w br nr (rdF prof T2)
  hrs : ∀ x ∈ T2, Src spL 2 w x.2 (hoursL x.1.o)
  refs : ∀ x ∈ T2, SrcP stL 1 w x.1.pr x.1.cr x.1.o.refs
  ban : MapN Tryz.prog 114 w bb nb (setT (bans prof os))
  ok : ∀ a ∈ AS os, ArcB a
theorem StF.fr {w w' : World} {bs ca bo br bb no nr nb : Nat} {qa : Option Addr} {prof : Bys} {os : List ObR} {T : OutT} {T2 : RdT} (h : StF w bs ca bo br bb no nr nb qa prof os T T2) (f : Fr (fun _ => False) w w') : StF w' bs ca bo br bb no nr nb qa prof os T T2 :=
  ⟨f.obj h.blk id, h.arcs.fr f, h.out.fr f id, fun x hx => (h.rows x hx).fr f, h.rds.fr f id, fun x hx => (h.hrs x hx).fr f, fun x hx => (h.refs x hx).fr f, h.ban.fr f id, h.ok⟩
/-- One may pass an arc behind another one. -/
def allowB (prof : Bys) (os : List ObR) (a b : Arc) : Bool := (a.2.1 == b.1) && !((bans prof os).contains (a.2.2.1, a.2.1, b.2.2.1))
theorem allowed_calls {w : World} {bs ca bo br bb no nr nb : Nat} {qa : Option Addr} {prof : Bys} {os : List ObR} {T : OutT} {T2 : RdT} (hS : StF w bs ca bo br bb no nr nb qa prof os T T2) {i k : Nat} (hi : i < (AS os).length) (hk : k < (AS os).length) : Calls Tryz.prog 66 #[vP bs 0, vI (i : Int), vI (k : Int)] w fun e w' => (∃ a b, (AS os)[i]? = some a ∧ (AS os)[k]? = some b ∧ e = .returned (vB (allowB prof os a b))) ∧ Fr (fun _ => False) w w' := by
  have bb9 := hS.arcs.bnd
  refine beg Tryz.func66 rfl rfl [(0, vP bs 0), (1, vI (i : Int)), (2, vI (k : Int))] rfl rfl fun Φ hΦ => ?_
  have hM := Mm.nil (fun _ => False) w
  obtain ⟨a9, ha9⟩ := geb (l := AS os) (i := i) hi
  obtain ⟨b9, hb9⟩ := geb (l := AS os) (i := k) hk
  refine seg 1 0 [] f0 ?_
  obtain ⟨a, ha, g120, o120, q120, r120⟩ := hS.arcs.el (i := i) (by omega)
  obtain ⟨b, hb, g121, o121, q121, r121⟩ := hS.arcs.el (i := k) (by omega)
  have hM := hM.nl
  have hM := hM.nl
  refine drx [14, 15, 16, 17] (fun γ => [some (vP (bn (γ 0)) 0), some (vP (bn (γ 1)) 0), none, none]) _ (fun γ l => [(bif l.getD 2 false then bk (bn (γ 0)) #[vS a.1, vS a.2.1, vS a.2.2.1, vI a.2.2.2] 47 else (bif l.getD 0 false then bk (bn (γ 0)) #[vS [], vS [], vS [], vI 0] 47 else nilE)), (bif l.getD 3 false then bk (bn (γ 1)) #[vS b.1, vS b.2.1, vS b.2.2.1, vI b.2.2.2] 47 else (bif l.getD 1 false then bk (bn (γ 1)) #[vS [], vS [], vS [], vI 0] 47 else nilE))]) (fun γ => [(7, vP (bn (γ 0)) 0), (8, vP (bn (γ 1)) 0)]) hM (fun γ => rfl) (fun γ l w5 hM => (fc (ld0 75 hM (bx hS.blk 1 rfl)) (fc (ix 75 ca q120 (gl ha)) (fc (la0 47 hM r120) (fc (ld0 75 hM (bx hS.blk 1 rfl)) (fc (ix 75 ca q121 (gl hb)) (fc (la0 47 hM r121) f0))))))) ⟨ar_new 0 14 0 7 (fun γ => #[vS [], vS [], vS [], vI 0]) 47 (fun b => vP b 0), ar_new 1 15 1 8 (fun γ => #[vS [], vS [], vS [], vI 0]) 47 (fun b => vP b 0), ar_st 2 16 47 0 0 (fun γ => (bn (γ 0))) (fun γ l => #[vS [], vS [], vS [], vI 0]) 47 (fun γ => .agg #[vS a.1, vS a.2.1, vS a.2.2.1, vI a.2.2.2]), ar_st 3 17 47 1 0 (fun γ => (bn (γ 1))) (fun γ l => #[vS [], vS [], vS [], vI 0]) 47 (fun γ => .agg #[vS b.1, vS b.2.1, vS b.2.2.1, vI b.2.2.2]), trivial⟩ fun γ122 w1 hM => ?_
  replace hM : Mm (fun _ => False) w w1 [bk (bn (γ122 0)) #[vS a.1, vS a.2.1, vS a.2.2.1, vI a.2.2.2] 47, bk (bn (γ122 1)) #[vS b.1, vS b.2.1, vS b.2.2.1, vI b.2.2.2] 47] := hM
  refine seg 2 0 [] f0 ?_
  cases h123 : (a.2.1 == b.1) with
  | false =>
   have rh123 := ef h123
   have hM := hM.q ((Fr.refl _ _).drew)
   refine drq [(6, vB false)] rfl (fc (ldm 9 0 1 hM rfl rfl) (fc (ldm 9 1 0 hM rfl rfl) (fc (rz (seq 9 a.2.1 b.1) h123) f0))) (rt1 6 (vB false) rfl f0 (hΦ _ _ ⟨⟨a, b, ha, hb, by unfold allowB; simp only [h123] <;> rfl⟩, hM.fr⟩))
  | true =>
   have rh123 := et h123
   have hM := hM.q ((Fr.refl _ _).drew)
   refine drq [(6, vB (!((bans prof os).contains (a.2.2.1, a.2.1, b.2.2.1))))] rfl (fc (ldm 9 0 1 hM rfl rfl) (fc (ldm 9 1 0 hM rfl rfl) (fc (rz (seq 9 a.2.1 b.1) h123) (fc (ld0 78 hM (bx hS.blk 4 rfl)) (fc (ldm 9 0 2 hM rfl rfl) (fc (ldm 9 0 1 hM rfl rfl) (fc (ldm 9 1 2 hM rfl rfl) (fc (rz2 (lkN 78 (.agg #[vS a.2.2.1, vS a.2.1, vS b.2.2.1]) (vB false) (hS.ban.fr hM.fr id) law114 Tryz.underlying78 (key114 (a := (a.2.2.1, a.2.1, b.2.2.1)) (hS.ok a (gm ha)).f3 (hS.ok a (gm ha)).f2 (hS.ok b (gm hb)).f3) (zero4 _)) (setT_look (bans prof os) (a.2.2.1, a.2.1, b.2.2.1))) f0)))))))) (rt1 6 (vB (!((bans prof os).contains (a.2.2.1, a.2.1, b.2.2.1)))) rfl f0 (hΦ _ _ ⟨⟨a, b, ha, hb, by unfold allowB; simp only [h123] <;> rfl⟩, hM.fr⟩))
def roadZ : Road := { closed := false, oneway := false, limited := false, speed := 0, hours := [], refs := [] }
/-- The road of a way. -/
def roadW (prof : Bys) (os : List ObR) (id : Bys) : Road := match (waysR os).find? fun b => b.o.id == id with
  | some b => roadO prof b.o
  | none => roadZ
theorem rd_find {prof : Bys} {os : List ObR} {T2 : RdT} (h : T2.map (·.1) = waysR os) (id : Bys) : (waysR os).find? (fun b => b.o.id == id) = (T2.find? fun x => x.1.o.id == id).map (·.1) := by
  rw [← h, List.find?_map]; rfl
theorem way_mem {os : List ObR} {a : Arc} (h : a ∈ AS os) : ∃ b, (waysR os).find? (fun b => b.o.id == a.2.2.1) = some b := by
  have ha := nub_mem h
  unfold arcsP at ha
  rw [List.mem_flatMap] at ha
  obtain ⟨b, hb, ha⟩ := ha
  unfold arcsO at ha
  cases hk : b.o.kind == 2 with
  | false => rw [hk] at ha; cases ha
  | true =>
    rw [hk] at ha
    have hid : a.2.2.1 = b.o.id := by
      have key : ∀ (l : List Ob) (rs : List Bys), a ∈ segs l b.o.id rs → a.2.2.1 = b.o.id := by
        intro l rs
        induction rs with
        | nil => intro h; cases h
        | cons x t ih =>
          intro h
          cases t with
          | nil => cases h
          | cons y t =>
            unfold segs at h
            rcases List.mem_cons.1 h with rfl | h
            · rfl
            · rcases List.mem_cons.1 h with rfl | h
              · rfl
              · exact ih h
      cases hw : wayB (isNode (pure_ os)) os b.o.id with
      | none => rw [hw] at ha; cases ha
      | some c => rw [hw] at ha; exact key _ _ ha
    cases hf : (waysR os).find? (fun b => b.o.id == a.2.2.1) with
    | some c => exact ⟨c, rfl⟩
    | none =>
      have := List.find?_eq_none.1 hf b (by unfold waysR; rw [List.mem_reverse, List.mem_filter]; exact ⟨hb, hk⟩)
      simp [hid] at this
/-- When one comes to the end of an arc. -/
def passP (prof : Bys) (os : List ObR) (a : Arc) (minute : Int) : Option Int :=
  let r := roadW prof os a.2.2.1
  bif r.closed || (r.oneway && !fwd a.1 a.2.1 r.refs) || decide (1000000000 < minute) then none
  else bif r.limited then
    (bif !((nextP r.hours minute).2) || decide (1000000000 < (nextP r.hours minute).1) then none else some ((nextP r.hours minute).1 + (a.2.2.2 + r.speed - 1) / r.speed))
  else some (minute + (a.2.2.2 + r.speed - 1) / r.speed)
theorem nextP_ge {l : List Sp} {m : Int} (h : (nextP l m).2 = true) : m ≤ (nextP l m).1 := by
  unfold nextP at h ⊢
  split at h
  · rename_i hc
    rw [if_pos hc]
    simp only [Bool.and_eq_true] at hc
    show m ≤ nextA l m
    unfold nextA
    cases hf : l.find? (fun s => decide (m % 10080 < s.2)) with
    | some s => show m ≤ m + max 0 (s.1 - m % 10080); omega
    | none =>
      show m ≤ m - m % 10080 + 10080 + (l.headD (0, 0)).1
      cases l with
      | nil => simp at hc
      | cons s l =>
        have := (vl_cons.1 hc.1.1).1
        show m ≤ m - m % 10080 + 10080 + s.1
        omega
  · cases h
theorem speed_rng (s : Bys) : 1 ≤ speedP s ∧ speedP s ≤ 9999999 := by
  unfold speedP
  split
  · rename_i n _
    cases h : decide (n < 1) || decide (9999999 < n) || !(Lib.itoa n == s) with
    | true => exact ⟨by show (1 : Int) ≤ 100; omega, by show (100 : Int) ≤ _; omega⟩
    | false =>
      simp only [Bool.or_eq_false_iff, decide_eq_false_iff_not] at h
      show 1 ≤ n ∧ n ≤ 9999999
      omega
  · omega
theorem hoursL_len (o : Ob) : (hoursL o).length ≤ 400000000 := by
  unfold hoursL hoursT
  rcases parse_cases (getT o.tags [104, 111, 117, 114, 115]).1 with ⟨c, x, hp, -⟩ | ⟨l, hp, -, hl⟩
  · rw [hp]; simp
  · rw [hp]; show l.length ≤ _; omega
theorem zero113 (w : World) : (zeroValue 113).run Tryz.prog w = .ok (.agg #[vB false, vB false, vB false, vI 0, vL none 0 0, vL none 0 0]) w := by kernel_rfl
theorem rd_look {prof : Bys} {os : List ObR} {T2 : RdT} {a : Arc} (hT : T2.map (·.1) = waysR os) (ha : a ∈ AS os) (z : Value) : ∃ x ∈ T2, (rdF prof T2 (vS a.2.2.1)).getD z = roadV prof x.1 x.2 ∧ roadW prof os a.2.2.1 = roadO prof x.1.o := by
  obtain ⟨b, hb⟩ := way_mem ha
  have h2 := rd_find (prof := prof) hT a.2.2.1
  rw [hb] at h2
  rw [rdF_at]
  cases hf : T2.find? (fun x => x.1.o.id == a.2.2.1) with
  | none => rw [hf] at h2; cases h2
  | some x =>
    rw [hf] at h2
    refine ⟨x, List.mem_of_find?_eq_some hf, rfl, ?_⟩
    unfold roadW
    rw [hb, Option.some.inj h2]
theorem pass_calls {w : World} {bs ca bo br bb no nr nb : Nat} {qa : Option Addr} {prof : Bys} {os : List ObR} {T : OutT} {T2 : RdT} (hS : StF w bs ca bo br bb no nr nb qa prof os T T2) (hT2 : T2.map (·.1) = waysR os) {i : Nat} (hi : i < (AS os).length) {mi : Int} (hm0 : 0 ≤ mi) (hm1 : mi ≤ 4000000000000000000) : Calls Tryz.prog 62 #[vP bs 0, vI (i : Int), vI mi] w fun e w' => (∃ a, (AS os)[i]? = some a ∧ e = .returned (match passP prof os a mi with | some n => .tuple #[vI n, vB true] | none => .tuple #[vI 0, vB false])) ∧ Fr (fun _ => False) w w' := by
  have bb9 := hS.arcs.bnd
  refine beg Tryz.func62 rfl rfl [(0, vP bs 0), (1, vI (i : Int)), (2, vI mi)] rfl rfl fun Φ hΦ => ?_
  have hM := Mm.nil (fun _ => False) w
  obtain ⟨a, ha, g124, o124, q124, r124⟩ := hS.arcs.el (i := i) (by omega)
  refine varm 1 7 8 [(18, .agg #[vS a.1, vS a.2.1, vS a.2.2.1, vI a.2.2.2])] [] 47 (.agg #[vS a.1, vS a.2.1, vS a.2.2.1, vI a.2.2.2]) (fc (ld0 75 hM (bx hS.blk 1 rfl)) (fc (ix 75 ca q124 (gl ha)) (fc (la0 47 hM r124) f0))) hM fun b125 w1 hM => ?_
  have hab := hS.ok a (gm ha)
  obtain ⟨x, hx, hxv, hxr⟩ := rd_look (prof := prof) hT2 (gm ha) (.agg #[vB false, vB false, vB false, vI 0, vL none 0 0, vL none 0 0])
  have hsp := speed_rng (getT x.1.o.tags [115, 112, 101, 101, 100]).1
  have hl1 := hab.pos
  have hl2 := hab.lt
  obtain ⟨spd, hspd⟩ : ∃ z, z = (roadO prof x.1.o).speed := ⟨_, rfl⟩
  have hs1 : 1 ≤ spd ∧ spd ≤ 9999999 := hspd ▸ hsp
  obtain ⟨qh, ch, hhv, -⟩ := (hS.hrs x hx).op
  have hxw : (rdF prof T2 (vS a.2.2.1)).getD (.agg #[vB false, vB false, vB false, vI 0, vL none 0 0, vL none 0 0]) = .agg #[vB (roadO prof x.1.o).closed, vB (roadO prof x.1.o).oneway, vB (roadO prof x.1.o).limited, vI spd, vL qh (hoursL x.1.o).length ch, vL x.1.pr x.1.o.refs.length x.1.cr] := by rw [hxv, hspd, hhv]
  refine seg 2 0 [] f0 ?_
  have hM := hM.nl
  refine drx [7, 8] (fun γ => [some (vP (bn (γ 0)) 0), none]) _ (fun γ l => [bk b125 #[vS a.1, vS a.2.1, vS a.2.2.1, vI a.2.2.2] 47, (bif l.getD 1 false then bk (bn (γ 0)) #[vB (roadO prof x.1.o).closed, vB (roadO prof x.1.o).oneway, vB (roadO prof x.1.o).limited, vI spd, vL qh (hoursL x.1.o).length ch, vL x.1.pr x.1.o.refs.length x.1.cr] 113 else (bif l.getD 0 false then bk (bn (γ 0)) #[vB false, vB false, vB false, vI 0, vL none 0 0, vL none 0 0] 113 else nilE))]) (fun γ => [(9, vP (bn (γ 0)) 0)]) hM (fun γ => rfl) (fun γ l w5 hM => (fc (ld0 77 hM (bx hS.blk 3 rfl)) (fc (ldm 9 0 2 hM rfl rfl) (fc (rz2 (lkN 77 (vS a.2.2.1) (.agg #[vB false, vB false, vB false, vI 0, vL none 0 0, vL none 0 0]) (hS.rds.fr hM.fr id) law9 Tryz.underlying77 (key9 hab.f3) (zero113 _)) hxw) f0)))) ⟨ar_new 0 7 1 9 (fun γ => #[vB false, vB false, vB false, vI 0, vL none 0 0, vL none 0 0]) 113 (fun b => vP b 0), ar_st 1 8 113 1 0 (fun γ => (bn (γ 0))) (fun γ l => #[vB false, vB false, vB false, vI 0, vL none 0 0, vL none 0 0]) 113 (fun γ => .agg #[vB (roadO prof x.1.o).closed, vB (roadO prof x.1.o).oneway, vB (roadO prof x.1.o).limited, vI spd, vL qh (hoursL x.1.o).length ch, vL x.1.pr x.1.o.refs.length x.1.cr]), trivial⟩ fun γ126 w1 hM => ?_
  replace hM : Mm (fun _ => False) w w1 [bk b125 #[vS a.1, vS a.2.1, vS a.2.2.1, vI a.2.2.2] 47, bk (bn (γ126 0)) #[vB (roadO prof x.1.o).closed, vB (roadO prof x.1.o).oneway, vB (roadO prof x.1.o).limited, vI spd, vL qh (hoursL x.1.o).length ch, vL x.1.pr x.1.o.refs.length x.1.cr] 113] := hM
  refine seg 3 3 [(28, vB (roadO prof x.1.o).closed)] (fc (ldm 4 1 0 hM rfl rfl) f0) ?_
  cases h127 : (roadO prof x.1.o).closed with
  | false =>
   refine seg 3 6 [(31, vB (roadO prof x.1.o).oneway)] (fc (ldm 4 1 1 hM rfl rfl) f0) ?_
   cases h128 : (roadO prof x.1.o).oneway with
   | false =>
    refine seg 3 19 [(44, vB (decide (1000000000 < mi)))] f0 ?_
    cases h129 : (decide (1000000000 < mi)) with
    | false =>
     have rh129 := df h129
     refine seg 5 2 [(46, vB (roadO prof x.1.o).limited)] (fc (ldm 4 1 2 hM rfl rfl) f0) ?_
     cases h130 : (roadO prof x.1.o).limited with
     | false =>
      have hq0 : 0 ≤ ((a.2.2.2 + spd) - 1) / spd := Int.ediv_nonneg (by omega) (by omega)
      have hq1 : ((a.2.2.2 + spd) - 1) / spd ≤ (a.2.2.2 + spd) - 1 := Int.ediv_le_self _ (by omega)
      exact rt2 6 7 (vI (mi + (((a.2.2.2 + spd) - 1) / spd))) (vB true) rfl rfl (fc (ldm 3 0 3 hM rfl rfl) (fc (ldm 3 1 3 hM rfl rfl) (fc (tadd a.2.2.2 spd Tryz.underlying3) (fc (tsub (a.2.2.2 + spd) 1 Tryz.underlying3) (fc (ldm 3 1 3 hM rfl rfl) (fc (tquo ((a.2.2.2 + spd) - 1) spd Tryz.underlying3) (fc (tadd mi (((a.2.2.2 + spd) - 1) / spd) Tryz.underlying3) f0))))))) (hΦ _ _ ⟨⟨a, ha, by unfold passP; simp only [hxr, show (roadO prof x.1.o).refs = x.1.o.refs from rfl, show (roadO prof x.1.o).hours = hoursL x.1.o from rfl, ← hspd, h127, h128, h129, h130] <;> rfl⟩, hM.fr⟩)
     | true =>
      refine calm 6 3 51 [(49, vL qh (hoursL x.1.o).length ch), (50, vI mi)] (fc (ldm 48 1 4 hM rfl rfl) f0) hM (next_calls (hhv ▸ (hS.hrs x hx).fr hM.fr) (hoursL_len _) mi) fun w1 hM => seg 7 3 [(10, vI (nextP (hoursL x.1.o) mi).1), (56, vB (!(nextP (hoursL x.1.o) mi).2))] f0 ?_
      cases h131 : (nextP (hoursL x.1.o) mi).2 with
      | false =>
       exact rt2 6 7 (vI 0) (vB false) rfl rfl f0 (hΦ _ _ ⟨⟨a, ha, by unfold passP; simp only [hxr, show (roadO prof x.1.o).refs = x.1.o.refs from rfl, show (roadO prof x.1.o).hours = hoursL x.1.o from rfl, ← hspd, h127, h128, h129, h130, h131] <;> rfl⟩, hM.fr⟩)
      | true =>
       refine seg 7 6 [(59, vB (decide (1000000000 < (nextP (hoursL x.1.o) mi).1)))] f0 ?_
       cases h132 : (decide (1000000000 < (nextP (hoursL x.1.o) mi).1)) with
       | false =>
        have rh132 := df h132
        have hng := nextP_ge h131
        have hq0 : 0 ≤ ((a.2.2.2 + spd) - 1) / spd := Int.ediv_nonneg (by omega) (by omega)
        have hq1 : ((a.2.2.2 + spd) - 1) / spd ≤ (a.2.2.2 + spd) - 1 := Int.ediv_le_self _ (by omega)
        exact rt2 6 7 (vI ((nextP (hoursL x.1.o) mi).1 + (((a.2.2.2 + spd) - 1) / spd))) (vB true) rfl rfl (fc (ldm 3 0 3 hM rfl rfl) (fc (ldm 3 1 3 hM rfl rfl) (fc (tadd a.2.2.2 spd Tryz.underlying3) (fc (tsub (a.2.2.2 + spd) 1 Tryz.underlying3) (fc (ldm 3 1 3 hM rfl rfl) (fc (tquo ((a.2.2.2 + spd) - 1) spd Tryz.underlying3) (fc (tadd (nextP (hoursL x.1.o) mi).1 (((a.2.2.2 + spd) - 1) / spd) Tryz.underlying3) f0))))))) (hΦ _ _ ⟨⟨a, ha, by unfold passP; simp only [hxr, show (roadO prof x.1.o).refs = x.1.o.refs from rfl, show (roadO prof x.1.o).hours = hoursL x.1.o from rfl, ← hspd, h127, h128, h129, h130, h131, h132] <;> rfl⟩, hM.fr⟩)
       | true =>
        have rh132 := dt h132
        exact rt2 6 7 (vI 0) (vB false) rfl rfl f0 (hΦ _ _ ⟨⟨a, ha, by unfold passP; simp only [hxr, show (roadO prof x.1.o).refs = x.1.o.refs from rfl, show (roadO prof x.1.o).hours = hoursL x.1.o from rfl, ← hspd, h127, h128, h129, h130, h131, h132] <;> rfl⟩, hM.fr⟩)
    | true =>
     have rh129 := dt h129
     exact rt2 6 7 (vI 0) (vB false) rfl rfl f0 (hΦ _ _ ⟨⟨a, ha, by unfold passP; simp only [hxr, show (roadO prof x.1.o).refs = x.1.o.refs from rfl, show (roadO prof x.1.o).hours = hoursL x.1.o from rfl, ← hspd, h127, h128, h129] <;> rfl⟩, hM.fr⟩)
   | true =>
    refine calm 3 11 37 [(32, .agg #[vB (roadO prof x.1.o).closed, vB (roadO prof x.1.o).oneway, vB (roadO prof x.1.o).limited, vI spd, vL qh (hoursL x.1.o).length ch, vL x.1.pr x.1.o.refs.length x.1.cr]), (34, vS a.1), (36, vS a.2.1)] (fc (lam 113 1 0 6 hM rfl) (fc (ldm 9 0 0 hM rfl rfl) (fc (ldm 9 0 1 hM rfl rfl) f0))) hM (forward_calls (cl := (roadO prof x.1.o).closed) (ow := (roadO prof x.1.o).oneway) (li := (roadO prof x.1.o).limited) (sp := spd) (hv := vL qh (hoursL x.1.o).length ch) ((hS.refs x hx).fr hM.fr) a.1 a.2.1) fun w1 hM => seg 3 16 [(41, vB (!(fwd a.1 a.2.1 x.1.o.refs)))] f0 ?_
    cases h133 : (fwd a.1 a.2.1 x.1.o.refs) with
    | false =>
     exact rt2 6 7 (vI 0) (vB false) rfl rfl f0 (hΦ _ _ ⟨⟨a, ha, by unfold passP; simp only [hxr, show (roadO prof x.1.o).refs = x.1.o.refs from rfl, show (roadO prof x.1.o).hours = hoursL x.1.o from rfl, ← hspd, h127, h128, h133] <;> rfl⟩, hM.fr⟩)
    | true =>
     refine seg 3 19 [(44, vB (decide (1000000000 < mi)))] f0 ?_
     cases h134 : (decide (1000000000 < mi)) with
     | false =>
      have rh134 := df h134
      refine seg 5 2 [(46, vB (roadO prof x.1.o).limited)] (fc (ldm 4 1 2 hM rfl rfl) f0) ?_
      cases h135 : (roadO prof x.1.o).limited with
      | false =>
       have hq0 : 0 ≤ ((a.2.2.2 + spd) - 1) / spd := Int.ediv_nonneg (by omega) (by omega)
       have hq1 : ((a.2.2.2 + spd) - 1) / spd ≤ (a.2.2.2 + spd) - 1 := Int.ediv_le_self _ (by omega)
       exact rt2 6 7 (vI (mi + (((a.2.2.2 + spd) - 1) / spd))) (vB true) rfl rfl (fc (ldm 3 0 3 hM rfl rfl) (fc (ldm 3 1 3 hM rfl rfl) (fc (tadd a.2.2.2 spd Tryz.underlying3) (fc (tsub (a.2.2.2 + spd) 1 Tryz.underlying3) (fc (ldm 3 1 3 hM rfl rfl) (fc (tquo ((a.2.2.2 + spd) - 1) spd Tryz.underlying3) (fc (tadd mi (((a.2.2.2 + spd) - 1) / spd) Tryz.underlying3) f0))))))) (hΦ _ _ ⟨⟨a, ha, by unfold passP; simp only [hxr, show (roadO prof x.1.o).refs = x.1.o.refs from rfl, show (roadO prof x.1.o).hours = hoursL x.1.o from rfl, ← hspd, h127, h128, h133, h134, h135] <;> rfl⟩, hM.fr⟩)
      | true =>
       refine calm 6 3 51 [(49, vL qh (hoursL x.1.o).length ch), (50, vI mi)] (fc (ldm 48 1 4 hM rfl rfl) f0) hM (next_calls (hhv ▸ (hS.hrs x hx).fr hM.fr) (hoursL_len _) mi) fun w1 hM => seg 7 3 [(10, vI (nextP (hoursL x.1.o) mi).1), (56, vB (!(nextP (hoursL x.1.o) mi).2))] f0 ?_
       cases h136 : (nextP (hoursL x.1.o) mi).2 with
       | false =>
        exact rt2 6 7 (vI 0) (vB false) rfl rfl f0 (hΦ _ _ ⟨⟨a, ha, by unfold passP; simp only [hxr, show (roadO prof x.1.o).refs = x.1.o.refs from rfl, show (roadO prof x.1.o).hours = hoursL x.1.o from rfl, ← hspd, h127, h128, h133, h134, h135, h136] <;> rfl⟩, hM.fr⟩)
       | true =>
        refine seg 7 6 [(59, vB (decide (1000000000 < (nextP (hoursL x.1.o) mi).1)))] f0 ?_
        cases h137 : (decide (1000000000 < (nextP (hoursL x.1.o) mi).1)) with
        | false =>
         have rh137 := df h137
         have hng := nextP_ge h136
         have hq0 : 0 ≤ ((a.2.2.2 + spd) - 1) / spd := Int.ediv_nonneg (by omega) (by omega)
         have hq1 : ((a.2.2.2 + spd) - 1) / spd ≤ (a.2.2.2 + spd) - 1 := Int.ediv_le_self _ (by omega)
         exact rt2 6 7 (vI ((nextP (hoursL x.1.o) mi).1 + (((a.2.2.2 + spd) - 1) / spd))) (vB true) rfl rfl (fc (ldm 3 0 3 hM rfl rfl) (fc (ldm 3 1 3 hM rfl rfl) (fc (tadd a.2.2.2 spd Tryz.underlying3) (fc (tsub (a.2.2.2 + spd) 1 Tryz.underlying3) (fc (ldm 3 1 3 hM rfl rfl) (fc (tquo ((a.2.2.2 + spd) - 1) spd Tryz.underlying3) (fc (tadd (nextP (hoursL x.1.o) mi).1 (((a.2.2.2 + spd) - 1) / spd) Tryz.underlying3) f0))))))) (hΦ _ _ ⟨⟨a, ha, by unfold passP; simp only [hxr, show (roadO prof x.1.o).refs = x.1.o.refs from rfl, show (roadO prof x.1.o).hours = hoursL x.1.o from rfl, ← hspd, h127, h128, h133, h134, h135, h136, h137] <;> rfl⟩, hM.fr⟩)
        | true =>
         have rh137 := dt h137
         exact rt2 6 7 (vI 0) (vB false) rfl rfl f0 (hΦ _ _ ⟨⟨a, ha, by unfold passP; simp only [hxr, show (roadO prof x.1.o).refs = x.1.o.refs from rfl, show (roadO prof x.1.o).hours = hoursL x.1.o from rfl, ← hspd, h127, h128, h133, h134, h135, h136, h137] <;> rfl⟩, hM.fr⟩)
     | true =>
      have rh134 := dt h134
      exact rt2 6 7 (vI 0) (vB false) rfl rfl f0 (hΦ _ _ ⟨⟨a, ha, by unfold passP; simp only [hxr, show (roadO prof x.1.o).refs = x.1.o.refs from rfl, show (roadO prof x.1.o).hours = hoursL x.1.o from rfl, ← hspd, h127, h128, h133, h134] <;> rfl⟩, hM.fr⟩)
  | true =>
   exact rt2 6 7 (vI 0) (vB false) rfl rfl f0 (hΦ _ _ ⟨⟨a, ha, by unfold passP; simp only [hxr, show (roadO prof x.1.o).refs = x.1.o.refs from rfl, show (roadO prof x.1.o).hours = hoursL x.1.o from rfl, ← hspd, h127] <;> rfl⟩, hM.fr⟩)
end Go.Proofs.YtbflfefahheidaaGreatDoor
/- Loops over maps; appends in regions that draw whose slice is stored. Over whatever program. -/
set_option linter.unusedVariables false
set_option linter.unusedSimpArgs false
namespace Go.Pl
open Go.RowKit
section
variable {P : Program} {B : Code} {R : Pst} {ds : List Deferred} {n : Nat} {p : Option (Nat × Nat)} {L N : Frm} {w w0 : World} {F : List Ft} {F0 : Nat → Prop} {M : List Ent} {r' i' : Nat}
/-- What stands at a place: an operation of one operand. -/
def oneAt (n : Nat) (LL : Frm) (f : Operand → Op) : Md → Option (Option Nat × Option Bool × Op × Op × Option Value)
 | .ops _ O (o :: _) _ _ => match o.op.operands[0]? with
  | some x => some (o.dst, wantL O LL n o, o.op, f x, opv LL x)
  | _ => none
 | _ => none
def oneL (x : Res) (n : Nat) (L : Frm) (f : Operand → Op) : Option (Option Nat × Option Bool × Op × Option Value) :=
 match x with
 | some (m, nw, _, _) => match oneAt n (nw ++ L) f m with
  | some (d, wt, a, b, u) => some (d, wt, a, u)
  | none => none
 | none => none
def oneR (x : Res) (n : Nat) (L : Frm) (f : Operand → Op) (d : Option Nat) (v : Value) : Option (Option Nat × Option Bool × Op × Option Value) :=
 match x with
 | some (m, nw, _, _) => match oneAt n (nw ++ L) f m with
  | some (_, _, _, b, _) => some (d, some true, b, some v)
  | none => some (none, none, f (.tmp 0), none)
 | none => some (none, none, f (.tmp 0), none)
/-- An operation of one operand at a place, told from outside. -/
theorem one_at {f : Operand → Op} {d : Option Nat} {v : Value} (hF : AllF P w F)
  (h : (lhs (go P w n B p L r' i' F) N L, oneL (go P w n B p L r' i' F) n L f) = (rhs (go P w n B p L r' i' F) N B r' i', oneR (go P w n B p L r' i' F) n L f d v))
  (k : ∀ (O : Array Oper) (kk : List Kon) (o : Oper) (l : List Oper) (a : Act) x, findR r' B [] = some (O, false, kk) → O.toList.drop i' = o :: l → EnvS ds n (N ++ L) a → o.dst = d → Region.wanted o (yielded O a.tmps) = true → o.op = f x → a.eval x = v → wpListIn (fen R.rd) 0 P O (post P R kk) (o :: l) a w) : AtO P B R ds n p L w := by
 obtain ⟨h1, h2⟩ := Prod.mk.inj h
 obtain ⟨m, nw, fs, es, hx, hE, ⟨z, hl, ht⟩, hs⟩ := chk_out h1
 rw [hx] at h2
 refine go_ok hx hF hE fun a E => ?_
 unfold oneL oneR at h2
 simp only at h2
 cases hta : oneAt n (nw ++ L) f m with
 | none => rw [hta] at h2; cases h2
 | some q =>
  obtain ⟨d1, wt, oa, ob, u1⟩ := q
  rw [hta] at h2
  simp only [Option.some.injEq, Prod.mk.injEq] at h2
  obtain ⟨rfl, rfl, rfl, rfl⟩ := h2
  cases m with
  | ops r O l i k1 =>
   cases l with
   | nil => cases hta
   | cons o l =>
    unfold oneAt at hta
    simp only at hta
    split at hta
    ·rename_i x hx0
     simp only [Option.some.injEq, Prod.mk.injEq] at hta
     obtain ⟨q1, q3, q4, q5, q6⟩ := hta
     unfold tgtOf at ht
     cases hf : findR r' B [] with
     | none => rw [hf] at ht; cases ht
     | some z1 =>
      obtain ⟨O1, dr, kk⟩ := z1
      rw [hf] at ht
      cases dr with
      | true =>
       cases i' with
       | zero => cases ht; cases hl
       | succ i' => cases ht
      | false =>
       cases ht
       have hl : (some (O, false, k1, o :: l, 0) : Option (Array Oper × Bool × List Kon × List Oper × Nat)) = some (O1, false, kk, O1.toList.drop i', 0) := hl
       simp only [Option.some.injEq, Prod.mk.injEq] at hl
       obtain ⟨rfl, _, rfl, hl, _⟩ := hl
       exact k O k1 o l a x hf hl.symm (E.sub hs) q1 (want_true q3 E) (q4.trans q5.symm) (E.opv q6)
    ·cases hta
  | _ => cases hta
theorem run_range_ {T : TypeId} {o : Oper} {ρ : Operand → Value} {x : Operand} {b : Nat} {v : Value} {w' : World} (h : (Instr.range T (.map (some b))).run P w = .ok v w') (ho : o.op = .range T x) (hx : ρ x = .map (some b)) : (execOp ρ o).run P w = .ok (.value v) w' := by
 simp [execOp, ho, hx, h, Result.andThen]
theorem run_next_ {o : Oper} {ρ : Operand → Value} {x : Operand} {r : Nat} {v : Value} {w' : World} (h : (Instr.next (.pointer (some ⟨r, 0, none⟩)) false o.type).run P w = .ok v w') (ho : o.op = .next x false) (hx : ρ x = .pointer (some ⟨r, 0, none⟩)) : (execOp ρ o).run P w = .ok (.value v) w' := by
 simp [execOp, ho, hx, h, Result.andThen]
theorem run_entry_ {o : Oper} {ρ : Operand → Value} {x : Operand} {r : Nat} {v : Value} (h : (Instr.entry (.pointer (some ⟨r, 0, none⟩))).run P w = .ok v w) (ho : o.op = .entry x) (hx : ρ x = .pointer (some ⟨r, 0, none⟩)) : (execOp ρ o).run P w = .ok (.value v) w := by
 simp [execOp, ho, hx, h, Result.andThen]
/-- A map over which one ranges. -/
def rngE (P : Program) (K : TypeId) (b r n : Nat) (m : Value → Option Value) (left : Value → Prop) (cnt : Nat) : Ent where
 B k := k = b ∨ k = r
 H w := Rng P K w b r m left cnt ∧ MapN P K w b n m
 lt h e := by rcases e with rfl | rfl; exact h.2.lt; exact h.1.lt
 fr h f hn := ⟨h.1.fr f (hn _ (.inl rfl)) (hn _ (.inr rfl)), h.2.fr f (hn _ (.inl rfl))⟩
/-- The loop begins. -/
theorem rgm (r' i' d : Nat) (N : Frm) (T j : Nat) {K e : TypeId} {b c : Nat} {m : Value → Option Value} (hd : d < n) (hF : AllF P w F) (hM : Mm F0 w0 w M) (hj : M[j]? = some (mp P K b c m)) (ht : P.underlying T = some (.map K e))
  (kk : ∀ r cnt w', Mm F0 w0 w' (M.set j (rngE P K b r c m (fun k => (m k).isSome = true) cnt)) → AtO P B R ds n (some (r', i' + 1)) ((d, vP r 0) :: (N ++ L)) w')
  (h : (lhs (go P w n B p L r' i' F) N L, oneL (go P w n B p L r' i' F) n L (fun x => .range T x)) = (rhs (go P w n B p L r' i' F) N B r' i', oneR (go P w n B p L r' i' F) n L (fun x => .range T x) (some d) (.map (some b))) := by kernel_rfl) : AtO P B R ds n p L w := by
 refine one_at hF h fun O k1 o l a x hf hd1 En hdd hw ho hx => ?_
 have hm : MapN P K w b c m := hM.get j hj
 obtain ⟨ob, cnt, hr, hR⟩ := hm.at.range ht
 refine sf_val hw (run_range_ hr ho hx) ?_
 rw [hdd]
 have f1 : Fr (fun _ => False) w (w.alloc ob) := (Fr.refl _ _).alloc _
 have hM' := hM.put (w' := w.alloc ob) j (e' := rngE P K b w.heap.size c m (fun k => (m k).isSome = true) cnt) hj f1 (fun _ _ h => h.elim) ⟨hR, hm.fr f1 id⟩ fun k e => by
  rcases e with rfl | rfl
  ·exact .inl rfl
  ·exact .inr (Nat.le_refl _)
 obtain ⟨O1, dr, k2, hf1, hk⟩ := kk _ _ _ hM'
 rw [hf] at hf1
 cases hf1
 have hdr : O.toList.drop (i' + 1) = l := by rw [← List.tail_drop, hd1]; rfl
 rw [← hdr]
 exact hk _ (En.put hd)
/-- The next entry, or none. -/
theorem nxm (r' i' d : Nat) (N : Frm) (j : Nat) {K : TypeId} {b r c cnt : Nat} {m : Value → Option Value} {left : Value → Prop} (hd : d < n) (hF : AllF P w F) (hM : Mm F0 w0 w M) (hj : M[j]? = some (rngE P K b r c m left cnt))
  (k1 : (∀ k, ¬ left k) → AtO P B R ds n (some (r', i' + 1)) ((d, .tuple #[vB false]) :: (N ++ L)) w)
  (k2 : ∀ key v cnt' w', left key → m key = some v → (∃ l, keyOf P K key = some l) → cnt' < cnt → Mm F0 w0 w' (M.set j (rngE P K b r c m (fun x => left x ∧ x ≠ key) cnt')) → (Instr.entry (.pointer (some ⟨r, 0, none⟩))).run P w' = .ok (.tuple #[key, v]) w' → AtO P B R ds n (some (r', i' + 1)) ((d, .tuple #[vB true, key, v]) :: (N ++ L)) w')
  (h : (lhs (go P w n B p L r' i' F) N L, oneL (go P w n B p L r' i' F) n L (fun x => .next x false)) = (rhs (go P w n B p L r' i' F) N B r' i', oneR (go P w n B p L r' i' F) n L (fun x => .next x false) (some d) (vP r 0)) := by kernel_rfl) : AtO P B R ds n p L w := by
 refine one_at hF h fun O k1' o l a x hf hd1 En hdd hw ho hx => ?_
 have hdr : O.toList.drop (i' + 1) = l := by rw [← List.tail_drop, hd1]; rfl
 obtain ⟨hR, hm⟩ : Rng P K w b r m left cnt ∧ MapN P K w b c m := hM.get j hj
 rcases hR.next o.type with ⟨h0, hr⟩ | ⟨key, v, w', cnt', g1, g2, g3, hr, g4, g5, g6, g7⟩
 ·refine sf_val hw (run_next_ hr ho hx) ?_
  rw [hdd]
  obtain ⟨O1, dr, k2, hf1, hk⟩ := k1 h0
  rw [hf] at hf1
  cases hf1
  rw [← hdr]
  exact hk _ (En.put hd)
 ·refine sf_val hw (run_next_ hr ho hx) ?_
  rw [hdd]
  have hM' := hM.put (w' := w') j (e' := rngE P K b r c m (fun x => left x ∧ x ≠ key) cnt') hj g6 (fun k _ e => .inr e) ⟨g4, hm.fr g6 (fun e => hR.ne e.symm)⟩ fun k e => .inl e
  obtain ⟨O1, dr, k2, hf1, hk⟩ := k2 _ _ _ _ g1 g2 g3 g5 hM' g7
  rw [hf] at hf1
  cases hf1
  rw [← hdr]
  exact hk _ (En.put hd)
/-- The entry that was met, once more. -/
theorem op_entry {r : Nat} {key v : Value} (h : (Instr.entry (.pointer (some ⟨r, 0, none⟩))).run P w = .ok (.tuple #[key, v]) w) : Ft.ok P w (.g1 (fun x => .entry x) (vP r 0) (.tuple #[key, v])) := fun o ρ x ho hx => run_entry_ h ho hx
/-- Behind the loop the map is a map again. -/
theorem Mm.unrng {K : TypeId} {b r c cnt j : Nat} {m : Value → Option Value} {left : Value → Prop} (hM : Mm F0 w0 w M) (hj : M[j]? = some (rngE P K b r c m left cnt)) : Mm F0 w0 w (M.set j (mp P K b c m)) :=
 hM.put j hj (Fr.refl (fun _ => False) _) (fun _ _ h => h.elim) (show MapN P K w b c m from (hM.get j hj).2) fun k e => .inl (.inl e)
end
/-! ### appends whose slice is known to be one -/
def slp : Value → Option Addr
 | .slice p _ _ => p
 | _ => none
def slc : Value → Nat
 | .slice _ _ c => c
 | _ => 0
section
variable {P : Program} {w w0 : World} {rd : Option Nat} {B : Code} {r n : Nat} {L : Frm} {ef : List Nat} {V : Lts → List (Option Value)} {F : Lts → List Ft} {ds : List Deferred} {F0 : Nat → Prop} {Mf : Lts → List Bool → List Ent}
theorem ar_appv {α : Type} {f : α → List Value} {c : Nat} (p i j d T E G : Nat) (v : Lts → Value) (A S : List α) (q : Lts → Nat) (cap : Nat) (X : ElT P f c T E) (hl : A.length + S.length ≤ 1500000000000)
  (hsrc : ∀ γ fr wm, Mm F0 w0 wm (Mf γ (flg B r ef i fr)) → srcAt f c wm (q γ + 1) (some ⟨q γ, 0, none⟩) S)
  (hj : ∀ γ fr, (Mf γ (flg B r ef i fr))[j]? = some (rw_ f c E (v γ) A) := by intro γ fr; kernel_rfl)
  (hm : ∀ γ fr p' c', (Mf γ (flg B r ef i fr)).set j (rw_ f c E (vL p' (A ++ S).length c') (A ++ S)) = Mf (setL γ p (vL p' (A ++ S).length c')) ((flg B r ef i fr).set p true) := by intro γ fr p' c'; kernel_rfl)
  (hV : ∀ γ p' c', ((V (setL γ p (vL p' (A ++ S).length c')))[p]?).getD none = some (vL p' (A ++ S).length c') := by intro γ p' c'; rfl)
  (hs : ∀ γ, st2L (opsR B r) i (frX P w n B r L ef V F i γ) = st2R (opsR B r) i (fun x y => .call { callee := .builtin .append, args := #[x, y], argTypes := #[T, T] }) (v γ) (.slice (some ⟨q γ, 0, none⟩) S.length cap) (some d) := by intro γ; kernel_rfl) : Arm rd P w n B r L ef V F ds F0 w0 Mf p i := by
 intro γ fr a wm Q o ho En hw hM
 obtain ⟨x, y, h1, h2, h3, h4⟩ := st2_of ho En (hs γ)
 have hrow : ow f c E wm 0 (v γ) A := hM.get j (hj γ fr)
 obtain ⟨w', v', g1, g2, g3, g4⟩ := appRun X h1 h2 hrow h3 (hsrc γ fr wm hM) (by simp) hl (Nat.zero_le _)
 have hM' := hM.put (w' := w') j (e' := rw_ f c E v' (A ++ S)) (hj γ fr) g3 (fun k _ e => e) g2 (fun k e => by
  have e : v'.ownBlock = some k := e
  rcases g4 with h3 | h3
  ·exact .inl (by rw [h3] at e; exact e)
  ·rw [h3] at e; cases e; exact .inr (Nat.le_refl _))
 obtain ⟨p', c', hv, -⟩ := g2.src X.len
 subst hv
 rw [hm] at hM'
 exact wp_value g1 ⟨vL p' (A ++ S).length c', γ.e p, by rw [setE_sl, hV, h4]; rfl, by rw [setE_sl]; exact hM'⟩
end
/-! ### methods through an interface -/
section
variable {P : Program} {B : Code} {R : Pst} {ds : List Deferred} {n : Nat} {p : Option (Nat × Nat)} {L N : Frm} {w w0 : World} {F : List Ft} {F0 : Nat → Prop} {M A Ms : List Ent}
abbrev Mth (P : Program) (w : World) (t : TypeId) (v : Value) (name : String) (f : FuncId) (rv : Value) : Prop := (method (P.types.size + 100) t v name).run P w = .ok (f, rv) w
section
variable {o : Oper} {ρ : Operand → Value} {x y z : Operand} {t : TypeId} {v rv u1 u2 : Value} {f : FuncId} {name : String} {ts : Array TypeId}
theorem run_inv0_ (hm : Mth P w t v name f rv) (eg : Ent1 P f) (ho : o.op = .call ⟨.invoke x name, #[], ts⟩) (hx : ρ x = .iface t v) : (execOp ρ o).run P w = .ok (.enter f #[rv]) w := by
 have hm : (method (P.types.size + 100) t v name).run P w = .ok (f, rv) w := hm
 simp [execOp, ho, hx, resolve, invoke, callMethod, go_sem, hm, eg]
theorem run_inv1_ (hm : Mth P w t v name f rv) (eg : Ent1 P f) (ho : o.op = .call ⟨.invoke x name, #[y], ts⟩) (hx : ρ x = .iface t v) (hy : ρ y = u1) : (execOp ρ o).run P w = .ok (.enter f #[rv, u1]) w := by
 have hm : (method (P.types.size + 100) t v name).run P w = .ok (f, rv) w := hm
 simp [execOp, ho, hx, hy, resolve, invoke, callMethod, go_sem, hm, eg]
theorem run_inv2_ (hm : Mth P w t v name f rv) (eg : Ent1 P f) (ho : o.op = .call ⟨.invoke x name, #[y, z], ts⟩) (hx : ρ x = .iface t v) (hy : ρ y = u1) (hz : ρ z = u2) : (execOp ρ o).run P w = .ok (.enter f #[rv, u1, u2]) w := by
 have hm : (method (P.types.size + 100) t v name).run P w = .ok (f, rv) w := hm
 simp [execOp, ho, hx, hy, hz, resolve, invoke, callMethod, go_sem, hm, eg]
end
theorem inv0 (r' i' d : Nat) (N : Frm) (name : String) (ts : Array TypeId) {t : TypeId} {v rv : Value} {f : FuncId} {K : Value → World → Prop} (hd : d < n) (hF : AllF P w F) (hm : Mth P w t v name f rv) (eg : Ent1 P f) (hc : Calls P f #[rv] w fun e w' => ∃ u, e = .returned u ∧ K u w') (k : ∀ u w', K u w' → AtO P B R ds n (some (r', i' + 1)) ((d, u) :: (N ++ L)) w')
  (h : (lhs (go P w n B p L r' i' F) N L, oneL (go P w n B p L r' i' F) n L (fun x => .call ⟨.invoke x name, #[], ts⟩)) = (rhs (go P w n B p L r' i' F) N B r' i', oneR (go P w n B p L r' i' F) n L (fun x => .call ⟨.invoke x name, #[], ts⟩) (some d) (.iface t v)) := by kernel_rfl) : AtO P B R ds n p L w :=
 one_at hF h fun O kk o l a x hf hd1 E hdd hw ho hx => by
  refine sf_call hw (run_inv0_ hm eg ho hx) hc fun u w' hK => ?_
  obtain ⟨O1, dr, k1, hf1, hk⟩ := k u w' hK
  rw [hf] at hf1
  cases hf1
  have := hk _ (E.put (v := u) hd)
  rw [hdd]
  have hdr : O.toList.drop (i' + 1) = l := by rw [← List.tail_drop, hd1]; rfl
  rw [← hdr]; exact this
theorem inv1 (r' i' d : Nat) (N : Frm) (name : String) (ts : Array TypeId) {t : TypeId} {v rv u1 : Value} {f : FuncId} {K : Value → World → Prop} (hd : d < n) (hF : AllF P w F) (hm : Mth P w t v name f rv) (eg : Ent1 P f) (hc : Calls P f #[rv, u1] w fun e w' => ∃ u, e = .returned u ∧ K u w') (k : ∀ u w', K u w' → AtO P B R ds n (some (r', i' + 1)) ((d, u) :: (N ++ L)) w')
  (h : (lhs (go P w n B p L r' i' F) N L, twoL (go P w n B p L r' i' F) n L (fun x y => .call ⟨.invoke x name, #[y], ts⟩)) = (rhs (go P w n B p L r' i' F) N B r' i', twoR (go P w n B p L r' i' F) n L (fun x y => .call ⟨.invoke x name, #[y], ts⟩) (some d) false (.iface t v) u1) := by kernel_rfl) : AtO P B R ds n p L w :=
 two_at hF h fun O kk o l a x y hf hd1 E hdd _ hw ho hx hy => by
  refine sf_call hw (run_inv1_ hm eg ho hx hy) hc fun u w' hK => ?_
  obtain ⟨O1, dr, k1, hf1, hk⟩ := k u w' hK
  rw [hf] at hf1
  cases hf1
  have := hk _ (E.put (v := u) hd)
  rw [hdd]
  have hdr : O.toList.drop (i' + 1) = l := by rw [← List.tail_drop, hd1]; rfl
  rw [← hdr]; exact this
theorem inv2 (r' i' d : Nat) (N : Frm) (name : String) (ts : Array TypeId) {t : TypeId} {v rv u1 u2 : Value} {f : FuncId} {K : Value → World → Prop} (hd : d < n) (hF : AllF P w F) (hm : Mth P w t v name f rv) (eg : Ent1 P f) (hc : Calls P f #[rv, u1, u2] w fun e w' => ∃ u, e = .returned u ∧ K u w') (k : ∀ u w', K u w' → AtO P B R ds n (some (r', i' + 1)) ((d, u) :: (N ++ L)) w')
  (h : (lhs (go P w n B p L r' i' F) N L, thrL (go P w n B p L r' i' F) n L (fun x y z => .call ⟨.invoke x name, #[y, z], ts⟩)) = (rhs (go P w n B p L r' i' F) N B r' i', thrR (go P w n B p L r' i' F) n L (fun x y z => .call ⟨.invoke x name, #[y, z], ts⟩) (some d) (.iface t v) u1 u2) := by kernel_rfl) : AtO P B R ds n p L w :=
 thr_at hF h fun O kk o l a x y z hf hd1 E hdd hw ho hx hy hz => by
  refine sf_call hw (run_inv2_ hm eg ho hx hy hz) hc fun u w' hK => ?_
  obtain ⟨O1, dr, k1, hf1, hk⟩ := k u w' hK
  rw [hf] at hf1
  cases hf1
  have := hk _ (E.put (v := u) hd)
  rw [hdd]
  have hdr : O.toList.drop (i' + 1) = l := by rw [← List.tail_drop, hd1]; rfl
  rw [← hdr]; exact this
/-- A call that changes some entries, in the form that the laws of methods ask for. -/
theorem memK {g : FuncId} {args : Array Value} {K : Value → List Ent → Prop} (is js : List Nat) (hM : Mm F0 w0 w M) (hA : pickE M is = A) (hS : pickE M js = Ms) (hn : (is ++ js).Nodup) (hc : Mm (BlM Ms) w w Ms → Calls P g args w fun e w' => ∃ v Mn, e = .returned v ∧ K v Mn ∧ Mm (BlM Ms) w w' Mn) : Calls P g args w fun e w' => ∃ v, e = .returned v ∧ ∃ Mn, K v Mn ∧ Mm F0 w0 w' (A ++ Mn) := by
 have hp : pickE M (is ++ js) = A ++ Ms := by rw [← hA, ← hS, pickE_app]
 have hM1 := hM.pick (is ++ js) hp hn
 have hMs : Mm F0 w0 w Ms := hM.pick js hS (List.nodup_append.1 hn).2.1
 exact (hc (hMs.re fun e he k hk => ⟨e, he, hk⟩)).mono fun e w' ⟨v, Mn, h1, h2, h3⟩ => ⟨v, h1, Mn, h2, hM1.call h3 fun _ _ h => h⟩
end
/-- A call that changes nothing old and whose answer is known, in the form that the laws of methods ask for. -/
theorem valK {P : Program} {w : World} {f : FuncId} {args : Array Value} {v : Value} (hc : Calls P f args w fun e w' => e = .returned v ∧ Fr (fun _ => False) w w') : Calls P f args w fun e w' => ∃ u, e = .returned u ∧ (u = v ∧ Fr (fun _ => False) w w') := hc.mono fun _ _ h => ⟨v, h.1, rfl, h.2⟩
/-! ### rows that lose their last element; elements that are loaded whole -/
section
variable {P : Program} {w w0 : World} {α : Type} {f : α → List Value} {c E TS B : Nat} {p : Option Addr} {F0 : Nat → Prop} {M : List Ent} {A : List α}
theorem ow_pop (hlen : ∀ x, (f x).length = c) {n cap : Nat} {Y : List α} {x : α} (h : ow f c E w B (.slice p n cap) (Y ++ [x])) : ow f c E w B (.slice p (n - 1) cap) Y := by
 rcases h.2 with ⟨h1, h2⟩ | ⟨g, c2, cur, h1, hB, h3, h4, h5, h6, h7⟩
 ·simp at h2
 ·simp only [Value.slice.injEq] at h1
  obtain ⟨rfl, hn, rfl⟩ := h1
  simp only [List.length_append, List.length_singleton] at h4 h7 hn
  refine ⟨by rw [flat_len hlen], .inr ⟨g, cap, cur, by rw [hn]; rfl, hB, h3, by omega, h5, h6, ?_⟩⟩
  have h8 := congrArg (List.take (Y.length * c)) h7
  rw [List.take_take, Nat.min_eq_left (by rw [Nat.succ_mul]; omega)] at h8
  rw [h8, flat_take hlen]
  rw [List.take_append_of_le_length (Nat.le_refl _), List.take_length]
theorem Mm.popE (hlen : ∀ x, (f x).length = c) (hM : Mm F0 w0 w M) {j n cap : Nat} {Y : List α} {x : α} (hj : M[j]? = some (rw_ f c E (.slice p n cap) (Y ++ [x]))) : Mm F0 w0 w (M.set j (rw_ f c E (.slice p (n - 1) cap) Y)) :=
 hM.put j hj (Fr.refl (fun _ => False) _) (fun _ _ h => h.elim) (show ow f c E w 0 _ Y from ow_pop hlen (hM.get j hj)) fun k e => .inl (by cases p <;> exact e)
/-- The first elements of a slice. -/
theorem tslh (T : TypeId) {g n cap i : Nat} {z : Int} (hz : z = (i : Int)) (hle : n ≤ cap) (hi : i < n) (hT : P.underlying T = some (.slice E)) (hE : (P.info? E).isSome = true := by kernel_rfl) : Ft.ok P w (.g2 (fun x y => .slice T x none (some y) none) (vL (some ⟨g, 0, none⟩) n cap) (vI z) (vL (some ⟨g, 0, none⟩) i cap)) := fun o ρ x y ho hx hy => by
 subst hz
 have h1 : (i : Int) ≤ cap := by omega
 have h0 : (0 : Int) ≤ i := by omega
 have h3 : cap ≠ 0 := by omega
 obtain ⟨ti, hti⟩ := Option.isSome_iff_exists.1 hE
 simp [execOp, ho, hx, hy, go_sem, h1, h0, h3, hT, sizeOf, typeInfo, hti]
theorem swp_perm {X : List α} {i j : Nat} {x y : α} (hx : X[i]? = some x) (hy : X[j]? = some y) : ((X.set i y).set j x).Perm X := by
 obtain ⟨hi, hx⟩ := List.getElem?_eq_some_iff.1 hx
 obtain ⟨hj, hy⟩ := List.getElem?_eq_some_iff.1 hy
 have h := Array.swap_perm (xs := X.toArray) (i := i) (j := j) (by simpa using hi) (by simpa using hj)
 have h2 := Array.perm_iff_toList_perm.1 h
 rw [Array.toList_swap] at h2
 simpa [hx, hy] using h2
end
section
variable {P : Program} {w w0 : World} {rd : Option Nat} {B : Code} {r n : Nat} {L : Frm} {ef : List Nat} {V : Lts → List (Option Value)} {F : Lts → List Ft} {ds : List Deferred} {F0 : Nat → Prop} {Mf : Lts → List Bool → List Ent}
variable {α : Type} {f : α → List Value} {c E TS : Nat} {q : Option Addr} {g cap m : Nat}
theorem ar_lar (p i T j k l e d : Nat) (A : List α) {y : α} (X : ElT P f c TS E) (hq : q = some ⟨g, 0, none⟩) (hy : A[e]? = some y)
  (hj : ∀ γ fr, (Mf γ (flg B r ef i fr))[j]? = some (rw_ f c E (.slice q m cap) A) := by intro γ fr; kernel_rfl)
  (hm : ∀ γ fr, Mf γ (flg B r ef i fr) = Mf (setL γ p undef) ((flg B r ef i fr).set p true) := by intro γ fr; kernel_rfl)
  (hV : ∀ γ, ((V (setL γ p undef))[p]?).getD none = some (vA (((f y).drop k).take l)) := by intro γ; rfl) (hT : agT P T (((f y).drop k).take l).length = true := by kernel_rfl)
  (hs : ∀ γ, st1L (opsR B r) i (frX P w n B r L ef V F i γ) = st1R (opsR B r) i (.load T) (vP g (0 + e * c + k)) (some d) := by intro γ; kernel_rfl) : Arm rd P w n B r L ef V F ds F0 w0 Mf p i := by
 intro γ fr a wm Q o ho En hw hM
 obtain ⟨x, h1, h2, h3⟩ := st1_of ho En (hs γ)
 obtain ⟨g', e1, e2⟩ := hM.el X (hj γ fr) hy
 rw [hq] at e1
 injection e1 with e1
 injection e1 with e1 _ _
 subst e1
 have hl := run_loadA (P := P) hT (rs e2 k l)
 rw [hm] at hM
 refine wf_val (v := vA (((f y).drop k).take l)) (w' := wm) ?_ ⟨undef, γ.e p, by rw [setE_sl, hV, h3]; rfl, by rw [setE_sl]; exact hM⟩
 simp only [execOp, h1, h2, Sem.run_bind, hl, Result.andThen_ok, Sem.run_pure]
end
/-! ### more events -/
section
variable {P : Program} {B : Code} {R : Pst} {ds : List Deferred} {n : Nat} {p : Option (Nat × Nat)} {L : Frm} {w w0 : World} {F : List Ft} {F0 : Nat → Prop} {M : List Ent}
/-- An operation of one operand whose answer is told from outside. -/
theorem onev (r' i' d : Nat) (N : Frm) {f : Operand → Op} {v u : Value} (hd : d < n) (hF : AllF P w F) (hr : Ft.ok P w (.g1 f v u)) (k : AtO P B R ds n (some (r', i' + 1)) ((d, u) :: (N ++ L)) w)
  (h : (lhs (go P w n B p L r' i' F) N L, oneL (go P w n B p L r' i' F) n L f) = (rhs (go P w n B p L r' i' F) N B r' i', oneR (go P w n B p L r' i' F) n L f (some d) v) := by kernel_rfl) : AtO P B R ds n p L w := by
 refine one_at hF h fun O k1 o l a x hf hd1 En hdd hw ho hx => sf_val hw (hr o _ x ho hx) ?_
 rw [hdd]
 obtain ⟨O1, dr, k2, hf1, hk⟩ := k
 rw [hf] at hf1
 cases hf1
 have hdr : O.toList.drop (i' + 1) = l := by rw [← List.tail_drop, hd1]; rfl
 rw [← hdr]
 exact hk _ (En.put hd)
/-- An entry of a map's literal. -/
theorem ins (r' i' : Nat) (N : Frm) (T j : Nat) {K e : TypeId} {b c : Nat} {m : Value → Option Value} (key v : Value) (hF : AllF P w F) (hM : Mm F0 w0 w M) (hj : M[j]? = some (mp P K b c m)) (LK : Maps.Keyed P K) (ht : P.underlying T = some (.map K e)) (hk : ∃ l, keyOf P K key = some l) (kk : ∀ w', Mm F0 w0 w' (M.set j (mp P K b (c + 1) (upd m key v))) → AtO P B R ds n (some (r', i' + 1)) (N ++ L) w')
  (h : (lhs (go P w n B p L r' i' F) N L, thrL (go P w n B p L r' i' F) n L (fun x y z => .insert T x y z)) = (rhs (go P w n B p L r' i' F) N B r' i', thrR (go P w n B p L r' i' F) n L (fun x y z => .insert T x y z) none (.map (some b)) key v) := by kernel_rfl) : AtO P B R ds n p L w := by
 obtain ⟨l, hk⟩ := hk
 have hm : MapN P K w b c m := hM.get j hj
 obtain ⟨ob, hob⟩ := hm.store LK ht hk v
 obtain ⟨h1, h2⟩ := hob w rfl
 have hM' := hM.put (w' := setBlk w b ob) j (e' := mp P K b (c + 1) (upd m key v)) hj ((Fr.refl (fun r => r = b) w).setBlk (fun _ => rfl) ob) (fun k _ e => e) (h2.mono (by split <;> omega)) (fun k e => .inl e)
 refine thr_at hF h fun O k1 o l a x y z hf hd1 E hd hw ho hx hy hz => sf_skip hw (w' := setBlk w b ob) (by simp only [execOp, ho, hx, hy, hz, Sem.run_bind, h1, Result.andThen_ok, Sem.run_pure]) hd ?_
 obtain ⟨O1, dr, k2, hf1, hk⟩ := kk _ hM'
 rw [hf] at hf1
 cases hf1
 have := hk _ E
 have hdr : O.toList.drop (i' + 1) = l := by rw [← List.tail_drop, hd1]; rfl
 rw [← hdr]; exact this
end
section
variable {P : Program} {w w0 : World} {rd : Option Nat} {B : Code} {r n : Nat} {L : Frm} {ef : List Nat} {V : Lts → List (Option Value)} {F : Lts → List Ft} {ds : List Deferred} {F0 : Nat → Prop} {Mf : Lts → List Bool → List Ent}
def enL (P : Program) (wm : World) (O : Array Oper) (i : Nat) (LL : Frm) : Option (Nat × Array Value × Option Nat × World) :=
 match O[i]? with
 | some o => bif known LL o.op && (match o.op with | .select _ _ => false | _ => true) then (match (execOp (rho LL) o).run P wm with
  | .ok (.enter f args) w' => some (f, args, o.dst, w')
  | _ => none) else none
 | none => none
theorem en_of {wm : World} {O : Array Oper} {i : Nat} {LL : Frm} {f : Nat} {args : Array Value} {d : Option Nat} {o : Oper} {ds : List Deferred} {n : Nat} {a : Act} (ho : O[i]? = some o) (E : EnvS ds n LL a) (h : enL P wm O i LL = some (f, args, d, wm)) : (execOp a.eval o).run P wm = .ok (.enter f args) wm ∧ o.dst = d := by
 unfold enL at h
 rw [ho] at h
 simp only at h
 cases hc : (known LL o.op && (match o.op with | .select _ _ => false | _ => true)) with
 | false => rw [hc] at h; cases h
 | true =>
  rw [hc] at h
  simp only [cond_true] at h
  rw [Bool.and_eq_true] at hc
  rw [rho_eq E hc.1 fun cs b e => by rw [e] at hc; cases hc.2]
  split at h
  ·rename_i f1 args1 w1 hr
   simp only [Option.some.injEq, Prod.mk.injEq] at h
   obtain ⟨rfl, rfl, rfl, rfl⟩ := h
   exact ⟨hr, rfl⟩
  ·cases h
/-- A call that changes an entry, in a region that draws its order. -/
theorem ar_cal (p i j d : Nat) {f : FuncId} (args : Lts → Array Value) (v : Value) (e e' : Ent)
  (hc : ∀ (γ : Lts) wm, e.H wm → Fr F0 w0 wm → Calls P f (args γ) wm fun x w' => x = .returned v ∧ Fr e.B wm w' ∧ e'.H w' ∧ ∀ k, e'.B k → e.B k ∨ wm.heap.size ≤ k)
  (hj : ∀ γ fr, (Mf γ (flg B r ef i fr))[j]? = some e := by intro γ fr; kernel_rfl)
  (hm : ∀ γ fr, (Mf γ (flg B r ef i fr)).set j e' = Mf (setL γ p v) ((flg B r ef i fr).set p true) := by intro γ fr; kernel_rfl)
  (hV : ∀ γ, ((V (setL γ p v))[p]?).getD none = some v := by intro γ; rfl)
  (hs : ∀ γ wm, enL P wm (opsR B r) i (frX P w n B r L ef V F i γ) = some (f, args γ, some d, wm) := by intro γ wm; kernel_rfl) : Arm rd P w n B r L ef V F ds F0 w0 Mf p i := by
 intro γ fr a wm Q o ho En hw hM
 obtain ⟨h1, h2⟩ := en_of ho En (hs γ wm)
 refine wf_call (R := fun u w' => u = v ∧ Fr e.B wm w' ∧ e'.H w' ∧ ∀ k, e'.B k → e.B k ∨ wm.heap.size ≤ k) h1 ((hc γ wm (hM.get j (hj γ fr)) hM.fr).mono fun x w' ⟨g1, g2⟩ => ⟨v, g1, rfl, g2⟩) fun u w' ⟨hu, g1, g2, g3⟩ => ?_
 subst hu
 have hM' := hM.put (w' := w') j (hj γ fr) g1 (fun k _ h => h) g2 g3
 rw [hm] at hM'
 exact ⟨u, γ.e p, by rw [setE_sl, hV, h2]; rfl, by rw [setE_sl]; exact hM'⟩
end
end Go.Pl
/- A queue of arcs in memory. -/
set_option linter.unusedVariables false
set_option linter.unusedSimpArgs false
namespace Go.Proofs.YtbflfefahheidaaGreatDoor
open Go.RowKit Go.Pl
/-! ### the queue of arcs that were reached -/
def reL (x : Nat × Int) : List Value := [vI (x.1 : Int), vI x.2]
theorem reT : ElT Tryz.prog reL 2 117 124 := ⟨fun _ => rfl, by decide, fun x u hu => by
 unfold reL at hu
 rcases List.mem_cons.1 hu with rfl | hu
 ·rfl
 ·rw [List.mem_singleton] at hu
  subst hu; rfl, Tryz.underlying117, elOK_info (by kernel_rfl)⟩
abbrev QM (q : Nat) (v : Value) (X : List (Nat × Int)) : List Ent := [bk q #[v] 117, rw_ reL 2 124 v X]
section
variable {w : World} {q n c : Nat} {p : Option Addr}
theorem mq_load (h : w.heap[q]? = some (.cells #[vL p n c] 117 (0, 0))) : (Instr.loadAt 117 (vP q 0)).run Tryz.prog w = .ok (vL p n c) w := run_load1 (by kernel_rfl) (bx h 0 rfl)
theorem mq_push : Mth Tryz.prog w 115 (vP q 0) "Push" 238 (vP q 0) := by unfold Mth; kernel_rfl
theorem mq_pop : Mth Tryz.prog w 115 (vP q 0) "Pop" 237 (vP q 0) := by unfold Mth; kernel_rfl
theorem mq_len (h : w.heap[q]? = some (.cells #[vL p n c] 117 (0, 0))) : Mth Tryz.prog w 115 (vP q 0) "Len" 235 (vL p n c) := by
 have e : (method (Tryz.prog.types.size + 100) 115 (vP q 0) "Len").run Tryz.prog w = (do let x ← Instr.loadAt 117 (vP q 0); pure (235, x) : Sem (FuncId × Value)).run Tryz.prog w := by kernel_rfl
 show (method (Tryz.prog.types.size + 100) 115 (vP q 0) "Len").run Tryz.prog w = _
 rw [e]; simp [Sem.run_bind, mq_load h]
theorem mq_less (h : w.heap[q]? = some (.cells #[vL p n c] 117 (0, 0))) : Mth Tryz.prog w 115 (vP q 0) "Less" 236 (vL p n c) := by
 have e : (method (Tryz.prog.types.size + 100) 115 (vP q 0) "Less").run Tryz.prog w = (do let x ← Instr.loadAt 117 (vP q 0); pure (236, x) : Sem (FuncId × Value)).run Tryz.prog w := by kernel_rfl
 show (method (Tryz.prog.types.size + 100) 115 (vP q 0) "Less").run Tryz.prog w = _
 rw [e]; simp [Sem.run_bind, mq_load h]
theorem mq_swap (h : w.heap[q]? = some (.cells #[vL p n c] 117 (0, 0))) : Mth Tryz.prog w 115 (vP q 0) "Swap" 239 (vL p n c) := by
 have e : (method (Tryz.prog.types.size + 100) 115 (vP q 0) "Swap").run Tryz.prog w = (do let x ← Instr.loadAt 117 (vP q 0); pure (239, x) : Sem (FuncId × Value)).run Tryz.prog w := by kernel_rfl
 show (method (Tryz.prog.types.size + 100) 115 (vP q 0) "Swap").run Tryz.prog w = _
 rw [e]; simp [Sem.run_bind, mq_load h]
theorem quo2 (j : Nat) (hj : j ≤ 4000000000000000000) : Ft.ok Tryz.prog w (.g2 (fun x y => .binOp .quo 3 x y 3) (vI ((j : Int) - 1)) (vI 2) (vI (((j - 1) / 2 : Nat) : Int))) := fun o ρ x y ho hx hy => by
 have e : Int.tdiv ((j : Int) - 1) 2 = (((j - 1) / 2 : Nat) : Int) := by
  cases j with
  | zero => rfl
  | succ k =>
   rw [show ((k + 1 : Nat) : Int) - 1 = (k : Int) by omega]
   rfl
 have hw : IntKind.i64.wrap (((j - 1 : Nat) : Int) / 2) = ((j - 1 : Nat) : Int) / 2 := IntWalk.i64_in _ ⟨by omega, by omega⟩
 simp [execOp, ho, hx, hy, go_sem, Tryz.underlying3, e, hw]
end
theorem lenq_calls {w : World} {p : Option Addr} {n c : Nat} : Calls Tryz.prog 235 #[vL p n c] w fun e w' => e = .returned (vI (n : Int)) ∧ Fr (fun _ => False) w w' := by
 refine beg Tryz.func235 rfl rfl [(0, vL p n c)] rfl rfl fun Φ hΦ => ?_
 have hM := Mm.nil (fun _ => False) w
 exact rt1 2 (vI (n : Int)) rfl f0 (hΦ _ _ ⟨rfl, hM.fr⟩)
theorem lessq_calls {w : World} {p : Option Addr} {c i j : Nat} {X : List (Nat × Int)} (hs : SrcP reL 2 w p c X) (hi : i < X.length) (hj : j < X.length) : Calls Tryz.prog 236 #[vL p X.length c, vI (i : Int), vI (j : Int)] w fun e w' => (∃ b, e = .returned (vB b)) ∧ Fr (fun _ => False) w w' := by
 have bb := hs.bnd
 refine beg Tryz.func236 rfl rfl [(0, vL p X.length c), (1, vI (i : Int)), (2, vI (j : Int))] rfl rfl fun Φ hΦ => ?_
 have hM := Mm.nil (fun _ => False) w
 refine seg 1 0 [] f0 ?_
 have hM := hM.q ((Fr.refl _ _).drew)
 obtain ⟨y3, hy3, g3, o3, q3, r3⟩ := hs.el (i := i) (by omega)
 obtain ⟨y4, hy4, g4, o4, q4, r4⟩ := hs.el (i := j) (by omega)
 refine drq [(6, vB (decide (y3.2 < y4.2)))] rfl (fc (ix 117 c q3 (gl hy3)) (fc (ld0 3 hM (r3 1 _ rfl)) (fc (ix 117 c q4 (gl hy4)) (fc (ld0 3 hM (r4 1 _ rfl)) f0)))) (rt1 6 (vB (decide (y3.2 < y4.2))) rfl f0 (hΦ _ _ ⟨⟨_, rfl⟩, hM.fr⟩))
theorem swapq_calls {w : World} {G : Nat → Prop} {p : Option Addr} {c i j : Nat} {X : List (Nat × Int)} {x y : Nat × Int} (hM0 : Mm G w w [rw_ reL 2 124 (vL p X.length c) X]) (hx : X[i]? = some x) (hy : X[j]? = some y) : Calls Tryz.prog 239 #[vL p X.length c, vI (i : Int), vI (j : Int)] w fun e w' => ∃ (u : Value) (Mn : List Ent), e = .returned u ∧ (u = .tuple #[] ∧ Mn = [rw_ reL 2 124 (vL p X.length c) ((X.set i y).set j x)]) ∧ Mm G w w' Mn := by
 have hi9 := gl hx
 have hj9 := gl hy
 refine beg Tryz.func239 rfl rfl [(0, vL p X.length c), (1, vI (i : Int)), (2, vI (j : Int))] rfl rfl fun Φ hΦ => ?_
 have hM := hM0
 refine seg 0 0 [] f0 ?_
 obtain ⟨g11, eg11, -⟩ := hM.el reT (j := 0) rfl hy
 obtain ⟨g12, eg12, -⟩ := hM.el reT (j := 0) rfl hx
 obtain ⟨y13, hy13⟩ := geb (l := (X.set i y)) (i := j) (by simp only [List.length_set]; omega)
 refine drx [7, 11, 13, 15] (fun γ => [some (.agg #[vI (y.1 : Int), vI y.2]), some (.agg #[vI (x.1 : Int), vI x.2]), none, none]) _ (fun γ l => [rw_ reL 2 124 (vL p X.length c) (bif l.getD 3 false then ((X.set i y).set j x) else (bif l.getD 2 false then (X.set i y) else X))]) (fun γ => []) hM (fun γ => rfl) (fun γ l w5 hM => (fc (ix 117 c eg11 (gl hy)) (fc (ix 117 c eg12 (gl hx)) (fc (ix 117 c eg12 (gl hx)) (fc (ix 117 c eg11 (gl hy)) f0))))) ⟨ar_lar (m := X.length) (cap := c) 0 7 124 0 0 2 j 13 X reT eg11 hy, ar_lar (m := X.length) (cap := c) 1 11 124 0 0 2 i 17 X reT eg12 hx, ar_str (m := X.length) (cap := c) 2 13 124 0 0 i X y (fun γ => .agg #[vI (y.1 : Int), vI y.2]) reT eg12 hx (fun γ => rfl), ar_str (m := X.length) (cap := c) 3 15 124 0 0 j (X.set i y) x (fun γ => .agg #[vI (x.1 : Int), vI x.2]) reT eg11 hy13 (fun γ => rfl), trivial⟩ fun γ14 w1 hM => ?_
 replace hM : Mm G w w1 [rw_ reL 2 124 (vL p X.length c) ((X.set i y).set j x)] := hM
 exact rt0 rfl f0 (hΦ _ _ ⟨_, _, rfl, ⟨rfl, rfl⟩, hM⟩)
theorem pushq_calls {w : World} {G : Nat → Prop} {q : Nat} {p : Option Addr} {c : Nat} {X : List (Nat × Int)} (hM0 : Mm G w w (QM q (vL p X.length c) X)) (hl : X.length < 1500000000000) (x : Nat × Int) : Calls Tryz.prog 238 #[vP q 0, .iface 124 (.agg #[vI (x.1 : Int), vI x.2])] w fun e w' => ∃ (u : Value) (Mn : List Ent), e = .returned u ∧ (u = .tuple #[] ∧ ∃ v, Mn = QM q v (X ++ [x])) ∧ Mm G w w' Mn := by
 refine beg Tryz.func238 rfl rfl [(0, vP q 0), (1, .iface 124 (.agg #[vI (x.1 : Int), vI x.2]))] rfl rfl fun Φ hΦ => ?_
 have hM := hM0
 refine seg 0 0 [] f0 ?_
 have hM := hM.nl
 refine drx [3, 6, 7, 9] (fun γ => [some (vL p X.length c), some (vL (some ⟨(bn (γ 1)), 0, none⟩) 1 1), some (vL (slp (γ 2)) (X ++ [x]).length (slc (γ 2))), none]) _ (fun γ l => [bk q #[(bif l.getD 3 false then vL (slp (γ 2)) (X ++ [x]).length (slc (γ 2)) else vL p X.length c)] 117, (bif l.getD 2 false then rw_ reL 2 124 (vL (slp (γ 2)) (X ++ [x]).length (slc (γ 2))) (X ++ [x]) else rw_ reL 2 124 (vL p X.length c) X), (bif l.getD 1 false then bk (bn (γ 1)) #[vI (x.1 : Int), vI x.2] 124 else nilE)]) (fun γ => []) hM (fun γ => rfl) (fun γ l w5 hM => f0) ⟨ar_ld 0 3 117 0 0 7 (fun γ => q) (fun γ l => #[(bif l.getD 3 false then vL (slp (γ 2)) (X ++ [x]).length (slc (γ 2)) else vL p X.length c)]) 117 (fun γ => vL p X.length c), ar_new 1 6 2 10 (fun γ => #[vI (x.1 : Int), vI x.2]) 124 (fun b => vL (some ⟨b, 0, none⟩) 1 1), ar_appv 2 7 1 11 117 124 0 (fun γ => vL p X.length c) X [x] (fun γ => (bn (γ 1))) 1 reT (by simp; omega) (fun γ fr wm hM => src_one (f := reL) (x := x) (hM.get 2 (e := bk ((bn (γ 1))) (reL x).toArray 124) (by kernel_rfl)) (Nat.lt_succ_self _)), ar_st 3 9 117 0 0 (fun γ => q) (fun γ l => #[(bif l.getD 3 false then vL (slp (γ 2)) (X ++ [x]).length (slc (γ 2)) else vL p X.length c)]) 117 (fun γ => vL (slp (γ 2)) (X ++ [x]).length (slc (γ 2))), trivial⟩ fun γ15 w1 hM => ?_
 replace hM : Mm G w w1 [bk q #[vL (slp (γ15 2)) (X ++ [x]).length (slc (γ15 2))] 117, rw_ reL 2 124 (vL (slp (γ15 2)) (X ++ [x]).length (slc (γ15 2))) (X ++ [x]), bk (bn (γ15 1)) #[vI (x.1 : Int), vI x.2] 124] := hM
 exact rt0 rfl f0 (hΦ _ _ ⟨_, _, rfl, ⟨rfl, _, rfl⟩, hM.pick [0, 1]⟩)
theorem popq_calls {w : World} {G : Nat → Prop} {q n : Nat} {p : Option Addr} {c : Nat} {Y : List (Nat × Int)} {x : Nat × Int} (hn : n = Y.length + 1) (hM0 : Mm G w w (QM q (vL p n c) (Y ++ [x]))) : Calls Tryz.prog 237 #[vP q 0] w fun e w' => ∃ (u : Value) (Mn : List Ent), e = .returned u ∧ (u = .iface 124 (.agg #[vI (x.1 : Int), vI x.2]) ∧ ∃ v, Mn = QM q v Y) ∧ Mm G w w' Mn := by
 have hn0 : (Y ++ [x]).length = Y.length + 1 := by simp
 have hx : (Y ++ [x])[n - 1]? = some x := by rw [hn]; simp
 have hM := hM0
 obtain ⟨g, eg, -⟩ := hM.el reT (j := 1) rfl hx
 subst eg
 obtain ⟨pc, cc, ec, sc⟩ := (hM.src (j := 1) rfl reT.len).op
 have bc := sc.bnd
 have hcc := sc.le
 injection ec with ec1 ec2 ec3
 subst ec3
 clear ec1 ec2 sc
 refine beg Tryz.func237 rfl rfl [(0, vP q 0)] rfl rfl fun Φ hΦ => ?_
 skip
 obtain ⟨g16, eg16, -⟩ := hM.el reT (j := 1) rfl hx
 refine varm 2 6 4 [(3, vL (some ⟨g, 0, none⟩) n c), (13, .agg #[vI (x.1 : Int), vI x.2])] [] 124 (.agg #[vI (x.1 : Int), vI x.2]) (fc (ldm 117 0 0 hM rfl rfl) (fc (tsub (n : Int) 1 Tryz.underlying3) (fc (ix 117 c eg16 (show n - 1 < n by omega) (z := ((n : Int) - 1)) (hz := (by omega))) (fc (lar 124 1 0 2 reT hM rfl eg16 hx) f0)))) hM fun b17 w1 hM => stm 3 7 [(19, vL (some ⟨g, 0, none⟩) (n - 1) c), (20, vP q 0)] 117 0 0 (vL (some ⟨g, 0, none⟩) (n - 1) c) (fc (tsub (n : Int) 1 Tryz.underlying3) (fc (tslh 117 (z := ((n : Int) - 1)) (g := g) (n := n) (cap := c) (i := n - 1) (by omega) (by omega) (by omega) Tryz.underlying117) f0)) hM rfl fun w1 hM => ?_
 have hM := hM.popE (j := 1) reT.len rfl
 exact rt1 2 (.iface 124 (.agg #[vI (x.1 : Int), vI x.2])) rfl (fc (lam 124 2 0 2 hM rfl) f0) (hΦ _ _ ⟨_, _, rfl, ⟨rfl, _, rfl⟩, hM.pick [0, 1]⟩)
end Go.Proofs.YtbflfefahheidaaGreatDoor
