/- The lexer: the iterator over the tokens. -/
import Derived.Test.YtjaffpnegdcjnaaGreatDoorSD4
set_option linter.unusedVariables false
set_option linter.unusedSimpArgs false
namespace Go.Proofs.YtjaffpnegdcjnaaGreatDoor
open Go.RowKit Go.Pl
/-- What an iterator owes that keeps memory of its own over the rounds: a round turns nothing at or above h. -/
def IterOf2 (P : Program) (gf : Nat) (lb : Array Value) (vs : List (Array Value)) (Kp : World → Prop) : Prop :=
 ∀ (l : Nat) (J : Nat → Nat → World → Prop) (S : World → Prop) (W : World), (∀ k h W W', J k h W → Fr (fun _ => False) W W' → J k h W') → (∀ W W', S W → Fr (fun _ => False) W W' → S W') → (∀ k h W, J k h W → Kp W ∧ h ≤ W.heap.size) →
  (∀ k h v W, J k h W → vs[k]? = some v → RoundOf P l v W (fun W' => (∃ h', J (k + 1) h' W') ∧ Fr (fun b => b < h) W W') S) → (∃ h, J 0 h W) →
  Calls P gf (#[.func (.yield l) #[] #[]] ++ lb) W fun e W' => (∃ v, e = .returned v) ∧ ((∃ h, J vs.length h W') ∨ S W')
section
variable {P : Program} {Q : Exit → Act → World → Prop} {a : Act} {w : World}
theorem wp_rangeF2 {g : Operand} {ps : Array Tmp} {assign body : Code} {gf : Nat} {lb : Array Value} {vs : List (Array Value)} {Kp : World → Prop}
  (I : Nat → Nat → World → Prop) (St : World → Prop) (A : Array Value → Act → World → Prop)
  (hg : a.eval g = .func (.func gf) #[] lb) (eg : ∀ args w, (callFunc gf args).run P w = .ok (.enter gf args) w)
  (hY : IterOf2 P gf lb vs Kp) (hps : ∀ v ∈ vs, v.size = ps.size)
  (hI : ∀ k h W W', I k h W → Fr (fun b => b = w.heap.size ∨ b = w.heap.size + 1) W W' → I k h W') (hS : ∀ W W', St W → Fr (fun b => b = w.heap.size ∨ b = w.heap.size + 1) W W' → St W') (hK : ∀ k h W, I k h W → Kp W) (h0 : ∀ W, Fr (fun _ => False) w W → w.heap.size + 2 ≤ W.heap.size → I 0 (w.heap.size + 2) W)
  (hAf : ∀ v a1 W W', A v a1 W → Fr (fun b => b = w.heap.size ∨ b = w.heap.size + 1) W W' → A v a1 W')
  (hassign : ∀ (l : Nat) (v : Array Value) (W : World) (K : Act → World → Prop), v ∈ vs → w.heap.size + 2 ≤ W.heap.size → (∀ a1 W1, A v a1 W1 → Fr (fun _ => False) W W1 → K a1 W1) → assign.wpIn (FR l) 0 P (Exit.then K (fun _ _ _ => False)) { tmps := (ps.zip v).foldl (fun t (p, v) => t.setIfInBounds p v) a.tmps, defers := [] } W)
  (hbody : ∀ (k h : Nat) (v : Array Value) (a1 : Act) (W : World), vs[k]? = some v → I k h W → A v a1 W → w.heap.size + 2 ≤ h → h ≤ W.heap.size → (∃ r, W.heap[w.heap.size + 1]? = some (.loop r)) →
   body.wpIn (FR (w.heap.size + 1)) 0 P (rndP (fun W' => ((∃ h', I (k + 1) h' W' ∧ h ≤ h' ∧ h' ≤ W'.heap.size) ∧ Fr (fun b => b < h) W W') ∧ W'.heap[w.heap.size]? = W.heap[w.heap.size]? ∧ W'.heap[w.heap.size + 1]? = W.heap[w.heap.size + 1]?) (fun W' => St W' ∧ W'.heap[w.heap.size]? = W.heap[w.heap.size]? ∧ W'.heap[w.heap.size + 1]? = W.heap[w.heap.size + 1]?)) a1 W)
  (hdone : ∀ h W, I vs.length h W → W.heap[w.heap.size]? = some (.deferred (some [])) → Q .normal { a with defers := { target := .collected w.heap.size, args := #[] } :: a.defers } W)
  (hstop : ∀ W, St W → W.heap[w.heap.size]? = some (.deferred (some [])) → Q .ret { a with defers := { target := .collected w.heap.size, args := #[] } :: a.defers } W) :
  (Code.rangeFunc g ps assign body).wp P Q a w := by
 refine (wpIn_wide (n := 0)).1 (wpIn_rangeFunc ?_)
 intro fn hfn
 obtain ⟨rec, hrec⟩ : ∃ rec : LoopState → Option Code → Loop, rec = fun st pe => { state := st, pending := pe, fn, tmps := a.tmps, params := ps, assign, body, defers := w.heap.size } := ⟨_, rfl⟩
 obtain ⟨W1, hW1⟩ : ∃ W1, (w.alloc (.deferred (some []))).alloc (.loop (rec .ready none)) = W1 := ⟨_, rfl⟩
 have hL1 : W1.heap[w.heap.size + 1]? = some (.loop (rec .ready none)) := by
  rw [← hW1]; exact blk_alloc_at (by simp) _
 have hK1 : W1.heap[w.heap.size]? = some (.deferred (some [])) := by
  rw [← hW1]; exact (blk_alloc (by simp) _).trans (blk_alloc_new _ _)
 have hf1 : Fr (fun _ => False) w W1 := by rw [← hW1]; exact ((Fr.refl _ _).alloc _).alloc _
 have hsz1 : w.heap.size + 2 ≤ W1.heap.size := by have := lt_of_blk hL1; omega
 refine ⟨w.heap.size + 1, [{ target := .collected w.heap.size, args := #[] }], W1, { target := .fn (.func gf) lb, args := #[.func (.yield (w.heap.size + 1)) #[] #[]] }, W1, gf,
  #[.func (.yield (w.heap.size + 1)) #[] #[]] ++ lb, W1, ?_, ?_, fun _ _ => trivial, ?_, fun h => (by cases h), ?_⟩
 ·rw [← hW1, hrec]; exact run_enterLoop_outer _ _ _ _ _
 ·simp only [resolve, hg]
  simp [go_sem]
 ·simp [invoke, go_sem, eg]
 ·refine callsIn_wide.2 ((hY (w.heap.size + 1) (fun k h W => I k h W ∧ W.heap[w.heap.size + 1]? = some (.loop (rec .ready none)) ∧ W.heap[w.heap.size]? = some (.deferred (some [])) ∧ w.heap.size + 2 ≤ h ∧ h ≤ W.heap.size)
   (fun W => St W ∧ W.heap[w.heap.size + 1]? = some (.loop (rec .done (some .ret))) ∧ W.heap[w.heap.size]? = some (.deferred (some []))) W1
   (fun k h W W' hh f => ⟨hI k h W W' hh.1 (f.mono fun _ _ h => h.elim), f.obj hh.2.1 id, f.obj hh.2.2.1 id, hh.2.2.2.1, Nat.le_trans hh.2.2.2.2 f.size⟩) (fun W W' h f => ⟨hS W W' h.1 (f.mono fun _ _ h => h.elim), f.obj h.2.1 id, f.obj h.2.2 id⟩) (fun k h W hh => ⟨hK k h W hh.1, hh.2.2.2.2⟩) ?_ ⟨_, h0 _ hf1 hsz1, hL1, hK1, Nat.le_refl _, hsz1⟩).mono ?_)
  ·rintro k h v W ⟨hi, hl, hk, hwh, hhW⟩ hv
   have hvm : v ∈ vs := List.mem_of_getElem? hv
   have hlt := lt_of_blk hl
   have hy := run_yield (P := P) (args := v) hl (by rw [hrec]; exact hps v hvm)
   rw [hrec] at hy
   refine ⟨0, fn, _, assign, body, hy, roundIn_of_wpIn hfn (hassign _ v W _ hvm (by omega) ?_)⟩
   clear hy
   intro a1 W1 hA hfa
   replace hi := hI _ _ _ _ hi (hfa.mono fun _ _ h => h.elim)
   replace hl := hfa.obj hl id
   replace hk := hfa.obj hk id
   have hlt := lt_of_blk hl
   refine ⟨_, run_beginRound hl (by rw [hrec]), ?_⟩
   have f2 := Fr.putObj W1 (w.heap.size + 1) (.loop { rec .ready none with state := .busy })
   have hl2 : (W1.putObj (w.heap.size + 1) (.loop { rec .ready none with state := .busy })).heap[w.heap.size + 1]? = some (.loop { rec .ready none with state := .busy }) := World.putObj_heap_same hlt
   have hk2 := f2.obj hk (by omega)
   have hs2 : h ≤ (W1.putObj (w.heap.size + 1) (.loop { rec .ready none with state := .busy })).heap.size := by have := hfa.size; simp; omega
   have f02 : Fr (fun b => b < h) W (W1.putObj (w.heap.size + 1) (.loop { rec .ready none with state := .busy })) := (hfa.mono (G := fun b => b < h) fun _ _ h => h.elim).trans' f2 fun r _ e => by omega
   refine wpIn_mono (hbody k h v a1 _ hv (hI _ _ _ _ hi (f2.mono fun _ _ h => .inr h)) (hAf _ _ _ _ hA (f2.mono fun _ _ h => .inr h)) hwh hs2 ⟨_, hl2⟩) ?_
   rintro e a3 W3 hp
   cases e with
   | normal =>
    obtain ⟨⟨⟨h', hi3, hh3, hz3⟩, f3⟩, h3, h4⟩ := hp
    rw [hl2] at h4
    rw [hk2] at h3
    have hr := run_endRound (P := P) none h4
    refine ⟨_, _, hr, .inl ⟨rfl, ⟨h', hI _ _ _ _ hi3 ((Fr.putObj _ _ _).mono fun _ _ h => .inr h), ?_, (World.putObj_heap_other (by omega)).trans h3, by omega, by simpa using hz3⟩, (f02.trans f3).trans' (Fr.putObj _ _ _) fun r _ e => by omega⟩⟩
    refine (World.putObj_heap_same (lt_of_blk h4)).trans ?_
    rw [hrec]; rfl
   | ret =>
    obtain ⟨hi3, h3, h4⟩ := hp
    rw [hl2] at h4
    rw [hk2] at h3
    have hr := run_endRound (P := P) (some .ret) h4
    refine ⟨_, _, hr, .inr ⟨rfl, hS _ _ hi3 ((Fr.putObj _ _ _).mono fun _ _ h => .inr h), ?_, (World.putObj_heap_other (by omega)).trans h3⟩⟩
    refine (World.putObj_heap_same (lt_of_blk h4)).trans ?_
    rw [hrec]; rfl
   | exit id => exact hp.elim
   | goto t => exact hp.elim
   | panic ch => exact hp.elim
   | outgrown => exact hp.elim
  ·rintro e W2 ⟨⟨v, rfl⟩, ⟨h, hi, hl, hk, _, _⟩ | ⟨hi, hl, hk⟩⟩
   ·refine ⟨none, _, by have := run_endLoop (P := P) hl (by rw [hrec]; simp); rw [hrec] at this; exact this, hdone h _ (hI _ _ _ _ hi ((Fr.putObj _ _ _).mono fun _ _ h => .inr h)) ((World.putObj_heap_other (by omega)).trans hk)⟩
   ·refine ⟨some .ret, _, by have := run_endLoop (P := P) hl (by rw [hrec]; simp); rw [hrec] at this; exact this, ?_⟩
    exact wpIn_ret (hstop _ (hS _ _ hi ((Fr.putObj _ _ _).mono fun _ _ h => .inr h)) ((World.putObj_heap_other (by omega)).trans hk))
end
set_option maxRecDepth 100000 in
set_option maxHeartbeats 4000000 in
theorem tokens_yields {c1 c2 c3 : Nat} {s : Bys} (hl : s.length ≤ 20000) : IterOf2 Tryz.prog 74 #[.pointer (some ⟨c1, 0, none⟩), .pointer (some ⟨c2, 0, none⟩)] (lexV s) (TokK c1 c2 c3 s) := by
 intro l J S w hJF hSF hKp hround ⟨h00, hJ⟩
 refine wp_start3 Tryz.func74 rfl rfl (n := 149) (by decide) fun a E => ?_
 refine wp_scope_straight ?_
 refine wp_seq ?_
 refine wp_region_lit ?_
 refine ep (v := .int .i64 0) E (run_assign rfl rfl) fun a E => ?_
 refine wpList_nil ?_
 refine then_n ?_
 refine wp_seq ?_
 refine wp_label ?_
 refine then_n ?_
 refine wp_block ?_
 refine wp_loop (fun a w2 => ∃ (k : Nat) (i : Nat) (h : Nat), Env 149 [(0, .func (.yield l) #[] #[]), (1, .pointer (some ⟨c1, 0, none⟩)), (2, .pointer (some ⟨c2, 0, none⟩)), (4, .int .i64 (i : Int))] a ∧ J k h w2 ∧ LexAt s k i) (fun a _ => s.length - (intOf (a.eval (.tmp 4))).toNat) ?_ ?_
 ·exact ⟨0, 0, h00, E.of ⟨E.get 1 rfl, E.get 2 rfl, E.get 3 rfl, E.get 0 rfl, trivial⟩, hJ, LexAt.zero s⟩
 clear E
 rintro a w2 ⟨k, i, h, E, hJ, hL⟩
 have hmu : s.length - (intOf (a.eval (.tmp 4))).toNat = s.length - i := by rw [E.get 3 rfl]; first | rfl | (simp [intOf]; done) | (simp only [intOf]; omega)
 rw [hmu]
 clear hmu
 have hf : Fr (fun _ => False) w2 w2 := Fr.refl _ _
 obtain ⟨⟨hK, hc2⟩, hhw⟩ := hKp _ _ _ hJ
 have hc1 := hK.1
 have hl1 := lt_of_blk hc1
 have hl2 := lt_of_blk hc2
 have hl3 := hK.2.lt
 have hil := hL.1
 refine wp_seq ?_
 refine wp_seq ?_
 refine wp_region_lit ?_
 refine ep (v := .int .i64 (i : Int)) E (run_move rfl (E.get 3 rfl)) fun a E => ?_
 refine ep (v := .string (ofL s)) E (run_lds rfl (E.get 2 rfl) (bx hc1 0 rfl)) fun a E => ?_
 refine ep (v := .int .i64 (s.length : Int)) E (run_slen rfl (E.get 0 rfl)) fun a E => ?_
 refine ep (v := .bool (decide ((i : Int) < (s.length : Int)))) E (run_ilss (E.get 2 rfl) (E.get 0 rfl) Tryz.underlying3 rfl) fun a E => ?_
 refine wpList_nil ?_
 refine then_n ?_
 cases hq125 : (decide ((i : Int) < (s.length : Int))) with
 | false =>
  rw [hq125] at E
  have hie : i = s.length := by have := of_decide_eq_false hq125; omega
  refine wp_cond_false (E.get 0 rfl) ?_
  refine wp_exit ?_
  refine then_e ?_
  refine then_e ?_
  refine blk_e ?_
  refine ng_n ?_
  have hL9 : LexAt s k s.length := by rw [← hie]; exact hL
  have hd9 := hL9.done
  refine (ret_nil rfl E ⟨⟨_, rfl⟩, .inl ?_⟩).1
  unfold lexV
  rw [List.length_map, ← hd9]; exact ⟨_, hJ⟩
 | true =>
  rw [hq125] at E
  have hlt : i < s.length := by have := of_decide_eq_true hq125; omega
  obtain ⟨c, hc⟩ : ∃ c, s[i]? = some c := ⟨_, List.getElem?_eq_getElem hlt⟩
  refine wp_cond_true (E.get 0 rfl) ?_
  refine wp_skip ?_
  refine then_n ?_
  refine wp_block ?_
  refine wp_seq ?_
  refine wp_region_lit ?_
  refine ep (v := .int .i64 (i : Int)) E (run_move rfl (E.get 7 rfl)) fun a E => ?_
  refine ep (v := .int .i64 (i : Int)) E (run_assign rfl (E.get 0 rfl)) fun a E => ?_
  refine wpList_nil ?_
  refine then_n ?_
  refine wp_seq ?_
  refine wp_region_lit ?_
  refine ep (v := .int .i64 (i : Int)) E (run_move rfl (E.get 0 rfl)) fun a E => ?_
  refine ep (v := .agg (tkA (0, [], (i : Int)))) E (run_of38_2 rfl (E.get 0 rfl)) fun a E => ?_
  refine ep (v := .agg (fdA ((0, [], (i : Int)), 3))) E (run_of81 rfl (E.get 0 rfl) rfl) fun a E => ?_
  refine env_new (d := 6) E rfl (by decide) rfl (wanted_none rfl _) (run_alloc81 rfl) fun a w1 b126 eb126 hb126 f1 E => ?_
  have hnb126 : w2.heap.size ≤ b126 := by have := hf.size; omega
  have hlc1b126 : c1 < b126 := by have := lt_of_blk hc1; omega
  have hlc2b126 : c2 < b126 := by have := lt_of_blk hc2; omega
  have hK := LexK.fr hK f1 id id
  have hc1 := f1.obj hc1 id
  have hc2 := f1.obj hc2 id
  have hf := hf.trans' f1 (fun _ _ h => h.elim)
  clear f1
  refine env_st81 (s := ((0, [], 0), 0)) E rfl (wanted_none rfl _) rfl (E.get 0 rfl) (E.get 1 rfl) hb126 fun w1 hb126n f1 E => ?_
  have hK := LexK.fr hK f1 (fun e => by (try simp only at e); omega) (fun e => by (try simp only at e); omega)
  have hc1 := f1.obj hc1 (fun e => by (try simp only at e); omega)
  have hc2 := f1.obj hc2 (fun e => by (try simp only at e); omega)
  have hf := hf.trans' f1 (fun r hr => (fun e => by (try simp only at e); omega))
  clear f1
  replace hb126 : w1.heap[b126]? = some (.cells #[.int .i64 0, .string (ofL []), .int .i64 (i : Int), .int .i64 3] 81 (0, 0)) := hb126n
  refine wpList_nil ?_
  refine then_n ?_
  refine wp_seq ?_
  refine wp_seq ?_
  refine wp_region_lit ?_
  refine ep (v := .func (.func 73) #[] #[.pointer (some ⟨c1, 0, none⟩), .pointer (some ⟨c3, 0, none⟩)]) E (run_ld113 rfl (E.get 12 rfl) (bx hc2 0 rfl)) fun a E => ?_
  refine ep (v := .int .i64 (i : Int)) E (run_move rfl (E.get 14 rfl)) fun a E => ?_
  refine env_call (d := 21) (v := .int .u8 ((clsAt s i : Nat) : Int)) E rfl (by decide) rfl (wanted_none rfl _) (run_callf1 (enters_of Tryz.func73 (by kernel_rfl) rfl) rfl (E.get 1 rfl) (E.get 0 rfl) rfl) (at_calls hK i) fun a w1 f1 E => ?_
  have hK := LexK.fr hK f1 id id
  have hc1 := f1.obj hc1 id
  have hc2 := f1.obj hc2 id
  have hb126 := f1.obj hb126 id
  have hf := hf.trans' f1 (fun _ _ h => h.elim)
  clear f1
  refine wpList_nil ?_
  refine then_n ?_
  refine wp_block ?_
  refine wp_seq ?_
  refine wp_region_lit ?_
  refine ep (v := .bool (((clsAt s i : Nat) : Int) == 1)) E (run_ueql (E.get 0 rfl) rfl rfl) fun a E => ?_
  refine ep (v := .bool (((clsAt s i : Nat) : Int) == 1)) E (run_assign rfl (E.get 0 rfl)) fun a E => ?_
  refine wpList_nil ?_
  refine then_n ?_
  cases hq127 : (((clsAt s i : Nat) : Int) == 1) with
  | false =>
   rw [hq127] at E
   have hblk : isBlk c = false := by rw [← (cl8_qs c).1, ← clsAt_is hc]; exact (natq (clsAt s i) 1).symm.trans hq127
   refine wp_cond_false (E.get 0 rfl) ?_
   refine wp_seq ?_
   refine wp_region_lit ?_
   refine ep (v := .bool (((clsAt s i : Nat) : Int) == 2)) E (run_ueql (E.get 2 rfl) rfl rfl) fun a E => ?_
   refine ep (v := .bool (((clsAt s i : Nat) : Int) == 2)) E (run_assign rfl (E.get 0 rfl)) fun a E => ?_
   refine wpList_nil ?_
   refine then_n ?_
   cases hq128 : (((clsAt s i : Nat) : Int) == 2) with
   | false =>
    rw [hq128] at E
    have hhash : (c == 35) = false := by rw [← (cl8_qs c).2.1, ← clsAt_is hc]; exact (natq (clsAt s i) 2).symm.trans hq128
    refine wp_cond_false (E.get 0 rfl) ?_
    refine wp_seq ?_
    refine wp_region_lit ?_
    refine ep (v := .bool (((clsAt s i : Nat) : Int) == 3)) E (run_ueql (E.get 4 rfl) rfl rfl) fun a E => ?_
    refine ep (v := .bool (((clsAt s i : Nat) : Int) == 3)) E (run_assign rfl (E.get 0 rfl)) fun a E => ?_
    refine wpList_nil ?_
    refine then_n ?_
    cases hq129 : (((clsAt s i : Nat) : Int) == 3) with
    | false =>
     rw [hq129] at E
     have hlet : isLet c = false := by rw [← (cl8_qs c).2.2.1, ← clsAt_is hc]; exact (natq (clsAt s i) 3).symm.trans hq129
     refine wp_cond_false (E.get 0 rfl) ?_
     refine wp_seq ?_
     refine wp_region_lit ?_
     refine ep (v := .bool (((clsAt s i : Nat) : Int) == 4)) E (run_ueql (E.get 6 rfl) rfl rfl) fun a E => ?_
     refine ep (v := .bool (((clsAt s i : Nat) : Int) == 4)) E (run_assign rfl (E.get 0 rfl)) fun a E => ?_
     refine wpList_nil ?_
     refine then_n ?_
     cases hq130 : (((clsAt s i : Nat) : Int) == 4) with
     | false =>
      rw [hq130] at E
      have hdig : isDig c = false := by rw [← (cl8_qs c).2.2.2.1, ← clsAt_is hc]; exact (natq (clsAt s i) 4).symm.trans hq130
      refine wp_cond_false (E.get 0 rfl) ?_
      refine wp_seq ?_
      refine wp_region_lit ?_
      refine ep (v := .bool (((clsAt s i : Nat) : Int) == 7)) E (run_ueql (E.get 8 rfl) rfl rfl) fun a E => ?_
      refine ep (v := .bool (((clsAt s i : Nat) : Int) == 7)) E (run_assign rfl (E.get 0 rfl)) fun a E => ?_
      refine wpList_nil ?_
      refine then_n ?_
      cases hq131 : (((clsAt s i : Nat) : Int) == 7) with
      | false =>
       rw [hq131] at E
       have hquo : (c == 34) = false := by rw [← (cl8_qs c).2.2.2.2.1, ← clsAt_is hc]; exact (natq (clsAt s i) 7).symm.trans hq131
       refine wp_cond_false (E.get 0 rfl) ?_
       refine wp_seq ?_
       refine wp_region_lit ?_
       refine ep (v := .bool (((clsAt s i : Nat) : Int) == 6)) E (run_ueql (E.get 10 rfl) rfl rfl) fun a E => ?_
       refine ep (v := .bool (((clsAt s i : Nat) : Int) == 6)) E (run_assign rfl (E.get 0 rfl)) fun a E => ?_
       refine wpList_nil ?_
       refine then_n ?_
       cases hq132 : (((clsAt s i : Nat) : Int) == 6) with
       | false =>
        rw [hq132] at E
        have hsym : isSym c = false := by rw [← (cl8_qs c).2.2.2.2.2.1, ← clsAt_is hc]; exact (natq (clsAt s i) 6).symm.trans hq132
        refine wp_cond_false (E.get 0 rfl) ?_
        refine wp_skip ?_
        refine blk_n ?_
        refine then_n ?_
        refine wp_seq ?_
        have hon := one_oth (l := s.drop (i + 1)) hblk hhash hlet hdig hquo hsym
        obtain ⟨hx, hend⟩ := hL.err hc hon (by decide)
        refine envI_region ?_
        refine envI_put (d := 140) (v := .func (.yield l) #[] #[]) E rfl (by decide) rfl (wanted_none rfl _) (run_move rfl (E.get 25 rfl)) fun a E => ?_
        refine envI_put (d := 141) (v := .agg (fdA ((0, [], (i : Int)), 3))) E rfl (by decide) rfl (wanted_none rfl _) (run_ld81 rfl (E.get 16 rfl) (rng4 (p := ((0, [], (i : Int)), 3)) hb126 0 rfl rfl rfl rfl)) fun a E => ?_
        refine envI_yield (d := 142) E rfl (by decide) rfl (wanted_none rfl _) rfl (E.get 1 rfl) (E.get 0 rfl) (hround k h _ _ (hJF _ _ _ _ hJ hf) (by unfold lexV; rw [List.getElem?_map, hx]; rfl)) fun a w3 bb hbb E => ?_
        cases hq133 : bb with
        | false =>
         rw [hq133] at E
         have hS : S w3 := hbb.elim (fun h9 => by rw [hq133] at h9; cases h9.1) (fun h9 => h9.2)
         have hb6y : True := trivial
         refine envI_put (d := 143) (v := .bool true) E rfl (by decide) rfl (wanted_none rfl _) (run_not rfl (E.get 0 rfl)) fun a E => ?_
         refine envI_put (d := 144) (v := .bool true) E rfl (by decide) rfl (wanted_none rfl _) (run_move rfl (E.get 0 rfl)) fun a E => ?_
         refine envI_skip (d := 145) (g := 4) (s := 144) E rfl (by decide) rfl rfl rfl (by decide) (E.get 0 rfl) fun a E => ?_
         refine envI_skip (d := 146) (g := 4) (s := 144) E rfl (by decide) rfl rfl rfl (by decide) (E.get 1 rfl) fun a E => ?_
         refine envI_skip (d := 147) (g := 4) (s := 144) E rfl (by decide) rfl rfl rfl (by decide) (E.get 2 rfl) fun a E => ?_
         refine envI_put (d := 148) (v := .bool true) E rfl (by decide) rfl (wanted_none rfl _) (run_pick_t rfl (E.get 3 rfl) rfl) fun a E => ?_
         refine envI_nil ?_
         refine then_n ?_
         refine wp_cond_true (E.get 0 rfl) ?_
         refine wp_ret ?_
         refine blk_r ?_
         refine then_r ?_
         refine blk_r ?_
         refine ng_r ?_
         refine (ret_nil rfl E ⟨⟨_, rfl⟩, .inr hS⟩).2
        | true =>
         rw [hq133] at E
         obtain ⟨⟨h2, hJ2⟩, fy⟩ : (∃ h2, J (k + 1) h2 w3) ∧ Fr (fun b => b < h) w1 w3 := hbb.elim (fun h9 => h9.2) (fun h9 => by rw [hq133] at h9; cases h9.1)
         have hb126 := fy.obj hb126 (by omega)
         have hb6y : True := trivial
         refine envI_put (d := 143) (v := .bool false) E rfl (by decide) rfl (wanted_none rfl _) (run_not rfl (E.get 0 rfl)) fun a E => ?_
         refine envI_put (d := 144) (v := .bool false) E rfl (by decide) rfl (wanted_none rfl _) (run_move rfl (E.get 0 rfl)) fun a E => ?_
         refine envI_put (d := 145) (v := .pointer (some ⟨b126, 3, none⟩)) E rfl (by decide) rfl (w_yes (g := 4) (s := 144) E rfl rfl (by decide) (E.get 0 rfl)) (fa81_1 rfl (E.get 20 rfl)) fun a E => ?_
         refine envI_put (d := 146) (v := .int .i64 3) E rfl (by decide) rfl (w_yes (g := 4) (s := 144) E rfl rfl (by decide) (E.get 1 rfl)) (run_lde rfl (E.get 0 rfl) (bx hb126 3 rfl)) fun a E => ?_
         refine envI_put (d := 147) (v := .bool true) E rfl (by decide) rfl (w_yes (g := 4) (s := 144) E rfl rfl (by decide) (E.get 2 rfl)) (run_ineq (m := 3) (n := 0) (E.get 0 rfl) rfl Tryz.underlying25 rfl) fun a E => ?_
         refine envI_put (d := 148) (v := .bool true) E rfl (by decide) rfl (wanted_none rfl _) (run_pick_f rfl (E.get 3 rfl) (E.get 0 rfl)) fun a E => ?_
         refine envI_nil ?_
         refine then_n ?_
         refine wp_cond_true (E.get 0 rfl) ?_
         refine wp_ret ?_
         refine blk_r ?_
         refine then_r ?_
         refine blk_r ?_
         refine ng_r ?_
         refine (ret_nil rfl E ⟨⟨_, rfl⟩, .inl ?_⟩).2
         unfold lexV
         rw [List.length_map, ← hend]; exact ⟨_, hJ2⟩
       | true =>
        rw [hq132] at E
        have hsym : isSym c = true := by rw [← (cl8_qs c).2.2.2.2.2.1, ← clsAt_is hc]; exact (natq (clsAt s i) 6).symm.trans hq132
        refine wp_cond_true (E.get 0 rfl) ?_
        refine wp_seq ?_
        have hon : one c (s.drop (i + 1)) = (4, (s.take (i + 1)).drop i, 0, 0) := by rw [one_sym hsym, take_cons_sub hc (Nat.le_refl _)]; simp
        refine wp_region_lit ?_
        refine ep (v := .int .i64 (i : Int)) E (run_move rfl (E.get 28 rfl)) fun a E => ?_
        refine ep (v := .int .i64 ((i : Int) + 1)) E (run_iadd Tryz.underlying3 (E.get 0 rfl) rfl (by omega) (by omega) rfl) fun a E => ?_
        refine env_set (d := 4) (v := .int .i64 ((i : Int) + 1)) E rfl (by decide) (wanted_none rfl _) (run_assign rfl (E.get 0 rfl)) fun a E => ?_
        refine wpList_nil ?_
        refine then_n ?_
        refine wp_region_invx (G := Unit) () (n := 149) (base := [(4, .int .i64 ((i : Int) + 1)), (130, .int .i64 ((i : Int) + 1)), (129, .int .i64 (i : Int)), (127, .bool true), (128, .bool true), (107, .bool false), (108, .bool false), (74, .bool false), (75, .bool false), (40, .bool false), (41, .bool false), (26, .bool false), (27, .bool false), (22, .bool false), (23, .bool false), (21, .int .u8 ((clsAt s i : Nat) : Int)), (20, .int .i64 (i : Int)), (19, .func (.func 73) #[] #[.pointer (some ⟨c1, 0, none⟩), .pointer (some ⟨c3, 0, none⟩)]), (6, .pointer (some ⟨b126, 0, none⟩)), (18, .agg (fdA ((0, [], (i : Int)), 3))), (17, .agg (tkA (0, [], (i : Int)))), (16, .int .i64 (i : Int)), (5, .int .i64 (i : Int)), (15, .int .i64 (i : Int)), (14, .bool true), (13, .int .i64 (s.length : Int)), (12, .string (ofL s)), (11, .int .i64 (i : Int)), (0, .func (.yield l) #[] #[]), (1, .pointer (some ⟨c1, 0, none⟩)), (2, .pointer (some ⟨c2, 0, none⟩))]) (U := []) (T := fun γ => [some (131, .string (ofL s)), some (132, .int .i64 (i : Int)), some (133, .int .i64 ((i : Int) + 1)), some (134, .string (ofL ((s.take (i + 1)).drop i))), some (135, .pointer (some ⟨b126, 0, none⟩)), some (136, .pointer (some ⟨b126, 0, none⟩)), none, some (137, .pointer (some ⟨b126, 0, none⟩)), some (138, .pointer (some ⟨b126, 1, none⟩)), none, some (139, .pointer (some ⟨b126, 3, none⟩)), none]) (M := fun γ ls9 wm => Fr (fun r => r = b126) w1 wm ∧ wm.heap[b126]? = some (.cells #[(bif ls9 6 then .int .i64 4 else .int .i64 0), (bif ls9 9 then .string (ofL ((s.take (i + 1)).drop i)) else .string (ofL [])), .int .i64 (i : Int), (bif ls9 11 then .int .i64 0 else .int .i64 3)] 81 (0, 0))) (by kernel_rfl) (by kernel_rfl) (fun _ => by kernel_rfl) (E.of ⟨E.get 0 rfl, E.get 1 rfl, E.get 2 rfl, E.get 3 rfl, E.get 4 rfl, E.get 5 rfl, E.get 6 rfl, E.get 7 rfl, E.get 8 rfl, E.get 9 rfl, E.get 10 rfl, E.get 11 rfl, E.get 12 rfl, E.get 13 rfl, E.get 14 rfl, E.get 15 rfl, E.get 16 rfl, E.get 17 rfl, E.get 18 rfl, E.get 19 rfl, E.get 20 rfl, E.get 21 rfl, E.get 22 rfl, E.get 23 rfl, E.get 24 rfl, E.get 25 rfl, E.get 26 rfl, E.get 27 rfl, E.get 28 rfl, E.get 29 rfl, E.get 30 rfl, trivial⟩) (fun x hx => by cases hx) ⟨(Fr.refl _ _).drew, hb126⟩ ?_ ?_
        ·intro j9 o9 γ ls9 a w5 ho hl E D DL DL2 hB hM
         have hK := LexK.fr hK hM.1 (fun e => by (try simp only at e); omega) (fun e => by (try simp only at e); omega)
         have hc1 := hM.1.obj hc1 (fun e => by (try simp only at e); omega)
         have hc2 := hM.1.obj hc2 (fun e => by (try simp only at e); omega)
         have hb126 := hM.2
         match j9, ho, hl, D, DL, hB with
         | 0, ho, hl, D, DL, hB =>
          obtain rfl := Option.some.inj ho
          clear ho
          exact ⟨fun _ => valx rfl (run_lds rfl (E.get 29 rfl) (bx hc1 0 rfl)) rfl hM, fun h => by rw [wanted_none rfl] at h; cases h⟩
         | 1, ho, hl, D, DL, hB =>
          obtain rfl := Option.some.inj ho
          clear ho
          exact ⟨fun _ => valx rfl (run_move rfl (E.get 22 rfl)) rfl hM, fun h => by rw [wanted_none rfl] at h; cases h⟩
         | 2, ho, hl, D, DL, hB =>
          obtain rfl := Option.some.inj ho
          clear ho
          exact ⟨fun _ => valx rfl (run_move rfl (E.get 0 rfl)) rfl hM, fun h => by rw [wanted_none rfl] at h; cases h⟩
         | 3, ho, hl, D, DL, hB =>
          obtain rfl := Option.some.inj ho
          clear ho
          exact ⟨fun _ => valx rfl (run_sub (a := i) (b := (i + 1)) rfl (D 0 _ rfl rfl) (D 1 _ rfl rfl) ((D 2 _ rfl rfl).trans (by rw [Int.natCast_add]; rfl)) (by omega) (by omega)) rfl hM, fun h => by rw [wanted_none rfl] at h; cases h⟩
         | 4, ho, hl, D, DL, hB =>
          obtain rfl := Option.some.inj ho
          clear ho
          exact ⟨fun _ => valx rfl (fa81_0 rfl (E.get 18 rfl)) rfl hM, fun h => by rw [wanted_none rfl] at h; cases h⟩
         | 5, ho, hl, D, DL, hB =>
          obtain rfl := Option.some.inj ho
          clear ho
          exact ⟨fun _ => valx rfl (fa38_0 rfl (D 4 _ rfl rfl)) rfl hM, fun h => by rw [wanted_none rfl] at h; cases h⟩
         | 6, ho, hl, D, DL, hB =>
          obtain rfl := Option.some.inj ho
          clear ho
          exact ⟨fun _ => storex rfl (run_st3 rfl (D 5 _ rfl rfl) rfl (bx hb126 0 rfl) (free_of_blk hb126 0)) rfl ⟨hM.1.trans (((Fr.refl (fun r => r = b126) w5).setCell (p := ⟨b126, 0, none⟩) (fun _ => rfl) _).mono (fun r _ e => by first | exact e | exact .inl e | exact .inr e | exact .inr (.inl e) | exact .inr (.inr e))), blk_setCell_same (off := 0) hb126 _⟩, fun h => by rw [wanted_none rfl] at h; cases h⟩
         | 7, ho, hl, D, DL, hB =>
          obtain rfl := Option.some.inj ho
          clear ho
          exact ⟨fun _ => valx rfl (fa81_0 rfl (E.get 18 rfl)) rfl hM, fun h => by rw [wanted_none rfl] at h; cases h⟩
         | 8, ho, hl, D, DL, hB =>
          obtain rfl := Option.some.inj ho
          clear ho
          exact ⟨fun _ => valx rfl (fa38_1 rfl (D 7 _ rfl rfl)) rfl hM, fun h => by rw [wanted_none rfl] at h; cases h⟩
         | 9, ho, hl, D, DL, hB =>
          obtain rfl := Option.some.inj ho
          clear ho
          exact ⟨fun _ => storex rfl (run_st9 rfl (D 8 _ rfl rfl) (D 3 _ rfl rfl) (bx hb126 1 rfl) (free_of_blk hb126 1)) rfl ⟨hM.1.trans (((Fr.refl (fun r => r = b126) w5).setCell (p := ⟨b126, 1, none⟩) (fun _ => rfl) _).mono (fun r _ e => by first | exact e | exact .inl e | exact .inr e | exact .inr (.inl e) | exact .inr (.inr e))), blk_setCell_same (off := 1) hb126 _⟩, fun h => by rw [wanted_none rfl] at h; cases h⟩
         | 10, ho, hl, D, DL, hB =>
          obtain rfl := Option.some.inj ho
          clear ho
          exact ⟨fun _ => valx rfl (fa81_1 rfl (E.get 18 rfl)) rfl hM, fun h => by rw [wanted_none rfl] at h; cases h⟩
         | 11, ho, hl, D, DL, hB =>
          obtain rfl := Option.some.inj ho
          clear ho
          exact ⟨fun _ => storex rfl (run_st25 rfl (D 10 _ rfl rfl) rfl (bx hb126 3 rfl) (free_of_blk hb126 3)) rfl ⟨hM.1.trans (((Fr.refl (fun r => r = b126) w5).setCell (p := ⟨b126, 3, none⟩) (fun _ => rfl) _).mono (fun r _ e => by first | exact e | exact .inl e | exact .inr e | exact .inr (.inl e) | exact .inr (.inr e))), blk_setCell_same (off := 3) hb126 _⟩, fun h => by rw [wanted_none rfl] at h; cases h⟩
         | j9 + 12, ho, hl, D, DL, hB => exact absurd ho (by simp)
        ·rintro _ a w5 E V hM
         clear V
         have f1 := hM.1
         have hb126n : w5.heap[b126]? = some (.cells #[.int .i64 4, .string (ofL ((s.take (i + 1)).drop i)), .int .i64 (i : Int), .int .i64 0] 81 (0, 0)) := hM.2
         clear hM
         have hK := LexK.fr hK f1 (fun e => by (try simp only at e); omega) (fun e => by (try simp only at e); omega)
         have hc1 := f1.obj hc1 (fun e => by (try simp only at e); omega)
         have hc2 := f1.obj hc2 (fun e => by (try simp only at e); omega)
         have hf := hf.trans' f1 (fun r hr => (fun e => by (try simp only at e); omega))
         clear f1
         replace hb126 := hb126n
         refine blk_n ?_
         refine then_n ?_
         refine wp_seq ?_
         obtain ⟨hx, hLn⟩ := hL.tok hc hon (by decide) (by omega)
         refine envI_region ?_
         refine envI_put (d := 140) (v := .func (.yield l) #[] #[]) E rfl (by decide) rfl (wanted_none rfl _) (run_move rfl (E.get 28 rfl)) fun a E => ?_
         refine envI_put (d := 141) (v := .agg (fdA ((4, ((s.take (i + 1)).drop i), (i : Int)), 0))) E rfl (by decide) rfl (wanted_none rfl _) (run_ld81 rfl (E.get 19 rfl) (rng4 (p := ((4, ((s.take (i + 1)).drop i), (i : Int)), 0)) hb126 0 rfl rfl rfl rfl)) fun a E => ?_
         refine envI_yield (d := 142) E rfl (by decide) rfl (wanted_none rfl _) rfl (E.get 1 rfl) (E.get 0 rfl) (hround k h _ _ (hJF _ _ _ _ hJ hf) (by unfold lexV; rw [List.getElem?_map, hx]; rfl)) fun a w3 bb hbb E => ?_
         cases hq134 : bb with
         | false =>
          rw [hq134] at E
          have hS : S w3 := hbb.elim (fun h9 => by rw [hq134] at h9; cases h9.1) (fun h9 => h9.2)
          have hb6y : True := trivial
          refine envI_put (d := 143) (v := .bool true) E rfl (by decide) rfl (wanted_none rfl _) (run_not rfl (E.get 0 rfl)) fun a E => ?_
          refine envI_put (d := 144) (v := .bool true) E rfl (by decide) rfl (wanted_none rfl _) (run_move rfl (E.get 0 rfl)) fun a E => ?_
          refine envI_skip (d := 145) (g := 4) (s := 144) E rfl (by decide) rfl rfl rfl (by decide) (E.get 0 rfl) fun a E => ?_
          refine envI_skip (d := 146) (g := 4) (s := 144) E rfl (by decide) rfl rfl rfl (by decide) (E.get 1 rfl) fun a E => ?_
          refine envI_skip (d := 147) (g := 4) (s := 144) E rfl (by decide) rfl rfl rfl (by decide) (E.get 2 rfl) fun a E => ?_
          refine envI_put (d := 148) (v := .bool true) E rfl (by decide) rfl (wanted_none rfl _) (run_pick_t rfl (E.get 3 rfl) rfl) fun a E => ?_
          refine envI_nil ?_
          refine then_n ?_
          refine wp_cond_true (E.get 0 rfl) ?_
          refine wp_ret ?_
          refine blk_r ?_
          refine then_r ?_
          refine blk_r ?_
          refine ng_r ?_
          refine (ret_nil rfl E ⟨⟨_, rfl⟩, .inr hS⟩).2
         | true =>
          rw [hq134] at E
          obtain ⟨⟨h2, hJ2⟩, fy⟩ : (∃ h2, J (k + 1) h2 w3) ∧ Fr (fun b => b < h) w5 w3 := hbb.elim (fun h9 => h9.2) (fun h9 => by rw [hq134] at h9; cases h9.1)
          have hb126 := fy.obj hb126 (by omega)
          have hb6y : True := trivial
          refine envI_put (d := 143) (v := .bool false) E rfl (by decide) rfl (wanted_none rfl _) (run_not rfl (E.get 0 rfl)) fun a E => ?_
          refine envI_put (d := 144) (v := .bool false) E rfl (by decide) rfl (wanted_none rfl _) (run_move rfl (E.get 0 rfl)) fun a E => ?_
          refine envI_put (d := 145) (v := .pointer (some ⟨b126, 3, none⟩)) E rfl (by decide) rfl (w_yes (g := 4) (s := 144) E rfl rfl (by decide) (E.get 0 rfl)) (fa81_1 rfl (E.get 23 rfl)) fun a E => ?_
          refine envI_put (d := 146) (v := .int .i64 0) E rfl (by decide) rfl (w_yes (g := 4) (s := 144) E rfl rfl (by decide) (E.get 1 rfl)) (run_lde rfl (E.get 0 rfl) (bx hb126 3 rfl)) fun a E => ?_
          refine envI_put (d := 147) (v := .bool false) E rfl (by decide) rfl (w_yes (g := 4) (s := 144) E rfl rfl (by decide) (E.get 2 rfl)) (run_ineq (m := 0) (n := 0) (E.get 0 rfl) rfl Tryz.underlying25 rfl) fun a E => ?_
          refine envI_put (d := 148) (v := .bool false) E rfl (by decide) rfl (wanted_none rfl _) (run_pick_f rfl (E.get 3 rfl) (E.get 0 rfl)) fun a E => ?_
          refine envI_nil ?_
          refine then_n ?_
          refine wp_cond_false (E.get 0 rfl) ?_
          refine wp_skip ?_
          refine blk_n ?_
          refine then_n ?_
          refine ⟨⟨(k + 1), (i + 1), h2, E.of ⟨E.get 37 rfl, E.get 38 rfl, E.get 39 rfl, (E.get 9 rfl).trans (by first | rfl | (congr 1 <;> omega)), trivial⟩, hJ2, (by simpa using hLn)⟩, ?_⟩
          rw [E.get 9 rfl]; simp only [intOf]; omega
      | true =>
       rw [hq131] at E
       have hquo : (c == 34) = true := by rw [← (cl8_qs c).2.2.2.2.1, ← clsAt_is hc]; exact (natq (clsAt s i) 7).symm.trans hq131
       refine wp_cond_true (E.get 0 rfl) ?_
       refine wp_seq ?_
       obtain ⟨hsd, _⟩ := str_one hc hquo
       refine wp_region_lit ?_
       refine ep (v := .string (ofL s)) E (run_lds rfl (E.get 24 rfl) (bx hc1 0 rfl)) fun a E => ?_
       refine ep (v := .int .i64 (i : Int)) E (run_move rfl (E.get 27 rfl)) fun a E => ?_
       refine ep (v := .string (ofL (34 :: s.drop (i + 1)))) E ((run_subl (a := i) rfl (E.get 1 rfl) (E.get 0 rfl) (by omega)).trans (by rw [hsd])) fun a E => ?_
       refine env_callv (d := 113) (R := fun u w8 => u = .tuple #[.string (ofL (unqR (s.drop (i + 1))).1), .int .i64 (unqR (s.drop (i + 1))).2] ∧ Fr (fun _ => False) w1 w8) E rfl (by decide) rfl (wanted_none rfl _) (run_call1 (enters_of Tryz.func75 (by kernel_rfl) rfl) rfl rfl (E.get 0 rfl)) ((unq_calls (s.drop (i + 1)) (by simp; omega) _).mono fun e w8 h => by obtain ⟨rfl, h⟩ := h; exact ⟨_, rfl, rfl, h⟩) fun a w1 u ⟨hu, f1⟩ E => ?_
       subst hu
       have hK := LexK.fr hK f1 id id
       have hc1 := f1.obj hc1 id
       have hc2 := f1.obj hc2 id
       have hb126 := f1.obj hb126 id
       have hf := hf.trans' f1 (fun _ _ h => h.elim)
       clear f1
       refine ep (v := .tuple #[.string (ofL (unqR (s.drop (i + 1))).1), .int .i64 (unqR (s.drop (i + 1))).2]) E (run_move rfl (E.get 0 rfl)) fun a E => ?_
       refine ep (v := .string (ofL (unqR (s.drop (i + 1))).1)) E (run_ext0 rfl (E.get 0 rfl)) fun a E => ?_
       refine ep (v := .int .i64 (unqR (s.drop (i + 1))).2) E (run_ext1 rfl (E.get 1 rfl)) fun a E => ?_
       refine ep (v := .string (ofL (unqR (s.drop (i + 1))).1)) E (run_assign rfl (E.get 1 rfl)) fun a E => ?_
       refine ep (v := .int .i64 (unqR (s.drop (i + 1))).2) E (run_assign rfl (E.get 1 rfl)) fun a E => ?_
       refine wpList_nil ?_
       refine then_n ?_
       refine wp_seq ?_
       refine wp_seq ?_
       refine wp_region_lit ?_
       refine ep (v := .int .i64 (unqR (s.drop (i + 1))).2) E (run_move rfl (E.get 0 rfl)) fun a E => ?_
       refine ep (v := .bool (decide (0 < (unqR (s.drop (i + 1))).2))) E (run_igtr (E.get 0 rfl) rfl Tryz.underlying3 rfl) fun a E => ?_
       refine wpList_nil ?_
       refine then_n ?_
       cases hq135 : (decide (0 < (unqR (s.drop (i + 1))).2)) with
       | false =>
        rw [hq135] at E
        obtain ⟨_, hso⟩ := str_one hc hquo
        obtain ⟨hun, hon⟩ : unqR (s.drop (i + 1)) = ([], 0) ∧ one c (s.drop (i + 1)) = (0, [], 0, 3) := hso.resolve_left (fun ⟨st, m, hx, _⟩ => by have := of_decide_eq_false hq135; rw [hx] at this; simp only at this; omega)
        have hu1 : (unqR (s.drop (i + 1))).1 = [] := by rw [hun]
        have hu2 : (unqR (s.drop (i + 1))).2 = 0 := by rw [hun]
        rw [hu1, hu2] at E
        refine wp_cond_false (E.get 0 rfl) ?_
        refine wp_skip ?_
        refine then_n ?_
        refine wp_region_lit ?_
        refine ep (v := .int .i64 (i : Int)) E (run_move rfl (E.get 37 rfl)) fun a E => ?_
        refine ep (v := .int .i64 0) E (run_move rfl (E.get 3 rfl)) fun a E => ?_
        refine ep (v := .int .i64 ((i : Int) + 0)) E (run_iadd Tryz.underlying3 (E.get 1 rfl) (E.get 0 rfl) (by omega) (by omega) rfl) fun a E => ?_
        refine env_set (d := 4) (v := .int .i64 ((i : Int) + 0)) E rfl (by decide) (wanted_none rfl _) (run_assign rfl (E.get 0 rfl)) fun a E => ?_
        refine wpList_nil ?_
        refine blk_n ?_
        refine then_n ?_
        refine wp_seq ?_
        obtain ⟨hx, hend⟩ := hL.err hc hon (by decide)
        refine envI_region ?_
        refine envI_put (d := 140) (v := .func (.yield l) #[] #[]) E rfl (by decide) rfl (wanted_none rfl _) (run_move rfl (E.get 38 rfl)) fun a E => ?_
        refine envI_put (d := 141) (v := .agg (fdA ((0, [], (i : Int)), 3))) E rfl (by decide) rfl (wanted_none rfl _) (run_ld81 rfl (E.get 29 rfl) (rng4 (p := ((0, [], (i : Int)), 3)) hb126 0 rfl rfl rfl rfl)) fun a E => ?_
        refine envI_yield (d := 142) E rfl (by decide) rfl (wanted_none rfl _) rfl (E.get 1 rfl) (E.get 0 rfl) (hround k h _ _ (hJF _ _ _ _ hJ hf) (by unfold lexV; rw [List.getElem?_map, hx]; rfl)) fun a w3 bb hbb E => ?_
        cases hq136 : bb with
        | false =>
         rw [hq136] at E
         have hS : S w3 := hbb.elim (fun h9 => by rw [hq136] at h9; cases h9.1) (fun h9 => h9.2)
         have hb6y : True := trivial
         refine envI_put (d := 143) (v := .bool true) E rfl (by decide) rfl (wanted_none rfl _) (run_not rfl (E.get 0 rfl)) fun a E => ?_
         refine envI_put (d := 144) (v := .bool true) E rfl (by decide) rfl (wanted_none rfl _) (run_move rfl (E.get 0 rfl)) fun a E => ?_
         refine envI_skip (d := 145) (g := 4) (s := 144) E rfl (by decide) rfl rfl rfl (by decide) (E.get 0 rfl) fun a E => ?_
         refine envI_skip (d := 146) (g := 4) (s := 144) E rfl (by decide) rfl rfl rfl (by decide) (E.get 1 rfl) fun a E => ?_
         refine envI_skip (d := 147) (g := 4) (s := 144) E rfl (by decide) rfl rfl rfl (by decide) (E.get 2 rfl) fun a E => ?_
         refine envI_put (d := 148) (v := .bool true) E rfl (by decide) rfl (wanted_none rfl _) (run_pick_t rfl (E.get 3 rfl) rfl) fun a E => ?_
         refine envI_nil ?_
         refine then_n ?_
         refine wp_cond_true (E.get 0 rfl) ?_
         refine wp_ret ?_
         refine blk_r ?_
         refine then_r ?_
         refine blk_r ?_
         refine ng_r ?_
         refine (ret_nil rfl E ⟨⟨_, rfl⟩, .inr hS⟩).2
        | true =>
         rw [hq136] at E
         obtain ⟨⟨h2, hJ2⟩, fy⟩ : (∃ h2, J (k + 1) h2 w3) ∧ Fr (fun b => b < h) w1 w3 := hbb.elim (fun h9 => h9.2) (fun h9 => by rw [hq136] at h9; cases h9.1)
         have hb126 := fy.obj hb126 (by omega)
         have hb6y : True := trivial
         refine envI_put (d := 143) (v := .bool false) E rfl (by decide) rfl (wanted_none rfl _) (run_not rfl (E.get 0 rfl)) fun a E => ?_
         refine envI_put (d := 144) (v := .bool false) E rfl (by decide) rfl (wanted_none rfl _) (run_move rfl (E.get 0 rfl)) fun a E => ?_
         refine envI_put (d := 145) (v := .pointer (some ⟨b126, 3, none⟩)) E rfl (by decide) rfl (w_yes (g := 4) (s := 144) E rfl rfl (by decide) (E.get 0 rfl)) (fa81_1 rfl (E.get 33 rfl)) fun a E => ?_
         refine envI_put (d := 146) (v := .int .i64 3) E rfl (by decide) rfl (w_yes (g := 4) (s := 144) E rfl rfl (by decide) (E.get 1 rfl)) (run_lde rfl (E.get 0 rfl) (bx hb126 3 rfl)) fun a E => ?_
         refine envI_put (d := 147) (v := .bool true) E rfl (by decide) rfl (w_yes (g := 4) (s := 144) E rfl rfl (by decide) (E.get 2 rfl)) (run_ineq (m := 3) (n := 0) (E.get 0 rfl) rfl Tryz.underlying25 rfl) fun a E => ?_
         refine envI_put (d := 148) (v := .bool true) E rfl (by decide) rfl (wanted_none rfl _) (run_pick_f rfl (E.get 3 rfl) (E.get 0 rfl)) fun a E => ?_
         refine envI_nil ?_
         refine then_n ?_
         refine wp_cond_true (E.get 0 rfl) ?_
         refine wp_ret ?_
         refine blk_r ?_
         refine then_r ?_
         refine blk_r ?_
         refine ng_r ?_
         refine (ret_nil rfl E ⟨⟨_, rfl⟩, .inl ?_⟩).2
         unfold lexV
         rw [List.length_map, ← hend]; exact ⟨_, hJ2⟩
       | true =>
        rw [hq135] at E
        obtain ⟨_, hso⟩ := str_one hc hquo
        obtain ⟨st, m, hun, hon, hmm⟩ : ∃ st m, unqR (s.drop (i + 1)) = (st, ((m + 1 : Nat) : Int)) ∧ one c (s.drop (i + 1)) = (3, st, m, 0) ∧ i + 1 + m ≤ s.length := hso.resolve_right (fun hx => by have := of_decide_eq_true hq135; rw [hx.1] at this; simp at this)
        have hu1 : (unqR (s.drop (i + 1))).1 = st := by rw [hun]
        have hu2 : (unqR (s.drop (i + 1))).2 = ((m + 1 : Nat) : Int) := by rw [hun]
        rw [hu1, hu2] at E
        refine wp_cond_true (E.get 0 rfl) ?_
        refine wp_region_lit ?_
        refine ep (v := .string (ofL st)) E (run_move rfl (E.get 3 rfl)) fun a E => ?_
        refine ep (v := .pointer (some ⟨b126, 0, none⟩)) E (fa81_0 rfl (E.get 25 rfl)) fun a E => ?_
        refine ep (v := .pointer (some ⟨b126, 0, none⟩)) E (fa38_0 rfl (E.get 0 rfl)) fun a E => ?_
        refine env_st1 (j := 0) E rfl (wanted_none rfl _) hb126 (run_st3 rfl (E.get 0 rfl) rfl (bx hb126 0 rfl) (free_of_blk hb126 0)) fun w1 hb126n f1 E => ?_
        replace hb126n : w1.heap[b126]? = some (.cells #[.int .i64 3, .string (ofL []), .int .i64 (i : Int), .int .i64 3] 81 (0, 0)) := hb126n
        have hK := LexK.fr hK f1 (fun e => by (try simp only at e); omega) (fun e => by (try simp only at e); omega)
        have hc1 := f1.obj hc1 (fun e => by (try simp only at e); omega)
        have hc2 := f1.obj hc2 (fun e => by (try simp only at e); omega)
        have hf := hf.trans' f1 (fun r hr => (fun e => by (try simp only at e); omega))
        clear f1
        replace hb126 := hb126n
        refine ep (v := .pointer (some ⟨b126, 0, none⟩)) E (fa81_0 rfl (E.get 27 rfl)) fun a E => ?_
        refine ep (v := .pointer (some ⟨b126, 1, none⟩)) E (fa38_1 rfl (E.get 0 rfl)) fun a E => ?_
        refine env_st1 (j := 1) E rfl (wanted_none rfl _) hb126 (run_st9 rfl (E.get 0 rfl) (E.get 4 rfl) (bx hb126 1 rfl) (free_of_blk hb126 1)) fun w1 hb126n f1 E => ?_
        replace hb126n : w1.heap[b126]? = some (.cells #[.int .i64 3, .string (ofL st), .int .i64 (i : Int), .int .i64 3] 81 (0, 0)) := hb126n
        have hK := LexK.fr hK f1 (fun e => by (try simp only at e); omega) (fun e => by (try simp only at e); omega)
        have hc1 := f1.obj hc1 (fun e => by (try simp only at e); omega)
        have hc2 := f1.obj hc2 (fun e => by (try simp only at e); omega)
        have hf := hf.trans' f1 (fun r hr => (fun e => by (try simp only at e); omega))
        clear f1
        replace hb126 := hb126n
        refine ep (v := .pointer (some ⟨b126, 3, none⟩)) E (fa81_1 rfl (E.get 29 rfl)) fun a E => ?_
        refine env_st1 (j := 3) E rfl (wanted_none rfl _) hb126 (run_st25 rfl (E.get 0 rfl) rfl (bx hb126 3 rfl) (free_of_blk hb126 3)) fun w1 hb126n f1 E => ?_
        replace hb126n : w1.heap[b126]? = some (.cells #[.int .i64 3, .string (ofL st), .int .i64 (i : Int), .int .i64 0] 81 (0, 0)) := hb126n
        have hK := LexK.fr hK f1 (fun e => by (try simp only at e); omega) (fun e => by (try simp only at e); omega)
        have hc1 := f1.obj hc1 (fun e => by (try simp only at e); omega)
        have hc2 := f1.obj hc2 (fun e => by (try simp only at e); omega)
        have hf := hf.trans' f1 (fun r hr => (fun e => by (try simp only at e); omega))
        clear f1
        replace hb126 := hb126n
        refine wpList_nil ?_
        refine then_n ?_
        refine wp_region_lit ?_
        refine ep (v := .int .i64 (i : Int)) E (run_move rfl (E.get 43 rfl)) fun a E => ?_
        refine ep (v := .int .i64 ((m + 1 : Nat) : Int)) E (run_move rfl (E.get 9 rfl)) fun a E => ?_
        refine ep (v := .int .i64 ((i : Int) + ((m + 1 : Nat) : Int))) E (run_iadd Tryz.underlying3 (E.get 1 rfl) (E.get 0 rfl) (by omega) (by omega) rfl) fun a E => ?_
        refine env_set (d := 4) (v := .int .i64 ((i : Int) + ((m + 1 : Nat) : Int))) E rfl (by decide) (wanted_none rfl _) (run_assign rfl (E.get 0 rfl)) fun a E => ?_
        refine wpList_nil ?_
        refine blk_n ?_
        refine then_n ?_
        refine wp_seq ?_
        obtain ⟨hx, hLn⟩ := hL.tok hc hon (by decide) (by omega)
        refine envI_region ?_
        refine envI_put (d := 140) (v := .func (.yield l) #[] #[]) E rfl (by decide) rfl (wanted_none rfl _) (run_move rfl (E.get 44 rfl)) fun a E => ?_
        refine envI_put (d := 141) (v := .agg (fdA ((3, st, (i : Int)), 0))) E rfl (by decide) rfl (wanted_none rfl _) (run_ld81 rfl (E.get 35 rfl) (rng4 (p := ((3, st, (i : Int)), 0)) hb126 0 rfl rfl rfl rfl)) fun a E => ?_
        refine envI_yield (d := 142) E rfl (by decide) rfl (wanted_none rfl _) rfl (E.get 1 rfl) (E.get 0 rfl) (hround k h _ _ (hJF _ _ _ _ hJ hf) (by unfold lexV; rw [List.getElem?_map, hx]; rfl)) fun a w3 bb hbb E => ?_
        cases hq137 : bb with
        | false =>
         rw [hq137] at E
         have hS : S w3 := hbb.elim (fun h9 => by rw [hq137] at h9; cases h9.1) (fun h9 => h9.2)
         have hb6y : True := trivial
         refine envI_put (d := 143) (v := .bool true) E rfl (by decide) rfl (wanted_none rfl _) (run_not rfl (E.get 0 rfl)) fun a E => ?_
         refine envI_put (d := 144) (v := .bool true) E rfl (by decide) rfl (wanted_none rfl _) (run_move rfl (E.get 0 rfl)) fun a E => ?_
         refine envI_skip (d := 145) (g := 4) (s := 144) E rfl (by decide) rfl rfl rfl (by decide) (E.get 0 rfl) fun a E => ?_
         refine envI_skip (d := 146) (g := 4) (s := 144) E rfl (by decide) rfl rfl rfl (by decide) (E.get 1 rfl) fun a E => ?_
         refine envI_skip (d := 147) (g := 4) (s := 144) E rfl (by decide) rfl rfl rfl (by decide) (E.get 2 rfl) fun a E => ?_
         refine envI_put (d := 148) (v := .bool true) E rfl (by decide) rfl (wanted_none rfl _) (run_pick_t rfl (E.get 3 rfl) rfl) fun a E => ?_
         refine envI_nil ?_
         refine then_n ?_
         refine wp_cond_true (E.get 0 rfl) ?_
         refine wp_ret ?_
         refine blk_r ?_
         refine then_r ?_
         refine blk_r ?_
         refine ng_r ?_
         refine (ret_nil rfl E ⟨⟨_, rfl⟩, .inr hS⟩).2
        | true =>
         rw [hq137] at E
         obtain ⟨⟨h2, hJ2⟩, fy⟩ : (∃ h2, J (k + 1) h2 w3) ∧ Fr (fun b => b < h) w1 w3 := hbb.elim (fun h9 => h9.2) (fun h9 => by rw [hq137] at h9; cases h9.1)
         have hb126 := fy.obj hb126 (by omega)
         have hb6y : True := trivial
         refine envI_put (d := 143) (v := .bool false) E rfl (by decide) rfl (wanted_none rfl _) (run_not rfl (E.get 0 rfl)) fun a E => ?_
         refine envI_put (d := 144) (v := .bool false) E rfl (by decide) rfl (wanted_none rfl _) (run_move rfl (E.get 0 rfl)) fun a E => ?_
         refine envI_put (d := 145) (v := .pointer (some ⟨b126, 3, none⟩)) E rfl (by decide) rfl (w_yes (g := 4) (s := 144) E rfl rfl (by decide) (E.get 0 rfl)) (fa81_1 rfl (E.get 39 rfl)) fun a E => ?_
         refine envI_put (d := 146) (v := .int .i64 0) E rfl (by decide) rfl (w_yes (g := 4) (s := 144) E rfl rfl (by decide) (E.get 1 rfl)) (run_lde rfl (E.get 0 rfl) (bx hb126 3 rfl)) fun a E => ?_
         refine envI_put (d := 147) (v := .bool false) E rfl (by decide) rfl (w_yes (g := 4) (s := 144) E rfl rfl (by decide) (E.get 2 rfl)) (run_ineq (m := 0) (n := 0) (E.get 0 rfl) rfl Tryz.underlying25 rfl) fun a E => ?_
         refine envI_put (d := 148) (v := .bool false) E rfl (by decide) rfl (wanted_none rfl _) (run_pick_f rfl (E.get 3 rfl) (E.get 0 rfl)) fun a E => ?_
         refine envI_nil ?_
         refine then_n ?_
         refine wp_cond_false (E.get 0 rfl) ?_
         refine wp_skip ?_
         refine blk_n ?_
         refine then_n ?_
         refine ⟨⟨(k + 1), (i + 1 + m), h2, E.of ⟨E.get 53 rfl, E.get 54 rfl, E.get 55 rfl, (E.get 9 rfl).trans (by first | rfl | (congr 1 <;> omega)), trivial⟩, hJ2, hLn⟩, ?_⟩
         rw [E.get 9 rfl]; simp only [intOf]; omega
     | true =>
      rw [hq130] at E
      have hdig : isDig c = true := by rw [← (cl8_qs c).2.2.2.1, ← clsAt_is hc]; exact (natq (clsAt s i) 4).symm.trans hq130
      refine wp_cond_true (E.get 0 rfl) ?_
      refine wp_seq ?_
      refine wp_block ?_
      refine wp_loop (fun a w2 => ∃ (j : Nat), Env 149 [(6, .pointer (some ⟨b126, 0, none⟩)), (5, .int .i64 (i : Int)), (0, .func (.yield l) #[] #[]), (1, .pointer (some ⟨c1, 0, none⟩)), (2, .pointer (some ⟨c2, 0, none⟩)), (4, .int .i64 (j : Int))] a ∧ RunTo isDig s i j ∧ Fr (fun _ => False) w1 w2) (fun a _ => s.length - (intOf (a.eval (.tmp 4))).toNat) ?_ ?_
      ·exact ⟨i, E.of ⟨E.get 11 rfl, E.get 15 rfl, E.get 21 rfl, E.get 22 rfl, E.get 23 rfl, E.get 24 rfl, trivial⟩, RunTo.start hL.1, Fr.refl _ _⟩
      clear E
      rintro a w2 ⟨j, E, hr, fL⟩
      have hmu : s.length - (intOf (a.eval (.tmp 4))).toNat = s.length - j := by rw [E.get 5 rfl]; first | rfl | (simp [intOf]; done) | (simp only [intOf]; omega)
      rw [hmu]
      clear hmu
      have f1 := fL
      have hjl := hr.hi
      have hK := LexK.fr hK f1 id id
      have hc1 := f1.obj hc1 id
      have hc2 := f1.obj hc2 id
      have hb126 := f1.obj hb126 id
      have hf := hf.trans' f1 (fun _ _ h => h.elim)
      clear f1
      refine wp_seq ?_
      refine wp_seq ?_
      refine wp_region_lit ?_
      refine ep (v := .func (.func 73) #[] #[.pointer (some ⟨c1, 0, none⟩), .pointer (some ⟨c3, 0, none⟩)]) E (run_ld113 rfl (E.get 4 rfl) (bx hc2 0 rfl)) fun a E => ?_
      refine ep (v := .int .i64 (j : Int)) E (run_move rfl (E.get 6 rfl)) fun a E => ?_
      refine env_call (d := 78) (v := .int .u8 ((clsAt s j : Nat) : Int)) E rfl (by decide) rfl (wanted_none rfl _) (run_callf1 (enters_of Tryz.func73 (by kernel_rfl) rfl) rfl (E.get 1 rfl) (E.get 0 rfl) rfl) (at_calls hK j) fun a w1 f1 E => ?_
      have hK := LexK.fr hK f1 id id
      have hc1 := f1.obj hc1 id
      have hc2 := f1.obj hc2 id
      have hb126 := f1.obj hb126 id
      have fL := fL.trans f1
      have hf := hf.trans' f1 (fun _ _ h => h.elim)
      clear f1
      refine ep (v := .bool (((clsAt s j : Nat) : Int) == 4)) E (run_ueql (E.get 0 rfl) rfl rfl) fun a E => ?_
      refine wpList_nil ?_
      refine then_n ?_
      cases hq139 : (((clsAt s j : Nat) : Int) == 4) with
      | false =>
       rw [hq139] at E
       have hj4 : (clsAt s j == 4) = false := (natq (clsAt s j) 4).symm.trans hq139
       refine wp_cond_false (E.get 0 rfl) ?_
       refine wp_exit ?_
       refine then_e ?_
       refine then_e ?_
       refine blk_e ?_
       refine then_n ?_
       refine wp_seq ?_
       have hds : digAt s j = false := by unfold digAt; exact hj4
       obtain ⟨hon, hij⟩ := dig_one hc hdig hr hds
       have hjl := hr.hi
       refine wp_region_invx (G := Unit) () (n := 149) (base := [(79, .bool false), (78, .int .u8 ((clsAt s j : Nat) : Int)), (77, .int .i64 (j : Int)), (76, .func (.func 73) #[] #[.pointer (some ⟨c1, 0, none⟩), .pointer (some ⟨c3, 0, none⟩)]), (6, .pointer (some ⟨b126, 0, none⟩)), (5, .int .i64 (i : Int)), (0, .func (.yield l) #[] #[]), (1, .pointer (some ⟨c1, 0, none⟩)), (2, .pointer (some ⟨c2, 0, none⟩)), (4, .int .i64 (j : Int))]) (U := []) (T := fun γ => [some (82, .string (ofL s)), some (83, .int .i64 (i : Int)), some (84, .int .i64 (j : Int)), some (85, .string (ofL ((s.take j).drop i))), some (86, .pointer (some ⟨b126, 0, none⟩)), some (87, .pointer (some ⟨b126, 0, none⟩)), none, some (88, .pointer (some ⟨b126, 0, none⟩)), some (89, .pointer (some ⟨b126, 1, none⟩)), none, some (90, .pointer (some ⟨b126, 3, none⟩)), none]) (M := fun γ ls9 wm => Fr (fun r => r = b126) w1 wm ∧ wm.heap[b126]? = some (.cells #[(bif ls9 6 then .int .i64 2 else .int .i64 0), (bif ls9 9 then .string (ofL ((s.take j).drop i)) else .string (ofL [])), .int .i64 (i : Int), (bif ls9 11 then .int .i64 0 else .int .i64 3)] 81 (0, 0))) (by kernel_rfl) (by kernel_rfl) (fun _ => by kernel_rfl) (E.of ⟨E.get 0 rfl, E.get 1 rfl, E.get 2 rfl, E.get 3 rfl, E.get 4 rfl, E.get 5 rfl, E.get 6 rfl, E.get 7 rfl, E.get 8 rfl, E.get 9 rfl, trivial⟩) (fun x hx => by cases hx) ⟨(Fr.refl _ _).drew, hb126⟩ ?_ ?_
       ·intro j9 o9 γ ls9 a w5 ho hl E D DL DL2 hB hM
        have hK := LexK.fr hK hM.1 (fun e => by (try simp only at e); omega) (fun e => by (try simp only at e); omega)
        have hc1 := hM.1.obj hc1 (fun e => by (try simp only at e); omega)
        have hc2 := hM.1.obj hc2 (fun e => by (try simp only at e); omega)
        have hb126 := hM.2
        match j9, ho, hl, D, DL, hB with
        | 0, ho, hl, D, DL, hB =>
         obtain rfl := Option.some.inj ho
         clear ho
         exact ⟨fun _ => valx rfl (run_lds rfl (E.get 7 rfl) (bx hc1 0 rfl)) rfl hM, fun h => by rw [wanted_none rfl] at h; cases h⟩
        | 1, ho, hl, D, DL, hB =>
         obtain rfl := Option.some.inj ho
         clear ho
         exact ⟨fun _ => valx rfl (run_move rfl (E.get 5 rfl)) rfl hM, fun h => by rw [wanted_none rfl] at h; cases h⟩
        | 2, ho, hl, D, DL, hB =>
         obtain rfl := Option.some.inj ho
         clear ho
         exact ⟨fun _ => valx rfl (run_move rfl (E.get 9 rfl)) rfl hM, fun h => by rw [wanted_none rfl] at h; cases h⟩
        | 3, ho, hl, D, DL, hB =>
         obtain rfl := Option.some.inj ho
         clear ho
         exact ⟨fun _ => valx rfl (run_sub (a := i) (b := j) rfl (D 0 _ rfl rfl) (D 1 _ rfl rfl) (D 2 _ rfl rfl) (by omega) (by omega)) rfl hM, fun h => by rw [wanted_none rfl] at h; cases h⟩
        | 4, ho, hl, D, DL, hB =>
         obtain rfl := Option.some.inj ho
         clear ho
         exact ⟨fun _ => valx rfl (fa81_0 rfl (E.get 4 rfl)) rfl hM, fun h => by rw [wanted_none rfl] at h; cases h⟩
        | 5, ho, hl, D, DL, hB =>
         obtain rfl := Option.some.inj ho
         clear ho
         exact ⟨fun _ => valx rfl (fa38_0 rfl (D 4 _ rfl rfl)) rfl hM, fun h => by rw [wanted_none rfl] at h; cases h⟩
        | 6, ho, hl, D, DL, hB =>
         obtain rfl := Option.some.inj ho
         clear ho
         exact ⟨fun _ => storex rfl (run_st3 rfl (D 5 _ rfl rfl) rfl (bx hb126 0 rfl) (free_of_blk hb126 0)) rfl ⟨hM.1.trans (((Fr.refl (fun r => r = b126) w5).setCell (p := ⟨b126, 0, none⟩) (fun _ => rfl) _).mono (fun r _ e => by first | exact e | exact .inl e | exact .inr e | exact .inr (.inl e) | exact .inr (.inr e))), blk_setCell_same (off := 0) hb126 _⟩, fun h => by rw [wanted_none rfl] at h; cases h⟩
        | 7, ho, hl, D, DL, hB =>
         obtain rfl := Option.some.inj ho
         clear ho
         exact ⟨fun _ => valx rfl (fa81_0 rfl (E.get 4 rfl)) rfl hM, fun h => by rw [wanted_none rfl] at h; cases h⟩
        | 8, ho, hl, D, DL, hB =>
         obtain rfl := Option.some.inj ho
         clear ho
         exact ⟨fun _ => valx rfl (fa38_1 rfl (D 7 _ rfl rfl)) rfl hM, fun h => by rw [wanted_none rfl] at h; cases h⟩
        | 9, ho, hl, D, DL, hB =>
         obtain rfl := Option.some.inj ho
         clear ho
         exact ⟨fun _ => storex rfl (run_st9 rfl (D 8 _ rfl rfl) (D 3 _ rfl rfl) (bx hb126 1 rfl) (free_of_blk hb126 1)) rfl ⟨hM.1.trans (((Fr.refl (fun r => r = b126) w5).setCell (p := ⟨b126, 1, none⟩) (fun _ => rfl) _).mono (fun r _ e => by first | exact e | exact .inl e | exact .inr e | exact .inr (.inl e) | exact .inr (.inr e))), blk_setCell_same (off := 1) hb126 _⟩, fun h => by rw [wanted_none rfl] at h; cases h⟩
        | 10, ho, hl, D, DL, hB =>
         obtain rfl := Option.some.inj ho
         clear ho
         exact ⟨fun _ => valx rfl (fa81_1 rfl (E.get 4 rfl)) rfl hM, fun h => by rw [wanted_none rfl] at h; cases h⟩
        | 11, ho, hl, D, DL, hB =>
         obtain rfl := Option.some.inj ho
         clear ho
         exact ⟨fun _ => storex rfl (run_st25 rfl (D 10 _ rfl rfl) rfl (bx hb126 3 rfl) (free_of_blk hb126 3)) rfl ⟨hM.1.trans (((Fr.refl (fun r => r = b126) w5).setCell (p := ⟨b126, 3, none⟩) (fun _ => rfl) _).mono (fun r _ e => by first | exact e | exact .inl e | exact .inr e | exact .inr (.inl e) | exact .inr (.inr e))), blk_setCell_same (off := 3) hb126 _⟩, fun h => by rw [wanted_none rfl] at h; cases h⟩
        | j9 + 12, ho, hl, D, DL, hB => exact absurd ho (by simp)
       ·rintro _ a w5 E V hM
        clear V
        have f1 := hM.1
        have hb126n : w5.heap[b126]? = some (.cells #[.int .i64 2, .string (ofL ((s.take j).drop i)), .int .i64 (i : Int), .int .i64 0] 81 (0, 0)) := hM.2
        clear hM
        have hK := LexK.fr hK f1 (fun e => by (try simp only at e); omega) (fun e => by (try simp only at e); omega)
        have hc1 := f1.obj hc1 (fun e => by (try simp only at e); omega)
        have hc2 := f1.obj hc2 (fun e => by (try simp only at e); omega)
        have hf := hf.trans' f1 (fun r hr => (fun e => by (try simp only at e); omega))
        clear f1
        replace hb126 := hb126n
        refine then_n ?_
        refine wp_seq ?_
        refine wp_region_lit ?_
        refine ep (v := .func (.func 73) #[] #[.pointer (some ⟨c1, 0, none⟩), .pointer (some ⟨c3, 0, none⟩)]) E (run_ld113 rfl (E.get 8 rfl) (bx hc2 0 rfl)) fun a E => ?_
        refine ep (v := .int .i64 (j : Int)) E (run_move rfl (E.get 10 rfl)) fun a E => ?_
        refine env_call (d := 93) (v := .int .u8 ((clsAt s j : Nat) : Int)) E rfl (by decide) rfl (wanted_none rfl _) (run_callf1 (enters_of Tryz.func73 (by kernel_rfl) rfl) rfl (E.get 1 rfl) (E.get 0 rfl) rfl) (at_calls hK j) fun a w1 f1 E => ?_
        have hK := LexK.fr hK f1 id id
        have hc1 := f1.obj hc1 id
        have hc2 := f1.obj hc2 id
        have hb126 := f1.obj hb126 id
        have hf := hf.trans' f1 (fun _ _ h => h.elim)
        clear f1
        refine ep (v := .int .u8 ((clsAt s j : Nat) : Int)) E (run_assign rfl (E.get 0 rfl)) fun a E => ?_
        refine wpList_nil ?_
        refine then_n ?_
        refine wp_seq ?_
        refine wp_region_lit ?_
        refine ep (v := .int .i64 (j : Int)) E (run_move rfl (E.get 13 rfl)) fun a E => ?_
        refine ep (v := .int .i64 (i : Int)) E (run_move rfl (E.get 10 rfl)) fun a E => ?_
        refine ep (v := .int .i64 ((j : Int) - (i : Int))) E (run_isub Tryz.underlying3 (E.get 1 rfl) (E.get 0 rfl) (by omega) (by omega) rfl) fun a E => ?_
        refine ep (v := .bool (decide (7 < ((j : Int) - (i : Int))))) E (run_igtr (E.get 0 rfl) rfl Tryz.underlying3 rfl) fun a E => ?_
        refine ep (v := .bool (decide (7 < ((j : Int) - (i : Int))))) E (run_move rfl (E.get 0 rfl)) fun a E => ?_
        cases hq140 : (decide (7 < ((j : Int) - (i : Int)))) with
        | false =>
         rw [hq140] at E
         have hd9 := of_decide_eq_false hq140
         refine eg (v := .int .u8 ((clsAt s j : Nat) : Int)) E (w_yes (g := 4) (s := 98) E rfl rfl (by decide) (E.get 0 rfl)) (run_move rfl (E.get 5 rfl)) fun a E => ?_
         refine eg (v := .bool (((clsAt s j : Nat) : Int) == 3)) E (w_yes (g := 4) (s := 98) E rfl rfl (by decide) (E.get 1 rfl)) (run_ueql (E.get 0 rfl) rfl rfl) fun a E => ?_
         refine ep (v := .bool (((clsAt s j : Nat) : Int) == 3)) E (run_pick_f rfl (E.get 2 rfl) (E.get 0 rfl)) fun a E => ?_
         refine ep (v := .bool (((clsAt s j : Nat) : Int) == 3)) E (run_move rfl (E.get 0 rfl)) fun a E => ?_
         cases hq141 : (((clsAt s j : Nat) : Int) == 3) with
         | false =>
          rw [hq141] at E
          have hj3 : (clsAt s j == 3) = false := (natq (clsAt s j) 3).symm.trans hq141
          refine eg (v := .int .u8 ((clsAt s j : Nat) : Int)) E (w_yes (g := 8) (s := 102) E rfl rfl (by decide) (E.get 0 rfl)) (run_move rfl (E.get 9 rfl)) fun a E => ?_
          refine eg (v := .bool (((clsAt s j : Nat) : Int) == 5)) E (w_yes (g := 8) (s := 102) E rfl rfl (by decide) (E.get 1 rfl)) (run_ueql (E.get 0 rfl) rfl rfl) fun a E => ?_
          refine ep (v := .bool (((clsAt s j : Nat) : Int) == 5)) E (run_pick_f rfl (E.get 2 rfl) (E.get 0 rfl)) fun a E => ?_
          refine wpList_nil ?_
          refine then_n ?_
          cases hq142 : (((clsAt s j : Nat) : Int) == 5) with
          | false =>
           rw [hq142] at E
           have hj5 : (clsAt s j == 5) = false := (natq (clsAt s j) 5).symm.trans hq142
           refine wp_cond_false (E.get 0 rfl) ?_
           refine wp_skip ?_
           refine blk_n ?_
           refine then_n ?_
           refine wp_seq ?_
           have hwq : wrdAt s j = false := by rw [wrd_35 hds, hj3, hj5]; rfl
           rw [hwq, decide_eq_false hd9] at hon
           simp only [Bool.or_true, Bool.or_false, Bool.false_eq_true, if_true, if_false] at hon
           obtain ⟨hx, hLn⟩ := hL.tok hc hon (by decide) (by omega)
           refine envI_region ?_
           refine envI_put (d := 140) (v := .func (.yield l) #[] #[]) E rfl (by decide) rfl (wanted_none rfl _) (run_move rfl (E.get 22 rfl)) fun a E => ?_
           refine envI_put (d := 141) (v := .agg (fdA ((2, ((s.take j).drop i), (i : Int)), 0))) E rfl (by decide) rfl (wanted_none rfl _) (run_ld81 rfl (E.get 21 rfl) (rng4 (p := ((2, ((s.take j).drop i), (i : Int)), 0)) hb126 0 rfl rfl rfl rfl)) fun a E => ?_
           refine envI_yield (d := 142) E rfl (by decide) rfl (wanted_none rfl _) rfl (E.get 1 rfl) (E.get 0 rfl) (hround k h _ _ (hJF _ _ _ _ hJ hf) (by unfold lexV; rw [List.getElem?_map, hx]; rfl)) fun a w3 bb hbb E => ?_
           cases hq143 : bb with
           | false =>
            rw [hq143] at E
            have hS : S w3 := hbb.elim (fun h9 => by rw [hq143] at h9; cases h9.1) (fun h9 => h9.2)
            have hb6y : True := trivial
            refine envI_put (d := 143) (v := .bool true) E rfl (by decide) rfl (wanted_none rfl _) (run_not rfl (E.get 0 rfl)) fun a E => ?_
            refine envI_put (d := 144) (v := .bool true) E rfl (by decide) rfl (wanted_none rfl _) (run_move rfl (E.get 0 rfl)) fun a E => ?_
            refine envI_skip (d := 145) (g := 4) (s := 144) E rfl (by decide) rfl rfl rfl (by decide) (E.get 0 rfl) fun a E => ?_
            refine envI_skip (d := 146) (g := 4) (s := 144) E rfl (by decide) rfl rfl rfl (by decide) (E.get 1 rfl) fun a E => ?_
            refine envI_skip (d := 147) (g := 4) (s := 144) E rfl (by decide) rfl rfl rfl (by decide) (E.get 2 rfl) fun a E => ?_
            refine envI_put (d := 148) (v := .bool true) E rfl (by decide) rfl (wanted_none rfl _) (run_pick_t rfl (E.get 3 rfl) rfl) fun a E => ?_
            refine envI_nil ?_
            refine then_n ?_
            refine wp_cond_true (E.get 0 rfl) ?_
            refine wp_ret ?_
            refine blk_r ?_
            refine then_r ?_
            refine blk_r ?_
            refine ng_r ?_
            refine (ret_nil rfl E ⟨⟨_, rfl⟩, .inr hS⟩).2
           | true =>
            rw [hq143] at E
            obtain ⟨⟨h2, hJ2⟩, fy⟩ : (∃ h2, J (k + 1) h2 w3) ∧ Fr (fun b => b < h) w1 w3 := hbb.elim (fun h9 => h9.2) (fun h9 => by rw [hq143] at h9; cases h9.1)
            have hb126 := fy.obj hb126 (by omega)
            have hb6y : True := trivial
            refine envI_put (d := 143) (v := .bool false) E rfl (by decide) rfl (wanted_none rfl _) (run_not rfl (E.get 0 rfl)) fun a E => ?_
            refine envI_put (d := 144) (v := .bool false) E rfl (by decide) rfl (wanted_none rfl _) (run_move rfl (E.get 0 rfl)) fun a E => ?_
            refine envI_put (d := 145) (v := .pointer (some ⟨b126, 3, none⟩)) E rfl (by decide) rfl (w_yes (g := 4) (s := 144) E rfl rfl (by decide) (E.get 0 rfl)) (fa81_1 rfl (E.get 25 rfl)) fun a E => ?_
            refine envI_put (d := 146) (v := .int .i64 0) E rfl (by decide) rfl (w_yes (g := 4) (s := 144) E rfl rfl (by decide) (E.get 1 rfl)) (run_lde rfl (E.get 0 rfl) (bx hb126 3 rfl)) fun a E => ?_
            refine envI_put (d := 147) (v := .bool false) E rfl (by decide) rfl (w_yes (g := 4) (s := 144) E rfl rfl (by decide) (E.get 2 rfl)) (run_ineq (m := 0) (n := 0) (E.get 0 rfl) rfl Tryz.underlying25 rfl) fun a E => ?_
            refine envI_put (d := 148) (v := .bool false) E rfl (by decide) rfl (wanted_none rfl _) (run_pick_f rfl (E.get 3 rfl) (E.get 0 rfl)) fun a E => ?_
            refine envI_nil ?_
            refine then_n ?_
            refine wp_cond_false (E.get 0 rfl) ?_
            refine wp_skip ?_
            refine blk_n ?_
            refine then_n ?_
            refine ⟨⟨(k + 1), j, h2, E.of ⟨E.get 31 rfl, E.get 32 rfl, E.get 33 rfl, (E.get 34 rfl).trans (by first | rfl | (congr 1 <;> omega)), trivial⟩, hJ2, (by rwa [show i + 1 + (j - (i + 1)) = j by omega] at hLn)⟩, ?_⟩
            rw [E.get 34 rfl]; simp only [intOf]; omega
          | true =>
           rw [hq142] at E
           have hj5 : (clsAt s j == 5) = true := (natq (clsAt s j) 5).symm.trans hq142
           refine wp_cond_true (E.get 0 rfl) ?_
           refine wp_region_lit ?_
           refine ep (v := .pointer (some ⟨b126, 3, none⟩)) E (fa81_1 rfl (E.get 20 rfl)) fun a E => ?_
           refine env_st1 (j := 3) E rfl (wanted_none rfl _) hb126 (run_st25 rfl (E.get 0 rfl) rfl (bx hb126 3 rfl) (free_of_blk hb126 3)) fun w1 hb126n f1 E => ?_
           replace hb126n : w1.heap[b126]? = some (.cells #[.int .i64 2, .string (ofL ((s.take j).drop i)), .int .i64 (i : Int), .int .i64 4] 81 (0, 0)) := hb126n
           have hK := LexK.fr hK f1 (fun e => by (try simp only at e); omega) (fun e => by (try simp only at e); omega)
           have hc1 := f1.obj hc1 (fun e => by (try simp only at e); omega)
           have hc2 := f1.obj hc2 (fun e => by (try simp only at e); omega)
           have hf := hf.trans' f1 (fun r hr => (fun e => by (try simp only at e); omega))
           clear f1
           replace hb126 := hb126n
           refine wpList_nil ?_
           refine blk_n ?_
           refine then_n ?_
           refine wp_seq ?_
           have hwq : wrdAt s j = true := by rw [wrd_35 hds, hj3, hj5]; rfl
           rw [hwq, decide_eq_false hd9] at hon
           simp only [Bool.or_true, Bool.or_false, Bool.false_eq_true, if_true, if_false] at hon
           obtain ⟨hx, hend⟩ := hL.err hc hon (by decide)
           refine envI_region ?_
           refine envI_put (d := 140) (v := .func (.yield l) #[] #[]) E rfl (by decide) rfl (wanted_none rfl _) (run_move rfl (E.get 23 rfl)) fun a E => ?_
           refine envI_put (d := 141) (v := .agg (fdA ((2, ((s.take j).drop i), (i : Int)), 4))) E rfl (by decide) rfl (wanted_none rfl _) (run_ld81 rfl (E.get 22 rfl) (rng4 (p := ((2, ((s.take j).drop i), (i : Int)), 4)) hb126 0 rfl rfl rfl rfl)) fun a E => ?_
           refine envI_yield (d := 142) E rfl (by decide) rfl (wanted_none rfl _) rfl (E.get 1 rfl) (E.get 0 rfl) (hround k h _ _ (hJF _ _ _ _ hJ hf) (by unfold lexV; rw [List.getElem?_map, hx]; rfl)) fun a w3 bb hbb E => ?_
           cases hq144 : bb with
           | false =>
            rw [hq144] at E
            have hS : S w3 := hbb.elim (fun h9 => by rw [hq144] at h9; cases h9.1) (fun h9 => h9.2)
            have hb6y : True := trivial
            refine envI_put (d := 143) (v := .bool true) E rfl (by decide) rfl (wanted_none rfl _) (run_not rfl (E.get 0 rfl)) fun a E => ?_
            refine envI_put (d := 144) (v := .bool true) E rfl (by decide) rfl (wanted_none rfl _) (run_move rfl (E.get 0 rfl)) fun a E => ?_
            refine envI_skip (d := 145) (g := 4) (s := 144) E rfl (by decide) rfl rfl rfl (by decide) (E.get 0 rfl) fun a E => ?_
            refine envI_skip (d := 146) (g := 4) (s := 144) E rfl (by decide) rfl rfl rfl (by decide) (E.get 1 rfl) fun a E => ?_
            refine envI_skip (d := 147) (g := 4) (s := 144) E rfl (by decide) rfl rfl rfl (by decide) (E.get 2 rfl) fun a E => ?_
            refine envI_put (d := 148) (v := .bool true) E rfl (by decide) rfl (wanted_none rfl _) (run_pick_t rfl (E.get 3 rfl) rfl) fun a E => ?_
            refine envI_nil ?_
            refine then_n ?_
            refine wp_cond_true (E.get 0 rfl) ?_
            refine wp_ret ?_
            refine blk_r ?_
            refine then_r ?_
            refine blk_r ?_
            refine ng_r ?_
            refine (ret_nil rfl E ⟨⟨_, rfl⟩, .inr hS⟩).2
           | true =>
            rw [hq144] at E
            obtain ⟨⟨h2, hJ2⟩, fy⟩ : (∃ h2, J (k + 1) h2 w3) ∧ Fr (fun b => b < h) w1 w3 := hbb.elim (fun h9 => h9.2) (fun h9 => by rw [hq144] at h9; cases h9.1)
            have hb126 := fy.obj hb126 (by omega)
            have hb6y : True := trivial
            refine envI_put (d := 143) (v := .bool false) E rfl (by decide) rfl (wanted_none rfl _) (run_not rfl (E.get 0 rfl)) fun a E => ?_
            refine envI_put (d := 144) (v := .bool false) E rfl (by decide) rfl (wanted_none rfl _) (run_move rfl (E.get 0 rfl)) fun a E => ?_
            refine envI_put (d := 145) (v := .pointer (some ⟨b126, 3, none⟩)) E rfl (by decide) rfl (w_yes (g := 4) (s := 144) E rfl rfl (by decide) (E.get 0 rfl)) (fa81_1 rfl (E.get 26 rfl)) fun a E => ?_
            refine envI_put (d := 146) (v := .int .i64 4) E rfl (by decide) rfl (w_yes (g := 4) (s := 144) E rfl rfl (by decide) (E.get 1 rfl)) (run_lde rfl (E.get 0 rfl) (bx hb126 3 rfl)) fun a E => ?_
            refine envI_put (d := 147) (v := .bool true) E rfl (by decide) rfl (w_yes (g := 4) (s := 144) E rfl rfl (by decide) (E.get 2 rfl)) (run_ineq (m := 4) (n := 0) (E.get 0 rfl) rfl Tryz.underlying25 rfl) fun a E => ?_
            refine envI_put (d := 148) (v := .bool true) E rfl (by decide) rfl (wanted_none rfl _) (run_pick_f rfl (E.get 3 rfl) (E.get 0 rfl)) fun a E => ?_
            refine envI_nil ?_
            refine then_n ?_
            refine wp_cond_true (E.get 0 rfl) ?_
            refine wp_ret ?_
            refine blk_r ?_
            refine then_r ?_
            refine blk_r ?_
            refine ng_r ?_
            refine (ret_nil rfl E ⟨⟨_, rfl⟩, .inl ?_⟩).2
            unfold lexV
            rw [List.length_map, ← hend]; exact ⟨_, hJ2⟩
         | true =>
          rw [hq141] at E
          have hj3 : (clsAt s j == 3) = true := (natq (clsAt s j) 3).symm.trans hq141
          refine ek E rfl (E.get 0 rfl) fun a E => ?_
          refine ek E rfl (E.get 1 rfl) fun a E => ?_
          refine ep (v := .bool true) E (run_pick_t rfl (E.get 2 rfl) rfl) fun a E => ?_
          refine wpList_nil ?_
          refine then_n ?_
          refine wp_cond_true (E.get 0 rfl) ?_
          refine wp_region_lit ?_
          refine ep (v := .pointer (some ⟨b126, 3, none⟩)) E (fa81_1 rfl (E.get 20 rfl)) fun a E => ?_
          refine env_st1 (j := 3) E rfl (wanted_none rfl _) hb126 (run_st25 rfl (E.get 0 rfl) rfl (bx hb126 3 rfl) (free_of_blk hb126 3)) fun w1 hb126n f1 E => ?_
          replace hb126n : w1.heap[b126]? = some (.cells #[.int .i64 2, .string (ofL ((s.take j).drop i)), .int .i64 (i : Int), .int .i64 4] 81 (0, 0)) := hb126n
          have hK := LexK.fr hK f1 (fun e => by (try simp only at e); omega) (fun e => by (try simp only at e); omega)
          have hc1 := f1.obj hc1 (fun e => by (try simp only at e); omega)
          have hc2 := f1.obj hc2 (fun e => by (try simp only at e); omega)
          have hf := hf.trans' f1 (fun r hr => (fun e => by (try simp only at e); omega))
          clear f1
          replace hb126 := hb126n
          refine wpList_nil ?_
          refine blk_n ?_
          refine then_n ?_
          refine wp_seq ?_
          have hwq : wrdAt s j = true := by rw [wrd_35 hds, hj3]; simp
          rw [hwq, decide_eq_false hd9] at hon
          simp only [Bool.or_true, Bool.or_false, Bool.false_eq_true, if_true, if_false] at hon
          obtain ⟨hx, hend⟩ := hL.err hc hon (by decide)
          refine envI_region ?_
          refine envI_put (d := 140) (v := .func (.yield l) #[] #[]) E rfl (by decide) rfl (wanted_none rfl _) (run_move rfl (E.get 23 rfl)) fun a E => ?_
          refine envI_put (d := 141) (v := .agg (fdA ((2, ((s.take j).drop i), (i : Int)), 4))) E rfl (by decide) rfl (wanted_none rfl _) (run_ld81 rfl (E.get 22 rfl) (rng4 (p := ((2, ((s.take j).drop i), (i : Int)), 4)) hb126 0 rfl rfl rfl rfl)) fun a E => ?_
          refine envI_yield (d := 142) E rfl (by decide) rfl (wanted_none rfl _) rfl (E.get 1 rfl) (E.get 0 rfl) (hround k h _ _ (hJF _ _ _ _ hJ hf) (by unfold lexV; rw [List.getElem?_map, hx]; rfl)) fun a w3 bb hbb E => ?_
          cases hq145 : bb with
          | false =>
           rw [hq145] at E
           have hS : S w3 := hbb.elim (fun h9 => by rw [hq145] at h9; cases h9.1) (fun h9 => h9.2)
           have hb6y : True := trivial
           refine envI_put (d := 143) (v := .bool true) E rfl (by decide) rfl (wanted_none rfl _) (run_not rfl (E.get 0 rfl)) fun a E => ?_
           refine envI_put (d := 144) (v := .bool true) E rfl (by decide) rfl (wanted_none rfl _) (run_move rfl (E.get 0 rfl)) fun a E => ?_
           refine envI_skip (d := 145) (g := 4) (s := 144) E rfl (by decide) rfl rfl rfl (by decide) (E.get 0 rfl) fun a E => ?_
           refine envI_skip (d := 146) (g := 4) (s := 144) E rfl (by decide) rfl rfl rfl (by decide) (E.get 1 rfl) fun a E => ?_
           refine envI_skip (d := 147) (g := 4) (s := 144) E rfl (by decide) rfl rfl rfl (by decide) (E.get 2 rfl) fun a E => ?_
           refine envI_put (d := 148) (v := .bool true) E rfl (by decide) rfl (wanted_none rfl _) (run_pick_t rfl (E.get 3 rfl) rfl) fun a E => ?_
           refine envI_nil ?_
           refine then_n ?_
           refine wp_cond_true (E.get 0 rfl) ?_
           refine wp_ret ?_
           refine blk_r ?_
           refine then_r ?_
           refine blk_r ?_
           refine ng_r ?_
           refine (ret_nil rfl E ⟨⟨_, rfl⟩, .inr hS⟩).2
          | true =>
           rw [hq145] at E
           obtain ⟨⟨h2, hJ2⟩, fy⟩ : (∃ h2, J (k + 1) h2 w3) ∧ Fr (fun b => b < h) w1 w3 := hbb.elim (fun h9 => h9.2) (fun h9 => by rw [hq145] at h9; cases h9.1)
           have hb126 := fy.obj hb126 (by omega)
           have hb6y : True := trivial
           refine envI_put (d := 143) (v := .bool false) E rfl (by decide) rfl (wanted_none rfl _) (run_not rfl (E.get 0 rfl)) fun a E => ?_
           refine envI_put (d := 144) (v := .bool false) E rfl (by decide) rfl (wanted_none rfl _) (run_move rfl (E.get 0 rfl)) fun a E => ?_
           refine envI_put (d := 145) (v := .pointer (some ⟨b126, 3, none⟩)) E rfl (by decide) rfl (w_yes (g := 4) (s := 144) E rfl rfl (by decide) (E.get 0 rfl)) (fa81_1 rfl (E.get 26 rfl)) fun a E => ?_
           refine envI_put (d := 146) (v := .int .i64 4) E rfl (by decide) rfl (w_yes (g := 4) (s := 144) E rfl rfl (by decide) (E.get 1 rfl)) (run_lde rfl (E.get 0 rfl) (bx hb126 3 rfl)) fun a E => ?_
           refine envI_put (d := 147) (v := .bool true) E rfl (by decide) rfl (w_yes (g := 4) (s := 144) E rfl rfl (by decide) (E.get 2 rfl)) (run_ineq (m := 4) (n := 0) (E.get 0 rfl) rfl Tryz.underlying25 rfl) fun a E => ?_
           refine envI_put (d := 148) (v := .bool true) E rfl (by decide) rfl (wanted_none rfl _) (run_pick_f rfl (E.get 3 rfl) (E.get 0 rfl)) fun a E => ?_
           refine envI_nil ?_
           refine then_n ?_
           refine wp_cond_true (E.get 0 rfl) ?_
           refine wp_ret ?_
           refine blk_r ?_
           refine then_r ?_
           refine blk_r ?_
           refine ng_r ?_
           refine (ret_nil rfl E ⟨⟨_, rfl⟩, .inl ?_⟩).2
           unfold lexV
           rw [List.length_map, ← hend]; exact ⟨_, hJ2⟩
        | true =>
         rw [hq140] at E
         have hd9 := of_decide_eq_true hq140
         refine ek E rfl (E.get 0 rfl) fun a E => ?_
         refine ek E rfl (E.get 1 rfl) fun a E => ?_
         refine ep (v := .bool true) E (run_pick_t rfl (E.get 2 rfl) rfl) fun a E => ?_
         refine ep (v := .bool true) E (run_move rfl (E.get 0 rfl)) fun a E => ?_
         refine ek E rfl (E.get 0 rfl) fun a E => ?_
         refine ek E rfl (E.get 1 rfl) fun a E => ?_
         refine ep (v := .bool true) E (run_pick_t rfl (E.get 2 rfl) rfl) fun a E => ?_
         refine wpList_nil ?_
         refine then_n ?_
         refine wp_cond_true (E.get 0 rfl) ?_
         refine wp_region_lit ?_
         refine ep (v := .pointer (some ⟨b126, 3, none⟩)) E (fa81_1 rfl (E.get 20 rfl)) fun a E => ?_
         refine env_st1 (j := 3) E rfl (wanted_none rfl _) hb126 (run_st25 rfl (E.get 0 rfl) rfl (bx hb126 3 rfl) (free_of_blk hb126 3)) fun w1 hb126n f1 E => ?_
         replace hb126n : w1.heap[b126]? = some (.cells #[.int .i64 2, .string (ofL ((s.take j).drop i)), .int .i64 (i : Int), .int .i64 4] 81 (0, 0)) := hb126n
         have hK := LexK.fr hK f1 (fun e => by (try simp only at e); omega) (fun e => by (try simp only at e); omega)
         have hc1 := f1.obj hc1 (fun e => by (try simp only at e); omega)
         have hc2 := f1.obj hc2 (fun e => by (try simp only at e); omega)
         have hf := hf.trans' f1 (fun r hr => (fun e => by (try simp only at e); omega))
         clear f1
         replace hb126 := hb126n
         refine wpList_nil ?_
         refine blk_n ?_
         refine then_n ?_
         refine wp_seq ?_
         rw [decide_eq_true hd9, Bool.true_or, if_pos rfl] at hon
         obtain ⟨hx, hend⟩ := hL.err hc hon (by decide)
         refine envI_region ?_
         refine envI_put (d := 140) (v := .func (.yield l) #[] #[]) E rfl (by decide) rfl (wanted_none rfl _) (run_move rfl (E.get 23 rfl)) fun a E => ?_
         refine envI_put (d := 141) (v := .agg (fdA ((2, ((s.take j).drop i), (i : Int)), 4))) E rfl (by decide) rfl (wanted_none rfl _) (run_ld81 rfl (E.get 22 rfl) (rng4 (p := ((2, ((s.take j).drop i), (i : Int)), 4)) hb126 0 rfl rfl rfl rfl)) fun a E => ?_
         refine envI_yield (d := 142) E rfl (by decide) rfl (wanted_none rfl _) rfl (E.get 1 rfl) (E.get 0 rfl) (hround k h _ _ (hJF _ _ _ _ hJ hf) (by unfold lexV; rw [List.getElem?_map, hx]; rfl)) fun a w3 bb hbb E => ?_
         cases hq146 : bb with
         | false =>
          rw [hq146] at E
          have hS : S w3 := hbb.elim (fun h9 => by rw [hq146] at h9; cases h9.1) (fun h9 => h9.2)
          have hb6y : True := trivial
          refine envI_put (d := 143) (v := .bool true) E rfl (by decide) rfl (wanted_none rfl _) (run_not rfl (E.get 0 rfl)) fun a E => ?_
          refine envI_put (d := 144) (v := .bool true) E rfl (by decide) rfl (wanted_none rfl _) (run_move rfl (E.get 0 rfl)) fun a E => ?_
          refine envI_skip (d := 145) (g := 4) (s := 144) E rfl (by decide) rfl rfl rfl (by decide) (E.get 0 rfl) fun a E => ?_
          refine envI_skip (d := 146) (g := 4) (s := 144) E rfl (by decide) rfl rfl rfl (by decide) (E.get 1 rfl) fun a E => ?_
          refine envI_skip (d := 147) (g := 4) (s := 144) E rfl (by decide) rfl rfl rfl (by decide) (E.get 2 rfl) fun a E => ?_
          refine envI_put (d := 148) (v := .bool true) E rfl (by decide) rfl (wanted_none rfl _) (run_pick_t rfl (E.get 3 rfl) rfl) fun a E => ?_
          refine envI_nil ?_
          refine then_n ?_
          refine wp_cond_true (E.get 0 rfl) ?_
          refine wp_ret ?_
          refine blk_r ?_
          refine then_r ?_
          refine blk_r ?_
          refine ng_r ?_
          refine (ret_nil rfl E ⟨⟨_, rfl⟩, .inr hS⟩).2
         | true =>
          rw [hq146] at E
          obtain ⟨⟨h2, hJ2⟩, fy⟩ : (∃ h2, J (k + 1) h2 w3) ∧ Fr (fun b => b < h) w1 w3 := hbb.elim (fun h9 => h9.2) (fun h9 => by rw [hq146] at h9; cases h9.1)
          have hb126 := fy.obj hb126 (by omega)
          have hb6y : True := trivial
          refine envI_put (d := 143) (v := .bool false) E rfl (by decide) rfl (wanted_none rfl _) (run_not rfl (E.get 0 rfl)) fun a E => ?_
          refine envI_put (d := 144) (v := .bool false) E rfl (by decide) rfl (wanted_none rfl _) (run_move rfl (E.get 0 rfl)) fun a E => ?_
          refine envI_put (d := 145) (v := .pointer (some ⟨b126, 3, none⟩)) E rfl (by decide) rfl (w_yes (g := 4) (s := 144) E rfl rfl (by decide) (E.get 0 rfl)) (fa81_1 rfl (E.get 26 rfl)) fun a E => ?_
          refine envI_put (d := 146) (v := .int .i64 4) E rfl (by decide) rfl (w_yes (g := 4) (s := 144) E rfl rfl (by decide) (E.get 1 rfl)) (run_lde rfl (E.get 0 rfl) (bx hb126 3 rfl)) fun a E => ?_
          refine envI_put (d := 147) (v := .bool true) E rfl (by decide) rfl (w_yes (g := 4) (s := 144) E rfl rfl (by decide) (E.get 2 rfl)) (run_ineq (m := 4) (n := 0) (E.get 0 rfl) rfl Tryz.underlying25 rfl) fun a E => ?_
          refine envI_put (d := 148) (v := .bool true) E rfl (by decide) rfl (wanted_none rfl _) (run_pick_f rfl (E.get 3 rfl) (E.get 0 rfl)) fun a E => ?_
          refine envI_nil ?_
          refine then_n ?_
          refine wp_cond_true (E.get 0 rfl) ?_
          refine wp_ret ?_
          refine blk_r ?_
          refine then_r ?_
          refine blk_r ?_
          refine ng_r ?_
          refine (ret_nil rfl E ⟨⟨_, rfl⟩, .inl ?_⟩).2
          unfold lexV
          rw [List.length_map, ← hend]; exact ⟨_, hJ2⟩
      | true =>
       rw [hq139] at E
       have hj4 : (clsAt s j == 4) = true := (natq (clsAt s j) 4).symm.trans hq139
       refine wp_cond_true (E.get 0 rfl) ?_
       refine wp_skip ?_
       refine then_n ?_
       refine wp_block ?_
       refine wp_region_lit ?_
       refine ep (v := .int .i64 (j : Int)) E (run_move rfl (E.get 9 rfl)) fun a E => ?_
       refine ep (v := .int .i64 ((j : Int) + 1)) E (run_iadd Tryz.underlying3 (E.get 0 rfl) rfl (by omega) (by omega) rfl) fun a E => ?_
       refine env_set (d := 4) (v := .int .i64 ((j : Int) + 1)) E rfl (by decide) (wanted_none rfl _) (run_assign rfl (E.get 0 rfl)) fun a E => ?_
       refine wpList_nil ?_
       refine blk_n ?_
       refine then_n ?_
       have hwj : digAt s j = true := by unfold digAt; first | (rw [hj4]; done) | (rw [hj4]; rfl)
       have hltj : j < s.length := by
        rcases Nat.lt_or_ge j s.length with h9 | h9
        ·exact h9
        ·rw [digAt_no h9] at hwj; cases hwj
       obtain ⟨e, he⟩ : ∃ e, s[j]? = some e := ⟨_, List.getElem?_eq_getElem hltj⟩
       have hen : isDig e = true := by rw [← digAt_is he]; exact hwj
       refine ⟨⟨j + 1, E.of ⟨E.get 7 rfl, E.get 8 rfl, E.get 9 rfl, E.get 10 rfl, E.get 11 rfl, (E.get 0 rfl).trans (by congr 1), trivial⟩, hr.step he hen, fL⟩, ?_⟩
       rw [E.get 0 rfl]; simp only [intOf]; omega
    | true =>
     rw [hq129] at E
     have hlet : isLet c = true := by rw [← (cl8_qs c).2.2.1, ← clsAt_is hc]; exact (natq (clsAt s i) 3).symm.trans hq129
     refine wp_cond_true (E.get 0 rfl) ?_
     refine wp_seq ?_
     refine wp_seq ?_
     refine wp_region_lit ?_
     refine ep (v := .func (.func 73) #[] #[.pointer (some ⟨c1, 0, none⟩), .pointer (some ⟨c3, 0, none⟩)]) E (run_ld113 rfl (E.get 21 rfl) (bx hc2 0 rfl)) fun a E => ?_
     refine ep (v := .int .i64 (i : Int)) E (run_move rfl (E.get 23 rfl)) fun a E => ?_
     refine env_call (d := 44) (v := .int .u8 ((clsAt s i : Nat) : Int)) E rfl (by decide) rfl (wanted_none rfl _) (run_callf1 (enters_of Tryz.func73 (by kernel_rfl) rfl) rfl (E.get 1 rfl) (E.get 0 rfl) rfl) (at_calls hK i) fun a w1 f1 E => ?_
     have hK := LexK.fr hK f1 id id
     have hc1 := f1.obj hc1 id
     have hc2 := f1.obj hc2 id
     have hb126 := f1.obj hb126 id
     have hf := hf.trans' f1 (fun _ _ h => h.elim)
     clear f1
     refine ep (v := .int .u8 ((clsAt s i : Nat) : Int)) E (run_assign rfl (E.get 0 rfl)) fun a E => ?_
     refine wpList_nil ?_
     refine then_n ?_
     refine wp_block ?_
     refine wp_loop (fun a w2 => ∃ (j : Nat), Env 149 [(6, .pointer (some ⟨b126, 0, none⟩)), (5, .int .i64 (i : Int)), (0, .func (.yield l) #[] #[]), (1, .pointer (some ⟨c1, 0, none⟩)), (2, .pointer (some ⟨c2, 0, none⟩)), (4, .int .i64 (j : Int)), (7, .int .u8 ((clsAt s j : Nat) : Int))] a ∧ RunTo isWrd s i j ∧ Fr (fun _ => False) w1 w2) (fun a _ => s.length - (intOf (a.eval (.tmp 4))).toNat) ?_ ?_
     ·exact ⟨i, E.of ⟨E.get 13 rfl, E.get 17 rfl, E.get 23 rfl, E.get 24 rfl, E.get 25 rfl, E.get 26 rfl, E.get 0 rfl, trivial⟩, RunTo.start hL.1, Fr.refl _ _⟩
     clear E
     rintro a w2 ⟨j, E, hr, fL⟩
     have hmu : s.length - (intOf (a.eval (.tmp 4))).toNat = s.length - j := by rw [E.get 5 rfl]; first | rfl | (simp [intOf]; done) | (simp only [intOf]; omega)
     rw [hmu]
     clear hmu
     have f1 := fL
     have hjl := hr.hi
     have hK := LexK.fr hK f1 id id
     have hc1 := f1.obj hc1 id
     have hc2 := f1.obj hc2 id
     have hb126 := f1.obj hb126 id
     have hf := hf.trans' f1 (fun _ _ h => h.elim)
     clear f1
     refine wp_seq ?_
     refine wp_seq ?_
     refine wp_region_lit ?_
     refine ep (v := .int .u8 ((clsAt s j : Nat) : Int)) E (run_move rfl (E.get 6 rfl)) fun a E => ?_
     refine ep (v := .bool (((clsAt s j : Nat) : Int) == 3)) E (run_ueql (E.get 0 rfl) rfl rfl) fun a E => ?_
     refine ep (v := .bool (((clsAt s j : Nat) : Int) == 3)) E (run_move rfl (E.get 0 rfl)) fun a E => ?_
     cases hq148 : (((clsAt s j : Nat) : Int) == 3) with
     | false =>
      rw [hq148] at E
      have hj3 : (clsAt s j == 3) = false := (natq (clsAt s j) 3).symm.trans hq148
      refine eg (v := .int .u8 ((clsAt s j : Nat) : Int)) E (w_yes (g := 2) (s := 47) E rfl rfl (by decide) (E.get 0 rfl)) (run_move rfl (E.get 9 rfl)) fun a E => ?_
      refine eg (v := .bool (((clsAt s j : Nat) : Int) == 4)) E (w_yes (g := 2) (s := 47) E rfl rfl (by decide) (E.get 1 rfl)) (run_ueql (E.get 0 rfl) rfl rfl) fun a E => ?_
      refine ep (v := .bool (((clsAt s j : Nat) : Int) == 4)) E (run_pick_f rfl (E.get 2 rfl) (E.get 0 rfl)) fun a E => ?_
      refine ep (v := .bool (((clsAt s j : Nat) : Int) == 4)) E (run_move rfl (E.get 0 rfl)) fun a E => ?_
      cases hq149 : (((clsAt s j : Nat) : Int) == 4) with
      | false =>
       rw [hq149] at E
       have hj4 : (clsAt s j == 4) = false := (natq (clsAt s j) 4).symm.trans hq149
       refine eg (v := .int .u8 ((clsAt s j : Nat) : Int)) E (w_yes (g := 6) (s := 51) E rfl rfl (by decide) (E.get 0 rfl)) (run_move rfl (E.get 13 rfl)) fun a E => ?_
       refine eg (v := .bool (((clsAt s j : Nat) : Int) == 5)) E (w_yes (g := 6) (s := 51) E rfl rfl (by decide) (E.get 1 rfl)) (run_ueql (E.get 0 rfl) rfl rfl) fun a E => ?_
       refine ep (v := .bool (((clsAt s j : Nat) : Int) == 5)) E (run_pick_f rfl (E.get 2 rfl) (E.get 0 rfl)) fun a E => ?_
       refine wpList_nil ?_
       refine then_n ?_
       cases hq150 : (((clsAt s j : Nat) : Int) == 5) with
       | false =>
        rw [hq150] at E
        have hj5 : (clsAt s j == 5) = false := (natq (clsAt s j) 5).symm.trans hq150
        refine wp_cond_false (E.get 0 rfl) ?_
        refine wp_exit ?_
        refine then_e ?_
        refine then_e ?_
        refine blk_e ?_
        refine then_n ?_
        refine wp_seq ?_
        have hws : wrdAt s j = false := by unfold wrdAt; rw [hj3, hj4, hj5]; rfl
        obtain ⟨hon, hij⟩ := let_one hc hlet hr hws
        have hjl := hr.hi
        refine wp_region_invx (G := Unit) () (n := 149) (base := [(54, .bool false), (53, .bool false), (52, .int .u8 ((clsAt s j : Nat) : Int)), (51, .bool false), (50, .bool false), (49, .bool false), (48, .int .u8 ((clsAt s j : Nat) : Int)), (47, .bool false), (46, .bool false), (45, .int .u8 ((clsAt s j : Nat) : Int)), (6, .pointer (some ⟨b126, 0, none⟩)), (5, .int .i64 (i : Int)), (0, .func (.yield l) #[] #[]), (1, .pointer (some ⟨c1, 0, none⟩)), (2, .pointer (some ⟨c2, 0, none⟩)), (4, .int .i64 (j : Int)), (7, .int .u8 ((clsAt s j : Nat) : Int))]) (U := []) (T := fun γ => [some (60, .string (ofL s)), some (61, .int .i64 (i : Int)), some (62, .int .i64 (j : Int)), some (63, .string (ofL ((s.take j).drop i))), some (64, .pointer (some ⟨b126, 0, none⟩)), some (65, .pointer (some ⟨b126, 0, none⟩)), none, some (66, .pointer (some ⟨b126, 0, none⟩)), some (67, .pointer (some ⟨b126, 1, none⟩)), none, some (68, .pointer (some ⟨b126, 3, none⟩)), none]) (M := fun γ ls9 wm => Fr (fun r => r = b126) w2 wm ∧ wm.heap[b126]? = some (.cells #[(bif ls9 6 then .int .i64 1 else .int .i64 0), (bif ls9 9 then .string (ofL ((s.take j).drop i)) else .string (ofL [])), .int .i64 (i : Int), (bif ls9 11 then .int .i64 0 else .int .i64 3)] 81 (0, 0))) (by kernel_rfl) (by kernel_rfl) (fun _ => by kernel_rfl) (E.of ⟨E.get 0 rfl, E.get 1 rfl, E.get 2 rfl, E.get 3 rfl, E.get 4 rfl, E.get 5 rfl, E.get 6 rfl, E.get 7 rfl, E.get 8 rfl, E.get 9 rfl, E.get 10 rfl, E.get 11 rfl, E.get 12 rfl, E.get 13 rfl, E.get 14 rfl, E.get 15 rfl, E.get 16 rfl, trivial⟩) (fun x hx => by cases hx) ⟨(Fr.refl _ _).drew, hb126⟩ ?_ ?_
        ·intro j9 o9 γ ls9 a w5 ho hl E D DL DL2 hB hM
         have hK := LexK.fr hK hM.1 (fun e => by (try simp only at e); omega) (fun e => by (try simp only at e); omega)
         have hc1 := hM.1.obj hc1 (fun e => by (try simp only at e); omega)
         have hc2 := hM.1.obj hc2 (fun e => by (try simp only at e); omega)
         have hb126 := hM.2
         match j9, ho, hl, D, DL, hB with
         | 0, ho, hl, D, DL, hB =>
          obtain rfl := Option.some.inj ho
          clear ho
          exact ⟨fun _ => valx rfl (run_lds rfl (E.get 13 rfl) (bx hc1 0 rfl)) rfl hM, fun h => by rw [wanted_none rfl] at h; cases h⟩
         | 1, ho, hl, D, DL, hB =>
          obtain rfl := Option.some.inj ho
          clear ho
          exact ⟨fun _ => valx rfl (run_move rfl (E.get 11 rfl)) rfl hM, fun h => by rw [wanted_none rfl] at h; cases h⟩
         | 2, ho, hl, D, DL, hB =>
          obtain rfl := Option.some.inj ho
          clear ho
          exact ⟨fun _ => valx rfl (run_move rfl (E.get 15 rfl)) rfl hM, fun h => by rw [wanted_none rfl] at h; cases h⟩
         | 3, ho, hl, D, DL, hB =>
          obtain rfl := Option.some.inj ho
          clear ho
          exact ⟨fun _ => valx rfl (run_sub (a := i) (b := j) rfl (D 0 _ rfl rfl) (D 1 _ rfl rfl) (D 2 _ rfl rfl) (by omega) (by omega)) rfl hM, fun h => by rw [wanted_none rfl] at h; cases h⟩
         | 4, ho, hl, D, DL, hB =>
          obtain rfl := Option.some.inj ho
          clear ho
          exact ⟨fun _ => valx rfl (fa81_0 rfl (E.get 10 rfl)) rfl hM, fun h => by rw [wanted_none rfl] at h; cases h⟩
         | 5, ho, hl, D, DL, hB =>
          obtain rfl := Option.some.inj ho
          clear ho
          exact ⟨fun _ => valx rfl (fa38_0 rfl (D 4 _ rfl rfl)) rfl hM, fun h => by rw [wanted_none rfl] at h; cases h⟩
         | 6, ho, hl, D, DL, hB =>
          obtain rfl := Option.some.inj ho
          clear ho
          exact ⟨fun _ => storex rfl (run_st3 rfl (D 5 _ rfl rfl) rfl (bx hb126 0 rfl) (free_of_blk hb126 0)) rfl ⟨hM.1.trans (((Fr.refl (fun r => r = b126) w5).setCell (p := ⟨b126, 0, none⟩) (fun _ => rfl) _).mono (fun r _ e => by first | exact e | exact .inl e | exact .inr e | exact .inr (.inl e) | exact .inr (.inr e))), blk_setCell_same (off := 0) hb126 _⟩, fun h => by rw [wanted_none rfl] at h; cases h⟩
         | 7, ho, hl, D, DL, hB =>
          obtain rfl := Option.some.inj ho
          clear ho
          exact ⟨fun _ => valx rfl (fa81_0 rfl (E.get 10 rfl)) rfl hM, fun h => by rw [wanted_none rfl] at h; cases h⟩
         | 8, ho, hl, D, DL, hB =>
          obtain rfl := Option.some.inj ho
          clear ho
          exact ⟨fun _ => valx rfl (fa38_1 rfl (D 7 _ rfl rfl)) rfl hM, fun h => by rw [wanted_none rfl] at h; cases h⟩
         | 9, ho, hl, D, DL, hB =>
          obtain rfl := Option.some.inj ho
          clear ho
          exact ⟨fun _ => storex rfl (run_st9 rfl (D 8 _ rfl rfl) (D 3 _ rfl rfl) (bx hb126 1 rfl) (free_of_blk hb126 1)) rfl ⟨hM.1.trans (((Fr.refl (fun r => r = b126) w5).setCell (p := ⟨b126, 1, none⟩) (fun _ => rfl) _).mono (fun r _ e => by first | exact e | exact .inl e | exact .inr e | exact .inr (.inl e) | exact .inr (.inr e))), blk_setCell_same (off := 1) hb126 _⟩, fun h => by rw [wanted_none rfl] at h; cases h⟩
         | 10, ho, hl, D, DL, hB =>
          obtain rfl := Option.some.inj ho
          clear ho
          exact ⟨fun _ => valx rfl (fa81_1 rfl (E.get 10 rfl)) rfl hM, fun h => by rw [wanted_none rfl] at h; cases h⟩
         | 11, ho, hl, D, DL, hB =>
          obtain rfl := Option.some.inj ho
          clear ho
          exact ⟨fun _ => storex rfl (run_st25 rfl (D 10 _ rfl rfl) rfl (bx hb126 3 rfl) (free_of_blk hb126 3)) rfl ⟨hM.1.trans (((Fr.refl (fun r => r = b126) w5).setCell (p := ⟨b126, 3, none⟩) (fun _ => rfl) _).mono (fun r _ e => by first | exact e | exact .inl e | exact .inr e | exact .inr (.inl e) | exact .inr (.inr e))), blk_setCell_same (off := 3) hb126 _⟩, fun h => by rw [wanted_none rfl] at h; cases h⟩
         | j9 + 12, ho, hl, D, DL, hB => exact absurd ho (by simp)
        ·rintro _ a w5 E V hM
         clear V
         have f1 := hM.1
         have hb126n : w5.heap[b126]? = some (.cells #[.int .i64 1, .string (ofL ((s.take j).drop i)), .int .i64 (i : Int), .int .i64 0] 81 (0, 0)) := hM.2
         clear hM
         have hK := LexK.fr hK f1 (fun e => by (try simp only at e); omega) (fun e => by (try simp only at e); omega)
         have hc1 := f1.obj hc1 (fun e => by (try simp only at e); omega)
         have hc2 := f1.obj hc2 (fun e => by (try simp only at e); omega)
         have hf := hf.trans' f1 (fun r hr => (fun e => by (try simp only at e); omega))
         clear f1
         replace hb126 := hb126n
         refine then_n ?_
         refine wp_seq ?_
         refine wp_region_lit ?_
         refine ep (v := .int .i64 (j : Int)) E (run_move rfl (E.get 15 rfl)) fun a E => ?_
         refine ep (v := .int .i64 (i : Int)) E (run_move rfl (E.get 12 rfl)) fun a E => ?_
         refine ep (v := .int .i64 ((j : Int) - (i : Int))) E (run_isub Tryz.underlying3 (E.get 1 rfl) (E.get 0 rfl) (by omega) (by omega) rfl) fun a E => ?_
         refine ep (v := .bool (decide (24 < ((j : Int) - (i : Int))))) E (run_igtr (E.get 0 rfl) rfl Tryz.underlying3 rfl) fun a E => ?_
         refine wpList_nil ?_
         refine then_n ?_
         cases hq151 : (decide (24 < ((j : Int) - (i : Int)))) with
         | false =>
          rw [hq151] at E
          have hd9 := of_decide_eq_false hq151
          refine wp_cond_false (E.get 0 rfl) ?_
          refine wp_skip ?_
          refine blk_n ?_
          refine then_n ?_
          refine wp_seq ?_
          rw [if_neg hd9] at hon
          obtain ⟨hx, hLn⟩ := hL.tok hc hon (by decide) (by omega)
          refine envI_region ?_
          refine envI_put (d := 140) (v := .func (.yield l) #[] #[]) E rfl (by decide) rfl (wanted_none rfl _) (run_move rfl (E.get 16 rfl)) fun a E => ?_
          refine envI_put (d := 141) (v := .agg (fdA ((1, ((s.take j).drop i), (i : Int)), 0))) E rfl (by decide) rfl (wanted_none rfl _) (run_ld81 rfl (E.get 15 rfl) (rng4 (p := ((1, ((s.take j).drop i), (i : Int)), 0)) hb126 0 rfl rfl rfl rfl)) fun a E => ?_
          refine envI_yield (d := 142) E rfl (by decide) rfl (wanted_none rfl _) rfl (E.get 1 rfl) (E.get 0 rfl) (hround k h _ _ (hJF _ _ _ _ hJ hf) (by unfold lexV; rw [List.getElem?_map, hx]; rfl)) fun a w3 bb hbb E => ?_
          cases hq152 : bb with
          | false =>
           rw [hq152] at E
           have hS : S w3 := hbb.elim (fun h9 => by rw [hq152] at h9; cases h9.1) (fun h9 => h9.2)
           have hb6y : True := trivial
           refine envI_put (d := 143) (v := .bool true) E rfl (by decide) rfl (wanted_none rfl _) (run_not rfl (E.get 0 rfl)) fun a E => ?_
           refine envI_put (d := 144) (v := .bool true) E rfl (by decide) rfl (wanted_none rfl _) (run_move rfl (E.get 0 rfl)) fun a E => ?_
           refine envI_skip (d := 145) (g := 4) (s := 144) E rfl (by decide) rfl rfl rfl (by decide) (E.get 0 rfl) fun a E => ?_
           refine envI_skip (d := 146) (g := 4) (s := 144) E rfl (by decide) rfl rfl rfl (by decide) (E.get 1 rfl) fun a E => ?_
           refine envI_skip (d := 147) (g := 4) (s := 144) E rfl (by decide) rfl rfl rfl (by decide) (E.get 2 rfl) fun a E => ?_
           refine envI_put (d := 148) (v := .bool true) E rfl (by decide) rfl (wanted_none rfl _) (run_pick_t rfl (E.get 3 rfl) rfl) fun a E => ?_
           refine envI_nil ?_
           refine then_n ?_
           refine wp_cond_true (E.get 0 rfl) ?_
           refine wp_ret ?_
           refine blk_r ?_
           refine then_r ?_
           refine blk_r ?_
           refine ng_r ?_
           refine (ret_nil rfl E ⟨⟨_, rfl⟩, .inr hS⟩).2
          | true =>
           rw [hq152] at E
           obtain ⟨⟨h2, hJ2⟩, fy⟩ : (∃ h2, J (k + 1) h2 w3) ∧ Fr (fun b => b < h) w5 w3 := hbb.elim (fun h9 => h9.2) (fun h9 => by rw [hq152] at h9; cases h9.1)
           have hb126 := fy.obj hb126 (by omega)
           have hb6y : True := trivial
           refine envI_put (d := 143) (v := .bool false) E rfl (by decide) rfl (wanted_none rfl _) (run_not rfl (E.get 0 rfl)) fun a E => ?_
           refine envI_put (d := 144) (v := .bool false) E rfl (by decide) rfl (wanted_none rfl _) (run_move rfl (E.get 0 rfl)) fun a E => ?_
           refine envI_put (d := 145) (v := .pointer (some ⟨b126, 3, none⟩)) E rfl (by decide) rfl (w_yes (g := 4) (s := 144) E rfl rfl (by decide) (E.get 0 rfl)) (fa81_1 rfl (E.get 19 rfl)) fun a E => ?_
           refine envI_put (d := 146) (v := .int .i64 0) E rfl (by decide) rfl (w_yes (g := 4) (s := 144) E rfl rfl (by decide) (E.get 1 rfl)) (run_lde rfl (E.get 0 rfl) (bx hb126 3 rfl)) fun a E => ?_
           refine envI_put (d := 147) (v := .bool false) E rfl (by decide) rfl (w_yes (g := 4) (s := 144) E rfl rfl (by decide) (E.get 2 rfl)) (run_ineq (m := 0) (n := 0) (E.get 0 rfl) rfl Tryz.underlying25 rfl) fun a E => ?_
           refine envI_put (d := 148) (v := .bool false) E rfl (by decide) rfl (wanted_none rfl _) (run_pick_f rfl (E.get 3 rfl) (E.get 0 rfl)) fun a E => ?_
           refine envI_nil ?_
           refine then_n ?_
           refine wp_cond_false (E.get 0 rfl) ?_
           refine wp_skip ?_
           refine blk_n ?_
           refine then_n ?_
           refine ⟨⟨(k + 1), j, h2, E.of ⟨E.get 25 rfl, E.get 26 rfl, E.get 27 rfl, (E.get 28 rfl).trans (by first | rfl | (congr 1 <;> omega)), trivial⟩, hJ2, (by rwa [show i + 1 + (j - (i + 1)) = j by omega] at hLn)⟩, ?_⟩
           rw [E.get 28 rfl]; simp only [intOf]; omega
         | true =>
          rw [hq151] at E
          have hd9 := of_decide_eq_true hq151
          refine wp_cond_true (E.get 0 rfl) ?_
          refine wp_region_lit ?_
          refine ep (v := .pointer (some ⟨b126, 3, none⟩)) E (fa81_1 rfl (E.get 14 rfl)) fun a E => ?_
          refine env_st1 (j := 3) E rfl (wanted_none rfl _) hb126 (run_st25 rfl (E.get 0 rfl) rfl (bx hb126 3 rfl) (free_of_blk hb126 3)) fun w1 hb126n f1 E => ?_
          replace hb126n : w1.heap[b126]? = some (.cells #[.int .i64 1, .string (ofL ((s.take j).drop i)), .int .i64 (i : Int), .int .i64 2] 81 (0, 0)) := hb126n
          have hK := LexK.fr hK f1 (fun e => by (try simp only at e); omega) (fun e => by (try simp only at e); omega)
          have hc1 := f1.obj hc1 (fun e => by (try simp only at e); omega)
          have hc2 := f1.obj hc2 (fun e => by (try simp only at e); omega)
          have hf := hf.trans' f1 (fun r hr => (fun e => by (try simp only at e); omega))
          clear f1
          replace hb126 := hb126n
          refine wpList_nil ?_
          refine blk_n ?_
          refine then_n ?_
          refine wp_seq ?_
          rw [if_pos hd9] at hon
          obtain ⟨hx, hend⟩ := hL.err hc hon (by decide)
          refine envI_region ?_
          refine envI_put (d := 140) (v := .func (.yield l) #[] #[]) E rfl (by decide) rfl (wanted_none rfl _) (run_move rfl (E.get 17 rfl)) fun a E => ?_
          refine envI_put (d := 141) (v := .agg (fdA ((1, ((s.take j).drop i), (i : Int)), 2))) E rfl (by decide) rfl (wanted_none rfl _) (run_ld81 rfl (E.get 16 rfl) (rng4 (p := ((1, ((s.take j).drop i), (i : Int)), 2)) hb126 0 rfl rfl rfl rfl)) fun a E => ?_
          refine envI_yield (d := 142) E rfl (by decide) rfl (wanted_none rfl _) rfl (E.get 1 rfl) (E.get 0 rfl) (hround k h _ _ (hJF _ _ _ _ hJ hf) (by unfold lexV; rw [List.getElem?_map, hx]; rfl)) fun a w3 bb hbb E => ?_
          cases hq153 : bb with
          | false =>
           rw [hq153] at E
           have hS : S w3 := hbb.elim (fun h9 => by rw [hq153] at h9; cases h9.1) (fun h9 => h9.2)
           have hb6y : True := trivial
           refine envI_put (d := 143) (v := .bool true) E rfl (by decide) rfl (wanted_none rfl _) (run_not rfl (E.get 0 rfl)) fun a E => ?_
           refine envI_put (d := 144) (v := .bool true) E rfl (by decide) rfl (wanted_none rfl _) (run_move rfl (E.get 0 rfl)) fun a E => ?_
           refine envI_skip (d := 145) (g := 4) (s := 144) E rfl (by decide) rfl rfl rfl (by decide) (E.get 0 rfl) fun a E => ?_
           refine envI_skip (d := 146) (g := 4) (s := 144) E rfl (by decide) rfl rfl rfl (by decide) (E.get 1 rfl) fun a E => ?_
           refine envI_skip (d := 147) (g := 4) (s := 144) E rfl (by decide) rfl rfl rfl (by decide) (E.get 2 rfl) fun a E => ?_
           refine envI_put (d := 148) (v := .bool true) E rfl (by decide) rfl (wanted_none rfl _) (run_pick_t rfl (E.get 3 rfl) rfl) fun a E => ?_
           refine envI_nil ?_
           refine then_n ?_
           refine wp_cond_true (E.get 0 rfl) ?_
           refine wp_ret ?_
           refine blk_r ?_
           refine then_r ?_
           refine blk_r ?_
           refine ng_r ?_
           refine (ret_nil rfl E ⟨⟨_, rfl⟩, .inr hS⟩).2
          | true =>
           rw [hq153] at E
           obtain ⟨⟨h2, hJ2⟩, fy⟩ : (∃ h2, J (k + 1) h2 w3) ∧ Fr (fun b => b < h) w1 w3 := hbb.elim (fun h9 => h9.2) (fun h9 => by rw [hq153] at h9; cases h9.1)
           have hb126 := fy.obj hb126 (by omega)
           have hb6y : True := trivial
           refine envI_put (d := 143) (v := .bool false) E rfl (by decide) rfl (wanted_none rfl _) (run_not rfl (E.get 0 rfl)) fun a E => ?_
           refine envI_put (d := 144) (v := .bool false) E rfl (by decide) rfl (wanted_none rfl _) (run_move rfl (E.get 0 rfl)) fun a E => ?_
           refine envI_put (d := 145) (v := .pointer (some ⟨b126, 3, none⟩)) E rfl (by decide) rfl (w_yes (g := 4) (s := 144) E rfl rfl (by decide) (E.get 0 rfl)) (fa81_1 rfl (E.get 20 rfl)) fun a E => ?_
           refine envI_put (d := 146) (v := .int .i64 2) E rfl (by decide) rfl (w_yes (g := 4) (s := 144) E rfl rfl (by decide) (E.get 1 rfl)) (run_lde rfl (E.get 0 rfl) (bx hb126 3 rfl)) fun a E => ?_
           refine envI_put (d := 147) (v := .bool true) E rfl (by decide) rfl (w_yes (g := 4) (s := 144) E rfl rfl (by decide) (E.get 2 rfl)) (run_ineq (m := 2) (n := 0) (E.get 0 rfl) rfl Tryz.underlying25 rfl) fun a E => ?_
           refine envI_put (d := 148) (v := .bool true) E rfl (by decide) rfl (wanted_none rfl _) (run_pick_f rfl (E.get 3 rfl) (E.get 0 rfl)) fun a E => ?_
           refine envI_nil ?_
           refine then_n ?_
           refine wp_cond_true (E.get 0 rfl) ?_
           refine wp_ret ?_
           refine blk_r ?_
           refine then_r ?_
           refine blk_r ?_
           refine ng_r ?_
           refine (ret_nil rfl E ⟨⟨_, rfl⟩, .inl ?_⟩).2
           unfold lexV
           rw [List.length_map, ← hend]; exact ⟨_, hJ2⟩
       | true =>
        rw [hq150] at E
        have hj5 : (clsAt s j == 5) = true := (natq (clsAt s j) 5).symm.trans hq150
        refine wp_cond_true (E.get 0 rfl) ?_
        refine wp_skip ?_
        refine then_n ?_
        refine wp_seq ?_
        refine wp_block ?_
        refine wp_region_lit ?_
        refine ep (v := .int .i64 (j : Int)) E (run_move rfl (E.get 15 rfl)) fun a E => ?_
        refine ep (v := .int .i64 ((j : Int) + 1)) E (run_iadd Tryz.underlying3 (E.get 0 rfl) rfl (by omega) (by omega) rfl) fun a E => ?_
        refine env_set (d := 4) (v := .int .i64 ((j : Int) + 1)) E rfl (by decide) (wanted_none rfl _) (run_assign rfl (E.get 0 rfl)) fun a E => ?_
        refine wpList_nil ?_
        refine blk_n ?_
        refine then_n ?_
        rw [show ((j : Int) + 1) = ((j + 1 : Nat) : Int) by omega] at E
        refine wp_region_lit ?_
        refine ep (v := .func (.func 73) #[] #[.pointer (some ⟨c1, 0, none⟩), .pointer (some ⟨c3, 0, none⟩)]) E (run_ld113 rfl (E.get 17 rfl) (bx hc2 0 rfl)) fun a E => ?_
        refine ep (v := .int .i64 ((j + 1 : Nat) : Int)) E (run_move rfl (E.get 1 rfl)) fun a E => ?_
        refine env_call (d := 57) (v := .int .u8 ((clsAt s (j + 1) : Nat) : Int)) E rfl (by decide) rfl (wanted_none rfl _) (run_callf1 (enters_of Tryz.func73 (by kernel_rfl) rfl) rfl (E.get 1 rfl) (E.get 0 rfl) rfl) (at_calls hK (j + 1)) fun a w1 f1 E => ?_
        have hK := LexK.fr hK f1 id id
        have hc1 := f1.obj hc1 id
        have hc2 := f1.obj hc2 id
        have hb126 := f1.obj hb126 id
        have fL := fL.trans f1
        have hf := hf.trans' f1 (fun _ _ h => h.elim)
        clear f1
        refine env_set (d := 7) (v := .int .u8 ((clsAt s (j + 1) : Nat) : Int)) E rfl (by decide) (wanted_none rfl _) (run_assign rfl (E.get 0 rfl)) fun a E => ?_
        refine wpList_nil ?_
        refine then_n ?_
        have hwj : wrdAt s j = true := by unfold wrdAt; first | (rw [hj3, hj4, hj5]; done) | (rw [hj3, hj4, hj5]; rfl)
        have hltj : j < s.length := by
         rcases Nat.lt_or_ge j s.length with h9 | h9
         ·exact h9
         ·rw [wrdAt_no h9] at hwj; cases hwj
        obtain ⟨e, he⟩ : ∃ e, s[j]? = some e := ⟨_, List.getElem?_eq_getElem hltj⟩
        have hen : isWrd e = true := by rw [← wrdAt_is he]; exact hwj
        refine ⟨⟨j + 1, E.of ⟨E.get 17 rfl, E.get 18 rfl, E.get 19 rfl, E.get 20 rfl, E.get 21 rfl, (E.get 4 rfl).trans (by congr 1), E.get 0 rfl, trivial⟩, hr.step he hen, fL⟩, ?_⟩
        rw [E.get 4 rfl]; simp only [intOf]; omega
      | true =>
       rw [hq149] at E
       have hj4 : (clsAt s j == 4) = true := (natq (clsAt s j) 4).symm.trans hq149
       refine ek E rfl (E.get 0 rfl) fun a E => ?_
       refine ek E rfl (E.get 1 rfl) fun a E => ?_
       refine ep (v := .bool true) E (run_pick_t rfl (E.get 2 rfl) rfl) fun a E => ?_
       refine wpList_nil ?_
       refine then_n ?_
       refine wp_cond_true (E.get 0 rfl) ?_
       refine wp_skip ?_
       refine then_n ?_
       refine wp_seq ?_
       refine wp_block ?_
       refine wp_region_lit ?_
       refine ep (v := .int .i64 (j : Int)) E (run_move rfl (E.get 15 rfl)) fun a E => ?_
       refine ep (v := .int .i64 ((j : Int) + 1)) E (run_iadd Tryz.underlying3 (E.get 0 rfl) rfl (by omega) (by omega) rfl) fun a E => ?_
       refine env_set (d := 4) (v := .int .i64 ((j : Int) + 1)) E rfl (by decide) (wanted_none rfl _) (run_assign rfl (E.get 0 rfl)) fun a E => ?_
       refine wpList_nil ?_
       refine blk_n ?_
       refine then_n ?_
       rw [show ((j : Int) + 1) = ((j + 1 : Nat) : Int) by omega] at E
       refine wp_region_lit ?_
       refine ep (v := .func (.func 73) #[] #[.pointer (some ⟨c1, 0, none⟩), .pointer (some ⟨c3, 0, none⟩)]) E (run_ld113 rfl (E.get 17 rfl) (bx hc2 0 rfl)) fun a E => ?_
       refine ep (v := .int .i64 ((j + 1 : Nat) : Int)) E (run_move rfl (E.get 1 rfl)) fun a E => ?_
       refine env_call (d := 57) (v := .int .u8 ((clsAt s (j + 1) : Nat) : Int)) E rfl (by decide) rfl (wanted_none rfl _) (run_callf1 (enters_of Tryz.func73 (by kernel_rfl) rfl) rfl (E.get 1 rfl) (E.get 0 rfl) rfl) (at_calls hK (j + 1)) fun a w1 f1 E => ?_
       have hK := LexK.fr hK f1 id id
       have hc1 := f1.obj hc1 id
       have hc2 := f1.obj hc2 id
       have hb126 := f1.obj hb126 id
       have fL := fL.trans f1
       have hf := hf.trans' f1 (fun _ _ h => h.elim)
       clear f1
       refine env_set (d := 7) (v := .int .u8 ((clsAt s (j + 1) : Nat) : Int)) E rfl (by decide) (wanted_none rfl _) (run_assign rfl (E.get 0 rfl)) fun a E => ?_
       refine wpList_nil ?_
       refine then_n ?_
       have hwj : wrdAt s j = true := by unfold wrdAt; first | (rw [hj3, hj4]; done) | (rw [hj3, hj4]; rfl)
       have hltj : j < s.length := by
        rcases Nat.lt_or_ge j s.length with h9 | h9
        ·exact h9
        ·rw [wrdAt_no h9] at hwj; cases hwj
       obtain ⟨e, he⟩ : ∃ e, s[j]? = some e := ⟨_, List.getElem?_eq_getElem hltj⟩
       have hen : isWrd e = true := by rw [← wrdAt_is he]; exact hwj
       refine ⟨⟨j + 1, E.of ⟨E.get 17 rfl, E.get 18 rfl, E.get 19 rfl, E.get 20 rfl, E.get 21 rfl, (E.get 4 rfl).trans (by congr 1), E.get 0 rfl, trivial⟩, hr.step he hen, fL⟩, ?_⟩
       rw [E.get 4 rfl]; simp only [intOf]; omega
     | true =>
      rw [hq148] at E
      have hj3 : (clsAt s j == 3) = true := (natq (clsAt s j) 3).symm.trans hq148
      refine ek E rfl (E.get 0 rfl) fun a E => ?_
      refine ek E rfl (E.get 1 rfl) fun a E => ?_
      refine ep (v := .bool true) E (run_pick_t rfl (E.get 2 rfl) rfl) fun a E => ?_
      refine ep (v := .bool true) E (run_move rfl (E.get 0 rfl)) fun a E => ?_
      refine ek E rfl (E.get 0 rfl) fun a E => ?_
      refine ek E rfl (E.get 1 rfl) fun a E => ?_
      refine ep (v := .bool true) E (run_pick_t rfl (E.get 2 rfl) rfl) fun a E => ?_
      refine wpList_nil ?_
      refine then_n ?_
      refine wp_cond_true (E.get 0 rfl) ?_
      refine wp_skip ?_
      refine then_n ?_
      refine wp_seq ?_
      refine wp_block ?_
      refine wp_region_lit ?_
      refine ep (v := .int .i64 (j : Int)) E (run_move rfl (E.get 15 rfl)) fun a E => ?_
      refine ep (v := .int .i64 ((j : Int) + 1)) E (run_iadd Tryz.underlying3 (E.get 0 rfl) rfl (by omega) (by omega) rfl) fun a E => ?_
      refine env_set (d := 4) (v := .int .i64 ((j : Int) + 1)) E rfl (by decide) (wanted_none rfl _) (run_assign rfl (E.get 0 rfl)) fun a E => ?_
      refine wpList_nil ?_
      refine blk_n ?_
      refine then_n ?_
      rw [show ((j : Int) + 1) = ((j + 1 : Nat) : Int) by omega] at E
      refine wp_region_lit ?_
      refine ep (v := .func (.func 73) #[] #[.pointer (some ⟨c1, 0, none⟩), .pointer (some ⟨c3, 0, none⟩)]) E (run_ld113 rfl (E.get 17 rfl) (bx hc2 0 rfl)) fun a E => ?_
      refine ep (v := .int .i64 ((j + 1 : Nat) : Int)) E (run_move rfl (E.get 1 rfl)) fun a E => ?_
      refine env_call (d := 57) (v := .int .u8 ((clsAt s (j + 1) : Nat) : Int)) E rfl (by decide) rfl (wanted_none rfl _) (run_callf1 (enters_of Tryz.func73 (by kernel_rfl) rfl) rfl (E.get 1 rfl) (E.get 0 rfl) rfl) (at_calls hK (j + 1)) fun a w1 f1 E => ?_
      have hK := LexK.fr hK f1 id id
      have hc1 := f1.obj hc1 id
      have hc2 := f1.obj hc2 id
      have hb126 := f1.obj hb126 id
      have fL := fL.trans f1
      have hf := hf.trans' f1 (fun _ _ h => h.elim)
      clear f1
      refine env_set (d := 7) (v := .int .u8 ((clsAt s (j + 1) : Nat) : Int)) E rfl (by decide) (wanted_none rfl _) (run_assign rfl (E.get 0 rfl)) fun a E => ?_
      refine wpList_nil ?_
      refine then_n ?_
      have hwj : wrdAt s j = true := by unfold wrdAt; first | (rw [hj3]; done) | (rw [hj3]; rfl)
      have hltj : j < s.length := by
       rcases Nat.lt_or_ge j s.length with h9 | h9
       ·exact h9
       ·rw [wrdAt_no h9] at hwj; cases hwj
      obtain ⟨e, he⟩ : ∃ e, s[j]? = some e := ⟨_, List.getElem?_eq_getElem hltj⟩
      have hen : isWrd e = true := by rw [← wrdAt_is he]; exact hwj
      refine ⟨⟨j + 1, E.of ⟨E.get 17 rfl, E.get 18 rfl, E.get 19 rfl, E.get 20 rfl, E.get 21 rfl, (E.get 4 rfl).trans (by congr 1), E.get 0 rfl, trivial⟩, hr.step he hen, fL⟩, ?_⟩
      rw [E.get 4 rfl]; simp only [intOf]; omega
   | true =>
    rw [hq128] at E
    have hhash : (c == 35) = true := by rw [← (cl8_qs c).2.1, ← clsAt_is hc]; exact (natq (clsAt s i) 2).symm.trans hq128
    refine wp_cond_true (E.get 0 rfl) ?_
    refine wp_seq ?_
    refine wp_block ?_
    refine wp_loop (fun a w2 => ∃ (j : Nat), Env 149 [(0, .func (.yield l) #[] #[]), (1, .pointer (some ⟨c1, 0, none⟩)), (2, .pointer (some ⟨c2, 0, none⟩)), (4, .int .i64 (j : Int))] a ∧ RunTo (· != 10) s i j ∧ w2 = w1) (fun a _ => s.length - (intOf (a.eval (.tmp 4))).toNat) ?_ ?_
    ·exact ⟨i, E.of ⟨E.get 17 rfl, E.get 18 rfl, E.get 19 rfl, E.get 20 rfl, trivial⟩, RunTo.start hL.1, rfl⟩
    clear E
    rintro a w2 ⟨j, E, hr, hw2⟩
    have hmu : s.length - (intOf (a.eval (.tmp 4))).toNat = s.length - j := by rw [E.get 3 rfl]; first | rfl | (simp [intOf]; done) | (simp only [intOf]; omega)
    rw [hmu]
    clear hmu
    subst hw2
    have hjl := hr.hi
    refine wp_seq ?_
    refine wp_seq ?_
    refine wp_region_lit ?_
    refine ep (v := .int .i64 (j : Int)) E (run_move rfl (E.get 3 rfl)) fun a E => ?_
    refine ep (v := .string (ofL s)) E (run_lds rfl (E.get 2 rfl) (bx hc1 0 rfl)) fun a E => ?_
    refine ep (v := .int .i64 (s.length : Int)) E (run_slen rfl (E.get 0 rfl)) fun a E => ?_
    refine ep (v := .bool (decide ((j : Int) < (s.length : Int)))) E (run_ilss (E.get 2 rfl) (E.get 0 rfl) Tryz.underlying3 rfl) fun a E => ?_
    refine ep (v := .bool (decide ((j : Int) < (s.length : Int)))) E (run_move rfl (E.get 0 rfl)) fun a E => ?_
    cases hq155 : (decide ((j : Int) < (s.length : Int))) with
    | false =>
     rw [hq155] at E
     have hjn : s[j]? = none := List.getElem?_eq_none (by have := of_decide_eq_false hq155; omega)
     refine ek E rfl (E.get 0 rfl) fun a E => ?_
     refine ek E rfl (E.get 1 rfl) fun a E => ?_
     refine ek E rfl (E.get 2 rfl) fun a E => ?_
     refine ek E rfl (E.get 3 rfl) fun a E => ?_
     refine ep (v := .bool false) E (run_pick_f rfl (E.get 4 rfl) rfl) fun a E => ?_
     refine wpList_nil ?_
     refine then_n ?_
     refine wp_cond_false (E.get 0 rfl) ?_
     refine wp_exit ?_
     refine then_e ?_
     refine then_e ?_
     refine blk_e ?_
     refine then_n ?_
     refine wp_exit ?_
     refine blk_x (by decide) ?_
     refine then_e ?_
     refine blk_e ?_
     refine then_n ?_
     obtain ⟨hon, hij⟩ := hash_one hc hblk hhash hr (fun c hc9 => by rw [hjn] at hc9; cases hc9)
     refine ⟨⟨k, j, h, E.of ⟨E.get 10 rfl, E.get 11 rfl, E.get 12 rfl, (E.get 13 rfl).trans (by first | rfl | (congr 1 <;> omega)), trivial⟩, (hJF _ _ _ _ hJ hf), (by have := hL.gap hc hon (by have := hr.hi; omega); rwa [show i + 1 + (j - (i + 1)) = j by omega] at this)⟩, ?_⟩
     rw [E.get 13 rfl]; simp only [intOf]; omega
    | true =>
     rw [hq155] at E
     have hltj : j < s.length := by have := of_decide_eq_true hq155; omega
     obtain ⟨e, he⟩ : ∃ e, s[j]? = some e := ⟨_, List.getElem?_eq_getElem hltj⟩
     refine eg (v := .string (ofL s)) E (w_yes (g := 4) (s := 32) E rfl rfl (by decide) (E.get 0 rfl)) (run_lds rfl (E.get 6 rfl) (bx hc1 0 rfl)) fun a E => ?_
     refine eg (v := .int .i64 (j : Int)) E (w_yes (g := 4) (s := 32) E rfl rfl (by decide) (E.get 1 rfl)) (run_move rfl (E.get 9 rfl)) fun a E => ?_
     refine eg (v := .int .u8 (e.toNat : Int)) E (w_yes (g := 4) (s := 32) E rfl rfl (by decide) (E.get 2 rfl)) (run_byte rfl (E.get 1 rfl) (E.get 0 rfl) he) fun a E => ?_
     refine eg (v := .bool ((e.toNat : Int) != 10)) E (w_yes (g := 4) (s := 32) E rfl rfl (by decide) (E.get 3 rfl)) (run_uneq (E.get 0 rfl) rfl rfl) fun a E => ?_
     refine ep (v := .bool ((e.toNat : Int) != 10)) E (run_pick_t rfl (E.get 4 rfl) (E.get 0 rfl)) fun a E => ?_
     refine wpList_nil ?_
     refine then_n ?_
     cases hq156 : ((e.toNat : Int) != 10) with
     | false =>
      rw [hq156] at E
      have hen : (e != 10) = false := by rw [u10]; exact hq156
      refine wp_cond_false (E.get 0 rfl) ?_
      refine wp_exit ?_
      refine then_e ?_
      refine then_e ?_
      refine blk_e ?_
      refine then_n ?_
      refine wp_exit ?_
      refine blk_x (by decide) ?_
      refine then_e ?_
      refine blk_e ?_
      refine then_n ?_
      obtain ⟨hon, hij⟩ := hash_one hc hblk hhash hr (fun c hc9 => by rw [he] at hc9; cases hc9; exact hen)
      refine ⟨⟨k, j, h, E.of ⟨E.get 10 rfl, E.get 11 rfl, E.get 12 rfl, (E.get 13 rfl).trans (by first | rfl | (congr 1 <;> omega)), trivial⟩, (hJF _ _ _ _ hJ hf), (by have := hL.gap hc hon (by have := hr.hi; omega); rwa [show i + 1 + (j - (i + 1)) = j by omega] at this)⟩, ?_⟩
      rw [E.get 13 rfl]; simp only [intOf]; omega
     | true =>
      rw [hq156] at E
      have hen : (e != 10) = true := by rw [u10]; exact hq156
      refine wp_cond_true (E.get 0 rfl) ?_
      refine wp_skip ?_
      refine then_n ?_
      refine wp_block ?_
      refine wp_region_lit ?_
      refine ep (v := .int .i64 (j : Int)) E (run_move rfl (E.get 13 rfl)) fun a E => ?_
      refine ep (v := .int .i64 ((j : Int) + 1)) E (run_iadd Tryz.underlying3 (E.get 0 rfl) rfl (by omega) (by omega) rfl) fun a E => ?_
      refine env_set (d := 4) (v := .int .i64 ((j : Int) + 1)) E rfl (by decide) (wanted_none rfl _) (run_assign rfl (E.get 0 rfl)) fun a E => ?_
      refine wpList_nil ?_
      refine blk_n ?_
      refine then_n ?_
      refine ⟨⟨j + 1, E.of ⟨E.get 13 rfl, E.get 14 rfl, E.get 15 rfl, (E.get 0 rfl).trans (by congr 1), trivial⟩, hr.step he hen, rfl⟩, ?_⟩
      rw [E.get 0 rfl]; simp only [intOf]; omega
  | true =>
   rw [hq127] at E
   have hblk : isBlk c = true := by rw [← (cl8_qs c).1, ← clsAt_is hc]; exact (natq (clsAt s i) 1).symm.trans hq127
   refine wp_cond_true (E.get 0 rfl) ?_
   refine wp_seq ?_
   refine wp_region_lit ?_
   refine ep (v := .int .i64 (i : Int)) E (run_move rfl (E.get 18 rfl)) fun a E => ?_
   refine ep (v := .int .i64 ((i : Int) + 1)) E (run_iadd Tryz.underlying3 (E.get 0 rfl) rfl (by omega) (by omega) rfl) fun a E => ?_
   refine env_set (d := 4) (v := .int .i64 ((i : Int) + 1)) E rfl (by decide) (wanted_none rfl _) (run_assign rfl (E.get 0 rfl)) fun a E => ?_
   refine wpList_nil ?_
   refine then_n ?_
   refine wp_exit ?_
   refine blk_x (by decide) ?_
   refine then_e ?_
   refine blk_e ?_
   refine then_n ?_
   refine ⟨⟨k, (i + 1), h, E.of ⟨E.get 18 rfl, E.get 19 rfl, E.get 20 rfl, (E.get 0 rfl).trans (by first | rfl | (congr 1 <;> omega)), trivial⟩, (hJF _ _ _ _ hJ hf), (by have := hL.gap hc (one_blk hblk) (m := 0) (by omega); simpa using this)⟩, ?_⟩
   rw [E.get 0 rfl]; simp only [intOf]; omega
end Go.Proofs.YtjaffpnegdcjnaaGreatDoor
