/- The lexer: Lex. -/
import Derived.Test.YtjaffpnegdcjnaaGreatDoorSD5
set_option linter.unusedVariables false
set_option linter.unusedSimpArgs false
namespace Go.Proofs.YtjaffpnegdcjnaaGreatDoor
open Go.RowKit Go.Pl
theorem res3 {fn : Func} {a : Act} {w : World} {t2 t3 t4 : Tmp} {T : TypeId} {b2 b3 b4 : Nat} {p : Option Addr} {m c : Nat} {e x : Int} (hT : Tryz.prog.underlying T = some (.slice 38) ∧ T = 34 ∨ Tryz.prog.underlying T = some (.slice 48) ∧ T = 22) (hr : fn.results = #[.cell t2 T, .cell t3 25, .cell t4 3]) (h2 : a.eval (.tmp t2) = .pointer (some ⟨b2, 0, none⟩)) (h3 : a.eval (.tmp t3) = .pointer (some ⟨b3, 0, none⟩)) (h4 : a.eval (.tmp t4) = .pointer (some ⟨b4, 0, none⟩))
  (c2 : w.cell? ⟨b2, 0, none⟩ = some (.slice p m c)) (c3 : w.cell? ⟨b3, 0, none⟩ = some (.int .i64 e)) (c4 : w.cell? ⟨b4, 0, none⟩ = some (.int .i64 x)) : (results fn a.tmps).run Tryz.prog w = .ok (.tuple #[.slice p m c, .int .i64 e, .int .i64 x]) w := by
 have g2 : a.tmps.getD t2 undef = .pointer (some ⟨b2, 0, none⟩) := h2
 have g3 : a.tmps.getD t3 undef = .pointer (some ⟨b3, 0, none⟩) := h3
 have g4 : a.tmps.getD t4 undef = .pointer (some ⟨b4, 0, none⟩) := h4
 rcases hT with ⟨_, rfl⟩ | ⟨_, rfl⟩
 ·simp [results, hr, asAddr, go_sem] at g2 g3 g4 ⊢
  simp [results, hr, g2, g3, g4, asAddr, go_sem, c2, c3, c4]
 ·simp [results, hr, asAddr, go_sem] at g2 g3 g4 ⊢
  simp [results, hr, g2, g3, g4, asAddr, go_sem, c2, c3, c4]
theorem run_st34v {o : Oper} {w : World} {ρ : Operand → Value} {x y : Operand} {b off : Nat} {u v : Value} (hs : ∃ p n c, v = .slice p n c) (ho : o.op = .store 34 x y) (hx : ρ x = .pointer (some ⟨b, off, none⟩)) (hy : ρ y = v) (hc : w.cell? ⟨b, off, none⟩ = some u) (hz : w.frozen? ⟨b, off, none⟩ = false) : (execOp ρ o).run Tryz.prog w = .ok .skip (w.setCell ⟨b, off, none⟩ v) := by
 obtain ⟨p, n, c, rfl⟩ := hs
 exact run_st34 ho hx hy hc hz
theorem run_len34o {o : Oper} {w : World} {ρ : Operand → Value} {x : Operand} {B : Nat} {v : Value} {L : List (Tok Int)} (h : oTk w B v L) (ho : o.op = .call ⟨.builtin .len, #[x], #[34]⟩) (hx : ρ x = v) : (execOp ρ o).run Tryz.prog w = .ok (.value (.int .i64 L.length)) w := by
 obtain ⟨p, c, rfl, _⟩ := ow.src tkL_len h
 exact run_len34 ho hx
theorem lexP_len {s : Bys} : (lexL s 0).length ≤ s.length := lexL_len _ s 0 (Nat.le_refl _)
def toks (s : Bys) : List (Tok Int) := (lexL s 0).map (·.1)
theorem err_no {l : List (Tok Int × Int)} (h : ∀ x ∈ l, x.2 = 0) : errOf l = none := (errOf_none _).2 h
theorem err_is : ∀ {l : List (Tok Int × Int)} {k : Nat} {x : Tok Int × Int}, l[k]? = some x → (∀ y ∈ l.take k, y.2 = 0) → x.2 ≠ 0 → errOf l = some (x.2, x.1.2.2) := by
 intro l
 induction l with
 | nil => intro k x h; simp at h
 | cons y l ih =>
  intro k x h h0 hx
  cases k with
  | zero => simp at h; subst h; unfold errOf; rw [if_pos (by simpa using hx)]
  | succ k =>
   have hy := h0 y (by simp)
   unfold errOf
   rw [if_neg (by simp [hy])]
   exact ih (by simpa using h) (fun z hz => h0 z (by simp [hz])) hx
set_option maxRecDepth 100000 in
set_option maxHeartbeats 4000000 in
theorem tokens_calls (s : Bys) (w : World) : Calls Tryz.prog 48 #[.string (ofL s)] w fun e w' => ∃ c1 c2 c3, e = .returned (.func (.func 74) #[] #[.pointer (some ⟨c1, 0, none⟩), .pointer (some ⟨c2, 0, none⟩)]) ∧ TokK c1 c2 c3 s w' ∧ w.heap.size ≤ c1 ∧ w.heap.size ≤ c2 ∧ w.heap.size ≤ c3 ∧ Fr (fun _ => False) w w' := by
 refine wp_start1 Tryz.func48 rfl rfl (n := 8) (by decide) fun a E => ?_
 have hf : Fr (fun _ => False) w w := Fr.refl _ _
 refine wp_seq ?_
 refine wp_region_lit ?_
 refine env_new (d := 1) E rfl (by decide) rfl (wanted_none rfl _) (run_box9 rfl (E.get 0 rfl)) fun a w1 b124 eb124 hb124 f1 E => ?_
 have hnb124 : w.heap.size ≤ b124 := by have := hf.size; omega
 have hf := hf.trans' f1 (fun _ _ h => h.elim)
 clear f1
 refine ep (v := Value.nilFunc) E (run_assign rfl rfl) fun a E => ?_
 refine wpList_nil ?_
 refine then_n ?_
 refine wp_seq ?_
 refine wp_region_lit ?_
 refine env_callv (d := 5) (R := fun u w8 => ∃ cs, u = .agg cs ∧ cs.size = 256 ∧ cs.all (·.oneCell') = true ∧ (∀ i, i < 256 → cs[i]? = some (.int .u8 (clsT i : Nat))) ∧ Fr (fun _ => False) w1 w8) E rfl (by decide) rfl (wanted_none rfl _) (run_call0 (enters_of Tryz.func72 (by kernel_rfl) rfl) rfl rfl) ((classes_calls _).mono fun e w8 h => by obtain ⟨cs, rfl, h⟩ := h; exact ⟨_, rfl, cs, rfl, h⟩) fun a w1 u ⟨cs1, hu, hs1, ha1, hcl1, f1⟩ E => ?_
 subst hu
 have hb124 := f1.obj hb124 id
 have hf := hf.trans' f1 (fun _ _ h => h.elim)
 clear f1
 refine env_new111 (d := 3) E rfl (by decide) rfl (wanted_none rfl _) rfl fun a w1 b125 eb125 htb125 f1 E => ?_
 have hnb125 : w.heap.size ≤ b125 := by have := hf.size; omega
 have hlkb124b125 : b124 < b125 := by have := lt_of_blk hb124; omega
 have hb124 := f1.obj hb124 id
 have hf := hf.trans' f1 (fun _ _ h => h.elim)
 clear f1
 obtain ⟨cs0, hp1, hp2, _⟩ := id htb125
 obtain ⟨w9, hw9⟩ : ∃ w9, w9 = w1.setRow b125 cs1 := ⟨_, rfl⟩
 refine env_store (w' := w9) E rfl (wanted_none rfl _) (by rw [hw9]; exact run_st111 rfl (E.get 0 rfl) (E.get 1 rfl) hp1 hs1 hp2 ha1) fun E => ?_
 have ht9 : tb8 w9 b125 clsT := by rw [hw9]; exact ⟨cs1, setRow_same hp1, hs1, hcl1⟩
 have f1 : Fr (fun r => r = b125) w1 w9 := by rw [hw9]; exact setRow_fr
 clear hw9 hp1
 have hb124 := f1.obj hb124 (fun e => by (try simp only at e); omega)
 have hf := hf.trans' f1 (fun r hr => (fun e => by (try simp only at e); omega))
 clear f1
 have htb125 := ht9
 refine wpList_nil ?_
 refine then_n ?_
 refine wp_seq ?_
 refine wp_region_lit ?_
 refine ep (v := .func (.func 73) #[] #[.pointer (some ⟨b124, 0, none⟩), .pointer (some ⟨b125, 0, none⟩)]) E (run_mkfn2 rfl (E.get 3 rfl) (E.get 0 rfl)) fun a E => ?_
 refine env_new (d := 4) E rfl (by decide) rfl (wanted_none rfl _) (run_alloc113 rfl) fun a w1 b126 eb126 hb126 f1 E => ?_
 have hneb125b126 : b125 < b126 := by have := htb125.lt; omega
 have hnb126 : w.heap.size ≤ b126 := by have := hf.size; omega
 have hlb124b126 : b124 < b126 := by have := lt_of_blk hb124; omega
 have hb124 := f1.obj hb124 id
 have htb125 := htb125.fr f1 id
 have hf := hf.trans' f1 (fun _ _ h => h.elim)
 clear f1
 refine env_st1 (j := 0) E rfl (wanted_none rfl _) hb126 (run_st113 rfl (E.get 0 rfl) (E.get 1 rfl) (bx hb126 0 rfl) (free_of_blk hb126 0)) fun w1 hb126n f1 E => ?_
 replace hb126n : w1.heap[b126]? = some (.cells #[.func (.func 73) #[] #[.pointer (some ⟨b124, 0, none⟩), .pointer (some ⟨b125, 0, none⟩)]] 113 (0, 0)) := hb126n
 have hb124 := f1.obj hb124 (fun e => by (try simp only at e); omega)
 have htb125 := htb125.fr f1 (fun e => by (try simp only at e); omega)
 have hf := hf.trans' f1 (fun r hr => (fun e => by (try simp only at e); omega))
 clear f1
 replace hb126 := hb126n
 refine wpList_nil ?_
 refine then_n ?_
 refine wp_seq ?_
 refine wp_region_lit ?_
 refine ep (v := .func (.func 74) #[] #[.pointer (some ⟨b124, 0, none⟩), .pointer (some ⟨b126, 0, none⟩)]) E (run_mkfn2 rfl (E.get 5 rfl) (E.get 0 rfl)) fun a E => ?_
 refine env_set (d := 2) (v := .func (.func 74) #[] #[.pointer (some ⟨b124, 0, none⟩), .pointer (some ⟨b126, 0, none⟩)]) E rfl (by decide) (wanted_none rfl _) (run_assign rfl (E.get 0 rfl)) fun a E => ?_
 refine wpList_nil ?_
 refine then_n ?_
 refine wp_ret ?_
 exact ret_tmp (t := 2) rfl E (E.get 0 rfl) ⟨b124, b126, b125, rfl, ⟨⟨hb124, htb125⟩, hb126⟩, hnb124, hnb126, hnb125, hf⟩
set_option maxRecDepth 100000 in
set_option maxHeartbeats 4000000 in
theorem lex_calls (s : Bys) (hs : s.length ≤ 4999) (w : World) : Calls Tryz.prog 20 #[.string (ofL s)] w fun e w' => match lexP s with | .error (c, x) => e = .returned (.tuple #[.slice none 0 0, .int .i64 c, .int .i64 x]) ∧ Fr (fun _ => False) w w' | .ok ts => ∃ v, e = .returned (.tuple #[v, .int .i64 0, .int .i64 0]) ∧ oTk w' w.heap.size v ts ∧ Fr (fun _ => False) w w' := by
 refine wp_startM1 Tryz.func20 rfl rfl (n := 35) (by decide) fun a E => ?_
 have hf : Fr (fun _ => False) w w := Fr.refl _ _
 refine wp_seq ?_
 refine wp_region_lit ?_
 refine env_new (d := 2) E rfl (by decide) rfl (wanted_none rfl _) (run_alloc34 rfl) fun a w1 b127 eb127 hb127 f1 E => ?_
 have hnb127 : w.heap.size ≤ b127 := by have := hf.size; omega
 have hf := hf.trans' f1 (fun _ _ h => h.elim)
 clear f1
 refine env_new (d := 3) E rfl (by decide) rfl (wanted_none rfl _) (run_alloc25 rfl) fun a w1 b128 eb128 hb128 f1 E => ?_
 have hnb128 : w.heap.size ≤ b128 := by have := hf.size; omega
 have hlb127b128 : b127 < b128 := by have := lt_of_blk hb127; omega
 have hb127 := f1.obj hb127 id
 have hf := hf.trans' f1 (fun _ _ h => h.elim)
 clear f1
 refine env_new (d := 4) E rfl (by decide) rfl (wanted_none rfl _) (run_alloc3 rfl) fun a w1 b129 eb129 hb129 f1 E => ?_
 have hnb129 : w.heap.size ≤ b129 := by have := hf.size; omega
 have hlb127b129 : b127 < b129 := by have := lt_of_blk hb127; omega
 have hlb128b129 : b128 < b129 := by have := lt_of_blk hb128; omega
 have hb127 := f1.obj hb127 id
 have hb128 := f1.obj hb128 id
 have hf := hf.trans' f1 (fun _ _ h => h.elim)
 clear f1
 refine wpList_nil ?_
 refine then_n ?_
 refine wp_seq ?_
 refine wp_seq ?_
 refine wp_region_lit ?_
 refine ep (v := .string (ofL s)) E (run_move rfl (E.get 3 rfl)) fun a E => ?_
 refine ep (v := .int .i64 (s.length : Int)) E (run_slen rfl (E.get 0 rfl)) fun a E => ?_
 refine ep (v := .bool (decide (20000 < (s.length : Int)))) E (run_igtr (E.get 0 rfl) rfl Tryz.underlying3 rfl) fun a E => ?_
 refine wpList_nil ?_
 refine then_n ?_
 cases hq130 : (decide (20000 < (s.length : Int))) with
 | false =>
  rw [hq130] at E
  refine wp_cond_false (E.get 0 rfl) ?_
  refine wp_skip ?_
  refine then_n ?_
  refine wp_seq ?_
  refine wp_region_lit ?_
  refine env_new (d := 5) E rfl (by decide) rfl (wanted_none rfl _) (run_alloc34 rfl) fun a w1 b131 eb131 hb131 f1 E => ?_
  have hnb131 : w.heap.size ≤ b131 := by have := hf.size; omega
  have hlb127b131 : b127 < b131 := by have := lt_of_blk hb127; omega
  have hlb128b131 : b128 < b131 := by have := lt_of_blk hb128; omega
  have hlb129b131 : b129 < b131 := by have := lt_of_blk hb129; omega
  have hb127 := f1.obj hb127 id
  have hb128 := f1.obj hb128 id
  have hb129 := f1.obj hb129 id
  have hf := hf.trans' f1 (fun _ _ h => h.elim)
  clear f1
  refine wpList_nil ?_
  refine then_n ?_
  refine wp_seq ?_
  refine wp_seq ?_
  refine wp_region_lit ?_
  refine ep (v := .string (ofL s)) E (run_move rfl (E.get 7 rfl)) fun a E => ?_
  have hgb127 : b127 < w1.heap.size := lt_of_blk hb127
  have hgb128 : b128 < w1.heap.size := lt_of_blk hb128
  have hgb129 : b129 < w1.heap.size := lt_of_blk hb129
  have hgb131 : b131 < w1.heap.size := lt_of_blk hb131
  refine env_callv (d := 11) (R := fun u w8 => ∃ c1 c2 c3, u = .func (.func 74) #[] #[.pointer (some ⟨c1, 0, none⟩), .pointer (some ⟨c2, 0, none⟩)] ∧ TokK c1 c2 c3 s w8 ∧ w1.heap.size ≤ c1 ∧ w1.heap.size ≤ c2 ∧ w1.heap.size ≤ c3 ∧ Fr (fun _ => False) w1 w8) E rfl (by decide) rfl (wanted_none rfl _) (run_call1 (enters_of Tryz.func48 (by kernel_rfl) rfl) rfl rfl (E.get 0 rfl)) ((tokens_calls s _).mono fun e w8 h => by obtain ⟨c1, c2, c3, rfl, h⟩ := h; exact ⟨_, rfl, c1, c2, c3, rfl, h⟩) fun a w1 u ⟨c1, c2, c3, hu, hTK, hb1, hb2, hb3, f1⟩ E => ?_
  subst hu
  have hb127 := f1.obj hb127 id
  have hb128 := f1.obj hb128 id
  have hb129 := f1.obj hb129 id
  have hb131 := f1.obj hb131 id
  have hf := hf.trans' f1 (fun _ _ h => h.elim)
  clear f1
  refine wpList_nil ?_
  refine then_n ?_
  refine wp_block ?_
  obtain ⟨wr, hwr⟩ : ∃ wr, wr = w1 := ⟨_, rfl⟩
  rw [← hwr] at hb127 hb128 hb129 hb131 hTK hf
  rw [← hwr]
  clear hwr
  have hqb127 := lt_of_blk hb127
  have hqb128 := lt_of_blk hb128
  have hqb129 := lt_of_blk hb129
  have hqb131 := lt_of_blk hb131
  have hq1 := lt_of_blk hTK.1.1
  have hq2 := lt_of_blk hTK.2
  have hq3 := hTK.1.2.lt
  have hfs := hf.size
  refine wp_rangeF2 (fun k h W => ∃ v, W.heap[b131]? = some (.cells #[v] 34 (0, 0)) ∧ oTk W (wr.heap.size + 2) v ((toks s).take k) ∧ (∀ q, v.ownBlock = some q → q < h) ∧ Fr (fun _ => False) w W ∧ TokK c1 c2 c3 s W ∧ (∀ y ∈ (lexL s 0).take k, y.2 = 0) ∧ W.heap[b127]? = some (.cells #[.slice none 0 0] 34 (0, 0)) ∧ W.heap[b128]? = some (.cells #[.int .i64 0] 25 (0, 0)) ∧ W.heap[b129]? = some (.cells #[.int .i64 0] 3 (0, 0))) (fun W => ∃ c x, errOf (lexL s 0) = some (c, x) ∧ W.heap[b127]? = some (.cells #[.slice none 0 0] 34 (0, 0)) ∧ W.heap[b128]? = some (.cells #[.int .i64 c] 25 (0, 0)) ∧ W.heap[b129]? = some (.cells #[.int .i64 x] 3 (0, 0)) ∧ Fr (fun _ => False) w W) (fun v a' W => ∃ x b6, v = #[.agg (fdA x)] ∧ wr.heap.size + 2 ≤ b6 ∧ W.heap[b6]? = some (.cells (fdA x) 81 (0, 0)) ∧ Env 35 [(6, .pointer (some ⟨b6, 0, none⟩)), (2, .pointer (some ⟨b127, 0, none⟩)), (3, .pointer (some ⟨b128, 0, none⟩)), (4, .pointer (some ⟨b129, 0, none⟩)), (5, .pointer (some ⟨b131, 0, none⟩))] a') (E.get 0 rfl) (enters_of Tryz.func74 (by kernel_rfl) rfl) (vs := lexV s) (tokens_yields (c1 := c1) (c2 := c2) (c3 := c3) (by omega)) (fun v hv => by obtain ⟨x, _, rfl⟩ := List.mem_map.1 hv; rfl) ?_ ?_ ?_ ?_ ?_ ?_ ?_ ?_ ?_
  ·rintro k h W W' ⟨v, h1, h2, h3, h4, h5, h6, h7, h8, h9⟩ f
   exact ⟨v, f.obj h1 (by omega), h2.fr f (fun b hb e => by have := (h2.lt hb).1; omega), h3, h4.trans' f (fun r hr e => by omega), ⟨h5.1.fr f (by omega) (by omega), f.obj h5.2 (by omega)⟩, h6, f.obj h7 (by omega), f.obj h8 (by omega), f.obj h9 (by omega)⟩
  ·rintro W W' ⟨c, x, h1, h2, h3, h4, h5⟩ f
   exact ⟨c, x, h1, f.obj h2 (by omega), f.obj h3 (by omega), f.obj h4 (by omega), h5.trans' f (fun r hr e => by omega)⟩
  ·rintro k h W ⟨v, _, _, _, _, h5, _⟩
   exact h5
  ·intro W f hW
   exact ⟨_, f.obj hb131 id, ow_nil _, (fun q hq => by cases hq), hf.trans f, ⟨hTK.1.fr f id id, f.obj hTK.2 id⟩, (fun y hy => by simp at hy), f.obj hb127 id, f.obj hb128 id, f.obj hb129 id⟩
  ·rintro v a' W W' ⟨x, b6, q1, q2, q3, q4⟩ f
   exact ⟨x, b6, q1, q2, f.obj q3 (by omega), q4⟩
  ·intro l v W K hv hW hK
   obtain ⟨x, _, rfl⟩ := List.mem_map.1 hv
   have E := env_zip1 (d := 12) (x := .agg (fdA x)) (E.of (L' := [(2, .pointer (some ⟨b127, 0, none⟩)), (3, .pointer (some ⟨b128, 0, none⟩)), (4, .pointer (some ⟨b129, 0, none⟩)), (5, .pointer (some ⟨b131, 0, none⟩))]) ⟨(E.get 8 rfl), (E.get 7 rfl), (E.get 6 rfl), (E.get 2 rfl), trivial⟩) (by decide) rfl
   have hf : Fr (fun _ => False) W W := Fr.refl _ _
   refine wpR_region_lit (by kernel_rfl) (fun ⟨_, _, h⟩ => h) ?_
   refine env_new (d := 6) E rfl (by decide) rfl (wanted_none rfl _) (run_alloc81 rfl) fun a w1 b132 eb132 hb132 f1 E => ?_
   have hnb132 : W.heap.size ≤ b132 := by have := hf.size; omega
   have hf := hf.trans' f1 (fun _ _ h => h.elim)
   clear f1
   refine env_st81 (s := ((0, [], 0), 0)) E rfl (wanted_none rfl _) rfl (E.get 0 rfl) (E.get 1 rfl) hb132 fun w1 hb132n f1 E => ?_
   have hf := hf.trans' f1 (fun r hr => (fun e => by (try simp only at e); omega))
   clear f1
   replace hb132 := hb132n
   refine wpList_nil ?_
   exact hK _ _ ⟨x, b132, rfl, by omega, hb132, E.of ⟨E.get 0 rfl, E.get 2 rfl, E.get 3 rfl, E.get 4 rfl, E.get 5 rfl, trivial⟩⟩ hf
  ·rintro k h v a9 W hv ⟨dv, hc5, hO, hob, hF, hTW, hz, hc2, hc3, hc4⟩ ⟨x, b6, hvs, hb6, hs6, E⟩ hwh hhW -
   obtain ⟨y, hy, rfl⟩ : ∃ y, (lexL s 0)[k]? = some y ∧ y = x := by
    unfold lexV at hv
    rw [List.getElem?_map] at hv
    cases hq : (lexL s 0)[k]? with
    | none => rw [hq] at hv; cases hv
    | some y =>
     rw [hq] at hv
     subst hvs
     simp only [Option.map_some, Option.some.injEq, Array.mk.injEq, List.cons.injEq, Value.agg.injEq, and_true, Value.int.injEq, Value.string.injEq, true_and, fdA, ofL_inj] at hv
     obtain ⟨e1, e2, e3, e4⟩ := hv
     obtain ⟨⟨y1, y2, y3⟩, y4⟩ := y
     obtain ⟨⟨x1, x2, x3⟩, x4⟩ := x
     simp only at e1 e2 e3 e4
     subst e1 e2 e3 e4
     exact ⟨_, rfl, rfl⟩
   have hkl : k < (lexL s 0).length := (List.getElem?_eq_some_iff.1 hy).1
   have hll := lexP_len (s := s)
   have hf : Fr (fun b => b < h) W W := Fr.refl _ _
   have hl6 := lt_of_blk hs6
   obtain ⟨B, hB⟩ : ∃ B, B = wr.heap.size + 2 := ⟨_, rfl⟩
   rw [← hB] at hO
   have hBs : B ≤ W.heap.size := by omega
   have hO0 := hO
   have hf3 : Fr (fun r => r = b131 ∨ r = b6 ∨ dv.ownBlock = some r) W W := Fr.refl _ _
   have hf2 : Fr (fun r => r = b127 ∨ r = b128 ∨ r = b129) W W := Fr.refl _ _
   refine wpIn_block ?_
   refine wpIn_seq ?_
   refine wpIn_block ?_
   refine wpIn_seq ?_
   refine wpR_region_lit (by kernel_rfl) (fun ⟨_, _, h⟩ => h) ?_
   refine ep (v := .pointer (some ⟨b6, 3, none⟩)) E (fa81_1 rfl (E.get 0 rfl)) fun a E => ?_
   refine ep (v := .int .i64 y.2) E (run_lde rfl (E.get 0 rfl) (bx hs6 3 rfl)) fun a E => ?_
   refine ep (v := .bool (y.2 != 0)) E (run_ineq (E.get 0 rfl) rfl Tryz.underlying25 rfl) fun a E => ?_
   refine ep (v := .bool (y.2 != 0)) E (run_assign rfl (E.get 0 rfl)) fun a E => ?_
   refine wpList_nil ?_
   refine then_n ?_
   cases hq133 : (y.2 != 0) with
   | false =>
    rw [hq133] at E
    have hye : y.2 = 0 := by simpa using hq133
    refine wpIn_cond_false (E.get 0 rfl) ?_
    refine wpIn_seq ?_
    refine wpR_region_lit (by kernel_rfl) (fun ⟨_, _, h⟩ => h) ?_
    refine ep (v := dv) E (run_ld34 rfl (E.get 8 rfl) (bx hc5 0 rfl)) fun a E => ?_
    refine ep (v := .int .i64 (((toks s).take k).length : Int)) E (run_len34o hO rfl (E.get 0 rfl)) fun a E => ?_
    refine ep (v := .bool ((((toks s).take k).length : Int) == 5000)) E (run_ieql (E.get 0 rfl) rfl Tryz.underlying3 rfl) fun a E => ?_
    refine ep (v := .bool ((((toks s).take k).length : Int) == 5000)) E (run_assign rfl (E.get 0 rfl)) fun a E => ?_
    refine wpList_nil ?_
    refine then_n ?_
    cases hq134 : ((((toks s).take k).length : Int) == 5000) with
    | false =>
     rw [hq134] at E
     refine wpIn_cond_false (E.get 0 rfl) ?_
     refine wpIn_skip ?_
     refine blk_n ?_
     refine then_n ?_
     refine wpR_region_lit (by kernel_rfl) (fun ⟨_, _, h⟩ => h) ?_
     refine ep (v := dv) E (run_ld34 rfl (E.get 12 rfl) (bx hc5 0 rfl)) fun a E => ?_
     refine ep (v := .pointer (some ⟨b6, 0, none⟩)) E (fa81_0 rfl (E.get 9 rfl)) fun a E => ?_
     refine ep (v := .agg (tkA y.1)) E (run_ld38 rfl (E.get 0 rfl) (rng3 (p := y.1) hs6 0 rfl rfl rfl)) fun a E => ?_
     refine env_one34 (d := 32) E rfl (by decide) rfl (wanted_none rfl _) rfl (E.get 0 rfl) fun a w1 b135 eb135 hbb135 f1 E => ?_
     have hf3 := hf3.trans' f1 (fun _ _ h => h.elim)
     have hf2 := hf2.trans' f1 (fun _ _ h => h.elim)
     have hc2 := f1.obj hc2 id
     have hc3 := f1.obj hc3 id
     have hc4 := f1.obj hc4 id
     have hc5 := f1.obj hc5 id
     have hs6 := f1.obj hs6 id
     have hO := ow.fr hO f1 (fun _ _ => id)
     have hBs := Nat.le_trans hBs f1.size
     have hf := hf.trans' f1 (fun _ _ h => h.elim)
     clear f1
     have hsb135 := src_one (f := tkL) (c := 3) (G := w1.heap.size) hbb135 (lt_of_blk hbb135)
     clear hbb135 eb135
     refine env_app34 (d := 33) E rfl (by decide) rfl rfl rfl (E.get 3 rfl) hO (E.get 0 rfl) hsb135 (fun h => by cases h) (by simp only [List.length_take, toks, List.length_map, List.length_cons, List.length_nil]; omega) hBs fun a w1 ov136 hO2 f1 hloc E => ?_
     have hf3 := hf3.trans' f1 (fun r hr e => .inr (.inr e))
     have hc2 := f1.obj hc2 (fun e => by (try simp only at e); have := (hO.lt e).1; have := hob _ e; omega)
     have hc3 := f1.obj hc3 (fun e => by (try simp only at e); have := (hO.lt e).1; have := hob _ e; omega)
     have hc4 := f1.obj hc4 (fun e => by (try simp only at e); have := (hO.lt e).1; have := hob _ e; omega)
     have hc5 := f1.obj hc5 (fun e => by (try simp only at e); have := (hO.lt e).1; have := hob _ e; omega)
     have hBs := Nat.le_trans hBs f1.size
     have hf := hf.trans' f1 (fun r hr => (fun e => by (try simp only at e); have := (hO.lt e).1; have := hob _ e; omega))
     clear f1
     replace hO := hO2
     clear hloc
     refine env_st1 (j := 0) E rfl (wanted_none rfl _) hc5 (run_st34v (ow.sl tkL_len hO) rfl (E.get 17 rfl) (E.get 0 rfl) (bx hc5 0 rfl) (free_of_blk hc5 0)) fun w1 hc5n f1 E => ?_
     replace hc5n : w1.heap[b131]? = some (.cells #[ov136] 34 (0, 0)) := hc5n
     have hf3 := hf3.trans' f1 (fun r hr e => .inl e)
     have hc2 := f1.obj hc2 (fun e => by (try simp only at e); omega)
     have hc3 := f1.obj hc3 (fun e => by (try simp only at e); omega)
     have hc4 := f1.obj hc4 (fun e => by (try simp only at e); omega)
     have hO := ow.fr hO f1 (fun k hk e => by have := (hO.lt hk).1; (try simp only at e); omega)
     have hBs := Nat.le_trans hBs f1.size
     have hf := hf.trans' f1 (fun r hr => (fun e => by (try simp only at e); omega))
     clear f1
     replace hc5 := hc5n
     refine wpList_nil ?_
     refine blk_n ?_
     refine rnd_n ⟨⟨⟨_, ⟨_, hc5, ?_, fun q hq => (hO.lt hq).2, hF.trans' hf3 (fun r hr e => by rcases e with e | e | e; omega; omega; (have := (hO0.lt e).1; omega)), ⟨hTW.1.fr hf3 (fun e => by rcases e with e | e | e; omega; omega; (have := (hO0.lt e).1; omega)) (fun e => by rcases e with e | e | e; omega; omega; (have := (hO0.lt e).1; omega)), hf3.obj hTW.2 (fun e => by rcases e with e | e | e; omega; omega; (have := (hO0.lt e).1; omega))⟩, ?_, hc2, hc3, hc4⟩, by have := hf3.size; omega, Nat.le_refl _⟩, hf⟩, hf3.blk _ (by omega) (fun e => by rcases e with e | e | e; omega; omega; (have := (hO0.lt e).1; omega)), hf3.blk _ (by omega) (fun e => by rcases e with e | e | e; omega; omega; (have := (hO0.lt e).1; omega))⟩
     ·rw [← hB]
      have e9 : (toks s).take (k + 1) = (toks s).take k ++ [y.1] := by
       unfold toks
       rw [List.take_add_one, List.getElem?_map, hy]; rfl
      rw [e9]; exact hO
     ·intro z hz9
      rw [List.take_add_one, hy] at hz9
      rcases List.mem_append.1 hz9 with h9 | h9
      ·exact hz z h9
      ·simp at h9; subst h9; exact hye
    | true =>
     rw [hq134] at E
     exact absurd hq134 (by rw [Bool.not_eq_true, beq_eq_false_iff_ne]; simp only [List.length_take, toks, List.length_map]; omega)
   | true =>
    rw [hq133] at E
    have hye : y.2 ≠ 0 := by simpa using hq133
    refine wpIn_cond_true (E.get 0 rfl) ?_
    refine wpIn_seq ?_
    refine wpR_region_invx (G := Unit) () (n := 35) (base := [(13, .bool true), (16, .bool true), (15, .int .i64 y.2), (14, .pointer (some ⟨b6, 3, none⟩)), (6, .pointer (some ⟨b6, 0, none⟩)), (2, .pointer (some ⟨b127, 0, none⟩)), (3, .pointer (some ⟨b128, 0, none⟩)), (4, .pointer (some ⟨b129, 0, none⟩)), (5, .pointer (some ⟨b131, 0, none⟩))]) (U := []) (T := fun γ => [some (17, .pointer (some ⟨b6, 3, none⟩)), some (18, .int .i64 y.2), some (19, .pointer (some ⟨b6, 0, none⟩)), some (20, .pointer (some ⟨b6, 2, none⟩)), some (21, .int .i64 y.1.2.2), none, none, none]) (M := fun γ ls9 wm => Fr (fun r => r = b127 ∨ r = b128 ∨ r = b129) W wm ∧ wm.heap[b127]? = some (.cells #[.slice none 0 0] 34 (0, 0)) ∧ wm.heap[b128]? = some (.cells #[(bif ls9 6 then .int .i64 y.2 else .int .i64 0)] 25 (0, 0)) ∧ wm.heap[b129]? = some (.cells #[(bif ls9 7 then .int .i64 y.1.2.2 else .int .i64 0)] 3 (0, 0))) (by kernel_rfl) (fun ⟨_, _, h⟩ => h) (by kernel_rfl) (by kernel_rfl) (fun _ => by kernel_rfl) (E.of ⟨E.get 0 rfl, E.get 1 rfl, E.get 2 rfl, E.get 3 rfl, E.get 4 rfl, E.get 5 rfl, E.get 6 rfl, E.get 7 rfl, E.get 8 rfl, trivial⟩) (fun x hx => by cases hx) ⟨(Fr.refl _ _).drew, hc2, hc3, hc4⟩ ?_ ?_
    ·intro j9 o9 γ ls9 a w5 ho hl E D DL DL2 hB hM
     have hs6 := hM.1.obj hs6 (fun e => by (try simp only at e); omega)
     have hc2 := hM.2.1
     have hc3 := hM.2.2.1
     have hc4 := hM.2.2.2
     match j9, ho, hl, D, DL, hB with
     | 0, ho, hl, D, DL, hB =>
      obtain rfl := Option.some.inj ho
      clear ho
      exact ⟨fun _ => valx rfl (fa81_1 rfl (E.get 4 rfl)) rfl hM, fun h => by rw [wanted_none rfl] at h; cases h⟩
     | 1, ho, hl, D, DL, hB =>
      obtain rfl := Option.some.inj ho
      clear ho
      exact ⟨fun _ => valx rfl (run_lde rfl (D 0 _ rfl rfl) (bx hs6 3 rfl)) rfl hM, fun h => by rw [wanted_none rfl] at h; cases h⟩
     | 2, ho, hl, D, DL, hB =>
      obtain rfl := Option.some.inj ho
      clear ho
      exact ⟨fun _ => valx rfl (fa81_0 rfl (E.get 4 rfl)) rfl hM, fun h => by rw [wanted_none rfl] at h; cases h⟩
     | 3, ho, hl, D, DL, hB =>
      obtain rfl := Option.some.inj ho
      clear ho
      exact ⟨fun _ => valx rfl (fa38_2 rfl (D 2 _ rfl rfl)) rfl hM, fun h => by rw [wanted_none rfl] at h; cases h⟩
     | 4, ho, hl, D, DL, hB =>
      obtain rfl := Option.some.inj ho
      clear ho
      exact ⟨fun _ => valx rfl (run_ldi rfl (D 3 _ rfl rfl) (bx hs6 2 rfl)) rfl hM, fun h => by rw [wanted_none rfl] at h; cases h⟩
     | 5, ho, hl, D, DL, hB =>
      obtain rfl := Option.some.inj ho
      clear ho
      exact ⟨fun _ => storex rfl (run_st34 rfl (E.get 5 rfl) rfl (bx hc2 0 rfl) (free_of_blk hc2 0)) rfl ⟨hM.1.trans (((Fr.refl (fun r => r = b127) w5).setCell (p := ⟨b127, 0, none⟩) (fun _ => rfl) _).mono (fun r _ e => by first | exact e | exact .inl e | exact .inr e | exact .inr (.inl e) | exact .inr (.inr e))), blk_setCell_same (off := 0) hc2 _, (blk_setCell (p := ⟨b127, 0, none⟩) (by show b128 ≠ b127; omega) _).trans hc3, (blk_setCell (p := ⟨b127, 0, none⟩) (by show b129 ≠ b127; omega) _).trans hc4⟩, fun h => by rw [wanted_none rfl] at h; cases h⟩
     | 6, ho, hl, D, DL, hB =>
      obtain rfl := Option.some.inj ho
      clear ho
      exact ⟨fun _ => storex rfl (run_st25 rfl (E.get 6 rfl) (D 1 _ rfl rfl) (bx hc3 0 rfl) (free_of_blk hc3 0)) rfl ⟨hM.1.trans (((Fr.refl (fun r => r = b128) w5).setCell (p := ⟨b128, 0, none⟩) (fun _ => rfl) _).mono (fun r _ e => by first | exact e | exact .inl e | exact .inr e | exact .inr (.inl e) | exact .inr (.inr e))), (blk_setCell (p := ⟨b128, 0, none⟩) (by show b127 ≠ b128; omega) _).trans hc2, blk_setCell_same (off := 0) hc3 _, (blk_setCell (p := ⟨b128, 0, none⟩) (by show b129 ≠ b128; omega) _).trans hc4⟩, fun h => by rw [wanted_none rfl] at h; cases h⟩
     | 7, ho, hl, D, DL, hB =>
      obtain rfl := Option.some.inj ho
      clear ho
      exact ⟨fun _ => storex rfl (run_st3 rfl (E.get 7 rfl) (D 4 _ rfl rfl) (bx hc4 0 rfl) (free_of_blk hc4 0)) rfl ⟨hM.1.trans (((Fr.refl (fun r => r = b129) w5).setCell (p := ⟨b129, 0, none⟩) (fun _ => rfl) _).mono (fun r _ e => by first | exact e | exact .inl e | exact .inr e | exact .inr (.inl e) | exact .inr (.inr e))), (blk_setCell (p := ⟨b129, 0, none⟩) (by show b127 ≠ b129; omega) _).trans hc2, (blk_setCell (p := ⟨b129, 0, none⟩) (by show b128 ≠ b129; omega) _).trans hc3, blk_setCell_same (off := 0) hc4 _⟩, fun h => by rw [wanted_none rfl] at h; cases h⟩
     | j9 + 8, ho, hl, D, DL, hB => exact absurd ho (by simp)
    ·rintro _ a w5 E V hM
     clear V
     have f1 := hM.1
     have hc2n : w5.heap[b127]? = some (.cells #[.slice none 0 0] 34 (0, 0)) := hM.2.1
     have hc3n : w5.heap[b128]? = some (.cells #[.int .i64 y.2] 25 (0, 0)) := hM.2.2.1
     have hc4n : w5.heap[b129]? = some (.cells #[.int .i64 y.1.2.2] 3 (0, 0)) := hM.2.2.2
     clear hM
     have hf2 := hf2.trans' f1 (fun r hr e => by (try simp only at e); omega)
     have hs6 := f1.obj hs6 (fun e => by (try simp only at e); omega)
     have hf := hf.trans' f1 (fun r hr => (fun e => by (try simp only at e); omega))
     clear f1
     replace hc2 := hc2n
     replace hc3 := hc3n
     replace hc4 := hc4n
     refine then_n ?_
     refine wpIn_ret ?_
     refine blk_r ?_
     refine then_r ?_
     refine blk_r ?_
     refine rnd_r ⟨⟨_, _, err_is hy hz hye, hc2, hc3, hc4, hF.trans' hf2 (fun r hr e => by omega)⟩, hf2.blk _ (by omega) (by omega), hf2.blk _ (by omega) (by omega)⟩
  ·rintro h W ⟨dv, hc5, hO, hob, hF, hTW, hz, hc2, hc3, hc4⟩ hDk
   have E := env_mark (D := wr.heap.size) E
   have hlv : (lexV s).length = (lexL s 0).length := by unfold lexV; rw [List.length_map]
   rw [hlv] at hO hz
   rw [List.take_length] at hz
   have htl : (toks s).take (lexL s 0).length = toks s := List.take_of_length_le (by simp [toks])
   rw [htl] at hO
   obtain ⟨pv, cv, hvs, _, _, _, _⟩ := ow.src tkL_len hO
   subst hvs
   refine blk_n ?_
   refine then_n ?_
   refine wp_seq ?_
   refine wp_region_lit ?_
   refine ep (v := .slice (pv) (toks s).length cv) E (run_ld34 rfl (E.get 2 rfl) (bx hc5 0 rfl)) fun a E => ?_
   refine env_st1 (j := 0) E rfl (wanted_none rfl _) hc2 (run_st34 rfl (E.get 9 rfl) (E.get 0 rfl) (bx hc2 0 rfl) (free_of_blk hc2 0)) fun w1 hc2n f1 E => ?_
   replace hc2n : w1.heap[b127]? = some (.cells #[.slice (pv) (toks s).length cv] 34 (0, 0)) := hc2n
   have hc3 := f1.obj hc3 (fun e => by (try simp only at e); omega)
   have hc4 := f1.obj hc4 (fun e => by (try simp only at e); omega)
   have hc5 := f1.obj hc5 (fun e => by (try simp only at e); omega)
   have hDk := f1.obj hDk (fun e => by (try simp only at e); omega)
   have hO := hO.fr f1 (fun k hk e => by have := (hO.lt hk).1; (try simp only at e); omega)
   have hF := hF.trans' f1 (fun r hr => (fun e => by (try simp only at e); omega))
   clear f1
   replace hc2 := hc2n
   refine env_st1 (j := 0) E rfl (wanted_none rfl _) hc3 (run_st25 rfl (E.get 8 rfl) rfl (bx hc3 0 rfl) (free_of_blk hc3 0)) fun w1 hc3n f1 E => ?_
   replace hc3n : w1.heap[b128]? = some (.cells #[.int .i64 0] 25 (0, 0)) := hc3n
   have hc2 := f1.obj hc2 (fun e => by (try simp only at e); omega)
   have hc4 := f1.obj hc4 (fun e => by (try simp only at e); omega)
   have hc5 := f1.obj hc5 (fun e => by (try simp only at e); omega)
   have hDk := f1.obj hDk (fun e => by (try simp only at e); omega)
   have hO := hO.fr f1 (fun k hk e => by have := (hO.lt hk).1; (try simp only at e); omega)
   have hF := hF.trans' f1 (fun r hr => (fun e => by (try simp only at e); omega))
   clear f1
   replace hc3 := hc3n
   refine env_st1 (j := 0) E rfl (wanted_none rfl _) hc4 (run_st3 rfl (E.get 7 rfl) rfl (bx hc4 0 rfl) (free_of_blk hc4 0)) fun w1 hc4n f1 E => ?_
   replace hc4n : w1.heap[b129]? = some (.cells #[.int .i64 0] 3 (0, 0)) := hc4n
   have hc2 := f1.obj hc2 (fun e => by (try simp only at e); omega)
   have hc3 := f1.obj hc3 (fun e => by (try simp only at e); omega)
   have hc5 := f1.obj hc5 (fun e => by (try simp only at e); omega)
   have hDk := f1.obj hDk (fun e => by (try simp only at e); omega)
   have hO := hO.fr f1 (fun k hk e => by have := (hO.lt hk).1; (try simp only at e); omega)
   have hF := hF.trans' f1 (fun r hr => (fun e => by (try simp only at e); omega))
   clear f1
   replace hc4 := hc4n
   refine wpList_nil ?_
   refine then_n ?_
   refine wp_ret ?_
   have hDk2 := hDk
   refine retM_ (v := .tuple #[.slice pv (toks s).length cv, .int .i64 0, .int .i64 0]) E ((MarksOk.nil _).cons hDk2 (fun h => by cases h)) fun w9 f9 => ?_
   have hmk : ∀ r, isMark [mkD wr.heap.size] r → r = wr.heap.size := fun r e => by rcases isMark_cons.1 e with e | e; exact e; cases e
   refine ⟨res3 (.inl ⟨Tryz.underlying34, rfl⟩) rfl (E.get 9 rfl) (E.get 8 rfl) (E.get 7 rfl) (bx (f9.obj hc2 (fun e => by have := hmk _ e; omega)) 0 rfl) (bx (f9.obj hc3 (fun e => by have := hmk _ e; omega)) 0 rfl) (bx (f9.obj hc4 (fun e => by have := hmk _ e; omega)) 0 rfl), ?_⟩
   unfold lexP
   rw [err_no hz]
   refine ⟨_, rfl, (hO.base (by omega)).fr f9 (fun k hk e => by have := (hO.lt hk).1; have := hmk _ e; omega), hF.trans' f9 (fun r hr e => by have := hmk _ e; omega)⟩
  ·rintro W ⟨c, q, hq9, hc2, hc3, hc4, hF⟩ hDk
   have E := env_mark (D := wr.heap.size) E
   refine blk_r ?_
   refine then_r ?_
   refine retM_ (v := .tuple #[.slice none 0 0, .int .i64 c, .int .i64 q]) E ((MarksOk.nil _).cons hDk (fun h => by cases h)) fun w9 f9 => ?_
   have hmk : ∀ r, isMark [mkD wr.heap.size] r → r = wr.heap.size := fun r e => by rcases isMark_cons.1 e with e | e; exact e; cases e
   refine ⟨res3 (.inl ⟨Tryz.underlying34, rfl⟩) rfl (E.get 8 rfl) (E.get 7 rfl) (E.get 6 rfl) (bx (f9.obj hc2 (fun e => by have := hmk _ e; omega)) 0 rfl) (bx (f9.obj hc3 (fun e => by have := hmk _ e; omega)) 0 rfl) (bx (f9.obj hc4 (fun e => by have := hmk _ e; omega)) 0 rfl), ?_⟩
   unfold lexP
   rw [hq9]
   exact ⟨rfl, hF.trans' f9 (fun r hr e => by have := hmk _ e; omega)⟩
 | true =>
  rw [hq130] at E
  exact absurd (of_decide_eq_true hq130) (by omega)
end Go.Proofs.YtjaffpnegdcjnaaGreatDoor
