/- The reference index: how it lies in memory; a field turns. -/
import Derived.Test.YtcafnanbdmapgaaI2
set_option linter.unusedVariables false
set_option linter.unusedSimpArgs false
namespace Go.Proofs.Ytcafnanbdmapgaa
open Go.RowKit Go.Pl
theorem strC_len : ∀ s, (strC s).length = 1 := fun _ => rfl
abbrev bxL (b : Bx) : List Value := [.int .i64 b.1.1, .int .i64 b.1.2, .int .i64 b.2.1, .int .i64 b.2.2]
theorem bxL_len : ∀ b, (bxL b).length = 4 := fun _ => rfl
abbrev oStr (w : World) (B : Nat) (v : Value) (L : List ByteArray) : Prop := ow strC 1 9 w B v L
abbrev oBx (w : World) (B : Nat) (v : Value) (L : List Bx) : Prop := ow bxL 4 26 w B v L

structure RIAt (w : World) (r : Nat) (σ : Nat → Prop) (I : List ByteArray) (J : List Bx) (iv bv : Value) : Prop where
  hp : w.heap[r]? = some (.cells #[iv, bv] 64 (0, 0))
  own : σ r
  hi : oStr w 0 iv I
  hj : oBx w 0 bv J
  oi : ∀ k, iv.ownBlock = some k → σ k
  oj : ∀ k, bv.ownBlock = some k → σ k
  lt : ∀ k, σ k → k < w.heap.size
section
variable {w W w' : World} {r : Nat} {σ : Nat → Prop} {I : List ByteArray} {J : List Bx} {iv bv : Value}
theorem ow_ne_struct {α : Type} {f : α → List Value} {c : Nat} {w : World} {B E r : Nat} {v : Value} {xs : List α} {cs : Array Value} {T : TypeId} (hE : E ≠ T) (h : ow f c E w B v xs) (hr : w.heap[r]? = some (.cells cs T (0, 0))) : v.ownBlock ≠ some r := fun e => by
  rcases h.2 with ⟨h1, _⟩ | ⟨g, cap, cur, h1, _, h3, _⟩
  · rw [h1] at e; simp [Value.ownBlock] at e
  · rw [h1] at e
    simp only [Value.ownBlock, Option.some.injEq] at e
    subst e
    rw [hr] at h3
    simp at h3
    exact hE h3.2.symm
theorem ow_of_blk {α : Type} {f : α → List Value} {c : Nat} {E : TypeId} {w w' : World} {B : Nat} {v : Value} {L : List α} (h : ow f c E w B v L) (hk : ∀ k, v.ownBlock = some k → w'.heap[k]? = w.heap[k]?) : ow f c E w' B v L := by
  refine ⟨h.1, ?_⟩
  rcases h.2 with h1 | ⟨g, cap, cur, h1, h2, h3, h4⟩
  · exact .inl h1
  · exact .inr ⟨g, cap, cur, h1, h2, by rw [hk g (by rw [h1]; rfl)]; exact h3, h4⟩
theorem RIAt.ri (h : RIAt w r σ I J iv bv) : iv.ownBlock ≠ some r := ow_ne_struct (by decide) h.hi h.hp
theorem RIAt.rj (h : RIAt w r σ I J iv bv) : bv.ownBlock ≠ some r := ow_ne_struct (by decide) h.hj h.hp
theorem RIAt.fr (h : RIAt w r σ I J iv bv) {F : Nat → Prop} (hf : Fr F w w') (hd : ∀ k, σ k → ¬ F k) : RIAt w' r σ I J iv bv :=
  ⟨hf.obj h.hp (hd r h.own), h.own, h.hi.fr hf fun k hk => hd k (h.oi k hk), h.hj.fr hf fun k hk => hd k (h.oj k hk), h.oi, h.oj, fun k hk => Nat.lt_of_lt_of_le (h.lt k hk) hf.size⟩
theorem RIAt.c0 (h : RIAt w r σ I J iv bv) : w.cell? ⟨r, 0, none⟩ = some iv := by rw [cell_of_blk h.hp]; rfl
theorem RIAt.c1 (h : RIAt w r σ I J iv bv) : w.cell? ⟨r, 1, none⟩ = some bv := by rw [cell_of_blk h.hp]; rfl
theorem RIAt.isrc (h : RIAt w r σ I J iv bv) : ∃ p cap, iv = .slice p I.length cap ∧ I.length ≤ cap ∧ cap ≤ 9223372036854775807 ∧ srcAt strC 1 w w.heap.size p I ∧ (p = none → cap = 0) := h.hi.src strC_len
theorem RIAt.jsrc (h : RIAt w r σ I J iv bv) : ∃ p cap, bv = .slice p J.length cap ∧ J.length ≤ cap ∧ cap ≤ 9223372036854775807 ∧ srcAt bxL 4 w w.heap.size p J ∧ (p = none → cap = 0) := h.hj.src bxL_len
theorem RIAt.setI (h : RIAt w r σ I J iv bv) (hfr : Fr (fun _ => False) w W) {v' : Value} {I2 : List ByteArray} {B : Nat} (hown : oStr W B v' I2) (hB : w.heap.size ≤ B) :
    (∃ p n c, v' = .slice p n c) ∧ (W.cell? ⟨r, 0, none⟩ = some iv ∧ W.frozen? ⟨r, 0, none⟩ = false) ∧
    ∃ σ', RIAt (W.setCell ⟨r, 0, none⟩ v') r σ' I2 J v' bv ∧ Fr σ w (W.setCell ⟨r, 0, none⟩ v') ∧ ∀ k, k < w.heap.size → σ' k → σ k := by
  have hr := hfr.obj h.hp id
  have hrlt := lt_of_blk h.hp
  have hfr2 : Fr σ w (W.setCell ⟨r, 0, none⟩ v') := (hfr.mono fun k _ hk => hk.elim).setCell (fun _ => h.own) _
  obtain ⟨p, cap, h1, _⟩ := hown.src strC_len
  refine ⟨⟨_, _, _, h1⟩, ⟨by rw [cell_of_blk hr]; rfl, free_of_blk hr 0⟩, fun k => σ k ∨ v'.ownBlock = some k, ⟨?_, .inl h.own, ow_of_blk (hown.base (Nat.zero_le _)) fun k hk => blk_setCell (fun e => by simp only at e; subst e; have := (hown.lt hk).1; omega) _, ow_of_blk (h.hj.fr hfr (by simp)) fun k hk => blk_setCell (fun e => h.rj (by simp only at e; rw [← e]; exact hk)) _, fun k hk => .inr hk, fun k hk => .inl (h.oj k hk), ?_⟩, hfr2, ?_⟩
  · have := blk_setCell_same (off := 0) hr v'; simpa using this
  · rintro k (hk | hk)
    · exact Nat.lt_of_lt_of_le (h.lt k hk) hfr2.size
    · have := (hown.lt hk).2; simpa [World.setCell] using this
  · rintro k hlt (hk | hk)
    · exact hk
    · have := (hown.lt hk).1; omega
theorem RIAt.setJ (h : RIAt w r σ I J iv bv) (hfr : Fr (fun _ => False) w W) {v' : Value} {I2 : List Bx} {B : Nat} (hown : oBx W B v' I2) (hB : w.heap.size ≤ B) :
    (∃ p n c, v' = .slice p n c) ∧ (W.cell? ⟨r, 1, none⟩ = some bv ∧ W.frozen? ⟨r, 1, none⟩ = false) ∧
    ∃ σ', RIAt (W.setCell ⟨r, 1, none⟩ v') r σ' I I2 iv v' ∧ Fr σ w (W.setCell ⟨r, 1, none⟩ v') ∧ ∀ k, k < w.heap.size → σ' k → σ k := by
  have hr := hfr.obj h.hp id
  have hrlt := lt_of_blk h.hp
  have hfr2 : Fr σ w (W.setCell ⟨r, 1, none⟩ v') := (hfr.mono fun k _ hk => hk.elim).setCell (fun _ => h.own) _
  obtain ⟨p, cap, h1, _⟩ := hown.src bxL_len
  refine ⟨⟨_, _, _, h1⟩, ⟨by rw [cell_of_blk hr]; rfl, free_of_blk hr 1⟩, fun k => σ k ∨ v'.ownBlock = some k, ⟨?_, .inl h.own, ow_of_blk (h.hi.fr hfr (by simp)) fun k hk => blk_setCell (fun e => h.ri (by simp only at e; rw [← e]; exact hk)) _, ow_of_blk (hown.base (Nat.zero_le _)) fun k hk => blk_setCell (fun e => by simp only at e; subst e; have := (hown.lt hk).1; omega) _, fun k hk => .inl (h.oi k hk), fun k hk => .inr hk, ?_⟩, hfr2, ?_⟩
  · have := blk_setCell_same (off := 1) hr v'; simpa using this
  · rintro k (hk | hk)
    · exact Nat.lt_of_lt_of_le (h.lt k hk) hfr2.size
    · have := (hown.lt hk).2; simpa [World.setCell] using this
  · rintro k hlt (hk | hk)
    · exact hk
    · have := (hown.lt hk).1; omega
end
def RIA (w : World) (r : Nat) (σ : Nat → Prop) (I : List ByteArray) (J : List Bx) : Prop := ∃ iv bv, RIAt w r σ I J iv bv
/-- How each of the reference's methods ends. -/
def RIPost (r : Nat) (σ : Nat → Prop) (I : List ByteArray) (J : List Bx) (v : Value) (w : World) (e : Ending) (w' : World) : Prop :=
  e = .returned v ∧ ∃ σ', RIA w' r σ' I J ∧ Fr σ w w' ∧ ∀ k, k < w.heap.size → σ' k → σ k
section
variable {o : Oper} {w : World} {ρ : Operand → Value} {x y : Operand} {g off i n cap : Nat} {p : Option Addr}
theorem run_pnil31 {a : Addr} (ho : o.op = .binOp .eql 31 x y 31) (hx : ρ x = .pointer (some a)) (hy : ρ y = .pointer none) : (execOp ρ o).run Try.prog w = .ok (.value (.bool false)) w := by
  simp [execOp, ho, hx, hy, go_sem]
theorem run_st42 {v u : Value} {n c : Nat} (hv : v = .slice p n c) (ho : o.op = .store 42 x y) (hx : ρ x = .pointer (some ⟨g, off, none⟩)) (hy : ρ y = v) (hc : w.cell? ⟨g, off, none⟩ = some u) (hz : w.frozen? ⟨g, off, none⟩ = false) : (execOp ρ o).run Try.prog w = .ok .skip (w.setCell ⟨g, off, none⟩ v) := by
  subst hv
  simp [execOp, ho, hx, hy, go_sem, hc, hz]
theorem run_st62 {v u : Value} {n c : Nat} (hv : v = .slice p n c) (ho : o.op = .store 62 x y) (hx : ρ x = .pointer (some ⟨g, off, none⟩)) (hy : ρ y = v) (hc : w.cell? ⟨g, off, none⟩ = some u) (hz : w.frozen? ⟨g, off, none⟩ = false) : (execOp ρ o).run Try.prog w = .ok .skip (w.setCell ⟨g, off, none⟩ v) := by
  subst hv
  simp [execOp, ho, hx, hy, go_sem, hc, hz]
theorem run_emp42 (ho : o.op = .buildSlice 42 0 #[]) : (execOp ρ o).run Try.prog w = .ok (.value (.slice (some ⟨w.heap.size, 0, none⟩) 0 0)) (w.alloc (.cells #[] 9)) := by
  simp [execOp, ho, go_sem]
theorem run_emp62 (ho : o.op = .buildSlice 62 0 #[]) : (execOp ρ o).run Try.prog w = .ok (.value (.slice (some ⟨w.heap.size, 0, none⟩) 0 0)) (w.alloc (.cells #[] 26)) := by
  simp [execOp, ho, go_sem]
theorem run_one42 {a : ByteArray} (ho : o.op = .buildSlice 42 1 #[(0, x)]) (hx : ρ x = .string a) : (execOp ρ o).run Try.prog w = .ok (.value (.slice (some ⟨w.heap.size, 0, none⟩) 1 1)) (w.alloc (.cells #[.string a] 9)) := by
  simp [execOp, ho, hx, go_sem]
theorem run_one62 {b : Bx} (ho : o.op = .buildSlice 62 1 #[(0, x)]) (hx : ρ x = .agg (bxC b)) : (execOp ρ o).run Try.prog w = .ok (.value (.slice (some ⟨w.heap.size, 0, none⟩) 1 1)) (w.alloc (.cells (bxC b) 26)) := by
  simp [execOp, ho, hx, go_sem]
theorem info9 : (Try.prog.info? 9).map (fun i => (i.zero, i.size, i.bytes)) = some (some (.string ByteArray.empty), 1, 16) := by kernel_rfl
theorem info26z : (Try.prog.info? 26).map (fun i => (i.zero, i.size, i.bytes)) = some (some (.agg (bxC ((0, 0), (0, 0)))), 4, 32) := by kernel_rfl
theorem info_parts {t n b : Nat} {z : Value} (h : (Try.prog.info? t).map (fun i => (i.zero, i.size, i.bytes)) = some (some z, n, b)) : ∃ i, Try.prog.info? t = some i ∧ i.zero = some z ∧ i.size = n ∧ i.bytes = b := by
  cases hi : Try.prog.info? t with
  | none => rw [hi] at h; cases h
  | some i =>
    rw [hi] at h
    simp only [Option.map_some, Option.some.injEq, Prod.mk.injEq] at h
    exact ⟨i, rfl, h.1, h.2.1, h.2.2⟩
end
/-- append of a row to a row of one's own, as a run. -/
theorem appR {α : Type} {f : α → List Value} {c : Nat} {E T : TypeId} {bytes : Nat} {z : Value} (hf : ∀ x, (f x).length = c) (hc : 0 < c) (h1 : ∀ x, ∀ u ∈ f x, u.oneCell' = true) (hT : Try.prog.underlying T = some (.slice E)) (hinf : (Try.prog.info? E).map (fun i => (i.zero, i.size, i.bytes)) = some (some z, c, bytes)) (hzs : z.cells.size = c) (hby : bytes ≤ 64)
    {o : Oper} {ρ : Operand → Value} {x y : Operand} {w : World} {B G : Nat} {v : Value} {A S : List α} {p : Option Addr} {cap : Nat} (ho : o.op = .call { callee := .builtin .append, args := #[x, y], argTypes := #[T, T] }) (hx : ρ x = v) (hy : ρ y = .slice p S.length cap) (hv : ow f c E w B v A) (hsrc : srcAt f c w G p S) (hcp : p = none → cap = 0) (hl : A.length + S.length ≤ 400000000) (hB : B ≤ w.heap.size) :
    ∃ v' w', (execOp ρ o).run Try.prog w = .ok (.value v') w' ∧ ow f c E w' B v' (A ++ S) ∧ Fr (fun k => v.ownBlock = some k) w w' ∧ (v'.ownBlock = v.ownBlock ∨ v'.ownBlock = some w.heap.size) := by
  obtain ⟨i, hi, hz, hs, hb⟩ := info_parts hinf
  rcases p with _ | ad
  · have hS : S = [] := by
      rcases hsrc with h | ⟨g, off, h, _⟩
      · exact h
      · cases h
    subst hS
    obtain rfl := hcp rfl
    refine ⟨v, w, ?_, by rw [List.append_nil]; exact hv, Fr.refl _ _, .inl rfl⟩
    have hrun := run_append_owned_none (P := Try.prog) (w := w) B T o.type E i c hT hi v A.length _ hv
    simp [execOp, ho, resolve, invoke, builtin, hx, hy, hrun, Result.andThen]
  · obtain ⟨v', w', c0, c1, c2, _, c4⟩ := run_append_own_at (P := Try.prog) (w := w) B T o.type E i z c bytes hT hi hz hs hb hzs hc v A.length _ hv ad S.length cap (S.flatMap f) (flat_len hf S) (fun j u hu => by
      have hj := (List.getElem?_eq_some_iff.1 hu).1
      rw [flat_len hf] at hj
      rcases hsrc with rfl | ⟨g, off, h2, _, h3⟩
      · simp at hj
      · obtain rfl := Option.some.inj h2
        have hm : j % c < c := Nat.mod_lt _ hc
        have hdv : j / c < S.length := (Nat.div_lt_iff_lt_mul hc).2 hj
        have e : j / c * c + j % c = j := by rw [Nat.mul_comm]; exact Nat.div_add_mod j c
        obtain ⟨s, hs⟩ : ∃ s, S[j / c]? = some s := ⟨_, List.getElem?_eq_getElem hdv⟩
        have hfl := flat_at hf S (j / c) s hs (j % c) hm
        rw [e, hu] at hfl
        have := h3 _ s hs (j % c) u hfl.symm
        rw [Addr.add_mid, ← e, ← Nat.add_assoc]; exact this) (fun u hu => by
      obtain ⟨s, _, hs⟩ := List.mem_flatMap.1 hu
      exact h1 s u hs) (by unfold maxLen; omega) (by have := Nat.mul_le_mul (Nat.le_refl (A.length + S.length)) hby; omega) hB
    refine ⟨v', w', ?_, ?_, (Fr.refl _ _).grown c2 fun k hk _ => hk, c4⟩
    · unfold execOp
      simp only [ho, resolve, invoke, builtin, Sem.run_bind, Sem.run_pure, Result.andThen_ok, List.map_toArray, List.map_cons, List.map_nil, hx, hy, c0]
    · unfold ow
      rw [List.length_append, List.flatMap_append]
      exact c1
theorem app42 {o : Oper} {ρ : Operand → Value} {x y : Operand} {w : World} {B G : Nat} {v : Value} {A S : List ByteArray} {p : Option Addr} {cap : Nat} (ho : o.op = .call { callee := .builtin .append, args := #[x, y], argTypes := #[42, 42] }) (hx : ρ x = v) (hy : ρ y = .slice p S.length cap) (hv : oStr w B v A) (hsrc : srcAt strC 1 w G p S) (hcp : p = none → cap = 0) (hl : A.length + S.length ≤ 400000000) (hB : B ≤ w.heap.size) :
    ∃ v' w', (execOp ρ o).run Try.prog w = .ok (.value v') w' ∧ oStr w' B v' (A ++ S) ∧ Fr (fun k => v.ownBlock = some k) w w' ∧ (v'.ownBlock = v.ownBlock ∨ v'.ownBlock = some w.heap.size) :=
  appR strC_len (by omega) (fun s u hu => by simp at hu; subst hu; rfl) Try.underlying42 info9 rfl (by decide) ho hx hy hv hsrc hcp hl hB
theorem app62 {o : Oper} {ρ : Operand → Value} {x y : Operand} {w : World} {B G : Nat} {v : Value} {A S : List Bx} {p : Option Addr} {cap : Nat} (ho : o.op = .call { callee := .builtin .append, args := #[x, y], argTypes := #[62, 62] }) (hx : ρ x = v) (hy : ρ y = .slice p S.length cap) (hv : oBx w B v A) (hsrc : srcAt bxL 4 w G p S) (hcp : p = none → cap = 0) (hl : A.length + S.length ≤ 400000000) (hB : B ≤ w.heap.size) :
    ∃ v' w', (execOp ρ o).run Try.prog w = .ok (.value v') w' ∧ oBx w' B v' (A ++ S) ∧ Fr (fun k => v.ownBlock = some k) w w' ∧ (v'.ownBlock = v.ownBlock ∨ v'.ownBlock = some w.heap.size) :=
  appR bxL_len (by omega) (fun s u hu => by simp at hu; rcases hu with rfl | rfl | rfl | rfl <;> rfl) Try.underlying62 info26z rfl (by decide) ho hx hy hv hsrc hcp hl hB
end Go.Proofs.Ytcafnanbdmapgaa
