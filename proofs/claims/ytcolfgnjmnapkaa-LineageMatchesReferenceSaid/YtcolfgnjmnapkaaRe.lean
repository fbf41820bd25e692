/- Rows of one's own at the reference lineage: a row appended to a row. -/
import Derived.Test.YtcolfgnjmnapkaaRa2
import Derived.Test.YtcolfgnjmnapkaaWx
import Derived.Deep.MidRow
set_option linter.unusedVariables false
set_option linter.unusedSimpArgs false
namespace Go.Pl
open Go.RowKit
section
variable {α : Type} (f : α → List Value) (c : Nat)
/-- v is a row of one's own, in a block from B on, that holds L. -/
def ow (E : TypeId) (w : World) (B : Nat) (v : Value) (L : List α) : Prop := w.ownsRow B E c v L.length (L.flatMap f)
/-- The slice at p holds L, in a block below G. -/
def srcAt (w : World) (G : Nat) (p : Option Addr) (L : List α) : Prop := L = [] ∨ ∃ g off, p = some ⟨g, off, none⟩ ∧ g < G ∧ ∀ i x, L[i]? = some x → w.rangeAt g (off + i * c) (f x)
variable {f c}
theorem srcAt.fr {w w' : World} {G : Nat} {p : Option Addr} {L : List α} (h : srcAt f c w G p L) {F : Nat → Prop} (hf : Fr F w w') (hF : ∀ r, r < G → ¬ F r) : srcAt f c w' G p L := by
  rcases h with h | ⟨g, off, h1, h2, h3⟩
  · exact .inl h
  · exact .inr ⟨g, off, h1, h2, fun i x hx j u hu => hf.cell (h3 i x hx j u hu) (hF g h2)⟩
theorem srcAt.mono {w : World} {G G' : Nat} {p : Option Addr} {L : List α} (h : srcAt f c w G p L) (hG : G ≤ G') : srcAt f c w G' p L := by
  rcases h with h | ⟨g, off, h1, h2, h3⟩
  · exact .inl h
  · exact .inr ⟨g, off, h1, Nat.lt_of_lt_of_le h2 hG, h3⟩
theorem srcAt.at {w : World} {G : Nat} {p : Option Addr} {L : List α} (h : srcAt f c w G p L) {i : Nat} (hi : i < L.length) : ∃ g off, p = some ⟨g, off, none⟩ ∧ g < G ∧ ∀ i x, L[i]? = some x → w.rangeAt g (off + i * c) (f x) := h.resolve_left (by rintro rfl; exact absurd hi (Nat.not_lt_zero _))
theorem srcAt.take {w : World} {G : Nat} {p : Option Addr} {L : List α} (h : srcAt f c w G p L) (n : Nat) : srcAt f c w G p (L.take n) := by
  rcases h with h | ⟨g, off, h1, h2, h3⟩
  · exact .inl (by rw [h]; simp)
  · refine .inr ⟨g, off, h1, h2, fun i x hx => h3 i x ?_⟩
    rw [List.getElem?_take] at hx
    split at hx
    · exact hx
    · cases hx
theorem ow.lt {E : TypeId} {w : World} {B : Nat} {v : Value} {L : List α} (h : ow f c E w B v L) {k : Nat} (hk : v.ownBlock = some k) : B ≤ k ∧ k < w.heap.size := by
  rcases h.2 with ⟨rfl, _⟩ | ⟨g, cap, cur, rfl, h1, h2, _⟩
  · cases hk
  · cases hk; exact ⟨h1, lt_of_blk h2⟩
theorem ow.fr {E : TypeId} {w w' : World} {B : Nat} {v : Value} {L : List α} (h : ow f c E w B v L) {F : Nat → Prop} (hf : Fr F w w') (hn : ∀ k, v.ownBlock = some k → ¬ F k) : ow f c E w' B v L := by
  refine ⟨h.1, ?_⟩
  rcases h.2 with h1 | ⟨g, cap, cur, h1, h2, h3, h4⟩
  · exact .inl h1
  · exact .inr ⟨g, cap, cur, h1, h2, hf.obj h3 (hn g (by rw [h1]; rfl)), h4⟩
theorem ow.base {E : TypeId} {w : World} {B C : Nat} {v : Value} {L : List α} (h : ow f c E w B v L) (hC : C ≤ B) : ow f c E w C v L := by
  refine ⟨h.1, ?_⟩
  rcases h.2 with h1 | ⟨g, cap, cur, h1, h2, h3⟩
  · exact .inl h1
  · exact .inr ⟨g, cap, cur, h1, Nat.le_trans hC h2, h3⟩
theorem ow.src {E : TypeId} (hf : ∀ x, (f x).length = c) {w : World} {B : Nat} {v : Value} {L : List α} (h : ow f c E w B v L) : ∃ p cap, v = .slice p L.length cap ∧ L.length ≤ cap ∧ cap ≤ 9223372036854775807 ∧ srcAt f c w w.heap.size p L ∧ (p = none → cap = 0) := by
  have h0 := h
  rcases h.2 with ⟨h1, h2⟩ | ⟨g, cap, cur, h1, hB, h3, h4, h5, h6, h7⟩
  · have hl : L = [] := List.eq_nil_of_length_eq_zero h2
    subst hl
    exact ⟨none, 0, h1, Nat.le_refl _, by omega, .inl rfl, fun _ => rfl⟩
  · refine ⟨_, cap, h1, h4, by unfold maxLen at h5; omega, .inr ⟨g, 0, rfl, lt_of_blk h3, fun i x hx j u hu => ?_⟩, fun h => by cases h⟩
    have hi := (List.getElem?_eq_some_iff.1 hx).1
    have hj : j < c := by rw [← hf x]; exact (List.getElem?_eq_some_iff.1 hu).1
    have := Go.Proofs.Ytcolfgnjmnapkaa.flat_at hf L i x hx j hj
    have hlt : i * c + j < L.length * c := by
      have := Nat.mul_le_mul_right c (Nat.succ_le_of_lt hi)
      rw [Nat.succ_mul] at this; omega
    rw [hu, ← h7, List.getElem?_take_of_lt hlt, Array.getElem?_toList] at this
    rw [cell_of_blk h3, Nat.zero_add]; exact this
theorem ow_empty {E : TypeId} (w : World) {B : Nat} (hB : B ≤ w.heap.size) : ow f c E (w.alloc (.cells #[] E)) B (.slice (some ⟨w.heap.size, 0, none⟩) 0 0) ([] : List α) := by
  have h := Go.Proofs.Ytcolfgnjmnapkaa.own_empty w E c
  exact ow.base (f := f) (L := []) h hB
theorem ow_nil {E : TypeId} (w : World) {B : Nat} : ow f c E w B (.slice none 0 0) ([] : List α) := World.ownsRow_nil _ _ _ _
theorem src_one {w : World} {b G : Nat} {x : α} {T : TypeId} (hb : w.heap[b]? = some (.cells (f x).toArray T (0, 0))) (hG : b < G) : srcAt f c w G (some ⟨b, 0, none⟩) [x] := .inr ⟨b, 0, rfl, hG, fun i y hy j u hu => by
  match i, hy with
  | 0, hy =>
    simp at hy; subst hy
    rw [cell_of_blk hb]; simpa using hu
  | i + 1, hy => simp at hy⟩
end
section
variable {P : Program} {O : Array Oper} {Q : Exit → Act → World → Prop} {rest : List Oper} {o : Oper} {a : Act} {w : World} {n d : Nat} {L : List (Nat × Value)} {x y : Operand} {b : Nat}
theorem env_appR {α : Type} {f : α → List Value} {c : Nat} {E T : TypeId} {bytes : Nat} {z : Value} (hf : ∀ x, (f x).length = c) (hc : 0 < c) (h1 : ∀ x, ∀ u ∈ f x, u.oneCell' = true) (hT : P.underlying T = some (.slice E)) {i : TypeInfo} (hi : P.info? E = some i) (hz : i.zero = some z) (hs : i.size = c) (hb : i.bytes = bytes) (hzs : z.cells.size = c) (hby : bytes ≤ 64)
    {B G : Nat} {v : Value} {A S : List α} {p : Option Addr} {cap : Nat} (En : Env n L a) (hd : o.dst = some d) (hn : d < n) (hfr : (L.map (·.1)).contains d = false) (hg : o.guard = none) (ho : o.op = .call { callee := .builtin .append, args := #[x, y], argTypes := #[T, T] }) (hx : a.eval x = v) (hv : ow f c E w B v A) (hy : a.eval y = .slice p S.length cap) (hsrc : srcAt f c w G p S) (hcp : p = none → cap = 0) (hl : A.length + S.length ≤ 400000000) (hB : B ≤ w.heap.size)
    (k : ∀ a' w' v', ow f c E w' B v' (A ++ S) → Fr (fun k => v.ownBlock = some k) w w' → (v'.ownBlock = v.ownBlock ∨ v'.ownBlock = some w.heap.size) → Env n ((d, v') :: L) a' → wpList P O Q rest a' w') : wpList P O Q (o :: rest) a w := by
  rcases p with _ | ad
  · have hS : S = [] := by
      rcases hsrc with h | ⟨g, off, h, _⟩
      · exact h
      · cases h
    subst hS
    obtain rfl := hcp rfl
    refine wpList_append_own_none hg _ _ T ho B E i c hT hi v A.length _ hx hv hy ?_
    rw [hd]
    refine k _ w v (by rw [List.append_nil]; exact hv) (Fr.refl _ _) (.inl rfl) (En.put hn hfr)
  · refine wpList_append_own_at w hg _ _ T ho B E i z c bytes hT hi hz hs hb hzs hc v A.length _ hx hv ad S.length cap (S.flatMap f) hy (Go.Proofs.Ytcolfgnjmnapkaa.flat_len hf S) (fun j u hu => ?_) (fun u hu => ?_) (by unfold maxLen; omega) ?_ hB fun v' w' c1 c2 c3 c4 => ?_
    · have hj := (List.getElem?_eq_some_iff.1 hu).1
      rw [Go.Proofs.Ytcolfgnjmnapkaa.flat_len hf] at hj
      rcases hsrc with rfl | ⟨g, off, h2, _, h3⟩
      · simp at hj
      · obtain rfl := Option.some.inj h2
        have hm : j % c < c := Nat.mod_lt _ hc
        have hdv : j / c < S.length := (Nat.div_lt_iff_lt_mul hc).2 hj
        have e : j / c * c + j % c = j := by rw [Nat.mul_comm]; exact Nat.div_add_mod j c
        obtain ⟨s, hs⟩ : ∃ s, S[j / c]? = some s := ⟨_, List.getElem?_eq_getElem hdv⟩
        have hfl := Go.Proofs.Ytcolfgnjmnapkaa.flat_at hf S (j / c) s hs (j % c) hm
        rw [e, hu] at hfl
        have := h3 _ s hs (j % c) u hfl.symm
        rw [Addr.add_mid, ← e, ← Nat.add_assoc]; exact this
    · obtain ⟨s, _, hs⟩ := List.mem_flatMap.1 hu
      exact h1 s u hs
    · have := Nat.mul_le_mul (Nat.le_refl (A.length + S.length)) hby
      omega
    · rw [hd]
      refine k _ w' v' ?_ ((Fr.refl _ _).grown c2 fun k hk _ => hk) c4 (En.put hn hfr)
      unfold ow
      rw [List.length_append, List.flatMap_append]
      exact c1
end
end Go.Pl
namespace Go.Proofs.Ytcolfgnjmnapkaa
open Go.RowKit Go.Pl
abbrev strC (s : ByteArray) : List Value := [.string s]
theorem strC_len : ∀ s, (strC s).length = 1 := fun _ => rfl
theorem flat_str : ∀ l : List ByteArray, l.flatMap strC = l.map .string
  | [] => rfl
  | a :: l => by rw [List.flatMap_cons, flat_str l]; rfl
abbrev oStr (w : World) (B : Nat) (v : Value) (L : List ByteArray) : Prop := ow strC 1 9 w B v L
abbrev oPr (w : World) (B : Nat) (v : Value) (L : List (ByteArray × ByteArray)) : Prop := ow scells 2 70 w B v L
section
variable {O : Array Oper} {Q : Exit → Act → World → Prop} {rest : List Oper} {o : Oper} {a : Act} {w : World} {n d : Nat} {L : List (Nat × Value)} {x y : Operand} {b : Nat}
theorem env_app33 {B G : Nat} {v : Value} {A S : List ByteArray} {p : Option Addr} {cap : Nat} (En : Env n L a) (hd : o.dst = some d) (hn : d < n) (hfr : (L.map (·.1)).contains d = false) (hg : o.guard = none) (ho : o.op = .call { callee := .builtin .append, args := #[x, y], argTypes := #[33, 33] }) (hx : a.eval x = v) (hv : oStr w B v A) (hy : a.eval y = .slice p S.length cap) (hsrc : srcAt strC 1 w G p S) (hcp : p = none → cap = 0) (hl : A.length + S.length ≤ 400000000) (hB : B ≤ w.heap.size)
    (k : ∀ a' w' v', oStr w' B v' (A ++ S) → Fr (fun k => v.ownBlock = some k) w w' → (v'.ownBlock = v.ownBlock ∨ v'.ownBlock = some w.heap.size) → Env n ((d, v') :: L) a' → wpList Try.prog O Q rest a' w') : wpList Try.prog O Q (o :: rest) a w := by
  obtain ⟨i0, hi0, hz0, hz1, hz2⟩ := info_parts info9
  exact env_appR strC_len (by omega) (fun s u hu => by simp at hu; subst hu; rfl) Try.underlying33 hi0 hz0 hz1 hz2 rfl (by decide) En hd hn hfr hg ho hx hv hy hsrc hcp hl hB k
theorem env_app56 {B G : Nat} {v : Value} {A S : List (ByteArray × ByteArray)} {p : Option Addr} {cap : Nat} (En : Env n L a) (hd : o.dst = some d) (hn : d < n) (hfr : (L.map (·.1)).contains d = false) (hg : o.guard = none) (ho : o.op = .call { callee := .builtin .append, args := #[x, y], argTypes := #[56, 56] }) (hx : a.eval x = v) (hv : oPr w B v A) (hy : a.eval y = .slice p S.length cap) (hsrc : srcAt scells 2 w G p S) (hcp : p = none → cap = 0) (hl : A.length + S.length ≤ 400000000) (hB : B ≤ w.heap.size)
    (k : ∀ a' w' v', oPr w' B v' (A ++ S) → Fr (fun k => v.ownBlock = some k) w w' → (v'.ownBlock = v.ownBlock ∨ v'.ownBlock = some w.heap.size) → Env n ((d, v') :: L) a' → wpList Try.prog O Q rest a' w') : wpList Try.prog O Q (o :: rest) a w := by
  obtain ⟨i0, hi0, hz0, hz1, hz2⟩ := info_parts info70
  exact env_appR scells_len (by omega) (fun s u hu => by simp at hu; rcases hu with rfl | rfl <;> rfl) Try.underlying56 hi0 hz0 hz1 hz2 rfl (by decide) En hd hn hfr hg ho hx hv hy hsrc hcp hl hB k
theorem env_emp33 {B : Nat} (En : Env n L a) (hd : o.dst = some d) (hn : d < n) (hf : (L.map (·.1)).contains d = false) (hw : Region.wanted o (yielded O a.tmps) = true) (ho : o.op = .buildSlice 33 0 #[]) (hB : B ≤ w.heap.size)
    (k : ∀ a' w' b, w.heap.size = b → oStr w' B (.slice (some ⟨b, 0, none⟩) 0 0) [] → Fr (fun _ => False) w w' → Env n ((d, .slice (some ⟨b, 0, none⟩) 0 0) :: L) a' → wpList Try.prog O Q rest a' w') : wpList Try.prog O Q (o :: rest) a w :=
  env_put En hd hn hf hw (run_empty33 ho) fun a' E' => k a' _ _ rfl (ow_empty w hB) ((Fr.refl _ _).alloc _) E'
theorem env_emp56 {B : Nat} (En : Env n L a) (hd : o.dst = some d) (hn : d < n) (hf : (L.map (·.1)).contains d = false) (hw : Region.wanted o (yielded O a.tmps) = true) (ho : o.op = .buildSlice 56 0 #[]) (hB : B ≤ w.heap.size)
    (k : ∀ a' w' b, w.heap.size = b → oPr w' B (.slice (some ⟨b, 0, none⟩) 0 0) [] → Fr (fun _ => False) w w' → Env n ((d, .slice (some ⟨b, 0, none⟩) 0 0) :: L) a' → wpList Try.prog O Q rest a' w') : wpList Try.prog O Q (o :: rest) a w :=
  env_put En hd hn hf hw (run_empty56 ho) fun a' E' => k a' _ _ rfl (ow_empty w hB) ((Fr.refl _ _).alloc _) E'
theorem env_one33 {s : ByteArray} (En : Env n L a) (hd : o.dst = some d) (hn : d < n) (hf : (L.map (·.1)).contains d = false) (hw : Region.wanted o (yielded O a.tmps) = true) (ho : o.op = .buildSlice 33 1 #[(0, x)]) (hx : a.eval x = .string s)
    (k : ∀ a' w' b, w.heap.size = b → w'.heap[b]? = some (.cells (strC s).toArray 9 (0, 0)) → Fr (fun _ => False) w w' → Env n ((d, .slice (some ⟨b, 0, none⟩) 1 1) :: L) a' → wpList Try.prog O Q rest a' w') : wpList Try.prog O Q (o :: rest) a w :=
  env_put En hd hn hf hw (run_one33 ho hx) fun a' E' => k a' _ _ rfl (blk_alloc_new _ _) ((Fr.refl _ _).alloc _) E'
theorem env_one56 {s t : ByteArray} (En : Env n L a) (hd : o.dst = some d) (hn : d < n) (hf : (L.map (·.1)).contains d = false) (hw : Region.wanted o (yielded O a.tmps) = true) (ho : o.op = .buildSlice 56 1 #[(0, x)]) (hx : a.eval x = .agg #[.string s, .string t])
    (k : ∀ a' w' b, w.heap.size = b → w'.heap[b]? = some (.cells (scells (s, t)).toArray 70 (0, 0)) → Fr (fun _ => False) w w' → Env n ((d, .slice (some ⟨b, 0, none⟩) 1 1) :: L) a' → wpList Try.prog O Q rest a' w') : wpList Try.prog O Q (o :: rest) a w :=
  env_put En hd hn hf hw (run_one56 ho hx) fun a' E' => k a' _ _ rfl (blk_alloc_new _ _) ((Fr.refl _ _).alloc _) E'
theorem ow_one33 {w : World} {b B : Nat} {s : ByteArray} (hb : w.heap[b]? = some (.cells (strC s).toArray 9 (0, 0))) (hB : B ≤ b) : oStr w B (.slice (some ⟨b, 0, none⟩) 1 1) [s] :=
  ⟨rfl, .inr ⟨b, 1, _, rfl, hB, hb, Nat.le_refl _, by unfold maxLen; omega, rfl, rfl⟩⟩
end
/-- What the two fields hold, as sources. -/
theorem RefAt.msrc {w : World} {r : Nat} {σ : Nat → Prop} {R : RefS} {pv mv : Value} (h : RefAt w r σ R pv mv) : ∃ p cap, mv = .slice p R.ms.length cap ∧ R.ms.length ≤ cap ∧ cap ≤ 9223372036854775807 ∧ srcAt strC 1 w w.heap.size p R.ms ∧ (p = none → cap = 0) := by
  have h' : oStr w 0 mv R.ms := by unfold oStr ow; rw [flat_str]; exact h.hms
  exact h'.src strC_len
theorem RefAt.psrc {w : World} {r : Nat} {σ : Nat → Prop} {R : RefS} {pv mv : Value} (h : RefAt w r σ R pv mv) : ∃ p cap, pv = .slice p R.ps.length cap ∧ R.ps.length ≤ cap ∧ cap ≤ 9223372036854775807 ∧ srcAt scells 2 w w.heap.size p R.ps ∧ (p = none → cap = 0) := by
  have h' : oPr w 0 pv R.ps := h.hps
  exact h'.src scells_len
theorem RefAt.setM2 {w W : World} {r : Nat} {σ : Nat → Prop} {R : RefS} {pv mv : Value} (h : RefAt w r σ R pv mv) (hfr : Fr (fun _ => False) w W) {v' : Value} {ms' : List ByteArray} {B : Nat} (hown : oStr W B v' ms') (hB : w.heap.size ≤ B) :
    (∃ p n c, v' = .slice p n c) ∧ (W.cell? ⟨r, 1, none⟩ = some mv ∧ W.frozen? ⟨r, 1, none⟩ = false) ∧
    ∃ σ', RefAt (W.setCell ⟨r, 1, none⟩ v') r σ' ⟨R.ps, ms'⟩ pv v' ∧ Fr σ w (W.setCell ⟨r, 1, none⟩ v') ∧ ∀ k, k < w.heap.size → σ' k → σ k := by
  obtain ⟨p, cap, h1, _⟩ := hown.src strC_len
  have h0 := hown.base (Nat.zero_le _)
  have h2 : W.ownsRow 0 9 1 v' ms'.length (ms'.map .string) := by rw [← flat_str]; exact h0
  have := h.setM hfr rfl h2 (fun k hk => Nat.le_trans hB (hown.lt hk).1)
  exact ⟨⟨_, _, _, h1⟩, this⟩
theorem RefAt.setP2 {w W : World} {r : Nat} {σ : Nat → Prop} {R : RefS} {pv mv : Value} (h : RefAt w r σ R pv mv) (hfr : Fr (fun _ => False) w W) {v' : Value} {ps' : List (ByteArray × ByteArray)} {B : Nat} (hown : oPr W B v' ps') (hB : w.heap.size ≤ B) :
    (∃ p n c, v' = .slice p n c) ∧ (W.cell? ⟨r, 0, none⟩ = some pv ∧ W.frozen? ⟨r, 0, none⟩ = false) ∧
    ∃ σ', RefAt (W.setCell ⟨r, 0, none⟩ v') r σ' ⟨ps', R.ms⟩ v' mv ∧ Fr σ w (W.setCell ⟨r, 0, none⟩ v') ∧ ∀ k, k < w.heap.size → σ' k → σ k := by
  obtain ⟨p, cap, h1, _⟩ := hown.src scells_len
  have := h.setP hfr rfl (hown.base (Nat.zero_le _)) (fun k hk => Nat.le_trans hB (hown.lt hk).1)
  exact ⟨⟨_, _, _, h1⟩, this⟩
end Go.Proofs.Ytcolfgnjmnapkaa
