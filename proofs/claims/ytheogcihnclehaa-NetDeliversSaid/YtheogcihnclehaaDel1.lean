/- NetDelivers: what is kept from round to round, and what one store into the law's map does to it. -/
import Derived.Test.YtheogcihnclehaaDel0
import Derived.Deep.RegionHeld3
import Derived.Maps.AppendAt
namespace Go.Proofs.Ytheogcihnclehaa
open Go.RowKit Go.Pl

/-- append to a slice of one's own, as one step of a region that draws. -/
theorem step_append_own {P : Program} {w : World} {ops : Array Oper} {o : Oper} {a : Act} {K : Act → World → Prop} {Q : Exit → Act → World → Prop} {E : Prop} (hgd : o.guard = none) (s x : Operand) (t : TypeId)
    (ho : o.op = .call { callee := .builtin .append, args := #[s, x], argTypes := #[t, t] })
    (base : Nat) (e : TypeId) (i : TypeInfo) (z : Value) (size bytes : Nat) (ht : P.underlying t = some (.slice e)) (hi : P.info? e = some i) (hz : i.zero = some z)
    (hsize : i.size = size) (hby : i.bytes = bytes) (hzs : z.cells.size = size) (hsz : 0 < size)
    (v : Value) (n : Nat) (xs : List Value) (hs : a.eval s = v) (hown : w.ownsRow base e size v n xs)
    (ad : Addr) (m c : Nat) (news : List Value) (hx : a.eval x = .slice (some ad) m c) (hl : news.length = m * size) (hnews : ∀ j u, news[j]? = some u → w.cell? (ad.add j) = some u) (h1 : ∀ u ∈ news, u.oneCell' = true)
    (h63 : n + m ≤ maxLen) (hbytes : (n + m) * bytes ≤ 140737488355328) (hbase : base ≤ w.heap.size)
    (h : ∀ v' w', w'.ownsRow base e size v' (n + m) (xs ++ news) → w.grownBy w' v.ownBlock → (v'.ownBlock = v.ownBlock ∨ v'.ownBlock = some w.heap.size) → K (a.put o.dst v') w') :
    if Region.wanted o (yielded ops a.tmps) = true then Oper.wp P o a w K Q else E := by
  have hw : Region.wanted o (yielded ops a.tmps) = true := by simp [Region.wanted, hgd]
  rw [if_pos hw]
  obtain ⟨v', w', hr, h2, h3, h4, h5⟩ := run_append_own_at (P := P) w base t o.type e i z size bytes ht hi hz hsize hby hzs hsz v n xs hown ad m c news hl hnews h1 h63 hbytes hbase
  unfold Oper.wp execOp
  simp only [ho, resolve, invoke, builtin, Sem.run_bind, Sem.run_pure, Result.andThen_ok, List.map_toArray, List.map_cons, List.map_nil, hs, hx, hr]
  exact h _ _ h2 h3 h5

def Lim (Q : Int → Int → List ByteArray) : Prop := ∀ a b, (Q a b).length ≤ 100

def StoryP (S S' : NetS) (o : Opr) (T : ByteArray) (K E : Int) : Prop :=
  ((o.kind < 0 ∨ 4 < o.kind) ∧ S' = S ∧ K = (S.q o.a o.b).length) ∨
  ((0 ≤ o.kind ∧ o.kind ≤ 4) ∧ E ≠ 0 ∧ S' = S) ∨
  (o.kind = 4 ∧ E = 0 ∧ S'.q = S.q) ∨
  (o.kind = 0 ∧ E = 0 ∧ S'.q = putQ S.q o.a o.b (S.q o.a o.b ++ [o.text])) ∨
  (o.kind = 1 ∧ o.flag = true ∧ E = 0 ∧ S' = S ∧ 0 ≤ o.index ∧ (S.q o.a o.b)[o.index.toNat]? = some T) ∨
  (o.kind = 1 ∧ o.flag = false ∧ E = 0 ∧ S'.q = putQ S.q o.a o.b ((S.q o.a o.b).eraseIdx o.index.toNat) ∧ 0 ≤ o.index ∧ (S.q o.a o.b)[o.index.toNat]? = some T) ∨
  (o.kind = 2 ∧ E = 0 ∧ S'.q = putQ S.q o.a o.b ((S.q o.a o.b).eraseIdx o.index.toNat) ∧ 0 ≤ o.index ∧ o.index.toNat < (S.q o.a o.b).length)
theorem Story.p {S : NetS} {o : Opr} (h : Story S o) : StoryP S (doS S o) o (doT S o) (doK S o) (doE S o) := h

theorem lim_put {Q : Int → Int → List ByteArray} (h : Lim Q) {a b : Int} {ts : List ByteArray} (ht : ts.length ≤ 100) : Lim (putQ Q a b ts) := fun c d => by
  unfold putQ
  split
  · exact ht
  · exact h c d
theorem story_lim {S : NetS} {o : Opr} (h : Story S o) (hl : Lim S.q) : Lim (doS S o).q := by
  rcases h with ⟨_, h, _⟩ | ⟨_, _, h⟩ | ⟨_, _, h⟩ | ⟨k, e, h⟩ | ⟨_, _, _, h, _⟩ | ⟨_, _, _, h, _⟩ | ⟨_, _, h, _⟩
  · rw [h]; exact hl
  · rw [h]; exact hl
  · rw [h]; exact hl
  · rw [h]
    refine lim_put hl ?_
    have e2 : S.sendE o.a o.b o.text = 0 := by simpa [doE, k] using e
    have : ¬ 100 ≤ (S.q o.a o.b).length := fun h100 => by
      unfold NetS.sendE at e2
      rw [if_pos h100] at e2
      split at e2
      · cases e2
      · split at e2
        · cases e2
        · split at e2 <;> cases e2
    simp; omega
  · rw [h]; exact hl
  · rw [h]; exact lim_put hl (Nat.le_trans (List.length_eraseIdx_le ..) (hl _ _))
  · rw [h]; exact lim_put hl (Nat.le_trans (List.length_eraseIdx_le ..) (hl _ _))

theorem Mine.of {w0 w w' : World} {p : Nat} {ρ ρ' : Roles} {S S' : NetS} (m : Mine w0 w p ρ S) (n : NetAt w' p ρ' S') (f : Fr (Fp ρ) w w') (g : Grows w ρ ρ') : Mine w0 w' p ρ' S' :=
  ⟨n, m.fr.trans' f (fun r hr hne => by have := m.fresh r hne; omega), fun r hr => by
    by_cases hlt : r < w.heap.size
    · exact m.fresh r (g r hlt hr)
    · have := m.fr.size; omega⟩
def DRel (w0 : World) (p : Nat) (mb : Nat) (wr : World) : Prop := ∃ ρ S f τ, Mine w0 wr p ρ S ∧ Qs wr w0.heap.size mb f ρ τ S.q ∧ S.nodes = 3 ∧ Lim S.q
theorem DRel.quiet {w0 p mb w w'} (h : DRel w0 p mb w) (hf : Fr (fun _ => False) w w') : DRel w0 p mb w' := by
  obtain ⟨ρ, S, f, τ, h1, h2, h3⟩ := h
  exact ⟨ρ, S, f, τ, h1.quiet hf, h2.quiet hf, h3⟩

theorem wf_le8 {a : Int} (h : 0 ≤ a) (h2 : a < 3) : (Lit.int .i64 a).wf = true := wf_small h (by omega)

/-- One store into the law's map, behind which the law's queue is the network's. -/
theorem DRel.put {w w1 W : World} {p mb : Nat} {ρ : Roles} {S : NetS} {f τ Q0} (m : Mine w w1 p ρ S) (q : Qs w1 w.heap.size mb f ρ τ Q0) (h3 : S.nodes = 3) (hl : Lim S.q) {a b : Int} {ts : List ByteArray}
    (hr : S.right a b) (hS : S.q = putQ Q0 a b ts) {v' : Value} (hfr : Fr (fun r => (qv f a b).ownBlock = some r) w1 W)
    (hown : W.ownsRow w.heap.size 9 1 v' ts.length (ts.map .string)) (hloc : ∀ k, v'.ownBlock = some k → (qv f a b).ownBlock = some k ∨ w1.heap.size ≤ k) :
    ∃ o, (Instr.mapUpdate 43 (.map (some mb)) (key a b) v').run Try.prog W = .ok () (setBlk W mb o) ∧ DRel w p mb (setBlk W mb o) ∧ Fr (fun r => r = mb) W (setBlk W mb o) := by
  obtain ⟨r1, r2, r3, r4, r5⟩ := hr
  rw [h3] at r3 r4
  obtain ⟨l, hk⟩ := key45 (wf_le8 r1 r3) (wf_le8 r2 r4)
  obtain ⟨o, ho⟩ := q.mp.store law45 Try.underlying43 hk v'
  have hmlt := q.mp.lt
  have hW : W.heap[mb]? = w1.heap[mb]? := hfr.blk mb hmlt (q.ne a b)
  obtain ⟨hrun, hmap⟩ := ho W hW
  have hfr2 : Fr (fun r => (qv f a b).ownBlock = some r ∨ r = mb) w1 (setBlk W mb o) := (hfr.mono fun _ _ h => .inl h).setBlk (fun _ => .inr rfl) o
  have hown2 : (setBlk W mb o).ownsRow w.heap.size 9 1 v' ts.length (ts.map .string) := ownsRow_of_blk hown fun k hk => setBlk_other (fun e => by
    subst e
    rcases hloc k hk with h | h
    · exact q.ne a b h
    · omega) o
  obtain ⟨τ', q'⟩ := q.put hfr2 hmap hown2 hloc m.net.lt
  refine ⟨o, hrun, ⟨ρ, S, _, τ', ⟨m.net.fr hfr2 ?_, m.fr.trans' hfr2 ?_, m.fresh⟩, hS ▸ q', h3, hl⟩, Fr.setBlk (F := fun r => r = mb) (Fr.refl _ W) (fun _ => rfl) o⟩
  · rintro r hne (h | rfl)
    · exact hne (q.t a b r h).2
    · exact hne q.m0
  · rintro r hlt (h | rfl)
    · have := (q.lt a b r h).1; omega
    · have := q.mB; omega

theorem own_strings {w : World} {B : Nat} {v : Value} {n : Nat} {ts : List ByteArray} (h : w.ownsRow B 9 1 v n (ts.map .string)) {i : Nat} {t : ByteArray} (hi : ts[i]? = some t) :
    ∃ g cap, v = .slice (some ⟨g, 0, none⟩) n cap ∧ n ≤ cap ∧ cap ≤ maxLen ∧ g < w.heap.size ∧ ∀ j s, ts[j]? = some s → w.cell? ⟨g, j, none⟩ = some (.string s) := by
  have h0 := h
  rcases h.2 with ⟨h1, h2⟩ | ⟨g, cap, cur, h1, _, h3, h4, h5, _⟩
  · have := h.1
    rw [h2] at this
    have h6 : ts = [] := by simpa using this
    rw [h6] at hi; simp at hi
  · refine ⟨g, cap, h1, h4, h5, lt_of_blk h3, fun j s hj => ?_⟩
    subst h1
    have := h0.cells (g := g) rfl j (.string s) (by rw [List.getElem?_map, hj]; rfl)
    rwa [Addr.add_lit, Nat.zero_add] at this
theorem Qs.apart {w B mb f ρ τ Q} (h : Qs w B mb f ρ τ Q) {r : Nat} {cs : Array Value} {E : TypeId} {fz : Nat × Nat} (hr : w.heap[r]? = some (.cells cs E fz)) (hE : E ≠ 9) (a b : Int) : (qv f a b).ownBlock ≠ some r ∧ r ≠ mb := by
  constructor
  · intro e
    rcases (h.q a b).2 with ⟨h1, _⟩ | ⟨g, cap, cur, h1, _, h3, _⟩
    · rw [h1] at e; simp [Value.ownBlock] at e
    · rw [h1] at e
      simp [Value.ownBlock] at e
      subst e
      rw [hr] at h3
      simp at h3
      exact hE h3.2.1
  · rintro rfl
    obtain ⟨es, c, hm, _⟩ := h.mp
    rw [hr] at hm; simp at hm

def Kp (w w' : World) (M MK : Nat) : Prop := w'.heap[M]? = w.heap[M]? ∧ w'.heap[MK]? = w.heap[MK]?
theorem Kp.m {w w' : World} {M MK : Nat} (h : Kp w w' M MK) {off : Nat} {v : Value} (c : w.cell? ⟨M, off, none⟩ = some v) : w'.cell? ⟨M, off, none⟩ = some v := (World.cell?_of_block h.1).trans c
theorem Kp.k {w w' : World} {M MK : Nat} (h : Kp w w' M MK) {off : Nat} {v : Value} (c : w.cell? ⟨MK, off, none⟩ = some v) : w'.cell? ⟨MK, off, none⟩ = some v := (World.cell?_of_block h.2).trans c

theorem DRel.put2 {w w9 W : World} {p mb M MK : Nat} {ρ : Roles} {S : NetS} {f τ Q0} (m : Mine w w9 p ρ S) (q : Qs w9 w.heap.size mb f ρ τ Q0) (h3 : S.nodes = 3) (hl : Lim S.q) {a b : Int} {ts : List ByteArray}
    (hr : S.right a b) (hS : S.q = putQ Q0 a b ts) {cM cK : Array Value} (hM : w9.heap[M]? = some (.cells cM 35 (0, 0))) (hK : w9.heap[MK]? = some (.cells cK 45 (0, 0)))
    {v' : Value} (hfr : Fr (fun r => (qv f a b).ownBlock = some r) w9 W) {n : Nat} (hn : n = ts.length)
    (hown : W.ownsRow w.heap.size 9 1 v' n (ts.map .string)) (hloc : ∀ k, v'.ownBlock = some k → (qv f a b).ownBlock = some k ∨ w9.heap.size ≤ k) :
    ∃ o, (Instr.mapUpdate 43 (.map (some mb)) (.agg #[.int .i64 a, .int .i64 b]) v').run Try.prog W = .ok () (setBlk W mb o) ∧ DRel w p mb (setBlk W mb o) ∧ Kp w9 W M MK ∧ Kp w9 (setBlk W mb o) M MK := by
  subst hn
  obtain ⟨o, h1, h2, h3⟩ := DRel.put m q h3 hl hr hS hfr hown hloc
  have aM := q.apart hM (by decide) a b
  have aK := q.apart hK (by decide) a b
  have kp : Kp w9 W M MK := ⟨hfr.blk M (lt_of_blk hM) aM.1, hfr.blk MK (lt_of_blk hK) aK.1⟩
  exact ⟨o, h1, h2, kp, (setBlk_other aM.2 o).trans kp.1, (setBlk_other aK.2 o).trans kp.2⟩

theorem deli_send {w w9 : World} {p mb M MK : Nat} {ρ : Roles} {S : NetS} {f τ Q0} (m : Mine w w9 p ρ S) (q : Qs w9 w.heap.size mb f ρ τ Q0) (h3 : S.nodes = 3) (hl : Lim S.q) {a b : Int} {t : ByteArray}
    (hr : S.right a b) (hS : S.q = putQ Q0 a b (Q0 a b ++ [t])) {cM cK : Array Value} (hM : w9.heap[M]? = some (.cells cM 35 (0, 0))) (hK : w9.heap[MK]? = some (.cells cK 45 (0, 0))) {qx : Value} {L : Nat} (hqv : qv f a b = qx) (hL : L = (Q0 a b).length)
    (v' : Value) (w3 : World) (hown3 : w3.ownsRow w.heap.size 9 1 v' (L + 1) ((Q0 a b).map .string ++ [.string t])) (hg : ((w9.alloc (.cells #[.string t] 9)).drew).grownBy w3 qx.ownBlock)
    (hloc : v'.ownBlock = qx.ownBlock ∨ v'.ownBlock = some ((w9.alloc (.cells #[.string t] 9)).drew).heap.size) :
    ∃ o, (Instr.mapUpdate 43 (.map (some mb)) (.agg #[.int .i64 a, .int .i64 b]) v').run Try.prog w3 = .ok () (setBlk w3 mb o) ∧ DRel w p mb (setBlk w3 mb o) ∧ Kp w9 w3 M MK ∧ Kp w9 (setBlk w3 mb o) M MK := by
  subst hqv
  refine DRel.put2 (n := L + 1) m q h3 hl hr hS hM hK (((Fr.refl _ w9).alloc _).drew.grown hg fun k hk _ => hk) (by simp [hL]) (by simpa using hown3) fun k hk => ?_
  rcases hloc with e | e
  · exact .inl (e ▸ hk)
  · rw [hk] at e
    simp at e
    right; omega

theorem deli_out {w w9 : World} {p mb M MK : Nat} {ρ : Roles} {S : NetS} {f τ Q0} (m : Mine w w9 p ρ S) (q : Qs w9 w.heap.size mb f ρ τ Q0) (h3 : S.nodes = 3) (hl : Lim S.q) {a b : Int} {i g L cap : Nat}
    (hr : S.right a b) (hS : S.q = putQ Q0 a b ((Q0 a b).eraseIdx i)) {cM cK : Array Value} (hM : w9.heap[M]? = some (.cells cM 35 (0, 0))) (hK : w9.heap[MK]? = some (.cells cK 45 (0, 0)))
    (hL : L = (Q0 a b).length) (hcap : L ≤ cap) (hi : i < L) (hg : g < w9.heap.size) (hc : ∀ j s, (Q0 a b)[j]? = some s → w9.cell? ⟨g, j, none⟩ = some (.string s)) :
    (((w9.alloc (.cells #[] 9)).drew).ownsRow w.heap.size 9 1 (.slice (some ⟨w9.heap.size, 0, none⟩) 0 0) 0 [] ∧ (∀ j u, (((Q0 a b).take i).map Value.string)[j]? = some u → ((w9.alloc (.cells #[] 9)).drew).cell? ((⟨g, 0, none⟩ : Addr).add j) = some u) ∧ Kp w9 ((w9.alloc (.cells #[] 9)).drew) M MK) ∧
    ∃ A, (if cap = i + 1 then some (⟨g, 0, none⟩ : Addr) else some ⟨g, i + 1, none⟩) = some A ∧
    ∀ v1 w1, w1.ownsRow w.heap.size 9 1 v1 (0 + i) ([] ++ ((Q0 a b).take i).map .string) → ((w9.alloc (.cells #[] 9)).drew).grownBy w1 (some w9.heap.size) → (v1.ownBlock = some w9.heap.size ∨ v1.ownBlock = some ((w9.alloc (.cells #[] 9)).drew).heap.size) →
      w1.ownsRow w.heap.size 9 1 v1 i (((Q0 a b).take i).map .string) ∧ (∀ j u, (((Q0 a b).drop (i + 1)).map Value.string)[j]? = some u → w1.cell? (A.add j) = some u) ∧ Kp w9 w1 M MK ∧ w.heap.size ≤ w1.heap.size ∧
      ∀ v2 w2, w2.ownsRow w.heap.size 9 1 v2 (i + (L - (i + 1))) (((Q0 a b).take i).map .string ++ ((Q0 a b).drop (i + 1)).map .string) → w1.grownBy w2 v1.ownBlock → (v2.ownBlock = v1.ownBlock ∨ v2.ownBlock = some w1.heap.size) →
        ∃ o, (Instr.mapUpdate 43 (.map (some mb)) (.agg #[.int .i64 a, .int .i64 b]) v2).run Try.prog w2 = .ok () (setBlk w2 mb o) ∧ DRel w p mb (setBlk w2 mb o) ∧ Kp w9 w2 M MK ∧ Kp w9 (setBlk w2 mb o) M MK := by
  have hB := m.fr.size
  have hblk : ∀ r, r < w9.heap.size → ((w9.alloc (.cells #[] 9)).drew).heap[r]? = w9.heap[r]? := fun r hr => blk_alloc (w := w9) hr _
  have hML := lt_of_blk hM
  have hKL := lt_of_blk hK
  refine ⟨⟨⟨rfl, .inr ⟨w9.heap.size, 0, #[], rfl, hB, blk_alloc_new w9 _, Nat.le_refl _, Nat.zero_le _, rfl, rfl⟩⟩, fun j u hj => ?_, hblk M hML, hblk MK hKL⟩, ?_⟩
  · rw [Addr.add_lit, Nat.zero_add, World.cell?_of_block (hblk g hg)]
    rw [List.getElem?_map, List.getElem?_take] at hj
    split at hj
    · cases e : (Q0 a b)[j]? with
      | none => rw [e] at hj; simp at hj
      | some s => rw [e] at hj; simp at hj; subst hj; exact hc j s e
    · simp at hj
  · obtain ⟨A, hA, hsrc⟩ : ∃ A : Addr, (if cap = i + 1 then some (⟨g, 0, none⟩ : Addr) else some ⟨g, i + 1, none⟩) = some A ∧ ((A = ⟨g, i + 1, none⟩) ∨ cap = i + 1) := by
      by_cases h : cap = i + 1
      · exact ⟨_, if_pos h, .inr h⟩
      · exact ⟨_, if_neg h, .inl rfl⟩
    refine ⟨A, hA, fun v1 w1 h1 hg1 hl1 => ?_⟩
    rw [Nat.zero_add, List.nil_append] at h1
    have hs1 := hg1.size
    simp at hs1
    have hf1 : Fr (fun _ => False) w9 w1 := ((Fr.refl _ w9).alloc _).drew.grown hg1 fun k hk hlt => by simp at hk; omega
    have hv1 : ∀ k, v1.ownBlock = some k → w9.heap.size ≤ k := fun k hk => by
      rcases hl1 with e | e
      · rw [hk] at e; simp at e; omega
      · rw [hk] at e; simp at e; omega
    refine ⟨h1, fun j u hj => ?_, ⟨hf1.blk M hML id, hf1.blk MK hKL id⟩, Nat.le_trans hB hf1.size, fun v2 w2 h2 hg2 hl2 => ?_⟩
    · rw [List.getElem?_map, List.getElem?_drop] at hj
      rcases hsrc with rfl | hcp
      · rw [Addr.add_lit, World.cell?_of_block (hf1.blk g hg id)]
        cases e : (Q0 a b)[i + 1 + j]? with
        | none => rw [e] at hj; simp at hj
        | some s => rw [e] at hj; simp at hj; subst hj; exact hc _ s e
      · rw [List.getElem?_eq_none (by omega)] at hj
        simp at hj
    · have hf2 : Fr (fun _ => False) w9 w2 := hf1.grown hg2 fun k hk hlt => by have := hv1 k hk; omega
      refine DRel.put2 (n := i + (L - (i + 1))) m q h3 hl hr hS hM hK (hf2.mono fun _ _ h => h.elim) ?_ ?_ fun k hk => ?_
      · rw [List.length_eraseIdx, if_pos (by omega)]; omega
      · rw [List.eraseIdx_eq_take_drop_succ, List.map_append]; exact h2
      · right
        rcases hl2 with e | e
        · exact hv1 k (e ▸ hk)
        · rw [hk] at e; simp at e; have := hf1.size; omega
end Go.Proofs.Ytheogcihnclehaa
