/- The network of package net as it lies in memory, and what its parts keep of it. -/
import Derived.Test.YtheogcihnclehaaRows
import Derived.Test.YtheogcihnclehaaRow
import Derived.Deep.QuietTactic
import Derived.BigQuiet
import Derived.DeepKeys4
import Derived.WideKeyPair
namespace Go.Proofs.Ytheogcihnclehaa
open Go.RowKit Go.Pl Go.WideMaps

theorem Try.laidOut : laidOutB Try.prog = true := by kernel_rfl
theorem law45 : Maps.Keyed Try.prog 45 := Maps.Keyed.of_law (deep_law_laid Try.laidOut (m := 2) (by omega) (of_decide_eq_true (by kernel_rfl)) (by kernel_rfl) (by rw [Try.underlying45]))
theorem arr45 : ArrKey Try.prog 45 3 2 := ⟨Try.underlying45, by kernel_rfl, by kernel_rfl, by kernel_rfl⟩
theorem key45 {a b : Int} (wa : (Lit.int .i64 a).wf = true) (wb : (Lit.int .i64 b).wf = true) : ∃ l, keyOf Try.prog 45 (.agg #[.int .i64 a, .int .i64 b]) = some l :=
  ⟨_, keyOf_pair arr45 Try.underlying3 ⟨96, by kernel_rfl⟩ wa wb⟩

/-- The state of a network. -/
structure NetS where
  nodes : Int
  q : Int → Int → List ByteArray
  cut : Int → Int → Bool

def mval (m : Nat) (t : ByteArray) : Value := .slice (some ⟨m, 0, none⟩) t.size t.size
abbrev key (a b : Int) : Value := .agg #[.int .i64 a, .int .i64 b]
theorem key_inj {a b c d : Int} (h : key a b = key c d) : a = c ∧ b = d := by
  simp only [key, Value.agg.injEq] at h
  have := congrArg Array.toList h
  simp at this
  exact this

abbrev Roles := Nat → Option (Nat × Int × Int)

/-- The list of a queue: sl is its slice, bs are the blocks of its messages. -/
structure ListAt (w : World) (ρ : Roles) (a b : Int) (sl : Value) (bs : List Nat) (ts : List ByteArray) : Prop where
  len : bs.length = ts.length
  own : w.ownsRow 0 38 1 sl ts.length (List.zipWith mval bs ts)
  rsl : ∀ k, sl.ownBlock = some k → ρ k = some (4, a, b)
  nd : bs.Nodup
  role : ∀ m ∈ bs, ρ m = some (5, a, b)
  at_ : ∀ (i : Nat) (m : Nat) (t : ByteArray), bs[i]? = some m → ts[i]? = some t → w.heap[m]? = some (.cells (bytesOf t) 5 (0, 0))

def QAt (w : World) (ρ : Roles) (a b : Int) (x : Option Value) (ts : List ByteArray) : Prop :=
  (x = none ∧ ts = []) ∨ ∃ qb sl bs, x = some (.pointer (some ⟨qb, 0, none⟩)) ∧ ρ qb = some (3, a, b) ∧ w.heap[qb]? = some (.cells #[sl] 70 (0, 0)) ∧ ListAt w ρ a b sl bs ts

structure NetR (w : World) (p mq mc : Nat) (f g : Value → Option Value) (ρ : Roles) (S : NetS) : Prop where
  hp : w.heap[p]? = some (.cells #[.int .i64 S.nodes, .map (some mq), .map (some mc)] 60 (0, 0))
  rp : ρ p = some (0, 0, 0)
  rq : ρ mq = some (1, 0, 0)
  rc : ρ mc = some (2, 0, 0)
  hq : MapAt Try.prog 45 w mq f
  hc : MapAt Try.prog 45 w mc g
  hS : ∀ a b, QAt w ρ a b (f (key a b)) (S.q a b)
  hcut : ∀ a b, (g (key a b)).getD (.bool false) = .bool (S.cut a b)
  lt : ∀ r, ρ r ≠ none → r < w.heap.size
  nn : 1 ≤ S.nodes ∧ S.nodes ≤ 8
  sz : ∀ a b, ∀ t ∈ S.q a b, t.size ≤ 20000

abbrev Fp (ρ : Roles) : Nat → Prop := fun r => ρ r ≠ none
/-- The roles grow by new blocks alone. -/
def Grows (w : World) (ρ ρ' : Roles) : Prop := ∀ r, r < w.heap.size → ρ' r ≠ none → ρ r ≠ none

theorem ownsRow_of_blk {w w' : World} {base e size : Nat} {v : Value} {n : Nat} {xs : List Value} (h : w.ownsRow base e size v n xs)
    (hb : ∀ k, v.ownBlock = some k → w'.heap[k]? = w.heap[k]?) : w'.ownsRow base e size v n xs := by
  refine ⟨h.1, ?_⟩
  rcases h.2 with hn | ⟨g, cap, cur, rfl, h1, h2, r⟩
  · exact .inl hn
  · exact .inr ⟨g, cap, cur, rfl, h1, (hb g rfl).trans h2, r⟩

theorem ListAt.keep {w w' : World} {ρ ρ' : Roles} {a b : Int} {sl : Value} {bs : List Nat} {ts : List ByteArray} (h : ListAt w ρ a b sl bs ts)
    (hk : ∀ r, ρ r = some (4, a, b) ∨ ρ r = some (5, a, b) → w'.heap[r]? = w.heap[r]? ∧ ρ' r = ρ r) : ListAt w' ρ' a b sl bs ts where
  len := h.len
  own := ownsRow_of_blk h.own fun k e => (hk k (.inl (h.rsl k e))).1
  rsl k e := by rw [(hk k (.inl (h.rsl k e))).2]; exact h.rsl k e
  nd := h.nd
  role m hm := by rw [(hk m (.inr (h.role m hm))).2]; exact h.role m hm
  at_ i m t h1 h2 := by rw [(hk m (.inr (h.role m (List.mem_of_getElem? h1)))).1]; exact h.at_ i m t h1 h2

theorem QAt.keep {w w' : World} {ρ ρ' : Roles} {a b : Int} {x : Option Value} {ts : List ByteArray} (h : QAt w ρ a b x ts)
    (hk : ∀ r n, ρ r = some (n, a, b) → 3 ≤ n → w'.heap[r]? = w.heap[r]? ∧ ρ' r = ρ r) : QAt w' ρ' a b x ts := by
  rcases h with h | ⟨qb, sl, bs, rfl, h2, h3, h4⟩
  · exact .inl h
  · refine .inr ⟨qb, sl, bs, rfl, by rw [(hk qb 3 h2 (by omega)).2]; exact h2, by rw [(hk qb 3 h2 (by omega)).1]; exact h3, h4.keep ?_⟩
    rintro r (h | h)
    · exact hk r 4 h (by omega)
    · exact hk r 5 h (by omega)

/-- What a network is stays while other blocks are written. -/
theorem NetR.fr {w w' : World} {p mq mc f g ρ S} (h : NetR w p mq mc f g ρ S) {F : Nat → Prop} (hf : Fr F w w') (hd : ∀ r, ρ r ≠ none → ¬ F r) : NetR w' p mq mc f g ρ S where
  hp := hf.obj h.hp (hd p (by rw [h.rp]; simp))
  rp := h.rp
  rq := h.rq
  rc := h.rc
  hq := h.hq.fr hf (hd mq (by rw [h.rq]; simp))
  hc := h.hc.fr hf (hd mc (by rw [h.rc]; simp))
  hS a b := (h.hS a b).keep fun r n hr _ => ⟨hf.blk r (h.lt r (by rw [hr]; simp)) (hd r (by rw [hr]; simp)), rfl⟩
  hcut := h.hcut
  lt r hr := Nat.lt_of_lt_of_le (h.lt r hr) hf.size
  nn := h.nn
  sz := h.sz

/-- One queue turns, or comes to be, all else of the network stays. -/
theorem NetR.turn {w w' : World} {p mq mc f g ρ S} (h : NetR w p mq mc f g ρ S) {a b : Int} {ρ' : Roles} {f' : Value → Option Value} {ts : List ByteArray}
    (hsize : w.heap.size ≤ w'.heap.size)
    (hblk : ∀ r, r < w.heap.size → (ρ r = none ∨ (∃ n c d, ρ r = some (n, c, d) ∧ (n < 3 ∨ c ≠ a ∨ d ≠ b))) → r ≠ mq → w'.heap[r]? = w.heap[r]? ∧ ρ' r = ρ r)
    (hmq : MapAt Try.prog 45 w' mq f') (hρ : ρ' mq = ρ mq) (hlt : ∀ r, ρ' r ≠ none → r < w'.heap.size)
    (hf : ∀ c d, c ≠ a ∨ d ≠ b → f' (key c d) = f (key c d)) (hq : QAt w' ρ' a b (f' (key a b)) ts) (hts : ∀ t ∈ ts, t.size ≤ 20000) :
    NetR w' p mq mc f' g ρ' { S with q := fun c d => if c = a ∧ d = b then ts else S.q c d } where
  hp := by
    rw [(hblk p (h.lt p (by rw [h.rp]; simp)) (.inr ⟨0, 0, 0, h.rp, .inl (by omega)⟩) (fun e => by have := h.rp; rw [e, h.rq] at this; simp at this)).1]
    exact h.hp
  rp := by
    rw [(hblk p (h.lt p (by rw [h.rp]; simp)) (.inr ⟨0, 0, 0, h.rp, .inl (by omega)⟩) (fun e => by have := h.rp; rw [e, h.rq] at this; simp at this)).2]
    exact h.rp
  rq := hρ.trans h.rq
  rc := by
    rw [(hblk mc (h.lt mc (by rw [h.rc]; simp)) (.inr ⟨2, 0, 0, h.rc, .inl (by omega)⟩) (fun e => by have := h.rc; rw [e, h.rq] at this; simp at this)).2]
    exact h.rc
  hq := hmq
  hc := h.hc.of_blk (hblk mc (h.lt mc (by rw [h.rc]; simp)) (.inr ⟨2, 0, 0, h.rc, .inl (by omega)⟩) (fun e => by have := h.rc; rw [e, h.rq] at this; simp at this)).1
  hS c d := by
    by_cases e : c = a ∧ d = b
    · obtain ⟨rfl, rfl⟩ := e; simpa using hq
    · have e' : c ≠ a ∨ d ≠ b := by omega
      simp only [e, if_false, hf c d e']
      refine (h.hS c d).keep fun r n hr h3 => hblk r (h.lt r (by rw [hr]; simp)) (.inr ⟨n, c, d, hr, .inr e'⟩) (fun e2 => ?_)
      rw [e2, h.rq] at hr; simp at hr; omega
  hcut := h.hcut
  lt := hlt
  nn := h.nn
  sz c d t ht := by
    by_cases e : c = a ∧ d = b
    · simp only [e, and_self, if_true] at ht; exact hts t ht
    · simp only [e, if_false] at ht; exact h.sz c d t ht

def NetS.setq (S : NetS) (a b : Int) (ts : List ByteArray) : NetS := { S with q := fun c d => if c = a ∧ d = b then ts else S.q c d }
theorem NetS.setq_same (S : NetS) (a b : Int) (ts : List ByteArray) : (S.setq a b ts).q a b = ts := by simp [NetS.setq]

abbrev Ours (ρ : Roles) (a b : Int) : Nat → Prop := fun r => ∃ n, 3 ≤ n ∧ ρ r = some (n, a, b)
/-- One queue turns; its entry stays. -/
theorem NetR.turn' {w w' : World} {p mq mc f g ρ S} (h : NetR w p mq mc f g ρ S) {a b : Int} {ρ' : Roles} {ts : List ByteArray} (hfr : Fr (Ours ρ a b) w w')
    (hρ : ∀ r, r < w.heap.size → ¬ Ours ρ a b r → ρ' r = ρ r) (hlt : ∀ r, ρ' r ≠ none → r < w'.heap.size) (hq : QAt w' ρ' a b (f (key a b)) ts) (hts : ∀ t ∈ ts, t.size ≤ 20000) : NetR w' p mq mc f g ρ' (S.setq a b ts) := by
  have hmq : ¬ Ours ρ a b mq := by rintro ⟨n, h3, hr⟩; rw [h.rq] at hr; simp at hr; omega
  have hmlt := h.hq.lt
  refine h.turn hfr.size (fun r hr hcase hne => ?_) (h.hq.fr hfr hmq) (hρ mq hmlt hmq) hlt (fun _ _ _ => rfl) hq hts
  have hno : ¬ Ours ρ a b r := by
    rintro ⟨n, h3, hn⟩
    rcases hcase with hcase | ⟨n', c, d, hn', hh⟩
    · rw [hn] at hcase; cases hcase
    · rw [hn] at hn'; simp at hn'; omega
  exact ⟨hfr.blk r hr hno, hρ r hr hno⟩

theorem ownsRow_lt {w : World} {e : TypeId} {size : Nat} {v : Value} {n : Nat} {xs : List Value} (h : w.ownsRow 0 e size v n xs) : ∀ k, v.ownBlock = some k → k < w.heap.size := fun k hk => (h.lt k hk).2

/-- A message more. -/
theorem NetR.pushed {w w' : World} {p mq mc f g ρ S} (h : NetR w p mq mc f g ρ S) {a b : Int} {qb m : Nat} {sl v' : Value} {bs : List Nat} {t : ByteArray} (hf : f (key a b) = some (.pointer (some ⟨qb, 0, none⟩))) (hrq : ρ qb = some (3, a, b))
    (hl : ListAt w ρ a b sl bs (S.q a b)) (hown : w'.ownsRow 0 38 1 v' ((S.q a b).length + 1) (List.zipWith mval bs (S.q a b) ++ [mval m t]))
    (hloc : v'.ownBlock = sl.ownBlock ∨ ∃ k, v'.ownBlock = some k ∧ w.heap.size ≤ k ∧ k ≠ m) (hm : w.heap.size ≤ m) (hmt : w'.heap[m]? = some (.cells (bytesOf t) 5 (0, 0)))
    (hq' : w'.heap[qb]? = some (.cells #[v'] 70 (0, 0))) (hfr : Fr (fun r => r = qb ∨ some r = sl.ownBlock) w w') (hts : t.size ≤ 20000) :
    ∃ ρ', NetR w' p mq mc f g ρ' (S.setq a b (S.q a b ++ [t])) ∧ Grows w ρ ρ' := by
  have hmlt : m < w'.heap.size := lt_of_blk hmt
  have hqlt : qb < w.heap.size := h.lt qb (by rw [hrq]; simp)
  have hvlt := ownsRow_lt hown
  refine ⟨fun r => if r = m then some (5, a, b) else if w.heap.size ≤ r ∧ v'.ownBlock = some r then some (4, a, b) else ρ r, h.turn' (a := a) (b := b) (hfr.mono ?_) ?_ ?_ (.inr ⟨qb, v', bs ++ [m], hf, ?_, hq', ?_⟩) (fun u hu => (List.mem_append.1 hu).elim (h.sz a b u) (fun h => by simp at h; subst h; exact hts)), ?_⟩
  · rintro r hr (rfl | hrs)
    · exact ⟨3, by omega, hrq⟩
    · exact ⟨4, by omega, hl.rsl r hrs.symm⟩
  · intro r hr hno
    rw [if_neg (by omega), if_neg (by omega)]
  · intro r hr
    by_cases e : r = m
    · omega
    · rw [if_neg e] at hr
      by_cases e2 : w.heap.size ≤ r ∧ v'.ownBlock = some r
      · exact hvlt r e2.2
      · rw [if_neg e2] at hr
        exact Nat.lt_of_lt_of_le (h.lt r hr) hfr.size
  · dsimp only; rw [if_neg (by omega), if_neg (by omega)]; exact hrq
  · have hold : ∀ r, ρ r = some (4, a, b) ∨ ρ r = some (5, a, b) → r < w.heap.size := fun r hr => h.lt r (by rcases hr with hr | hr <;> rw [hr] <;> simp)
    refine ⟨by simp [hl.len], ?_, ?_, ?_, ?_, ?_⟩
    · rw [List.zipWith_append hl.len, List.length_append]; exact hown
    · intro k hk
      rcases hloc with hv | ⟨k', hv, h1, h2⟩
      · have := hl.rsl k (hv ▸ hk)
        have h2 := hold k (.inl this)
        rw [if_neg (by omega), if_neg (by omega)]; exact this
      · rw [hv] at hk; cases hk
        rw [if_neg h2, if_pos ⟨h1, hv⟩]
    · rw [List.nodup_append]
      refine ⟨hl.nd, by simp, fun x hx y hy => ?_⟩
      simp at hy; subst hy
      have := hold x (.inr (hl.role x hx)); omega
    · intro x hx
      rcases List.mem_append.1 hx with hx | hx
      · have h1 := hl.role x hx
        have := hold x (.inr h1)
        rw [if_neg (by omega), if_neg (by omega)]; exact h1
      · simp at hx; subst hx; simp
    · intro i x u hx hu
      rw [List.getElem?_append] at hx hu
      rw [hl.len] at hx
      split at hx
      · rename_i hi
        rw [if_pos hi] at hu
        have hr := hl.role x (List.mem_of_getElem? hx)
        have hlt := hold x (.inr hr)
        rw [hfr.blk x hlt ?_]
        · exact hl.at_ i x u hx hu
        · rintro (rfl | hs)
          · rw [hrq] at hr; simp at hr
          · have := hl.rsl x hs.symm
            rw [this] at hr; simp at hr
      · rename_i hi
        rw [if_neg hi] at hu
        have h0 : i - (S.q a b).length = 0 := by
          have := (List.getElem?_eq_some_iff.1 hx).1
          simpa using this
        rw [h0] at hx hu
        simp at hx hu
        subst hx; subst hu
        exact hmt
  · intro r hr hne
    dsimp only at hne
    rw [if_neg (by omega), if_neg (by omega)] at hne
    exact hne

theorem ListAt.cells {w : World} {ρ : Roles} {a b : Int} {sl : Value} {bs : List Nat} {ts : List ByteArray} (h : ListAt w ρ a b sl bs ts) :
    (sl = .slice none 0 0 ∧ ts = []) ∨ ∃ gb cap cur, sl = .slice (some ⟨gb, 0, none⟩) ts.length cap ∧ w.heap[gb]? = some (.cells cur 38 (0, 0)) ∧ ts.length ≤ cap ∧ cap ≤ maxLen ∧ cur.size = cap ∧ cur.toList.take ts.length = List.zipWith mval bs ts := by
  rcases h.own.2 with ⟨h1, h2⟩ | ⟨gb, cap, cur, h1, _, h2, h3, h4, h5, h6⟩
  · exact .inl ⟨h1, List.eq_nil_of_length_eq_zero h2⟩
  · exact .inr ⟨gb, cap, cur, h1, h2, h3, h4, by omega, by simpa using h6⟩

/-- A message less. -/
theorem NetR.took {w w' : World} {p mq mc f g ρ S} (h : NetR w p mq mc f g ρ S) {a b : Int} {qb gb cap i : Nat} {cur' : Array Value} {bs : List Nat} (hf : f (key a b) = some (.pointer (some ⟨qb, 0, none⟩))) (hrq : ρ qb = some (3, a, b))
    (hl : ListAt w ρ a b (.slice (some ⟨gb, 0, none⟩) (S.q a b).length cap) bs (S.q a b)) (hi : i < (S.q a b).length) (hle : (S.q a b).length ≤ cap) (hcm : cap ≤ maxLen)
    (hg' : w'.heap[gb]? = some (.cells cur' 38 (0, 0))) (hs' : cur'.size = cap) (ht' : cur'.toList.take ((S.q a b).length - 1) = (List.zipWith mval bs (S.q a b)).eraseIdx i)
    (hq' : w'.heap[qb]? = some (.cells #[.slice (some ⟨gb, 0, none⟩) ((S.q a b).length - 1) cap] 70 (0, 0))) (hfr : Fr (fun r => r = qb ∨ r = gb) w w') :
    NetR w' p mq mc f g ρ (S.setq a b ((S.q a b).eraseIdx i)) := by
  have hrg : ρ gb = some (4, a, b) := hl.rsl gb rfl
  have hlen : ((S.q a b).eraseIdx i).length = (S.q a b).length - 1 := by rw [List.length_eraseIdx]; simp [hi]
  refine h.turn' (a := a) (b := b) (hfr.mono ?_) (fun _ _ _ => rfl) (fun r hr => Nat.lt_of_lt_of_le (h.lt r hr) hfr.size) (.inr ⟨qb, _, bs.eraseIdx i, hf, hrq, hq', ?_⟩) (fun u hu => h.sz a b u (List.mem_of_mem_eraseIdx hu))
  · rintro r hr (rfl | rfl)
    · exact ⟨3, by omega, hrq⟩
    · exact ⟨4, by omega, hrg⟩
  · refine ⟨by rw [List.length_eraseIdx, List.length_eraseIdx, hl.len], ?_, ?_, hl.nd.eraseIdx _, ?_, ?_⟩
    · have hz : ∀ (i : Nat) (bs : List Nat) (ts : List ByteArray), (List.zipWith mval bs ts).eraseIdx i = List.zipWith mval (bs.eraseIdx i) (ts.eraseIdx i) := by
        intro i
        induction i with
        | zero => intro bs ts; cases bs <;> cases ts <;> simp
        | succ i ih =>
          intro bs ts
          cases bs with
          | nil => simp
          | cons x bs =>
            cases ts with
            | nil => simp
            | cons y ts => simp [ih]
      rw [hlen]
      refine ⟨?_, .inr ⟨gb, cap, cur', rfl, Nat.zero_le _, hg', by omega, hcm, by omega, ?_⟩⟩
      · rw [← hz, List.length_eraseIdx]; simp [hl.len, hi]
      · rw [Nat.mul_one, ht', hz]
    · intro k hk
      cases hk; exact hrg
    · intro m hm
      exact hl.role m (List.mem_of_mem_eraseIdx hm)
    · intro j m t hm ht
      have hr := hl.role m (List.mem_of_mem_eraseIdx (List.mem_of_getElem? hm))
      rw [hfr.blk m (h.lt m (by rw [hr]; simp)) ?_]
      · rw [List.getElem?_eraseIdx] at hm ht
        split at hm
        · rename_i hj; rw [if_pos hj] at ht; exact hl.at_ j m t hm ht
        · rename_i hj; rw [if_neg hj] at ht; exact hl.at_ (j + 1) m t hm ht
      · rintro (rfl | rfl)
        · rw [hrq] at hr; simp at hr
        · rw [hrg] at hr; simp at hr

/-- A message spoilt. -/
theorem NetR.spoilt {w w' : World} {p mq mc f g ρ S} (h : NetR w p mq mc f g ρ S) {a b : Int} {qb i m : Nat} {sl : Value} {bs : List Nat} {t' : ByteArray} (hf : f (key a b) = some (.pointer (some ⟨qb, 0, none⟩))) (hrq : ρ qb = some (3, a, b))
    (hq : w.heap[qb]? = some (.cells #[sl] 70 (0, 0))) (hl : ListAt w ρ a b sl bs (S.q a b)) (hm : bs[i]? = some m) (hsz : ∀ t, (S.q a b)[i]? = some t → t'.size = t.size)
    (hm' : w'.heap[m]? = some (.cells (bytesOf t') 5 (0, 0))) (hfr : Fr (fun r => r = m) w w') :
    NetR w' p mq mc f g ρ (S.setq a b ((S.q a b).set i t')) := by
  have hrm : ρ m = some (5, a, b) := hl.role m (List.mem_of_getElem? hm)
  have hil : i < bs.length := (List.getElem?_eq_some_iff.1 hm).1
  refine h.turn' (a := a) (b := b) (hfr.mono ?_) (fun _ _ _ => rfl) (fun r hr => Nat.lt_of_lt_of_le (h.lt r hr) hfr.size) (.inr ⟨qb, sl, bs, hf, hrq, ?_, ?_⟩) (fun u hu => by
    rcases List.mem_or_eq_of_mem_set hu with hu | rfl
    · exact h.sz a b u hu
    · have hil' : i < (S.q a b).length := by rw [← hl.len]; exact hil
      rw [hsz _ (List.getElem?_eq_getElem hil')]; exact h.sz a b _ (List.getElem_mem hil'))
  · rintro r hr rfl
    exact ⟨5, by omega, hrm⟩
  · rw [hfr.blk qb (h.lt qb (by rw [hrq]; simp)) (by rintro rfl; rw [hrm] at hrq; simp at hrq)]; exact hq
  · refine ⟨by simp [hl.len], ?_, hl.rsl, hl.nd, hl.role, ?_⟩
    · have hz : List.zipWith mval bs ((S.q a b).set i t') = List.zipWith mval bs (S.q a b) := by
        apply List.ext_getElem?
        intro j
        simp only [List.getElem?_zipWith, List.getElem?_set]
        by_cases hij : i = j
        · subst hij
          have hil' : i < (S.q a b).length := by rw [← hl.len]; exact hil
          simp only [hm, hil', if_true, List.getElem?_eq_getElem hil']
          simp [mval, hsz _ (List.getElem?_eq_getElem hil')]
        · rw [if_neg hij]
      rw [hz, List.length_set]
      refine ownsRow_of_blk hl.own fun k hk => ?_
      have hrk := hl.rsl k hk
      exact hfr.blk k (h.lt k (by rw [hrk]; simp)) (by rintro rfl; rw [hrm] at hrk; simp at hrk)
    · intro j x u hx hu
      rw [List.getElem?_set] at hu
      by_cases hij : i = j
      · subst hij
        rw [hm] at hx; cases hx
        split at hu
        · rename_i h2; simp at hu; obtain ⟨_, rfl⟩ := hu; exact hm'
        · rename_i h2; exact absurd rfl h2
      · rw [if_neg hij] at hu
        have hxm : x ≠ m := by
          rintro rfl
          exact hij ((List.getElem?_inj hil hl.nd).1 (hm.trans hx.symm))
        have hrx := hl.role x (List.mem_of_getElem? hx)
        rw [hfr.blk x (h.lt x (by rw [hrx]; simp)) hxm]
        exact hl.at_ j x u hx hu

/-- A network's state, closed. -/
def NetAt (w : World) (p : Nat) (ρ : Roles) (S : NetS) : Prop := ∃ mq mc f g, NetR w p mq mc f g ρ S
/-- How each of a network's methods ends. -/
def NPost (p : Nat) (ρ : Roles) (S' : NetS) (v : Value) (w : World) (e : Ending) (w' : World) : Prop := e = .returned v ∧ ∃ ρ', NetAt w' p ρ' S' ∧ Fr (Fp ρ) w w' ∧ Grows w ρ ρ'

def NetS.right (S : NetS) (a b : Int) : Prop := 0 ≤ a ∧ 0 ≤ b ∧ a < S.nodes ∧ b < S.nodes ∧ a ≠ b
instance (S : NetS) (a b : Int) : Decidable (S.right a b) := by unfold NetS.right; infer_instance
def NetS.sendE (S : NetS) (a b : Int) (t : ByteArray) : Int := if ¬ S.right a b then 1 else if S.cut a b = true then 20 else if 20000 < t.size then 2 else if 100 ≤ (S.q a b).length then 21 else 0
def NetS.send (S : NetS) (a b : Int) (t : ByteArray) : NetS := if S.sendE a b t = 0 then S.setq a b (S.q a b ++ [t]) else S
def NetS.at_ (S : NetS) (a b i : Int) : Option ByteArray := if 0 ≤ i then (S.q a b)[i.toNat]? else none
def NetS.drop (S : NetS) (a b i : Int) : NetS := S.setq a b ((S.q a b).eraseIdx i.toNat)
def NetS.deliverE (S : NetS) (a b i : Int) : Int := if ¬ S.right a b then 1 else if S.cut a b = true then 20 else match S.at_ a b i with | none => 11 | some _ => 0
def NetS.deliverT (S : NetS) (a b i : Int) : ByteArray := if S.deliverE a b i = 0 then (S.at_ a b i).getD ByteArray.empty else ByteArray.empty
def NetS.deliver (S : NetS) (a b i : Int) (again : Bool) : NetS := if S.deliverE a b i = 0 ∧ again = false then S.drop a b i else S
def NetS.loseE (S : NetS) (a b i : Int) : Int := if ¬ S.right a b then 1 else match S.at_ a b i with | none => 11 | some _ => 0
def NetS.lose (S : NetS) (a b i : Int) : NetS := if S.loseE a b i = 0 then S.drop a b i else S
def spoilT (t : ByteArray) (at_ : Nat) (mask : Int) : ByteArray := ⟨t.data.modify at_ fun x => x ^^^ UInt8.ofNat mask.toNat⟩
def NetS.spoilE (S : NetS) (a b i at_ mask : Int) : Int := if ¬ S.right a b ∨ mask < 1 ∨ 255 < mask then 1 else match S.at_ a b i with | none => 11 | some t => if at_ < 0 ∨ (t.size : Int) ≤ at_ then 11 else 0
def NetS.spoil (S : NetS) (a b i at_ mask : Int) : NetS := if S.spoilE a b i at_ mask = 0 then S.setq a b ((S.q a b).set i.toNat (spoilT ((S.at_ a b i).getD ByteArray.empty) at_.toNat mask)) else S
def NetS.cutE (S : NetS) (a b : Int) : Int := if S.right a b then 0 else 1
def NetS.cutOff (S : NetS) (a b : Int) (off : Bool) : NetS := if S.right a b then { S with cut := fun c d => if c = a ∧ d = b ∨ c = b ∧ d = a then off else S.cut c d } else S
def NetS.count (S : NetS) (a b : Int) : Int := if S.right a b then (S.q a b).length else 0
def NetS.new (n : Int) : NetS := ⟨n, fun _ _ => [], fun _ _ => false⟩
end Go.Proofs.Ytheogcihnclehaa
