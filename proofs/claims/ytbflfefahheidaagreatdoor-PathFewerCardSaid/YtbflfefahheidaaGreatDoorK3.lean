/- Part 3 of the proof: the texts Rf, Ro, Rc, V2, V3, Pc, Pd, Pe, Pf, Pg, U1, U2, Srt0, Sr, U3, U4, U5. -/
import Derived.Test.YtbflfefahheidaaGreatDoorK2
import Derived.Recover
import Derived.Defers
import Derived.DeepKeys5
import Derived.DeepKeys4
import Derived.Shelf.SlSortCmp.NoneTotal
import Derived.Ground.SlsfProg
import Derived.Shelf.SlGeneric
import Derived.Test.YtbflfefahheidaaGreatDoorProg
/- Iterators, and loops over them: places, rounds, marks. Over whatever program. -/
set_option linter.unusedVariables false
set_option linter.unusedSimpArgs false
namespace Go.Pl
open Go.RowKit
/-! ### yields -/
section
variable {P : Program} {B : Code} {R : Pst} {ds : List Deferred} {n : Nat} {p : Option (Nat × Nat)} {L N : Frm} {w w0 : World} {r' i' : Nat} {F : List Ft} {F0 : Nat → Prop} {M : List Ent}
/-- What a round leaves of an entry. -/
def RndP (J : Nat → Ent → Prop) (k : Nat) (e : Ent) (w w' : World) : Prop := ∃ e', J (k + 1) e' ∧ e'.H w' ∧ (∀ b, e'.B b → e.B b ∨ w.heap.size ≤ b) ∧ Fr e.B w w'
theorem wf_yield {rd : Option Nat} {o : Oper} {a : Act} {l : Nat} {args : Array Value} {K : Act → World → Prop} {Q : Exit → Act → World → Prop} {Rt Rs : World → Prop} (hrun : ∀ fn tmps sg bd, (Instr.yield l args).run P w = .ok (.round l fn tmps sg bd) w → (execOp a.eval o).run P w = .ok (.round l fn tmps sg bd) w) (hR : RoundOf P l args w Rt Rs)
  (kt : ∀ w', Rt w' → K (a.put o.dst (.bool true)) w') (kf : ∀ w', Rs w' → K (a.put o.dst (.bool false)) w') : o.wpIn (fen rd) 0 P a w K Q := by
 obtain ⟨m', fn, tmps, sg, bd, hrun1, hFn, hround⟩ := hR
 refine ⟨fun _ _ => trivial, ?_⟩
 show Oper.uponIn _ _ _ _ _ _ _ ((o.semAt rd a.eval).run P w)
 rw [sem_fen (hrun _ _ _ _ hrun1) (by intro d h; cases h)]
 refine ⟨fun h => (by cases h), trivial, fun c cs _ => ?_⟩
 obtain ⟨e2, w2, h, h3⟩ := hround c cs (room_wide _)
 rcases h with ⟨rfl, h2⟩ | ⟨rfl, h2⟩
 ·exact ⟨.returned (.bool true), w2, kt w2 h2, h3⟩
 ·exact ⟨.returned (.bool false), w2, kf w2 h2, h3⟩
/-- A call of yield. -/
theorem yld (r' i' d : Nat) (N : Frm) (ts : Array TypeId) {l : Nat} {v : Value} {J : Nat → Ent → Prop} {S : World → Prop} {j k : Nat} {e : Ent} (hd : d < n) (hF : AllF P w F) (hM : Mm F0 w0 w M) (hj : M[j]? = some e) (hR : RoundOf P l #[v] w (RndP J k e w) S)
  (kt : ∀ e' w', J (k + 1) e' → Mm F0 w0 w' (M.set j e') → AtO P B R ds n (some (r', i' + 1)) ((d, .bool true) :: (N ++ L)) w')
  (kf : ∀ w', S w' → AtO P B R ds n (some (r', i' + 1)) ((d, .bool false) :: (N ++ L)) w')
  (h : (lhs (go P w n B p L r' i' F) N L, twoL (go P w n B p L r' i' F) n L (fun x y => .call ⟨.value x, #[y], ts⟩)) = (rhs (go P w n B p L r' i' F) N B r' i', twoR (go P w n B p L r' i' F) n L (fun x y => .call ⟨.value x, #[y], ts⟩) (some d) false (.func (.yield l) #[] #[]) v) := by kernel_rfl) : AtO P B R ds n p L w :=
 two_at hF h fun O kk o ll a x y hf hd1 E hdd hg hw ho hx hy => by
  have hdr : O.toList.drop (i' + 1) = ll := by rw [← List.tail_drop, hd1]; rfl
  refine sf_op hw (wf_yield (fun _ _ _ _ h => run_yieldc ho hx hy h) hR (fun w' hw' => ?_) fun w' hw' => ?_)
  ·obtain ⟨e', h1, h2, h3, h4⟩ := hw'
   obtain ⟨O1, dr, k1, hf1, hk⟩ := kt e' w' h1 (hM.put j hj h4 (fun _ _ h => h) h2 h3)
   rw [hf] at hf1
   cases hf1
   have := hk _ (E.put (v := .bool true) hd)
   rw [hdd, ← hdr]; exact this
  ·obtain ⟨O1, dr, k1, hf1, hk⟩ := kf w' hw'
   rw [hf] at hf1
   cases hf1
   have := hk _ (E.put (v := .bool false) hd)
   rw [hdd, ← hdr]; exact this
end
/-- What an iterator owes: it yields vs in order, as9 long as9 no round stops it; between the rounds the consumer's memory is an entry. -/
def IterE (P : Program) (gf : Nat) (lb : Array Value) (vs : List (Array Value)) (Kp : (Nat → Prop) → World → Prop) : Prop :=
 ∀ (l : Nat) (J : Nat → Ent → Prop) (S : World → Prop) (W0 : World) (e0 : Ent), J 0 e0 → e0.H W0 → Kp e0.B W0 → (∀ W W', S W → Fr (fun _ => False) W W' → S W') →
  (∀ k e v W, J k e → e.H W → Fr e0.B W0 W → vs[k]? = some v → RoundOf P l v W (RndP J k e W) S) →
  Calls P gf (#[.func (.yield l) #[] #[]] ++ lb) W0 fun x W' => (∃ v, x = .returned v) ∧ ((∃ e, J vs.length e ∧ e.H W' ∧ Fr e0.B W0 W') ∨ S W')
/-- The same, for the consumers that ok admits. -/
def IterS (P : Program) (gf : Nat) (lb : Array Value) (vs : List (Array Value)) (Kp : (Nat → Prop) → World → Prop) (ok : (World → Prop) → Prop) : Prop :=
 ∀ (l : Nat) (J : Nat → Ent → Prop) (S : World → Prop) (W0 : World) (e0 : Ent), ok S → J 0 e0 → e0.H W0 → Kp e0.B W0 → (∀ W W', S W → Fr (fun _ => False) W W' → S W') →
  (∀ k e v W, J k e → e.H W → Fr e0.B W0 W → vs[k]? = some v → RoundOf P l v W (RndP J k e W) S) →
  Calls P gf (#[.func (.yield l) #[] #[]] ++ lb) W0 fun x W' => (∃ v, x = .returned v) ∧ ((∃ e, J vs.length e ∧ e.H W' ∧ Fr e0.B W0 W') ∨ S W')
/-- An iterator for consumers that never stop it. -/
abbrev IterF (P : Program) (gf : Nat) (lb : Array Value) (vs : List (Array Value)) (Kp : (Nat → Prop) → World → Prop) : Prop := IterS P gf lb vs Kp fun S => ∀ W, ¬ S W
/-- The iterator's memory at its beginning: the consumer's alone. -/
theorem Mm.one {W : World} {e : Ent} (h : e.H W) : Mm e.B W W [e] := ⟨Fr.refl _ _, fun x hx => by rw [List.mem_singleton] at hx; subst hx; exact h, fun x hx k hk _ => by rw [List.mem_singleton] at hx; subst hx; exact hk, List.pairwise_singleton _ _⟩
/-! ### loops over an iterator -/
/-- A deferred call's block without a call. -/
def dfE (D : Nat) : Ent where
 B := fun k => k = D
 H := fun w => w.heap[D]? = some (.deferred (some []))
 lt := fun h e => by subst e; exact lt_of_blk h
 fr := fun h f hd => f.obj h (hd _ rfl)
/-- Entries, and the loop's own two blocks, as9 one. -/
def joinE (M : List Ent) (D l : Nat) (r : Loop) : Ent where
 B := fun k => BlM M k ∨ k = D ∨ k = l
 H := fun w => (∀ e ∈ M, e.H w) ∧ w.heap[D]? = some (.deferred (some [])) ∧ w.heap[l]? = some (.loop r)
 lt := fun h e => by
  rcases e with ⟨x, hx, hk⟩ | rfl | rfl
  ·exact x.lt (h.1 x hx) hk
  ·exact lt_of_blk h.2.1
  ·exact lt_of_blk h.2.2
 fr := fun h f hd => ⟨fun e he => e.fr (h.1 e he) f fun k hk => hd k (.inl ⟨e, he, hk⟩), f.obj h.2.1 (hd _ (.inr (.inl rfl))), f.obj h.2.2 (hd _ (.inr (.inr rfl)))⟩
def rfOf (q : Nat) : Code → Option (Operand × Array Tmp × Code × Code)
 | .seq x y => match rfOf q x with | some z => some z | none => rfOf q y
 | .cond _ x y => match rfOf q x with | some z => some z | none => rfOf q y
 | .block _ c => rfOf q c
 | .loop c => rfOf q c
 | .scope c => rfOf q c
 | .rangeFunc g ps sg bd => bif Nat.beq q (1000 + firstR sg) then some (g, ps, sg, bd) else none
 | _ => none
def asOf (q : Nat) (B : Code) : Code := match rfOf q B with | some (_, _, sg, _) => sg | none => .skip
def bdOf (q : Nat) (B : Code) : Code := match rfOf q B with | some (_, _, _, bd) => bd | none => .skip
section
variable {P : Program} {B : Code} {ds : List Deferred} {n : Nat} {L : Frm} {w w0 : World} {F0 : Nat → Prop} {M : List Ent} {Qf : Exit → Act → World → Prop}
theorem zip_env {ds : List Deferred} {n : Nat} {L : Frm} : ∀ {ps : List Nat} {vs : List Value} {t : Array Value}, EnvS [] n L { tmps := t, defers := [] } → ps.length = vs.length → (∀ p ∈ ps, p < n) → EnvS [] n ((ps.zip vs).reverse ++ L) { tmps := (ps.zip vs).foldl (fun t (p, v) => t.setIfInBounds p v) t, defers := [] }
 | [], vs, t, E, h, _ => by simpa using E
 | p :: ps, [], t, E, h, _ => by simp at h
 | p :: ps, v :: vs, t, E, h, hp => by
  have E1 := E.put (v := v) (hp p (by simp))
  have E2 : EnvS [] n ((p, v) :: L) { tmps := t.setIfInBounds p v, defers := [] } := E1
  have := zip_env (ds := ds) E2 (by simpa using h) fun x hx => hp x (List.mem_cons_of_mem _ hx)
  simpa [List.zip_cons_cons, List.reverse_cons, List.append_assoc] using this
/-- What is to hold at a round's end: entries as9 asked for a further round, or a return. -/
structure REnd (P : Program) (I : Nat → List Ent → Prop) (T : List Ent → Prop) (k : Nat) (M1 : List Ent) (W : World) (l : Nat) (R : Pst) : Prop where
 rd : R.rd = some l
 nrm : ∀ a M' W', I (k + 1) M' → Mm (BlM M1) W W' M' → R.q .normal a W'
 ret : ∀ a M' W', T M' → Mm (BlM M1) W W' M' → R.q .ret a W'
/-- What the variables' assigning leaves, and the body from there on. -/
def RAs (P : Program) (bd : Code) (n : Nat) (F0 : Nat → Prop) (w0 : World) (I : Nat → List Ent → Prop) (T : List Ent → Prop) (k : Nat) (Mk : List Ent) (W : World) : Exit → Act → World → Prop
 | .normal, a, W1 => ∃ Lb M1, EnvS [] n Lb a ∧ Mm (BlM Mk) W W1 M1 ∧ ∀ W2 l R, Fr F0 w0 W2 → Mm (BlM M1) W2 W2 M1 → REnd P I T k M1 W2 l R → AtO P bd R [] n none Lb W2
 | _, _, _ => False
theorem rngfS {ok : (World → Prop) → Prop} (q : Nat) {g : Operand} {ps : Array Tmp} {gf : Nat} {lb : Array Value} {vs : List (Array Value)} {Kp : (Nat → Prop) → World → Prop} (I : Nat → List Ent → Prop) (T : List Ent → Prop)
  (hM : Mm F0 w0 w M) (h0 : I 0 M) (eg : Ent1 P gf) (hY : IterS P gf lb vs Kp ok) (hok : ∀ S : World → Prop, (∀ W, S W → ∃ M', T M') → ok S)
  (hK : ∀ (G : Nat → Prop) W, (∀ k, G k → BlM M k ∨ w.heap.size ≤ k) → Fr (fun _ => False) w W → Kp G W)
  (hps : ∀ v ∈ vs, v.size = ps.size)
  (hround : ∀ k v Mk W l, vs[k]? = some v → I k Mk → Fr F0 w0 W → Mm (BlM Mk) W W Mk → AtO P (asOf (1000 + q) B) ⟨RAs P (bdOf (1000 + q) B) n F0 w0 I T k Mk W, some l⟩ [] n none ((ps.toList.zip v.toList).reverse ++ L) W)
  (hdone : ∀ M' W', I vs.length M' → Mm F0 w0 W' (M' ++ [dfE w.heap.size]) → AtO P B ⟨Qf, none⟩ (mkD w.heap.size :: ds) n (some (2000 + q, 0)) L W')
  (hstop : ∀ a M' W', T M' → Mm F0 w0 W' (M' ++ [dfE w.heap.size]) → EnvS (mkD w.heap.size :: ds) n L a → Qf .ret a W')
  (h : (match findR (1000 + q) B [], findR (2000 + q) B [], rfOf (1000 + q) B with
   | some (O, dr, .seq (.rangeFunc g1 ps1 as1 bd1) :: k1), some (O2, dr2, k2), some (g2, ps2, as2, bd2) => some (O, dr, O2, dr2, [Kon.seq (.rangeFunc g1 ps1 as1 bd1)], k1, opv L g1, ps.toList.all fun p => Nat.blt p n)
   | _, _, _ => none) = (match findR (1000 + q) B [], findR (2000 + q) B [], rfOf (1000 + q) B with
   | some (O, dr, .seq (.rangeFunc g1 ps1 as1 bd1) :: k1), some (O2, dr2, k2), some (g2, ps2, as2, bd2) => some (#[], false, #[], false, [Kon.seq (.rangeFunc g ps as2 bd2)], k2, some (.func (.func gf) #[] lb), true)
   | _, _, _ => some (#[], false, #[], false, [], [], none, true)) := by kernel_rfl) : AtO P B ⟨Qf, none⟩ ds n (some (1000 + q, 0)) L w := by
 split at h
 rotate_left
 ·cases h
 rename_i O dr g1 ps1 as1 bd1 k1 O2 dr2 k2 g2 ps2 as2 bd2 h1 h2 h3
 simp only [Option.some.injEq, Prod.mk.injEq, List.cons.injEq, Kon.seq.injEq, Code.rangeFunc.injEq, and_true] at h
 obtain ⟨rfl, rfl, rfl, rfl, ⟨rfl, rfl, rfl, rfl⟩, rfl, hg, hpn⟩ := h
 refine ⟨_, _, _, h1, fun a E => ?_⟩
 have hasO : asOf (1000 + q) B = as1 := by unfold asOf; rw [h3]
 have hbdO : bdOf (1000 + q) B = bd1 := by unfold bdOf; rw [h3]
 rw [hasO, hbdO] at hround
 show (Code.rangeFunc g1 ps1 as1 bd1).wpIn (fen none) 0 P (post P ⟨Qf, none⟩ k1) a w
 have hga : a.eval g1 = .func (.func gf) #[] lb := E.opv hg
 have hblt : ∀ b, BlM M b → b < w.heap.size := fun b ⟨x, hx, hb⟩ => x.lt (hM.at_ x hx) hb
 refine wpIn_rangeFunc ?_
 intro fn hfn
 obtain ⟨rec, hrec⟩ : ∃ rec : LoopState → Option Code → Loop, rec = fun st pe => { state := st, pending := pe, fn, tmps := a.tmps, params := ps1, assign := as1, body := bd1, defers := w.heap.size } := ⟨_, rfl⟩
 obtain ⟨W1, hW1⟩ : ∃ W1, (w.alloc (.deferred (some []))).alloc (.loop (rec .ready none)) = W1 := ⟨_, rfl⟩
 have hL1 : W1.heap[w.heap.size + 1]? = some (.loop (rec .ready none)) := by
  rw [← hW1]; exact blk_alloc_at (by simp) _
 have hK1 : W1.heap[w.heap.size]? = some (.deferred (some [])) := by
  rw [← hW1]; exact (blk_alloc (by simp) _).trans (blk_alloc_new _ _)
 have hf1 : Fr (fun _ => False) w W1 := by rw [← hW1]; exact ((Fr.refl _ _).alloc _).alloc _
 have hsz1 : w.heap.size + 2 ≤ W1.heap.size := by have := lt_of_blk hL1; omega
 obtain ⟨e0, he0⟩ : ∃ e0, joinE M w.heap.size (w.heap.size + 1) (rec .ready none) = e0 := ⟨_, rfl⟩
 have hM1 := hM.q hf1
 have hF0 : ∀ W, Fr e0.B W1 W → Fr F0 w0 W := fun W f => hM1.fr.trans' f fun r hr hb => by
  rw [← he0] at hb
  have := hM.fr.size
  rcases hb with ⟨x, hx, hk⟩ | rfl | rfl
  ·exact hM.own x hx r hk hr
  ·omega
  ·omega
 refine ⟨w.heap.size + 1, [{ target := .collected w.heap.size, args := #[] }], W1, { target := .fn (.func gf) lb, args := #[.func (.yield (w.heap.size + 1)) #[] #[]] }, W1, gf,
  #[.func (.yield (w.heap.size + 1)) #[] #[]] ++ lb, W1, ?_, ?_, fun _ _ => trivial, ?_, fun h => (by cases h), ?_⟩
 ·rw [← hW1, hrec]; exact run_enterLoop_outer _ _ _ _ _
 ·simp only [resolve, hga]
  simp [go_sem]
 ·have := eg (#[.func (.yield (w.heap.size + 1)) #[] #[]] ++ lb) W1
  simp [invoke, go_sem, this]
 refine calls_fen ((hY (w.heap.size + 1) (fun k e => ∃ Mk, I k Mk ∧ Mk.Pairwise (fun x y => ∀ k, x.B k → ¬ y.B k) ∧ (∀ b, BlM Mk b → (BlM M b ∨ w.heap.size + 2 ≤ b)) ∧ e = joinE Mk w.heap.size (w.heap.size + 1) (rec .ready none))
   (fun W => ∃ M', T M' ∧ Mm F0 w0 W (M' ++ [dfE w.heap.size]) ∧ W.heap[w.heap.size + 1]? = some (.loop (rec .done (some .ret))) ∧ (∀ b, BlM M' b → b ≠ w.heap.size + 1)) W1 e0 (hok _ fun W ⟨M', h, _⟩ => ⟨M', h⟩)
   ⟨M, h0, hM.nd, fun b hb => .inl hb, he0.symm⟩ (by rw [← he0]; exact ⟨hM1.at_, hK1, hL1⟩) (hK _ _ (fun k hk => by
    rw [← he0] at hk
    rcases hk with h | rfl | rfl
    ·exact .inl h
    ·exact .inr (Nat.le_refl _)
    ·exact .inr (by omega)) hf1) (fun W W' ⟨M', h1, h2, h3, h4⟩ f => ⟨M', h1, h2.q f, f.obj h3 id, h4⟩) ?_).mono ?_)
 ·rintro k e v W ⟨Mk, hI, hnd, hsub, rfl⟩ ⟨hat, hkD, hl⟩ hfW hv
  have hvm : v ∈ vs := List.mem_of_getElem? hv
  have hlt := lt_of_blk hl
  have hy := run_yield (P := P) (args := v) hl (by rw [hrec]; exact hps v hvm)
  rw [hrec] at hy
  have hnl : ∀ b, BlM Mk b → b ≠ w.heap.size ∧ b ≠ w.heap.size + 1 := fun b hb => by
   rcases hsub b hb with h | h
   ·have := hblt b h; omega
   ·omega
  have hmW : Mm (BlM Mk) W W Mk := ⟨Fr.refl _ _, hat, fun x hx b hb _ => ⟨x, hx, hb⟩, hnd⟩
  have has := hround k v Mk W (w.heap.size + 1) hv hI (hF0 W hfW) hmW
  refine ⟨0, fn, _, as1, bd1, hy, roundIn_of_wpIn hfn ?_⟩
  clear hy
  have E0 : EnvS [] n ((ps1.toList.zip v.toList).reverse ++ L) { tmps := (ps1.zip v).foldl (fun t (p, v) => t.setIfInBounds p v) a.tmps, defers := [] } := by
   have hz := zip_env (ds := ds) (n := n) (L := L) (ps := ps1.toList) (vs := v.toList) (t := a.tmps) ⟨E.size, fun s u hs => E.at_ s u hs, rfl⟩ (by have := hps v hvm; simpa using this.symm) (fun p hp => by
    have := List.all_eq_true.1 hpn p hp
    simpa [Nat.blt_eq] using this)
   have hfo : (ps1.zip v).foldl (fun t (p, v) => t.setIfInBounds p v) a.tmps = (ps1.toList.zip v.toList).foldl (fun t (p, v) => t.setIfInBounds p v) a.tmps := by rw [← Array.toList_zip, Array.foldl_toList]
   rw [hfo]
   exact hz
  refine wpIn_mono (has _ E0) ?_
  rintro e9 a1 W2 hp
  cases e9 with
  | normal =>
   obtain ⟨Lb, M1, E1, hMa, hb⟩ := hp
   have hfa := hMa.fr
   have hl9 := hfa.obj hl (fun h => (hnl _ h).2 rfl)
   have hkD9 := hfa.obj hkD (fun h => (hnl _ h).1 rfl)
   have hlt9 := lt_of_blk hl9
   refine ⟨_, run_beginRound hl9 (by rw [hrec]), ?_⟩
   have f2 := Fr.putObj W2 (w.heap.size + 1) (.loop { rec .ready none with state := .busy })
   obtain ⟨W3, hW3⟩ : ∃ W3, W2.putObj (w.heap.size + 1) (.loop { rec .ready none with state := .busy }) = W3 := ⟨_, rfl⟩
   have hl3 : W3.heap[w.heap.size + 1]? = some (.loop { rec .ready none with state := .busy }) := by rw [← hW3]; exact World.putObj_heap_same hlt9
   rw [hW3] at f2 ⊢
   have hkD3 := f2.obj hkD9 (by omega)
   have hM1n : ∀ b, BlM M1 b → BlM Mk b ∨ W.heap.size ≤ b := fun b ⟨x, hx, hb⟩ => by
    rcases Nat.lt_or_ge b W.heap.size with h | h
    ·exact .inl (hMa.own x hx b hb h)
    ·exact .inr h
   have hM1l : ∀ b, BlM M1 b → b ≠ w.heap.size ∧ b ≠ w.heap.size + 1 := fun b hb => by
    rcases hM1n b hb with h | h
    ·exact hnl b h
    ·omega
   have hM3 : Mm (BlM M1) W3 W3 M1 := ⟨Fr.refl _ _, fun x hx => x.fr (hMa.at_ x hx) f2 fun b hb e => (hM1l b ⟨x, hx, hb⟩).2 e, fun x hx b hb _ => ⟨x, hx, hb⟩, hMa.nd⟩
   have hF3 : Fr F0 w0 W3 := by
    refine ((hF0 W hfW).trans' hfa fun r hr hb => ?_).trans' f2 fun r hr e => ?_
    ·rcases hsub r hb with ⟨x, hx, h⟩ | h
     ·exact hM.own x hx r h hr
     ·have := hM.fr.size; omega
    ·have := hM.fr.size; omega
   have hsW : W.heap.size ≤ W3.heap.size := Nat.le_trans hfa.size f2.size
   have hsWW : w.heap.size + 2 ≤ W.heap.size := Nat.le_trans hsz1 hfW.size
   -- what the body's end gives
   have fin : ∀ M' W', Mm (BlM M1) W3 W' M' → (∀ b, BlM M' b → (BlM M b ∨ w.heap.size + 2 ≤ b)) ∧ (∀ b, BlM M' b → BlM Mk b ∨ W.heap.size ≤ b) ∧ W'.heap[w.heap.size + 1]? = some (.loop { rec .ready none with state := .busy }) ∧ W'.heap[w.heap.size]? = some (.deferred (some [])) := by
    intro M' W' hm
    have hb1 : ∀ b, BlM M' b → BlM Mk b ∨ W.heap.size ≤ b := fun b ⟨x, hx, hb⟩ => by
     rcases Nat.lt_or_ge b W3.heap.size with h | h
     ·exact hM1n b (hm.own x hx b hb h)
     ·exact .inr (Nat.le_trans hsW h)
    refine ⟨fun b hb => ?_, hb1, hm.fr.obj hl3 (fun h => (hM1l _ h).2 rfl), hm.fr.obj hkD3 (fun h => (hM1l _ h).1 rfl)⟩
    rcases hb1 b hb with h | h
    ·exact hsub b h
    ·exact .inr (Nat.le_trans hsWW h)
   refine wpIn_mono (hb W3 (w.heap.size + 1) ⟨rndP (fun W' => ∃ M', I (k + 1) M' ∧ Mm (BlM M1) W3 W' M') (fun W' => ∃ M', T M' ∧ Mm (BlM M1) W3 W' M'), some (w.heap.size + 1)⟩ hF3 hM3 ⟨rfl, fun a M' W' h1 h2 => ⟨M', h1, h2⟩, fun a M' W' h1 h2 => ⟨M', h1, h2⟩⟩ _ E1) ?_
   rintro e a3 W4 hp
   cases e with
   | normal =>
    obtain ⟨M', hI', hm'⟩ := hp
    obtain ⟨g1, g2, h4, h3⟩ := fin M' W4 hm'
    have hr := run_endRound (P := P) none h4
    refine ⟨_, _, hr, .inl ⟨rfl, _, ⟨M', hI', hm'.nd, g1, rfl⟩, ⟨fun x hx => x.fr (hm'.at_ x hx) (Fr.putObj W4 _ _) fun b hb e => ?_, (World.putObj_heap_other (by omega)).trans h3, ?_⟩, ?_, ?_⟩⟩
    ·rcases g1 b ⟨x, hx, hb⟩ with h | h
     ·have := hblt b h; omega
     ·omega
    ·refine (World.putObj_heap_same (lt_of_blk h4)).trans ?_
     rw [hrec]; rfl
    ·rintro b (h | h | h)
     ·rcases g2 b h with h | h
      ·exact .inl (.inl h)
      ·exact .inr h
     ·exact .inl (.inr (.inl h))
     ·exact .inl (.inr (.inr h))
    ·refine (((hfa.mono (G := (joinE Mk w.heap.size (w.heap.size + 1) (rec .ready none)).B) fun _ _ h => .inl h).trans' f2 fun r _ e => .inr (.inr e)).trans' hm'.fr fun r hr hb => ?_).trans' (Fr.putObj W4 _ _) fun r _ e => .inr (.inr e)
     rcases hM1n r hb with h | h
     ·exact .inl h
     ·omega
   | ret =>
    obtain ⟨M', hI', hm'⟩ := hp
    obtain ⟨g1, g2, h4, h3⟩ := fin M' W4 hm'
    have hr := run_endRound (P := P) (some .ret) h4
    have f4 := Fr.putObj W4 (w.heap.size + 1) (.loop { rec .ready none with state := .done, pending := some .ret })
    refine ⟨_, _, hr, .inr ⟨rfl, M', hI', ?_, ?_, fun b hb => ?_⟩⟩
    ·refine ⟨?_, fun x hx => ?_, fun x hx b hb hlt => ?_, ?_⟩
     ·refine (hF3.trans' hm'.fr fun r hr hb => ?_).trans' (Fr.putObj W4 _ _) fun r hr e => ?_
      ·rcases hM1n r hb with h | h
       ·rcases hsub r h with ⟨x, hx, h⟩ | h
        ·exact hM.own x hx r h hr
        ·have := hM.fr.size; omega
       ·have := hM.fr.size; omega
      ·have := hM.fr.size; omega
     ·rcases List.mem_append.1 hx with hx | hx
      ·refine x.fr (hm'.at_ x hx) (Fr.putObj W4 _ _) fun b hb e => ?_
       rcases g1 b ⟨x, hx, hb⟩ with h | h
       ·have := hblt b h; omega
       ·omega
      ·rw [List.mem_singleton] at hx; subst hx
       exact (World.putObj_heap_other (by omega)).trans h3
     ·rcases List.mem_append.1 hx with hx | hx
      ·rcases g1 b ⟨x, hx, hb⟩ with ⟨y, hy, h⟩ | h
       ·exact hM.own y hy b h hlt
       ·have := hM.fr.size; omega
      ·rw [List.mem_singleton] at hx; subst hx
       have hb : b = w.heap.size := hb
       have := hM.fr.size; omega
     ·refine List.pairwise_append.2 ⟨hm'.nd, List.pairwise_singleton _ _, fun x hx y hy b hb hb2 => ?_⟩
      rw [List.mem_singleton] at hy; subst hy
      have hb2 : b = w.heap.size := hb2
      rcases g1 b ⟨x, hx, hb⟩ with h | h
      ·have := hblt b h; omega
      ·omega
    ·refine (World.putObj_heap_same (lt_of_blk h4)).trans ?_
     rw [hrec]; rfl
    ·rcases g1 b hb with h | h
     ·have := hblt b h; omega
     ·omega
   | exit id => exact hp.elim
   | goto t => exact hp.elim
   | panic ch => exact hp.elim
   | outgrown => exact hp.elim
  | exit id => exact hp.elim
  | goto t => exact hp.elim
  | ret => exact hp.elim
  | panic ch => exact hp.elim
  | outgrown => exact hp.elim
 ·rintro e W2 ⟨⟨v, rfl⟩, ⟨_, ⟨Mk, hI, hnd, hsub, rfl⟩, ⟨hat, hkD, hl⟩, hfW⟩ | ⟨M', hT, hm, hl, hne⟩⟩
  ·have hr := run_endLoop (P := P) hl (by rw [hrec]; simp)
   rw [hrec] at hr
   refine ⟨none, _, hr, ?_⟩
   have key : ∀ W9 ob, W9 = W2.putObj (w.heap.size + 1) ob → Mm F0 w0 W9 (Mk ++ [dfE w.heap.size]) := by
    intro W9 ob hw9
    subst hw9
    refine ⟨(hF0 W2 hfW).trans' (Fr.putObj W2 _ _) fun r hr e => ?_, fun x hx => ?_, fun x hx b hb hlt => ?_, ?_⟩
    ·have := hM.fr.size; omega
    ·rcases List.mem_append.1 hx with hx | hx
     ·refine x.fr (hat x hx) (Fr.putObj W2 _ _) fun b hb e => ?_
      rcases hsub b ⟨x, hx, hb⟩ with h | h
      ·have := hblt b h; omega
      ·omega
     ·rw [List.mem_singleton] at hx; subst hx
      exact (World.putObj_heap_other (by omega)).trans hkD
    ·rcases List.mem_append.1 hx with hx | hx
     ·rcases hsub b ⟨x, hx, hb⟩ with ⟨y, hy, h⟩ | h
      ·exact hM.own y hy b h hlt
      ·have := hM.fr.size; omega
     ·rw [List.mem_singleton] at hx; subst hx
      have hb : b = w.heap.size := hb
      have := hM.fr.size; omega
    ·refine List.pairwise_append.2 ⟨hnd, List.pairwise_singleton _ _, fun x hx y hy b hb hb2 => ?_⟩
     rw [List.mem_singleton] at hy; subst hy
     have hb2 : b = w.heap.size := hb2
     rcases hsub b ⟨x, hx, hb⟩ with h | h
     ·have := hblt b h; omega
     ·omega
   obtain ⟨O9, dr9, kk9, hf9, hk9⟩ := hdone Mk _ hI (key _ _ rfl)
   rw [h2] at hf9
   cases hf9
   exact hk9 _ ⟨E.size, fun s u hs => E.at_ s u hs, by show _ :: a.defers = _; rw [E.df]⟩
  ·have hr := run_endLoop (P := P) hl (by rw [hrec]; simp)
   rw [hrec] at hr
   refine ⟨some .ret, _, hr, ?_⟩
   refine wpIn_ret (post_ret (R := ⟨Qf, none⟩) (hstop _ M' _ hT ?_ ⟨E.size, fun s u hs => E.at_ s u hs, by show _ :: a.defers = _; rw [E.df]⟩))
   refine ⟨hm.fr.trans' (Fr.putObj W2 _ _) fun r hr e => ?_, fun x hx => x.fr (hm.at_ x hx) (Fr.putObj W2 _ _) fun b hb e => ?_, hm.own, hm.nd⟩
   ·have := hM.fr.size; omega
   ·rcases List.mem_append.1 hx with hx | hx
    ·exact hne b ⟨x, hx, hb⟩ e
    ·rw [List.mem_singleton] at hx; subst hx
     have hb : b = w.heap.size := hb
     omega
theorem rngf (q : Nat) {g : Operand} {ps : Array Tmp} {gf : Nat} {lb : Array Value} {vs : List (Array Value)} {Kp : (Nat → Prop) → World → Prop} (I : Nat → List Ent → Prop) (T : List Ent → Prop)
  (hM : Mm F0 w0 w M) (h0 : I 0 M) (eg : Ent1 P gf) (hY : IterE P gf lb vs Kp)
  (hK : ∀ (G : Nat → Prop) W, (∀ k, G k → BlM M k ∨ w.heap.size ≤ k) → Fr (fun _ => False) w W → Kp G W)
  (hps : ∀ v ∈ vs, v.size = ps.size)
  (hround : ∀ k v Mk W l, vs[k]? = some v → I k Mk → Fr F0 w0 W → Mm (BlM Mk) W W Mk → AtO P (asOf (1000 + q) B) ⟨RAs P (bdOf (1000 + q) B) n F0 w0 I T k Mk W, some l⟩ [] n none ((ps.toList.zip v.toList).reverse ++ L) W)
  (hdone : ∀ M' W', I vs.length M' → Mm F0 w0 W' (M' ++ [dfE w.heap.size]) → AtO P B ⟨Qf, none⟩ (mkD w.heap.size :: ds) n (some (2000 + q, 0)) L W')
  (hstop : ∀ a M' W', T M' → Mm F0 w0 W' (M' ++ [dfE w.heap.size]) → EnvS (mkD w.heap.size :: ds) n L a → Qf .ret a W')
  (h : (match findR (1000 + q) B [], findR (2000 + q) B [], rfOf (1000 + q) B with
   | some (O, dr, .seq (.rangeFunc g1 ps1 as1 bd1) :: k1), some (O2, dr2, k2), some (g2, ps2, as2, bd2) => some (O, dr, O2, dr2, [Kon.seq (.rangeFunc g1 ps1 as1 bd1)], k1, opv L g1, ps.toList.all fun p => Nat.blt p n)
   | _, _, _ => none) = (match findR (1000 + q) B [], findR (2000 + q) B [], rfOf (1000 + q) B with
   | some (O, dr, .seq (.rangeFunc g1 ps1 as1 bd1) :: k1), some (O2, dr2, k2), some (g2, ps2, as2, bd2) => some (#[], false, #[], false, [Kon.seq (.rangeFunc g ps as2 bd2)], k2, some (.func (.func gf) #[] lb), true)
   | _, _, _ => some (#[], false, #[], false, [], [], none, true)) := by kernel_rfl) : AtO P B ⟨Qf, none⟩ ds n (some (1000 + q, 0)) L w :=
 rngfS (ok := fun _ => True) q I T hM h0 eg (fun l J S W0 e0 _ => hY l J S W0 e0) (fun _ _ => trivial) hK hps hround hdone hstop h
/-- The same for a body that never stops. -/
theorem rngfF (q : Nat) {g : Operand} {ps : Array Tmp} {gf : Nat} {lb : Array Value} {vs : List (Array Value)} {Kp : (Nat → Prop) → World → Prop} (I : Nat → List Ent → Prop) 
  (hM : Mm F0 w0 w M) (h0 : I 0 M) (eg : Ent1 P gf) (hY : IterF P gf lb vs Kp)
  (hK : ∀ (G : Nat → Prop) W, (∀ k, G k → BlM M k ∨ w.heap.size ≤ k) → Fr (fun _ => False) w W → Kp G W)
  (hps : ∀ v ∈ vs, v.size = ps.size)
  (hround : ∀ k v Mk W l, vs[k]? = some v → I k Mk → Fr F0 w0 W → Mm (BlM Mk) W W Mk → AtO P (asOf (1000 + q) B) ⟨RAs P (bdOf (1000 + q) B) n F0 w0 I (fun _ => False) k Mk W, some l⟩ [] n none ((ps.toList.zip v.toList).reverse ++ L) W)
  (hdone : ∀ M' W', I vs.length M' → Mm F0 w0 W' (M' ++ [dfE w.heap.size]) → AtO P B ⟨Qf, none⟩ (mkD w.heap.size :: ds) n (some (2000 + q, 0)) L W')
  (h : (match findR (1000 + q) B [], findR (2000 + q) B [], rfOf (1000 + q) B with
   | some (O, dr, .seq (.rangeFunc g1 ps1 as1 bd1) :: k1), some (O2, dr2, k2), some (g2, ps2, as2, bd2) => some (O, dr, O2, dr2, [Kon.seq (.rangeFunc g1 ps1 as1 bd1)], k1, opv L g1, ps.toList.all fun p => Nat.blt p n)
   | _, _, _ => none) = (match findR (1000 + q) B [], findR (2000 + q) B [], rfOf (1000 + q) B with
   | some (O, dr, .seq (.rangeFunc g1 ps1 as1 bd1) :: k1), some (O2, dr2, k2), some (g2, ps2, as2, bd2) => some (#[], false, #[], false, [Kon.seq (.rangeFunc g ps as2 bd2)], k2, some (.func (.func gf) #[] lb), true)
   | _, _, _ => some (#[], false, #[], false, [], [], none, true)) := by kernel_rfl) : AtO P B ⟨Qf, none⟩ ds n (some (1000 + q, 0)) L w :=
 rngfS q I (fun _ => False) hM h0 eg hY (fun S h W hS => (h W hS).elim fun _ h => h) hK hps hround hdone (fun _ _ _ h => h.elim) h
end
/-! ### ends -/
section
variable {P : Program} {B : Code} {R : Pst} {ds : List Deferred} {n : Nat} {p : Option (Nat × Nat)} {L : Frm} {w w0 : World} {F : List Ft} {F0 : Nat → Prop} {M : List Ent} {fn : Func} {Φ : Ending → World → Prop}
def finK (b : Bool) (x : Res) (N L : Frm) : Option (Bool × List (Option Value) × List Eqn) :=
 match x with
 | some (m, nw, _, es) => some (match m with | .ret => b | .nrm => !b | _ => false, N.map (fun y => look (nw ++ L) y.1), es.map Eqn.l)
 | none => none
theorem fin1 (b : Bool) (N : Frm) (hF : AllF P w F) (h : finK b (go P w n B p L 1000000 0 F) N L = finR (go P w n B p L 1000000 0 F) N) (k : ∀ a, EnvS ds n N a → R.q (match b with | true => .ret | false => .normal) a w) : AtO P B R ds n p L w := by
 cases hx : go P w n B p L 1000000 0 F with
 | none => rw [hx] at h; cases h
 | some z =>
  obtain ⟨m, nw, fs, es⟩ := z
  rw [hx] at h
  have h := Option.some.inj h
  obtain ⟨h1, h⟩ := Prod.mk.inj h
  obtain ⟨h2, h3⟩ := Prod.mk.inj h
  refine go_ok hx hF (AllE.of h3) fun a E => ?_
  have hk := k a (E.sub fun s v hs => (List.map_inj_left.1 h2) (s, v) (look_mem hs))
  cases m with
  | ret => cases b with
   | true => exact hk
   | false => cases h1
  | nrm => cases b with
   | true => cases h1
   | false => exact hk
  | _ => cases h1
/-- The code's end is come to. -/
theorem nrm_ (N : Frm) (hF : AllF P w F) (k : ∀ a, EnvS ds n N a → R.q .normal a w) (h : finK false (go P w n B p L 1000000 0 F) N L = finR (go P w n B p L 1000000 0 F) N := by kernel_rfl) : AtO P B R ds n p L w := fin1 false N hF h k
/-- A return. -/
theorem ret_ (N : Frm) (hF : AllF P w F) (k : ∀ a, EnvS ds n N a → R.q .ret a w) (h : finK true (go P w n B p L 1000000 0 F) N L = finR (go P w n B p L 1000000 0 F) N := by kernel_rfl) : AtO P B R ds n p L w := fin1 true N hF h k
theorem Mm.unmark {D : Nat} {w' : World} (h : Mm F0 w0 w (M ++ [dfE D])) (f : Fr (isMark [mkD D]) w w') : Mm F0 w0 w' M := by
 have hi : ∀ r, isMark [mkD D] r → r = D := fun r hr => by
  rcases isMark_cons.1 hr with h | h
  ·exact h
  ·cases h
 have hm : dfE D ∈ M ++ [dfE D] := by simp
 obtain ⟨n1, _, n3⟩ := List.pairwise_append.1 h.nd
 exact ⟨h.fr.trans' f fun r hr hg => h.own _ hm r (hi r hg) hr, fun e he => e.fr (h.at_ e (List.mem_append_left _ he)) f fun k hk hg => n3 e he (dfE D) (by simp) k hk (hi k hg), fun e he => h.own e (List.mem_append_left _ he), n1⟩
abbrev wholeM (P : Program) (fn : Func) (Φ : Ending → World → Prop) : Pst := ⟨bodyPostM Fence.wide 0 P fn Φ, none⟩
theorem leaveM {a : Act} {D : Nat} {u : Bool} (E : a.defers = [mkD D]) (hM : Mm F0 w0 w (M ++ [dfE D])) (hres : ∀ w', Mm F0 w0 w' M → ∃ v, (results fn a.tmps).run P w' = .ok v w' ∧ Φ (.returned v) w') : bodyPostM Fence.wide 0 P fn Φ .ret a w ∧ bodyPostM Fence.wide 0 P fn Φ .normal a w := by
 have : LeavesInM Fence.wide 0 P fn a.tmps Φ a.defers .returning w := by
  rw [E]
  exact leavesM _ w ⟨by simp, fun d hd => by
   rw [List.mem_singleton] at hd
   exact ⟨D, hd, hM.at_ (dfE D) (by simp)⟩⟩ fun w' hf => hres w' (hM.unmark hf)
 exact ⟨this, this⟩
theorem res1_ {a : Act} {t : Nat} {v : Value} (hr : fn.results = #[.tmp t]) (hv : a.eval (.tmp t) = v) (w : World) : (results fn a.tmps).run P w = .ok v w := by
 unfold results
 rw [hr]
 have : a.tmps.getD t undef = v := hv
 rw [Array.getD_eq_getD_getElem?] at this
 simp [this]
theorem rtm1 {D : Nat} (t : Nat) (v : Value) (hr : fn.results = #[.tmp t]) (hF : AllF P w F) (hM : Mm F0 w0 w (M ++ [dfE D])) (k : ∀ w', Mm F0 w0 w' M → Φ (.returned v) w') (h : finL (go P w n B p L 1000000 0 F) [(t, v)] L = finR (go P w n B p L 1000000 0 F) [(t, v)] := by kernel_rfl) : AtO P B (wholeM P fn Φ) [mkD D] n p L w :=
 fin_ [(t, v)] hF h fun a E => leaveM (u := true) E.df hM fun w' hM' => ⟨v, res1_ hr (E.at_ t v (by simp [look])) w', k w' hM'⟩
theorem begM {f : FuncId} {args : Array Value} (hf : P.funcs[f]? = some fn) (hb : fn.body = some B) (hn : fn.ntmps = n) (L : Frm) (hL : L = (List.range args.size).zip args.toList) (hs : Nat.ble args.size n = true) (k : ∀ Φ' : Ending → World → Prop, (∀ e w', Φ e w' → Φ' e w') → AtO P B (wholeM P fn Φ') [] n none L w) : Calls P f args w Φ := by
 have hs : args.size ≤ n := Nat.le_of_ble_eq_true hs
 refine (callsIn_wide (n := 0)).1 (callsIn_of_wp_marks hf hb trivial (k Φ (fun _ _ h => h) _ (env_args hn hL hs)))
end
theorem vs_at {α : Type} {L : List α} {g : α → Array Value} {k : Nat} {v : Array Value} (h : (L.map g)[k]? = some v) : ∃ y, L[k]? = some y ∧ g y = v := by
 rw [List.getElem?_map] at h
 cases hq : L[k]? with
 | none => rw [hq] at h; cases h
 | some y => rw [hq] at h; exact ⟨y, rfl, Option.some.inj h⟩
theorem vs_of {α : Type} {L : List α} {g : α → Array Value} {k : Nat} {y : α} (h : L[k]? = some y) : (L.map g)[k]? = some (g y) := by rw [List.getElem?_map, h]; rfl
theorem vsz {α : Type} {L : List α} {g : α → Array Value} {ps : Array Tmp} (h : (fun y => (g y).size) = fun _ => ps.size) : ∀ v ∈ L.map g, v.size = ps.size := fun v hv => by
 obtain ⟨y, _, rfl⟩ := List.mem_map.1 hv
 exact congrFun h y
theorem Mm.geK {w w0 : World} {M : List Ent} {G : Nat → Prop} (h : Mm (fun _ => False) w0 w M) (hG : ∀ k, G k → BlM M k ∨ w.heap.size ≤ k) : ∀ k, G k → w0.heap.size ≤ k := fun k hk => (hG k hk).elim (fun ⟨_, he, hb⟩ => h.ge he hb) fun hl => Nat.le_trans h.fr.size hl
def elOK (P : Program) (E c : Nat) : Bool := match P.info? E with
 | some i => match i.zero with
  | some z => Nat.beq i.size c && Nat.beq z.cells.size c && Nat.ble i.bytes 93
  | none => false
 | none => false
theorem elOK_info {P : Program} {E c : Nat} (h : elOK P E c = true) : ∃ i z, P.info? E = some i ∧ i.zero = some z ∧ i.size = c ∧ z.cells.size = c ∧ i.bytes ≤ 93 := by
 unfold elOK at h
 split at h
 ·rename_i i hi
  split at h
  ·rename_i z hz
   simp only [Bool.and_eq_true] at h
   exact ⟨i, z, hi, hz, Nat.eq_of_beq_eq_true h.1.1, Nat.eq_of_beq_eq_true h.1.2, Nat.le_of_ble_eq_true h.2⟩
  ·cases h
 ·cases h
/-- A row of its own that a call hands back. -/
def NRow {α : Type} (f : α → List Value) (c E : Nat) (w w' : World) (v : Value) (A : List α) : Prop := ow f c E w' 0 v A ∧ ∀ k, v.ownBlock = some k → w.heap.size ≤ k
theorem Mm.nrow {α : Type} {f : α → List Value} {c E j : Nat} {w w0 : World} {M : List Ent} {v : Value} {A : List α} (h : Mm (fun _ => False) w0 w M) (hj : M[j]? = some (rw_ f c E v A)) : NRow f c E w0 w v A := ⟨h.get j hj, fun k hk => h.ge (List.mem_of_getElem? hj) hk⟩
theorem NRow.mono {α : Type} {f : α → List Value} {c E : Nat} {w0 w w' : World} {v : Value} {A : List α} (h : NRow f c E w w' v A) (hs : w0.heap.size ≤ w.heap.size) : NRow f c E w0 w' v A := ⟨h.1, fun k hk => Nat.le_trans hs (h.2 k hk)⟩
theorem NRow.op {α : Type} {f : α → List Value} {c E : Nat} {w w' : World} {v : Value} {A : List α} (h : NRow f c E w w' v A) (hf : ∀ x, (f x).length = c) : ∃ p cap, v = vL p A.length cap ∧ SrcP f c w' p cap A := (show Src f c w' v A from h.1.src hf).op
/-- A call that hands back a row of its own. -/
theorem calrow {P : Program} {B : Code} {R : Pst} {ds : List Deferred} {n : Nat} {p : Option (Nat × Nat)} {L : Frm} {w w0 : World} {F : List Ft} {F0 : Nat → Prop} {M : List Ent} {α : Type} {f : α → List Value} {c E : Nat} {A : List α} (r' i' d : Nat) (N : Frm) {g : FuncId} {args : Array Value} (hF : AllF P w F) (hM : Mm F0 w0 w M) (hc : Calls P g args w fun e w' => ∃ v, e = .returned v ∧ NRow f c E w w' v A ∧ Fr (fun _ => False) w w') (k : ∀ v w', Mm F0 w0 w' (M ++ [rw_ f c E v A]) → AtO P B R ds n (some (r', i' + 1)) ((d, v) :: (N ++ L)) w') (h : (lhs (go P w n B p L r' i' F) N L, opOf P w n L (go P w n B p L r' i' F)) = (rhs (go P w n B p L r' i' F) N B r' i', some (d, .ok (.enter g args, w))) := by kernel_rfl) : AtO P B R ds n p L w :=
 cal r' i' d N (K := fun u w' => NRow f c E w w' u A ∧ Fr (fun _ => False) w w') hF hc (fun u w' ⟨h1, h2⟩ => k u w' (hM.add h2 _ h1.1 h1.2)) h
theorem pickE_app {M : List Ent} : ∀ {a b : List Nat}, pickE M (a ++ b) = pickE M a ++ pickE M b
 | [], b => rfl
 | j :: a, b => by
  show (match M[j]? with | some e => e :: pickE M (a ++ b) | none => pickE M (a ++ b)) = (match M[j]? with | some e => e :: pickE M a | none => pickE M a) ++ pickE M b
  rw [pickE_app (a := a) (b := b)]
  cases M[j]? <;> rfl
/-- A call that changes entries: by a contract over the memory of these alone. -/
theorem calM {P : Program} {B : Code} {R : Pst} {ds : List Deferred} {n : Nat} {p : Option (Nat × Nat)} {L : Frm} {w w0 : World} {F : List Ft} {F0 : Nat → Prop} {M A Ms : List Ent} {K : Value → List Ent → Prop} (r' i' d : Nat) (N : Frm) {g : FuncId} {args : Array Value} (is js : List Nat) (hF : AllF P w F) (hM : Mm F0 w0 w M) (hA : pickE M is = A) (hS : pickE M js = Ms) (hn : (is ++ js).Nodup) (hc : Mm (BlM Ms) w w Ms → Calls P g args w fun e w' => ∃ v Mn, e = .returned v ∧ K v Mn ∧ Mm (BlM Ms) w w' Mn) (k : ∀ v Mn w', K v Mn → Mm F0 w0 w' (A ++ Mn) → AtO P B R ds n (some (r', i' + 1)) ((d, v) :: (N ++ L)) w') (h : (lhs (go P w n B p L r' i' F) N L, opOf P w n L (go P w n B p L r' i' F)) = (rhs (go P w n B p L r' i' F) N B r' i', some (d, .ok (.enter g args, w))) := by kernel_rfl) : AtO P B R ds n p L w := by
 have hp : pickE M (is ++ js) = A ++ Ms := by
  rw [← hA, ← hS, pickE_app]
 have hM1 := hM.pick (is ++ js) hp hn
 have hMs : Mm F0 w0 w Ms := hM.pick js hS (List.nodup_append.1 hn).2.1
 refine cal r' i' d N (K := fun u w' => ∃ Mn, K u Mn ∧ Mm (BlM Ms) w w' Mn) hF ((hc (hMs.re fun e he k hk => ⟨e, he, hk⟩)).mono fun e w' ⟨v, Mn, h1, h2⟩ => ⟨v, h1, Mn, h2⟩) (fun u w' ⟨Mn, h1, h2⟩ => k u Mn w' h1 (hM1.call h2 fun _ _ h => h)) h
/-- Three results in cells. -/
theorem res3c {P : Program} {w : World} {fn : Func} {a : Act} {t2 t3 t4 T2 T3 T4 b2 b3 b4 : Nat} {v2 v3 v4 : Value} (hr : fn.results = #[.cell t2 T2, .cell t3 T3, .cell t4 T4]) (h2 : a.eval (.tmp t2) = vP b2 0) (h3 : a.eval (.tmp t3) = vP b3 0) (h4 : a.eval (.tmp t4) = vP b4 0) (l2 : (Instr.loadAt T2 (vP b2 0)).run P w = .ok v2 w) (l3 : (Instr.loadAt T3 (vP b3 0)).run P w = .ok v3 w) (l4 : (Instr.loadAt T4 (vP b4 0)).run P w = .ok v4 w) : (results fn a.tmps).run P w = .ok (.tuple #[v2, v3, v4]) w := by
 have e2 : a.tmps[t2]?.getD undef = vP b2 0 := by have : a.tmps.getD t2 undef = vP b2 0 := h2; simpa using this
 have e3 : a.tmps[t3]?.getD undef = vP b3 0 := by have : a.tmps.getD t3 undef = vP b3 0 := h3; simpa using this
 have e4 : a.tmps[t4]?.getD undef = vP b4 0 := by have : a.tmps.getD t4 undef = vP b4 0 := h4; simpa using this
 simp only [Instr.loadAt, Instr.sureAddr, Sem.run_bind, Sem.run_pure, Result.andThen_ok] at l2 l3 l4
 simp [results, hr, e2, e3, e4, asAddr, l2, l3, l4]
section
variable {P : Program} {B : Code} {n : Nat} {p : Option (Nat × Nat)} {L : Frm} {w w0 : World} {F : List Ft} {F0 : Nat → Prop} {M : List Ent} {fn : Func} {Φ : Ending → World → Prop} {t2 t3 t4 T2 T3 T4 b2 b3 b4 : Nat} {v2 v3 v4 : Value}
theorem res3M {a : Act} (hr : fn.results = #[.cell t2 T2, .cell t3 T3, .cell t4 T4]) (h2 : a.eval (.tmp t2) = vP b2 0) (h3 : a.eval (.tmp t3) = vP b3 0) (h4 : a.eval (.tmp t4) = vP b4 0) (j2 j3 j4 : Nat) (m2 : M[j2]? = some (bk b2 #[v2] T2)) (m3 : M[j3]? = some (bk b3 #[v3] T3)) (m4 : M[j4]? = some (bk b4 #[v4] T4)) (hs : (scT P T2, scT P T3, scT P T4) = (true, true, true)) (hM : Mm F0 w0 w M) : (results fn a.tmps).run P w = .ok (.tuple #[v2, v3, v4]) w := by
 simp only [Prod.mk.injEq] at hs
 exact res3c hr h2 h3 h4 (run_load1 hs.1 (bx (hM.get j2 m2) 0 rfl)) (run_load1 hs.2.1 (bx (hM.get j3 m3) 0 rfl)) (run_load1 hs.2.2 (bx (hM.get j4 m4) 0 rfl))
theorem rtm3c {D : Nat} (j2 j3 j4 : Nat) (hr : fn.results = #[.cell t2 T2, .cell t3 T3, .cell t4 T4]) (hF : AllF P w F) (hM : Mm F0 w0 w (M ++ [dfE D])) (m2 : M[j2]? = some (bk b2 #[v2] T2)) (m3 : M[j3]? = some (bk b3 #[v3] T3)) (m4 : M[j4]? = some (bk b4 #[v4] T4)) (k : ∀ w', Mm F0 w0 w' M → Φ (.returned (.tuple #[v2, v3, v4])) w')
  (hs : (scT P T2, scT P T3, scT P T4, look [(t2, vP b2 0), (t3, vP b3 0), (t4, vP b4 0)] t3, look [(t2, vP b2 0), (t3, vP b3 0), (t4, vP b4 0)] t4) = (true, true, true, some (vP b3 0), some (vP b4 0)) := by kernel_rfl)
  (h : finL (go P w n B p L 1000000 0 F) [(t2, vP b2 0), (t3, vP b3 0), (t4, vP b4 0)] L = finR (go P w n B p L 1000000 0 F) [(t2, vP b2 0), (t3, vP b3 0), (t4, vP b4 0)] := by kernel_rfl) : AtO P B (wholeM P fn Φ) [mkD D] n p L w := by
 simp only [Prod.mk.injEq] at hs
 obtain ⟨s1, s2, s3, s4, s5⟩ := hs
 exact fin_ _ hF h fun a E => leaveM (u := true) E.df hM fun w' hM' => ⟨_, res3M hr (E.at_ t2 _ (by simp [look])) (E.at_ t3 _ s4) (E.at_ t4 _ s5) j2 j3 j4 m2 m3 m4 (by rw [s1, s2, s3]) hM', k w' hM'⟩
end
theorem Mm.apart {F0 : Nat → Prop} {w0 w : World} {M N : List Ent} (h : Mm F0 w0 w (M ++ N)) {x : Ent} (hx : x ∈ N) {k : Nat} (hk : x.B k) : ¬ BlM M k := fun ⟨e, he, hb⟩ => (List.pairwise_append.1 h.nd).2.2 e he x hx k hb hk
/-! ### panics -/
section
variable {P : Program} {B : Code} {R : Pst} {ds : List Deferred} {n : Nat} {p : Option (Nat × Nat)} {L : Frm} {w w0 : World} {F : List Ft} {F0 : Nat → Prop} {M Ms : List Ent}
/-- A call that panics. -/
theorem calE (r' i' d : Nat) (N : Frm) {g : FuncId} {args : Array Value} {ch : List PanicEntry} (js : List Nat) (hF : AllF P w F) (hM : Mm F0 w0 w M) (hS : pickE M js = Ms) (hn : js.Nodup) (hc : Mm (BlM Ms) w w Ms → Calls P g args w fun e w' => e = .panicked ch ∧ Fr (BlM Ms) w w') (k : ∀ a w', Fr F0 w0 w' → a.defers = ds → R.q (.panic ch) a w') (h : (lhs (go P w n B p L r' i' F) N L, opOf P w n L (go P w n B p L r' i' F)) = (rhs (go P w n B p L r' i' F) N B r' i', some (d, .ok (.enter g args, w))) := by kernel_rfl) : AtO P B R ds n p L w :=
 oper_at hF h fun O kk o l a hf hd1 E hd hdn hw hr => by
  have hMs : Mm F0 w0 w Ms := hM.pick js hS hn
  refine sf_op hw (wf_calp (R := fun _ _ => False) (Rp := fun c w' => c = ch ∧ Fr (BlM Ms) w w') hr ((hc (hMs.re fun e he k hk => ⟨e, he, hk⟩)).mono fun e w' h => .inr ⟨ch, h.1, rfl, h.2⟩) (fun _ _ h => h.elim) fun c w' ⟨hc, hf9⟩ => ?_)
  subst hc
  exact post_panic (k a w' (hM.fr.trans' hf9 fun r hr ⟨e, he, hb⟩ => hMs.own e he r hb hr) E.df)
def panAt (n : Nat) (LL : Frm) : Md → Option (Option Bool × Option Value)
 | .ops _ O (o :: _) _ _ => match o.op with
  | .panic x => some (wantL O LL n o, opv LL x)
  | _ => none
 | _ => none
/-- A panic. -/
theorem pan (r' i' : Nat) (N : Frm) (T : TypeId) (u : Value) (hF : AllF P w F) (hM : Mm F0 w0 w M) (k : ∀ a, Fr F0 w0 w → a.defers = ds → R.q (.panic [{ v := .iface T u, recovered := false }]) a w)
  (h : (lhs (go P w n B p L r' i' F) N L, (go P w n B p L r' i' F).bind fun x => panAt n (x.2.1 ++ L) x.1) = (rhs (go P w n B p L r' i' F) N B r' i', some (some true, some (.iface T u))) := by kernel_rfl) : AtO P B R ds n p L w := by
 obtain ⟨h1, h2⟩ := Prod.mk.inj h
 obtain ⟨m, nw, fs, es, hx, hE, ⟨z, hl, ht⟩, hs⟩ := chk_out h1
 rw [hx] at h2
 refine go_ok hx hF hE fun a E => ?_
 unfold panAt at h2
 cases m with
 | ops r O l i k1 =>
  cases l with
  | nil => cases h2
  | cons o l =>
   simp only [Option.bind_some] at h2
   split at h2
   ·rename_i x hop
    simp only [Option.some.injEq, Prod.mk.injEq] at h2
    obtain ⟨g1, g2⟩ := h2
    have hr : (execOp a.eval o).run P w = .halt (.panic (.iface T u)) w := by
     have hev : a.eval x = .iface T u := E.opv g2
     simp only [execOp, hop, hev]
     simp [go_sem]
    show wpListIn (fen R.rd) 0 P O (post P R k1) (o :: l) a w
    exact sf_op (want_true g1 E) (wf_panic (by rw [hop]; intro c hc; cases hc) hr (post_panic (k a hM.fr E.df)))
   ·cases h2
 | _ => cases h2
end
theorem pn_ {P : Program} {fn : Func} {Φ : Ending → World → Prop} {a : Act} {w : World} {ch : List PanicEntry} (hd : a.defers = []) (h : Φ (.panicked ch) w) : bodyPost P fn Φ (.panic ch) a w := ⟨hd, h⟩
end Go.Pl
/- Rows of one's own: their elements' cells, loads and stores. Over whatever program. -/
set_option linter.unusedVariables false
set_option linter.unusedSimpArgs false
namespace Go.Pl
open Go.RowKit
theorem putA_get : ∀ (l : List Value) (cs : Array Value) (k p : Nat), k + l.length ≤ cs.size → (putA cs k l)[p]? = if k ≤ p ∧ p < k + l.length then l[p - k]? else cs[p]?
 | [], cs, k, p, h => by
  rw [if_neg (by simp only [List.length_nil]; omega)]; rfl
 | v :: l, cs, k, p, h => by
  rw [List.length_cons] at h
  unfold putA
  rw [putA_get l _ _ p (by rw [Array.size_setIfInBounds]; omega), Array.getElem?_setIfInBounds, List.length_cons]
  by_cases h1 : p = k
  ·subst h1
   rw [if_neg (by omega), if_pos rfl, if_pos (by omega), if_pos (by omega), Nat.sub_self]; rfl
  ·by_cases h2 : k + 1 ≤ p ∧ p < k + 1 + l.length
   ·rw [if_pos h2, if_pos (by omega), show p - k = p - (k + 1) + 1 by omega, List.getElem?_cons_succ]
   ·rw [if_neg h2, if_neg (fun e => h1 e.symm), if_neg (by omega)]
section
variable {P : Program} {w : World} {α : Type} {f : α → List Value} {c E B n cap g : Nat} {q : Option Addr} {A : List α}
theorem ow_at (hlen : ∀ x, (f x).length = c) (h : ow f c E w B (.slice q n cap) A) {i : Nat} {y : α} (hy : A[i]? = some y) : ∃ g, q = some ⟨g, 0, none⟩ ∧ w.rangeAt g (0 + i * c) (f y) := by
 have hi := (List.getElem?_eq_some_iff.1 hy).1
 rcases h.2 with ⟨_, h2⟩ | ⟨g, cap', cur, h1, hB, h3, h4, h5, h6, h7⟩
 ·omega
 ·injection h1 with e1 e2 e3
  refine ⟨g, e1, fun j u hu => ?_⟩
  have hj : j < c := by rw [← hlen y]; exact (List.getElem?_eq_some_iff.1 hu).1
  have h8 := flat_at hlen A i y hy j hj
  rw [hu, ← h7, List.getElem?_take_of_lt (by
   have : i * c + c ≤ A.length * c := by rw [← Nat.succ_mul]; exact Nat.mul_le_mul_right c hi
   omega), Array.getElem?_toList] at h8
  rw [cell_of_blk h3, Nat.zero_add]; exact h8
theorem ow_store (hlen : ∀ x, (f x).length = c) (h : ow f c E w B (.slice q n cap) A) (hq : q = some ⟨g, 0, none⟩) {i k : Nat} {y y' : α} {us : List Value} (hy : A[i]? = some y) (hk : k + us.length ≤ c) (hy' : f y' = (f y).take k ++ us ++ (f y).drop (k + us.length)) (ho : us.all (·.oneCell') = true) :
  ∃ w', (storeCells ⟨g, 0 + i * c + k, none⟩ us 0).run P w = .ok () w' ∧ ow f c E w' B (.slice q n cap) (A.set i y') ∧ Fr (fun r => r = g) w w' := by
 have hi := (List.getElem?_eq_some_iff.1 hy).1
 rcases h.2 with ⟨_, h2⟩ | ⟨g', cap', cur, h1, hB, h3, h4, h5, h6, h7⟩
 ·omega
 ·injection h1 with e1 e2 e3
  rw [hq] at e1
  injection e1 with e1
  injection e1 with e1 _ _
  subst e1 e3
  have hic : i * c + c ≤ A.length * c := by rw [← Nat.succ_mul]; exact Nat.mul_le_mul_right c hi
  have hcs : A.length * c ≤ cur.size := by rw [h6]; exact Nat.mul_le_mul_right c h4
  obtain ⟨w', r1, r2, r3⟩ := run_storeCells (P := P) us (k := 0 + i * c + k) (i := 0) h3 (by omega) ho
  refine ⟨w', r1, ⟨by rw [flat_len hlen, List.length_set], .inr ⟨g, cap, _, by rw [hq, List.length_set, e2], hB, r2, by rw [List.length_set]; exact h4, h5, by rw [putA_size]; exact h6, ?_⟩⟩, r3⟩
  have hpg := putA_get us cur (0 + i * c + k + 0)
  have hfy : (f y).length = c := hlen y
  apply List.ext_getElem?
  intro p
  rw [List.length_set]
  by_cases hp : p < A.length * c
  ·have hc : 0 < c := Nat.pos_of_ne_zero fun e => by rw [e] at hp; omega
   have hm : p % c < c := Nat.mod_lt _ hc
   have hd : p / c < A.length := (Nat.div_lt_iff_lt_mul hc).2 hp
   have e : p / c * c + p % c = p := by rw [Nat.mul_comm]; exact Nat.div_add_mod p c
   obtain ⟨x, hx⟩ : ∃ x, (A.set i y')[p / c]? = some x := ⟨_, List.getElem?_eq_getElem (by rw [List.length_set]; exact hd)⟩
   have h8 := flat_at hlen (A.set i y') (p / c) x hx (p % c) hm
   rw [e] at h8
   rw [h8, List.getElem?_take_of_lt hp, Array.getElem?_toList, hpg p (by omega)]
   have hold : ∀ z, A[p / c]? = some z → cur[p]? = (f z)[p % c]? := fun z hz => by
    have h9 := flat_at hlen A (p / c) z hz (p % c) hm
    rw [e, ← h7, List.getElem?_take_of_lt hp, Array.getElem?_toList] at h9
    exact h9
   by_cases ht : i = p / c
   ·rw [← ht, List.getElem?_set_self hi] at hx
    have hx := Option.some.inj hx
    subst hx
    have hz := hold y (by rw [← ht]; exact hy)
    have e' : i * c + p % c = p := by rw [ht]; exact e
    rw [hy']
    by_cases h1 : p % c < k
    ·rw [if_neg (by omega), hz, List.append_assoc, List.getElem?_append_left (by rw [List.length_take]; omega), List.getElem?_take_of_lt h1]
    ·by_cases h2 : p % c < k + us.length
     ·rw [if_pos (by omega), List.append_assoc, List.getElem?_append_right (by rw [List.length_take]; omega), List.length_take, Nat.min_eq_left (by omega), List.getElem?_append_left (by omega), show p - (0 + i * c + k + 0) = p % c - k by omega]
     ·rw [if_neg (by omega), hz, List.getElem?_append_right (by rw [List.length_append, List.length_take]; omega), List.length_append, List.length_take, Nat.min_eq_left (by omega), List.getElem?_drop, show k + us.length + (p % c - (k + us.length)) = p % c by omega]
   ·rw [List.getElem?_set_ne ht] at hx
    rw [if_neg ?_, hold x hx]
    intro hh
    rcases Nat.lt_or_ge (p / c) i with h | h
    ·have : p / c * c + c ≤ i * c := by rw [← Nat.succ_mul]; exact Nat.mul_le_mul_right c h
     omega
    ·have h : i < p / c := by omega
     have : i * c + c ≤ p / c * c := by rw [← Nat.succ_mul]; exact Nat.mul_le_mul_right c h
     omega
  ·rw [List.getElem?_eq_none (by rw [List.length_take]; omega), List.getElem?_eq_none (by rw [flat_len hlen, List.length_set]; omega)]
end
section
variable {P : Program} {B : Code} {R : Pst} {ds : List Deferred} {n : Nat} {p : Option (Nat × Nat)} {L : Frm} {w w0 : World} {r' i' : Nat} {F : List Ft} {F0 : Nat → Prop} {M : List Ent}
variable {α : Type} {f : α → List Value} {c E TS : Nat} {q : Option Addr} {A : List α} {g cap m : Nat}
/-- Where an element of a row lies. -/
theorem Mm.el (X : ElT P f c TS E) (hM : Mm F0 w0 w M) {j : Nat} (hj : M[j]? = some (rw_ f c E (.slice q m cap) A)) {i : Nat} {y : α} (hy : A[i]? = some y) : ∃ g, q = some ⟨g, 0, none⟩ ∧ w.rangeAt g (0 + i * c) (f y) :=
 ow_at X.len (hM.get j hj) hy
theorem ldr (T j k : Nat) {i : Nat} {y : α} {v : Value} (X : ElT P f c TS E) (hM : Mm F0 w0 w M) (hj : M[j]? = some (rw_ f c E (.slice q m cap) A)) (hq : q = some ⟨g, 0, none⟩) (hy : A[i]? = some y) (hv : (f y)[k]? = some v) (hT : scT P T = true := by kernel_rfl) : Ft.ok P w (.g1 (.load T) (vP g (0 + i * c + k)) v) := by
 obtain ⟨g', h1, h2⟩ := hM.el X hj hy
 rw [hq] at h1
 injection h1 with h1
 injection h1 with h1 _ _
 subst h1
 exact ld T (h2 k v hv) hT
theorem lar (T j k l : Nat) {i : Nat} {y : α} (X : ElT P f c TS E) (hM : Mm F0 w0 w M) (hj : M[j]? = some (rw_ f c E (.slice q m cap) A)) (hq : q = some ⟨g, 0, none⟩) (hy : A[i]? = some y) (hT : agT P T (((f y).drop k).take l).length = true := by kernel_rfl) : Ft.ok P w (.g1 (.load T) (vP g (0 + i * c + k)) (vA (((f y).drop k).take l))) := by
 obtain ⟨g', h1, h2⟩ := hM.el X hj hy
 rw [hq] at h1
 injection h1 with h1
 injection h1 with h1 _ _
 subst h1
 exact la T (rs h2 k l) hT
/-- What a store into an element of a row leaves. -/
theorem Mm.rowput (X : ElT P f c TS E) (hM : Mm F0 w0 w M) {j : Nat} (hj : M[j]? = some (rw_ f c E (.slice q m cap) A)) (hq : q = some ⟨g, 0, none⟩) {i k : Nat} {y y' : α} {us : List Value} (hy : A[i]? = some y) (hk : k + us.length ≤ c) (hy' : f y' = (f y).take k ++ us ++ (f y).drop (k + us.length)) (ho : us.all (·.oneCell') = true) :
  ∃ w', (storeCells ⟨g, 0 + i * c + k, none⟩ us 0).run P w = .ok () w' ∧ Mm F0 w0 w' (M.set j (rw_ f c E (.slice q m cap) (A.set i y'))) := by
 obtain ⟨w', r1, r2, r3⟩ := ow_store (P := P) X.len (hM.get j hj) hq hy hk hy' ho
 refine ⟨w', r1, hM.put j hj r3 (fun k _ e => ?_) r2 fun k e => .inl e⟩
 subst e
 show (Value.slice q m cap).ownBlock = some k
 rw [hq]; rfl
theorem store_run {T : TypeId} {w w' : World} {g off : Nat} {v : Value} {o : Oper} {ρ : Operand → Value} {x y : Operand} (hT : (P.info? T).map (·.size) = some v.cells.size) (ho : o.op = .store T x y) (hx : ρ x = vP g off) (hy : ρ y = v) (g1 : (storeCells ⟨g, off, none⟩ v.cells.toList 0).run P w = .ok () w') : (execOp ρ o).run P w = .ok .skip w' := by
 obtain ⟨i, hi, hs⟩ := Option.map_eq_some_iff.1 hT
 have hs : i.size = v.cells.size := hs
 simp only [execOp, ho, hx, hy, Instr.storeAt, Instr.sureAddr, storeVar, sizeOf, typeInfo]
 generalize v.cells = cc at *
 simp [go_sem, hi, hs, g1]
end
section
variable {rd : Option Nat} {P : Program} {B : Code} {ds : List Deferred} {n : Nat} {L : Frm} {w w0 : World} {r : Nat} {F0 : Nat → Prop} {ef : List Nat} {V : Lts → List (Option Value)} {F : Lts → List Ft} {Mf : Lts → List Bool → List Ent}
variable {α : Type} {f : α → List Value} {c E TS : Nat} {q : Option Addr} {g cap m : Nat}
/-- A store into an element of a row, in a region that draws its order. -/
theorem ar_str (p i T j k e : Nat) (A : List α) {y : α} (y' : α) (v : Lts → Value) (X : ElT P f c TS E) (hq : q = some ⟨g, 0, none⟩) (hy : A[e]? = some y)
  (hy' : ∀ γ, f y' = (f y).take k ++ (v γ).cells.toList ++ (f y).drop (k + (v γ).cells.toList.length))
  (hj : ∀ γ fr, (Mf γ (flg B r ef i fr))[j]? = some (rw_ f c E (.slice q m cap) A) := by intro γ fr; kernel_rfl)
  (hm : ∀ γ fr, (Mf γ (flg B r ef i fr)).set j (rw_ f c E (.slice q m cap) (A.set e y')) = Mf (setL γ p undef) ((flg B r ef i fr).set p true) := by intro γ fr; kernel_rfl)
  (hT : ∀ γ, (Nat.ble (k + (v γ).cells.toList.length) c, (v γ).cells.toList.all (·.oneCell'), (P.info? T).map (·.size), ((V (setL γ p undef))[p]?).getD none) = (true, true, some (v γ).cells.size, none) := by intro γ; kernel_rfl)
  (hs : ∀ γ, st2L (opsR B r) i (frX P w n B r L ef V F i γ) = st2R (opsR B r) i (fun x y => .store T x y) (vP g (0 + e * c + k)) (v γ) none := by intro γ; kernel_rfl) : Arm rd P w n B r L ef V F ds F0 w0 Mf p i := by
 intro γ fr a wm Q o ho En hw hM
 obtain ⟨x, z, h1, h2, h3, h4⟩ := st2_of ho En (hs γ)
 have ht := hT γ
 simp only [Prod.mk.injEq] at ht
 obtain ⟨t1, t2, t3, t4⟩ := ht
 obtain ⟨w', g1, g2⟩ := hM.rowput X (hj γ fr) hq hy (Nat.le_of_ble_eq_true t1) (hy' γ) t2
 rw [hm] at g2
 exact wf_skip (store_run t3 h1 h2 h3 g1) h4 ⟨undef, γ.e p, by rw [setE_sl, t4]; rfl, by rw [setE_sl]; exact g2⟩
/-- A load out of an element of a row, in a region that draws its order and changes the row. -/
theorem ar_ldr (p i T j k e d : Nat) (A : List α) {y : α} (v : Lts → Value) (X : ElT P f c TS E) (hq : q = some ⟨g, 0, none⟩) (hy : A[e]? = some y)
  (hv : ∀ γ, (f y)[k]? = some (v γ))
  (hj : ∀ γ fr, (Mf γ (flg B r ef i fr))[j]? = some (rw_ f c E (.slice q m cap) A) := by intro γ fr; kernel_rfl)
  (hm : ∀ γ fr, Mf γ (flg B r ef i fr) = Mf (setL γ p undef) ((flg B r ef i fr).set p true) := by intro γ fr; kernel_rfl)
  (hV : ∀ γ, ((V (setL γ p undef))[p]?).getD none = some (v γ) := by intro γ; rfl) (hT : scT P T = true := by kernel_rfl)
  (hs : ∀ γ, st1L (opsR B r) i (frX P w n B r L ef V F i γ) = st1R (opsR B r) i (.load T) (vP g (0 + e * c + k)) (some d) := by intro γ; kernel_rfl) : Arm rd P w n B r L ef V F ds F0 w0 Mf p i := by
 intro γ fr a wm Q o ho En hw hM
 obtain ⟨x, h1, h2, h3⟩ := st1_of ho En (hs γ)
 obtain ⟨g', e1, e2⟩ := hM.el X (hj γ fr) hy
 rw [hq] at e1
 injection e1 with e1
 injection e1 with e1 _ _
 subst e1
 have hl := run_load1 (P := P) hT (e2 k _ (hv γ))
 rw [hm] at hM
 refine wf_val (v := v γ) (w' := wm) ?_ ⟨undef, γ.e p, by rw [setE_sl, hV, h3]; rfl, by rw [setE_sl]; exact hM⟩
 simp only [execOp, h1, h2, Sem.run_bind, hl, Result.andThen_ok, Sem.run_pure]
end
theorem srcfw {α : Type} {f : α → List Value} {c : Nat} {w w' : World} {B : Nat} {p : Option Addr} {cap : Nat} {L : List α} {G : Nat → Prop} (h : SrcB f c w B p cap L) (k : Fr G w w') (hG : ∀ k, G k → B ≤ k) : SrcB f c w' B p cap L := ⟨h.le, h.ca, h.at_.fr k fun r hr hg => by have := hG r hg; omega, h.nil⟩
/-- A source apart from what is changed. -/
def Apt {α : Type} (f : α → List Value) (c : Nat) (G : Nat → Prop) (w : World) (v : Value) (L : List α) : Prop := ∀ w', Fr G w w' → Src f c w' v L
theorem apt_nil {α : Type} {f : α → List Value} {c : Nat} {G : Nat → Prop} {w : World} : Apt f c G w (.slice none 0 0) ([] : List α) := fun w' _ => Src.nil w'
theorem apt_of {α : Type} {f : α → List Value} {c : Nat} {G : Nat → Prop} {w : World} {b : Nat} {cs : Array Value} {T : TypeId} {v : Value} {L : List α} (h : w.heap[b]? = some (.cells cs T (0, 0))) (hn : ¬ G b) (hs : ∀ w', w'.heap[b]? = some (.cells cs T (0, 0)) → Src f c w' v L) : Apt f c G w v L := fun w' fr => hs w' (fr.obj h hn)
theorem Apt.mono {α : Type} {f : α → List Value} {c : Nat} {G G' : Nat → Prop} {w w' : World} {v : Value} {L : List α} (h : Apt f c G w v L) (k : Fr G w w') (hs : ∀ k, G' k → G k ∨ w.heap.size ≤ k) : Apt f c G' w' v L := fun w9 f9 => h w9 (k.trans' f9 fun r hr hg => (hs r hg).elim id fun h => by omega)
theorem Mm.notin {F0 : Nat → Prop} {w0 w : World} {M : List Ent} (h : Mm F0 w0 w M) {i : Nat} {js : List Nat} {x : Ent} {b : Nat} (hi : M[i]? = some x) (hb : x.B b) (hn : i ∉ js) : ¬ BlM (pickE M js) b := by
 rintro ⟨e, he, heb⟩
 obtain ⟨j, hj, hje⟩ := pickE_mem he
 have h1 := (List.getElem?_eq_some_iff.1 hi)
 have h2 := (List.getElem?_eq_some_iff.1 hje)
 obtain ⟨l1, e1⟩ := h1
 obtain ⟨l2, e2⟩ := h2
 rcases Nat.lt_trichotomy i j with hl | hl | hl
 ·exact List.pairwise_iff_getElem.1 h.nd i j l1 l2 hl b (by rw [e1]; exact hb) (by rw [e2]; exact heb)
 ·subst hl; exact hn hj
 ·exact List.pairwise_iff_getElem.1 h.nd j i l2 l1 hl b (by rw [e2]; exact heb) (by rw [e1]; exact hb)
theorem blM1 {Ms : List Ent} {b : Nat} {cs : Array Value} {T : TypeId} (hp : Ms = [bk b cs T]) {k : Nat} (h : BlM Ms k) : k = b := by
 obtain ⟨e, he, hb⟩ := h
 rw [hp, List.mem_singleton] at he
 subst he
 exact hb
theorem blM2 {Ms : List Ent} {b : Nat} {cs : Array Value} {T : TypeId} {e2 : Ent} (hp : Ms = [bk b cs T, e2]) {k : Nat} (h : BlM Ms k) : k = b ∨ e2.B k := by
 obtain ⟨e, he, hb⟩ := h
 rw [hp] at he
 simp only [List.mem_cons, List.not_mem_nil, or_false] at he
 rcases he with rfl | rfl
 ·exact .inl hb
 ·exact .inr hb
/-! ### yields in regions that draw their order, where no round stops -/
/-- An entry of which something is known. -/
def pfE (Q : Ent → Prop) (e : Ent) : Ent where
 B := e.B
 H := fun w => Q e ∧ e.H w
 lt := fun h k => e.lt h.2 k
 fr := fun h f hd => ⟨h.1, e.fr h.2 f hd⟩
theorem Mm.pf {F0 : Nat → Prop} {w0 w : World} {M : List Ent} {Q : Ent → Prop} {e : Ent} {j : Nat} (h : Mm F0 w0 w M) (hj : M[j]? = some e) (hQ : Q e) : Mm F0 w0 w (M.set j (pfE Q e)) :=
 h.put j hj (Fr.refl (fun _ => False) w) (fun k _ e => e.elim) (e' := pfE Q e) ⟨hQ, h.get j hj⟩ fun k e => .inl e
section
variable {rd : Option Nat} {P : Program} {B : Code} {ds : List Deferred} {n : Nat} {L : Frm} {w w0 : World} {r : Nat} {F0 : Nat → Prop} {ef : List Nat} {V : Lts → List (Option Value)} {F : Lts → List Ft} {Mf : Lts → List Bool → List Ent}
/-- An entry of a map that is written later on is looked up. -/
theorem ar_lk (p i T j d c : Nat) {K e : TypeId} (b : Nat) (m : Value → Option Value) (key z v : Value) (LK : Maps.Keyed P K) (ht : P.underlying T = some (.map K e)) (hk : ∃ l, keyOf P K key = some l) (hz : ∀ w, (zeroValue e).run P w = .ok z w) (hv : (m key).getD z = v)
  (hj : ∀ γ fr, (Mf γ (flg B r ef i fr))[j]? = some (mp P K b c m) := by intro γ fr; kernel_rfl)
  (hm : ∀ γ fr, Mf γ (flg B r ef i fr) = Mf (setL γ p undef) ((flg B r ef i fr).set p true) := by intro γ fr; kernel_rfl)
  (hV : ∀ γ, ((V (setL γ p undef))[p]?).getD none = some v := by intro γ; rfl)
  (hs : ∀ γ, st2L (opsR B r) i (frX P w n B r L ef V F i γ) = st2R (opsR B r) i (fun x y => .lookup T x y false) (.map (some b)) key (some d) := by intro γ; kernel_rfl) : Arm rd P w n B r L ef V F ds F0 w0 Mf p i := by
 intro γ fr a wm Q o ho E hw hM
 obtain ⟨x, y, h1, h2, h3, h4⟩ := st2_of ho E (hs γ)
 obtain ⟨l, hk⟩ := hk
 have hmm : MapN P K wm b c m := hM.get j (hj γ fr)
 have hl := hmm.at.look LK ht hk (hz wm)
 rw [hv] at hl
 rw [hm] at hM
 refine wf_val (v := v) (w' := wm) ?_ ⟨undef, γ.e p, by rw [setE_sl, hV, h4]; rfl, by rw [setE_sl]; exact hM⟩
 simp only [execOp, h1, h2, h3, Sem.run_bind, hl, Result.andThen_ok, Sem.run_pure]
theorem ar_yld (p i j d k : Nat) (ts : Array TypeId) {l : Nat} {v : Value} {J : Nat → Ent → Prop} (e : Lts → Ent)
  (hR : ∀ γ wm, J k (e γ) → (e γ).H wm → Fr F0 w0 wm → RoundOf P l #[v] wm (RndP J k (e γ) wm) fun _ => False)
  (hj : ∀ γ fr, (Mf γ (flg B r ef i fr))[j]? = some (pfE (J k) (e γ)) := by intro γ fr; kernel_rfl)
  (hm : ∀ γ fr e', (Mf γ (flg B r ef i fr)).set j (pfE (J (k + 1)) e') = Mf (setE (setL γ p (.bool true)) p e') ((flg B r ef i fr).set p true) := by intro γ fr e'; kernel_rfl)
  (hV : ∀ γ e', ((V (setE (setL γ p (.bool true)) p e'))[p]?).getD none = some (.bool true) := by intro γ e'; rfl)
  (hs : ∀ γ, st2L (opsR B r) i (frX P w n B r L ef V F i γ) = st2R (opsR B r) i (fun x y => .call ⟨.value x, #[y], ts⟩) (.func (.yield l) #[] #[]) v (some d) := by intro γ; kernel_rfl) : Arm rd P w n B r L ef V F ds F0 w0 Mf p i := by
 intro γ fr a wm Q o ho E hw hM
 obtain ⟨x, y, h1, h2, h3, h4⟩ := st2_of ho E (hs γ)
 obtain ⟨hJ, hH⟩ := hM.get j (hj γ fr)
 refine wf_yield (fun _ _ _ _ h => run_yieldc h1 h2 h3 h) (hR γ wm hJ hH hM.fr) (fun w' hw' => ?_) fun w' h => h.elim
 obtain ⟨e', g1, g2, g3, g4⟩ := hw'
 have hM' := hM.put (w' := w') j (hj γ fr) g4 (fun k _ e => e) (e' := pfE (J (k + 1)) e') ⟨g1, g2⟩ g3
 rw [hm] at hM'
 exact ⟨.bool true, e', by rw [hV, h4]; rfl, hM'⟩
end
end Go.Pl
/- Deferred calls that recover. Over whatever program. -/
set_option linter.unusedVariables false
set_option linter.unusedSimpArgs false
namespace Go.Pl
open Go.RowKit
section
variable {P : Program} {B : Code} {n : Nat} {p : Option (Nat × Nat)} {L : Frm} {w w0 : World} {F : List Ft} {F0 : Nat → Prop} {M : List Ent} {fn : Func} {Φ : Ending → World → Prop}
/-- A function with deferred calls. -/
abbrev wholeD (P : Program) (fn : Func) (Φ : Ending → World → Prop) : Pst := ⟨bodyPostD P fn Φ, none⟩
theorem begD {f : FuncId} {args : Array Value} (hf : P.funcs[f]? = some fn) (hb : fn.body = some B) (hn : fn.ntmps = n) (L : Frm) (hL : L = (List.range args.size).zip args.toList) (hs : Nat.ble args.size n = true) (k : ∀ Φ' : Ending → World → Prop, (∀ e w', Φ e w' → Φ' e w') → AtO P B (wholeD P fn Φ') [] n none L w) : Calls P f args w Φ := by
 have hs : args.size ≤ n := Nat.le_of_ble_eq_true hs
 exact calls_of_wp_defers hf hb (wpIn_wide.1 (k Φ (fun _ _ h => h) _ (env_args hn hL hs)))
end
section
variable {P : Program} {B : Code} {R : Pst} {ds : List Deferred} {n : Nat} {p : Option (Nat × Nat)} {L : Frm} {w w0 : World} {F : List Ft} {F0 : Nat → Prop} {M A Ms : List Ent}
def dfrAt (n : Nat) (LL : Frm) : Md → Option (Option Bool × Bool × Option Value)
 | .ops _ O (o :: _) _ _ => match o.op with
  | .defer ⟨.value x, args, ts⟩ => some (wantL O LL n o, o.dst.isNone && args.isEmpty && ts.isEmpty, opv LL x)
  | _ => none
 | _ => none
/-- A call is laid by. -/
theorem dfr (r' i' : Nat) (N : Frm) (f : FuncId) (cs : Array Value) (hF : AllF P w F) (k : AtO P B R ({ target := .fn (.func f) cs, args := #[] } :: ds) n (some (r', i' + 1)) (N ++ L) w) (hR : R.rd = none)
  (h : (lhs (go P w n B p L r' i' F) N L, (go P w n B p L r' i' F).bind fun x => dfrAt n (x.2.1 ++ L) x.1) = (rhs (go P w n B p L r' i' F) N B r' i', some (some true, true, some (.func (.func f) #[] cs))) := by kernel_rfl) : AtO P B R ds n p L w := by
 obtain ⟨h1, h2⟩ := Prod.mk.inj h
 obtain ⟨m, nw, fs, es, hx, hE, ⟨z, hl, ht⟩, hs⟩ := chk_out h1
 rw [hx] at h2
 obtain ⟨O, dr, kk, hf, hk⟩ := k
 refine go_ok hx hF hE fun a E => ?_
 unfold dfrAt at h2
 unfold tgtOf at ht
 rw [hf] at ht
 cases m with
 | ops r O1 l i k1 =>
  cases l with
  | nil => cases h2
  | cons o l =>
   simp only [Option.bind_some] at h2
   split at h2
   ·rename_i x args ts hop
    simp only [Option.some.injEq, Prod.mk.injEq, Bool.and_eq_true] at h2
    obtain ⟨g1, ⟨⟨g2, g3⟩, g4⟩, g5⟩ := h2
    have ha : args = #[] := Array.isEmpty_iff.1 g3
    have hts : ts = #[] := Array.isEmpty_iff.1 g4
    subst ha hts
    have hd : o.dst = none := by simpa using g2
    have hr : (execOp a.eval o).run P w = .ok (.defer { target := .fn (.func f) cs, args := #[] }) w := by
     have hg : ∀ ρ : Operand → Value, ρ x = .func (.func f) #[] cs → (execOp ρ o).run P w = .ok (.defer { target := .fn (.func f) cs, args := #[] }) w := by
      intro ρ hx
      simp [execOp, hop, hx, go_sem]
     exact hg _ (E.opv g5)
    have hE2 : EnvS ({ target := .fn (.func f) cs, args := #[] } :: ds) n (N ++ L) { a with defers := { target := .fn (.func f) cs, args := #[] } :: a.defers } := ⟨(E.sub hs).size, (E.sub hs).at_, by show _ :: a.defers = _ :: ds; rw [E.df]⟩
    have hk := hk _ hE2
    cases dr with
    | true =>
     cases i' with
     | zero => cases ht; cases hl
     | succ i' => cases ht
    | false =>
    cases ht
    have hl : (some (O1, false, k1, o :: l, 0) : Option (Array Oper × Bool × List Kon × List Oper × Nat)) = some (O, false, kk, O.toList.drop i', 0) := hl
    simp only [Option.some.injEq, Prod.mk.injEq] at hl
    obtain ⟨rfl, _, rfl, hl, _⟩ := hl
    have hdr : O1.toList.drop (i' + 1) = l := by rw [← List.tail_drop, ← hl]; rfl
    have hk : wpListIn (fen R.rd) 0 P O1 (post P R k1) (O1.toList.drop (i' + 1)) { a with defers := { target := .fn (.func f) cs, args := #[] } :: a.defers } w := hk
    rw [hdr] at hk
    show wpListIn (fen R.rd) 0 P O1 (post P R k1) (o :: l) a w
    refine sf_op (want_true g1 E) ⟨fun _ _ => trivial, ?_⟩
    have hr9 : (o.semAt (fen R.rd).round a.eval).run P w = .ok (.defer { target := .fn (.func f) cs, args := #[] }) w := by
     have : (fen R.rd).round = none := hR
     rw [this, Oper.semAt_none]; exact hr
    rw [hr9, Oper.uponIn_defer, hd]
    exact hk
   ·cases h2
 | _ => cases h2
/-- An operation that answers with a value, in the same world. -/
theorem opp (r' i' d : Nat) (N : Frm) {v : Value} (hF : AllF P w F) (k : AtO P B R ds n (some (r', i' + 1)) ((d, v) :: (N ++ L)) w) (h : (lhs (go P w n B p L r' i' F) N L, opOf P w n L (go P w n B p L r' i' F)) = (rhs (go P w n B p L r' i' F) N B r' i', some (d, .ok (.value v, w))) := by kernel_rfl) : AtO P B R ds n p L w := opx r' i' d N hF k h
/-- A new block, and where it lies. -/
theorem newmB (r' i' d : Nat) (N : Frm) {cs : Array Value} {T : TypeId} {v : Nat → Value} (hF : AllF P w F) (hM : Mm F0 w0 w M) (k : ∀ b w', Fr (fun _ => False) w w' → w.heap.size ≤ b → Mm F0 w0 w' (M ++ [bk b cs T]) → AtO P B R ds n (some (r', i' + 1)) ((d, v b) :: (N ++ L)) w') (h : (lhs (go P w n B p L r' i' F) N L, opOf P w n L (go P w n B p L r' i' F)) = (rhs (go P w n B p L r' i' F) N B r' i', some (d, .ok (.value (v w.heap.size), w.alloc (.cells cs T)))) := by kernel_rfl) : AtO P B R ds n p L w :=
 opx r' i' d N hF (k _ _ ((Fr.refl _ _).alloc _) (Nat.le_refl _) (hM.add ((Fr.refl _ _).alloc _) _ (blk_alloc_new _ _) fun k e => by have : k = w.heap.size := e; omega)) h
/-- A call that panics: what is kept. -/
theorem calEM (r' i' d : Nat) (N : Frm) {g : FuncId} {args : Array Value} {ch : List PanicEntry} (is js : List Nat) (hF : AllF P w F) (hM : Mm F0 w0 w M) (hA : pickE M is = A) (hS : pickE M js = Ms) (hn : (is ++ js).Nodup) (hc : Mm (BlM Ms) w w Ms → Calls P g args w fun e w' => e = .panicked ch ∧ Fr (BlM Ms) w w') (k : ∀ a w', Mm F0 w0 w' A → EnvS ds n (N ++ L) a → R.q (.panic ch) a w') (h : (lhs (go P w n B p L r' i' F) N L, opOf P w n L (go P w n B p L r' i' F)) = (rhs (go P w n B p L r' i' F) N B r' i', some (d, .ok (.enter g args, w))) := by kernel_rfl) : AtO P B R ds n p L w :=
 oper_at hF h fun O kk o l a hf hd1 E hd hdn hw hr => by
  have hp : pickE M (is ++ js) = A ++ Ms := by rw [← hA, ← hS, pickE_app]
  have hM1 := hM.pick (is ++ js) hp hn
  have hMs : Mm F0 w0 w Ms := hM.pick js hS (List.nodup_append.1 hn).2.1
  refine sf_op hw (wf_calp (R := fun _ _ => False) (Rp := fun c w' => c = ch ∧ Fr (BlM Ms) w w') hr ((hc (hMs.re fun e he k hk => ⟨e, he, hk⟩)).mono fun e w' h => .inr ⟨ch, h.1, rfl, h.2⟩) (fun _ _ h => h.elim) fun c w' ⟨hc, hf9⟩ => ?_)
  subst hc
  have h9 : Mm (BlM Ms) w w' [] := ⟨hf9, fun _ h => (by cases h), fun _ h => (by cases h), .nil⟩
  have h8 := hM1.call h9 fun _ _ h => h
  rw [List.append_nil] at h8
  exact post_panic (k a w' h8 E)
end
section
variable {P : Program} {B : Code} {n : Nat} {p : Option (Nat × Nat)} {L : Frm} {w w0 : World} {F : List Ft} {F0 : Nat → Prop} {M : List Ent} {fn : Func} {Φ : Ending → World → Prop} {t2 t3 t4 T2 T3 T4 b2 b3 b4 : Nat} {v2 v3 v4 : Value}
/-- The end, three results in cells, where a deferred call does nothing. -/
theorem rt3cD {f : FuncId} {cs : Array Value} (hi : ∀ w, (invoke (.fn (.func f) cs) #[]).run P w = .ok (.enter f cs) w) (j2 j3 j4 : Nat) (hr : fn.results = #[.cell t2 T2, .cell t3 T3, .cell t4 T4]) (hd : CallsD P f cs .returning w fun e u w' => e = .returned (.tuple #[]) ∧ u = .returning ∧ w' = w) (hF : AllF P w F) (hM : Mm F0 w0 w M) (m2 : M[j2]? = some (bk b2 #[v2] T2)) (m3 : M[j3]? = some (bk b3 #[v3] T3)) (m4 : M[j4]? = some (bk b4 #[v4] T4)) (k : Φ (.returned (.tuple #[v2, v3, v4])) w)
  (hs : (scT P T2, scT P T3, scT P T4, look [(t2, vP b2 0), (t3, vP b3 0), (t4, vP b4 0)] t3, look [(t2, vP b2 0), (t3, vP b3 0), (t4, vP b4 0)] t4) = (true, true, true, some (vP b3 0), some (vP b4 0)) := by kernel_rfl)
  (h : finL (go P w n B p L 1000000 0 F) [(t2, vP b2 0), (t3, vP b3 0), (t4, vP b4 0)] L = finR (go P w n B p L 1000000 0 F) [(t2, vP b2 0), (t3, vP b3 0), (t4, vP b4 0)] := by kernel_rfl) : AtO P B (wholeD P fn Φ) [{ target := .fn (.func f) cs, args := #[] }] n p L w := by
 simp only [Prod.mk.injEq] at hs
 obtain ⟨s1, s2, s3, s4, s5⟩ := hs
 refine fin_ _ hF h fun a E => ?_
 have hL : Leaves P fn a.tmps Φ a.defers .returning w := by
  rw [E.df]
  refine leaves_cons (f := f) (args := cs) (by simp) (hi _) (hd.mono ?_)
  rintro e u w8 ⟨rfl, rfl, rfl⟩
  exact ⟨_, res3M hr (E.at_ t2 _ (by simp [look])) (E.at_ t3 _ s4) (E.at_ t4 _ s5) j2 j3 j4 m2 m3 m4 (by rw [s1, s2, s3]) hM, k⟩
 exact ⟨hL, hL⟩
/-- The same with nothing laid by. -/
theorem rt3c0 (j2 j3 j4 : Nat) (hr : fn.results = #[.cell t2 T2, .cell t3 T3, .cell t4 T4]) (hF : AllF P w F) (hM : Mm F0 w0 w M) (m2 : M[j2]? = some (bk b2 #[v2] T2)) (m3 : M[j3]? = some (bk b3 #[v3] T3)) (m4 : M[j4]? = some (bk b4 #[v4] T4)) (k : Φ (.returned (.tuple #[v2, v3, v4])) w)
  (hs : (scT P T2, scT P T3, scT P T4, look [(t2, vP b2 0), (t3, vP b3 0), (t4, vP b4 0)] t3, look [(t2, vP b2 0), (t3, vP b3 0), (t4, vP b4 0)] t4) = (true, true, true, some (vP b3 0), some (vP b4 0)) := by kernel_rfl)
  (h : finL (go P w n B p L 1000000 0 F) [(t2, vP b2 0), (t3, vP b3 0), (t4, vP b4 0)] L = finR (go P w n B p L 1000000 0 F) [(t2, vP b2 0), (t3, vP b3 0), (t4, vP b4 0)] := by kernel_rfl) : AtO P B (wholeD P fn Φ) [] n p L w := by
 simp only [Prod.mk.injEq] at hs
 obtain ⟨s1, s2, s3, s4, s5⟩ := hs
 refine fin_ _ hF h fun a E => ?_
 have hL : Leaves P fn a.tmps Φ a.defers .returning w := by
  rw [E.df]
  exact ⟨_, res3M hr (E.at_ t2 _ (by simp [look])) (E.at_ t3 _ s4) (E.at_ t4 _ s5) j2 j3 j4 m2 m3 m4 (by rw [s1, s2, s3]) hM, k⟩
 exact ⟨hL, hL⟩
/-- A panic, caught by the deferred call, which sets the results. -/
theorem pan3c {f : FuncId} {cs : Array Value} {a : Act} {ch ch' : List PanicEntry} (hi : ∀ w, (invoke (.fn (.func f) cs) #[]).run P w = .ok (.enter f cs) w) (hr : fn.results = #[.cell t2 T2, .cell t3 T3, .cell t4 T4]) (E : EnvS [{ target := .fn (.func f) cs, args := #[] }] n L a) (l2 : look L t2 = some (vP b2 0)) (l3 : look L t3 = some (vP b3 0)) (l4 : look L t4 = some (vP b4 0)) (hs : (scT P T2, scT P T3, scT P T4) = (true, true, true)) (hch : settle (.panicking ch') = .returning)
  (hd : CallsD P f cs (.panicking ch) w fun e u w' => e = .returned (.tuple #[]) ∧ u = .panicking ch' ∧ w'.heap[b2]? = some (.cells #[v2] T2 (0, 0)) ∧ w'.heap[b3]? = some (.cells #[v3] T3 (0, 0)) ∧ w'.heap[b4]? = some (.cells #[v4] T4 (0, 0)) ∧ Φ (.returned (.tuple #[v2, v3, v4])) w') : bodyPostD P fn Φ (.panic ch) a w := by
 show Leaves P fn a.tmps Φ a.defers (.panicking ch) w
 rw [E.df]
 refine leaves_cons (f := f) (args := cs) (by simp) (hi _) (hd.mono ?_)
 rintro e u w8 ⟨rfl, rfl, g2, g3, g4, h⟩
 show Leaves P fn a.tmps Φ [] (settle (.panicking ch')) w8
 rw [hch]
 simp only [Prod.mk.injEq] at hs
 exact ⟨_, res3c hr (E.at_ t2 _ l2) (E.at_ t3 _ l3) (E.at_ t4 _ l4) (run_load1 hs.1 (bx g2 0 rfl)) (run_load1 hs.2.1 (bx g3 0 rfl)) (run_load1 hs.2.2 (bx g4 0 rfl)), h⟩
end
end Go.Pl
/- Arcs. -/
set_option linter.unusedVariables false
set_option linter.unusedSimpArgs false
namespace Go.Proofs.YtbflfefahheidaaGreatDoor
open Go.RowKit Go.Pl
abbrev Arc := Bys × Bys × Bys × Int
abbrev arcV (a : Arc) : Value := .agg #[vS a.1, vS a.2.1, vS a.2.2.1, vI a.2.2.2]
def arcLen (l : List Ob) (a b : Bys) : Int := max 1 (rootI (distP ((nodeP l a).getD (0, 0)) ((nodeP l b).getD (0, 0))))
def segs (l : List Ob) (w : Bys) : List Bys → List Arc
  | a :: b :: t => (a, b, w, arcLen l a b) :: (b, a, w, arcLen l a b) :: segs l w (b :: t)
  | _ => []
def arcsO (os : List ObR) (b : ObR) : List Arc := bif b.o.kind == 2 then (match wayB (isNode (pure_ os)) os b.o.id with | some c => segs (pure_ os) b.o.id c.o.refs | none => []) else []
def arcsP (os : List ObR) : List Arc := os.flatMap (arcsO os)
theorem wayB_some {N : Bys → Bool} {id : Bys} {c : ObR} {l : List ObR} (h : wayB N l id = some c) : c ∈ l ∧ c.o.id = id ∧ (c.o.kind == 2) = true ∧ c.o.refs.all N = true := by
  have key : ∀ (l : List ObR) (r : Option ObR), l.foldl (fun r b => bif ((b.o.kind == 2) && b.o.refs.all N) && (b.o.id == id) then some b else r) r = some c → r = some c ∨ (c ∈ l ∧ (((c.o.kind == 2) && c.o.refs.all N) && (c.o.id == id)) = true) := by
    intro l
    induction l with
    | nil => intro r h; exact .inl h
    | cons b l ih =>
      intro r h
      rw [List.foldl_cons] at h
      rcases ih _ h with h1 | h1
      · cases hb : ((b.o.kind == 2) && b.o.refs.all N) && (b.o.id == id) with
        | true => rw [hb] at h1; cases h1; exact .inr ⟨.head _, hb⟩
        | false => rw [hb] at h1; exact .inl h1
      · exact .inr ⟨.tail _ h1.1, h1.2⟩
  rcases key l none h with h1 | ⟨h1, h2⟩
  · cases h1
  · simp only [Bool.and_eq_true] at h2
    exact ⟨h1, by simpa using h2.2, h2.1.1, h2.1.2⟩
theorem way_row {W : World} {B : Nat} {os : List ObR} (N : Bys → Bool) (id : Bys) (hs : ∀ b ∈ os, SrcB stL 1 W B b.pr b.cr b.o.refs) (hb : ∀ b ∈ os, ObB b.o) : ∃ p cap rs, (wayM N os (vS id)).getD (vL none 0 0) = vL p rs.length cap ∧ SrcB stL 1 W B p cap rs ∧ (∀ s ∈ rs, B63 s) ∧ ∀ f : List Bys → List Arc, f [] = [] → (match wayB N os id with | some c => f c.o.refs | none => []) = f rs := by
  rw [wayM_at]
  cases h : wayB N os id with
  | none => exact ⟨none, 0, [], rfl, ⟨Nat.le_refl _, by omega, .inl rfl, fun _ => rfl⟩, fun s h => (by cases h), fun f hf => hf.symm⟩
  | some c =>
    obtain ⟨h1, -⟩ := wayB_some h
    exact ⟨_, _, c.o.refs, rfl, hs c h1, (hb c h1).refs, fun f _ => rfl⟩
theorem at1 {α : Type} {l d r : List α} {x : α} (h : l = d ++ x :: r) : l[d.length]? = some x := by subst h; simp
theorem at2 {α : Type} {l d r : List α} {x y : α} (h : l = d ++ x :: y :: r) : l[d.length + 1]? = some y := by subst h; simp
theorem lkN {P : Program} {w : World} (T : Nat) {K e : TypeId} {b c : Nat} {m : Value → Option Value} (key z : Value) (hm : MapN P K w b c m) (LK : Maps.Keyed P K) (ht : P.underlying T = some (.map K e)) (hk : ∃ l, keyOf P K key = some l) (hz : (zeroValue e).run P w = .ok z w) : Ft.ok P w (.g2 (fun x y => .lookup T x y false) (.map (some b)) key ((m key).getD z)) := fun o ρ x y ho hx hy => by
  obtain ⟨l, hk⟩ := hk
  have := hm.at.look LK ht hk hz
  simp only [execOp, ho, hx, hy, Sem.run_bind, this, Result.andThen_ok, Sem.run_pure]
theorem zero28 (w : World) : (zeroValue 28).run Tryz.prog w = .ok (vL none 0 0) w := by kernel_rfl
theorem nod_at (l : List Ob) (s : Bys) : ((nodM l) (vS s)).getD (ptV (0, 0)) = ptV ((nodeP l s).getD (0, 0)) := by
  rw [nodM_at]; cases nodeP l s <;> rfl
theorem segs_at {l : List Ob} {w a b : Bys} {rs : List Bys} {m : Nat} (ha : rs[m]? = some a) (hb : rs[m + 1]? = some b) : segs l w (rs.drop m) = (a, b, w, arcLen l a b) :: (b, a, w, arcLen l a b) :: segs l w (rs.drop (m + 1)) := by
  rw [gd ha, gd hb]; rfl
theorem segs_end {l : List Ob} {w : Bys} {rs : List Bys} {m : Nat} (h : rs.length ≤ m + 1) : segs l w (rs.drop m) = [] := by
  have : (rs.drop m).length ≤ 1 := by rw [List.length_drop]; omega
  cases h1 : rs.drop m with
  | nil => rfl
  | cons a t =>
    cases t with
    | nil => rfl
    | cons b t => rw [h1] at this; simp at this
/-- What the iterator over arcs needs. -/
structure NetK (bt bn b1 b2 n1 n2 : Nat) (p0 : Option Addr) (c0 : Nat) (os : List ObR) (G : Nat → Prop) (W : World) : Prop where
  t : W.heap[bt]? = some (.cells #[vP bn 0] 157 (0, 0))
  n : W.heap[bn]? = some (.cells #[vL p0 os.length c0, .map (some b1), .map (some b2)] 198 (0, 0))
  m1 : MapN Tryz.prog 9 W b1 n1 (nodM (pure_ os))
  m2 : MapN Tryz.prog 9 W b2 n2 (wayM (isNode (pure_ os)) os)
  nt : ¬ G bt
  nn : ¬ G bn
  g1 : ¬ G b1
  g2 : ¬ G b2
  src : ∃ B, SrcB obL 6 W B p0 c0 os ∧ (∀ b ∈ os, SrcB stL 1 W B b.pr b.cr b.o.refs) ∧ ∀ k, G k → B ≤ k
theorem distP_le (a b : Pt) : distP a b ≤ 9223372036854775807 := by
  unfold distP
  cases h : nearP a && nearP b with
  | false => show (0 : Int) ≤ _; omega
  | true =>
    rw [Bool.and_eq_true] at h
    have h1 := near_bnd h.1
    have h2 := near_bnd h.2
    have h3 := sq_bnd (x := b.1 - a.1) (by omega) (by omega)
    have h4 := sq_bnd (x := b.2 - a.2) (by omega) (by omega)
    show (b.1 - a.1) * (b.1 - a.1) + (b.2 - a.2) * (b.2 - a.2) ≤ _
    omega
abbrev A117 (Φ : Ending → World → Prop) := AtO Tryz.prog (bodyOf Tryz.f117) (whole (bodyPost Tryz.prog Tryz.f117 Φ)) [] 90
theorem arcs_yields {bt bn b1 b2 n1 n2 c0 : Nat} {p0 : Option Addr} {os : List ObR} (hob : ∀ b ∈ os, ObB b.o) : IterF Tryz.prog 117 #[vP bt 0] ((arcsP os).map fun a => #[arcV a]) (NetK bt bn b1 b2 n1 n2 p0 c0 os) := by
  intro ly J S w e0 hok hJ0 he hKp hSq hround
  obtain rfl : S = fun _ => False := funext fun W => propext ⟨fun h => hok W h, False.elim⟩
  obtain ⟨ht, hn, hm1, hm2, nt, nn, g1, g2, B, hs, hrs, hG⟩ := hKp
  have bb := hs.bnd
  refine beg Tryz.func117 rfl rfl [(0, .func (.yield ly) #[] #[]), (1, vP bt 0)] rfl rfl fun Φ hΦ => ?_
  have hM := (Mm.one he).pf (j := 0) rfl hJ0
  refine seg 1 0 [(11, vL p0 os.length c0), (12, vI (os.length : Int)), (13, vI 0)] (fc (ld0 157 hM (bx ht 0 rfl) nt) (fc (ld0 22 hM (bx hn 0 rfl) nn) f0)) ?_
  have lp55 : ∀ (m57 : Nat) (i : Nat) (done : List Arc) (ek : Ent) (w2 : World), i ≤ os.length → arcsP os = done ++ (os.drop i).flatMap (arcsO os) → Mm e0.B w w2 [pfE (J done.length) ek] → m57 = os.length - i → A117 Φ (some (1, 0)) [(13, vI (i : Int)), (12, vI (os.length : Int)), (11, vL p0 os.length c0), (0, .func (.yield ly) #[] #[]), (1, vP bt 0)] w2 := by
   refine srec fun m57 ih56 i done ek w2 hi hA hM hm57 => seg 1 1 [(14, vB (decide ((i : Int) < (os.length : Int))))] f0 ?_
   cases h58 : (decide ((i : Int) < (os.length : Int))) with
   | false =>
    have rh58 := df h58
    exact rt0 rfl f0 (hΦ _ _ ⟨⟨_, rfl⟩, .inl ⟨ek, by rw [List.length_map, show arcsP os = done by rw [hA, List.drop_of_length_le (by omega)]; simp]; exact (hM.get 0 rfl).1, (hM.get 0 rfl).2, hM.fr⟩⟩)
   | true =>
    have rh58 := dt h58
    obtain ⟨y, hy, g59, o59, q59, r59, n59⟩ := (hs).eb hG (i := i) (by omega)
    refine varm 2 2 4 [(16, .agg #[vS y.o.id, vI y.o.kind, vI y.o.x, vI y.o.y, vL y.pr y.o.refs.length y.cr, vL y.pt y.o.tags.length y.ct])] [] 64 (.agg #[vS y.o.id, vI y.o.kind, vI y.o.x, vI y.o.y, vL y.pr y.o.refs.length y.cr, vL y.pt y.o.tags.length y.ct]) (fc (ix 22 c0 q59 (gl hy)) (fc (la0 64 hM r59 n59) f0)) hM fun b60 w1 hM => ?_
    obtain ⟨pw, cw, rs, hwv, hrw, hrb, hra⟩ := way_row (isNode (pure_ os)) y.o.id hrs hob
    have bw := hrw.bnd
    refine seg 3 0 [] f0 ?_
    have hM := hM.q ((Fr.refl _ _).drew)
    refine drq [(5, vL pw rs.length cw)] rfl (fc (ld0 157 hM (bx ht 0 rfl) nt) (fc (ld0 196 hM (bx hn 2 rfl) nn) (fc (ldm 9 1 0 hM rfl rfl) (fc (rz2 (lkN 196 (vS y.o.id) (vL none 0 0) (hm2.fr hM.fr g2) law9 Tryz.underlying196 (key9 (hob _ (gm hy)).id) (zero28 _)) hwv) f0)))) (seg 4 3 [(26, vB (!(y.o.kind == 2)))] (fc (ldm 3 1 1 hM rfl rfl) f0) ?_)
    cases h61 : (y.o.kind == 2) with
    | false =>
     have rh61 := ef h61
     have hA : arcsP os = done ++ (os.drop (i + 1)).flatMap (arcsO os) := by rw [hA, gd hy, List.flatMap_cons, show arcsO os y = [] by unfold arcsO; rw [h61]; rfl, List.nil_append]
     refine seg 1 0 [(13, vI ((i : Int) + 1))] (fc (tadd (i : Int) 1 Tryz.underlying3) f0) (fewer _ (ih56 _ (by omega) (i + 1) done ek _ (gl hy) hA (hM.pick [0]) rfl))
    | true =>
     have rh61 := et h61
     have hA1 : arcsP os = done ++ (segs (pure_ os) y.o.id (rs.drop 0) ++ (os.drop (i + 1)).flatMap (arcsO os)) := by rw [hA, gd hy, List.flatMap_cons, show arcsO os y = segs (pure_ os) y.o.id rs by unfold arcsO; rw [h61]; exact hra (segs (pure_ os) y.o.id) rfl]; rfl
     refine seg 6 0 [(6, vI 1)] f0 ?_
     have lp62 : ∀ (m64 : Nat) (m : Nat) (done2 : List Arc) (ek2 : Ent) (w2 : World), m ≤ rs.length → arcsP os = done2 ++ (segs (pure_ os) y.o.id (rs.drop m) ++ (os.drop (i + 1)).flatMap (arcsO os)) → Mm e0.B w w2 [pfE (J done2.length) ek2, bk b60 #[vS y.o.id, vI y.o.kind, vI y.o.x, vI y.o.y, vL y.pr y.o.refs.length y.cr, vL y.pt y.o.tags.length y.ct] 64] → m64 = rs.length - m → A117 Φ (some (6, 0)) [(6, vI ((m : Int) + 1)), (5, vL pw rs.length cw), (4, vP b60 0), (13, vI (i : Int)), (12, vI (os.length : Int)), (11, vL p0 os.length c0), (0, .func (.yield ly) #[] #[]), (1, vP bt 0)] w2 := by
      refine srec fun m64 ih63 m done2 ek2 w2 hm hA2 hM hm64 => seg 6 4 [(30, vB (decide (((m : Int) + 1) < (rs.length : Int))))] f0 ?_
      cases h65 : (decide (((m : Int) + 1) < (rs.length : Int))) with
      | false =>
       have rh65 := df h65
       have hA3 : arcsP os = done2 ++ (os.drop (i + 1)).flatMap (arcsO os) := by rw [hA2, segs_end (by omega), List.nil_append]
       refine seg 1 0 [(13, vI ((i : Int) + 1))] (fc (tadd (i : Int) 1 Tryz.underlying3) f0) (fewer _ (ih56 _ (by omega) (i + 1) done2 ek2 _ (gl hy) hA3 (hM.pick [0]) rfl))
      | true =>
       have rh65 := dt h65
       obtain ⟨y1, hy1, g66, o66, q66, r66, n66⟩ := (hrw).eb hG (i := m) (by omega)
       obtain ⟨y2, hy2, g67, o67, q67, r67, n67⟩ := (hrw).eb hG (i := (m + 1)) (by omega)
       have hA5 : arcsP os = done2 ++ ((y1, y2, y.o.id, arcLen (pure_ os) y1 y2) :: (y2, y1, y.o.id, arcLen (pure_ os) y1 y2) :: (segs (pure_ os) y.o.id (rs.drop (m + 1)) ++ (os.drop (i + 1)).flatMap (arcsO os))) := by rw [hA2, segs_at hy1 hy2]; rfl
       refine seg 8 0 [] f0 (drc [(7, vI (max 1 (rootI (distP ((nodeP (pure_ os) y1).getD (0, 0)) ((nodeP (pure_ os) y2).getD (0, 0))))))] hM (fun w5 hM => (fc (ld0 157 hM (bx ht 0 rfl) nt) (fc (ld0 195 hM (bx hn 1 rfl) nn) (fc (tsub ((m : Int) + 1) 1 Tryz.underlying3) (fc (ix 28 cw q66 (gl hy1) (z := (((m : Int) + 1) - 1)) (hz := (by omega))) (fc (ld0 9 hM (r66 0 _ rfl) n66) (fc (rz2 (lkN 195 (vS y1) (ptV (0, 0)) (hm1.fr hM.fr g1) law9 Tryz.underlying195 (key9 (hrb _ (gm hy1))) (zero61 _)) (nod_at (pure_ os) y1)) (fc (ld0 157 hM (bx ht 0 rfl) nt) (fc (ld0 195 hM (bx hn 1 rfl) nn) (fc (ix 28 cw q67 (gl hy2)) (fc (ld0 9 hM (r67 0 _ rfl) n67) (fc (rz2 (lkN 195 (vS y2) (ptV (0, 0)) (hm1.fr hM.fr g1) law9 Tryz.underlying195 (key9 (hrb _ (gm hy2))) (zero61 _)) (nod_at (pure_ os) y2)) (fc (tcl (dist_calls ((nodeP (pure_ os) y1).getD (0, 0)) ((nodeP (pure_ os) y2).getD (0, 0)) _)) (fc (tcl (root_calls (distP ((nodeP (pure_ os) y1).getD (0, 0)) ((nodeP (pure_ os) y2).getD (0, 0))) (distP_le _ _) _)) (fc (tmax 3 1 (rootI (distP ((nodeP (pure_ os) y1).getD (0, 0)) ((nodeP (pure_ os) y2).getD (0, 0))))) f0))))))))))))))) fun w5 hM => seg 9 0 [] f0 (drx [14, 31] (fun γ => [some (vB true), some (vB true)]) _ (fun γ l => [(bif l.getD 1 false then pfE (J ((done2.length + 1) + 1)) (γ.e 1) else (bif l.getD 0 false then pfE (J (done2.length + 1)) (γ.e 0) else pfE (J done2.length) ek2)), bk b60 #[vS y.o.id, vI y.o.kind, vI y.o.x, vI y.o.y, vL y.pr y.o.refs.length y.cr, vL y.pt y.o.tags.length y.ct] 64]) (fun γ => [(88, vB false)]) hM (fun γ => rfl) (fun γ l w5 hM => (fc (tsub ((m : Int) + 1) 1 Tryz.underlying3) (fc (ix 28 cw q66 (gl hy1) (z := (((m : Int) + 1) - 1)) (hz := (by omega))) (fc (ld0 9 hM (r66 0 _ rfl) n66) (fc (ix 28 cw q67 (gl hy2)) (fc (ld0 9 hM (r67 0 _ rfl) n67) (fc (ldm 9 1 0 hM rfl rfl) (fc (ix 28 cw q67 (gl hy2)) (fc (ld0 9 hM (r67 0 _ rfl) n67) (fc (tsub ((m : Int) + 1) 1 Tryz.underlying3) (fc (ix 28 cw q66 (gl hy1) (z := (((m : Int) + 1) - 1)) (hz := (by omega))) (fc (ld0 9 hM (r66 0 _ rfl) n66) (fc (ldm 9 1 0 hM rfl rfl) f0))))))))))))) ⟨ar_yld 0 14 0 69 done2.length #[47] (v := (.agg #[vS y1, vS y2, vS y.o.id, vI (max 1 (rootI (distP ((nodeP (pure_ os) y1).getD (0, 0)) ((nodeP (pure_ os) y2).getD (0, 0)))))])) (J := J) (fun γ => ek2) (fun γ wm hJ hH hf => hround _ _ _ _ hJ hH hf (vs_of (at1 hA5))), ar_yld 1 31 0 86 (done2.length + 1) #[47] (v := (.agg #[vS y2, vS y1, vS y.o.id, vI (max 1 (rootI (distP ((nodeP (pure_ os) y1).getD (0, 0)) ((nodeP (pure_ os) y2).getD (0, 0)))))])) (J := J) (fun γ => (γ.e 0)) (fun γ wm hJ hH hf => hround _ _ _ _ hJ hH hf (vs_of (at2 hA5))), trivial⟩ fun γ68 w1 hM => ?_))
       replace hM : Mm e0.B w w1 [pfE (J ((done2.length + 1) + 1)) (γ68.e 1), bk b60 #[vS y.o.id, vI y.o.kind, vI y.o.x, vI y.o.y, vL y.pr y.o.refs.length y.cr, vL y.pt y.o.tags.length y.ct] 64] := hM
       have hA4 : arcsP os = (done2 ++ [(y1, y2, y.o.id, arcLen (pure_ os) y1 y2), (y2, y1, y.o.id, arcLen (pure_ os) y1 y2)]) ++ (segs (pure_ os) y.o.id (rs.drop (m + 1)) ++ (os.drop (i + 1)).flatMap (arcsO os)) := by rw [hA5, List.append_assoc]; rfl
       have hl9 : done2.length + 1 + 1 = (done2 ++ [(y1, y2, y.o.id, arcLen (pure_ os) y1 y2), (y2, y1, y.o.id, arcLen (pure_ os) y1 y2)]).length := by simp
       rw [hl9] at hM
       refine seg 6 0 [(6, vI (((m : Int) + 1) + 1))] (fc (tadd ((m : Int) + 1) 1 Tryz.underlying3) f0) (fewer _ (ih63 _ (by omega) (m + 1) (done2 ++ [(y1, y2, y.o.id, arcLen (pure_ os) y1 y2), (y2, y1, y.o.id, arcLen (pure_ os) y1 y2)]) (γ68.e 1) _ (by have := gl hy2; omega) hA4 hM rfl))
     exact fewer _ (lp62 _ 0 done ek _ (Nat.zero_le _) hA1 hM rfl)
  exact fewer _ (lp55 _ 0 [] e0 _ (Nat.zero_le _) rfl hM rfl)
end Go.Proofs.YtbflfefahheidaaGreatDoor
/- Arcs. -/
set_option linter.unusedVariables false
set_option linter.unusedSimpArgs false
namespace Go.Proofs.YtbflfefahheidaaGreatDoor
open Go.RowKit Go.Pl
theorem law47 : Maps.Keyed Tryz.prog 47 := Maps.Keyed.of_law (deep_law (m := 2) (by decide) (by kernel_rfl) (by kernel_rfl) (by kernel_rfl))
theorem tsz : ∃ m, Tryz.prog.types.size = m + 1 := ⟨Tryz.prog.types.size - 1, by kernel_rfl⟩
theorem kl9 {s : Bys} (h : B63 s) (m : Nat) : Tryz.prog.keyLits (m + 1) 9 [vS s] = some [.string (ofL s).data.toList] := by
  unfold Program.keyLits
  simp only [Tryz.underlying9]
  rw [if_pos (by rw [ofL_size]; exact h)]
theorem kl3 {n : Int} (h : (Lit.int .i64 n).wf = true) (m : Nat) : Tryz.prog.keyLits (m + 1) 3 [vI n] = some [.int .i64 n] := by
  unfold Program.keyLits
  simp only [Tryz.underlying3]
  rw [if_pos (by simp [h])]
theorem co9 : Tryz.prog.cellsOf 9 = 1 := by kernel_rfl
theorem co3 : Tryz.prog.cellsOf 3 = 1 := by kernel_rfl
theorem key47 {a : Arc} (h1 : B63 a.1) (h2 : B63 a.2.1) (h3 : B63 a.2.2.1) (h4 : (Lit.int .i64 a.2.2.2).wf = true) : ∃ l, keyOf Tryz.prog 47 (arcV a) = some l := by
  obtain ⟨m, hm⟩ := tsz
  unfold keyOf
  rw [Tryz.underlying47]
  simp only
  rw [if_pos (by kernel_rfl), hm]
  refine ⟨.string (keyBytes [.string (ofL a.1).data.toList, .string (ofL a.2.1).data.toList, .string (ofL a.2.2.1).data.toList, .int .i64 a.2.2.2]), ?_⟩
  have hk : Tryz.prog.keyLits (m + 1 + 1) 47 [vS a.1, vS a.2.1, vS a.2.2.1, vI a.2.2.2] = some [.string (ofL a.1).data.toList, .string (ofL a.2.1).data.toList, .string (ofL a.2.2.1).data.toList, .int .i64 a.2.2.2] := by
    unfold Program.keyLits
    simp only [Tryz.underlying47]
    rw [if_pos ⟨by kernel_rfl, by kernel_rfl⟩]
    simp [co9, co3, kl9 h1, kl9 h2, kl9 h3, kl3 h4]
  show (Tryz.prog.keyLits (m + 1 + 1) 47 [vS a.1, vS a.2.1, vS a.2.2.1, vI a.2.2.2]).map _ = _
  rw [hk]; rfl
def nubA (l : List Arc) : List Arc := l.foldl (fun r a => bif r.contains a then r else r ++ [a]) []
theorem nub_snoc (l : List Arc) (a : Arc) : nubA (l ++ [a]) = bif (nubA l).contains a then nubA l else nubA l ++ [a] := by unfold nubA; rw [List.foldl_append]; rfl
theorem nub_len (l : List Arc) : (nubA l).length ≤ l.length := by
  have key : ∀ (l r : List Arc), (l.foldl (fun r a => bif r.contains a then r else r ++ [a]) r).length ≤ r.length + l.length := by
    intro l
    induction l with
    | nil => intro r; simp
    | cons a l ih =>
      intro r
      rw [List.foldl_cons]
      refine Nat.le_trans (ih _) ?_
      cases r.contains a <;> simp <;> omega
  have h := key l []
  rw [List.length_nil, Nat.zero_add] at h
  exact h
open Classical in
/-- A set of arcs as9 a map. -/
noncomputable def setA (S : List Arc) : Value → Option Value := fun v => if ∃ a ∈ S, v = arcV a then some (vB true) else none
theorem vS_inj {a b : Bys} (h : vS a = vS b) : a = b := by
  have h2 : ofL a = ofL b := Value.string.inj h
  rw [← ofL_toList a, h2, ofL_toList]
theorem arcV_inj {a b : Arc} (h : arcV a = arcV b) : a = b := by
  obtain ⟨a1, a2, a3, a4⟩ := a
  obtain ⟨b1, b2, b3, b4⟩ := b
  have h : Value.agg #[vS a1, vS a2, vS a3, vI a4] = .agg #[vS b1, vS b2, vS b3, vI b4] := h
  simp only [Value.agg.injEq, Array.mk.injEq, List.cons.injEq, Value.int.injEq, true_and, and_true] at h
  obtain ⟨h1, h2, h3, h4⟩ := h
  rw [vS_inj h1, vS_inj h2, vS_inj h3, h4]
theorem setA_look (S : List Arc) (x : Arc) : ((setA S) (arcV x)).getD (vB false) = vB (S.contains x) := by
  unfold setA
  by_cases h : x ∈ S
  · rw [if_pos ⟨x, h, rfl⟩, show S.contains x = true by simpa using h]; rfl
  · rw [if_neg (fun ⟨a, ha, e⟩ => h (by rw [arcV_inj e]; exact ha)), show S.contains x = false by simpa using h]; rfl
theorem setA_upd (S : List Arc) (x : Arc) : upd (setA S) (arcV x) (vB true) = setA (S ++ [x]) := by
  funext v
  unfold setA
  by_cases e : v = arcV x
  · subst e; rw [upd_same, if_pos ⟨x, by simp, rfl⟩]
  · rw [upd_other _ e]
    by_cases h : ∃ a ∈ S, v = arcV a
    · obtain ⟨a, ha, rfl⟩ := h
      rw [if_pos ⟨a, ha, rfl⟩, if_pos ⟨a, List.mem_append_left _ ha, rfl⟩]
    · rw [if_neg h, if_neg]
      rintro ⟨a, ha, rfl⟩
      rw [List.mem_append, List.mem_singleton] at ha
      rcases ha with ha | rfl
      · exact h ⟨a, ha, rfl⟩
      · exact e rfl
theorem setA_nil : setA [] = fun _ => none := by funext v; unfold setA; rw [if_neg (by rintro ⟨a, ha, -⟩; cases ha)]
theorem blM0 : BlM [] = fun _ => False := funext fun k => propext ⟨fun ⟨e, he, _⟩ => (by cases he), False.elim⟩
def arL (a : Arc) : List Value := [vS a.1, vS a.2.1, vS a.2.2.1, vI a.2.2.2]
theorem arT : ElT Tryz.prog arL 4 75 47 := ⟨fun _ => rfl, by decide, fun x u hu => by
  unfold arL at hu
  simp only [List.mem_cons, List.not_mem_nil, or_false] at hu
  rcases hu with rfl | rfl | rfl | rfl <;> rfl, Tryz.underlying75, elOK_info (by kernel_rfl)⟩
theorem rootI_le {n : Int} (h : n ≤ 9223372036854775807) : 0 ≤ rootI n ∧ rootI n < 4294967296 := by
  unfold rootI
  cases hd : decide (n < 0) with
  | true => exact ⟨Int.le_refl _, by show (0 : Int) < _; omega⟩
  | false =>
    have h0 := of_decide_eq_false hd
    have := rootF_lt (n := n.toNat) (by omega)
    show 0 ≤ (rootF n.toNat : Int) ∧ (rootF n.toNat : Int) < 4294967296
    omega
/-- What is known of an arc. -/
structure ArcB (a : Arc) : Prop where
  f1 : B63 a.1
  f2 : B63 a.2.1
  f3 : B63 a.2.2.1
  pos : 1 ≤ a.2.2.2
  lt : a.2.2.2 < 4294967296
theorem ArcB.wf {a : Arc} (h : ArcB a) : (Lit.int .i64 a.2.2.2).wf = true := by
  have h1 := h.pos; have h2 := h.lt
  show (decide (IntKind.i64.min ≤ a.2.2.2) && decide (a.2.2.2 ≤ IntKind.i64.max)) = true
  have e1 : IntKind.i64.min = -9223372036854775808 := by decide
  have e2 : IntKind.i64.max = 9223372036854775807 := by decide
  rw [e1, e2, decide_eq_true (by omega), decide_eq_true (by omega)]; rfl
theorem segs_b {l : List Ob} {w : Bys} (hw : B63 w) : ∀ {rs : List Bys}, (∀ s ∈ rs, B63 s) → ∀ a ∈ segs l w rs, ArcB a
  | [], _, a, ha => by cases ha
  | [_], _, a, ha => by cases ha
  | x :: y :: t, h, a, ha => by
    have hl : 1 ≤ arcLen l x y ∧ arcLen l x y < 4294967296 := by
      have := rootI_le (distP_le ((nodeP l x).getD (0, 0)) ((nodeP l y).getD (0, 0)))
      unfold arcLen; omega
    unfold segs at ha
    rcases List.mem_cons.1 ha with rfl | ha
    · exact ⟨h x (.head _), h y (.tail _ (.head _)), hw, hl.1, hl.2⟩
    · rcases List.mem_cons.1 ha with rfl | ha
      · exact ⟨h y (.tail _ (.head _)), h x (.head _), hw, hl.1, hl.2⟩
      · exact segs_b hw (fun s hs => h s (.tail _ hs)) a ha
theorem arcs_b {os : List ObR} (hob : ∀ b ∈ os, ObB b.o) : ∀ a ∈ arcsP os, ArcB a := by
  intro a ha
  unfold arcsP at ha
  rw [List.mem_flatMap] at ha
  obtain ⟨b, hb, ha⟩ := ha
  unfold arcsO at ha
  cases hk : b.o.kind == 2 with
  | false => rw [hk] at ha; cases ha
  | true =>
    rw [hk] at ha
    cases hw : wayB (isNode (pure_ os)) os b.o.id with
    | none => rw [hw] at ha; cases ha
    | some c =>
      rw [hw] at ha
      exact segs_b (hob b hb).id (hob c (wayB_some hw).1).refs a ha
theorem arcsOf_calls (bn : Nat) (w : World) : Calls Tryz.prog 92 #[vP bn 0] w fun e w' => ∃ u Mn, e = .returned u ∧ (∃ bt, u = .func (.func 117) #[] #[vP bt 0] ∧ Mn = [bk bt #[vP bn 0] 157]) ∧ Mm (fun _ => False) w w' Mn := by
  refine beg Tryz.func92 rfl rfl [(0, vP bn 0)] rfl rfl fun Φ hΦ => ?_
  have hM := Mm.nil (fun _ => False) w
  refine newm 0 0 1 [] (cs := #[vP bn 0]) (T := 157) (v := fun b => vP b 0) f0 hM fun b69 w1 hM => rt1 2 (.func (.func 117) #[] #[vP b69 0]) rfl f0 (hΦ _ _ ⟨_, _, rfl, ⟨_, rfl, rfl⟩, hM⟩)
theorem arcs_calls {w : World} {v : Value} {os : List ObR} (hm : ObsV w v os) (hv : validMap (pure_ os) = true) (hlen : (arcsP os).length ≤ 300000000) : Calls Tryz.prog 56 #[.agg #[v]] w fun e w' => ∃ u, e = .returned u ∧ NRow arL 4 47 w w' u (nubA (arcsP os)) ∧ Fr (fun _ => False) w w' := by
  have hm0 := hm; obtain ⟨hs0, hob⟩ := hm0
  obtain ⟨p0, cp0, hp0, sp0⟩ := hs0.op
  subst hp0; have bp0 := sp0.bnd
  refine begM Tryz.func56 rfl rfl [(0, .agg #[vL p0 os.length cp0])] rfl rfl fun Φ hΦ => ?_
  have hM := Mm.nil (fun _ => False) w
  refine newm 0 0 1 [] (cs := #[vL p0 os.length cp0]) (T := 24) (v := fun b => vP b 0) f0 hM fun b70 w1 hM => calM 1 1 10 [(9, .agg #[vL p0 os.length cp0])] (K := fun u Mn => ∃ bn b1 b2 n1 n2, u = .tuple #[vP bn 0, vB true] ∧ Mn = netM bn b1 b2 n1 n2 (vL p0 os.length cp0) os) [0] [] (fc (lam 24 0 0 1 hM rfl) f0) hM rfl rfl (by decide) (fun _ => (of_calls (hm.fr hM.fr)).mono fun e w8 h => by obtain ⟨bn, b1, b2, n1, n2, h1, h2⟩ := h.2 hv; exact ⟨_, _, h1, ⟨bn, b1, b2, n1, n2, rfl, rfl⟩, by rw [show pickE _ ([] : List Nat) = [] from rfl, blM0]; exact h2⟩) fun u Mn w1 hK hM => ?_
  obtain ⟨bn, b1, b2, n1, n2, rfl, rfl⟩ := hK
  refine newm 4 0 5 [(3, vP bn 0)] (cs := #[vL none 0 0]) (T := 75) (v := fun b => vP b 0) f0 hM fun b71 w1 hM => newmp 5 0 15 [] 47 f0 hM fun b72 w1 hM => varm 5 1 6 [] [] 160 (.map (some b72)) f0 hM fun b73 w1 hM => calM 6 1 17 [(16, vP bn 0)] (K := fun u Mn => ∃ bt, u = .func (.func 117) #[] #[vP bt 0] ∧ Mn = [bk bt #[vP bn 0] 157]) [0, 1, 2, 3, 4, 5, 6] [] f0 hM rfl rfl (by decide) (fun _ => by rw [show pickE _ ([] : List Nat) = [] from rfl, blM0]; exact arcsOf_calls bn _) fun u Mn w1 hK hM => ?_
  obtain ⟨bt, rfl, rfl⟩ := hK
  have hM := hM.row (f := arL) (c := 4) (E := 47)
  have hM9 : Mm (fun _ => False) w w1 ([bk b71 #[vL none 0 0] 75, bk b73 #[.map (some b72)] 160, mp Tryz.prog 47 b72 0 (fun _ => none), rw_ arL 4 47 (vL none 0 0) []] ++ [bk bt #[vP bn 0] 157, bk bn #[vL p0 os.length cp0, .map (some b1), .map (some b2)] 198, mp Tryz.prog 9 b1 n1 (nodM (pure_ os)), mp Tryz.prog 9 b2 n2 (wayM (isNode (pure_ os)) os)]) := hM.pick [4, 6, 5, 8, 7, 1, 2, 3]
  have hap : ∀ x ∈ [bk bt #[vP bn 0] 157, bk bn #[vL p0 os.length cp0, .map (some b1), .map (some b2)] 198, mp Tryz.prog 9 b1 n1 (nodM (pure_ os)), mp Tryz.prog 9 b2 n2 (wayM (isNode (pure_ os)) os)], ∀ k, x.B k → ¬ BlM [bk b71 #[vL none 0 0] 75, bk b73 #[.map (some b72)] 160, mp Tryz.prog 47 b72 0 (fun _ => none), rw_ arL 4 47 (vL none 0 0) []] k ∧ k < w1.heap.size := fun x hx k hk => ⟨hM9.apart hx hk, x.lt (hM9.at_ x (List.mem_append_right _ hx)) hk⟩
  have hM : Mm (fun _ => False) w _ [bk b71 #[vL none 0 0] 75, bk b73 #[.map (some b72)] 160, mp Tryz.prog 47 b72 0 (fun _ => none), rw_ arL 4 47 (vL none 0 0) []] := hM.pick [4, 6, 5, 8]
  have nap : ∀ x ∈ [bk bt #[vP bn 0] 157, bk bn #[vL p0 os.length cp0, .map (some b1), .map (some b2)] 198, mp Tryz.prog 9 b1 n1 (nodM (pure_ os)), mp Tryz.prog 9 b2 n2 (wayM (isNode (pure_ os)) os)], ∀ k, x.B k → ∀ G : Nat → Prop, (∀ k, G k → BlM [bk b71 #[vL none 0 0] 75, bk b73 #[.map (some b72)] 160, mp Tryz.prog 47 b72 0 (fun _ => none), rw_ arL 4 47 (vL none 0 0) []] k ∨ w1.heap.size ≤ k) → ¬ G k := fun x hx k hk G hG h => (hG k h).elim (hap x hx k hk).1 fun h2 => absurd (hap x hx k hk).2 (by omega)
  refine seg 1007 0 [] f0 (rngfF 7 (g := .tmp 17) (ps := #[18]) (vs := (arcsP os).map fun a => #[arcV a]) (fun k Mk => ∃ q c n, Mk = [bk b71 #[vL q (nubA ((arcsP os).take k)).length c] 75, bk b73 #[.map (some b72)] 160, mp Tryz.prog 47 b72 n (setA (nubA ((arcsP os).take k))), rw_ arL 4 47 (vL q (nubA ((arcsP os).take k)).length c) (nubA ((arcsP os).take k))]) hM ⟨none, 0, 0, by rw [List.take_zero, show nubA [] = [] from rfl, setA_nil]; rfl⟩ (enters_of Tryz.func117 (by kernel_rfl) rfl) (arcs_yields fun b hb => (hob b hb).bnd) (fun G W hG f => ⟨f.obj (hM9.get 4 rfl) id, f.obj (hM9.get 5 rfl) id, (hM9.get 6 rfl : MapN _ _ _ _ _ _).fr f id, (hM9.get 7 rfl : MapN _ _ _ _ _ _).fr f id, nap _ (.head _) _ rfl G hG, nap _ (.tail _ (.head _)) _ rfl G hG, nap _ (.tail _ (.tail _ (.head _))) _ rfl G hG, nap _ (.tail _ (.tail _ (.tail _ (.head _)))) _ rfl G hG, _, sp0.b (hM9.fr.trans' f fun _ _ h => h), fun b hb => (hob b hb).refs.b (hM9.fr.trans' f fun _ _ h => h), hM.geK hG⟩) (vsz (ps := #[18]) rfl) ?_ ?_)
  · skip
    intro k v Mk W l hv hI hfW hM
    obtain ⟨q, c, n, rfl⟩ := hI
    obtain ⟨y, hy, rfl⟩ := vs_at hv
    refine varm 7 0 7 [] [] 47 (.agg #[vS y.1, vS y.2.1, vS y.2.2.1, vI y.2.2.2]) f0 hM fun b74 w1 hM => nrm_ [(7, vP b74 0), (6, vP b73 0), (5, vP b71 0)] f0 fun a E => ⟨_, _, E, hM, fun W2 l2 R2 hf2 hM hE => ?_⟩
    have hab := arcs_b (fun b hb => (hob b hb).bnd) y (gm hy)
    refine seg 8 4 [(22, vB (!((nubA ((arcsP os).take k)).contains y)))] (fc (ldm 160 1 0 hM rfl rfl) (fc (lam 47 4 0 4 hM rfl) (fc (rz2 (lk 160 2 (.agg #[vS y.1, vS y.2.1, vS y.2.2.1, vI y.2.2.2]) (vB false) hM rfl law47 Tryz.underlying160 (key47 hab.f1 hab.f2 hab.f3 hab.wf) (zero4 _)) (setA_look (nubA ((arcsP os).take k)) y)) f0))) ?_
    cases h75 : ((nubA ((arcsP os).take k)).contains y) with
    | false =>
     refine mup 9 2 [(23, .map (some b72)), (24, .agg #[vS y.1, vS y.2.1, vS y.2.2.1, vI y.2.2.2])] 160 2 (.agg #[vS y.1, vS y.2.1, vS y.2.2.1, vI y.2.2.2]) (vB true) (fc (ldm 160 1 0 hM rfl rfl) (fc (lam 47 4 0 4 hM rfl) f0)) hM rfl law47 Tryz.underlying160 (key47 hab.f1 hab.f2 hab.f3 hab.wf) fun w1 hM => ?_
     rw [show upd (setA (nubA ((arcsP os).take k))) (.agg #[vS y.1, vS y.2.1, vS y.2.2.1, vI y.2.2.2]) (vB true) = setA ((nubA ((arcsP os).take k)) ++ [y]) from setA_upd _ y] at hM
     refine newm 10 2 27 [(25, vL q (nubA ((arcsP os).take k)).length c), (26, .agg #[vS y.1, vS y.2.1, vS y.2.2.1, vI y.2.2.2])] (cs := #[vS y.1, vS y.2.1, vS y.2.2.1, vI y.2.2.2]) (T := 47) (v := fun b => vL (some ⟨b, 0, none⟩) 1 1) (fc (ldm 75 0 0 hM rfl rfl) (fc (lam 47 4 0 4 hM rfl) f0)) hM fun b76 w1 hM => appm 10 3 28 [] (cap := 1) (by decide) arT f0 hM (j := 3) rfl (src_one (f := arL) (x := y) (hM.get 5 rfl) (Nat.lt_succ_self _)) (fun h => by cases h) (by have := nub_len ((arcsP os).take k); simp only [List.length_take, List.length_cons, List.length_nil] at this ⊢; omega) fun v77 w1 hM => ?_
     obtain ⟨qa77, ca77, e77, -⟩ := (hM.src (j := 3) rfl arT.len).op
     subst e77
     refine stm 10 4 [] 75 0 0 (vL qa77 ((nubA ((arcsP os).take k)) ++ [y]).length ca77) f0 hM rfl fun w1 hM => ?_
     have e9 : (nubA ((arcsP os).take k)) ++ [y] = (nubA ((arcsP os).take (k + 1))) := by rw [gt_ hy, nub_snoc, h75]; rfl
     have hM : Mm (BlM [bk b71 #[vL q (nubA ((arcsP os).take k)).length c] 75, bk b73 #[.map (some b72)] 160, mp Tryz.prog 47 b72 n (setA (nubA ((arcsP os).take k))), rw_ arL 4 47 (vL q (nubA ((arcsP os).take k)).length c) (nubA ((arcsP os).take k)), bk b74 #[vS y.1, vS y.2.1, vS y.2.2.1, vI y.2.2.2] 47]) W2 _ [bk b71 #[vL qa77 ((nubA ((arcsP os).take k)) ++ [y]).length ca77] 75, bk b73 #[.map (some b72)] 160, mp Tryz.prog 47 b72 (n + 1) (setA ((nubA ((arcsP os).take k)) ++ [y])), rw_ arL 4 47 (vL qa77 ((nubA ((arcsP os).take k)) ++ [y]).length ca77) ((nubA ((arcsP os).take k)) ++ [y])] := hM.pick [0, 1, 2, 3]
     have hM := hM.cast (M' := [bk b71 #[vL qa77 (nubA ((arcsP os).take (k + 1))).length ca77] 75, bk b73 #[.map (some b72)] 160, mp Tryz.prog 47 b72 (n + 1) (setA (nubA ((arcsP os).take (k + 1)))), rw_ arL 4 47 (vL qa77 (nubA ((arcsP os).take (k + 1))).length ca77) (nubA ((arcsP os).take (k + 1)))]) (by rw [e9])
     exact nrm_ [] f0 fun a E => hE.nrm a _ _ ⟨_, _, _, rfl⟩ hM
    | true =>
     have e9 : (nubA ((arcsP os).take k)) = (nubA ((arcsP os).take (k + 1))) := by rw [gt_ hy, nub_snoc, h75]; rfl
     have hM : Mm (BlM [bk b71 #[vL q (nubA ((arcsP os).take k)).length c] 75, bk b73 #[.map (some b72)] 160, mp Tryz.prog 47 b72 n (setA (nubA ((arcsP os).take k))), rw_ arL 4 47 (vL q (nubA ((arcsP os).take k)).length c) (nubA ((arcsP os).take k)), bk b74 #[vS y.1, vS y.2.1, vS y.2.2.1, vI y.2.2.2] 47]) W2 _ [bk b71 #[vL q (nubA ((arcsP os).take k)).length c] 75, bk b73 #[.map (some b72)] 160, mp Tryz.prog 47 b72 n (setA (nubA ((arcsP os).take k))), rw_ arL 4 47 (vL q (nubA ((arcsP os).take k)).length c) (nubA ((arcsP os).take k))] := hM.pick [0, 1, 2, 3]
     have hM := hM.cast (M' := [bk b71 #[vL q (nubA ((arcsP os).take (k + 1))).length c] 75, bk b73 #[.map (some b72)] 160, mp Tryz.prog 47 b72 n (setA (nubA ((arcsP os).take (k + 1)))), rw_ arL 4 47 (vL q (nubA ((arcsP os).take (k + 1))).length c) (nubA ((arcsP os).take (k + 1)))]) (by rw [e9])
     exact nrm_ [] f0 fun a E => hE.nrm a _ _ ⟨_, _, _, rfl⟩ hM
  · skip
    intro Mk w1 hI hM
    obtain ⟨k, hk⟩ : ∃ k, k = ((arcsP os).map fun a => #[arcV a]).length := ⟨_, rfl⟩
    rw [← hk] at hI
    obtain ⟨q, c, n, rfl⟩ := hI
    exact rtm1 2 (vL q (nubA ((arcsP os).take k)).length c) rfl (fc (ldm 75 0 0 hM rfl rfl) f0) hM (fun w9 hM => hΦ _ _ ⟨_, rfl, by have := hM.nrow (j := 3) rfl; have e9 : (arcsP os).take k = arcsP os := List.take_of_length_le (by rw [hk, List.length_map]; exact Nat.le_refl _); rw [e9] at this ⊢; exact this, hM.fr⟩)
end Go.Proofs.YtbflfefahheidaaGreatDoor
/- Reading hours in plain Lean, over whatever offsets. -/
set_option linter.unusedVariables false
set_option linter.unusedSimpArgs false
namespace Go.Proofs.YtbflfefahheidaaGreatDoor
open Go.Pl
section
variable {α : Type}
abbrev Res (α β : Type) := Except (Int × α) β
def sees (k : Int) (xs : List Bys) : List (Tok α) → Bool
  | [] => false
  | t :: _ => t.1 == k && (xs.isEmpty || xs.contains t.2.1)
def take (en : α) (k : Int) (xs : List Bys) (ts : List (Tok α)) : Res α (Tok α × List (Tok α)) :=
  match ts with
  | [] => .error (6, en)
  | t :: l => if sees k xs (t :: l) then .ok (t, l) else .error (5, t.2.2)
def numT (t : Bys) : Int := t.foldl (fun n b => 10 * n + ((b.toNat : Int) - 48)) 0
def cColon : Bys := [58]
def cDash : Bys := [45]
def cComma : Bys := [44]
def days : List Bys := [[109, 111], [116, 117], [119, 101], [116, 104], [102, 114], [115, 97], [115, 117]]
def always : Bys := [97, 108, 119, 97, 121, 115]
def never : Bys := [110, 101, 118, 101, 114]
def clock (en : α) (most : Int) (ts : List (Tok α)) : Res α ((Int × α) × List (Tok α)) :=
  match take en 2 [] ts with
  | .error e => .error e
  | .ok (h, ts) =>
    if numT h.2.1 > most then .error (10, h.2.2)
    else match take en 4 [cColon] ts with
      | .error e => .error e
      | .ok (_, ts) => match take en 2 [] ts with
        | .error e => .error e
        | .ok (m, ts) =>
          if m.2.1.length != 2 || numT m.2.1 > 59 || (numT h.2.1 == 24 && numT m.2.1 > 0) then .error (10, m.2.2)
          else .ok ((60 * numT h.2.1 + numT m.2.1, h.2.2), ts)
/-- The spans of some minutes, which may go on in the next week. -/
def addL (f t : Int) : List Sp := if t > 10080 then [(f, min t 10080), (0, t - 10080)] else [(f, min t 10080)]
/-- The spans of a time on days from a first one on. -/
def dayL (f n a b : Int) : List Sp := (List.range n.toNat).flatMap fun (i : Nat) => addL ((f + (i : Int)).tmod 7 * 1440 + a) ((f + (i : Int)).tmod 7 * 1440 + b)
/-- One time of some days. -/
def time (en : α) (f t : Int) (ts : List (Tok α)) : Res α (List Sp × List (Tok α)) :=
  match clock en 23 ts with
  | .error e => .error e
  | .ok ((a, _), ts) => match take en 4 [cDash] ts with
    | .error e => .error e
    | .ok (_, ts) => match clock en 24 ts with
      | .error e => .error e
      | .ok ((b, at_), ts) =>
        if a == b then .error (10, at_) else .ok (dayL f ((t - f + 7).tmod 7 + 1) a (if b < a then b + 1440 else b), ts)
/-- Whether a further time of the same days follows. -/
def more : List (Tok α) → Bool
  | t :: u :: l => sees 4 [cComma] (t :: u :: l) && u.1 == 2
  | _ => false
def times (en : α) (f t : Int) : Nat → List (Tok α) → Res α (List Sp × List (Tok α))
  | 0, _ => .error (6, en)
  | n + 1, ts => match time en f t ts with
    | .error e => .error e
    | .ok (s, ts) => if more ts then (match times en f t n (ts.drop 1) with | .error e => .error e | .ok (s', ts) => .ok (s ++ s', ts)) else .ok (s, ts)
def idx (d : Bys) : Int := days.findIdx (· == d)
def dys (en : α) (ts : List (Tok α)) : Res α ((Int × Int) × List (Tok α)) :=
  match take en 1 days ts with
  | .error e => .error e
  | .ok (f, ts) =>
    if sees 4 [cDash] ts then (match take en 1 days (ts.drop 1) with
      | .error e => .error e
      | .ok (t, ts) => .ok ((idx f.2.1, idx t.2.1), ts))
    else .ok ((idx f.2.1, idx f.2.1), ts)
def part (en : α) (ts : List (Tok α)) : Res α (List Sp × List (Tok α)) :=
  match dys en ts with
  | .error e => .error e
  | .ok ((f, t), ts) => times en f t (ts.length + 1) ts
def parts (en : α) : Nat → List (Tok α) → Res α (List Sp × List (Tok α))
  | 0, _ => .error (6, en)
  | n + 1, ts => match part en ts with
    | .error e => .error e
    | .ok (s, ts) => if sees 4 [cComma] ts then (match parts en n (ts.drop 1) with | .error e => .error e | .ok (s', ts) => .ok (s ++ s', ts)) else .ok (s, ts)
def fin : Res α (List Sp × List (Tok α)) → Res α (List Sp)
  | .error e => .error e
  | .ok (s, []) => .ok s
  | .ok (_, t :: _) => .error (5, t.2.2)
def textQ (en : α) (ts : List (Tok α)) : Res α (List Sp × List (Tok α)) :=
  if sees 1 [always] ts then .ok (addL 0 10080, ts.drop 1) else if sees 1 [never] ts then .ok ([], ts.drop 1) else parts en (ts.length + 1) ts
def textP (en : α) (ts : List (Tok α)) : Res α (List Sp) := fin (textQ en ts)
end
/-- hours.Parse. -/
def parseP (l : Bys) : Except (Int × Int) (List Sp) :=
  match lexP l with
  | .error e => .error e
  | .ok ts => match textP (l.length : Int) ts with
    | .error e => .error e
    | .ok s => if (canon s).length > 60 then .error (2, (l.length : Int)) else .ok (canon s)
section
variable {α : Type} {en : α}
theorem take_ok {k : Int} {xs : List Bys} {ts : List (Tok α)} {t : Tok α} {l : List (Tok α)} (h : take en k xs ts = .ok (t, l)) : ts = t :: l ∧ t.1 = k ∧ (xs = [] ∨ t.2.1 ∈ xs) := by
  unfold take at h
  split at h
  · cases h
  · split at h
    · rename_i hs
      cases h
      unfold sees at hs
      simp only [Bool.and_eq_true, beq_iff_eq, Bool.or_eq_true, List.isEmpty_iff, List.contains_eq_mem, decide_eq_true_eq] at hs
      exact ⟨rfl, hs.1, hs.2⟩
    · cases h
theorem take_len {k : Int} {xs : List Bys} {ts : List (Tok α)} {t : Tok α} {l : List (Tok α)} (h : take en k xs ts = .ok (t, l)) : l.length + 1 = ts.length := by
  rw [(take_ok h).1]; simp
theorem clock_ok {most : Int} {ts l : List (Tok α)} {r : Int × α} (h : clock en most ts = .ok (r, l)) : l.length + 3 = ts.length := by
  unfold clock at h
  split at h
  · cases h
  · rename_i h1
    split at h
    · cases h
    · split at h
      · cases h
      · rename_i h2
        split at h
        · cases h
        · rename_i h3
          split at h
          · cases h
          · cases h
            have := take_len h1; have := take_len h2; have := take_len h3; omega
theorem time_ok {f t : Int} {ts l : List (Tok α)} {s : List Sp} (h : time en f t ts = .ok (s, l)) : l.length + 7 = ts.length := by
  unfold time at h
  split at h
  · cases h
  · rename_i h1
    split at h
    · cases h
    · rename_i h2
      split at h
      · cases h
      · rename_i h3
        split at h
        · cases h
        · cases h
          have := clock_ok h1; have := take_len h2; have := clock_ok h3; omega
theorem times_len {f t : Int} : ∀ (n : Nat) {ts l : List (Tok α)} {s : List Sp}, times en f t n ts = .ok (s, l) → l.length < ts.length := by
  intro n
  induction n with
  | zero => intro ts l s h; cases h
  | succ n ih =>
    intro ts l s h
    unfold times at h
    split at h
    · cases h
    · rename_i h1
      have := time_ok h1
      split at h
      · split at h
        · cases h
        · rename_i h2
          cases h
          have h3 := ih h2
          rw [List.length_drop] at h3; omega
      · cases h; omega
/-- The fuel makes no difference. -/
theorem times_fuel {f t : Int} : ∀ (n m : Nat) (ts : List (Tok α)), ts.length < n → ts.length < m → times en f t n ts = times en f t m ts := by
  intro n
  induction n with
  | zero => intro m ts h; omega
  | succ n ih =>
    intro m ts h h2
    cases m with
    | zero => omega
    | succ m =>
      unfold times
      split
      · rfl
      · rename_i h1
        have := time_ok h1
        rw [ih m _ (by rw [List.length_drop]; omega) (by rw [List.length_drop]; omega)]
theorem dys_len {ts l : List (Tok α)} {r : Int × Int} (h : dys en ts = .ok (r, l)) : l.length < ts.length := by
  unfold dys at h
  split at h
  · cases h
  · rename_i h1
    have := take_len h1
    split at h
    · split at h
      · cases h
      · rename_i h2
        have h3 := take_len h2
        rw [List.length_drop] at h3
        cases h; omega
    · cases h; omega
theorem part_len {ts l : List (Tok α)} {s : List Sp} (h : part en ts = .ok (s, l)) : l.length < ts.length := by
  unfold part at h
  split at h
  · cases h
  · rename_i h1
    have := dys_len h1; have := times_len _ h; omega
theorem parts_fuel : ∀ (n m : Nat) (ts : List (Tok α)), ts.length < n → ts.length < m → parts en n ts = parts en m ts := by
  intro n
  induction n with
  | zero => intro m ts h; omega
  | succ n ih =>
    intro m ts h h2
    cases m with
    | zero => omega
    | succ m =>
      unfold parts
      split
      · rfl
      · rename_i h1
        have := part_len h1
        rw [ih m _ (by rw [List.length_drop]; omega) (by rw [List.length_drop]; omega)]
end
end Go.Proofs.YtbflfefahheidaaGreatDoor
/- Reading hours: offsets make no difference; what comes behind a part makes none. -/
set_option linter.unusedVariables false
set_option linter.unusedSimpArgs false
namespace Go.Proofs.YtbflfefahheidaaGreatDoor
open Go.Pl
section
variable {α β : Type} (φ : α → β)
end
section
variable {α : Type} {en : α}
end
example : parseP [109, 111, 45, 116, 117, 32, 57, 58, 48, 48, 45, 49, 55, 58, 51, 48] = .ok [(540, 1050), (1980, 2490)] := by kernel_rfl
end Go.Proofs.YtbflfefahheidaaGreatDoor
/- Tokens of texts that are put together, in plain Lean. -/
set_option linter.unusedVariables false
set_option linter.unusedSimpArgs false
namespace Go.Proofs.YtbflfefahheidaaGreatDoor
open Go.Pl
theorem u8_all {p : UInt8 → Bool} (h : (List.range 256).all (fun n => p (UInt8.ofNat n)) = true) (b : UInt8) : p b = true := by
  have := List.all_eq_true.1 h b.toNat (List.mem_range.2 b.toNat_lt)
  simpa using this
theorem cls (b : UInt8) : (!isSym b || (!isBlk b && b != 35 && !isLet b && !isDig b && b != 34 && !isWrd b)) = true := u8_all (p := fun b => !isSym b || (!isBlk b && b != 35 && !isLet b && !isDig b && b != 34 && !isWrd b)) (by decide +kernel) b
theorem clsL (b : UInt8) : (!isLet b || (!isBlk b && b != 35 && !isDig b && isWrd b)) = true := u8_all (p := fun b => !isLet b || (!isBlk b && b != 35 && !isDig b && isWrd b)) (by decide +kernel) b
theorem clsD (b : UInt8) : (!isDig b || (!isBlk b && b != 35 && !isLet b && isWrd b)) = true := u8_all (p := fun b => !isDig b || (!isBlk b && b != 35 && !isLet b && isWrd b)) (by decide +kernel) b
theorem isSym_cls {b : UInt8} (h : isSym b = true) : isBlk b = false ∧ (b == 35) = false ∧ isLet b = false ∧ isDig b = false ∧ (b == 34) = false ∧ isWrd b = false := by
  have := cls b
  rw [h] at this
  simp only [Bool.not_true, Bool.false_or, Bool.and_eq_true, Bool.not_eq_true', bne_iff_ne] at this
  obtain ⟨⟨⟨⟨⟨h1, h2⟩, h3⟩, h4⟩, h5⟩, h6⟩ := this
  exact ⟨h1, beq_false_of_ne h2, h3, h4, beq_false_of_ne h5, h6⟩
theorem isLet_cls {b : UInt8} (h : isLet b = true) : isBlk b = false ∧ (b == 35) = false ∧ isDig b = false ∧ isWrd b = true := by
  have := clsL b
  rw [h] at this
  simp only [Bool.not_true, Bool.false_or, Bool.and_eq_true, Bool.not_eq_true', bne_iff_ne] at this
  obtain ⟨⟨⟨h1, h2⟩, h3⟩, h4⟩ := this
  exact ⟨h1, beq_false_of_ne h2, h3, h4⟩
theorem isDig_cls {b : UInt8} (h : isDig b = true) : isBlk b = false ∧ (b == 35) = false ∧ isLet b = false ∧ isWrd b = true := by
  have := clsD b
  rw [h] at this
  simp only [Bool.not_true, Bool.false_or, Bool.and_eq_true, Bool.not_eq_true', bne_iff_ne] at this
  obtain ⟨⟨⟨h1, h2⟩, h3⟩, h4⟩ := this
  exact ⟨h1, beq_false_of_ne h2, h3, h4⟩
theorem one_blk {c : UInt8} {l : Bys} (h : isBlk c = true) : one c l = (0, [], 0, 0) := by unfold one; rw [if_pos h]
theorem one_sym {c : UInt8} {l : Bys} (h : isSym c = true) : one c l = (4, [c], 0, 0) := by
  obtain ⟨h1, h2, h3, h4, h5, _⟩ := isSym_cls h
  unfold one; simp only [h1, h2, h3, h4, h5, h, Bool.false_eq_true, if_false, if_true]
/-- The offsets of the tokens increase. -/
theorem lexL_inc : ∀ (n : Nat) (l : Bys) (a : Int), l.length ≤ n → ((lexL l a).Pairwise fun x y => x.1.2.2 < y.1.2.2) ∧ ∀ x ∈ lexL l a, a ≤ x.1.2.2 ∧ x.1.2.2 < a + l.length := by
  intro n
  induction n with
  | zero => intro l a h; have : l = [] := by cases l with | nil => rfl | cons => simp at h
            subst this; exact ⟨.nil, fun x hx => by cases hx⟩
  | succ n ih =>
    intro l a h
    cases l with
    | nil => exact ⟨.nil, fun x hx => by cases hx⟩
    | cons c l =>
      simp only [List.length_cons] at h ⊢
      rw [lexL_cons]
      have ih2 : ∀ k, ∀ x ∈ lexL (l.drop k) (a + 1 + k), a + 1 ≤ x.1.2.2 ∧ x.1.2.2 < a + ((l.length + 1 : Nat) : Int) := fun k x hx => by
        by_cases hk : k ≤ l.length
        · have := (ih (l.drop k) (a + 1 + k) (by simp; omega)).2 x hx
          rw [List.length_drop] at this
          omega
        · rw [List.drop_of_length_le (by omega)] at hx; cases hx
      split
      · exact ⟨List.pairwise_singleton _ _, fun x hx => by rw [List.mem_singleton] at hx; subst hx; simp only; omega⟩
      · split
        · exact ⟨(ih _ _ (by simp; omega)).1, fun x hx => by have := ih2 _ x hx; omega⟩
        · refine ⟨List.pairwise_cons.2 ⟨fun y hy => by have := ih2 _ y hy; simp only; omega, (ih _ _ (by simp; omega)).1⟩, fun x hx => ?_⟩
          rcases List.mem_cons.1 hx with rfl | hx
          · simp only; omega
          · have := ih2 _ x hx; omega
theorem strL_app : ∀ (n : Nat) (l r : Bys), l.length ≤ n → ∀ {s : Bys} {k : Nat}, strL l = some (s, k) → strL (l ++ r) = some (s, k) ∧ k ≤ l.length := by
  intro n
  induction n with
  | zero => intro l r h s k hs; have : l = [] := by cases l with | nil => rfl | cons => simp at h
            subst this; cases hs
  | succ n ih =>
    intro l r h s k hs
    cases l with
    | nil => cases hs
    | cons c l =>
      simp only [List.length_cons, List.cons_append] at h ⊢
      unfold strL at hs ⊢
      split at hs
      · rename_i h1; rw [if_pos h1]; cases hs; exact ⟨rfl, by omega⟩
      rename_i h1; rw [if_neg h1]
      split at hs
      · cases hs
      rename_i h2; rw [if_neg h2]
      split at hs
      · rename_i h3; rw [if_pos h3]
        cases l with
        | nil => cases hs
        | cons d l =>
          simp only [List.cons_append] at hs ⊢
          split at hs
          · rename_i h4; rw [if_pos h4]
            cases hq : strL l with
            | none => rw [hq] at hs; cases hs
            | some q =>
              obtain ⟨s1, k1⟩ := q
              rw [hq] at hs
              obtain ⟨e, e2⟩ := ih l r (by simp only [List.length_cons] at h; omega) hq
              rw [e]
              cases hs
              exact ⟨rfl, by simp only [List.length_cons]; omega⟩
          · cases hs
      · rename_i h3; rw [if_neg h3]
        cases hq : strL l with
        | none => rw [hq] at hs; cases hs
        | some q =>
          obtain ⟨s1, k1⟩ := q
          rw [hq] at hs
          obtain ⟨e, e2⟩ := ih l r (by omega) hq
          rw [e]
          cases hs
          exact ⟨rfl, by omega⟩
end Go.Proofs.YtbflfefahheidaaGreatDoor
/- The canonical text of spans, and what it is read as, in plain Lean. -/
set_option linter.unusedVariables false
set_option linter.unusedSimpArgs false
namespace Go.Proofs.YtbflfefahheidaaGreatDoor
open Go.Pl
theorem errOf_none : ∀ (l : List (Tok Int × Int)), errOf l = none ↔ ∀ x ∈ l, x.2 = 0 := by
  intro l
  induction l with
  | nil => exact ⟨(fun _ x hx => by cases hx), fun _ => rfl⟩
  | cons x l ih =>
    unfold errOf
    by_cases h : x.2 = 0
    · rw [if_neg (by simp [h]), ih]
      exact ⟨fun k y hy => by rcases List.mem_cons.1 hy with rfl | hy; exact h; exact k y hy, fun k y hy => k y (List.mem_cons_of_mem _ hy)⟩
    · rw [if_pos (by simpa using h)]
      exact ⟨(fun k => by cases k), fun k => absurd (k x List.mem_cons_self) h⟩
end Go.Proofs.YtbflfefahheidaaGreatDoor
/- Reading: where errors are, what the spans are; gaps; parts behind parts; in plain Lean. -/
set_option linter.unusedVariables false
set_option linter.unusedSimpArgs false
namespace Go.Proofs.YtbflfefahheidaaGreatDoor
open Go.Pl
section
variable {α : Type} {en : α} {E : Int × α → Prop}
/-- The errors that may come. -/
def Hs (E : Int × α → Prop) (en : α) (ts : List (Tok α)) : Prop := E (6, en) ∧ ∀ t ∈ ts, E (5, t.2.2) ∧ E (10, t.2.2)
theorem Hs.tl {ts : List (Tok α)} (h : Hs E en ts) : ∀ t ∈ ts, E (5, t.2.2) ∧ E (10, t.2.2) := h.2
theorem Hs.drop {ts : List (Tok α)} (h : Hs E en ts) (k : Nat) : Hs E en (ts.drop k) := ⟨h.1, fun t ht => h.2 t (List.mem_of_mem_drop ht)⟩
def Er {β : Type} (E : Int × α → Prop) (en : α) : Res α (β × List (Tok α)) → Prop
  | .error e => E e
  | .ok (_, l) => Hs E en l
theorem take_err {ts : List (Tok α)} (h : Hs E en ts) (k : Int) (xs : List Bys) : Er E en (take en k xs ts) := by
  unfold take
  cases ts with
  | nil => exact h.1
  | cons t l =>
    simp only
    split
    · exact h.drop 1
    · exact (h.2 t List.mem_cons_self).1
theorem clock_err {ts : List (Tok α)} (h : Hs E en ts) (m : Int) : Er E en (clock en m ts) := by
  have h1 := take_err h 2 []
  unfold clock
  split
  · rename_i e he; rw [he] at h1; exact h1
  · rename_i t ts1 he
    rw [he] at h1
    have ht : t ∈ ts := by rw [(take_ok he).1]; exact List.mem_cons_self
    split
    · exact (h.2 t ht).2
    · have h2 := take_err (ts := ts1) h1 4 [cColon]
      split
      · rename_i e he2; rw [he2] at h2; exact h2
      · rename_i t2 ts2 he2
        rw [he2] at h2
        have h3 := take_err (ts := ts2) h2 2 []
        split
        · rename_i e he3; rw [he3] at h3; exact h3
        · rename_i t3 ts3 he3
          rw [he3] at h3
          have hm : t3 ∈ ts2 := by rw [(take_ok he3).1]; exact List.mem_cons_self
          split
          · exact (Hs.tl (ts := ts2) h2 t3 hm).2
          · exact h3
theorem clock_at {ts l : List (Tok α)} {m x : Int} {a : α} (h : clock en m ts = .ok ((x, a), l)) : ∃ t ∈ ts, t.2.2 = a := by
  unfold clock at h
  split at h
  · cases h
  · rename_i t ts1 he
    have ht : t ∈ ts := by rw [(take_ok he).1]; exact List.mem_cons_self
    split at h
    · cases h
    · split at h
      · cases h
      · split at h
        · cases h
        · split at h
          · cases h
          · cases h; exact ⟨t, ht, rfl⟩
theorem time_err {ts : List (Tok α)} (h : Hs E en ts) (f t : Int) : Er E en (time en f t ts) := by
  have h1 := clock_err h 23
  unfold time
  split
  · rename_i e he; rw [he] at h1; exact h1
  · rename_i a x ts1 he
    rw [he] at h1
    have h2 := take_err (ts := ts1) h1 4 [cDash]
    split
    · rename_i e he2; rw [he2] at h2; exact h2
    · rename_i t2 ts2 he2
      rw [he2] at h2
      have h3 := clock_err (ts := ts2) h2 24
      split
      · rename_i e he3; rw [he3] at h3; exact h3
      · rename_i b y ts3 he3
        rw [he3] at h3
        split
        · obtain ⟨t, ht, e⟩ := clock_at he3
          have := (Hs.tl (ts := ts2) h2 t ht).2
          rw [e] at this; exact this
        · exact h3
theorem times_err (f t : Int) : ∀ (n : Nat) {ts : List (Tok α)}, Hs E en ts → Er E en (times en f t n ts) := by
  intro n
  induction n with
  | zero => intro ts h; exact h.1
  | succ n ih =>
    intro ts h
    have h1 := time_err h f t
    unfold times
    split
    · rename_i e he; rw [he] at h1; exact h1
    · rename_i s ts1 he
      rw [he] at h1
      split
      · have h2 := ih (ts := ts1.drop 1) (Hs.drop (ts := ts1) h1 1)
        split
        · rename_i e he2; rw [he2] at h2; exact h2
        · rename_i s2 ts2 he2; rw [he2] at h2; exact h2
      · exact h1
theorem dys_err {ts : List (Tok α)} (h : Hs E en ts) : Er E en (dys en ts) := by
  have h1 := take_err h 1 days
  unfold dys
  split
  · rename_i e he; rw [he] at h1; exact h1
  · rename_i t ts1 he
    rw [he] at h1
    split
    · have h2 := take_err (ts := ts1.drop 1) (Hs.drop (ts := ts1) h1 1) 1 days
      split
      · rename_i e he2; rw [he2] at h2; exact h2
      · rename_i t2 ts2 he2; rw [he2] at h2; exact h2
    · exact h1
theorem part_err {ts : List (Tok α)} (h : Hs E en ts) : Er E en (part en ts) := by
  have h1 := dys_err h
  unfold part
  split
  · rename_i e he; rw [he] at h1; exact h1
  · rename_i a b ts1 he
    rw [he] at h1
    exact times_err _ _ _ h1
theorem parts_err : ∀ (n : Nat) {ts : List (Tok α)}, Hs E en ts → Er E en (parts en n ts) := by
  intro n
  induction n with
  | zero => intro ts h; exact h.1
  | succ n ih =>
    intro ts h
    have h1 := part_err h
    unfold parts
    split
    · rename_i e he; rw [he] at h1; exact h1
    · rename_i s ts1 he
      rw [he] at h1
      split
      · have h2 := ih (ts := ts1.drop 1) (Hs.drop (ts := ts1) h1 1)
        split
        · rename_i e he2; rw [he2] at h2; exact h2
        · rename_i s2 ts2 he2; rw [he2] at h2; exact h2
      · exact h1
theorem textP_err {ts : List (Tok α)} (h : Hs E en ts) {e : Int × α} (he : textP en ts = .error e) : E e := by
  have : Er E en (textQ en ts) := by
    unfold textQ
    split
    · exact h.drop 1
    · split
      · exact h.drop 1
      · exact parts_err _ h
  unfold textP at he
  cases hq : textQ en ts with
  | error q => rw [hq] at he this; cases he; exact this
  | ok q =>
    obtain ⟨s, l⟩ := q
    rw [hq] at he this
    cases l with
    | nil => cases he
    | cons t l => cases he; exact (Hs.tl (ts := t :: l) this t List.mem_cons_self).1
/-- Where an error is: at the end, or at a token. -/
theorem textP_at {ts : List (Tok α)} {c : Int} {x : α} (he : textP en ts = .error (c, x)) : c ≠ 0 ∧ (x = en ∨ ∃ t ∈ ts, t.2.2 = x) :=
  textP_err (E := fun e => e.1 ≠ 0 ∧ (e.2 = en ∨ ∃ t ∈ ts, t.2.2 = e.2)) ⟨⟨by simp, .inl rfl⟩, fun t ht => ⟨⟨by simp, .inr ⟨t, ht, rfl⟩⟩, ⟨by simp, .inr ⟨t, ht, rfl⟩⟩⟩⟩ he
-- ---- the spans
def Tk (ts : List (Tok α)) : Prop := ∀ t ∈ ts, tokOK t
theorem Tk.drop {ts : List (Tok α)} (h : Tk ts) (k : Nat) : Tk (ts.drop k) := fun t ht => h t (List.mem_of_mem_drop ht)
theorem numT_go (l : Bys) : ∀ (n : Int), 0 ≤ n → (∀ b ∈ l, isDig b = true) → 0 ≤ l.foldl (fun n b => 10 * n + ((b.toNat : Int) - 48)) n := by
  induction l with
  | nil => intro n h _; exact h
  | cons c l ih =>
    intro n h hd
    have hc := hd c List.mem_cons_self
    have : 48 ≤ c.toNat := by
      unfold isDig at hc
      rw [Bool.and_eq_true] at hc
      have := of_decide_eq_true hc.1
      exact UInt8.le_iff_toNat_le.1 this
    have h9 : 0 ≤ 10 * n + ((c.toNat : Int) - 48) := by omega
    exact ih _ h9 fun b hb => hd b (List.mem_cons_of_mem _ hb)
theorem num_nonneg {t : Tok α} (h : tokOK t) (hk : t.1 = 2) : 0 ≤ numT t.2.1 := by
  rcases h with ⟨h, _⟩ | ⟨h, _, _, h2⟩ | h | ⟨h, _⟩
  · omega
  · exact numT_go _ 0 (Int.le_refl _) h2
  · omega
  · omega
theorem take_tk {k : Int} {xs : List Bys} {ts : List (Tok α)} {t : Tok α} {l : List (Tok α)} (hk : Tk ts) (h : take en k xs ts = .ok (t, l)) : tokOK t ∧ t.1 = k ∧ Tk l := by
  obtain ⟨h1, h2, _⟩ := take_ok h
  subst h1
  exact ⟨hk t List.mem_cons_self, h2, fun u hu => hk u (List.mem_cons_of_mem _ hu)⟩
theorem clock_rng {most x : Int} {a : α} {ts l : List (Tok α)} (hk : Tk ts) (h : clock en most ts = .ok ((x, a), l)) : 0 ≤ x ∧ x ≤ 60 * most + 59 ∧ (most = 24 → x ≤ 1440) ∧ Tk l := by
  unfold clock at h
  split at h
  · cases h
  · rename_i t ts1 he
    obtain ⟨t1, t2, t3⟩ := take_tk hk he
    have hn := num_nonneg t1 t2
    split at h
    · cases h
    · rename_i hmo
      split at h
      · cases h
      · rename_i c ts2 he2
        obtain ⟨_, _, t4⟩ := take_tk t3 he2
        split at h
        · cases h
        · rename_i m ts3 he3
          obtain ⟨u1, u2, u3⟩ := take_tk t4 he3
          have hm := num_nonneg u1 u2
          split at h
          · cases h
          · rename_i hb
            simp only [Bool.or_eq_true, bne_iff_ne, decide_eq_true_eq, Bool.and_eq_true, beq_iff_eq, not_or, not_and] at hb
            cases h
            exact ⟨by omega, by omega, fun e => by omega, u3⟩
theorem addL_wk {f t : Int} (h0 : 0 ≤ f) (h1 : f < t) (h2 : f < 10080) (h3 : t ≤ 20160) : wk (addL f t) := by
  unfold addL
  split
  · intro s hs
    simp only [List.mem_cons, List.not_mem_nil, or_false] at hs
    rcases hs with rfl | rfl <;> simp only <;> omega
  · intro s hs
    rw [List.mem_singleton] at hs
    subst hs; simp only; omega
theorem wk_app {a b : List Sp} (ha : wk a) (hb : wk b) : wk (a ++ b) := fun s hs => (List.mem_append.1 hs).elim (ha s) (hb s)
theorem dayL_wk {f n a b : Int} (hf : 0 ≤ f) (ha : 0 ≤ a) (hab : a < b) (ha2 : a < 1440) (hb : b ≤ 2880) : wk (dayL f n a b) := by
  intro s hs
  unfold dayL at hs
  obtain ⟨i, hi, hs⟩ := List.mem_flatMap.1 hs
  have h1 : 0 ≤ (f + (i : Int)).tmod 7 ∧ (f + (i : Int)).tmod 7 < 7 := by rw [Int.tmod_eq_emod_of_nonneg (by omega)]; omega
  exact addL_wk (by omega) (by omega) (by omega) (by omega) s hs
theorem time_wk {f t : Int} (hf : 0 ≤ f) {ts l : List (Tok α)} {s : List Sp} (hk : Tk ts) (h : time en f t ts = .ok (s, l)) : wk s ∧ Tk l := by
  unfold time at h
  split at h
  · cases h
  · rename_i a x ts1 h1
    obtain ⟨a1, a2, _, k1⟩ := clock_rng hk h1
    split at h
    · cases h
    · rename_i c ts2 h2
      obtain ⟨_, _, k2⟩ := take_tk k1 h2
      split at h
      · cases h
      · rename_i b y ts3 h3
        obtain ⟨b1, _, b2, k3⟩ := clock_rng k2 h3
        have b2 := b2 rfl
        split at h
        · cases h
        · rename_i hab
          simp only [beq_iff_eq] at hab
          cases h
          refine ⟨dayL_wk hf a1 ?_ (by omega) ?_, k3⟩ <;> split <;> omega
theorem times_wk {f t : Int} (hf : 0 ≤ f) : ∀ (n : Nat) {ts l : List (Tok α)} {s : List Sp}, Tk ts → times en f t n ts = .ok (s, l) → wk s ∧ Tk l := by
  intro n
  induction n with
  | zero => intro ts l s _ h; cases h
  | succ n ih =>
    intro ts l s hk h
    unfold times at h
    split at h
    · cases h
    · rename_i s1 ts1 h1
      obtain ⟨w1, k1⟩ := time_wk hf hk h1
      split at h
      · split at h
        · cases h
        · rename_i s2 ts2 h2
          obtain ⟨w2, k2⟩ := ih (k1.drop 1) h2
          cases h
          exact ⟨wk_app w1 w2, k2⟩
      · cases h; exact ⟨w1, k1⟩
theorem dys_tk {ts l : List (Tok α)} {f t : Int} (hk : Tk ts) (h : dys en ts = .ok ((f, t), l)) : 0 ≤ f ∧ f < 7 ∧ 0 ≤ t ∧ t < 7 ∧ Tk l := by
  have hidx : ∀ d ∈ days, 0 ≤ idx d ∧ idx d < 7 := by decide +kernel
  unfold dys at h
  split at h
  · cases h
  · rename_i x ts1 h1
    obtain ⟨_, _, k1⟩ := take_tk hk h1
    have hx := (take_ok h1).2.2.resolve_left (by decide)
    split at h
    · split at h
      · cases h
      · rename_i y ts2 h2
        obtain ⟨_, _, k2⟩ := take_tk (k1.drop 1) h2
        have hy := (take_ok h2).2.2.resolve_left (by decide)
        cases h
        exact ⟨(hidx _ hx).1, (hidx _ hx).2, (hidx _ hy).1, (hidx _ hy).2, k2⟩
    · cases h
      exact ⟨(hidx _ hx).1, (hidx _ hx).2, (hidx _ hx).1, (hidx _ hx).2, k1⟩
theorem part_wk {ts l : List (Tok α)} {s : List Sp} (hk : Tk ts) (h : part en ts = .ok (s, l)) : wk s ∧ Tk l := by
  unfold part at h
  split at h
  · cases h
  · rename_i a b ts1 h1
    obtain ⟨h2, _, _, _, h3⟩ := dys_tk hk h1
    exact times_wk h2 _ h3 h
theorem parts_wk : ∀ (n : Nat) {ts l : List (Tok α)} {s : List Sp}, Tk ts → parts en n ts = .ok (s, l) → wk s ∧ Tk l := by
  intro n
  induction n with
  | zero => intro ts l s _ h; cases h
  | succ n ih =>
    intro ts l s hk h
    unfold parts at h
    split at h
    · cases h
    · rename_i s1 ts1 h1
      obtain ⟨w1, k1⟩ := part_wk hk h1
      split at h
      · split at h
        · cases h
        · rename_i s2 ts2 h2
          obtain ⟨w2, k2⟩ := ih (k1.drop 1) h2
          cases h
          exact ⟨wk_app w1 w2, k2⟩
      · cases h; exact ⟨w1, k1⟩
theorem textP_wk {ts : List (Tok α)} {s : List Sp} (hk : Tk ts) (h : textP en ts = .ok s) : wk s := by
  unfold textP at h
  cases hq : textQ en ts with
  | error q => rw [hq] at h; cases h
  | ok q =>
    obtain ⟨s', l⟩ := q
    rw [hq] at h
    cases l with
    | cons t l => cases h
    | nil =>
      cases h
      unfold textQ at hq
      split at hq
      · injection hq with hq; rw [show s = addL 0 10080 from (congrArg Prod.fst hq).symm]; exact addL_wk (by omega) (by omega) (by omega) (by omega)
      · split at hq
        · injection hq with hq; rw [show s = [] from (congrArg Prod.fst hq).symm]; intro s hs; cases hs
        · exact (parts_wk _ hk hq).1
end
-- ---- what Parse answers
theorem lexP_cases (l : Bys) : (∃ e a, lexP l = .error (e, a) ∧ e ≠ 0 ∧ 0 ≤ a ∧ a < l.length) ∨ (lexP l = .ok ((lexL l 0).map (·.1)) ∧ ∀ x ∈ lexL l 0, x.2 = 0) := by
  have hm : ∀ (q : List (Tok Int × Int)) (e : Int × Int), errOf q = some e → e.1 ≠ 0 ∧ ∃ x ∈ q, x.1.2.2 = e.2 := by
    intro q
    induction q with
    | nil => intro e h; cases h
    | cons x q ih =>
      intro e h
      unfold errOf at h
      split at h
      · rename_i h1
        cases h
        exact ⟨by simpa using h1, x, List.mem_cons_self, rfl⟩
      · obtain ⟨h1, y, hy, h2⟩ := ih e h
        exact ⟨h1, y, List.mem_cons_of_mem _ hy, h2⟩
  unfold lexP
  cases he : errOf (lexL l 0) with
  | some e =>
    obtain ⟨h1, x, hx, h2⟩ := hm _ _ he
    have := (lexL_inc _ l 0 (Nat.le_refl _)).2 x hx
    exact .inl ⟨e.1, e.2, rfl, h1, by omega, by omega⟩
  | none => exact .inr ⟨rfl, (errOf_none _).1 he⟩
theorem lexP_tk {l : Bys} {ts : List (Tok Int)} (h : lexP l = .ok ts) : ts = (lexL l 0).map (·.1) ∧ errOf (lexL l 0) = none ∧ Tk ts ∧ (∀ t ∈ ts, 0 ≤ t.2.2 ∧ t.2.2 < l.length) ∧ ts.length ≤ l.length := by
  rcases lexP_cases l with ⟨e, a, h1, _⟩ | ⟨h1, h2⟩
  · rw [h1] at h; cases h
  · rw [h1] at h
    cases h
    refine ⟨rfl, (errOf_none _).2 h2, fun t ht => ?_, fun t ht => ?_, ?_⟩
    · obtain ⟨x, hx, rfl⟩ := List.mem_map.1 ht
      exact (lexL_ok _ l 0 (Nat.le_refl _) x hx (h2 x hx)).1
    · obtain ⟨x, hx, rfl⟩ := List.mem_map.1 ht
      have := (lexL_inc _ l 0 (Nat.le_refl _)).2 x hx
      omega
    · rw [List.length_map]; exact lexL_len _ l 0 (Nat.le_refl _)
theorem parse_cases (l : Bys) : (∃ e a, parseP l = .error (e, a) ∧ e ≠ 0 ∧ 0 ≤ a ∧ a ≤ l.length) ∨ (∃ s, parseP l = .ok s ∧ vl (-1) s = true ∧ s.length ≤ 60) := by
  unfold parseP
  cases hl : lexP l with
  | error e =>
    rcases lexP_cases l with ⟨e', a, h1, h2, h3, h4⟩ | ⟨h1, _⟩
    · rw [hl] at h1; cases h1
      exact .inl ⟨e', a, rfl, h2, h3, by omega⟩
    · rw [hl] at h1; cases h1
  | ok ts =>
    obtain ⟨_, _, hk, hr, _⟩ := lexP_tk hl
    simp only
    cases ht : textP (l.length : Int) ts with
    | error e =>
      obtain ⟨c, x⟩ := e
      obtain ⟨h1, h2⟩ := textP_at ht
      refine .inl ⟨c, x, rfl, h1, ?_⟩
      rcases h2 with rfl | ⟨t, h3, rfl⟩
      · omega
      · have := hr t h3; omega
    | ok s =>
      have hw := textP_wk hk ht
      simp only
      split
      · exact .inl ⟨2, _, rfl, by omega, by omega, by omega⟩
      · exact .inr ⟨_, rfl, (canon_un hw).ok, by omega⟩
-- ---- parts
/-- Pairs of offsets. -/
def both : List (Tok Int) → Int → List (Tok (Int × Int))
  | [], _ => []
  | t :: ts, n => (t.1, t.2.1, (t.2.2, n)) :: both ts (n + (t.2.1.length + 1 : Nat))
end Go.Proofs.YtbflfefahheidaaGreatDoor
/- Hours: Valid, Next. -/
set_option linter.unusedVariables false
set_option linter.unusedSimpArgs false
namespace Go.Proofs.YtbflfefahheidaaGreatDoor
open Go.RowKit Go.Pl
/-! ### hours: Valid, Next -/
def spL (s : Sp) : List Value := [vI s.1, vI s.2]
theorem spL_len (s : Sp) : (spL s).length = 2 := rfl
abbrev SpV := Src spL 2
theorem vl_go {l : List Sp} {i : Nat} {y : Sp} (hy : l[i]? = some y) {lo : Int} : vl lo (l.drop i) = (decide (lo < y.1) && decide (y.1 < y.2) && decide (y.2 ≤ 10080) && vl y.2 (l.drop (i + 1))) := by
  have hi := (List.getElem?_eq_some_iff.1 hy).1
  rw [List.drop_eq_getElem_cons hi, (List.getElem?_eq_some_iff.1 hy).2]; rfl
def minuteB (m : Int) : Bool := decide (0 ≤ m) && decide (m ≤ 1000000000)
def nextA (l : List Sp) (m : Int) : Int := match l.find? (fun s => decide (m % 10080 < s.2)) with | some s => m + max 0 (s.1 - m % 10080) | none => m - m % 10080 + 10080 + (l.headD (0, 0)).1
def nextP (l : List Sp) (m : Int) : Int × Bool := if vl (-1) l && minuteB m && !l.isEmpty then (nextA l m, true) else (0, false)
theorem vl_sorted {lo : Int} {l : List Sp} (h0 : -1 ≤ lo) (h : vl lo l = true) : ∀ (i j : Nat) (y z : Sp), i < j → l[i]? = some y → l[j]? = some z → y.2 < z.1 := by
  induction l generalizing lo with
  | nil => intro i j y z _ h; simp at h
  | cons s l ih =>
    obtain ⟨h1, h2, h3, h4⟩ := vl_cons.1 h
    intro i j y z hij hy hz
    cases j with
    | zero => omega
    | succ j =>
      simp only [List.getElem?_cons_succ] at hz
      cases i with
      | zero =>
        simp only [List.getElem?_cons_zero, Option.some.injEq] at hy; subst hy
        have hm := List.mem_of_getElem? hz
        have := vl_lo (m := z.1) h4 ⟨z, hm, Int.le_refl _, (vl_wk (lo := s.2) (by omega) h4 z hm).2.1⟩
        exact this
      | succ i => exact ih (by omega) h4 i j y z (by omega) (by simpa using hy) hz
theorem len0_eq {α : Type} (l : List α) : (((l.length : Int)) == 0) = l.isEmpty := by
  cases l <;> simp
  omega
theorem nextP_no1 {l : List Sp} {m : Int} (h : vl (-1) l = false) : nextP l m = (0, false) := by unfold nextP; rw [h]; rfl
theorem nextP_no2 {l : List Sp} {m : Int} (h : minuteB m = false) : nextP l m = (0, false) := by unfold nextP; rw [h]; simp
theorem nextP_no3 {l : List Sp} {m : Int} (h : l.isEmpty = true) : nextP l m = (0, false) := by unfold nextP; rw [h]; simp
theorem nextP_is {l : List Sp} {m : Int} (h1 : vl (-1) l = true) (h2 : minuteB m = true) (h3 : l.isEmpty = false) : nextP l m = (nextA l m, true) := by unfold nextP; rw [h1, h2, h3]; rfl
theorem nextA_find {l : List Sp} {m : Int} {s : Sp} (h : l.find? (fun s => decide (m % 10080 < s.2)) = some s) : nextA l m = m + max 0 (s.1 - m % 10080) := by unfold nextA; rw [h]
theorem nextA_none {l : List Sp} {m : Int} {s : Sp} (h : l.find? (fun s => decide (m % 10080 < s.2)) = none) (h0 : l[0]? = some s) : nextA l m = m - m % 10080 + 10080 + s.1 := by
  unfold nextA; rw [h]
  cases l with
  | nil => simp at h0
  | cons a l => simp at h0; subst h0; rfl
theorem find_at {l : List Sp} {m : Int} {i : Nat} {y : Sp} (hA : ∀ j z, j < i → l[j]? = some z → z.2 ≤ m) (hy : l[i]? = some y) (h : m < y.2) : l.find? (fun s => decide (m < s.2)) = some y := by
  have hi := (List.getElem?_eq_some_iff.1 hy).1
  rw [List.find?_eq_some_iff_getElem]
  refine ⟨decide_eq_true h, i, hi, (List.getElem?_eq_some_iff.1 hy).2, fun j hj => ?_⟩
  have := hA j l[j] hj (List.getElem?_eq_getElem (by omega))
  simp only [Bool.not_eq_true', decide_eq_false_iff_not]; omega
theorem find_no {l : List Sp} {m : Int} (hA : ∀ j z, j < l.length → l[j]? = some z → z.2 ≤ m) : l.find? (fun s => decide (m < s.2)) = none := by
  rw [List.find?_eq_none]
  intro s hs
  obtain ⟨j, hj, rfl⟩ := List.mem_iff_getElem.1 hs
  have := hA j l[j] hj (List.getElem?_eq_getElem hj)
  simp only [decide_eq_true_eq]; omega
theorem vl_at {l : List Sp} (h : vl (-1) l = true) {i : Nat} {y : Sp} (hy : l[i]? = some y) : 0 ≤ y.1 ∧ y.1 < y.2 ∧ y.2 ≤ 10080 := vl_wk (Int.le_refl _) h y (gm hy)
abbrev A130 (Φ : Ending → World → Prop) := AtO Tryz.prog (bodyOf Tryz.f130) (whole (bodyPost Tryz.prog Tryz.f130 Φ)) [] 31
theorem hvalid_calls {w : World} {v : Value} {l : List Sp} (hl : SpV w v l) : Calls Tryz.prog 130 #[v] w fun e w' => e = .returned (vB (vl (-1) l)) ∧ Fr (fun _ => False) w w' := by
  obtain ⟨p0, cp0, hp0, sp0⟩ := hl.op
  subst hp0; have bp0 := sp0.bnd
  refine beg Tryz.func130 rfl rfl [(0, vL p0 l.length cp0)] rfl rfl fun Φ hΦ => ?_
  have hM := Mm.nil (fun _ => False) w
  refine seg 3 0 [(3, vI (-1)), (6, vL p0 l.length cp0), (7, vI (l.length : Int)), (8, vI 0)] f0 ?_
  have lp1 : ∀ (m3 : Nat) (i : Nat) (k : Int) (w2 : World), i ≤ l.length → vl (-1) l = vl k (l.drop i) → Mm (fun _ => False) w w2 [] → m3 = l.length - i → A130 Φ (some (3, 0)) [(8, vI (i : Int)), (7, vI (l.length : Int)), (6, vL p0 l.length cp0), (3, vI k)] w2 := by
   refine srec fun m3 ih2 i k w2 hi hv hM hm3 => seg 3 1 [(9, vB (decide ((i : Int) < (l.length : Int))))] f0 ?_
   cases h4 : (decide ((i : Int) < (l.length : Int))) with
   | false =>
    have rh4 := df h4
    exact rt1 2 (vB true) rfl f0 (hΦ _ _ ⟨by rw [hv, List.drop_of_length_le (by omega)]; rfl, hM.fr⟩)
   | true =>
    have rh4 := dt h4
    obtain ⟨y, hy, g5, o5, q5, r5⟩ := sp0.el (i := i) (by omega)
    refine varm 4 2 5 [(11, .agg #[vI y.1, vI y.2])] [] 141 (.agg #[vI y.1, vI y.2]) (fc (ix 48 cp0 q5 (gl hy)) (fc (la0 141 hM r5) f0)) hM fun b6 w1 hM => seg 5 5 [(16, vB (decide (y.1 ≤ k)))] (fc (ldm 3 0 0 hM rfl rfl) f0) ?_
    cases h7 : (decide (y.1 ≤ k)) with
    | false =>
     have rh7 := df h7
     refine seg 5 12 [(23, vB (decide (y.2 ≤ y.1)))] (fc (ldm 3 0 0 hM rfl rfl) (fc (ldm 3 0 1 hM rfl rfl) f0)) ?_
     cases h8 : (decide (y.2 ≤ y.1)) with
     | false =>
      have rh8 := df h8
      refine seg 5 16 [(27, vB (decide (10080 < y.2)))] (fc (ldm 3 0 1 hM rfl rfl) f0) ?_
      cases h9 : (decide (10080 < y.2)) with
      | false =>
       have rh9 := df h9
       refine seg 3 0 [(3, vI y.2), (8, vI ((i : Int) + 1))] (fc (ldm 3 0 1 hM rfl rfl) (fc (tadd (i : Int) 1 Tryz.underlying3) f0)) (fewer _ (ih2 _ (by omega) (i + 1) y.2 _ (gl hy) (by rw [hv, vl_go hy]; simp; omega) (hM.pick []) rfl))
      | true =>
       have rh9 := dt h9
       exact rt1 2 (vB false) rfl f0 (hΦ _ _ ⟨by rw [hv, vl_go hy]; simp; omega, hM.fr⟩)
     | true =>
      have rh8 := dt h8
      exact rt1 2 (vB false) rfl f0 (hΦ _ _ ⟨by rw [hv, vl_go hy]; simp; omega, hM.fr⟩)
    | true =>
     have rh7 := dt h7
     exact rt1 2 (vB false) rfl f0 (hΦ _ _ ⟨by rw [hv, vl_go hy]; simp; omega, hM.fr⟩)
  exact fewer _ (lp1 _ 0 (-1) _ (Nat.zero_le _) rfl hM rfl)
theorem cmp_lt {x y : Int} : decide (Lib.compareInt x y < 0) = decide (x < y) := by
  unfold Lib.compareInt
  by_cases h : x < y
  · simp [h]
  · simp [h]; split <;> omega
theorem srch_up {l : List Sp} {m : Int} {k : Nat} {y : Sp} (hv : vl (-1) l = true) (hy : l[k]? = some y) (h : decide (Lib.compareInt y.2 (m + 1) < 0) = true) : ∀ z q, z < k + 1 → l[z]? = some q → q.2 ≤ m := fun z q hz hq => by
  rw [cmp_lt] at h
  have hc := of_decide_eq_true h
  have := vl_at hv hq
  have := vl_at hv hy
  rcases Nat.lt_or_ge z k with h9 | h9
  · have := vl_sorted (Int.le_refl _) hv _ _ _ _ h9 hq hy; omega
  · have e9 : z = k := by omega
    subst e9; rw [hy] at hq; cases hq; omega
theorem srch_dn {l : List Sp} {m : Int} {k : Nat} {y : Sp} (hv : vl (-1) l = true) (hy : l[k]? = some y) (h : decide (Lib.compareInt y.2 (m + 1) < 0) = false) : ∀ z q, k ≤ z → l[z]? = some q → m < q.2 := fun z q hz hq => by
  rw [cmp_lt] at h
  have hc := of_decide_eq_false h
  have := vl_at hv hq
  rcases Nat.lt_or_ge k z with h9 | h9
  · have := vl_sorted (Int.le_refl _) hv _ _ _ _ h9 hy hq; omega
  · have e9 : z = k := by omega
    subst e9; rw [hy] at hq; cases hq; omega
theorem isNaN_calls (m : Int) (w : World) : Calls Tryz.prog 168 #[vI m] w fun e w' => e = .returned (vB false) ∧ Fr (fun _ => False) w w' := by
  refine beg Tryz.func168 rfl rfl [(0, vI m)] rfl rfl fun Φ hΦ => ?_
  have hM := Mm.nil (fun _ => False) w
  exact rt1 2 (vB (!(m == m))) rfl f0 (hΦ _ _ ⟨by simp, hM.fr⟩)
theorem cmp_fr (x y : Int) (w : World) : Calls Tryz.prog 133 #[vI x, vI y] w fun e w' => e = .returned (vI (Lib.compareInt x y)) ∧ Fr (fun _ => False) w w' := by
  refine beg Tryz.func133 rfl rfl [(0, vI x), (1, vI y)] rfl rfl fun Φ hΦ => ?_
  have hM := Mm.nil (fun _ => False) w
  refine calm 1 1 8 [(7, vI x)] f0 hM (isNaN_calls x _) fun w1 hM => calm 2 1 10 [(5, vB false), (9, vI y)] f0 hM (isNaN_calls y _) fun w1 hM => seg 9 3 [(16, vB (decide (x < y)))] f0 ?_
  cases h10 : (decide (x < y)) with
  | false =>
   have rh10 := df h10
   refine seg 11 3 [(19, vB (decide (y < x)))] f0 ?_
   cases h11 : (decide (y < x)) with
   | false =>
    have rh11 := df h11
    exact rt1 4 (vI 0) rfl f0 (hΦ _ _ ⟨by unfold Lib.compareInt; simp; omega, hM.fr⟩)
   | true =>
    have rh11 := dt h11
    exact rt1 4 (vI 1) rfl f0 (hΦ _ _ ⟨by unfold Lib.compareInt; simp; omega, hM.fr⟩)
  | true =>
   have rh10 := dt h10
   exact rt1 4 (vI (-1)) rfl f0 (hΦ _ _ ⟨by unfold Lib.compareInt; simp; omega, hM.fr⟩)
theorem next1_calls (s : Sp) {m : Int} (h0 : 0 ≤ m) (h1 : m ≤ 10080) (w : World) : Calls Tryz.prog 132 #[.agg #[vI s.1, vI s.2], vI m] w fun e w' => e = .returned (vI (Lib.compareInt s.2 (m + 1))) ∧ Fr (fun _ => False) w w' := by
  refine beg Tryz.func132 rfl rfl [(0, .agg #[vI s.1, vI s.2]), (1, vI m)] rfl rfl fun Φ hΦ => ?_
  have hM := Mm.nil (fun _ => False) w
  refine newm 0 0 2 [] (cs := #[vI s.1, vI s.2]) (T := 141) (v := fun b => vP b 0) f0 hM fun b12 w1 hM => calm 1 4 9 [(6, vI s.2), (8, vI (m + 1))] (fc (ldm 3 0 1 hM rfl rfl) (fc (tadd m 1 Tryz.underlying3) f0)) hM (cmp_fr s.2 (m + 1) _) fun w1 hM => rt1 4 (vI (Lib.compareInt s.2 (m + 1))) rfl f0 (hΦ _ _ ⟨rfl, hM.fr⟩)
theorem tou (T : TypeId) (m : Int) (h0 : 0 ≤ m) (h1 : m ≤ 9223372036854775807) {w : World} (hT : T = 215 := by rfl) : Ft.ok Tryz.prog w (.g1 (.convert 3 T) (vI m) (.int .u64 m)) := fun o ρ x ho hx => by
  subst hT
  have : IntKind.u64.wrap m = m := by
    show m % 18446744073709551616 = m
    omega
  simp [execOp, ho, hx, go_sem, this]
theorem toi (T : TypeId) (m : Int) (h0 : 0 ≤ m) (h1 : m ≤ 9223372036854775807) {w : World} (hT : T = 215 := by rfl) : Ft.ok Tryz.prog w (.g1 (.convert T 3) (.int .u64 m) (vI m)) := fun o ρ x ho hx => by
  subst hT
  simp [execOp, ho, hx, go_sem, IntWalk.i64_in m ⟨by omega, by omega⟩]
theorem thalf (T : TypeId) (n : Nat) (h1 : n ≤ 9223372036854775807) {w : World} (hT : T = 215 := by rfl) : Ft.ok Tryz.prog w (.g2 (fun x y => .binOp .shr T x y T) (.int .u64 ((n : Nat) : Int)) (.int .u64 1) (.int .u64 (((n / 2 : Nat)) : Int))) := fun o ρ x y ho hx hy => by
  subst hT
  have : IntKind.u64.wrap ((n : Int) / 2) = (n : Int) / 2 := by
    show ((n : Int) / 2) % 18446744073709551616 = _
    omega
  simp [execOp, ho, hx, hy, go_sem, this]
abbrev A131 (Φ : Ending → World → Prop) := AtO Tryz.prog (bodyOf Tryz.f131) (whole (bodyPost Tryz.prog Tryz.f131 Φ)) [] 49
theorem search_calls {w : World} {v : Value} {l : List Sp} (hl : SpV w v l) (hv : vl (-1) l = true) (hlen : l.length ≤ 400000000) {m : Int} (h0 : 0 ≤ m) (h1 : m ≤ 10080) : Calls Tryz.prog 131 #[v, vI m, .func (.func 132) #[] #[]] w fun e w' => ∃ (i : Nat) (b : Bool), e = .returned (.tuple #[vI (i : Int), vB b]) ∧ i ≤ l.length ∧ (∀ z q, z < i → l[z]? = some q → q.2 ≤ m) ∧ (∀ z q, i ≤ z → l[z]? = some q → m < q.2) ∧ Fr (fun _ => False) w w' := by
  obtain ⟨p0, cp0, hp0, sp0⟩ := hl.op
  subst hp0; have bp0 := sp0.bnd
  refine beg Tryz.func131 rfl rfl [(0, vL p0 l.length cp0), (1, vI m), (2, .func (.func 132) #[] #[])] rfl rfl fun Φ hΦ => ?_
  have hM := Mm.nil (fun _ => False) w
  refine seg 3 0 [(8, vI (l.length : Int)), (9, vI 0), (10, vI (l.length : Int))] f0 ?_
  have lp13 : ∀ (m15 : Nat) (i : Nat) (j : Nat) (w2 : World), i ≤ j → j ≤ l.length → (∀ z q, z < i → l[z]? = some q → q.2 ≤ m) → (∀ z q, j ≤ z → l[z]? = some q → m < q.2) → Mm (fun _ => False) w w2 [] → m15 = j - i → A131 Φ (some (3, 0)) [(10, vI (j : Int)), (9, vI (i : Int)), (8, vI (l.length : Int)), (0, vL p0 l.length cp0), (1, vI m), (2, .func (.func 132) #[] #[])] w2 := by
   refine srec fun m15 ih14 i j w2 hij hjl hA hB hM hm15 => seg 3 3 [(17, vB (decide ((i : Int) < (j : Int))))] f0 ?_
   cases h16 : (decide ((i : Int) < (j : Int))) with
   | false =>
    have rh16 := df h16
    refine seg 8 5 [(35, vI (i : Int)), (39, vB (decide ((i : Int) < (l.length : Int))))] f0 ?_
    cases h17 : (decide ((i : Int) < (l.length : Int))) with
    | false =>
     have rh17 := df h17
     exact rt2 6 7 (vI (i : Int)) (vB false) rfl rfl f0 (hΦ _ _ ⟨i, false, rfl, by omega, hA, fun z q hz hq => hB z q (by omega) hq, hM.fr⟩)
    | true =>
     have rh17 := dt h17
     obtain ⟨y18, hy18, g18, o18, q18, r18⟩ := sp0.el (i := i) (by omega)
     refine calm 8 11 46 [(40, .func (.func 132) #[] #[]), (44, .agg #[vI y18.1, vI y18.2]), (45, vI m)] (fc (ix 48 cp0 q18 (gl hy18)) (fc (la0 141 hM r18) f0)) hM (next1_calls y18 h0 h1 _) fun w1 hM => rt2 6 7 (vI (i : Int)) (vB ((Lib.compareInt y18.2 (m + 1)) == 0)) rfl rfl f0 (hΦ _ _ ⟨i, ((Lib.compareInt y18.2 (m + 1)) == 0), rfl, by omega, hA, fun z q hz hq => hB z q (by omega) hq, hM.fr⟩)
   | true =>
    have rh16 := dt h16
    obtain ⟨y19, hy19, g19, o19, q19, r19⟩ := sp0.el (i := ((i + j) / 2)) (by omega)
    refine calm 5 6 30 [(11, vI ((((i + j) / 2 : Nat)) : Int)), (24, .func (.func 132) #[] #[]), (28, .agg #[vI y19.1, vI y19.2]), (29, vI m)] (fc (tadd (i : Int) (j : Int) Tryz.underlying3) (fc (tou 215 ((i : Int) + (j : Int)) (by omega) (by omega)) (fc (thalf 215 (i + j) (by omega)) (fc (toi 215 ((((i + j) / 2 : Nat)) : Int) (by omega) (by omega)) (fc (ix 48 cp0 q19 (gl hy19)) (fc (la0 141 hM r19) f0)))))) hM (next1_calls y19 h0 h1 _) fun w1 hM => seg 5 8 [(31, vB (decide ((Lib.compareInt y19.2 (m + 1)) < 0)))] f0 ?_
    cases h20 : (decide ((Lib.compareInt y19.2 (m + 1)) < 0)) with
    | false =>
     have rh20 := df h20
     refine seg 3 0 [(10, vI ((((i + j) / 2 : Nat)) : Int))] f0 (fewer _ (ih14 _ (by omega) i ((i + j) / 2) _ (by omega) (by omega) hA (srch_dn hv hy19 h20) hM rfl))
    | true =>
     have rh20 := dt h20
     refine seg 3 0 [(9, vI (((((i + j) / 2 : Nat)) : Int) + 1))] (fc (tadd ((((i + j) / 2 : Nat)) : Int) 1 Tryz.underlying3) f0) (fewer _ (ih14 _ (by omega) ((i + j) / 2 + 1) j _ (by omega) (by omega) (srch_up hv hy19 h20) hB hM rfl))
  exact fewer _ (lp13 _ 0 l.length _ (Nat.zero_le _) (Nat.le_refl _) (fun _ _ h => absurd h (Nat.not_lt_zero _)) (fun z q h hq => absurd (gl hq) (by omega)) hM rfl)
theorem next_calls {w : World} {v : Value} {l : List Sp} (hl : SpV w v l) (hlen : l.length ≤ 400000000) (m : Int) : Calls Tryz.prog 100 #[v, vI m] w fun e w' => e = .returned (.tuple #[vI (nextP l m).1, vB (nextP l m).2]) ∧ Fr (fun _ => False) w w' := by
  have hl0 := hl
  obtain ⟨p0, cp0, hp0, sp0⟩ := hl.op
  subst hp0; have bp0 := sp0.bnd
  refine beg Tryz.func100 rfl rfl [(0, vL p0 l.length cp0), (1, vI m)] rfl rfl fun Φ hΦ => ?_
  have hM := Mm.nil (fun _ => False) w
  refine calm 1 1 10 [(9, vL p0 l.length cp0)] f0 hM (hvalid_calls (hl0.fr hM.fr)) fun w1 hM => seg 1 4 [(12, vB (!(vl (-1) l)))] f0 ?_
  cases h21 : (vl (-1) l) with
  | false =>
   exact rt2 4 5 (vI 0) (vB false) rfl rfl f0 (hΦ _ _ ⟨by rw [nextP_no1 h21], hM.fr⟩)
  | true =>
   refine seg 1 9 [(17, vB ((l.length : Int) == 0))] f0 ?_
   cases h22 : ((l.length : Int) == 0) with
   | false =>
    have rh22 := ef h22
    refine seg 1 13 [(21, vB (decide (m < 0)))] f0 ?_
    cases h23 : (decide (m < 0)) with
    | false =>
     have rh23 := df h23
     refine seg 1 16 [(24, vB (decide (1000000000 < m)))] f0 ?_
     cases h24 : (decide (1000000000 < m)) with
     | false =>
      have rh24 := df h24
      refine calk 4 2 30 [(6, vI (m % 10080)), (28, vL p0 l.length cp0), (29, vI (m % 10080))] (K := fun u w8 => ∃ (i : Nat) (b : Bool), u = .tuple #[vI (i : Int), vB b] ∧ i ≤ l.length ∧ (∀ z q, z < i → l[z]? = some q → q.2 ≤ m % 10080) ∧ (∀ z q, i ≤ z → l[z]? = some q → m % 10080 < q.2)) (fc (trem m 10080 Tryz.underlying3) f0) hM ((search_calls (hl0.fr hM.fr) h21 hlen (m := m % 10080) (by omega) (by omega)).mono fun e w8 h => by obtain ⟨i, b, h1, h2, h3, h4, h5⟩ := h; exact ⟨⟨_, h1, i, b, rfl, h2, h3, h4⟩, h5⟩) fun _ w1 ⟨i, b, hv9, hil, hA, hB⟩ hM f1 => ?_
      subst hv9
      refine seg 5 4 [(7, vI (i : Int)), (36, vB ((i : Int) == (l.length : Int)))] f0 ?_
      cases h25 : ((i : Int) == (l.length : Int)) with
      | false =>
       have rh25 := ef h25
       obtain ⟨y26, hy26, g26, o26, q26, r26⟩ := sp0.el (i := i) (by omega)
       have hbhy26 := vl_at h21 hy26
       exact rt2 4 5 (vI (m + (max 0 (y26.1 - (m % 10080))))) (vB true) rfl rfl (fc (ix 48 cp0 q26 (gl hy26)) (fc (ld0 3 hM (r26 0 _ rfl)) (fc (tsub y26.1 (m % 10080) Tryz.underlying3) (fc (tmax 3 0 (y26.1 - (m % 10080))) (fc (tadd m (max 0 (y26.1 - (m % 10080))) Tryz.underlying3) f0))))) (hΦ _ _ ⟨by rw [nextP_is h21 (by unfold minuteB; simp; omega) (by rw [← len0_eq]; exact h22), nextA_find (find_at hA hy26 (hB _ _ (Nat.le_refl _) hy26))], hM.fr⟩)
      | true =>
       have rh25 := et h25
       obtain ⟨y27, hy27, g27, o27, q27, r27⟩ := sp0.el (i := 0) (by omega)
       have hbhy27 := vl_at h21 hy27
       exact rt2 4 5 (vI (((m - (m % 10080)) + 10080) + y27.1)) (vB true) rfl rfl (fc (tsub m (m % 10080) Tryz.underlying3) (fc (tadd (m - (m % 10080)) 10080 Tryz.underlying3) (fc (ix 48 cp0 q27 (gl hy27)) (fc (ld0 3 hM (r27 0 _ rfl)) (fc (tadd ((m - (m % 10080)) + 10080) y27.1 Tryz.underlying3) f0))))) (hΦ _ _ ⟨by rw [nextP_is h21 (by unfold minuteB; simp; omega) (by rw [← len0_eq]; exact h22), nextA_none (find_no fun z q hz hq => hA z q (by omega) hq) hy27], hM.fr⟩)
     | true =>
      have rh24 := dt h24
      exact rt2 4 5 (vI 0) (vB false) rfl rfl f0 (hΦ _ _ ⟨by rw [nextP_no2 (by unfold minuteB; simp; omega)], hM.fr⟩)
    | true =>
     have rh23 := dt h23
     exact rt2 4 5 (vI 0) (vB false) rfl rfl f0 (hΦ _ _ ⟨by rw [nextP_no2 (by unfold minuteB; simp; omega)], hM.fr⟩)
   | true =>
    have rh22 := et h22
    exact rt2 4 5 (vI 0) (vB false) rfl rfl f0 (hΦ _ _ ⟨by rw [nextP_no3 (by rw [← len0_eq]; exact h22)], hM.fr⟩)
end Go.Proofs.YtbflfefahheidaaGreatDoor
/- Hours: iterating over spans. -/
set_option linter.unusedVariables false
set_option linter.unusedSimpArgs false
namespace Go.Proofs.YtbflfefahheidaaGreatDoor
open Go.RowKit Go.Pl
/-- What an iterator over a row needs. -/
def ValK (c1 : Nat) (p : Option Addr) (cap : Nat) (L : List Sp) (G : Nat → Prop) (W : World) : Prop := W.heap[c1]? = some (.cells #[vL p L.length cap] 48 (0, 0)) ∧ ¬ G c1 ∧ ∃ B, SrcB spL 2 W B p cap L ∧ ∀ k, G k → B ≤ k
def valv (L : List Sp) : List (Array Value) := L.map fun s => #[.agg #[vI s.1, vI s.2]]
abbrev A177 (Φ : Ending → World → Prop) := AtO Tryz.prog (bodyOf Tryz.f177) (whole (bodyPost Tryz.prog Tryz.f177 Φ)) [] 16
theorem values_yields {c1 cap : Nat} {p : Option Addr} {L : List Sp} : IterE Tryz.prog 177 #[vP c1 0] (valv L) (ValK c1 p cap L) := by
  intro l J S w e0 hJ0 he hKp hSq hround
  obtain ⟨hc1, hn1, B, hs, hG⟩ := hKp
  have bb := hs.bnd
  refine beg Tryz.func177 rfl rfl [(0, .func (.yield l) #[] #[]), (1, vP c1 0)] rfl rfl fun Φ hΦ => ?_
  have hM := Mm.one he
  refine seg 1 0 [(5, vL p L.length cap), (6, vI (L.length : Int)), (7, vI 0)] (fc (ld0 48 hM (bx hc1 0 rfl) hn1) f0) ?_
  have lp28 : ∀ (m30 : Nat) (k : Nat) (ek : Ent) (w2 : World), k ≤ L.length → J k ek → Mm e0.B w w2 [ek] → m30 = L.length - k → A177 Φ (some (1, 0)) [(7, vI (k : Int)), (6, vI (L.length : Int)), (5, vL p L.length cap), (0, .func (.yield l) #[] #[])] w2 := by
   refine srec fun m30 ih29 k ek w2 hk hJ hM hm30 => seg 1 1 [(8, vB (decide ((k : Int) < (L.length : Int))))] f0 ?_
   cases h31 : (decide ((k : Int) < (L.length : Int))) with
   | false =>
    have rh31 := df h31
    exact rt0 rfl f0 (hΦ _ _ ⟨⟨_, rfl⟩, .inl ⟨_, by unfold valv; rw [List.length_map, show L.length = k by omega]; exact hJ, hM.get 0 rfl, hM.fr⟩⟩)
   | true =>
    have rh31 := dt h31
    obtain ⟨y32, hy32, g32, o32, q32, r32, n32⟩ := (hs).eb hG (i := k) (by omega)
    refine varm 2 2 4 [(10, .agg #[vI y32.1, vI y32.2])] [] 141 (.agg #[vI y32.1, vI y32.2]) (fc (ix 48 cap q32 (gl hy32)) (fc (la0 141 hM r32 n32) f0)) hM fun b33 w1 hM => yld 3 2 13 [(11, .func (.yield l) #[] #[]), (12, .agg #[vI y32.1, vI y32.2])] #[141] (by decide) (fc (lam 141 1 0 2 hM rfl) f0) hM (j := 0) rfl (hround _ _ _ _ hJ (hM.get 0 rfl) hM.fr (vs_of hy32)) (fun ec w1 hJ hM => ?_) (fun w1 hS => ?_)
    · skip
      refine seg 1 0 [(7, vI ((k : Int) + 1))] (fc (tadd (k : Int) 1 Tryz.underlying3) f0) (fewer _ (ih29 _ (by omega) (k + 1) _ _ (gl hy32) hJ (hM.pick [0]) rfl))
    · skip
      exact rt0 rfl f0 (hΦ _ _ ⟨⟨_, rfl⟩, .inr hS⟩)
  exact fewer _ (lp28 _ 0 e0 _ (Nat.zero_le _) hJ0 hM rfl)
theorem spT : ElT Tryz.prog spL 2 48 141 := ⟨fun _ => rfl, by decide, fun x u hu => by
  unfold spL at hu
  simp only [List.mem_cons, List.not_mem_nil, or_false] at hu
  rcases hu with rfl | rfl <;> rfl, Tryz.underlying48, elOK_info (by kernel_rfl)⟩
theorem appendSeq_calls {w : World} {gf : Nat} {lb : Array Value} {L : List Sp} {Kp : (Nat → Prop) → World → Prop} (hl : L.length ≤ 300000000) (eg : Ent1 Tryz.prog gf) (hY : IterE Tryz.prog gf lb (valv L) Kp) (hK : ∀ G W, (∀ k, G k → w.heap.size ≤ k) → Fr (fun _ => False) w W → Kp G W) : Calls Tryz.prog 188 #[vL none 0 0, .func (.func gf) #[] lb] w fun e w' => ∃ v, e = .returned v ∧ NRow spL 2 141 w w' v L ∧ Fr (fun _ => False) w w' := by
  refine begM Tryz.func188 rfl rfl [(0, vL none 0 0), (1, .func (.func gf) #[] lb)] rfl rfl fun Φ hΦ => ?_
  have hM := Mm.nil (fun _ => False) w
  refine newm 0 0 2 [] (cs := #[vL none 0 0]) (T := 48) (v := fun b => vP b 0) f0 hM fun b34 w1 hM => ?_
  have hM := hM.row (f := spL) (c := 2) (E := 141)
  refine seg 1002 0 [(6, .func (.func gf) #[] lb)] f0 (rngf 2 (g := .tmp 6) (ps := #[7]) (vs := valv L) (fun k Mk => ∃ q c, Mk = [bk b34 #[vL q (L.take k).length c] 48, rw_ spL 2 141 (vL q (L.take k).length c) (L.take k)]) (fun Mk => False) hM ⟨none, 0, rfl⟩ eg hY (fun G W hG f => hK G W (hM.geK hG) (hM.fr.trans' f fun _ _ h => h)) (vsz (ps := #[7]) rfl) ?_ ?_ ?_)
  · skip
    intro k v Mk W l hv hI hfW hM
    obtain ⟨q, c, rfl⟩ := hI
    obtain ⟨y, hy, rfl⟩ := vs_at hv
    refine varm 2 0 5 [] [] 141 (.agg #[vI y.1, vI y.2]) f0 hM fun b35 w1 hM => nrm_ [(5, vP b35 0), (2, vP b34 0)] f0 fun a E => ⟨_, _, E, hM, fun W2 l2 R2 hf2 hM hE => ?_⟩
    refine newm 3 2 10 [(8, vL q (L.take k).length c), (9, .agg #[vI y.1, vI y.2])] (cs := #[vI y.1, vI y.2]) (T := 141) (v := fun b => vL (some ⟨b, 0, none⟩) 1 1) (fc (ldm 48 0 0 hM rfl rfl) (fc (lam 141 2 0 2 hM rfl) f0)) hM fun b36 w1 hM => appm 3 3 11 [] (cap := 1) (by decide) spT f0 hM (j := 1) rfl (src_one (f := spL) (x := y) (hM.get 3 rfl) (Nat.lt_succ_self _)) (fun h => by cases h) (by simp only [List.length_take, List.length_cons, List.length_nil]; omega) fun v37 w1 hM => ?_
    obtain ⟨q37, c37, e37, -⟩ := (hM.src (j := 1) rfl spT.len).op
    subst e37
    refine stm 3 4 [] 48 0 0 (vL q37 ((L.take k) ++ [y]).length c37) f0 hM rfl fun w1 hM => nrm_ [] f0 fun a E => hE.nrm a _ _ ⟨_, _, by rw [gt_ hy]⟩ (hM.pick [0, 1])
  · skip
    intro Mk w1 hI hM
    obtain ⟨k, hk⟩ : ∃ k, k = (valv L).length := ⟨_, rfl⟩
    rw [← hk] at hI
    obtain ⟨q, c, rfl⟩ := hI
    exact rtm1 4 (vL q (L.take k).length c) rfl (fc (ldm 48 0 0 hM rfl rfl) f0) hM (fun w9 hM => hΦ _ _ ⟨_, rfl, by have := hM.nrow (j := 1) rfl; have e9 : L.take k = L := List.take_of_length_le (by rw [hk]; unfold valv; rw [List.length_map]; exact Nat.le_refl _); rw [e9] at this ⊢; exact this, hM.fr⟩)
  · exact fun a Mk w1 hT => hT.elim
theorem collect_calls {w : World} {gf : Nat} {lb : Array Value} {L : List Sp} {Kp : (Nat → Prop) → World → Prop} (hl : L.length ≤ 300000000) (eg : Ent1 Tryz.prog gf) (hY : IterE Tryz.prog gf lb (valv L) Kp) (hK : ∀ G W, (∀ k, G k → w.heap.size ≤ k) → Fr (fun _ => False) w W → Kp G W) : Calls Tryz.prog 175 #[.func (.func gf) #[] lb] w fun e w' => ∃ v, e = .returned v ∧ NRow spL 2 141 w w' v L ∧ Fr (fun _ => False) w w' := by
  refine beg Tryz.func175 rfl rfl [(0, .func (.func gf) #[] lb)] rfl rfl fun Φ hΦ => ?_
  have hM := Mm.nil (fun _ => False) w
  refine calrow 1 1 4 [(3, .func (.func gf) #[] lb)] (f := spL) (c := 2) (E := 141) (A := L) f0 hM (appendSeq_calls hl eg hY fun G W hG f => hK G W (fun k h => Nat.le_trans hM.fr.size (hG k h)) (hM.fr.trans' f fun _ _ h => h)) fun u w1 hM => ?_
  obtain ⟨q38, c38, eq38, sq38⟩ := (hM.src (j := 0) rfl spT.len).op
  subst eq38
  exact rt1 2 (vL q38 L.length c38) rfl f0 (hΦ _ _ ⟨_, rfl, hM.nrow (j := 0) rfl, hM.fr⟩)
theorem values_calls (p : Option Addr) (n c : Nat) (w : World) : Calls Tryz.prog 160 #[vL p n c] w fun e w' => ∃ b, e = .returned (.func (.func 177) #[] #[vP b 0]) ∧ w'.heap[b]? = some (.cells #[vL p n c] 48 (0, 0)) ∧ w.heap.size ≤ b ∧ Fr (fun _ => False) w w' := by
  refine beg Tryz.func160 rfl rfl [(0, vL p n c)] rfl rfl fun Φ hΦ => ?_
  have hM := Mm.nil (fun _ => False) w
  refine newm 0 0 1 [] (cs := #[vL p n c]) (T := 48) (v := fun b => vP b 0) f0 hM fun b39 w1 hM => rt1 2 (.func (.func 177) #[] #[vP b39 0]) rfl f0 (hΦ _ _ ⟨b39, rfl, hM.get 0 rfl, hM.ge (.head _) rfl, hM.fr⟩)
end Go.Proofs.YtbflfefahheidaaGreatDoor
/- slices.SortFunc at the items and at the meetings: the library's contract laid by the kit's programs. -/
namespace Go.Proofs
open Go.Shelf
def Tryz.sortSp_ren : Go.Shelf.Ren := ⟨fun | 6 => 176 | 15 => 190 | 14 => 189 | 28 => 208 | 29 => 194 | 20 => 200 | 21 => 201 | 22 => 202 | 23 => 203 | 24 => 204 | 25 => 205 | 26 => 206 | 27 => 207 | 46 => 213 | 47 => 214 | 48 => 215 | 49 => 216 | 50 => 217 | 57 => 218 | n => n, fun | 22 => 48 | 24 => 141 | 25 => 240 | 3 => 3 | 39 => 215 | 0 => 0 | 53 => 281 | 55 => 222 | 4 => 4 | 46 => 292 | 45 => 291 | 50 => 51 | 5 => 5 | 9 => 9 | 66 => 308 | 70 => 312 | 76 => 318 | 77 => 85 | n => n, fun | n => n⟩
theorem Tryz.sortSp : Go.Proofs.SlLaysF0.n6 Tryz.prog Tryz.sortSp_ren := {
  mixed := by kernel_rfl
  f6 := ⟨Tryz.f176.name, by decide, Tryz.func176.trans (congrArg some (by kernel_rfl))⟩
  f14 := ⟨Tryz.f189.name, by decide, Tryz.func189.trans (congrArg some (by kernel_rfl))⟩
  f15 := Tryz.func190.trans (congrArg some (by kernel_rfl))
  f20 := ⟨Tryz.f200.name, by decide, Tryz.func200.trans (congrArg some (by kernel_rfl))⟩
  f21 := ⟨Tryz.f201.name, by decide, Tryz.func201.trans (congrArg some (by kernel_rfl))⟩
  f22 := ⟨Tryz.f202.name, by decide, Tryz.func202.trans (congrArg some (by kernel_rfl))⟩
  f23 := ⟨Tryz.f203.name, by decide, Tryz.func203.trans (congrArg some (by kernel_rfl))⟩
  f24 := ⟨Tryz.f204.name, by decide, Tryz.func204.trans (congrArg some (by kernel_rfl))⟩
  f25 := ⟨Tryz.f205.name, by decide, Tryz.func205.trans (congrArg some (by kernel_rfl))⟩
  f26 := ⟨Tryz.f206.name, by decide, Tryz.func206.trans (congrArg some (by kernel_rfl))⟩
  f27 := ⟨Tryz.f207.name, by decide, Tryz.func207.trans (congrArg some (by kernel_rfl))⟩
  f28 := Tryz.func208.trans (congrArg some (by kernel_rfl))
  f29 := Tryz.func194.trans (congrArg some (by kernel_rfl))
  f46 := ⟨Tryz.f213.name, by decide, Tryz.func213.trans (congrArg some (by kernel_rfl))⟩
  f47 := Tryz.func214.trans (congrArg some (by kernel_rfl))
  f48 := Tryz.func215.trans (congrArg some (by kernel_rfl))
  f49 := ⟨Tryz.f216.name, by decide, Tryz.func216.trans (congrArg some (by kernel_rfl))⟩
  f50 := ⟨Tryz.f217.name, by decide, Tryz.func217.trans (congrArg some (by kernel_rfl))⟩
  f57 := ⟨Tryz.f218.name, by decide, Tryz.func218.trans (congrArg some (by kernel_rfl))⟩
  t0 := Tryz.underlying0
  a0 := Tryz.isAgg0
  z0 := Tryz.sizeOf0
  v0 := Tryz.zeroValue0
  t3 := Tryz.underlying3
  a3 := Tryz.isAgg3
  z3 := Tryz.sizeOf3
  v3 := Tryz.zeroValue3
  t4 := Tryz.underlying4
  a4 := Tryz.isAgg4
  z4 := Tryz.sizeOf4
  v4 := Tryz.zeroValue4
  t5 := Tryz.underlying5
  a5 := Tryz.isAgg5
  z5 := Tryz.sizeOf5
  v5 := Tryz.zeroValue5
  t9 := Tryz.underlying9
  a9 := Tryz.isAgg9
  z9 := Tryz.sizeOf9
  v9 := Tryz.zeroValue9
  t22 := Tryz.underlying48
  a22 := Tryz.isAgg48
  z22 := Tryz.sizeOf48
  v22 := Tryz.zeroValue48
  t25 := Tryz.underlying240
  a25 := Tryz.isAgg240
  z25 := Tryz.sizeOf240
  v25 := Tryz.zeroValue240
  t39 := Tryz.underlying215
  a39 := Tryz.isAgg215
  z39 := Tryz.sizeOf215
  v39 := Tryz.zeroValue215
  t45 := Tryz.underlying291
  a45 := Tryz.isAgg291
  z45 := Tryz.sizeOf291
  v45 := Tryz.zeroValue291
  t46 := Tryz.underlying292
  a46 := Tryz.isAgg292
  z46 := Tryz.sizeOf292
  v46 := Tryz.zeroValue292
  t50 := Tryz.underlying51
  a50 := Tryz.isAgg51
  z50 := Tryz.sizeOf51
  v50 := Tryz.zeroValue51
  t53 := Tryz.underlying281
  a53 := Tryz.isAgg281
  z53 := Tryz.sizeOf281
  v53 := Tryz.zeroValue281
  t55 := Tryz.underlying222
  a55 := Tryz.isAgg222
  z55 := Tryz.sizeOf222
  v55 := Tryz.zeroValue222
  t66 := Tryz.underlying308
  a66 := Tryz.isAgg308
  z66 := Tryz.sizeOf308
  v66 := Tryz.zeroValue308
  t70 := Tryz.underlying312
  a70 := Tryz.isAgg312
  z70 := Tryz.sizeOf312
  v70 := Tryz.zeroValue312
  t76 := Tryz.underlying318
  a76 := Tryz.isAgg318
  z76 := Tryz.sizeOf318
  v76 := Tryz.zeroValue318
  t77 := Tryz.underlying85
  a77 := Tryz.isAgg85
  z77 := Tryz.sizeOf85
  v77 := Tryz.zeroValue85 }
end Go.Proofs
/- slices.SortFunc at spans. -/
set_option linter.unusedVariables false
set_option linter.unusedSimpArgs false
namespace Go.Proofs.YtbflfefahheidaaGreatDoor
open Go.RowKit Go.Pl Go.Sort Go.Shelf
abbrev spA (s : Sp) : Array Value := #[.int .i64 s.1, .int .i64 s.2]
theorem spL_one (s : Sp) : ∀ u ∈ spL s, u.oneCell' = true := by unfold spL; simp [Value.oneCell']
theorem info141 : (Tryz.prog.info? 141).map (·.size) = some 2 := by kernel_rfl
abbrev oSp := ow spL 2 141
section
variable {w : World} {b k : Nat} {cs : Array Value} {T : TypeId}
theorem rng2 (h : w.heap[b]? = some (.cells cs T (0, 0))) (k : Nat) {p : Sp} (h0 : cs[k]? = some (.int .i64 p.1)) (h1 : cs[k + 1]? = some (.int .i64 p.2)) : w.rangeAt b k (spL p) := by
  intro j v hv
  rw [cell_of_blk h]
  match j, hv with
  | 0, hv => rw [← Option.some.inj hv]; exact h0
  | 1, hv => rw [← Option.some.inj hv]; exact h1
  | j + 2, hv => simp [spL] at hv
end
section
variable {o : Oper} {w : World} {ρ : Operand → Value} {x y z : Operand} {g off k n cap i : Nat} {p : Option Addr} {v u : Value} {m b : Nat}
theorem fa48_0 (ho : o.op = .fieldAddr 141 x 0) (hx : ρ x = .pointer (some ⟨g, off, none⟩)) : (execOp ρ o).run Tryz.prog w = .ok (.value (.pointer (some ⟨g, off + 0, none⟩))) w := by simp [execOp, ho, hx, go_sem]
theorem run_ld48 {s : Sp} (ho : o.op = .load 141 x) (hx : ρ x = .pointer (some ⟨g, off, none⟩)) (h : w.rangeAt g off (spL s)) : (execOp ρ o).run Tryz.prog w = .ok (.value (.agg (spA s))) w := by
  have := run_loadAt_mid (P := Tryz.prog) w g off 141 (spA s).toList _ h Tryz.underlying141 rfl info141
  simp only [execOp, ho, hx, Sem.run_bind, this, Result.andThen_ok, Sem.run_pure]
theorem run_box48 {s : Sp} (ho : o.op = .box 141 x) (hx : ρ x = .agg (spA s)) : (execOp ρ o).run Tryz.prog w = .ok (.value (.pointer (some ⟨w.heap.size, 0, none⟩))) (w.alloc (.cells (spA s) 141)) := by
  simp [execOp, ho, hx, go_sem]
theorem run_ldi {n : Int} (ho : o.op = .load 3 x) (hx : ρ x = .pointer (some ⟨g, off, none⟩)) (hc : w.cell? ⟨g, off, none⟩ = some (.int .i64 n)) : (execOp ρ o).run Tryz.prog w = .ok (.value (.int .i64 n)) w := by
  simp [execOp, ho, hx, go_sem, hc]
end
section
variable {P : Program} {o : Oper} {w : World} {ρ : Operand → Value} {f : FuncId} {ts : Array TypeId} {x y z : Operand} {u v : Value} {cs bs : Array Value}
theorem run_callf1 (eg : ∀ args w, (callFunc f args).run P w = .ok (.enter f args) w) (ho : o.op = .call ⟨.value z, #[x], ts⟩) (hf : ρ z = .func (.func f) #[] cs) (hx : ρ x = v) (ha : #[v] ++ cs = bs) : (execOp ρ o).run P w = .ok (.enter f bs) w := by
 subst ha; simp [execOp, ho, hf, hx, eg, resolve, Deferred.ofValue, invoke, go_sem]
end
/-- w' is w with draws and new blocks behind it. -/
def Gw (w w' : World) : Prop := ∃ q os, w' = grow (w.drewN q) os
theorem grow_nil (w : World) : grow w #[] = w := by simp [grow]
theorem Gw.refl (w : World) : Gw w w := ⟨0, #[], by rw [grow_nil]; rfl⟩
theorem Gw.drew {w w' : World} (h : Gw w w') : Gw w w'.drew := by
  obtain ⟨q, os, rfl⟩ := h
  exact ⟨q + 1, os, rfl⟩
theorem Gw.alloc {w w' : World} (h : Gw w w') (o : Obj) : Gw w (w'.alloc o) := by
  obtain ⟨q, os, rfl⟩ := h
  refine ⟨q, os ++ #[o], ?_⟩
  simp [World.alloc, grow]
theorem Gw.trans {a b c : World} (h : Gw a b) (k : Gw b c) : Gw a c := by
  obtain ⟨q, os, rfl⟩ := h
  obtain ⟨q2, os2, rfl⟩ := k
  refine ⟨q + q2, os ++ os2, ?_⟩
  simp [grow, World.drewN, Nat.add_assoc]
theorem Gw.fr {w w' : World} (h : Gw w w') : Fr (fun _ => False) w w' := by
  obtain ⟨q, os, rfl⟩ := h
  refine ⟨rfl, rfl, rfl, ?_, fun r hr _ => ?_⟩
  · simp [grow, World.drewN]
  · simp only [grow, World.drewN]
    rw [Array.getElem?_append_left hr]
set_option maxHeartbeats 1000000 in
section
variable {α : Type} [Inhabited α] {c : Nat} {f : α → List Value} {T : TypeId}
/-- The cells cur begin with the elements L. -/
def laid (f : α → List Value) (c : Nat) (cur : Array Value) (L : List α) : Prop := ∀ t x, L[t]? = some x → ∀ j u, (f x)[j]? = some u → cur[t * c + j]? = some u
theorem get!_of {l : List Value} {j : Nat} {u : Value} (h : l[j]? = some u) : l[j]! = u := by rw [List.getElem!_eq_getElem?_getD, h]; rfl
theorem holds_laid (hc : 0 < c) (hf : ∀ x, (f x).length = c) {w : World} {g : Nat} {cur : Array Value} {L : List α} (hb : w.heap[g]? = some (.cells cur T (0, 0))) (h : laid f c cur L) : HoldsK f c w g 0 L.toArray := by
  intro t ht
  rw [size_flatK] at ht
  simp only [List.size_toArray] at ht
  have hq : t / c < L.length := by rw [Nat.div_lt_iff_lt_mul hc]; exact ht
  have hm : t % c < c := Nat.mod_lt _ hc
  obtain ⟨x, hx⟩ : ∃ x, L[t / c]? = some x := ⟨_, List.getElem?_eq_getElem hq⟩
  obtain ⟨u, hu⟩ : ∃ u, (f x)[t % c]? = some u := ⟨_, List.getElem?_eq_getElem (by rw [hf]; exact hm)⟩
  refine ⟨?_, free_of_blk hb _⟩
  rw [get_flatK f c L.toArray t (by simpa using ht)]
  have e1 : L.toArray[t / c]! = x := by
    rw [Array.getElem!_eq_getD, Array.getD_eq_getD_getElem?]
    simp [hx]
  rw [e1, get!_of hu, Nat.zero_add, cell_of_blk hb]
  have := h (t / c) x hx (t % c) u hu
  rw [Nat.mul_comm, Nat.div_add_mod] at this
  exact this
theorem laid_sorted (hf : ∀ x, (f x).length = c) {w : World} {g : Nat} {cur : Array Value} {L : List α} (hb : w.heap[g]? = some (.cells cur T (0, 0))) (hsz : L.length * c ≤ cur.size) (m : Nat) (os : Array Obj) :
    ∃ cur', (sortWorldK f c w g 0 m L.toArray os).heap[g]? = some (.cells cur' T (0, 0)) ∧ cur'.size = cur.size ∧ laid f c cur' L ∧ Fr (fun k => k = g) w (sortWorldK f c w g 0 m L.toArray os) := by
  have hlt := lt_of_blk hb
  have hmod : (mapBlock (Sort.ahead w m) g (putCells id 0 (flatK f c L.toArray))).heap[g]? = some (.cells (putCells id 0 (flatK f c L.toArray) cur) T (0, 0)) := by
    unfold mapBlock
    simp only [Array.getElem?_modify, if_true]
    show Option.map _ w.heap[g]? = _
    rw [hb]; rfl
  have hsize : (mapBlock (Sort.ahead w m) g (putCells id 0 (flatK f c L.toArray))).heap.size = w.heap.size := by
    unfold mapBlock Sort.ahead; simp
  refine ⟨putCells id 0 (flatK f c L.toArray) cur, ?_, ?_, ?_, ?_⟩
  · unfold sortWorldK putRowK putRow grow
    simp only
    rw [Array.getElem?_append_left (by rw [hsize]; exact hlt)]
    exact hmod
  · unfold putCells; simp
  · intro t x hx j u hu
    have hj : j < c := by rw [← hf x]; exact (List.getElem?_eq_some_iff.1 hu).1
    have ht := (List.getElem?_eq_some_iff.1 hx).1
    have hlt2 : t * c + j < L.length * c := by
      have : t * c + c ≤ L.length * c := by rw [← Nat.succ_mul]; exact Nat.mul_le_mul_right c ht
      omega
    unfold putCells
    rw [Array.getElem?_mapIdx, Array.getElem?_eq_getElem (by omega)]
    simp only [Option.map_some, size_flatK, List.size_toArray, Nat.zero_add, Nat.zero_le, true_and, Nat.sub_zero, if_pos hlt2, id]
    rw [get_flatK f c L.toArray _ (by simpa using hlt2)]
    have e1 : (t * c + j) / c = t := by
      rw [Nat.mul_comm, Nat.mul_add_div (by omega), Nat.div_eq_of_lt hj, Nat.add_zero]
    have e2 : (t * c + j) % c = j := by rw [Nat.mul_comm, Nat.mul_add_mod, Nat.mod_eq_of_lt hj]
    rw [e1, e2]
    have e3 : L.toArray[t]! = x := by
      rw [Array.getElem!_eq_getD, Array.getD_eq_getD_getElem?]
      simp [hx]
    rw [e3, get!_of hu]
  · unfold sortWorldK putRowK putRow grow
    refine ⟨rfl, rfl, rfl, ?_, fun r hr hne => ?_⟩
    · simp only [Array.size_append]; rw [hsize]; omega
    · simp only
      rw [Array.getElem?_append_left (by rw [hsize]; exact hr)]
      unfold mapBlock
      simp only [Array.getElem?_modify]
      rw [if_neg (fun e => hne e.symm)]; rfl
end
theorem swo_of {α : Type} {lt : α → α → Bool} (a b : α → Int) (h : ∀ x y, lt x y = true ↔ a x < a y ∨ a x = a y ∧ b x < b y) : SWO lt := by
  have h' : ∀ x y, lt x y = false ↔ ¬ (a x < a y ∨ a x = a y ∧ b x < b y) := fun x y => by rw [← h, Bool.not_eq_true]
  refine ⟨fun x => ?_, fun x y z h1 h2 => ?_, fun x y z h1 h2 => ?_⟩
  · rw [h']; omega
  · rw [h] at *; omega
  · rw [h'] at *; omega
section
variable {α : Type} [Inhabited α]
theorem perm_all {d d' : Array α} (h : PermIn 0 d.size d d') : d'.toList.Perm d.toList := by
  have h1 := h.2.2
  have e1 : d.extract 0 d.size = d := by simp
  have e2 : d'.extract 0 d.size = d' := by rw [← h.1]; simp
  rwa [e1, e2] at h1
theorem sorted_all {lt : α → α → Bool} {d' : Array α} {n : Nat} (hn : d'.size = n) (h : SortedIn lt 0 n d') : d'.toList.Pairwise fun x y => lt y x = false := by
  rw [List.pairwise_iff_getElem]
  intro i j hi hj hij
  have := h i j (Nat.zero_le _) hij (by rw [← hn]; simpa using hj)
  rw [getElem!_pos d' i (by simpa using hi), getElem!_pos d' j (by simpa using hj)] at this
  simpa using this
end
section
variable {P : Program} {O : Array Oper} {Q : Exit → Act → World → Prop} {rest : List Oper} {o : Oper} {a : Act} {w : World} {n d : Nat} {L : List (Nat × Value)} {x y : Operand} {b : Nat} {ds : List Deferred}
theorem env_newG {T : TypeId} {cs : Array Value} (E : EnvD ds n L a) (hd : o.dst = some d) (hn : d < n) (hf : (L.map (·.1)).contains d = false) (hw : Region.wanted o (yielded O a.tmps) = true) (hr : (execOp a.eval o).run P w = .ok (.value (.pointer (some ⟨w.heap.size, 0, none⟩))) (w.alloc (.cells cs T)))
    (k : ∀ a' w' b, w.heap.size = b → w'.heap[b]? = some (.cells cs T (0, 0)) → Gw w w' → EnvD ds n ((d, .pointer (some ⟨b, 0, none⟩)) :: L) a' → wpList P O Q rest a' w') : wpList P O Q (o :: rest) a w :=
  env_put E hd hn hf hw hr fun a' E' => k a' _ _ rfl (blk_alloc_new _ _) ((Gw.refl _).alloc _) E'
end
theorem run_ld91 {o : Oper} {w : World} {ρ : Operand → Value} {x : Operand} {g off : Nat} {v : Value} (ho : o.op = .load 209 x) (hx : ρ x = .pointer (some ⟨g, off, none⟩)) (hc : w.cell? ⟨g, off, none⟩ = some v) : (execOp ρ o).run Tryz.prog w = .ok (.value v) w := by
  simp [execOp, ho, hx, go_sem, hc]
theorem cmp_gw (x y : Int) (w : World) : Calls Tryz.prog 133 #[.int .i64 x, .int .i64 y] w fun e w' => e = .returned (.int .i64 (Lib.compareInt x y)) ∧ Gw w w' := (Tryz.cmp_Compare_int x y w).mono fun e w' h => ⟨h.1, by rw [h.2]; exact Gw.refl _⟩
set_option maxRecDepth 100000 in
set_option maxHeartbeats 4000000 in
theorem key_calls (s : Sp) (w : World) : Calls Tryz.prog 126 #[.agg (spA s)] w fun e w' => e = .returned (.int .i64 s.1) ∧ Gw w w' := by
  refine wp_start1 Tryz.func126 rfl rfl (n := 5) (by decide) fun a E => ?_
  have hf : Gw w w := Gw.refl _
  refine s_ (r_ (env_newG (d := 1) E rfl (by decide) rfl (wanted_none rfl _) (run_box48 rfl E.g0) fun a w1 b1 eb1 hb1 f1 E => ?_))
  have hnb1 : w.heap.size ≤ b1 := by have := hf.fr.size; omega
  have hf := hf.trans f1
  clear f1
  refine ep (v := .int .i64 0) E rfl (a_ rfl rfl) fun a E => n_ (t_ (s_ (r_ (ep (v := .pointer (some ⟨b1, 0, none⟩)) E rfl (fa48_0 rfl E.g1) fun a E => ep (v := .int .i64 s.1) E rfl (run_ldi rfl E.g0 (bx hb1 0 rfl)) fun a E => es_ E rfl (a_ rfl E.g0) fun a E => n_ (t_ (wr_ (ret_tmp (t := 2) rfl E E.g0 ⟨rfl, hf⟩)))))))
set_option maxRecDepth 100000 in
set_option maxHeartbeats 4000000 in
theorem cmpSp_calls {c3 : Nat} (s t : Sp) {w : World} (hc3 : w.heap[c3]? = some (.cells #[.func (.func 126) #[] #[]] 209 (0, 0))) : Calls Tryz.prog 161 #[.agg (spA s), .agg (spA t), .pointer (some ⟨c3, 0, none⟩)] w fun e w' => e = .returned (.int .i64 (Lib.compareInt s.1 t.1)) ∧ Gw w w' := by
  refine wp_start3 Tryz.func161 rfl rfl (n := 13) (by decide) fun a E => ?_
  have hf : Gw w w := Gw.refl _
  refine s_ (r_ (env_newG (d := 3) E rfl (by decide) rfl (wanted_none rfl _) (run_box48 rfl E.g0) fun a w1 b2 eb2 hb2 f1 E => ?_))
  have hnb2 : w.heap.size ≤ b2 := by have := hf.fr.size; omega
  have hc3 := f1.fr.obj hc3 id
  have hf := hf.trans f1
  clear f1
  refine env_newG (d := 4) E rfl (by decide) rfl (wanted_none rfl _) (run_box48 rfl E.g2) fun a w1 b3 eb3 hb3 f1 E => ?_
  have hnb3 : w.heap.size ≤ b3 := by have := hf.fr.size; omega
  have hlb2b3 : b2 < b3 := by have := lt_of_blk hb2; omega
  have hc3 := f1.fr.obj hc3 id
  have hb2 := f1.fr.obj hb2 id
  have hf := hf.trans f1
  clear f1
  refine ep (v := .int .i64 0) E rfl (a_ rfl rfl) fun a E => n_ (t_ (s_ (wp_region_invx (G := Unit) () (n := 13) (base := [(4, .pointer (some ⟨b3, 0, none⟩)), (3, .pointer (some ⟨b2, 0, none⟩)), (0, .agg (spA s)), (1, .agg (spA t)), (2, .pointer (some ⟨c3, 0, none⟩))]) (U := [(5, .int .i64 0, 7)]) (T := fun γ => [some (6, .func (.func 126) #[] #[]), some (7, .agg (spA s)), some (8, .int .i64 s.1), some (9, .func (.func 126) #[] #[]), some (10, .agg (spA t)), some (11, .int .i64 t.1), some (12, .int .i64 (Lib.compareInt s.1 t.1)), some (5, .int .i64 (Lib.compareInt s.1 t.1))]) (M := fun γ ls9 wm => Gw w1 wm) (by kernel_rfl) (by kernel_rfl) (fun _ => by kernel_rfl) (E.of ⟨E.g1, E.g2, E.g3, E.g4, E.g5, trivial⟩) (fun x hx => by simp only [List.mem_cons, List.not_mem_nil, or_false] at hx; subst hx; exact E.g0) (Gw.refl _).drew ?_ ?_)))
  · intro j9 o9 γ ls9 a w5 ho hl E D DL DL2 hB hM
    have hc3 := hM.fr.obj hc3 id
    have hb2 := hM.fr.obj hb2 id
    have hb3 := hM.fr.obj hb3 id
    match j9, ho, hl, D, DL, hB with
    | 0, ho, hl, D, DL, hB => exact z0_ ho (valx rfl (run_ld91 rfl E.g4 (bx hc3 0 rfl)) rfl hM)
    | 1, ho, hl, D, DL, hB => exact z0_ ho (valx rfl (run_ld48 rfl E.g1 (rng2 (p := s) hb2 0 rfl rfl)) rfl hM)
    | 2, ho, hl, D, DL, hB => exact z0_ ho (callx rfl (run_callf1 (enters_of Tryz.func126 (by kernel_rfl) rfl) rfl (D 0 _ rfl rfl) (D 1 _ rfl rfl) rfl) (key_calls s _) rfl fun w9 f1 => hM.trans f1)
    | 3, ho, hl, D, DL, hB => exact z0_ ho (valx rfl (run_ld91 rfl E.g4 (bx hc3 0 rfl)) rfl hM)
    | 4, ho, hl, D, DL, hB => exact z0_ ho (valx rfl (run_ld48 rfl E.g0 (rng2 (p := t) hb3 0 rfl rfl)) rfl hM)
    | 5, ho, hl, D, DL, hB => exact z0_ ho (callx rfl (run_callf1 (enters_of Tryz.func126 (by kernel_rfl) rfl) rfl (D 3 _ rfl rfl) (D 4 _ rfl rfl) rfl) (key_calls t _) rfl fun w9 f1 => hM.trans f1)
    | 6, ho, hl, D, DL, hB => exact z0_ ho (callx rfl (run_call2 (enters_of Tryz.func133 (by kernel_rfl) rfl) rfl rfl (D 2 _ rfl rfl) (D 5 _ rfl rfl)) (cmp_gw s.1 t.1 _) rfl fun w9 f1 => hM.trans f1)
    | 7, ho, hl, D, DL, hB => exact z0_ ho (valx rfl (a_ rfl (D 6 _ rfl rfl)) rfl hM)
    | j9 + 8, ho, hl, D, DL, hB => exact absurd ho (by simp)
  · rintro _ a w5 E V hM
    have E := E.add (v := .int .i64 (Lib.compareInt s.1 t.1)) (V 7 _ rfl)
    clear V
    have hc3 := hM.fr.obj hc3 id
    have hb2 := hM.fr.obj hb2 id
    have hb3 := hM.fr.obj hb3 id
    have hf := hf.trans hM
    clear hM
    refine t_ (wr_ (ret_tmp (t := 5) rfl E E.g0 ⟨rfl, hf⟩))
theorem cmpI_neg (x y : Int) : Lib.compareInt x y < 0 ↔ x < y := by
  have := @cmp_lt x y
  simpa using this
theorem sortSp_calls {w : World} {B c3 : Nat} {v : Value} {L : List Sp} (hO : oSp w B v L) (hc3 : w.heap[c3]? = some (.cells #[.func (.func 126) #[] #[]] 209 (0, 0))) (hn : ∀ k, v.ownBlock = some k → k ≠ c3) (hl : L.length ≤ 20000) :
    Calls Tryz.prog 176 #[v, .func (.func 161) #[] #[.pointer (some ⟨c3, 0, none⟩)]] w fun e w' => e = .returned (.tuple #[]) ∧ ∃ L', L'.Perm L ∧ L'.Pairwise (fun x y => x.1 ≤ y.1) ∧ oSp w' B v L' ∧ Fr (fun k => v.ownBlock = some k) w w' := by
  rcases hO.2 with ⟨rfl, h2⟩ | ⟨g, cap, cur, rfl, hB, h3, h4, h5, h6, h7⟩
  · have hL : L = [] := List.eq_nil_of_length_eq_zero h2
    subst hL
    refine Calls.mono (AnyF.slices_SortFunc_none Tryz.sortSp none 0 _ w) ?_
    rintro e w' ⟨rfl, rfl⟩
    exact ⟨rfl, [], .refl _, .nil, hO, Fr.refl _ _⟩
  · have hgc : g ≠ c3 := hn g rfl
    have hO' : SWO (ltOf fun x y : Sp => Lib.compareInt x.1 y.1) := swo_of (fun x => x.1) (fun _ => 0) fun x y => by unfold ltOf; rw [decide_eq_true_iff, cmpI_neg]; omega
    have hd : laid spL 2 cur L := by
      intro t x hx j u hu
      have hj : j < 2 := (List.getElem?_eq_some_iff.1 hu).1
      have ht := (List.getElem?_eq_some_iff.1 hx).1
      have := flat_at spL_len L t x hx j hj
      rw [hu, ← h7, List.getElem?_take_of_lt (by omega), Array.getElem?_toList] at this
      exact this
    have hsz : L.length * 2 ≤ cur.size := by omega
    have := AnyQ.slices_SortFunc Tryz.sortSp 2 (fun w => Tryz.isAgg141 w) (fun w => Tryz.sizeOf141 w) spL (fun _ => rfl) spL_one (fun x y => Lib.compareInt x.1 y.1) hO' 161 #[.pointer (some ⟨c3, 0, none⟩)] g 0 cap L.toArray w (enters_of Tryz.func161 (by kernel_rfl) rfl) (fun m os dk hs x y => by
      obtain ⟨cur', c1, c2, c3', c4⟩ := laid_sorted (f := spL) (c := 2) (T := 141) (fun _ => rfl) h3 (L := dk.toList) (by simp only [Array.length_toList]; rw [show dk.size = L.length by simpa using hs]; exact hsz) m os
      have hc := c4.obj hc3 (fun e => hgc e.symm)
      exact cmpSp_calls x y (by simpa using hc)) (holds_laid (f := spL) (c := 2) (by omega) (fun _ => rfl) h3 hd) (lt_of_blk h3) (by simp; omega)
    refine Calls.mono this ?_
    rintro e w' ⟨he, d', m, os, hp, hs, rfl⟩
    have hp' := perm_all hp
    have hs' := sorted_all (hp.1) hs
    have hlen : d'.toList.length = L.length := hp'.length_eq
    obtain ⟨cur', c1, c2, c3', c4⟩ := laid_sorted (f := spL) (c := 2) (T := 141) (fun _ => rfl) h3 (L := d'.toList) (by rw [hlen]; exact hsz) m os
    refine ⟨he, d'.toList, hp', hs'.imp fun {x y} hxy => ?_, ⟨flat_len spL_len _, .inr ⟨g, cap, cur', by rw [hlen], hB, by simpa using c1, by rw [hlen]; exact h4, h5, by rw [c2]; exact h6, ?_⟩⟩, (by simpa using c4 : Fr (fun k => k = g) w _).mono fun r _ hr => by rw [hr]; rfl⟩
    · unfold ltOf at hxy
      rw [decide_eq_false_iff_not, cmpI_neg] at hxy
      omega
    · apply List.ext_getElem?
      intro k
      by_cases hk : k < d'.toList.length * 2
      · rw [List.getElem?_take_of_lt hk, Array.getElem?_toList]
        obtain ⟨x, hx⟩ : ∃ x, d'.toList[k / 2]? = some x := ⟨_, List.getElem?_eq_getElem (by omega)⟩
        have e : k = k / 2 * 2 + k % 2 := by omega
        have hm : k % 2 < 2 := Nat.mod_lt _ (by omega)
        have := flat_at spL_len d'.toList (k / 2) x hx (k % 2) hm
        rw [← e] at this
        rw [this]
        obtain ⟨u, hu⟩ : ∃ u, (spL x)[k % 2]? = some u := ⟨_, List.getElem?_eq_getElem (by rw [spL_len]; exact hm)⟩
        rw [hu]
        have := c3' (k / 2) x hx (k % 2) u hu
        rwa [← e] at this
      · rw [List.getElem?_eq_none (by simp at hk ⊢; omega), List.getElem?_eq_none (by rw [flat_len spL_len]; omega)]
end Go.Proofs.YtbflfefahheidaaGreatDoor
/- Hours: sorting and uniting spans. -/
set_option linter.unusedVariables false
set_option linter.unusedSimpArgs false
namespace Go.Proofs.YtbflfefahheidaaGreatDoor
open Go.RowKit Go.Pl
theorem sortedFunc_calls {w : World} {c3 : Nat} {gf : Nat} {lb : Array Value} {L : List Sp} {Kp : (Nat → Prop) → World → Prop} (hl : L.length ≤ 20000) (eg : Ent1 Tryz.prog gf) (hY : IterE Tryz.prog gf lb (valv L) Kp) (hK : ∀ G W, (∀ k, G k → w.heap.size ≤ k) → Fr (fun _ => False) w W → Kp G W) (hc3 : w.heap[c3]? = some (.cells #[.func (.func 126) #[] #[]] 209 (0, 0))) : Calls Tryz.prog 159 #[.func (.func gf) #[] lb, .func (.func 161) #[] #[vP c3 0]] w fun e w' => ∃ v L', e = .returned v ∧ L'.Perm L ∧ L'.Pairwise (fun x y => x.1 ≤ y.1) ∧ NRow spL 2 141 w w' v L' ∧ Fr (fun _ => False) w w' := by
  have hl2 := hl
  have hl : L.length ≤ 300000000 := by omega
  refine beg Tryz.func159 rfl rfl [(0, .func (.func gf) #[] lb), (1, .func (.func 161) #[] #[vP c3 0])] rfl rfl fun Φ hΦ => ?_
  have hM := Mm.nil (fun _ => False) w
  refine calrow 1 1 7 [(6, .func (.func gf) #[] lb)] (f := spL) (c := 2) (E := 141) (A := L) f0 hM (collect_calls hl eg hY fun G W hG f => hK G W (fun k h => Nat.le_trans hM.fr.size (hG k h)) (hM.fr.trans' f fun _ _ h => h)) fun u w1 hM => ?_
  obtain ⟨q40, c40, eq40, sq40⟩ := (hM.src (j := 0) rfl spT.len).op
  subst eq40
  refine cal 2 2 10 [(5, vL q40 L.length c40), (8, vL q40 L.length c40), (9, .func (.func 161) #[] #[vP c3 0])] (K := fun u w8 => u = .tuple #[] ∧ ∃ L', L'.Perm L ∧ L'.Pairwise (fun x y => x.1 ≤ y.1) ∧ oSp w8 0 (vL q40 L.length c40) L' ∧ Fr (fun k => Value.ownBlock (vL q40 L.length c40) = some k) _ w8) f0 ((sortSp_calls (hM.get 0 rfl) (hM.fr.obj hc3 id) (fun k hk e => by have := hM.ge (List.mem_of_getElem? (show _[0]? = some _ from rfl)) hk; have := lt_of_blk hc3; omega) hl2).mono fun e w9 ⟨h1, h2⟩ => ⟨_, h1, rfl, h2⟩) fun u w1 ⟨hu, L', hp, hs, hO, f1⟩ => ?_
  subst hu
  have hM := hM.put 0 (e' := rw_ spL 2 141 (vL q40 L.length c40) L') rfl f1 (fun k _ h => h) hO fun k h => .inl h
  exact rt1 4 (vL q40 L.length c40) rfl f0 (hΦ _ _ ⟨_, L', rfl, hp, hs, hM.nrow (j := 0) rfl, hM.fr⟩)
theorem sorted_calls {w : World} {v : Value} {l : List Sp} (hl : SpV w v l) (hlen : l.length ≤ 20000) : Calls Tryz.prog 125 #[v, .func (.func 126) #[] #[]] w fun e w' => ∃ v L', e = .returned v ∧ L'.Perm l ∧ L'.Pairwise (fun x y => x.1 ≤ y.1) ∧ NRow spL 2 141 w w' v L' ∧ Fr (fun _ => False) w w' := by
  obtain ⟨p0, cp0, hp0, sp0⟩ := hl.op
  subst hp0; have bp0 := sp0.bnd
  refine beg Tryz.func125 rfl rfl [(0, vL p0 l.length cp0), (1, .func (.func 126) #[] #[])] rfl rfl fun Φ hΦ => ?_
  have hM := Mm.nil (fun _ => False) w
  refine newm 0 0 3 [] (cs := #[.func (.func 126) #[] #[]]) (T := 209) (v := fun b => vP b 0) f0 hM fun b41 w1 hM => cal 1 1 6 [(5, vL p0 l.length cp0)] (K := fun u w8 => ∃ b, u = .func (.func 177) #[] #[vP b 0] ∧ w8.heap[b]? = some (.cells #[vL p0 (l.length) cp0] 48 (0, 0)) ∧ (World.heap _).size ≤ b ∧ Fr (fun _ => False) _ w8) f0 ((values_calls p0 (l.length) cp0 _).mono fun e w9 ⟨b, h1, h2⟩ => ⟨_, h1, b, rfl, h2⟩) fun u w1 ⟨cb, hu, hcb, hge, f1⟩ => ?_
  subst hu
  have hM := hM.add f1 (bk cb #[vL p0 (l.length) cp0] 48) hcb (fun k h => by rw [h]; exact hge)
  refine cal 1 3 8 [(7, .func (.func 161) #[] #[vP b41 0])] (K := fun u w8 => ∃ L', L'.Perm l ∧ L'.Pairwise (fun x y => x.1 ≤ y.1) ∧ NRow spL 2 141 _ w8 u L' ∧ Fr (fun _ => False) _ w8) f0 ((sortedFunc_calls (Kp := ValK cb p0 cp0 l) hlen (enters_of Tryz.func177 (by kernel_rfl) rfl) values_yields (fun G W hG f => ⟨f.obj (hM.get 1 rfl) id, fun h => by have := hG _ h; have := lt_of_blk (hM.get 1 rfl); omega, _, sp0.b (hM.fr.trans' f fun _ _ h => h), fun k hk => Nat.le_trans hM.fr.size (hG k hk)⟩) (hM.get 0 rfl)).mono fun e w9 ⟨v, L', h1, h2⟩ => ⟨_, h1, L', h2⟩) fun u w1 ⟨L', hp, hs, hO, f1⟩ => ?_
  have hM := hM.add f1 (rw_ spL 2 141 u L') hO.1 hO.2
  obtain ⟨q42, c42, eq42, -⟩ := (hM.src (j := 2) rfl spT.len).op
  subst eq42
  exact rt1 4 (vL q42 L'.length c42) rfl f0 (hΦ _ _ ⟨_, L', rfl, hp, hs, hM.nrow (j := 2) rfl, hM.fr⟩)
theorem unite_take {L : List Sp} {i : Nat} {y : Sp} (hy : L[i]? = some y) : unite (L.take (i + 1)) = ustep (unite (L.take i)) y := by
  unfold unite
  rw [List.take_add_one, hy]
  simp [List.foldl_append]
theorem unite_len (l : List Sp) : (unite l).length ≤ l.length := by
  have h1 : ∀ (a : List Sp) (s : Sp), (ustep a s).length ≤ a.length + 1 := by
    intro a s
    unfold ustep
    split
    · split
      · first | (simp; done) | (simp; omega)
      · simp
    · simp
  have h2 : ∀ (l a : List Sp), (l.foldl ustep a).length ≤ a.length + l.length := by
    intro l
    induction l with
    | nil => intro a; simp
    | cons s l ih => intro a; have := ih (ustep a s); have := h1 a s; simp only [List.foldl_cons, List.length_cons]; omega
  have := h2 l []
  simpa [unite] using this
theorem ustep_set {A : List Sp} {q s : Sp} (hq : A[A.length - 1]? = some q) (h : s.1 ≤ q.2) : A.set (A.length - 1) (q.1, max q.2 s.2) = ustep A s := by
  have hne : A ≠ [] := by rintro rfl; simp at hq
  have hl : A.getLast? = some q := by rw [List.getLast?_eq_getElem?]; exact hq
  obtain ⟨B, z, rfl⟩ : ∃ B z, A = B ++ [z] := ⟨_, _, (List.dropLast_concat_getLast hne).symm⟩
  rw [List.getLast?_concat] at hl
  obtain rfl := Option.some.inj hl
  unfold ustep
  rw [List.getLast?_concat, List.dropLast_concat]
  simp only
  rw [if_pos h, List.length_append, List.length_singleton, Nat.add_sub_cancel, List.set_append_right _ _ (Nat.le_refl _), Nat.sub_self]
  rfl
theorem ustep_app {A : List Sp} {q s : Sp} (hq : A[A.length - 1]? = some q) (h : ¬ s.1 ≤ q.2) : A ++ [s] = ustep A s := by
  have hl : A.getLast? = some q := by rw [List.getLast?_eq_getElem?]; exact hq
  unfold ustep
  rw [hl]
  simp only
  rw [if_neg h]
theorem ustep_nil {A : List Sp} {s : Sp} (h : ¬ 0 < (A.length : Int)) : A ++ [s] = ustep A s := by
  have : A = [] := List.eq_nil_of_length_eq_zero (by omega)
  subst this; rfl
abbrev A96 (Φ : Ending → World → Prop) := AtO Tryz.prog (bodyOf Tryz.f96) (whole (bodyPost Tryz.prog Tryz.f96 Φ)) [] 50
theorem united_calls {w : World} {v : Value} {l : List Sp} (hl : SpV w v l) (hw : wk l) (hlen : l.length ≤ 20000) : Calls Tryz.prog 96 #[v] w fun e w' => ∃ u, e = .returned u ∧ NRow spL 2 141 w w' u (canon l) ∧ Fr (fun _ => False) w w' := by
  obtain ⟨p0, cp0, hp0, sp0⟩ := hl.op
  subst hp0; have bp0 := sp0.bnd
  refine beg Tryz.func96 rfl rfl [(0, vL p0 l.length cp0)] rfl rfl fun Φ hΦ => ?_
  have hM := Mm.nil (fun _ => False) w
  refine cal 1 1 8 [(7, vL p0 l.length cp0)] (K := fun u w8 => ∃ L', L'.Perm l ∧ L'.Pairwise (fun x y => x.1 ≤ y.1) ∧ NRow spL 2 141 _ w8 u L' ∧ Fr (fun _ => False) _ w8) f0 ((sorted_calls (sp0.fr hM.fr).src hlen).mono fun e w9 ⟨v, L', h1, h2⟩ => ⟨_, h1, L', h2⟩) fun u w1 ⟨L', hp, hs, hO, f1⟩ => ?_
  have hM := hM.add f1 (rw_ spL 2 141 u L') hO.1 hO.2
  obtain ⟨q43, c43, eq43, -⟩ := (hM.src (j := 0) rfl spT.len).op
  subst eq43
  have hlL := hp.length_eq
  have hM := hM.row (f := spL) (c := 2) (E := 141)
  refine seg 4 0 [(0, vL q43 L'.length c43), (3, vL none 0 0), (9, vL q43 L'.length c43), (10, vI (L'.length : Int)), (11, vI 0)] f0 ?_
  have lp44 : ∀ (m46 : Nat) (i : Nat) (q : Option Addr) (c : Nat) (w2 : World), i ≤ L'.length → Mm (fun _ => False) w w2 [rw_ spL 2 141 (vL q43 L'.length c43) L', rw_ spL 2 141 (vL q (unite (L'.take i)).length c) (unite (L'.take i))] → m46 = L'.length - i → A96 Φ (some (4, 0)) [(11, vI (i : Int)), (10, vI (L'.length : Int)), (9, vL q43 L'.length c43), (3, vL q (unite (L'.take i)).length c)] w2 := by
   refine srec fun m46 ih45 i q c w2 hi hM hm46 => ?_
   have hul := unite_len (L'.take i)
   have hul2 : (L'.take i).length ≤ i := by rw [List.length_take]; omega
   refine seg 4 1 [(12, vB (decide ((i : Int) < (L'.length : Int))))] f0 ?_
   cases h47 : (decide ((i : Int) < (L'.length : Int))) with
   | false =>
    have rh47 := df h47
    exact rt1 2 (vL q (unite (L'.take i)).length c) rfl f0 (hΦ _ _ ⟨_, rfl, by have := hM.nrow (j := 1) rfl; have e8 : L'.take i = L' := List.take_of_length_le (by omega); have e9 := unite_canon hw hp hs; rw [e8, e9] at this ⊢; exact this, hM.fr⟩)
   | true =>
    have rh47 := dt h47
    obtain ⟨y, hy⟩ := geb (l := L') (i := i) (by omega)
    obtain ⟨g48, eg48, -⟩ := hM.el spT (j := 0) rfl hy
    refine varm 5 2 5 [(14, .agg #[vI y.1, vI y.2])] [] 141 (.agg #[vI y.1, vI y.2]) (fc (ix 48 c43 eg48 (gl hy)) (fc (lar 141 0 0 2 spT hM rfl eg48 hy) f0)) hM fun b49 w1 hM => seg 7 0 [(6, vI ((unite (L'.take i)).length : Int))] f0 ?_
    cases h50 : (decide (0 < ((unite (L'.take i)).length : Int))) with
    | false =>
     have rh50 := df h50
     have hM := hM.q ((Fr.refl _ _).drew)
     refine drq [(29, vB false)] rfl (fc (tv 18 h50) f0) (newm 9 2 46 [(44, vL q (unite (L'.take i)).length c), (45, .agg #[vI y.1, vI y.2])] (cs := #[vI y.1, vI y.2]) (T := 141) (v := fun b => vL (some ⟨b, 0, none⟩) 1 1) (fc (lam 141 2 0 2 hM rfl) f0) hM fun b51 w1 hM => appm 9 3 47 [] (cap := 1) (by decide) spT f0 hM (j := 1) rfl (src_one (f := spL) (x := y) (hM.get 3 rfl) (Nat.lt_succ_self _)) (fun h => by cases h) (by simp only [List.length_cons, List.length_nil]; omega) fun v52 w1 hM => ?_)
     obtain ⟨q52, c52, e52, -⟩ := (hM.src (j := 1) rfl spT.len).op
     subst e52
     refine seg 4 0 [(3, vL q52 ((unite (L'.take i)) ++ [y]).length c52), (11, vI ((i : Int) + 1))] (fc (tadd (i : Int) 1 Tryz.underlying3) f0) ?_
     have e9 := (ustep_nil (s := y) rh50)
     rw [← unite_take hy] at e9
     rw [e9] at hM ⊢
     exact fewer _ (ih45 _ (by omega) (i + 1) q52 c52 _ (gl hy) (hM.pick [0, 1]) rfl)
    | true =>
     have rh50 := dt h50
     have hM := hM.q ((Fr.refl _ _).drew)
     obtain ⟨y54, hy54⟩ := geb (l := (unite (L'.take i))) (i := ((unite (L'.take i)).length - 1)) (by omega)
     obtain ⟨g54, eg54, -⟩ := hM.el spT (j := 1) rfl hy54
     refine drq [(29, vB (decide (y.1 ≤ y54.2)))] rfl (fc (tv 18 h50) (fc (ldm 3 2 0 hM rfl rfl) (fc (tsub ((unite (L'.take i)).length : Int) 1 Tryz.underlying3) (fc (ix 48 c eg54 (gl hy54) (z := (((unite (L'.take i)).length : Int) - 1)) (hz := (by omega))) (fc (ldr 3 1 1 spT hM rfl eg54 hy54 rfl) f0))))) ?_
     cases h55 : (decide (y.1 ≤ y54.2)) with
     | false =>
      have rh55 := df h55
      refine newm 9 2 46 [(44, vL q (unite (L'.take i)).length c), (45, .agg #[vI y.1, vI y.2])] (cs := #[vI y.1, vI y.2]) (T := 141) (v := fun b => vL (some ⟨b, 0, none⟩) 1 1) (fc (lam 141 2 0 2 hM rfl) f0) hM fun b56 w1 hM => appm 9 3 47 [] (cap := 1) (by decide) spT f0 hM (j := 1) rfl (src_one (f := spL) (x := y) (hM.get 3 rfl) (Nat.lt_succ_self _)) (fun h => by cases h) (by simp only [List.length_cons, List.length_nil]; omega) fun v57 w1 hM => ?_
      obtain ⟨q57, c57, e57, -⟩ := (hM.src (j := 1) rfl spT.len).op
      subst e57
      refine seg 4 0 [(3, vL q57 ((unite (L'.take i)) ++ [y]).length c57), (11, vI ((i : Int) + 1))] (fc (tadd (i : Int) 1 Tryz.underlying3) f0) ?_
      have e9 := (ustep_app (s := y) hy54 rh55)
      rw [← unite_take hy] at e9
      rw [e9] at hM ⊢
      exact fewer _ (ih45 _ (by omega) (i + 1) q57 c57 _ (gl hy) (hM.pick [0, 1]) rfl)
     | true =>
      have rh55 := dt h55
      refine seg 8 0 [] f0 (drx [8, 14] (fun γ => [some (vI y54.2), none]) _ (fun γ l => [rw_ spL 2 141 (vL q43 L'.length c43) L', rw_ spL 2 141 (vL q (unite (L'.take i)).length c) (bif l.getD 1 false then ((unite (L'.take i)).set ((unite (L'.take i)).length - 1) (y54.1, (max y54.2 y.2))) else (unite (L'.take i))), bk b49 #[vI y.1, vI y.2] 141]) (fun γ => []) hM (fun γ => rfl) (fun γ l w5 hM => (fc (tsub ((unite (L'.take i)).length : Int) 1 Tryz.underlying3) (fc (tsub ((unite (L'.take i)).length : Int) 1 Tryz.underlying3) (fc (ix 48 c eg54 (gl hy54) (z := (((unite (L'.take i)).length : Int) - 1)) (hz := (by omega))) (fc (ldm 3 2 1 hM rfl rfl) (fc (tmax 3 y54.2 y.2) (fc (ix 48 c eg54 (gl hy54) (z := (((unite (L'.take i)).length : Int) - 1)) (hz := (by omega))) f0))))))) ⟨ar_ldr (m := (unite (L'.take i)).length) (cap := c) 0 8 3 1 1 ((unite (L'.take i)).length - 1) 38 (unite (L'.take i)) (fun γ => vI y54.2) spT eg54 hy54 (fun γ => rfl), ar_str (m := (unite (L'.take i)).length) (cap := c) 1 14 3 1 1 ((unite (L'.take i)).length - 1) (unite (L'.take i)) (y54.1, (max y54.2 y.2)) (fun γ => vI (max y54.2 y.2)) spT eg54 hy54 (fun γ => rfl), trivial⟩ fun γ58 w1 hM => ?_)
      replace hM : Mm (fun _ => False) w w1 [rw_ spL 2 141 (vL q43 L'.length c43) L', rw_ spL 2 141 (vL q (unite (L'.take i)).length c) ((unite (L'.take i)).set ((unite (L'.take i)).length - 1) (y54.1, (max y54.2 y.2))), bk b49 #[vI y.1, vI y.2] 141] := hM
      refine seg 4 0 [(11, vI ((i : Int) + 1))] (fc (tadd (i : Int) 1 Tryz.underlying3) f0) ?_
      have e9 := (ustep_set (s := y) hy54 rh55)
      rw [← unite_take hy] at e9
      rw [e9] at hM
      rw [show (unite (L'.take i)).length = (unite (L'.take (i + 1))).length by rw [← e9, List.length_set]] at hM ⊢
      exact fewer _ (ih45 _ (by omega) (i + 1) q c _ (gl hy) (hM.pick [0, 1]) rfl)
  exact fewer _ (lp44 _ 0 none 0 _ (Nat.zero_le _) hM rfl)
end Go.Proofs.YtbflfefahheidaaGreatDoor
/- The lexer: a builder, strings in quotes. -/
set_option linter.unusedVariables false
set_option linter.unusedSimpArgs false
namespace Go.Proofs.YtbflfefahheidaaGreatDoor
open Go.RowKit Go.Pl
/-! ### the builder -/
def byL (c : UInt8) : List Value := [.int .u8 (c.toNat : Int)]
theorem byT : ElT Tryz.prog byL 1 45 5 := ⟨fun _ => rfl, by decide, fun x u hu => by
  unfold byL at hu
  simp only [List.mem_cons, List.not_mem_nil, or_false] at hu
  subst hu; rfl, Tryz.underlying45, elOK_info (by kernel_rfl)⟩
section
variable {w : World}
theorem peqn (T : TypeId) (hT : T = 249 := by rfl) : Ft.ok Tryz.prog w (.g2 (fun x y => .binOp .eql T x y T) (.pointer none) (.pointer none) (vB true)) := fun o ρ x y ho hx hy => by rw [hT] at ho; simp [execOp, ho, hx, hy, go_sem, Tryz.underlying249]
theorem peqs (T : TypeId) (b k : Nat) (hT : T = 249 := by rfl) : Ft.ok Tryz.prog w (.g2 (fun x y => .binOp .eql T x y T) (vP b k) (.pointer none) (vB false)) := fun o ρ x y ho hx hy => by rw [hT] at ho; simp [execOp, ho, hx, hy, go_sem, Tryz.underlying249]
theorem pnes (T : TypeId) (b k : Nat) (hT : T = 249 := by rfl) : Ft.ok Tryz.prog w (.g2 (fun x y => .binOp .neq T x y T) (vP b k) (vP b k) (vB false)) := fun o ρ x y ho hx hy => by
  rw [hT] at ho
  have hi : ∃ j, Tryz.prog.info? 251 = some j := by
    cases h : Tryz.prog.info? 251 with
    | none => exact absurd (show (Tryz.prog.info? 251).isSome = true by kernel_rfl) (by rw [h]; simp)
    | some j => exact ⟨j, rfl⟩
  obtain ⟨j, hj⟩ := hi
  have := Lib.run_neq_ptr_same (P := Tryz.prog) w (⟨b, k, none⟩ : Addr) Tryz.underlying249 hj
  simp [execOp, ho, hx, hy, eqGuard, this]
theorem toun {b : Nat} {p v : Value} (h : w.heap[b]? = some (.cells #[p, v] 251 (0, 0))) : Ft.ok Tryz.prog w (.g1 (.convert 249 283) (vP b 0) (vP b 0)) := fun o ρ x ho hx => by
  have hsh : w.shape? b = some (251, 2) := by simp [World.shape?, h]
  obtain ⟨j, hj, hjs⟩ := Option.map_eq_some_iff.1 (show (Tryz.prog.info? 251).map (·.size) = some 2 by kernel_rfl)
  have := Lib.run_to_unsafe (P := Tryz.prog) w (src := 249) (dst := 283) (⟨b, 0, none⟩ : Addr) Tryz.underlying249 Tryz.underlying283 hj (by rw [hjs]; decide) hsh (Nat.zero_lt_succ 1)
  simp only [execOp, ho, hx, Sem.run_bind, this, Result.andThen_ok, Sem.run_pure]
theorem ofun {b : Nat} {p v : Value} (h : w.heap[b]? = some (.cells #[p, v] 251 (0, 0))) : Ft.ok Tryz.prog w (.g1 (.convert 283 249) (vP b 0) (vP b 0)) := fun o ρ x ho hx => by
  have hsh : w.shape? b = some (251, 2) := by simp [World.shape?, h]
  obtain ⟨j, hj, hjs⟩ := Option.map_eq_some_iff.1 (show (Tryz.prog.info? 251).map (·.size) = some 2 by kernel_rfl)
  have := Lib.run_from_unsafe (P := Tryz.prog) w (src := 283) (dst := 249) (⟨b, 0, none⟩ : Addr) Tryz.underlying283 Tryz.underlying249 hj hsh (by kernel_rfl)
  simp only [execOp, ho, hx, Sem.run_bind, this, Result.andThen_ok, Sem.run_pure]
end
section
variable {P : Program} {B : Code} {R : Pst} {ds : List Deferred} {n : Nat} {p : Option (Nat × Nat)} {L : Frm} {w : World} {F : List Ft}
theorem opx0 (r' i' d : Nat) (N : Frm) (v : Value) (hF : AllF P w F) (k : AtO P B R ds n (some (r', i' + 1)) ((d, v) :: (N ++ L)) w) (h : (lhs (go P w n B p L r' i' F) N L, opOf P w n L (go P w n B p L r' i' F)) = (rhs (go P w n B p L r' i' F) N B r' i', some (d, .ok (.value v, w))) := by kernel_rfl) : AtO P B R ds n p L w := opx r' i' d N hF k h
end
theorem Mm.below {F0 : Nat → Prop} {w0 w w' : World} {M : List Ent} (h : Mm F0 w0 w M) (b : Below w0.heap.size w w') : Mm F0 w0 w' [] :=
  ⟨⟨b.os.trans h.fr.os, b.tape.trans h.fr.tape, b.output.trans h.fr.output, Nat.le_trans h.fr.size b.size, fun r hr hn => (b.block r hr).trans (h.fr.blk r hr hn)⟩, fun _ h => (by cases h), fun _ h => (by cases h), .nil⟩
theorem check_fresh {w : World} {G : Nat → Prop} {b : Nat} {v : Value} (hM0 : Mm G w w [bk b #[.pointer none, v] 251]) : Calls Tryz.prog 185 #[vP b 0] w fun e w' => ∃ u Mn, e = .returned u ∧ (u = .tuple #[] ∧ Mn = [bk b #[vP b 0, v] 251]) ∧ Mm G w w' Mn := by
  refine beg Tryz.func185 rfl rfl [(0, vP b 0)] rfl rfl fun Φ hΦ => ?_
  have hM := hM0
  refine opx0 1 3 10 [(7, vP b 0), (9, vP b 0)] (vP b 0) (fc (ldm 249 0 0 hM rfl rfl) (fc (peqn 249) (fc (toun (hM.get 0 rfl)) f0))) (stm 1 7 [(11, vP b 0), (13, vP b 0)] 249 0 0 (vP b 0) (fc (ofun (hM.get 0 rfl)) f0) hM rfl fun w1 hM => rt0 rfl f0 (hΦ _ _ ⟨_, _, rfl, ⟨rfl, rfl⟩, hM⟩))
theorem check_used {w : World} {G : Nat → Prop} {b : Nat} {v : Value} (hM0 : Mm G w w [bk b #[vP b 0, v] 251]) : Calls Tryz.prog 185 #[vP b 0] w fun e w' => ∃ u Mn, e = .returned u ∧ (u = .tuple #[] ∧ Mn = [bk b #[vP b 0, v] 251]) ∧ Mm G w w' Mn := by
  refine beg Tryz.func185 rfl rfl [(0, vP b 0)] rfl rfl fun Φ hΦ => ?_
  have hM := hM0
  exact rt0 rfl (fc (ldm 249 0 0 hM rfl rfl) (fc (peqs 249 b 0) (fc (ldm 249 0 0 hM rfl rfl) (fc (pnes 249 b 0) f0)))) (hΦ _ _ ⟨_, _, rfl, ⟨rfl, rfl⟩, hM⟩)
theorem check_calls {w : World} {G : Nat → Prop} {b : Nat} {pp : Option Addr} {v : Value} (hp : pp = none ∨ pp = some ⟨b, 0, none⟩) (hM0 : Mm G w w [bk b #[.pointer pp, v] 251]) : Calls Tryz.prog 185 #[vP b 0] w fun e w' => ∃ u Mn, e = .returned u ∧ (u = .tuple #[] ∧ Mn = [bk b #[vP b 0, v] 251]) ∧ Mm G w w' Mn := by
  rcases hp with rfl | rfl
  · exact check_fresh hM0
  · exact check_used hM0
theorem wbyte_calls {w : World} {G : Nat → Prop} {b cq : Nat} {pp q : Option Addr} {l : Bys} (hp : pp = none ∨ pp = some ⟨b, 0, none⟩) (c : UInt8) (hl : l.length ≤ 300000000) (hM0 : Mm G w w [bk b #[.pointer pp, vL q l.length cq] 251, rw_ byL 1 5 (vL q l.length cq) l]) : Calls Tryz.prog 172 #[vP b 0, .int .u8 (c.toNat : Int)] w fun e w' => ∃ u Mn, e = .returned u ∧ (u = .nilIface ∧ ∃ q2 c2, Mn = [bk b #[vP b 0, vL q2 (l ++ [c]).length c2] 251, rw_ byL 1 5 (vL q2 (l ++ [c]).length c2) (l ++ [c])]) ∧ Mm G w w' Mn := by
  refine beg Tryz.func172 rfl rfl [(0, vP b 0), (1, .int .u8 (c.toNat : Int))] rfl rfl fun Φ hΦ => ?_
  have hM := hM0
  refine calM 1 1 6 [(5, vP b 0)] (K := fun u Mn => u = .tuple #[] ∧ Mn = [bk b #[vP b 0, vL q l.length cq] 251]) [1] [0] f0 hM rfl rfl (by decide) (fun hm => check_calls hp hm) fun u Mn w1 hK hM => ?_
  obtain ⟨rfl, rfl⟩ := hK
  refine newm 2 6 13 [(7, vP b 0), (11, vL q l.length cq), (12, .int .u8 (c.toNat : Int))] (cs := #[.int .u8 (c.toNat : Int)]) (T := 5) (v := fun b => vL (some ⟨b, 0, none⟩) 1 1) (fc (ldm 45 1 1 hM rfl rfl) f0) hM fun b1 w1 hM => appm 2 7 14 [] (cap := 1) (by decide) byT f0 hM (j := 0) rfl (src_one (f := byL) (x := c) (hM.get 2 rfl) (Nat.lt_succ_self _)) (fun h => by cases h) (by simp only [List.length_cons, List.length_nil]; omega) fun v2 w1 hM => ?_
  obtain ⟨qa2, ca2, e2, -⟩ := (hM.src (j := 0) rfl byT.len).op
  subst e2
  refine stm 2 10 [(16, vP b 1)] 45 1 1 (vL qa2 (l ++ [c]).length ca2) f0 hM rfl fun w1 hM => rt1 4 Value.nilIface rfl f0 (hΦ _ _ ⟨_, _, rfl, ⟨rfl, _, _, rfl⟩, hM.pick [1, 0]⟩)
theorem byteCells_flat (l : Bys) : l.flatMap byL = Lib.byteCells l := by
  unfold Lib.byteCells byL
  induction l with
  | nil => rfl
  | cons c l ih => simp_all
theorem bstr_calls {w w0 : World} {b cq : Nat} {pp q : Option Addr} {l : Bys} (hp : pp = none ∨ pp = some ⟨b, 0, none⟩) (hM : Mm (fun _ => False) w0 w [bk b #[.pointer pp, vL q l.length cq] 251, rw_ byL 1 5 (vL q l.length cq) l]) : Calls Tryz.prog 171 #[vP b 0] w fun e w' => e = .returned (vS l) ∧ Below w0.heap.size w w' := by
  have hb : w.heap[b]? = some (.cells #[.pointer pp, vL q l.length cq] 251 (0, 0)) := hM.get 0 rfl
  have hr : ow byL 1 5 w 0 (vL q l.length cq) l := hM.get 1 rfl
  have hbB : w0.heap.size ≤ b := hM.ge (.head _) rfl
  have hne : Value.ownBlock (vL q l.length cq) ≠ some b := fun e => by
    have := List.pairwise_cons.1 hM.nd
    exact this.1 (rw_ byL 1 5 (vL q l.length cq) l) (.head _) b rfl e
  have hown : w.ownsRow w0.heap.size 5 1 (vL q l.length cq) (Lib.byteCells l).length (Lib.byteCells l) := by
    have hl : (Lib.byteCells l).length = l.length := by simp [Lib.byteCells]
    rw [hl, ← byteCells_flat]
    refine ⟨hr.1, ?_⟩
    rcases hr.2 with h | ⟨g, cap, cur, h1, h2, h3⟩
    · exact .inl h
    · exact .inr ⟨g, cap, cur, h1, hM.ge (.tail _ (.head _)) (by show Value.ownBlock (vL q l.length cq) = some g; rw [h1]; rfl), h3⟩
  exact Tryz.Builder_String_any w0.heap.size b l w (hp.elim (fun h => .inl ⟨hbB, _, by rw [← h]; exact hb, hown, hne⟩) (fun h => .inr ⟨hbB, _, by rw [← h]; exact hb, hown, hne⟩)) hM.fr.size
theorem q34 (c : UInt8) : (c == 34) = ((c.toNat : Int) == 34) := by
  have := u8_all (p := fun c => (c == 34) == ((c.toNat : Int) == 34)) (by decide +kernel) c
  exact beq_iff_eq.1 this
theorem q10 (c : UInt8) : (c == 10) = ((c.toNat : Int) == 10) := by
  have := u8_all (p := fun c => (c == 10) == ((c.toNat : Int) == 10)) (by decide +kernel) c
  exact beq_iff_eq.1 this
theorem q92 (c : UInt8) : (c == 92) = ((c.toNat : Int) == 92) := by
  have := u8_all (p := fun c => (c == 92) == ((c.toNat : Int) == 92)) (by decide +kernel) c
  exact beq_iff_eq.1 this
def esc (d : UInt8) : UInt8 := if d == 110 then 10 else d
def escI (d : UInt8) : Int := ixb [92, 34, 110] d.toNat
theorem esc_q (d : UInt8) : (d == 92 || d == 34 || d == 110) = !decide (escI d < 0) := by
  have := u8_all (p := fun d => (d == 92 || d == 34 || d == 110) == !decide (escI d < 0)) (by decide +kernel) d
  exact beq_iff_eq.1 this
theorem esc_b (d : UInt8) (h : ¬ escI d < 0) : ([92, 34, 10] : Bys)[(escI d).toNat]? = some (esc d) ∧ 0 ≤ escI d := by
  have := u8_all (p := fun d => decide (escI d < 0) || (([92, 34, 10] : Bys)[(escI d).toNat]? == some (esc d)) && decide (0 ≤ escI d)) (by decide +kernel) d
  rw [decide_eq_false h, Bool.false_or, Bool.and_eq_true] at this
  exact ⟨eq_of_beq this.1, of_decide_eq_true this.2⟩
def strA (acc : Bys) (k : Nat) (r : Bys) : Option (Bys × Nat) := (strL r).map fun x => (acc ++ x.1, x.2 + k)
theorem strA_0 (l : Bys) : strL l = strA [] 0 l := by
  unfold strA
  cases strL l with
  | none => rfl
  | some x => simp
theorem strA_nil (acc : Bys) (k : Nat) : strA acc k [] = none := rfl
theorem strA_q {acc r : Bys} {k : Nat} {c : UInt8} (h : (c == 34) = true) : strA acc k (c :: r) = some (acc, 1 + k) := by
  unfold strA strL; rw [if_pos h]; simp
theorem strA_n {acc r : Bys} {k : Nat} {c : UInt8} (h0 : (c == 34) = false) (h : (c == 10) = true) : strA acc k (c :: r) = none := by
  unfold strA strL; rw [if_neg (by rw [h0]; simp), if_pos h]; rfl
theorem strA_b0 {acc : Bys} {k : Nat} {c : UInt8} (h0 : (c == 34) = false) (h1 : (c == 10) = false) (h : (c == 92) = true) : strA acc k [c] = none := by
  unfold strA strL; rw [if_neg (by rw [h0]; simp), if_neg (by rw [h1]; simp), if_pos h]; rfl
theorem strA_b1 {acc r : Bys} {k : Nat} {c d : UInt8} (h0 : (c == 34) = false) (h1 : (c == 10) = false) (h : (c == 92) = true) (h2 : escI d < 0) : strA acc k (c :: d :: r) = none := by
  unfold strA strL; rw [if_neg (by rw [h0]; simp), if_neg (by rw [h1]; simp), if_pos h]
  simp only
  rw [esc_q, decide_eq_true h2]; rfl
theorem strA_b2 {acc r : Bys} {k : Nat} {c d : UInt8} (h0 : (c == 34) = false) (h1 : (c == 10) = false) (h : (c == 92) = true) (h2 : ¬ escI d < 0) : strA acc k (c :: d :: r) = strA (acc ++ [esc d]) (k + 2) r := by
  unfold strA
  rw [strL]
  rw [if_neg (by rw [h0]; simp), if_neg (by rw [h1]; simp), if_pos h]
  try simp only
  rw [esc_q, decide_eq_false h2]
  simp only [Bool.not_false, if_true, Option.map_map]
  congr 1
  funext x
  simp only [Function.comp, List.append_assoc, List.singleton_append, esc]
  rw [show x.2 + 2 + k = x.2 + (k + 2) by omega]
theorem strA_c {acc r : Bys} {k : Nat} {c : UInt8} (h0 : (c == 34) = false) (h1 : (c == 10) = false) (h : (c == 92) = false) : strA acc k (c :: r) = strA (acc ++ [c]) (k + 1) r := by
  have e : strL (c :: r) = (strL r).map fun x => (c :: x.1, x.2 + 1) := by
    rw [strL.eq_def (c :: r)]
    try simp only
    rw [if_neg (by rw [h0]; simp), if_neg (by rw [h1]; simp), if_neg (by rw [h]; simp)]
  unfold strA
  rw [e]
  simp only [Option.map_map]
  congr 1
  funext x
  simp only [Function.comp, List.append_assoc, List.singleton_append]
  rw [show x.2 + 1 + k = x.2 + (k + 1) by omega]
def unqR (l : Bys) : Bys × Int := match strL l with | some (s, k) => (s, (k : Int) + 1) | none => ([], 0)
theorem unq_no {l : Bys} (h : strL l = none) : unqR l = ([], 0) := by unfold unqR; rw [h]
theorem unq_is {l s : Bys} {k : Nat} (h : strL l = some (s, k)) : unqR l = (s, (k : Int) + 1) := by unfold unqR; rw [h]
abbrev A154 (Φ : Ending → World → Prop) := AtO Tryz.prog (bodyOf Tryz.f154) (whole (bodyPost Tryz.prog Tryz.f154 Φ)) [] 44
theorem unq_calls {t l : Bys} (ht : t = 34 :: l) (hl : l.length ≤ 200000000) (w : World) : Calls Tryz.prog 154 #[vS t] w fun e w' => e = .returned (.tuple #[vS (unqR l).1, vI (unqR l).2]) ∧ Fr (fun _ => False) w w' := by
  refine beg Tryz.func154 rfl rfl [(0, vS t)] rfl rfl fun Φ hΦ => ?_
  have hM := Mm.nil (fun _ => False) w
  have htl : t.length = l.length + 1 := by rw [ht]; rfl
  have hta : ∀ {k : Nat} {e : UInt8}, l[k]? = some e → t[k + 1]? = some e := fun h => by rw [ht]; exact h
  refine newm 1 0 4 [] (cs := #[.pointer none, vL none 0 0]) (T := 251) (v := fun b => vP b 0) f0 hM fun b w1 hM => ?_
  have hM := hM.row (f := byL) (c := 1) (E := 5)
  refine seg 3 0 [(5, vI 1)] f0 ?_
  have lp3 : ∀ (m5 : Nat) (j : Nat) (acc : Bys) (q : Option Addr) (cq : Nat) (pp : Option Addr) (w2 : World), j ≤ l.length → strL l = strA acc j (l.drop j) → acc.length ≤ j → (pp = none ∨ pp = some ⟨b, 0, none⟩) → Mm (fun _ => False) w w2 [bk b #[.pointer pp, vL q acc.length cq] 251, rw_ byL 1 5 (vL q acc.length cq) acc] → m5 = l.length + 1 - j → A154 Φ (some (3, 0)) [(5, vI ((j : Int) + 1)), (4, vP b 0), (0, vS t)] w2 := by
   refine srec fun m5 ih4 j acc q cq pp w2 hj hi hal hp hM hm5 => seg 3 4 [(11, vB (decide (((j : Int) + 1) < (t.length : Int))))] (fc (tlen 9 t) f0) ?_
   cases h6 : (decide (((j : Int) + 1) < (t.length : Int))) with
   | false =>
    have rh6 := df h6
    exact rt2 2 3 (vS []) (vI 0) rfl rfl f0 (hΦ _ _ ⟨by rw [unq_no (by rw [hi, List.drop_of_length_le (by omega), strA_nil])], hM.fr⟩)
   | true =>
    have rh6 := dt h6
    obtain ⟨c, hc⟩ := geb (l := l) (i := j) (by omega)
    refine seg 8 2 [(6, .int .u8 (c.toNat : Int)), (17, .int .u8 (c.toNat : Int)), (20, vB ((c.toNat : Int) == 34))] (fc (byt 9 (i := j + 1) (hta hc) (z := ((j : Int) + 1)) (by omega)) f0) ?_
    cases h7 : ((c.toNat : Int) == 34) with
    | false =>
     have rh7 := ef h7
     refine seg 10 2 [(25, vB ((c.toNat : Int) == 10))] f0 ?_
     cases h8 : ((c.toNat : Int) == 10) with
     | false =>
      have rh8 := ef h8
      refine seg 12 2 [(27, vB ((c.toNat : Int) == 92))] f0 ?_
      cases h9 : ((c.toNat : Int) == 92) with
      | false =>
       have rh9 := ef h9
       refine calM 7 1 19 [(18, .int .u8 (c.toNat : Int))] (K := fun u Mn => u = .nilIface ∧ ∃ q2 c2, Mn = [bk b #[vP b 0, vL q2 (acc ++ [c]).length c2] 251, rw_ byL 1 5 (vL q2 (acc ++ [c]).length c2) (acc ++ [c])]) [] [0, 1] f0 hM rfl rfl (by decide) (fun hm => wbyte_calls hp c (by omega) hm) fun u Mn w1 hK hM => ?_
       obtain ⟨rfl, qa10, ca10, rfl⟩ := hK
       refine seg 3 0 [(5, vI (((j : Int) + 1) + 1))] (fc (tadd ((j : Int) + 1) 1 Tryz.underlying3) f0) ?_
       have hin : strL l = strA (acc ++ [c]) (j + 1) (l.drop (j + 1)) := by rw [hi, gd hc, strA_c (by rw [q34]; exact h7) (by rw [q10]; exact h8) (by rw [q92]; exact h9)]
       exact fewer _ (ih4 _ (by omega) (j + 1) (acc ++ [c]) qa10 ca10 (some ⟨b, 0, none⟩) _ (by omega) hin (by simp only [List.length_append, List.length_singleton]; omega) (.inr rfl) hM rfl)
      | true =>
       have rh9 := et h9
       refine seg 15 4 [(5, vI (((j : Int) + 1) + 1)), (7, vI (-1)), (34, vB (decide ((((j : Int) + 1) + 1) < (t.length : Int))))] (fc (tadd ((j : Int) + 1) 1 Tryz.underlying3) (fc (tlen 9 t) f0)) ?_
       cases h11 : (decide ((((j : Int) + 1) + 1) < (t.length : Int))) with
       | false =>
        have rh11 := df h11
        exact rt2 2 3 (vS []) (vI 0) rfl rfl f0 (hΦ _ _ ⟨by rw [unq_no (by rw [hi, gd hc, List.drop_of_length_le (by omega), strA_b0 (by rw [q34]; exact h7) (by rw [q10]; exact h8) (by rw [q92]; exact h9)])], hM.fr⟩)
       | true =>
        have rh11 := dt h11
        obtain ⟨d, hd⟩ := geb (l := l) (i := j + 1) (by omega)
        refine calm 16 3 38 [(37, .int .u8 (d.toNat : Int))] (fc (byt 9 (i := j + 2) (hta hd) (z := (((j : Int) + 1) + 1)) (by omega)) f0) hM (ixb_calls [92, 34, 110] d.toNat (UInt8.toNat_lt _) _) fun w1 hM => seg 17 2 [(7, vI (escI d)), (40, vB (decide ((escI d) < 0)))] f0 ?_
        cases h12 : (decide ((escI d) < 0)) with
        | false =>
         have rh12 := df h12
         refine calM 19 2 43 [(42, .int .u8 ((esc d).toNat : Int))] (K := fun u Mn => u = .nilIface ∧ ∃ q2 c2, Mn = [bk b #[vP b 0, vL q2 (acc ++ [esc d]).length c2] 251, rw_ byL 1 5 (vL q2 (acc ++ [esc d]).length c2) (acc ++ [esc d])]) [] [0, 1] (fc (byt 9 (i := (escI d).toNat) (esc_b d rh12).1 (z := (escI d)) (by have := (esc_b d rh12).2; omega)) f0) hM rfl rfl (by decide) (fun hm => wbyte_calls hp (esc d) (by omega) hm) fun u Mn w1 hK hM => ?_
         obtain ⟨rfl, qa13, ca13, rfl⟩ := hK
         refine seg 3 0 [(5, vI ((((j : Int) + 1) + 1) + 1))] (fc (tadd (((j : Int) + 1) + 1) 1 Tryz.underlying3) f0) ?_
         have hin : strL l = strA (acc ++ [esc d]) (j + 2) (l.drop (j + 2)) := by rw [hi, gd hc, gd hd, strA_b2 (by rw [q34]; exact h7) (by rw [q10]; exact h8) (by rw [q92]; exact h9) rh12]
         exact fewer _ (ih4 _ (by omega) (j + 2) (acc ++ [esc d]) qa13 ca13 (some ⟨b, 0, none⟩) _ (by omega) hin (by simp only [List.length_append, List.length_singleton]; omega) (.inr rfl) hM rfl)
        | true =>
         have rh12 := dt h12
         exact rt2 2 3 (vS []) (vI 0) rfl rfl f0 (hΦ _ _ ⟨by rw [unq_no (by rw [hi, gd hc, gd hd, strA_b1 (by rw [q34]; exact h7) (by rw [q10]; exact h8) (by rw [q92]; exact h9) rh12])], hM.fr⟩)
     | true =>
      have rh8 := et h8
      exact rt2 2 3 (vS []) (vI 0) rfl rfl f0 (hΦ _ _ ⟨by rw [unq_no (by rw [hi, gd hc, strA_n (by rw [q34]; exact h7) (by rw [q10]; exact h8)])], hM.fr⟩)
    | true =>
     have rh7 := et h7
     refine cal 9 0 22 [] (K := fun u w8 => u = vS acc ∧ Below w.heap.size _ w8) f0 ((bstr_calls hp hM).mono fun e w9 h => ⟨_, h.1, rfl, h.2⟩) fun u w1 ⟨hu, hb⟩ => ?_
     subst hu
     have hM := Mm.below hM hb
     exact rt2 2 3 (vS acc) (vI (((j : Int) + 1) + 1)) rfl rfl (fc (tadd ((j : Int) + 1) 1 Tryz.underlying3) f0) (hΦ _ _ ⟨by rw [unq_is (by rw [hi, gd hc, strA_q (by rw [q34]; exact h7)])]; exact congrArg (fun z => Ending.returned (.tuple #[vS acc, vI z])) (by omega), hM.fr⟩)
  exact fewer _ (lp3 _ 0 [] none 0 none _ (Nat.zero_le _) (strA_0 l) (Nat.le_refl _) (.inl rfl) hM rfl)
end Go.Proofs.YtbflfefahheidaaGreatDoor
/- The lexer: the iterator over tokens. -/
set_option linter.unusedVariables false
set_option linter.unusedSimpArgs false
namespace Go.Proofs.YtbflfefahheidaaGreatDoor
open Go.RowKit Go.Pl
/-! ### tokens -/
def clsAt (s : Bys) (i : Nat) : Nat := match s[i]? with | some b => cl8 b | none => 0
theorem drop_at {l : Bys} {j : Nat} {c : UInt8} (h : l[j]? = some c) : l.drop j = c :: l.drop (j + 1) := by
  have hj := (List.getElem?_eq_some_iff.1 h).1
  rw [List.drop_eq_getElem_cons hj, (List.getElem?_eq_some_iff.1 h).2]
theorem clsAt_len {s : Bys} {i : Nat} (h : s.length ≤ i) : clsAt s i = 0 := by unfold clsAt; rw [List.getElem?_eq_none h]
theorem clsAt_is {s : Bys} {i : Nat} {c : UInt8} (h : s[i]? = some c) : clsAt s i = cl8 c := by unfold clsAt; rw [h]
theorem cl8_q (c : UInt8) : (((cl8 c == 1) == isBlk c) && ((cl8 c == 2) == (c == 35)) && ((cl8 c == 3) == isLet c) && ((cl8 c == 4) == isDig c) && ((cl8 c == 7) == (c == 34)) && ((cl8 c == 6) == isSym c) && ((cl8 c == 3 || cl8 c == 4 || cl8 c == 5) == isWrd c)) = true :=
  u8_all (p := fun c => ((cl8 c == 1) == isBlk c) && ((cl8 c == 2) == (c == 35)) && ((cl8 c == 3) == isLet c) && ((cl8 c == 4) == isDig c) && ((cl8 c == 7) == (c == 34)) && ((cl8 c == 6) == isSym c) && ((cl8 c == 3 || cl8 c == 4 || cl8 c == 5) == isWrd c)) (by decide +kernel) c
theorem cl8_qs (c : UInt8) : (cl8 c == 1) = isBlk c ∧ (cl8 c == 2) = (c == 35) ∧ (cl8 c == 3) = isLet c ∧ (cl8 c == 4) = isDig c ∧ (cl8 c == 7) = (c == 34) ∧ (cl8 c == 6) = isSym c ∧ (cl8 c == 3 || cl8 c == 4 || cl8 c == 5) = isWrd c := by
  have := cl8_q c
  simp only [Bool.and_eq_true, beq_iff_eq] at this
  obtain ⟨⟨⟨⟨⟨⟨h1, h2⟩, h3⟩, h4⟩, h5⟩, h6⟩, h7⟩ := this
  exact ⟨h1, h2, h3, h4, h5, h6, h7⟩
theorem natq (a : Nat) (b : Nat) : (((a : Nat) : Int) == (b : Int)) = (a == b) := by
  by_cases h : a = b
  · subst h; simp
  · rw [beq_eq_false_iff_ne.2 h, beq_eq_false_iff_ne.2 (by omega)]
def wrdAt (s : Bys) (i : Nat) : Bool := clsAt s i == 3 || clsAt s i == 4 || clsAt s i == 5
theorem wrdAt_is {s : Bys} {i : Nat} {c : UInt8} (h : s[i]? = some c) : wrdAt s i = isWrd c := by
  unfold wrdAt; rw [clsAt_is h]; exact (cl8_qs c).2.2.2.2.2.2
theorem wrdAt_no {s : Bys} {i : Nat} (h : s.length ≤ i) : wrdAt s i = false := by unfold wrdAt; rw [clsAt_len h]; rfl
def digAt (s : Bys) (i : Nat) : Bool := clsAt s i == 4
theorem digAt_is {s : Bys} {i : Nat} {c : UInt8} (h : s[i]? = some c) : digAt s i = isDig c := by
  unfold digAt; rw [clsAt_is h]; exact (cl8_qs c).2.2.2.1
theorem digAt_no {s : Bys} {i : Nat} (h : s.length ≤ i) : digAt s i = false := by unfold digAt; rw [clsAt_len h]; rfl
structure RunTo (p : UInt8 → Bool) (s : Bys) (f j : Nat) : Prop where
  le : f ≤ j
  hi : j ≤ s.length
  all : (s.drop f).takeWhile p = (s.drop f).take (j - f) ++ (s.drop j).takeWhile p
theorem RunTo.start {p : UInt8 → Bool} {s : Bys} {f : Nat} (h : f ≤ s.length) : RunTo p s f f := ⟨Nat.le_refl _, h, by simp⟩
theorem RunTo.step {p : UInt8 → Bool} {s : Bys} {f j : Nat} {c : UInt8} (h : RunTo p s f j) (hc : s[j]? = some c) (hp : p c = true) : RunTo p s f (j + 1) := by
  have hj := (List.getElem?_eq_some_iff.1 hc).1
  refine ⟨by have := h.le; omega, by omega, ?_⟩
  rw [h.all, drop_at hc, List.takeWhile_cons, if_pos hp]
  have hle := h.le
  have : (s.drop f).take (j + 1 - f) = (s.drop f).take (j - f) ++ [c] := by
    rw [show j + 1 - f = (j - f) + 1 by omega, List.take_add_one, List.getElem?_drop, show f + (j - f) = j by omega, hc]; rfl
  rw [this, List.append_assoc]; rfl
theorem RunTo.stop {p : UInt8 → Bool} {s : Bys} {f j : Nat} (h : RunTo p s f j) (hs : ∀ c, s[j]? = some c → p c = false) : (s.drop f).takeWhile p = (s.drop f).take (j - f) ∧ ((s.drop f).takeWhile p).length = j - f := by
  have e : (s.drop j).takeWhile p = [] := by
    cases hq : s.drop j with
    | nil => rfl
    | cons c r =>
      have : s[j]? = some c := by
        have := congrArg (fun l => l[0]?) hq
        simpa [List.getElem?_drop] using this
      rw [List.takeWhile_cons, hs c this]; rfl
  have := h.all
  rw [e, List.append_nil] at this
  refine ⟨this, ?_⟩
  rw [this, List.length_take, List.length_drop]
  have := h.le; have := h.hi; omega
theorem take_cons_sub {s : Bys} {i j : Nat} {c : UInt8} (hc : s[i]? = some c) (h : i + 1 ≤ j) : (s.take j).drop i = c :: (s.drop (i + 1)).take (j - (i + 1)) := by
  rw [List.drop_take, drop_at hc, show j - i = (j - (i + 1)) + 1 by omega, List.take_succ_cons]
def LexAt (s : Bys) (k i : Nat) : Prop := i ≤ s.length ∧ k ≤ (lexL s 0).length ∧ (lexL s 0).drop k = lexL (s.drop i) i
theorem LexAt.zero (s : Bys) : LexAt s 0 0 := ⟨Nat.zero_le _, Nat.zero_le _, rfl⟩
theorem LexAt.done {s : Bys} {k : Nat} (h : LexAt s k s.length) : k = (lexL s 0).length := by
  obtain ⟨_, h1, h2⟩ := h
  rw [List.drop_length, lexL_nil] at h2
  have := congrArg List.length h2
  simp at this; omega
theorem LexAt.gap {s : Bys} {k i : Nat} {c : UInt8} (h : LexAt s k i) (hc : s[i]? = some c) {m : Nat} (ho : one c (s.drop (i + 1)) = (0, [], m, 0)) (hm : i + 1 + m ≤ s.length) : LexAt s k (i + 1 + m) := by
  obtain ⟨_, h1, h2⟩ := h
  refine ⟨hm, h1, ?_⟩
  rw [h2, drop_at hc, lexL_cons, ho]
  simp only [bne_self_eq_false, Bool.false_eq_true, if_false, beq_self_eq_true, if_true, List.drop_drop]
  rw [show (i : Int) + 1 + (m : Int) = ((i + 1 + m : Nat) : Int) by omega]
theorem LexAt.tok {s : Bys} {k i : Nat} {c : UInt8} {kd : Int} {tx : Bys} {m : Nat} (h : LexAt s k i) (hc : s[i]? = some c) (ho : one c (s.drop (i + 1)) = (kd, tx, m, 0)) (hk : kd ≠ 0) (hm : i + 1 + m ≤ s.length) : (lexL s 0)[k]? = some ((kd, tx, (i : Int)), 0) ∧ LexAt s (k + 1) (i + 1 + m) := by
  obtain ⟨_, h1, h2⟩ := h
  rw [drop_at hc, lexL_cons, ho] at h2
  simp only [bne_self_eq_false, Bool.false_eq_true, if_false, List.drop_drop] at h2
  rw [if_neg (by simpa using hk)] at h2
  have h3 : (lexL s 0)[k]? = some ((kd, tx, (i : Int)), 0) := by
    have := congrArg (fun l => l[0]?) h2
    simpa [List.getElem?_drop] using this
  refine ⟨h3, hm, (List.getElem?_eq_some_iff.1 h3).1, ?_⟩
  have := congrArg (List.drop 1) h2
  rw [List.drop_drop] at this
  rw [this]
  simp only [List.drop_succ_cons, List.drop_zero]
  rw [show (i : Int) + 1 + (m : Int) = ((i + 1 + m : Nat) : Int) by omega]
theorem LexAt.err {s : Bys} {k i : Nat} {c : UInt8} {kd : Int} {tx : Bys} {m : Nat} {e : Int} (h : LexAt s k i) (hc : s[i]? = some c) (ho : one c (s.drop (i + 1)) = (kd, tx, m, e)) (he : e ≠ 0) : (lexL s 0)[k]? = some ((kd, tx, (i : Int)), e) ∧ k + 1 = (lexL s 0).length := by
  obtain ⟨_, h1, h2⟩ := h
  rw [drop_at hc, lexL_cons, ho] at h2
  simp only at h2
  rw [if_pos (by simpa using he)] at h2
  have h3 : (lexL s 0)[k]? = some ((kd, tx, (i : Int)), e) := by
    have := congrArg (fun l => l[0]?) h2
    simpa [List.getElem?_drop] using this
  refine ⟨h3, ?_⟩
  have := congrArg List.length h2
  rw [List.length_drop] at this
  simp at this
  have := (List.getElem?_eq_some_iff.1 h3).1
  omega
theorem one_hash {c : UInt8} {l : Bys} (hb : isBlk c = false) (h : (c == 35) = true) : one c l = (0, [], (l.takeWhile (· != 10)).length, 0) := by
  unfold one; simp only [hb, h, Bool.false_eq_true, if_false, if_true]
theorem one_letq {c : UInt8} {l : Bys} (h : isLet c = true) : one c l = (1, c :: l.takeWhile isWrd, (l.takeWhile isWrd).length, if (l.takeWhile isWrd).length + 1 > 24 then 2 else 0) := by
  obtain ⟨h1, h2, _, _⟩ := isLet_cls h
  unfold one; simp only [h1, h2, h, Bool.false_eq_true, if_false, if_true]
def hdW : Bys → Bool
  | d :: _ => isWrd d
  | [] => false
theorem one_digq {c : UInt8} {l : Bys} (h : isDig c = true) : one c l = ((2 : Int), c :: l.takeWhile isDig, (l.takeWhile isDig).length, if ((l.takeWhile isDig).length + 1 > 7 || hdW (l.dropWhile isDig)) = true then (4 : Int) else 0) := by
  obtain ⟨h1, h2, h3, _⟩ := isDig_cls h
  unfold one; simp only [h1, h2, h3, h, Bool.false_eq_true, if_false, if_true]
  cases l.dropWhile isDig <;> rfl
theorem q34_cls {c : UInt8} (h : (c == 34) = true) : isBlk c = false ∧ (c == 35) = false ∧ isLet c = false ∧ isDig c = false := by
  rw [beq_iff_eq] at h; subst h; decide
theorem one_strq {c : UInt8} {l : Bys} (h : (c == 34) = true) : one c l = (match strL l with | some (s, k) => (3, s, k, 0) | none => (0, [], 0, 3)) := by
  obtain ⟨h1, h2, h3, h4⟩ := q34_cls h
  unfold one; simp only [h1, h2, h3, h4, h, Bool.false_eq_true, if_false, if_true]
  cases strL l <;> rfl
theorem one_oth {c : UInt8} {l : Bys} (h1 : isBlk c = false) (h2 : (c == 35) = false) (h3 : isLet c = false) (h4 : isDig c = false) (h5 : (c == 34) = false) (h6 : isSym c = false) : one c l = (0, [], 0, 3) := by
  unfold one; simp only [h1, h2, h3, h4, h5, h6, Bool.false_eq_true, if_false]
theorem dropWhile_take {p : UInt8 → Bool} (l : Bys) : l.dropWhile p = l.drop (l.takeWhile p).length := by
  induction l with
  | nil => rfl
  | cons c l ih =>
    rw [List.dropWhile_cons, List.takeWhile_cons]
    split
    · simp [ih]
    · rfl
theorem strL_len : ∀ (n : Nat) (l : Bys), l.length ≤ n → ∀ {s : Bys} {k : Nat}, strL l = some (s, k) → k ≤ l.length := fun n l h s k hs => (strL_app n l [] h hs).2
theorem run_word {p : UInt8 → Bool} {s : Bys} {i j : Nat} {c : UInt8} (hc : s[i]? = some c) (hp : p c = true) (hr : RunTo p s i j) (hs : ∀ c, s[j]? = some c → p c = false) : i + 1 ≤ j ∧ c :: (s.drop (i + 1)).takeWhile p = (s.take j).drop i ∧ ((s.drop (i + 1)).takeWhile p).length = j - (i + 1) := by
  obtain ⟨h1, h2⟩ := hr.stop hs
  rw [drop_at hc, List.takeWhile_cons, if_pos hp] at h1 h2
  have h3 := hr.hi
  have h4 := hr.le
  simp only [List.length_cons] at h2
  refine ⟨by omega, ?_, by omega⟩
  rw [h1, ← drop_at hc, List.drop_take]
theorem let_one {s : Bys} {i j : Nat} {c : UInt8} (hc : s[i]? = some c) (h : isLet c = true) (hr : RunTo isWrd s i j) (hs : wrdAt s j = false) : one c (s.drop (i + 1)) = (1, (s.take j).drop i, j - (i + 1), if (24 : Int) < (j : Int) - (i : Int) then 2 else 0) ∧ i + 1 ≤ j := by
  obtain ⟨h1, h2, h3⟩ := run_word hc (isLet_cls h).2.2.2 hr (fun c hc => by rw [← wrdAt_is hc]; exact hs)
  refine ⟨?_, h1⟩
  rw [one_letq h, h2, h3]
  have : (j - (i + 1) + 1 > 24) ↔ ((24 : Int) < (j : Int) - (i : Int)) := by omega
  simp only [this]
theorem hdW_at {s : Bys} {j : Nat} : hdW (s.drop j) = wrdAt s j := by
  cases hq : s[j]? with
  | none =>
    have hj : s.length ≤ j := List.getElem?_eq_none_iff.1 hq
    rw [List.drop_of_length_le hj, wrdAt_no hj]; rfl
  | some c => rw [drop_at hq, wrdAt_is hq]; rfl
theorem dig_one {s : Bys} {i j : Nat} {c : UInt8} (hc : s[i]? = some c) (h : isDig c = true) (hr : RunTo isDig s i j) (hs : digAt s j = false) : one c (s.drop (i + 1)) = (2, (s.take j).drop i, j - (i + 1), if (decide ((7 : Int) < (j : Int) - (i : Int)) || wrdAt s j) = true then 4 else 0) ∧ i + 1 ≤ j := by
  obtain ⟨h1, h2, h3⟩ := run_word hc h hr (fun c hc => by rw [← digAt_is hc]; exact hs)
  refine ⟨?_, h1⟩
  have hdd : (s.drop (i + 1)).dropWhile isDig = s.drop j := by
    rw [dropWhile_take, h3, List.drop_drop, show i + 1 + (j - (i + 1)) = j by omega]
  rw [one_digq h, h2, h3, hdd, hdW_at]
  have : decide (j - (i + 1) + 1 > 7) = decide ((7 : Int) < (j : Int) - (i : Int)) := by rw [decide_eq_decide]; omega
  rw [this]
theorem hash_one {s : Bys} {i j : Nat} {c : UInt8} (hc : s[i]? = some c) (hb : isBlk c = false) (h : (c == 35) = true) (hr : RunTo (· != 10) s i j) (hs : ∀ c, s[j]? = some c → (c != 10) = false) : one c (s.drop (i + 1)) = (0, [], j - (i + 1), 0) ∧ i + 1 ≤ j := by
  have hp : (c != 10) = true := by rw [beq_iff_eq] at h; subst h; decide
  obtain ⟨h1, h2, h3⟩ := run_word hc hp hr hs
  exact ⟨by rw [one_hash hb h, h3], h1⟩
theorem str_one {s : Bys} {i : Nat} {c : UInt8} (hc : s[i]? = some c) (h : (c == 34) = true) : s.drop i = 34 :: s.drop (i + 1) ∧ ((∃ st m, unqR (s.drop (i + 1)) = (st, ((m + 1 : Nat) : Int)) ∧ one c (s.drop (i + 1)) = (3, st, m, 0) ∧ i + 1 + m ≤ s.length) ∨ (unqR (s.drop (i + 1)) = ([], 0) ∧ one c (s.drop (i + 1)) = (0, [], 0, 3))) := by
  refine ⟨by rw [drop_at hc]; rw [beq_iff_eq] at h; rw [h], ?_⟩
  have hi := (List.getElem?_eq_some_iff.1 hc).1
  rw [one_strq h]
  cases hq : strL (s.drop (i + 1)) with
  | none => exact .inr ⟨unq_no hq, rfl⟩
  | some x =>
    obtain ⟨st, m⟩ := x
    have := strL_len _ _ (Nat.le_refl _) hq
    rw [List.length_drop] at this
    exact .inl ⟨st, m, by rw [unq_is hq]; rfl, rfl, by omega⟩
theorem wrd_35 {s : Bys} {j : Nat} (h : digAt s j = false) : wrdAt s j = (clsAt s j == 3 || clsAt s j == 5) := by
  unfold digAt at h
  unfold wrdAt
  rw [h]; simp
theorem u10 (c : UInt8) : (c != 10) = ((c.toNat : Int) != 10) := by
  have := q10 c
  unfold bne
  rw [this]
def lexV (s : Bys) : List (Array Value) := (lexL s 0).map fun x => #[.agg #[vI x.1.1, vS x.1.2.1, vI x.1.2.2, vI x.2]]
/-- What the iterator over tokens needs. -/
structure TokK (bt bf bc : Nat) (s : Bys) (G : Nat → Prop) (W : World) : Prop where
  t : W.heap[bt]? = some (.cells #[vS s] 9 (0, 0))
  f : W.heap[bf]? = some (.cells #[.func (.func 152) #[] #[vP bt 0, vP bc 0]] 228 (0, 0))
  c : ∃ cs, W.heap[bc]? = some (.cells cs 153 (0, 0)) ∧ T8 cs clsT
  nt : ¬ G bt
  nf : ¬ G bf
  nc : ¬ G bc
theorem at_calls {w : World} {bt bc : Nat} {s : Bys} {cs : Array Value} (hbt : w.heap[bt]? = some (.cells #[vS s] 9 (0, 0))) (hbc : w.heap[bc]? = some (.cells cs 153 (0, 0))) (hT : T8 cs clsT) (i : Nat) : Calls Tryz.prog 152 #[vI (i : Int), vP bt 0, vP bc 0] w fun e w' => e = .returned (.int .u8 ((clsAt s i : Nat) : Int)) ∧ Fr (fun _ => False) w w' := by
  refine beg Tryz.func152 rfl rfl [(0, vI (i : Int)), (1, vP bt 0), (2, vP bc 0)] rfl rfl fun Φ hΦ => ?_
  have hM := Mm.nil (fun _ => False) w
  refine seg 1 4 [(8, vB (decide ((s.length : Int) ≤ (i : Int))))] (fc (ld0 9 hM (bx hbt 0 rfl)) (fc (tlen 9 s) f0)) ?_
  cases h1 : (decide ((s.length : Int) ≤ (i : Int))) with
  | false =>
   have rh1 := df h1
   obtain ⟨e2, he2⟩ := geb (l := s) (i := i) (by omega)
   exact rt1 4 (.int .u8 ((clsT e2.toNat : Nat) : Int)) rfl (fc (ld0 9 hM (bx hbt 0 rfl)) (fc (byt 9 he2) (fc (ixar 153 256 .u8 bc 0 e2.toNat e2.toNat_lt) (fc (ld0 5 hM (bx hbc (0 + e2.toNat * 1) (by rw [Nat.zero_add, Nat.mul_one]; exact hT.2 _ e2.toNat_lt))) f0)))) (hΦ _ _ ⟨by rw [clsAt_is he2, ← clsT_byte], hM.fr⟩)
  | true =>
   have rh1 := dt h1
   exact rt1 4 (.int .u8 0) rfl f0 (hΦ _ _ ⟨by rw [clsAt_len (by omega)]; rfl, hM.fr⟩)
abbrev A153 (Φ : Ending → World → Prop) := AtO Tryz.prog (bodyOf Tryz.f153) (whole (bodyPost Tryz.prog Tryz.f153 Φ)) [] 149
theorem tokens_yields {bt bf bc : Nat} {s : Bys} (hl : s.length ≤ 20000) : IterE Tryz.prog 153 #[vP bt 0, vP bf 0] (lexV s) (TokK bt bf bc s) := by
  intro l J S w e0 hJ0 he hKp hSq hround
  obtain ⟨hbt, hbf, ⟨cs, hbc, hT⟩, hnt, hnf, hnc⟩ := hKp
  refine beg Tryz.func153 rfl rfl [(0, .func (.yield l) #[] #[]), (1, vP bt 0), (2, vP bf 0)] rfl rfl fun Φ hΦ => ?_
  have hM := Mm.one he
  refine seg 1 0 [(4, vI 0)] f0 ?_
  have lp3 : ∀ (m5 : Nat) (k : Nat) (i : Nat) (ek : Ent) (w2 : World), LexAt s k i → J k ek → Mm e0.B w w2 [ek] → m5 = s.length - i → A153 Φ (some (1, 0)) [(4, vI (i : Int)), (0, .func (.yield l) #[] #[]), (1, vP bt 0), (2, vP bf 0)] w2 := by
   refine srec fun m5 ih4 k i ek w2 hL hJ hM hm5 => ?_
   have hil := hL.1
   refine seg 1 4 [(14, vB (decide ((i : Int) < (s.length : Int))))] (fc (ld0 9 hM (bx hbt 0 rfl) hnt) (fc (tlen 9 s) f0)) ?_
   cases h6 : (decide ((i : Int) < (s.length : Int))) with
   | false =>
    have rh6 := df h6
    have hie : i = s.length := by omega
    have hL9 : LexAt s k s.length := by rw [← hie]; exact hL
    have hd9 := hL9.done
    exact rt0 rfl f0 (hΦ _ _ ⟨⟨_, rfl⟩, .inl ⟨_, by unfold lexV; rw [List.length_map, ← hd9]; exact hJ, hM.get 0 rfl, hM.fr⟩⟩)
   | true =>
    have rh6 := dt h6
    obtain ⟨c, hc⟩ := geb (l := s) (i := i) (by omega)
    refine varm 3 3 6 [(5, vI (i : Int)), (18, .agg #[vI 0, vS [], vI (i : Int), vI 3])] [] 205 (.agg #[vI 0, vS [], vI (i : Int), vI 3]) f0 hM fun b7 w1 hM => calm 4 2 21 [(19, .func (.func 152) #[] #[vP bt 0, vP bc 0]), (20, vI (i : Int))] (fc (ld0 228 hM (bx hbf 0 rfl) hnf) f0) hM (at_calls (hM.fr.obj hbt hnt) (hM.fr.obj hbc hnc) hT i) fun w1 hM => seg 5 2 [(22, vB (((clsAt s i : Nat) : Int) == 1))] f0 ?_
    cases h8 : (((clsAt s i : Nat) : Int) == 1) with
    | false =>
     have rh8 := ef h8
     have hblk : isBlk c = false := by rw [← (cl8_qs c).1, ← clsAt_is hc]; exact (natq (clsAt s i) 1).symm.trans h8
     refine seg 7 2 [(26, vB (((clsAt s i : Nat) : Int) == 2))] f0 ?_
     cases h9 : (((clsAt s i : Nat) : Int) == 2) with
     | false =>
      have rh9 := ef h9
      have hhash : (c == 35) = false := by rw [← (cl8_qs c).2.1, ← clsAt_is hc]; exact (natq (clsAt s i) 2).symm.trans h9
      refine seg 10 2 [(40, vB (((clsAt s i : Nat) : Int) == 3))] f0 ?_
      cases h10 : (((clsAt s i : Nat) : Int) == 3) with
      | false =>
       have rh10 := ef h10
       have hlet : isLet c = false := by rw [← (cl8_qs c).2.2.1, ← clsAt_is hc]; exact (natq (clsAt s i) 3).symm.trans h10
       refine seg 18 2 [(74, vB (((clsAt s i : Nat) : Int) == 4))] f0 ?_
       cases h11 : (((clsAt s i : Nat) : Int) == 4) with
       | false =>
        have rh11 := ef h11
        have hdig : isDig c = false := by rw [← (cl8_qs c).2.2.2.1, ← clsAt_is hc]; exact (natq (clsAt s i) 4).symm.trans h11
        refine seg 25 2 [(107, vB (((clsAt s i : Nat) : Int) == 7))] f0 ?_
        cases h12 : (((clsAt s i : Nat) : Int) == 7) with
        | false =>
         have rh12 := ef h12
         have hquo : (c == 34) = false := by rw [← (cl8_qs c).2.2.2.2.1, ← clsAt_is hc]; exact (natq (clsAt s i) 7).symm.trans h12
         refine seg 30 2 [(127, vB (((clsAt s i : Nat) : Int) == 6))] f0 ?_
         cases h13 : (((clsAt s i : Nat) : Int) == 6) with
         | false =>
          have rh13 := ef h13
          have hsym : isSym c = false := by rw [← (cl8_qs c).2.2.2.2.2.1, ← clsAt_is hc]; exact (natq (clsAt s i) 6).symm.trans h13
          have hon := one_oth (l := s.drop (i + 1)) hblk hhash hlet hdig hquo hsym
          obtain ⟨hx, hend⟩ := hL.err hc hon (by decide)
          refine yld 33 2 142 [(140, .func (.yield l) #[] #[]), (141, .agg #[vI 0, vS [], vI (i : Int), vI 3])] #[205] (by decide) (fc (lam 205 1 0 4 hM rfl) f0) hM (j := 0) rfl (hround _ _ _ _ hJ (hM.get 0 rfl) hM.fr (vs_of hx)) (fun ec w1 hJ hM => ?_) (fun w1 hS => ?_)
          · skip
            exact rt0 rfl (fc (ldm 32 1 3 hM rfl rfl) f0) (hΦ _ _ ⟨⟨_, rfl⟩, .inl ⟨_, by unfold lexV; rw [List.length_map, ← hend]; exact hJ, hM.get 0 rfl, hM.fr⟩⟩)
          · skip
            exact rt0 rfl f0 (hΦ _ _ ⟨⟨_, rfl⟩, .inr hS⟩)
         | true =>
          have rh13 := et h13
          have hsym : isSym c = true := by rw [← (cl8_qs c).2.2.2.2.2.1, ← clsAt_is hc]; exact (natq (clsAt s i) 6).symm.trans h13
          have hon : one c (s.drop (i + 1)) = (4, (s.take (i + 1)).drop i, 0, 0) := by rw [one_sym hsym, take_cons_sub hc (Nat.le_refl _)]; simp
          refine seg 32 0 [(4, vI ((i : Int) + 1))] (fc (tadd (i : Int) 1 Tryz.underlying3) f0) (drx [6, 9, 11] (fun γ => [none, none, none]) _ (fun γ l => [ek, bk b7 #[(bif l.getD 0 false then vI 4 else vI 0), (bif l.getD 1 false then vS ((s.take (i + 1)).drop i) else vS []), vI (i : Int), (bif l.getD 2 false then vI 0 else vI 3)] 205]) (fun γ => []) hM (fun γ => rfl) (fun γ l w5 hM => (fc (ld0 9 hM (bx hbt 0 rfl) hnt) (fc (tsl3 9 s i (i + 1) (by omega) (by omega) (y := (i : Int)) (z := ((i : Int) + 1)) (by omega) (by omega)) f0))) ⟨ar_st 0 6 3 1 0 (fun γ => b7) (fun γ l => #[(bif l.getD 0 false then vI 4 else vI 0), (bif l.getD 1 false then vS ((s.take (i + 1)).drop i) else vS []), vI (i : Int), (bif l.getD 2 false then vI 0 else vI 3)]) 205 (fun γ => vI 4), ar_st 1 9 9 1 1 (fun γ => b7) (fun γ l => #[(bif l.getD 0 false then vI 4 else vI 0), (bif l.getD 1 false then vS ((s.take (i + 1)).drop i) else vS []), vI (i : Int), (bif l.getD 2 false then vI 0 else vI 3)]) 205 (fun γ => vS ((s.take (i + 1)).drop i)), ar_st 2 11 32 1 3 (fun γ => b7) (fun γ l => #[(bif l.getD 0 false then vI 4 else vI 0), (bif l.getD 1 false then vS ((s.take (i + 1)).drop i) else vS []), vI (i : Int), (bif l.getD 2 false then vI 0 else vI 3)]) 205 (fun γ => vI 0), trivial⟩ fun γ14 w1 hM => ?_)
          replace hM : Mm e0.B w w1 [ek, bk b7 #[vI 4, vS ((s.take (i + 1)).drop i), vI (i : Int), vI 0] 205] := hM
          obtain ⟨hx, hLn⟩ := hL.tok hc hon (by decide) (by omega)
          refine yld 33 2 142 [(140, .func (.yield l) #[] #[]), (141, .agg #[vI 4, vS ((s.take (i + 1)).drop i), vI (i : Int), vI 0])] #[205] (by decide) (fc (lam 205 1 0 4 hM rfl) f0) hM (j := 0) rfl (hround _ _ _ _ hJ (hM.get 0 rfl) hM.fr (vs_of hx)) (fun ec w1 hJ hM => ?_) (fun w1 hS => ?_)
          · skip
            refine seg 1 0 [] (fc (ldm 32 1 3 hM rfl rfl) f0) ?_
            have hL9 : LexAt s (k + 1) (i + 1) := (by simpa using hLn)
            have hl9 := hL9.1
            exact fewer _ (ih4 _ (by omega) (k + 1) (i + 1) ec _ hL9 hJ (hM.pick [0]) rfl)
          · skip
            exact rt0 rfl f0 (hΦ _ _ ⟨⟨_, rfl⟩, .inr hS⟩)
        | true =>
         have rh12 := et h12
         have hquo : (c == 34) = true := by rw [← (cl8_qs c).2.2.2.2.1, ← clsAt_is hc]; exact (natq (clsAt s i) 7).symm.trans h12
         obtain ⟨hsd, -⟩ := str_one hc hquo
         refine calm 26 3 113 [(112, vS (34 :: s.drop (i + 1)))] (fc (ld0 9 hM (bx hbt 0 rfl) hnt) (fc (rz2 (tsl2 9 s i (by omega) (y := (i : Int)) (by omega)) (congrArg vS hsd)) f0)) hM (unq_calls (t := 34 :: s.drop (i + 1)) (l := s.drop (i + 1)) rfl (by rw [List.length_drop]; omega) _) fun w1 hM => seg 27 2 [(9, vS ((unqR (s.drop (i + 1))).1)), (10, vI (unqR (s.drop (i + 1))).2), (117, vB (decide (0 < (unqR (s.drop (i + 1))).2)))] f0 ?_
         cases h15 : (decide (0 < (unqR (s.drop (i + 1))).2)) with
         | false =>
          have rh15 := df h15
          obtain ⟨-, hso⟩ := str_one hc hquo
          obtain ⟨hun, hon⟩ : unqR (s.drop (i + 1)) = ([], 0) ∧ one c (s.drop (i + 1)) = (0, [], 0, 3) := hso.resolve_left (fun ⟨st, m, hx, _⟩ => by rw [hx] at rh15; simp only at rh15; omega)
          clear hso
          have hu1 : (unqR (s.drop (i + 1))).1 = [] := by rw [hun]
          have hu2 : (unqR (s.drop (i + 1))).2 = 0 := by rw [hun]
          rw [hu1, hu2]
          obtain ⟨hx, hend⟩ := hL.err hc hon (by decide)
          refine yld 33 2 142 [(4, vI ((i : Int) + 0)), (140, .func (.yield l) #[] #[]), (141, .agg #[vI 0, vS [], vI (i : Int), vI 3])] #[205] (by decide) (fc (tadd (i : Int) 0 Tryz.underlying3) (fc (lam 205 1 0 4 hM rfl) f0)) hM (j := 0) rfl (hround _ _ _ _ hJ (hM.get 0 rfl) hM.fr (vs_of hx)) (fun ec w1 hJ hM => ?_) (fun w1 hS => ?_)
          · skip
            exact rt0 rfl (fc (ldm 32 1 3 hM rfl rfl) f0) (hΦ _ _ ⟨⟨_, rfl⟩, .inl ⟨_, by unfold lexV; rw [List.length_map, ← hend]; exact hJ, hM.get 0 rfl, hM.fr⟩⟩)
          · skip
            exact rt0 rfl f0 (hΦ _ _ ⟨⟨_, rfl⟩, .inr hS⟩)
         | true =>
          have rh15 := dt h15
          obtain ⟨-, hso⟩ := str_one hc hquo
          obtain ⟨st, m, hun, hon, hmm⟩ : ∃ st m, unqR (s.drop (i + 1)) = (st, ((m + 1 : Nat) : Int)) ∧ one c (s.drop (i + 1)) = (3, st, m, 0) ∧ i + 1 + m ≤ s.length := hso.resolve_right (fun hx => by rw [hx.1] at rh15; simp at rh15)
          clear hso
          have hu1 : (unqR (s.drop (i + 1))).1 = st := by rw [hun]
          have hu2 : (unqR (s.drop (i + 1))).2 = ((m + 1 : Nat) : Int) := by rw [hun]
          rw [hu1, hu2]
          refine stm 28 3 [(118, vS st), (120, vP b7 0)] 3 1 0 (vI 3) f0 hM rfl fun w1 hM => stm 28 6 [(122, vP b7 1)] 9 1 1 (vS st) f0 hM rfl fun w1 hM => stm 28 8 [(123, vP b7 3)] 32 1 3 (vI 0) f0 hM rfl fun w1 hM => ?_
          obtain ⟨hx, hLn⟩ := hL.tok hc hon (by decide) (by omega)
          refine yld 33 2 142 [(4, vI ((i : Int) + ((m + 1 : Nat) : Int))), (140, .func (.yield l) #[] #[]), (141, .agg #[vI 3, vS st, vI (i : Int), vI 0])] #[205] (by decide) (fc (tadd (i : Int) ((m + 1 : Nat) : Int) Tryz.underlying3) (fc (lam 205 1 0 4 hM rfl) f0)) hM (j := 0) rfl (hround _ _ _ _ hJ (hM.get 0 rfl) hM.fr (vs_of hx)) (fun ec w1 hJ hM => ?_) (fun w1 hS => ?_)
          · skip
            refine seg 1 0 [] (fc (ldm 32 1 3 hM rfl rfl) f0) ?_
            have hL9 : LexAt s (k + 1) (i + (m + 1)) := (by rwa [show i + 1 + m = i + (m + 1) by omega] at hLn)
            have hl9 := hL9.1
            exact fewer _ (ih4 _ (by omega) (k + 1) (i + (m + 1)) ec _ hL9 hJ (hM.pick [0]) rfl)
          · skip
            exact rt0 rfl f0 (hΦ _ _ ⟨⟨_, rfl⟩, .inr hS⟩)
       | true =>
        have rh11 := et h11
        have hdig : isDig c = true := by rw [← (cl8_qs c).2.2.2.1, ← clsAt_is hc]; exact (natq (clsAt s i) 4).symm.trans h11
        refine seg 19 0 [] f0 ?_
        have lp16 : ∀ (m18 : Nat) (j : Nat) (w2 : World), RunTo isDig s i j → Mm e0.B w w2 [ek, bk b7 #[vI 0, vS [], vI (i : Int), vI 3] 205] → m18 = s.length - j → A153 Φ (some (19, 0)) [(6, vP b7 0), (5, vI (i : Int)), (4, vI (j : Int)), (0, .func (.yield l) #[] #[]), (1, vP bt 0), (2, vP bf 0)] w2 := by
         refine srec fun m18 ih17 j w2 hr hM hm18 => ?_
         have hjl := hr.hi
         refine calm 19 2 78 [(76, .func (.func 152) #[] #[vP bt 0, vP bc 0]), (77, vI (j : Int))] (fc (ld0 228 hM (bx hbf 0 rfl) hnf) f0) hM (at_calls (hM.fr.obj hbt hnt) (hM.fr.obj hbc hnc) hT j) fun w1 hM => seg 19 4 [(79, vB (((clsAt s j : Nat) : Int) == 4))] f0 ?_
         cases h19 : (((clsAt s j : Nat) : Int) == 4) with
         | false =>
          have rh19 := ef h19
          have hj4 : (clsAt s j == 4) = false := (natq (clsAt s j) 4).symm.trans h19
          have hds : digAt s j = false := by unfold digAt; exact hj4
          obtain ⟨hon, hij⟩ := dig_one hc hdig hr hds
          refine seg 21 0 [] f0 (drx [6, 9, 11] (fun γ => [none, none, none]) _ (fun γ l => [ek, bk b7 #[(bif l.getD 0 false then vI 2 else vI 0), (bif l.getD 1 false then vS ((s.take j).drop i) else vS []), vI (i : Int), (bif l.getD 2 false then vI 0 else vI 3)] 205]) (fun γ => []) hM (fun γ => rfl) (fun γ l w5 hM => (fc (ld0 9 hM (bx hbt 0 rfl) hnt) (fc (tsl3 9 s i j (by omega) (by omega) (y := (i : Int)) (z := (j : Int)) (by omega) (by omega)) f0))) ⟨ar_st 0 6 3 1 0 (fun γ => b7) (fun γ l => #[(bif l.getD 0 false then vI 2 else vI 0), (bif l.getD 1 false then vS ((s.take j).drop i) else vS []), vI (i : Int), (bif l.getD 2 false then vI 0 else vI 3)]) 205 (fun γ => vI 2), ar_st 1 9 9 1 1 (fun γ => b7) (fun γ l => #[(bif l.getD 0 false then vI 2 else vI 0), (bif l.getD 1 false then vS ((s.take j).drop i) else vS []), vI (i : Int), (bif l.getD 2 false then vI 0 else vI 3)]) 205 (fun γ => vS ((s.take j).drop i)), ar_st 2 11 32 1 3 (fun γ => b7) (fun γ l => #[(bif l.getD 0 false then vI 2 else vI 0), (bif l.getD 1 false then vS ((s.take j).drop i) else vS []), vI (i : Int), (bif l.getD 2 false then vI 0 else vI 3)]) 205 (fun γ => vI 0), trivial⟩ fun γ20 w1 hM => ?_)
          replace hM : Mm e0.B w w1 [ek, bk b7 #[vI 2, vS ((s.take j).drop i), vI (i : Int), vI 0] 205] := hM
          refine calm 22 2 93 [(91, .func (.func 152) #[] #[vP bt 0, vP bc 0]), (92, vI (j : Int))] (fc (ld0 228 hM (bx hbf 0 rfl) hnf) f0) hM (at_calls (hM.fr.obj hbt hnt) (hM.fr.obj hbc hnc) hT j) fun w1 hM => seg 23 5 [(8, .int .u8 ((clsAt s j : Nat) : Int)), (98, vB (decide (7 < ((j : Int) - (i : Int)))))] (fc (tsub (j : Int) (i : Int) Tryz.underlying3) f0) ?_
          cases h21 : (decide (7 < ((j : Int) - (i : Int)))) with
          | false =>
           have rh21 := df h21
           refine seg 23 9 [(102, vB (((clsAt s j : Nat) : Int) == 3))] f0 ?_
           cases h22 : (((clsAt s j : Nat) : Int) == 3) with
           | false =>
            have rh22 := ef h22
            have hj3 : (clsAt s j == 3) = false := (natq (clsAt s j) 3).symm.trans h22
            refine seg 23 12 [(105, vB (((clsAt s j : Nat) : Int) == 5))] f0 ?_
            cases h23 : (((clsAt s j : Nat) : Int) == 5) with
            | false =>
             have rh23 := ef h23
             have hj5 : (clsAt s j == 5) = false := (natq (clsAt s j) 5).symm.trans h23
             have hwq : wrdAt s j = false := by rw [wrd_35 hds, hj3, hj5]; rfl
             rw [hwq, decide_eq_false rh21] at hon
             simp only [Bool.or_true, Bool.or_false, Bool.false_eq_true, if_true, if_false] at hon
             obtain ⟨hx, hLn⟩ := hL.tok hc hon (by decide) (by omega)
             refine yld 33 2 142 [(140, .func (.yield l) #[] #[]), (141, .agg #[vI 2, vS ((s.take j).drop i), vI (i : Int), vI 0])] #[205] (by decide) (fc (lam 205 1 0 4 hM rfl) f0) hM (j := 0) rfl (hround _ _ _ _ hJ (hM.get 0 rfl) hM.fr (vs_of hx)) (fun ec w1 hJ hM => ?_) (fun w1 hS => ?_)
             · skip
               refine seg 1 0 [] (fc (ldm 32 1 3 hM rfl rfl) f0) ?_
               have hL9 : LexAt s (k + 1) j := (by rwa [show i + 1 + (j - (i + 1)) = j by omega] at hLn)
               have hl9 := hL9.1
               exact fewer _ (ih4 _ (by omega) (k + 1) j ec _ hL9 hJ (hM.pick [0]) rfl)
             · skip
               exact rt0 rfl f0 (hΦ _ _ ⟨⟨_, rfl⟩, .inr hS⟩)
            | true =>
             have rh23 := et h23
             have hj5 : (clsAt s j == 5) = true := (natq (clsAt s j) 5).symm.trans h23
             refine stm 24 1 [(106, vP b7 3)] 32 1 3 (vI 4) f0 hM rfl fun w1 hM => ?_
             have hwq : wrdAt s j = true := by rw [wrd_35 hds, hj3, hj5]; rfl
             rw [hwq, decide_eq_false rh21] at hon
             simp only [Bool.or_true, Bool.or_false, Bool.false_eq_true, if_true, if_false] at hon
             obtain ⟨hx, hend⟩ := hL.err hc hon (by decide)
             refine yld 33 2 142 [(140, .func (.yield l) #[] #[]), (141, .agg #[vI 2, vS ((s.take j).drop i), vI (i : Int), vI 4])] #[205] (by decide) (fc (lam 205 1 0 4 hM rfl) f0) hM (j := 0) rfl (hround _ _ _ _ hJ (hM.get 0 rfl) hM.fr (vs_of hx)) (fun ec w1 hJ hM => ?_) (fun w1 hS => ?_)
             · skip
               exact rt0 rfl (fc (ldm 32 1 3 hM rfl rfl) f0) (hΦ _ _ ⟨⟨_, rfl⟩, .inl ⟨_, by unfold lexV; rw [List.length_map, ← hend]; exact hJ, hM.get 0 rfl, hM.fr⟩⟩)
             · skip
               exact rt0 rfl f0 (hΦ _ _ ⟨⟨_, rfl⟩, .inr hS⟩)
           | true =>
            have rh22 := et h22
            have hj3 : (clsAt s j == 3) = true := (natq (clsAt s j) 3).symm.trans h22
            refine stm 24 1 [(106, vP b7 3)] 32 1 3 (vI 4) f0 hM rfl fun w1 hM => ?_
            have hwq : wrdAt s j = true := by rw [wrd_35 hds, hj3]; simp
            rw [hwq, decide_eq_false rh21] at hon
            simp only [Bool.or_true, Bool.or_false, Bool.false_eq_true, if_true, if_false] at hon
            obtain ⟨hx, hend⟩ := hL.err hc hon (by decide)
            refine yld 33 2 142 [(140, .func (.yield l) #[] #[]), (141, .agg #[vI 2, vS ((s.take j).drop i), vI (i : Int), vI 4])] #[205] (by decide) (fc (lam 205 1 0 4 hM rfl) f0) hM (j := 0) rfl (hround _ _ _ _ hJ (hM.get 0 rfl) hM.fr (vs_of hx)) (fun ec w1 hJ hM => ?_) (fun w1 hS => ?_)
            · skip
              exact rt0 rfl (fc (ldm 32 1 3 hM rfl rfl) f0) (hΦ _ _ ⟨⟨_, rfl⟩, .inl ⟨_, by unfold lexV; rw [List.length_map, ← hend]; exact hJ, hM.get 0 rfl, hM.fr⟩⟩)
            · skip
              exact rt0 rfl f0 (hΦ _ _ ⟨⟨_, rfl⟩, .inr hS⟩)
          | true =>
           have rh21 := dt h21
           refine stm 24 1 [(106, vP b7 3)] 32 1 3 (vI 4) f0 hM rfl fun w1 hM => ?_
           rw [decide_eq_true rh21, Bool.true_or, if_pos rfl] at hon
           obtain ⟨hx, hend⟩ := hL.err hc hon (by decide)
           refine yld 33 2 142 [(140, .func (.yield l) #[] #[]), (141, .agg #[vI 2, vS ((s.take j).drop i), vI (i : Int), vI 4])] #[205] (by decide) (fc (lam 205 1 0 4 hM rfl) f0) hM (j := 0) rfl (hround _ _ _ _ hJ (hM.get 0 rfl) hM.fr (vs_of hx)) (fun ec w1 hJ hM => ?_) (fun w1 hS => ?_)
           · skip
             exact rt0 rfl (fc (ldm 32 1 3 hM rfl rfl) f0) (hΦ _ _ ⟨⟨_, rfl⟩, .inl ⟨_, by unfold lexV; rw [List.length_map, ← hend]; exact hJ, hM.get 0 rfl, hM.fr⟩⟩)
           · skip
             exact rt0 rfl f0 (hΦ _ _ ⟨⟨_, rfl⟩, .inr hS⟩)
         | true =>
          have rh19 := et h19
          have hj4 : (clsAt s j == 4) = true := (natq (clsAt s j) 4).symm.trans h19
          refine seg 19 0 [(4, vI ((j : Int) + 1))] (fc (tadd (j : Int) 1 Tryz.underlying3) f0) ?_
          have hwj : digAt s j = true := by unfold digAt; first | (rw [hj4]; done) | (rw [hj4]; rfl)
          have hltj : j < s.length := Nat.lt_of_not_le fun h9 => by rw [digAt_no h9] at hwj; cases hwj
          obtain ⟨e, he⟩ := geb (l := s) (i := j) hltj
          have hen : isDig e = true := by rw [← digAt_is he]; exact hwj
          exact fewer _ (ih17 _ (by omega) (j + 1) _ (hr.step he hen) hM rfl)
        exact fewer _ (lp16 _ i _ (RunTo.start hL.1) hM rfl)
      | true =>
       have rh10 := et h10
       have hlet : isLet c = true := by rw [← (cl8_qs c).2.2.1, ← clsAt_is hc]; exact (natq (clsAt s i) 3).symm.trans h10
       refine calm 11 2 44 [(42, .func (.func 152) #[] #[vP bt 0, vP bc 0]), (43, vI (i : Int))] (fc (ld0 228 hM (bx hbf 0 rfl) hnf) f0) hM (at_calls (hM.fr.obj hbt hnt) (hM.fr.obj hbc hnc) hT i) fun w1 hM => seg 12 0 [(7, .int .u8 ((clsAt s i : Nat) : Int))] f0 ?_
       have lp24 : ∀ (m26 : Nat) (j : Nat) (w2 : World), RunTo isWrd s i j → Mm e0.B w w2 [ek, bk b7 #[vI 0, vS [], vI (i : Int), vI 3] 205] → m26 = s.length - j → A153 Φ (some (12, 0)) [(7, .int .u8 ((clsAt s j : Nat) : Int)), (6, vP b7 0), (5, vI (i : Int)), (4, vI (j : Int)), (0, .func (.yield l) #[] #[]), (1, vP bt 0), (2, vP bf 0)] w2 := by
        refine srec fun m26 ih25 j w2 hr hM hm26 => ?_
        have hjl := hr.hi
        refine seg 12 3 [(47, vB (((clsAt s j : Nat) : Int) == 3))] f0 ?_
        cases h27 : (((clsAt s j : Nat) : Int) == 3) with
        | false =>
         have rh27 := ef h27
         have hj3 : (clsAt s j == 3) = false := (natq (clsAt s j) 3).symm.trans h27
         refine seg 12 7 [(51, vB (((clsAt s j : Nat) : Int) == 4))] f0 ?_
         cases h28 : (((clsAt s j : Nat) : Int) == 4) with
         | false =>
          have rh28 := ef h28
          have hj4 : (clsAt s j == 4) = false := (natq (clsAt s j) 4).symm.trans h28
          refine seg 12 10 [(54, vB (((clsAt s j : Nat) : Int) == 5))] f0 ?_
          cases h29 : (((clsAt s j : Nat) : Int) == 5) with
          | false =>
           have rh29 := ef h29
           have hj5 : (clsAt s j == 5) = false := (natq (clsAt s j) 5).symm.trans h29
           have hws : wrdAt s j = false := by unfold wrdAt; rw [hj3, hj4, hj5]; rfl
           obtain ⟨hon, hij⟩ := let_one hc hlet hr hws
           refine seg 15 0 [] f0 (drx [6, 9, 11] (fun γ => [none, none, none]) _ (fun γ l => [ek, bk b7 #[(bif l.getD 0 false then vI 1 else vI 0), (bif l.getD 1 false then vS ((s.take j).drop i) else vS []), vI (i : Int), (bif l.getD 2 false then vI 0 else vI 3)] 205]) (fun γ => []) hM (fun γ => rfl) (fun γ l w5 hM => (fc (ld0 9 hM (bx hbt 0 rfl) hnt) (fc (tsl3 9 s i j (by omega) (by omega) (y := (i : Int)) (z := (j : Int)) (by omega) (by omega)) f0))) ⟨ar_st 0 6 3 1 0 (fun γ => b7) (fun γ l => #[(bif l.getD 0 false then vI 1 else vI 0), (bif l.getD 1 false then vS ((s.take j).drop i) else vS []), vI (i : Int), (bif l.getD 2 false then vI 0 else vI 3)]) 205 (fun γ => vI 1), ar_st 1 9 9 1 1 (fun γ => b7) (fun γ l => #[(bif l.getD 0 false then vI 1 else vI 0), (bif l.getD 1 false then vS ((s.take j).drop i) else vS []), vI (i : Int), (bif l.getD 2 false then vI 0 else vI 3)]) 205 (fun γ => vS ((s.take j).drop i)), ar_st 2 11 32 1 3 (fun γ => b7) (fun γ l => #[(bif l.getD 0 false then vI 1 else vI 0), (bif l.getD 1 false then vS ((s.take j).drop i) else vS []), vI (i : Int), (bif l.getD 2 false then vI 0 else vI 3)]) 205 (fun γ => vI 0), trivial⟩ fun γ30 w1 hM => ?_)
           replace hM : Mm e0.B w w1 [ek, bk b7 #[vI 1, vS ((s.take j).drop i), vI (i : Int), vI 0] 205] := hM
           refine seg 16 4 [(72, vB (decide (24 < ((j : Int) - (i : Int)))))] (fc (tsub (j : Int) (i : Int) Tryz.underlying3) f0) ?_
           cases h31 : (decide (24 < ((j : Int) - (i : Int)))) with
           | false =>
            have rh31 := df h31
            rw [if_neg rh31] at hon
            obtain ⟨hx, hLn⟩ := hL.tok hc hon (by decide) (by omega)
            refine yld 33 2 142 [(140, .func (.yield l) #[] #[]), (141, .agg #[vI 1, vS ((s.take j).drop i), vI (i : Int), vI 0])] #[205] (by decide) (fc (lam 205 1 0 4 hM rfl) f0) hM (j := 0) rfl (hround _ _ _ _ hJ (hM.get 0 rfl) hM.fr (vs_of hx)) (fun ec w1 hJ hM => ?_) (fun w1 hS => ?_)
            · skip
              refine seg 1 0 [] (fc (ldm 32 1 3 hM rfl rfl) f0) ?_
              have hL9 : LexAt s (k + 1) j := (by rwa [show i + 1 + (j - (i + 1)) = j by omega] at hLn)
              have hl9 := hL9.1
              exact fewer _ (ih4 _ (by omega) (k + 1) j ec _ hL9 hJ (hM.pick [0]) rfl)
            · skip
              exact rt0 rfl f0 (hΦ _ _ ⟨⟨_, rfl⟩, .inr hS⟩)
           | true =>
            have rh31 := dt h31
            refine stm 17 1 [(73, vP b7 3)] 32 1 3 (vI 2) f0 hM rfl fun w1 hM => ?_
            rw [if_pos rh31] at hon
            obtain ⟨hx, hend⟩ := hL.err hc hon (by decide)
            refine yld 33 2 142 [(140, .func (.yield l) #[] #[]), (141, .agg #[vI 1, vS ((s.take j).drop i), vI (i : Int), vI 2])] #[205] (by decide) (fc (lam 205 1 0 4 hM rfl) f0) hM (j := 0) rfl (hround _ _ _ _ hJ (hM.get 0 rfl) hM.fr (vs_of hx)) (fun ec w1 hJ hM => ?_) (fun w1 hS => ?_)
            · skip
              exact rt0 rfl (fc (ldm 32 1 3 hM rfl rfl) f0) (hΦ _ _ ⟨⟨_, rfl⟩, .inl ⟨_, by unfold lexV; rw [List.length_map, ← hend]; exact hJ, hM.get 0 rfl, hM.fr⟩⟩)
            · skip
              exact rt0 rfl f0 (hΦ _ _ ⟨⟨_, rfl⟩, .inr hS⟩)
          | true =>
           have rh29 := et h29
           have hj5 : (clsAt s j == 5) = true := (natq (clsAt s j) 5).symm.trans h29
           refine calm 13 2 57 [(4, vI ((j : Int) + 1)), (55, .func (.func 152) #[] #[vP bt 0, vP bc 0]), (56, vI ((j : Int) + 1))] (fc (tadd (j : Int) 1 Tryz.underlying3) (fc (ld0 228 hM (bx hbf 0 rfl) hnf) f0)) hM (at_calls (hM.fr.obj hbt hnt) (hM.fr.obj hbc hnc) hT (j + 1)) fun w1 hM => seg 12 0 [(7, .int .u8 ((clsAt s (j + 1) : Nat) : Int))] f0 ?_
           have hwj : wrdAt s j = true := by unfold wrdAt; first | (rw [hj3, hj4, hj5]; done) | (rw [hj3, hj4, hj5]; rfl)
           have hltj : j < s.length := Nat.lt_of_not_le fun h9 => by rw [wrdAt_no h9] at hwj; cases hwj
           obtain ⟨e, he⟩ := geb (l := s) (i := j) hltj
           have hen : isWrd e = true := by rw [← wrdAt_is he]; exact hwj
           exact fewer _ (ih25 _ (by omega) (j + 1) _ (hr.step he hen) hM rfl)
         | true =>
          have rh28 := et h28
          have hj4 : (clsAt s j == 4) = true := (natq (clsAt s j) 4).symm.trans h28
          refine calm 13 2 57 [(4, vI ((j : Int) + 1)), (55, .func (.func 152) #[] #[vP bt 0, vP bc 0]), (56, vI ((j : Int) + 1))] (fc (tadd (j : Int) 1 Tryz.underlying3) (fc (ld0 228 hM (bx hbf 0 rfl) hnf) f0)) hM (at_calls (hM.fr.obj hbt hnt) (hM.fr.obj hbc hnc) hT (j + 1)) fun w1 hM => seg 12 0 [(7, .int .u8 ((clsAt s (j + 1) : Nat) : Int))] f0 ?_
          have hwj : wrdAt s j = true := by unfold wrdAt; first | (rw [hj3, hj4]; done) | (rw [hj3, hj4]; rfl)
          have hltj : j < s.length := Nat.lt_of_not_le fun h9 => by rw [wrdAt_no h9] at hwj; cases hwj
          obtain ⟨e, he⟩ := geb (l := s) (i := j) hltj
          have hen : isWrd e = true := by rw [← wrdAt_is he]; exact hwj
          exact fewer _ (ih25 _ (by omega) (j + 1) _ (hr.step he hen) hM rfl)
        | true =>
         have rh27 := et h27
         have hj3 : (clsAt s j == 3) = true := (natq (clsAt s j) 3).symm.trans h27
         refine calm 13 2 57 [(4, vI ((j : Int) + 1)), (55, .func (.func 152) #[] #[vP bt 0, vP bc 0]), (56, vI ((j : Int) + 1))] (fc (tadd (j : Int) 1 Tryz.underlying3) (fc (ld0 228 hM (bx hbf 0 rfl) hnf) f0)) hM (at_calls (hM.fr.obj hbt hnt) (hM.fr.obj hbc hnc) hT (j + 1)) fun w1 hM => seg 12 0 [(7, .int .u8 ((clsAt s (j + 1) : Nat) : Int))] f0 ?_
         have hwj : wrdAt s j = true := by unfold wrdAt; first | (rw [hj3]; done) | (rw [hj3]; rfl)
         have hltj : j < s.length := Nat.lt_of_not_le fun h9 => by rw [wrdAt_no h9] at hwj; cases hwj
         obtain ⟨e, he⟩ := geb (l := s) (i := j) hltj
         have hen : isWrd e = true := by rw [← wrdAt_is he]; exact hwj
         exact fewer _ (ih25 _ (by omega) (j + 1) _ (hr.step he hen) hM rfl)
       exact fewer _ (lp24 _ i _ (RunTo.start hL.1) hM rfl)
     | true =>
      have rh9 := et h9
      have hhash : (c == 35) = true := by rw [← (cl8_qs c).2.1, ← clsAt_is hc]; exact (natq (clsAt s i) 2).symm.trans h9
      refine seg 8 0 [] f0 ?_
      have lp32 : ∀ (m34 : Nat) (j : Nat) (w2 : World), RunTo (· != 10) s i j → Mm e0.B w w2 [ek, bk b7 #[vI 0, vS [], vI (i : Int), vI 3] 205] → m34 = s.length - j → A153 Φ (some (8, 0)) [(4, vI (j : Int)), (0, .func (.yield l) #[] #[]), (1, vP bt 0), (2, vP bf 0)] w2 := by
       refine srec fun m34 ih33 j w2 hr hM hm34 => ?_
       have hjl := hr.hi
       refine seg 8 5 [(32, vB (decide ((j : Int) < (s.length : Int))))] (fc (ld0 9 hM (bx hbt 0 rfl) hnt) (fc (tlen 9 s) f0)) ?_
       cases h35 : (decide ((j : Int) < (s.length : Int))) with
       | false =>
        have rh35 := df h35
        have hjn : s[j]? = none := List.getElem?_eq_none (by omega)
        refine seg 1 0 [] f0 ?_
        obtain ⟨hon, hij⟩ := hash_one hc hblk hhash hr (fun c hc9 => by rw [hjn] at hc9; cases hc9)
        have hjl := hr.hi
        have hL9 : LexAt s k j := (by have := hL.gap hc hon (by have := hr.hi; omega); rwa [show i + 1 + (j - (i + 1)) = j by omega] at this)
        have hl9 := hL9.1
        exact fewer _ (ih4 _ (by omega) k j ek _ hL9 hJ (hM.pick [0]) rfl)
       | true =>
        have rh35 := dt h35
        obtain ⟨e, he⟩ := geb (l := s) (i := j) (by omega)
        refine seg 8 10 [(37, vB (!((e.toNat : Int) == 10)))] (fc (ld0 9 hM (bx hbt 0 rfl) hnt) (fc (byt 9 he) f0)) ?_
        cases h36 : ((e.toNat : Int) == 10) with
        | false =>
         have rh36 := ef h36
         have hen : (e != 10) = true := by rw [u10]; show (!((e.toNat : Int) == 10)) = _; rw [h36]; rfl
         refine seg 8 0 [(4, vI ((j : Int) + 1))] (fc (tadd (j : Int) 1 Tryz.underlying3) f0) (fewer _ (ih33 _ (by omega) (j + 1) _ (hr.step he hen) hM rfl))
        | true =>
         have rh36 := et h36
         have hen : (e != 10) = false := by rw [u10]; show (!((e.toNat : Int) == 10)) = _; rw [h36]; rfl
         refine seg 1 0 [] f0 ?_
         obtain ⟨hon, hij⟩ := hash_one hc hblk hhash hr (fun c hc9 => by rw [he] at hc9; cases hc9; exact hen)
         have hjl := hr.hi
         have hL9 : LexAt s k j := (by have := hL.gap hc hon (by have := hr.hi; omega); rwa [show i + 1 + (j - (i + 1)) = j by omega] at this)
         have hl9 := hL9.1
         exact fewer _ (ih4 _ (by omega) k j ek _ hL9 hJ (hM.pick [0]) rfl)
      exact fewer _ (lp32 _ i _ (RunTo.start hL.1) hM rfl)
    | true =>
     have rh8 := et h8
     have hblk : isBlk c = true := by rw [← (cl8_qs c).1, ← clsAt_is hc]; exact (natq (clsAt s i) 1).symm.trans h8
     refine seg 1 0 [(4, vI ((i : Int) + 1))] (fc (tadd (i : Int) 1 Tryz.underlying3) f0) ?_
     have hL9 : LexAt s k (i + 1) := (by have := hL.gap hc (one_blk hblk) (m := 0) (by omega); simpa using this)
     have hl9 := hL9.1
     exact fewer _ (ih4 _ (by omega) k (i + 1) ek _ hL9 hJ (hM.pick [0]) rfl)
  exact fewer _ (lp3 _ 0 0 e0 _ (LexAt.zero s) hJ0 hM rfl)
end Go.Proofs.YtbflfefahheidaaGreatDoor
