/- How a row of the chapter is closed; edits are opened; Few, In, Same, split, join, drop. -/
import Derived.Test.YtcolfgnjmnapkaaPlain
import Derived.ProofKit
import Derived.Deep.Slices
namespace Go.Pl
open Go.RowKit Go.ChangeShapes Go.WideShapes

theorem trodAll_below {H : Type} {enc : TypeId × Value → H} {P : Program} (hl : laidOutB P = true) {W W' : World} (hb : Below W.heap.size W W') :
    ∀ (ts : List TypeId) (vs : List Value) (ds : List (DataW H)) (ps : List MemPlace), (∀ t ∈ ts, P.readableRec t = true ∧ t < P.types.size) → DataW.TrodAll enc P W 0 (fun _ => true) true ts vs ds ps → (∀ x ∈ ps, x.block < W.heap.size) →
      DataW.TrodAll enc P W' 0 (fun b => decide (b < W.heap.size)) true ts vs ds ps
  | [], [], [], ps, _, h, _ => h
  | t :: ts, v :: vs, d :: ds, ps, hr, h, hlt => by
    obtain ⟨p, q, h1, h2, rfl⟩ := h
    exact ⟨p, q, Below.trod hl (hr t (by simp)).1 (hr t (by simp)).2 h1 hb (fun x hx => hlt x (by simp [hx])),
      trodAll_below hl hb ts vs ds q (fun t ht => hr t (by simp [ht])) h2 (fun x hx => hlt x (by simp [hx])), rfl⟩
  | [], [], _ :: _, _, _, h, _ => h.elim
  | [], _ :: _, _, _, _, h, _ => by cases h
  | _ :: _, [], _, _, _, h, _ => by cases h
  | _ :: _, _ :: _, [], _, _, h, _ => h.elim

theorem law_post {H : Type} {enc : TypeId × Value → H} {P : Program} (hl : laidOutB P = true) {fn : Func} {s : ChangeSpec} {apart fresh handsOn : Bool} {W W' : World} {args : Array Value} {ds gs : List (DataW H)} {before : List MemPlace}
    (hread : ∀ t ∈ fn.params.toList, P.readableRec t = true ∧ t < P.types.size) {tb : TypeId} (hres : fn.resultTypes = #[tb]) (htb : P.underlying tb = some .bool) (hvars : s.vars = [])
    (hs : s.fn H (ds ++ gs) = { results := [.lit (.bool true)], args := ds }) (hW : DataW.Whole enc P fn.params.toList s.vars apart W args.toList ds gs before) (hb : Below W.heap.size W W') :
    s.post enc P fn apart fresh handsOn false W args (.bool true) W' := by
  have hlt := hW.lt
  have hW0 := hW
  obtain ⟨p, q, hA, hV, hpq, _, _⟩ := hW
  refine ⟨ds, gs, before, [], p, [], hW0, ?_, ?_, ?_, hb.frame _, fun h => by cases h⟩
  · rw [hs, hres]
    exact trodAll_mk1 (shut_bool htb _)
  · rw [hs]
    exact trodAll_below hl hb _ _ _ _ hread hA (fun x hx => hlt x (by rw [hpq]; simp [hx]))
  · rw [hs, hvars]
    rfl
end Go.Pl
namespace Go.Pl
open Go.RowKit
theorem index_run {P : Program} {T e size : Nat} (hT : P.underlying T = some (.slice e)) (hz : ∀ w, (Go.sizeOf e).run P w = .ok size w) {sa : Option Addr} {n cap b off k : Nat} (hs : sa = some ⟨b, off, none⟩) (hk : k < n) (w : World) :
    (Instr.indexAt T (.slice sa n cap) (.int .i64 k)).run P w = .ok (.pointer (some ⟨b, off + k * size, none⟩)) w := by
  subst hs
  have : (0 : Int) ≤ k ∧ (k : Int) < n := by omega
  simp [Instr.indexAt, run_underlying hT, asIntOf, this, hz, Result.andThen]
  unfold Addr.add
  split <;> simp_all
end Go.Pl
namespace Go.Proofs.Ytcolfgnjmnapkaa
open Go.RowKit Go.Pl Go.ChangeShapes Go.WideShapes

theorem Try.own : ownKnob Try.prog.godebug = none := by kernel_rfl
theorem cells38 : Try.prog.cellsOf 38 = 15 := by kernel_rfl
theorem cells36 : Try.prog.cellsOf 36 = 6 := by kernel_rfl
theorem size38 (w : World) : (Go.sizeOf 38).run Try.prog w = .ok 15 w := by kernel_rfl
theorem size9 (w : World) : (Go.sizeOf 9).run Try.prog w = .ok 1 w := by kernel_rfl

/-- A struct's fields of one cell each, one by one. -/
theorem field_one {H : Type} {enc : TypeId × Value → H} {P : Program} {w : World} {base : Nat} {sp : Nat → Bool} {held : Bool} {n : Nat} {t : TypeId} {cs : List Value} {o : Nat} {x : Option (DataW H × List MemPlace)} (hc : P.cellsOf t = 1)
    (h : DataW.trod enc P w base sp held n t ((cs.drop o).take (P.cellsOf t)) = x) (ho : o < cs.length) : DataW.trod enc P w base sp held n t [cs[o]] = x := by
  rw [hc, List.take_one, List.head?_drop, List.getElem?_eq_getElem ho] at h
  exact h

structure Edt.Sz (e : Edt) : Prop where
  id : e.id.size ≤ maxLen
  other : e.other.size ≤ maxLen
  oid : e.oid.size ≤ maxLen

theorem open_edt {H : Type} {enc : TypeId × Value → H} {W : World} {base : Nat} {sp : Nat → Bool} {held : Bool} {n : Nat} {cs : List Value} {x : DataW H × List MemPlace} (h : DataW.trod enc Try.prog W base sp held n 38 cs = some x) :
    ∃ e : Edt, cs = e.cells.toList ∧ e.Sz := by
  obtain ⟨xs, m, _, _, hl, hlen, hf⟩ := DataW.trod_struct Try.underlying38 h
  rw [cells38] at hl
  match cs, hl with
  | [c0, c1, c2, c3, c4, c5, c6, c7, c8, c9, c10, c11, c12, c13, c14], _ =>
  have hx : ∀ i : Nat, i < 9 → ∃ y, xs[i]? = some y := fun i hi => ⟨_, List.getElem?_eq_getElem (by rw [hlen]; exact hi)⟩
  obtain ⟨y0, e0⟩ := hx 0 (by omega)
  obtain ⟨y1, e1⟩ := hx 1 (by omega)
  obtain ⟨y2, e2⟩ := hx 2 (by omega)
  obtain ⟨y8, e8⟩ := hx 8 (by omega)
  have k3 : Try.prog.cellsOf 3 = 1 := by kernel_rfl
  have k9 : Try.prog.cellsOf 9 = 1 := by kernel_rfl
  obtain ⟨n0, g0, _, _⟩ := DataW.trod_int Try.underlying3 (field_one k3 ((hf 0 _ rfl).trans e0) (by simp))
  obtain ⟨s1, g1, _, h1⟩ := DataW.trod_string Try.underlying9 (field_one k9 ((hf 1 _ rfl).trans e1) (by simp))
  obtain ⟨s2, g2, _, h2⟩ := DataW.trod_string Try.underlying9 (field_one k9 ((hf 2 _ rfl).trans e2) (by simp))
  have h8 : DataW.trod enc Try.prog W base sp held m 36 (([c0, c1, c2, c3, c4, c5, c6, c7, c8, c9, c10, c11, c12, c13, c14].drop 9).take (Try.prog.cellsOf 36)) = some y8 := (hf 8 _ rfl).trans e8
  rw [cells36] at h8
  have h8' : DataW.trod enc Try.prog W base sp held m 36 [c9, c10, c11, c12, c13, c14] = some y8 := h8
  obtain ⟨zs, m2, _, _, _, hlen2, hf2⟩ := DataW.trod_struct Try.underlying36 h8'
  obtain ⟨z0, z0e⟩ : ∃ y, zs[0]? = some y := ⟨_, List.getElem?_eq_getElem (by rw [hlen2]; decide)⟩
  obtain ⟨s9, g9, _, h9⟩ := DataW.trod_string Try.underlying9 (field_one k9 ((hf2 0 _ rfl).trans z0e) (by simp))
  simp at g0 g1 g2 g9
  exact ⟨⟨n0, s1, s2, s9, c3, c4, c5, c6, c7, c8, c10, c11, c12, c13, c14⟩, by simp [g0, g1, g2, g9], h1, h2, h9⟩

/-- An edit by value, opened. -/
theorem open_edt_arg {H : Type} {enc : TypeId × Value → H} {W : World} {v : Value} {d : DataW H} {ps : List MemPlace} {base : Nat} (hok : Value.okWide Try.prog W .any base 38 v) (h : DataW.Trod enc Try.prog W 0 (fun _ => true) true 38 v d ps) :
    ∃ e : Edt, v = .agg e.cells ∧ e.Sz := by
  obtain ⟨cs, rfl, _⟩ := okWide_struct Try.underlying38 hok
  obtain ⟨fuel, hf⟩ := h
  obtain ⟨q, hq, ht⟩ := open_edt hf
  exact ⟨q, by rw [← Array.toList_inj.1 hq]; rfl, ht⟩

def EdtsAt (w : World) (b off : Nat) (es : List Edt) : Prop := ∀ i e, es[i]? = some e → ∀ j v, e.cells[j]? = some v → w.cell? ⟨b, off + i * 15 + j, none⟩ = some v
theorem EdtsAt.fr {w w' : World} {b off : Nat} {es : List Edt} (h : EdtsAt w b off es) {F : Nat → Prop} (hf : Fr F w w') (hb : ¬ F b) : EdtsAt w' b off es :=
  fun i o hi j v hv => hf.cell (h i o hi j v hv) hb

/-- The value v reads as the edits es. -/
structure EdtsV (w : World) (v : Value) (sa : Option Addr) (b off cap : Nat) (es : List Edt) : Prop where
  val : v = .slice sa es.length cap
  ix : ∀ k : Nat, k < es.length → sa = some ⟨b, off, none⟩
  at_ : EdtsAt w b off es
  le : es.length ≤ 9223372036854775807
  sz : ∀ e ∈ es, e.Sz

theorem open_edts {H : Type} {enc : TypeId × Value → H} {W : World} {v : Value} {d : DataW H} {ps : List MemPlace} {base : Nat} (hok : Value.okWide Try.prog W .any base 22 v) (h : DataW.Trod enc Try.prog W 0 (fun _ => true) true 22 v d ps) :
    ∃ sa b off cap es, EdtsV W v sa b off cap es := by
  obtain ⟨a0, len0, cap0, rfl⟩ := okWide_slice Try.underlying22 hok
  obtain ⟨fuel, hf⟩ := h
  rcases Deep.open_slice Try.underlying22 hf with ⟨hcs, _⟩ | ⟨a, len, cap, m, n, D, Pl, hcs, _, hl, hm, hmm, _, hx⟩
  · simp [Value.cells] at hcs
    obtain ⟨rfl, rfl, rfl⟩ := hcs
    exact ⟨none, 0, 0, 0, [], rfl, by simp, fun i o h => by simp at h, by simp, by simp⟩
  · simp [Value.cells] at hcs
    obtain ⟨rfl, rfl, rfl⟩ := hcs
    rw [cells38] at hx
    have hlm : len0 ≤ m := by rw [hmm]; split <;> omega
    have hall : ∀ i, i < len0 → ∃ o : Edt, (∀ j, j < 15 → W.cell? ((a.add (i * 15)).add j) = o.cells.toList[j]?) ∧ o.Sz := fun i hi => by
      obtain ⟨cs', h1, h2⟩ := hx i (by omega)
      obtain ⟨_, _, h3⟩ := World.cells?_some h1
      obtain ⟨o, rfl, ho⟩ := open_edt h2
      exact ⟨o, h3, ho⟩
    have : Inhabited Edt := ⟨dro ByteArray.empty⟩
    obtain ⟨f, hfn⟩ := Deep.choose_lt hall
    have hspot : 0 < len0 → a = ⟨a.block, a.off, none⟩ := fun h0 => by
      have := (hfn 0 h0).1 0 (by omega)
      rw [Nat.zero_mul] at this
      have e0 : (a.add 0).add 0 = a := by simp [Addr.add]
      rw [e0] at this
      cases a with
      | mk b o s =>
        cases s with
        | none => rfl
        | some k =>
          unfold World.cell? at this
          split at this <;> simp at this
    refine ⟨some a, a.block, a.off, cap0, (List.range len0).map f, by simp, fun k hk => by simp at hk; rw [← hspot (by omega)], ?_, by simp; unfold maxLen at hm; omega, ?_⟩
    · intro i o ho j v hv
      rw [List.getElem?_map] at ho
      have hi : i < len0 := by
        cases h : (List.range len0)[i]? with
        | none => rw [h] at ho; cases ho
        | some x => have := (List.getElem?_eq_some_iff.1 h).1; simpa using this
      rw [List.getElem?_range hi] at ho
      simp at ho
      subst ho
      have hj : j < 15 := by
        have := (Array.getElem?_eq_some_iff.1 hv).1
        simpa using this
      have := (hfn i hi).1 j hj
      rw [hspot (by omega)] at this
      rw [Array.getElem?_toList, hv] at this
      rw [← this]
      congr 1
      unfold Addr.add
      by_cases h1 : i * 15 = 0 <;> by_cases h2 : j = 0 <;> simp [h1, h2, Nat.add_assoc]
    · intro o ho
      simp only [List.mem_map, List.mem_range] at ho
      obtain ⟨i, hi, rfl⟩ := ho
      exact (hfn i hi).2

def fewE (es : List Edt) (m : Nat) : Bool := es.all (fun e => decide (e.id.size ≤ 100) && decide (e.other.size ≤ 100) && decide (e.oid.size ≤ 100)) && decide (es.length ≤ m)
set_option maxHeartbeats 1000000 in
theorem few_calls (sa : Option Addr) (b off cap : Nat) (es : List Edt) (m : Nat) (hm : m ≤ 1000) (w : World) (hix : ∀ k : Nat, k < es.length → sa = some ⟨b, off, none⟩) (h : EdtsAt w b off es) (hl : es.length ≤ 9223372036854775807) (ht : ∀ e ∈ es, e.Sz) :
    Calls Try.prog 11 #[.slice sa es.length cap, .int .i64 m] w fun e w' => e = .returned (.bool (fewE es m)) ∧ w = w' := by
  obtain ⟨n, hn⟩ : ∃ n, n = es.length := ⟨_, rfl⟩
  have hN := Lib.hid hn
  rw [← hn] at hl hix ⊢
  have H := Lib.hid h
  have HT := Lib.hid ht
  have HX := Lib.hid hix
  clear hn h ht hix
  go_enter Try.func11, Try.ntmps11
  go_wp2
  go_loop [5] (fun i => ∃ k : Nat, k ≤ n ∧ i = .int .i64 k ∧ Hid (∀ e ∈ es.take k, e.id.size ≤ 100 ∧ e.other.size ≤ 100 ∧ e.oid.size ≤ 100)) (fun i => n - (intOf i).toNat)
  case atStart => exact ⟨0, Nat.zero_le _, rfl, by simp [Hid]⟩
  case round =>
    obtain ⟨k, hk, rfl, hall⟩ := hrel
    by_cases hnm : n ≤ m
    · by_cases hlt : k < n
      · obtain ⟨e, ho⟩ : ∃ o, es[k]? = some o := ⟨_, List.getElem?_eq_getElem (by rw [← hN.out]; exact hlt)⟩
        have c1 : w.cell? ⟨b, off + k * 15 + 1, none⟩ = _ := H.out k e ho 1 _ rfl
        have c2 : w.cell? ⟨b, off + k * 15 + 2, none⟩ = _ := H.out k e ho 2 _ rfl
        have c9 : w.cell? ⟨b, off + k * 15 + 9, none⟩ = _ := H.out k e ho 9 _ rfl
        have hsa := fun w => index_run (P := Try.prog) Try.underlying22 size38 (cap := cap) (HX.out k hlt) hlt w
        obtain ⟨s1, s2, s3⟩ := HT.out e (List.mem_of_getElem? ho)
        unfold maxLen at s1 s2 s3
        have ho' := Lib.hid ho
        have hbadE : Hid (¬ (e.id.size ≤ 100 ∧ e.other.size ≤ 100 ∧ e.oid.size ≤ 100) → fewE es m = false) := fun hb => by
          have : es.all (fun e => decide (e.id.size ≤ 100) && decide (e.other.size ≤ 100) && decide (e.oid.size ≤ 100)) = false := by
            rw [List.all_eq_false]; exact ⟨e, List.mem_of_getElem? ho'.out, by simp; omega⟩
          simp [fewE, this]
        clear ho
        by_cases b1 : 100 < e.id.size
        · have hf := Lib.hid (hbadE.out (by omega))
          clear hbadE
          go_wp2
          go_ret
          exact ⟨by rw [hf.out]; rfl, rfl⟩
        by_cases b2 : 100 < e.other.size
        · have hf := Lib.hid (hbadE.out (by omega))
          clear hbadE
          go_wp2
          go_ret
          exact ⟨by rw [hf.out]; rfl, rfl⟩
        by_cases b3 : 100 < e.oid.size
        · have hf := Lib.hid (hbadE.out (by omega))
          clear hbadE
          go_wp2
          go_ret
          exact ⟨by rw [hf.out]; rfl, rfl⟩
        clear hbadE
        go_wp2
        go_round
        case rel =>
          refine ⟨k + 1, by omega, by go_num, ?_⟩
          intro x hx
          rw [List.take_add_one, ho'.out] at hx
          simp at hx
          rcases hx with hx | rfl
          · exact hall.out x hx
          · omega
        case measure => simp [intOf]; omega
      · have hkn : k = n := by omega
        have hfin : Hid (fewE es m = true) := by
          have hall' : es.all (fun e => decide (e.id.size ≤ 100) && decide (e.other.size ≤ 100) && decide (e.oid.size ≤ 100)) = true := by
            simp only [List.all_eq_true, Bool.and_eq_true, decide_eq_true_eq]
            intro o ho
            have := hall.out o (by rw [List.take_of_length_le (by rw [← hN.out]; omega)]; exact ho)
            omega
          simp only [Hid, fewE, hall', Bool.true_and, ← hN.out]
          simpa using hnm
        clear hkn
        go_wp2
        go_ret
        exact ⟨by rw [hfin.out]; rfl, rfl⟩
    · have hfin : Hid (fewE es m = false) := by
        have : decide (es.length ≤ m) = false := by rw [← hN.out]; simpa using hnm
        simp [Hid, fewE, this]
      by_cases hlt : k < n
      · go_wp2
        go_ret
        exact ⟨by rw [hfin.out]; rfl, rfl⟩
      · go_wp2
        go_ret
        exact ⟨by rw [hfin.out]; rfl, rfl⟩
end Go.Proofs.Ytcolfgnjmnapkaa
