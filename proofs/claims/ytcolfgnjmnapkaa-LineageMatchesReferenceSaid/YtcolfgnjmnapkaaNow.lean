/- The lineage: Now. -/
import Derived.Test.YtcolfgnjmnapkaaMen
import Derived.Test.YtcolfgnjmnapkaaIter
namespace Go.Pl
open Go.RowKit Go.Proofs

theorem rd_of_str {P : Program} {K : TypeId} (hk : P.underlying K = some .string) {x : MapEntry} {l : Lit} (h : keyOf P K x.key = some l) :
    ∃ s : List UInt8, x.key = encStr s ∧ WideElems.rg P K (fun _ => some ((.lit (.bool true) : DataW Unit), [])) x = (.string s, .lit (.bool true)) := by
  obtain ⟨s, h1, rfl, _⟩ := Maps.keyOf_str hk h
  refine ⟨s, h1, ?_⟩
  refine WideElems.rg_of ?_
  simp [WideElems.rd, h]

theorem MapN.owns {P : Program} {K : TypeId} (hk : P.underlying K = some .string) {w : World} {b n : Nat} {m} (h : MapN P K w b n m) (hn : n ≤ maxLen) :
    ∃ D : DataW Unit, w.ownsMap P K (fun _ => some ((.lit (.bool true)), [])) b n D ∧ Maps.size D ≤ n ∧ (strKeys D).Nodup ∧ ∀ x : List UInt8, x ∈ strKeys D ↔ (m (encStr x)).isSome = true := by
  obtain ⟨es, c, hb, F, hs⟩ := h
  have hown : w.ownsMap P K (fun _ => some ((.lit (.bool true) : DataW Unit), [])) b n (.map ((es.toList.map (WideElems.rg P K fun _ => some ((.lit (.bool true) : DataW Unit), []))).foldr DataW.insert [])) := by
    refine ⟨es, c, hb, ⟨Nat.le_trans hs hn, (MapKept.stamped_iff es c).2 ⟨F.born, ?_, F.apart⟩, fun x hx => ?_⟩, hs, rfl⟩
    · rw [List.Nodup, List.pairwise_map]; exact F.stamps
    · obtain ⟨l, hl⟩ := F.keys x hx
      exact ⟨(l, .lit (.bool true)), by simp [WideElems.rd, hl]⟩
  refine ⟨_, hown, hown.size_le, ?_, fun x => ?_⟩
  · obtain ⟨es', he, hp, hkk⟩ := hown.entries (Maps.string_keyed hk)
    rw [he]
    obtain ⟨es2, he2, hk2⟩ := hown.keysOf
    rw [he] at he2
    cases he2
    show (es'.map fun p => strOf p.1).Nodup
    refine List.pairwise_map.2 (hp.imp_of_mem fun {p q} hp' hq' hne e => hne ?_)
    obtain ⟨u, hu⟩ := hk2 p hp'
    obtain ⟨v, hv⟩ := hk2 q hq'
    obtain ⟨_, _, h3, _⟩ := Maps.keyOf_str hk hu
    obtain ⟨_, _, h4, _⟩ := Maps.keyOf_str hk hv
    rw [h3, h4] at e ⊢
    exact congrArg _ e
  · show x ∈ List.map _ _ ↔ _
    rw [List.mem_map]
    constructor
    · rintro ⟨p, hp, rfl⟩
      obtain ⟨y, hy, rfl⟩ := List.mem_map.1 (mem_sorted.1 hp)
      obtain ⟨l, hl⟩ := F.keys y hy
      obtain ⟨s, h1, h2⟩ := rd_of_str hk hl
      rw [h2]
      show (m (encStr s)).isSome = true
      rw [← h1, (F.at_ y.key y.val).2 ⟨y, hy, rfl, rfl⟩]; rfl
    · intro hx
      obtain ⟨v, hv⟩ := Option.isSome_iff_exists.1 hx
      obtain ⟨y, hy, h1, _⟩ := (F.at_ _ v).1 hv
      obtain ⟨l, hl⟩ := F.keys y hy
      obtain ⟨s, h2, h3⟩ := rd_of_str hk hl
      refine ⟨_, mem_sorted.2 (List.mem_map.2 ⟨y, hy, rfl⟩), ?_⟩
      rw [h3]
      rw [h1] at h2
      exact (encStr_inj h2).symm

/-- A list of strings in strictly increasing order. -/
def Sorted (xs : List ByteArray) : Prop := xs.Pairwise fun x y => x.data.toList < y.data.toList
def ofBytes (l : List UInt8) : ByteArray := ⟨l.toArray⟩
theorem ofBytes_toList (l : List UInt8) : (ofBytes l).data.toList = l := rfl
theorem toList_ofBytes (s : ByteArray) : ofBytes s.data.toList = s := rfl
theorem encStr_of (l : List UInt8) : encStr l = .string (ofBytes l) := rfl
theorem lt_of_le_ne {a b : List UInt8} (h : a ≤ b) (hne : a ≠ b) : a < b := by
  by_cases h1 : a < b
  · exact h1
  · exact absurd (List.le_antisymm h h1) hne
theorem sorted_of_perm {ss : List (List UInt8)} (hn : ss.Nodup) : Sorted ((ss.mergeSort leB).map ofBytes) := by
  have tr : ∀ a b c : List UInt8, leB a b = true → leB b c = true → leB a c = true := fun a b c h1 h2 => by simp only [leB, decide_eq_true_eq] at *; exact List.le_trans h1 h2
  have to : ∀ a b : List UInt8, (leB a b || leB b a) = true := fun a b => by simp only [leB, Bool.or_eq_true, decide_eq_true_eq]; exact List.le_total a b
  have h1 := List.pairwise_mergeSort tr to ss
  have h2 : (ss.mergeSort leB).Nodup := (List.mergeSort_perm ss leB).nodup_iff.2 hn
  unfold Sorted
  rw [List.pairwise_map]
  refine (h1.and h2).imp fun {a b} h => ?_
  exact lt_of_le_ne (of_decide_eq_true h.1) h.2
end Go.Pl
namespace Go.Proofs.Ytcolfgnjmnapkaa
open Go.RowKit Go.Pl Go.WideMaps

/-- A new slice that holds, in increasing order, just what p says. -/
def ListPost (q : ByteArray → Prop) (w : World) (e : Ending) (w' : World) : Prop :=
  ∃ v xs, e = .returned v ∧ Sorted xs ∧ (∀ x, x ∈ xs ↔ q x) ∧ w'.ownsRow w.heap.size 9 1 v xs.length (xs.map .string) ∧ Fr (fun _ => False) w w'

theorem now_nil (a : ByteArray) (w : World) : Calls Try.prog 17 #[.pointer none, .string a] w fun e w' => e = .returned (.slice none 0 0) ∧ w = w' := by
  go_enter Try.func17, Try.ntmps17
  go_wp2
  go_ret
  exact ⟨rfl, rfl⟩

theorem now_calls {w : World} {p N : Nat} {ρ S} (h : LinAt w p N ρ S) (hN : N ≤ 1000000) {a : ByteArray} (ha : a.size ≤ maxLen) :
    Calls Try.prog 17 #[.pointer (some ⟨p, 0, none⟩), .string a] w (ListPost (fun x => S.pt a x = true) w) := by
  obtain ⟨mp, f, h⟩ := h
  have hof := Lib.hid (of_calls h ha)
  clear h
  go_enter Try.func17, Try.ntmps17
  go_wp2_with fail
  refine hof.out.mono ?_
  rintro e w1 ⟨b, rfl, x1, x2, _⟩
  obtain ⟨D, hD, hDs, hDn, hDm⟩ := x1.owns Try.underlying9 (by unfold maxLen; omega)
  have hS := Lib.hid (callsIn_wide.1 (Try.slices_Sorted_keys_36_37 b N D _ w1 hD (by unfold maxLen; omega) (by omega)))
  have hw1 := x2.size
  have hfin : Hid (∀ (v : Value) (ss : List (List UInt8)) (w' : World), ss.Perm (strKeys D) → w'.ownsRow (w1.alloc (.cells #[.map (some b)] 60)).heap.size 9 1 v ss.length ((ss.mergeSort (fun x y => decide (x ≤ y))).map encStr) →
      Below (w1.alloc (.cells #[.map (some b)] 60)).heap.size (w1.alloc (.cells #[.map (some b)] 60)) w' → ListPost (fun x => S.pt a x = true) w (.returned v) w') := by
    intro v ss w' h1 h2 h3
    have hn : ss.Nodup := h1.nodup_iff.2 hDn
    refine ⟨v, (ss.mergeSort leB).map ofBytes, rfl, sorted_of_perm hn, fun x => ?_, ?_, (x2.alloc _).trans (Fr.of_below h3)⟩
    · rw [List.mem_map]
      constructor
      · rintro ⟨l, hl, rfl⟩
        have := (hDm l).1 (h1.mem_iff.1 (List.mem_mergeSort.1 hl))
        rw [encStr_of, setM_str] at this
        by_cases hc : S.pt a (ofBytes l) = true
        · exact hc
        · rw [if_neg hc] at this; cases this
      · intro hx
        refine ⟨x.data.toList, List.mem_mergeSort.2 (h1.mem_iff.2 ((hDm _).2 ?_)), rfl⟩
        rw [encStr_of, toList_ofBytes, setM_str, if_pos hx]; rfl
    · rw [List.length_map, List.length_mergeSort, List.map_map]
      refine ownsRow_base_a h2 ?_
      simp; omega
  clear x1 x2 hof hD hDs hDn hDm hw1
  go_wp2_with (first
    | (go_at_call 37; refine (callsIn_wide.1 (Try.maps_Keys_37 _ _)).mono ?_; rintro e w' ⟨rfl, rfl⟩)
    | (go_at_call 36; refine hS.out.mono ?_; rintro e w' ⟨v, ss, rfl, y1, y2, _, y3⟩; have y4 := Lib.hid (hfin.out v ss w' y1 y2 y3); clear y1 y2 y3))
  go_ret
  exact y4.out
end Go.Proofs.Ytcolfgnjmnapkaa
