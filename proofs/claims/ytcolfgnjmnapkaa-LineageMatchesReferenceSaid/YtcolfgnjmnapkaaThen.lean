/- The lineage: Then. -/
import Derived.Test.YtcolfgnjmnapkaaNow
import Derived.Maps.AppendAt
import Derived.Sort.OwnSorted
namespace Go.Pl
open Go.RowKit Go.Proofs

theorem info_some {x : Option TypeInfo} {a : Option Value} {b c : Nat} (h : x.map (fun i => (i.zero, i.size, i.bytes)) = some (a, b, c)) : ∃ i, x = some i ∧ i.zero = a ∧ i.size = b ∧ i.bytes = c := by
  cases x with
  | none => cases h
  | some i => simp at h; exact ⟨i, rfl, h.1, h.2.1, h.2.2⟩

theorem MapN.range {P : Program} {K t e : TypeId} (ht : P.underlying t = some (.map K e)) {w : World} {b n : Nat} {m} (h : MapN P K w b n m) :
    ∃ o cnt, (Instr.range t (.map (some b))).run P w = .ok (.pointer (some ⟨w.heap.size, 0, none⟩)) (w.alloc o) ∧ Rng P K (w.alloc o) b w.heap.size m (fun k => (m k).isSome = true) cnt ∧ cnt ≤ n := by
  have hlt := h.lt
  obtain ⟨es, clock, hb, h, hs⟩ := h
  refine ⟨_, _, run_range_map w t K e b es clock ht hb, ⟨es, clock, clock, #[], clock, (blk_alloc hlt _).trans hb, h, blk_alloc_new _ _, h.born, rfl, fun x hx => ?_, fun k hk => ?_, Nat.le_refl _, Nat.le_refl _⟩, ?_⟩
  · show (m x.key).isSome = true ↔ _
    rw [(h.at_ x.key x.val).2 ⟨x, hx, rfl, rfl⟩]; simp
  · obtain ⟨v, hv⟩ := Option.isSome_iff_exists.1 hk
    obtain ⟨x, hx, h1, _⟩ := (h.at_ k v).1 hv
    exact ⟨x, hx, h1⟩
  · unfold leftOf
    exact Nat.le_trans (Array.size_filter_le ..) hs

theorem Rng.ne_row {P : Program} {K : TypeId} {w : World} {b r : Nat} {m left cnt} (h : Rng P K w b r m left cnt) {B E c : Nat} {v : Value} {n : Nat} {xs : List Value} (hv : w.ownsRow B E c v n xs) : v.ownBlock ≠ some r := by
  obtain ⟨_, _, _, _, _, _, _, hit, _⟩ := h
  rcases hv.2 with ⟨h1, _⟩ | ⟨g, cap, cur, h1, _, hb, _⟩
  · rw [h1]; simp [Value.ownBlock]
  · rw [h1]
    simp only [Value.ownBlock, ne_eq, Option.some.injEq]
    rintro rfl
    rw [hb] at hit; cases hit
theorem Rng.ne_map {P : Program} {K : TypeId} {w : World} {b r : Nat} {m left cnt} (h : Rng P K w b r m left cnt) {B E c : Nat} {v : Value} {n : Nat} {xs : List Value} (hv : w.ownsRow B E c v n xs) : v.ownBlock ≠ some b := by
  obtain ⟨_, _, _, _, _, hit, _⟩ := h
  rcases hv.2 with ⟨h1, _⟩ | ⟨g, cap, cur, h1, _, hb, _⟩
  · rw [h1]; simp [Value.ownBlock]
  · rw [h1]
    simp only [Value.ownBlock, ne_eq, Option.some.injEq]
    rintro rfl
    rw [hb] at hit; cases hit
theorem ownsRow_of_blk {w w' : World} {base e size : Nat} {v : Value} {n : Nat} {xs : List Value} (h : w.ownsRow base e size v n xs)
    (hb : ∀ k, v.ownBlock = some k → w'.heap[k]? = w.heap[k]?) : w'.ownsRow base e size v n xs := by
  refine ⟨h.1, ?_⟩
  rcases h.2 with hn | ⟨g, cap, cur, rfl, h1, h2, r⟩
  · exact .inl hn
  · exact .inr ⟨g, cap, cur, rfl, h1, (hb g rfl).trans h2, r⟩
theorem ownsRow_fr {w w' : World} {base e size : Nat} {v : Value} {n : Nat} {xs : List Value} (h : w.ownsRow base e size v n xs) {F : Nat → Prop} (hf : Fr F w w') (hd : ∀ k, v.ownBlock = some k → ¬ F k) : w'.ownsRow base e size v n xs :=
  ownsRow_of_blk h fun k hk => hf.blk k (h.lt k hk).2 (hd k hk)
theorem ownsRow_slice {w : World} {base e size : Nat} {v : Value} {n : Nat} {xs : List Value} (h : w.ownsRow base e size v n xs) : ∃ sa cap, v = .slice sa n cap := by
  rcases h.2 with ⟨rfl, h0⟩ | ⟨g, cap, cur, rfl, _⟩
  · exact ⟨none, 0, by rw [h0]⟩
  · exact ⟨_, _, rfl⟩
end Go.Pl
namespace Go.Proofs.Ytcolfgnjmnapkaa
open Go.RowKit Go.Pl Go.WideMaps

theorem info9 : (Try.prog.info? 9).map (fun i => (i.zero, i.size, i.bytes)) = some (some (.string ByteArray.empty), 1, 16) := by kernel_rfl

theorem sort_calls {w : World} {B : Nat} {v : Value} {ks : List (List UInt8)} (h : w.ownsRow B 9 1 v ks.length (ks.map encStr)) (hl : ks.length < 4611686018427387904) :
    Calls Try.prog 39 #[v] w fun e w' => e = .returned (.tuple #[]) ∧ w'.ownsRow B 9 1 v ks.length ((ks.mergeSort leB).map encStr) ∧ w.grownBy w' v.ownBlock := by
  rcases h.2 with ⟨h1, h2⟩ | ⟨g, cap, cur, h1, hB, hb, h3, h4, h5, h6⟩
  · have hk : ks = [] := List.length_eq_zero_iff.1 h2
    subst hk
    rw [h1]
    refine (AnyM.slices_Sort_string_none Try.sort39 none 0 w).mono ?_
    rintro e w' ⟨rfl, rfl⟩
    exact ⟨rfl, by simpa using World.ownsRow_nil w' B 9 1, rfl, rfl, rfl, Nat.le_refl _, fun _ _ _ => rfl⟩
  · rw [h1]
    refine (AnyM.slices_Sort_string Try.sort39 g 0 cap ks w (holds_of_block hb (by simpa using h6)) (lt_of_blk hb) hl).mono ?_
    rintro e w' ⟨rfl, n, os, rfl⟩
    exact ⟨rfl, ownsRow_sorted (List.length_mergeSort ks) hB hb h3 h4 h5, grownBy_sorted _⟩

/-- What Then has collected: the mentioned Ids, met so far, of which a is a part. -/
structure Coll (w : World) (mp r : Nat) (f : Value → Option Value) (S : LinS) (a : ByteArray) (N : Nat) (out : Value) (wr : World) (L : Nat) : Prop where
  ex : ∃ left cnt, ∃ ks : List (List UInt8), Rng Try.prog 9 wr mp r f left cnt ∧ wr.ownsRow w.heap.size 9 1 out L (ks.map encStr) ∧ ks.length = L ∧ ks.Nodup ∧ (∀ x : ByteArray, x.data.toList ∈ ks ↔ S.men x = true ∧ ¬ left (.string x) ∧ S.pt x a = true) ∧ L + cnt ≤ N
  fr : Fr (fun _ => False) w wr

theorem then_nil (a : ByteArray) (w : World) : Calls Try.prog 19 #[.pointer none, .string a] w fun e w' => e = .returned (.slice none 0 0) ∧ w = w' := by
  go_enter Try.func19, Try.ntmps19
  go_wp2
  go_ret
  exact ⟨rfl, rfl⟩

theorem news_one (w : World) (v : Value) : ∀ j u, ([v] : List Value)[j]? = some u → (w.alloc (.cells #[v] 9)).cell? ((⟨w.heap.size, 0, none⟩ : Addr).add j) = some u := fun j u hj => by
  rw [Addr.add_lit, Nat.zero_add, cell_of_blk (blk_alloc_new _ _)]
  cases j with
  | zero => simpa using hj
  | succ j => simp at hj
theorem str_ne {x y : ByteArray} : x.data.toList = y.data.toList ↔ x = y := ⟨fun h => by rw [← toList_ofBytes x, h, toList_ofBytes], fun h => by rw [h]⟩

theorem coll_skip {w : World} {mp r : Nat} {f : Value → Option Value} {S : LinS} {a : ByteArray} {N : Nat} {out : Value} {L : Nat} {left : Value → Prop} {cnt : Nat} {ks : List (List UInt8)} {x : ByteArray} {w' : World} {cnt' : Nat}
    (hkl : ks.length = L) (hnd : ks.Nodup) (hmem : ∀ x : ByteArray, x.data.toList ∈ ks ↔ S.men x = true ∧ ¬ left (.string x) ∧ S.pt x a = true) (hsz : L + cnt ≤ N) (hl : left (.string x)) (hlt : cnt' < cnt)
    (hrg : Rng Try.prog 9 w' mp r f (fun k => left k ∧ k ≠ .string x) cnt') (hfr : Fr (fun _ => False) w w') (hown : w'.ownsRow w.heap.size 9 1 out L (ks.map encStr)) (hp : S.pt x a = false) : Coll w mp r f S a N out w' L := by
  refine ⟨⟨_, cnt', ks, hrg, hown, hkl, hnd, fun y => ?_, by omega⟩, hfr⟩
  rw [hmem y]
  by_cases e : y = x
  · subst e; simp [hp]
  · simp [e]

theorem coll_add {w w3 : World} {mp r : Nat} {f : Value → Option Value} {S : LinS} {a : ByteArray} {N : Nat} {out : Value} {L : Nat} {left : Value → Prop} {cnt : Nat} {ks : List (List UInt8)} {x : ByteArray} {cnt' : Nat}
    (hkl : ks.length = L) (hnd : ks.Nodup) (hmem : ∀ x : ByteArray, x.data.toList ∈ ks ↔ S.men x = true ∧ ¬ left (.string x) ∧ S.pt x a = true) (hsz : L + cnt ≤ N) (hl : left (.string x)) (hlt : cnt' < cnt) (hm : S.men x = true)
    (hrg : Rng Try.prog 9 w3 mp r f (fun k => left k ∧ k ≠ .string x) cnt') (hfr : Fr (fun _ => False) w w3) (hown : w3.ownsRow w.heap.size 9 1 out (L + 1) (ks.map encStr ++ [.string x])) (hp : S.pt x a = true) : Coll w mp r f S a N out w3 (L + 1) := by
  have hno : x.data.toList ∉ ks := fun h => ((hmem x).1 h).2.1 hl
  refine ⟨⟨_, cnt', ks ++ [x.data.toList], hrg, by simpa [encStr_of, toList_ofBytes] using hown, by simp [hkl], ?_, fun y => ?_, by omega⟩, hfr⟩
  · rw [List.nodup_append]
    refine ⟨hnd, by simp, fun u hu v hv => ?_⟩
    simp at hv; subst hv
    rintro rfl; exact hno hu
  · rw [List.mem_append, hmem y]
    by_cases e : y = x
    · subst e; simp [hp, hm]
    · have : ¬ y.data.toList = x.data.toList := fun h => e (str_ne.1 h)
      simp only [List.mem_singleton, this, or_false]
      simp [e]

/-- What the sort leaves is what Then says. -/
theorem then_done {w w1 w2 : World} {S : LinS} {a : ByteArray} {out : Value} {ks : List (List UInt8)} (hfr : Fr (fun _ => False) w w1) (hown : w1.ownsRow w.heap.size 9 1 out ks.length (ks.map encStr)) (hnd : ks.Nodup)
    (hmem : ∀ x : ByteArray, x.data.toList ∈ ks ↔ S.pt x a = true) (h2 : w2.ownsRow w.heap.size 9 1 out ks.length ((ks.mergeSort leB).map encStr)) (hg : w1.grownBy w2 out.ownBlock) : ListPost (fun x => S.pt x a = true) w (.returned out) w2 := by
  refine ⟨out, (ks.mergeSort leB).map ofBytes, rfl, sorted_of_perm hnd, fun x => ?_, by rw [List.length_map, List.length_mergeSort, List.map_map]; exact h2, hfr.grown hg fun k hk hlt => ?_⟩
  · show _ ↔ S.pt x a = true
    rw [← hmem x, List.mem_map]
    constructor
    · rintro ⟨l, hl, rfl⟩; exact List.mem_mergeSort.1 hl
    · intro hx; exact ⟨_, List.mem_mergeSort.2 hx, toList_ofBytes x⟩
  · have := (hown.lt k hk).1; omega

set_option maxHeartbeats 2000000 in
theorem then_calls {w : World} {p N : Nat} {ρ S} (h : LinAt w p N ρ S) (hN : N ≤ 1000000) {a : ByteArray} (ha : a.size ≤ maxLen) :
    Calls Try.prog 19 #[.pointer (some ⟨p, 0, none⟩), .string a] w (ListPost (fun x => S.pt x a = true) w) := by
  obtain ⟨mp, f, h⟩ := h
  obtain ⟨o, cnt0, hrange, hrg, hcnt⟩ := h.hm.range Try.underlying53
  obtain ⟨r, hr⟩ : ∃ r, r = w.heap.size := ⟨_, rfl⟩
  rw [← hr] at hrg
  have hH := Lib.hid h
  have cp := h.cp
  have hstart : Coll w mp r f S a N (.slice none 0 0) (w.alloc o) 0 := by
    refine ⟨⟨_, cnt0, [], hrg, World.ownsRow_nil _ _ _ _, rfl, by simp, fun x => ?_, by omega⟩, by simp⟩
    have := h.men x
    constructor
    · intro hx; simp at hx
    · rintro ⟨h1, h2, _⟩; rw [h1] at this; exact absurd this h2
  have hrH := Lib.hid hr
  clear h hrg hcnt
  go_enter Try.func19, Try.ntmps19
  go_wp2
  rw [← hr]
  go_loopw [5] (fun out wr => ∃ L, Hid (Coll w mp r f S a N out wr L)) (fun _ wr => wr.rangeLeft mp r)
  case atStart => exact ⟨0, hstart⟩
  case round =>
    obtain ⟨L, hC⟩ := hrel
    obtain ⟨left, cnt, ks, hrg, hown, hkl, hnd, hmem, hsz⟩ := hC.out.ex
    have hfr := hC.out.fr
    have hrlt := hrH.out
    have hleft := hrg.left_eq
    rcases hrg.next 0 with ⟨hno, hnx⟩ | ⟨key, v, w1, cnt1, hl, hfk, hkk, hnx, hrg1, hlt, hf1, hen⟩
    · have h1 := hH.out.fr hfr (by simp)
      obtain ⟨l, hk9⟩ := key9 ha
      have hlk := h1.hm.at.look_ok law9 Try.underlying53 hk9 (zero60 wr)
      rw [h1.men a] at hlk
      have cp1 := h1.cp
      have hmem' : ∀ x : ByteArray, x.data.toList ∈ ks ↔ S.men x = true ∧ S.pt x a = true := fun x => by rw [hmem x]; simp [hno]
      have hpt : ∀ x, S.men x = false → S.pt x a = decide (x = a) := fun x hx => by
        rcases hH.out.hS x with ⟨_, _, h3⟩ | ⟨_, _, h2, _⟩
        · exact h3 a
        · rw [hx] at h2; cases h2
      obtain ⟨sa, cap, rfl⟩ := ownsRow_slice hown
      cases hma : S.men a with
      | true =>
        rw [hma] at hlk
        have hms : ∀ x : ByteArray, x.data.toList ∈ ks ↔ S.pt x a = true := fun x => by
          rw [hmem' x]
          cases hx : S.men x with
          | true => simp
          | false =>
            rw [hpt x hx]
            simp
            rintro rfl; rw [hma] at hx; cases hx
        rw [← hkl] at hown ⊢
        have hsort := Lib.hid (sort_calls hown (by omega))
        have hfin : Hid (∀ w2, w2.ownsRow w.heap.size 9 1 (.slice sa ks.length cap) ks.length ((ks.mergeSort leB).map encStr) → wr.grownBy w2 (Value.slice sa ks.length cap).ownBlock → ListPost (fun x => S.pt x a = true) w (.returned (.slice sa ks.length cap)) w2) := fun w2 y1 y2 => then_done hfr hown hnd hms y1 y2
        clear hC hrg hown hnd hmem hmem' hms hpt hkl hsz hfr hH h1 hno hleft hrlt hr
        go_wp2_with (go_at_call 39; refine hsort.out.mono ?_; rintro e w2 ⟨rfl, y1, y2⟩; have y3 := Lib.hid (hfin.out w2 y1 y2); clear y1 y2)
        go_ret
        exact y3.out
      | false =>
        rw [hma] at hlk
        obtain ⟨i0, hi0, hz0, hz1, hz2⟩ := info_parts info9
        have hnoA : a.data.toList ∉ ks := fun hx => by have := ((hmem' a).1 hx).1; rw [hma] at this; cases this
        have hnd2 : (ks ++ [a.data.toList]).Nodup := by
          rw [List.nodup_append]
          refine ⟨hnd, by simp, fun u hu v hv => ?_⟩
          simp at hv; subst hv
          rintro rfl; exact hnoA hu
        have hms : ∀ x : ByteArray, x.data.toList ∈ ks ++ [a.data.toList] ↔ S.pt x a = true := fun x => by
          rw [List.mem_append, hmem' x, List.mem_singleton, str_ne]
          by_cases e : x = a
          · subst e; simp [hpt x hma]
          · cases hx : S.men x with
            | true => simp [e]
            | false => simp [e, hpt x hx]
        have hownA := Lib.hid (hown.alloc (.cells #[.string a] 9))
        have hnews := Lib.hid (news_one wr (.string a))
        have hone : Hid (∀ u ∈ [Value.string a], u.oneCell' = true) := fun u hu => by simp at hu; subst hu; rfl
        have hfr' := hfr
        have hbase : w.heap.size ≤ (wr.alloc (.cells #[.string a] 9)).heap.size := by have := hfr.size; simp; omega
        have hstep : Hid (∀ v' w3, w3.ownsRow w.heap.size 9 1 v' (L + 1) (ks.map encStr ++ [.string a]) → (wr.alloc (.cells #[.string a] 9)).grownBy w3 (Value.slice sa L cap).ownBlock →
            Calls Try.prog 39 #[v'] w3 (fun e w' => e = .returned (.tuple #[]) ∧ ListPost (fun x => S.pt x a = true) w (.returned v') w')) := fun v' w3 y1 y2 => by
          have y1' : w3.ownsRow w.heap.size 9 1 v' (ks ++ [a.data.toList]).length ((ks ++ [a.data.toList]).map encStr) := by simpa [hkl, encStr_of, toList_ofBytes] using y1
          refine (sort_calls y1' (by simp; omega)).mono ?_
          rintro e w' ⟨rfl, z1, z2⟩
          exact ⟨rfl, then_done ((hfr'.alloc _).grown y2 fun k hk hlt => by have := (hown.lt k hk).1; omega) y1' hnd2 hms z1 z2⟩
        have hLb : L ≤ 1000000 := by omega
        clear hC hrg hmem hmem' hms hpt hkl hsz hfr hfr' hH h1 hno hleft hrlt hr hnd hnd2 hnoA hown
        go_wp2_with (first
          | (go_at_call 39; refine hcall.out.mono ?_; rintro e w2 ⟨rfl, y1⟩; have y3 := Lib.hid y1; clear y1)
          | (at_builtin; refine wpList_append_own_at _ rfl _ _ 33 rfl w.heap.size 9 i0 (.string ByteArray.empty) 1 16 Try.underlying33 hi0 hz0 hz1 hz2 rfl (by decide) (.slice sa L cap) L (ks.map encStr) rfl hownA.out ⟨wr.heap.size, 0, none⟩ 1 1 [.string a] rfl rfl hnews.out hone.out (by unfold maxLen; omega) (by omega) hbase ?_; intro v' w3 x1 x2 _ _; have hcall := Lib.hid (hstep.out v' w3 x1 x2); obtain ⟨sa', cap', rfl⟩ := ownsRow_slice x1; clear x1 x2))
        go_ret
        exact y3.out
    · have hf1' : Fr (fun _ => False) w w1 := hfr.trans' hf1 (fun k hk e => by omega)
      have h1 := hH.out.fr hf1' (by simp)
      obtain ⟨x, b, rfl, hxs, rfl, hm, hρ, hset⟩ := h1.entry hfk
      have hhas := Lib.hid (has_calls hset ha)
      have hown1 := ownsRow_fr hown hf1 (fun k hk e => hrg.ne_row hown (e ▸ hk))
      obtain ⟨sa, cap, rfl⟩ := ownsRow_slice hown
      have hLb : L ≤ 1000000 := by omega
      cases hp : S.pt x a with
      | false =>
        rw [hp] at hhas
        have hnext := Lib.hid (coll_skip hkl hnd hmem hsz hl hlt hrg1 hf1' hown1 hp)
        have hmeas : Hid (w1.rangeLeft mp r < wr.rangeLeft mp r) := by rw [Hid, hrg1.left_eq, hleft]; exact hlt
        clear hC hrg hown hown1 hnd hmem hkl hsz hfr hf1 hf1' hH h1 hleft hrlt hr hset hl hlt hrg1 hfk hkk hm hρ hp
        go_wp2_with (go_at_call 30; refine hhas.out.mono ?_; rintro e w2 ⟨rfl, rfl⟩)
        go_roundw
        case rel => exact ⟨L, hnext⟩
        case measure => exact hmeas.out
      | true =>
        rw [hp] at hhas
        obtain ⟨i0, hi0, hz0, hz1, hz2⟩ := info_parts info9
        have hownA := Lib.hid (hown1.alloc (.cells #[.string x] 9))
        have hnews := Lib.hid (news_one w1 (.string x))
        have hone : Hid (∀ u ∈ [Value.string x], u.oneCell' = true) := fun u hu => by simp at hu; subst hu; rfl
        have hbase : w.heap.size ≤ (w1.alloc (.cells #[.string x] 9)).heap.size := by have := hf1'.size; simp; omega
        have hstep : Hid (∀ v' w3, w3.ownsRow w.heap.size 9 1 v' (L + 1) (ks.map encStr ++ [.string x]) → (w1.alloc (.cells #[.string x] 9)).grownBy w3 (Value.slice sa L cap).ownBlock →
            Coll w mp r f S a N v' w3 (L + 1) ∧ w3.rangeLeft mp r < wr.rangeLeft mp r) := fun v' w3 y1 y2 => by
          have hrg3 := hrg1.fr (((Fr.refl (fun k => (Value.slice sa L cap).ownBlock = some k) w1).alloc _).grown y2 fun k hk _ => hk) (hrg1.ne_map hown1) (hrg1.ne_row hown1)
          refine ⟨coll_add hkl hnd hmem hsz hl hlt hm hrg3 ((hf1'.alloc _).grown y2 fun k hk hlt => by have := (hown.lt k hk).1; omega) y1 hp, ?_⟩
          rw [hrg3.left_eq, hleft]; exact hlt
        clear hC hrg hown hown1 hnd hmem hkl hsz hfr hf1 hf1' hH h1 hleft hrlt hr hset hl hlt hrg1 hfk hkk hm hρ hp
        go_wp2_with (first
          | (go_at_call 30; refine hhas.out.mono ?_; rintro e w2 ⟨rfl, rfl⟩)
          | (at_builtin; refine wpList_append_own_at _ rfl _ _ 33 rfl w.heap.size 9 i0 (.string ByteArray.empty) 1 16 Try.underlying33 hi0 hz0 hz1 hz2 rfl (by decide) (.slice sa L cap) L (ks.map encStr) rfl hownA.out ⟨w1.heap.size, 0, none⟩ 1 1 [.string x] rfl rfl hnews.out hone.out (by unfold maxLen; omega) (by omega) hbase ?_; intro v' w3 x1 x2 _ _; obtain ⟨y1, y2⟩ := hstep.out v' w3 x1 x2; have hnext := Lib.hid y1; have hmeas := Lib.hid y2; clear x1 x2 y1 y2))
        go_roundw
        case rel => exact ⟨L + 1, hnext⟩
        case measure => exact hmeas.out
end Go.Proofs.Ytcolfgnjmnapkaa
