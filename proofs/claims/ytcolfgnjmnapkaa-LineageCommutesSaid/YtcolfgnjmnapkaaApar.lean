/- apart: whether two edits name no common Id. -/
import Derived.Test.YtcolfgnjmnapkaaRefu
namespace Go.Proofs.Ytcolfgnjmnapkaa
open Go.RowKit Go.Pl

def Edt.ids (e : Edt) : List ByteArray := [e.id, e.other, e.oid]
open Classical in
noncomputable def apartB (a b : Edt) : Bool := decide (∀ x ∈ a.ids, ∀ y ∈ b.ids, x = y → x = ByteArray.empty)
theorem apartB_iff {a b : Edt} : apartB a b = true ↔ ∀ x ∈ a.ids, ∀ y ∈ b.ids, x = y → x = ByteArray.empty := by simp [apartB]

theorem empty_list : ByteArray.empty.toList = [] := by rw [ByteArray.toList_eq]; rfl
theorem isEmpty_iff (x : ByteArray) : x.toList.isEmpty = false ↔ x ≠ ByteArray.empty := by
  rw [← Bool.not_eq_true, List.isEmpty_iff, ne_eq, not_congr]
  constructor
  · intro h; exact bytes_inj (h.trans empty_list.symm)
  · rintro rfl; exact empty_list

set_option maxRecDepth 100000 in
set_option maxHeartbeats 4000000 in
theorem apart_calls (a b : Edt) (w : World) : Calls Try.prog 28 #[.agg a.cells, .agg b.cells] w fun e w' => e = .returned (.bool (apartB a b)) ∧ Fr (fun _ => False) w w' := by
  have hA : EdB ((w.alloc (.cells a.cells 38)).alloc (.cells b.cells 38)) w.heap.size a := (blk_alloc (w := w.alloc (.cells a.cells 38)) (by simp) _).trans (blk_alloc_new _ _)
  have hB : EdB ((w.alloc (.cells a.cells 38)).alloc (.cells b.cells 38)) (w.heap.size + 1) b := blk_alloc_at (by simp) _
  have f0 : Fr (fun _ => False) w ((w.alloc (.cells a.cells 38)).alloc (.cells b.cells 38)) := by simp
  go_enter Try.func28, Try.ntmps28
  go_wp2_with fail
  obtain ⟨M, hM⟩ : ∃ M, M = w.heap.size := ⟨_, rfl⟩
  rw [← hM] at hA hB ⊢
  generalize (w.alloc (.cells a.cells 38)).alloc (.cells b.cells 38) = W at *
  obtain ⟨a0, a1, a2, _, _, _, _, _, _, a9, _⟩ := hA.cells
  obtain ⟨b0, b1, b2, _, _, _, _, _, _, b9, _⟩ := hB.cells
  have hS0 : (W.cell? ⟨M, 1, none⟩ = some (.string a.id) ∧ W.cell? ⟨M, 2, none⟩ = some (.string a.other) ∧ W.cell? ⟨M, 9, none⟩ = some (.string a.oid)) ∧ (W.cell? ⟨M + 1, 1, none⟩ = some (.string b.id) ∧ W.cell? ⟨M + 1, 2, none⟩ = some (.string b.other) ∧ W.cell? ⟨M + 1, 9, none⟩ = some (.string b.oid)) := ⟨⟨a1, a2, a9⟩, b1, b2, b9⟩
  have hlt := hB.lt
  have hSt : ∀ w', Fr (fun _ => False) W w' → (w'.cell? ⟨M, 1, none⟩ = some (.string a.id) ∧ w'.cell? ⟨M, 2, none⟩ = some (.string a.other) ∧ w'.cell? ⟨M, 9, none⟩ = some (.string a.oid)) ∧ (w'.cell? ⟨M + 1, 1, none⟩ = some (.string b.id) ∧ w'.cell? ⟨M + 1, 2, none⟩ = some (.string b.other) ∧ w'.cell? ⟨M + 1, 9, none⟩ = some (.string b.oid)) := fun w' hf => ⟨⟨hf.cell a1 (by simp), hf.cell a2 (by simp), hf.cell a9 (by simp)⟩, hf.cell b1 (by simp), hf.cell b2 (by simp), hf.cell b9 (by simp)⟩
  have hS1 := fun o => hSt (W.alloc o).drew (by simp)
  have hS2 := fun o o2 => hSt ((W.alloc o).drew.alloc o2) ((((Fr.refl (fun _ => False) W).alloc o).drew).alloc o2)
  have hS3 := fun o o2 => hSt ((W.alloc o).alloc o2) (by simp)
  have hS4 := fun o o2 => hSt ((W.alloc o).alloc o2).drew ((((Fr.refl (fun _ => False) W).alloc o).alloc o2).drew)
  clear hA hB hM hSt
  go_region_held3 (fun w' => (w'.cell? ⟨M, 1, none⟩ = some (.string a.id) ∧ w'.cell? ⟨M, 2, none⟩ = some (.string a.other) ∧ w'.cell? ⟨M, 9, none⟩ = some (.string a.oid)) ∧ (w'.cell? ⟨M + 1, 1, none⟩ = some (.string b.id) ∧ w'.cell? ⟨M + 1, 2, none⟩ = some (.string b.other) ∧ w'.cell? ⟨M + 1, 9, none⟩ = some (.string b.oid))) (first | assumption | exact hS0 | exact hS1 _ | exact hS2 _ _ | exact hS3 _ _ | exact hS4 _ _) (fail)
  · have ha : (((W.alloc (.cells #[.string a.id, .string a.other, .string a.oid] 9)).alloc (.cells #[.string b.id, .string b.other, .string b.oid] 9)).drew).heap[W.heap.size]? = some (.cells #[.string a.id, .string a.other, .string a.oid] 9 (0, 0)) := (blk_alloc (w := W.alloc _) (by simp) _).trans (blk_alloc_new _ _)
    have hb : (((W.alloc (.cells #[.string a.id, .string a.other, .string a.oid] 9)).alloc (.cells #[.string b.id, .string b.other, .string b.oid] 9)).drew).heap[(W.heap.size + 1)]? = some (.cells #[.string b.id, .string b.other, .string b.oid] 9 (0, 0)) := blk_alloc_at (by simp) _
    have hfr := f0.trans (c := ((W.alloc (.cells #[.string a.id, .string a.other, .string a.oid] 9)).alloc (.cells #[.string b.id, .string b.other, .string b.oid] 9)).drew) ((((Fr.refl (fun _ => False) W).alloc _).alloc _).drew)
    rename_i hH
    clear hH hS0 hS1 hS2 hS3 hS4
    generalize ((W.alloc (.cells #[.string a.id, .string a.other, .string a.oid] 9)).alloc (.cells #[.string b.id, .string b.other, .string b.oid] 9)).drew = W2 at *
    have ka : ∀ (i : Nat) (x : ByteArray), a.ids[i]? = some x → W2.cell? ⟨W.heap.size, i, none⟩ = some (.string x) := fun i x hx => by
      rw [cell_of_blk ha]
      match i, hx with
      | 0, hx => simp [Edt.ids] at hx; subst hx; rfl
      | 1, hx => simp [Edt.ids] at hx; subst hx; rfl
      | 2, hx => simp [Edt.ids] at hx; subst hx; rfl
      | i + 3, hx => simp [Edt.ids] at hx
    have kb : ∀ (i : Nat) (x : ByteArray), b.ids[i]? = some x → W2.cell? ⟨(W.heap.size + 1), i, none⟩ = some (.string x) := fun i x hx => by
      rw [cell_of_blk hb]
      match i, hx with
      | 0, hx => simp [Edt.ids] at hx; subst hx; rfl
      | 1, hx => simp [Edt.ids] at hx; subst hx; rfl
      | 2, hx => simp [Edt.ids] at hx; subst hx; rfl
      | i + 3, hx => simp [Edt.ids] at hx
    have KA := Lib.hid ka
    have KB := Lib.hid kb
    clear ka kb ha hb
    generalize W.heap.size = xa at *
    generalize (W.heap.size + 1) = xb at *
    have hlA : Hid (a.ids.length = 3) := rfl
    have hlB : Hid (b.ids.length = 3) := rfl
    go_wp2
    go_loopw [7] (fun i wr => ∃ k : Nat, k ≤ 3 ∧ i = .int .i64 k ∧ Hid (∀ x ∈ a.ids.take k, ∀ y ∈ b.ids, x = y → x = ByteArray.empty) ∧ ∃ q, wr = W2.drewN q) (fun i _ => 3 - (intOf i).toNat)
    case atStart => exact ⟨0, by omega, rfl, by simp [Hid], 0, rfl⟩
    case round =>
      obtain ⟨k, hk, rfl, hall, q, rfl⟩ := hrel
      by_cases hlt : k < 3
      · obtain ⟨x, hx⟩ : ∃ o, a.ids[k]? = some o := ⟨_, List.getElem?_eq_getElem (by rw [hlA.out]; exact hlt)⟩
        have c1 := KA.out k x hx
        have hxH := Lib.hid hx
        have t1 : (0 : Int) ≤ k := by omega
        have t2 : (k : Int) < 3 := by omega
        clear hx
        go_wp2
        obtain ⟨q0, hq0⟩ : ∃ q0, q0 = q := ⟨_, rfl⟩
        rw [← hq0]
        clear hq0
        go_loopw [8] (fun i wr => ∃ j : Nat, j ≤ 3 ∧ i = .int .i64 j ∧ Hid (∀ y ∈ b.ids.take j, x = y → x = ByteArray.empty) ∧ ∃ q, wr = W2.drewN q) (fun i _ => 3 - (intOf i).toNat)
        case atStart => exact ⟨0, by omega, rfl, by simp [Hid], q0, rfl⟩
        case round =>
          obtain ⟨j, hj, rfl, hall2, q, rfl⟩ := hrel
          by_cases hlt2 : j < 3
          · obtain ⟨y, hy⟩ : ∃ o, b.ids[j]? = some o := ⟨_, List.getElem?_eq_getElem (by rw [hlB.out]; exact hlt2)⟩
            have c2 := KB.out j y hy
            have hyH := Lib.hid hy
            have t3 : (0 : Int) ≤ j := by omega
            have t4 : (j : Int) < 3 := by omega
            clear hy
            by_cases hbad : x = y ∧ x ≠ ByteArray.empty
            · have t5 : (x.toList == y.toList) = true := by rw [beq_str]; simpa using hbad.1
              have t6 : x.toList.isEmpty = false := (isEmpty_iff x).2 hbad.2
              have t7 : (!x.toList.isEmpty) = true := by rw [t6]; rfl
              have hfin : Hid (apartB a b = false) := by
                rw [Hid, Bool.eq_false_iff, ne_eq, apartB_iff]
                exact fun h => hbad.2 (h x (List.mem_of_getElem? hxH.out) y (List.mem_of_getElem? hyH.out) hbad.1)
              clear hbad
              go_wp2
              go_quiet (fail)
              go_wp2
              go_ret
              exact ⟨by rw [hfin.out]; rfl, by simp [hfr]⟩
            · have hnx : Hid (∀ z ∈ b.ids.take (j + 1), x = z → x = ByteArray.empty) := by
                intro z hz hxz
                rw [List.take_add_one, hyH.out] at hz
                simp at hz
                rcases hz with hz | rfl
                · exact hall2.out z hz hxz
                · exact Classical.byContradiction fun h => hbad ⟨hxz, h⟩
              by_cases hxy : x = y
              · have hxe : x = ByteArray.empty := Classical.byContradiction fun h => hbad ⟨hxy, h⟩
                have t5 : (x.toList == y.toList) = true := by rw [beq_str]; simpa using hxy
                have t6 : x.toList.isEmpty = true := by rw [hxe, empty_list]; rfl
                have t7 : (!x.toList.isEmpty) = false := by rw [t6]; rfl
                clear hbad hxy hxe
                go_wp2
                go_quiet (fail)
                go_wp2
                go_roundw
                case rel => exact ⟨j + 1, by omega, by go_num, hnx, _, rfl⟩
                case measure => simp [intOf]; omega
              · have t5 : (x.toList == y.toList) = false := by rw [beq_str]; simpa using hxy
                clear hbad hxy
                go_wp2
                go_quiet (fail)
                go_wp2
                go_roundw
                case rel => exact ⟨j + 1, by omega, by go_num, hnx, _, rfl⟩
                case measure => simp [intOf]; omega
          · have t3 : ¬ (j : Int) < 3 := by omega
            have hnx : Hid (∀ z ∈ a.ids.take (k + 1), ∀ y ∈ b.ids, z = y → z = ByteArray.empty) := by
              intro z hz y hy hzy
              rw [List.take_add_one, hxH.out] at hz
              simp at hz
              rcases hz with hz | rfl
              · exact hall.out z hz y hy hzy
              · exact hall2.out y (by rw [List.take_of_length_le (by rw [hlB.out]; omega)]; exact hy) hzy
            clear hlt2
            go_wp2
            go_roundw
            case rel => exact ⟨k + 1, by omega, by go_num, hnx, _, rfl⟩
            case measure => simp [intOf]; omega
      · have t3 : ¬ (k : Int) < 3 := by omega
        have hfin : Hid (apartB a b = true) := by
          rw [Hid, apartB_iff]
          intro x hx
          exact hall.out x (by rw [List.take_of_length_le (by rw [hlA.out]; omega)]; exact hx)
        clear hlt
        go_wp2
        go_ret
        exact ⟨by rw [hfin.out]; rfl, by simp [hfr]⟩
  · have ha : (((W.alloc (.cells #[.string b.id, .string b.other, .string b.oid] 9)).alloc (.cells #[.string a.id, .string a.other, .string a.oid] 9)).drew).heap[(W.heap.size + 1)]? = some (.cells #[.string a.id, .string a.other, .string a.oid] 9 (0, 0)) := blk_alloc_at (by simp) _
    have hb : (((W.alloc (.cells #[.string b.id, .string b.other, .string b.oid] 9)).alloc (.cells #[.string a.id, .string a.other, .string a.oid] 9)).drew).heap[W.heap.size]? = some (.cells #[.string b.id, .string b.other, .string b.oid] 9 (0, 0)) := (blk_alloc (w := W.alloc _) (by simp) _).trans (blk_alloc_new _ _)
    have hfr := f0.trans (c := ((W.alloc (.cells #[.string b.id, .string b.other, .string b.oid] 9)).alloc (.cells #[.string a.id, .string a.other, .string a.oid] 9)).drew) ((((Fr.refl (fun _ => False) W).alloc _).alloc _).drew)
    rename_i hH
    clear hH hS0 hS1 hS2 hS3 hS4
    generalize ((W.alloc (.cells #[.string b.id, .string b.other, .string b.oid] 9)).alloc (.cells #[.string a.id, .string a.other, .string a.oid] 9)).drew = W2 at *
    have ka : ∀ (i : Nat) (x : ByteArray), a.ids[i]? = some x → W2.cell? ⟨(W.heap.size + 1), i, none⟩ = some (.string x) := fun i x hx => by
      rw [cell_of_blk ha]
      match i, hx with
      | 0, hx => simp [Edt.ids] at hx; subst hx; rfl
      | 1, hx => simp [Edt.ids] at hx; subst hx; rfl
      | 2, hx => simp [Edt.ids] at hx; subst hx; rfl
      | i + 3, hx => simp [Edt.ids] at hx
    have kb : ∀ (i : Nat) (x : ByteArray), b.ids[i]? = some x → W2.cell? ⟨W.heap.size, i, none⟩ = some (.string x) := fun i x hx => by
      rw [cell_of_blk hb]
      match i, hx with
      | 0, hx => simp [Edt.ids] at hx; subst hx; rfl
      | 1, hx => simp [Edt.ids] at hx; subst hx; rfl
      | 2, hx => simp [Edt.ids] at hx; subst hx; rfl
      | i + 3, hx => simp [Edt.ids] at hx
    have KA := Lib.hid ka
    have KB := Lib.hid kb
    clear ka kb ha hb
    generalize (W.heap.size + 1) = xa at *
    generalize W.heap.size = xb at *
    have hlA : Hid (a.ids.length = 3) := rfl
    have hlB : Hid (b.ids.length = 3) := rfl
    go_wp2
    go_loopw [7] (fun i wr => ∃ k : Nat, k ≤ 3 ∧ i = .int .i64 k ∧ Hid (∀ x ∈ a.ids.take k, ∀ y ∈ b.ids, x = y → x = ByteArray.empty) ∧ ∃ q, wr = W2.drewN q) (fun i _ => 3 - (intOf i).toNat)
    case atStart => exact ⟨0, by omega, rfl, by simp [Hid], 0, rfl⟩
    case round =>
      obtain ⟨k, hk, rfl, hall, q, rfl⟩ := hrel
      by_cases hlt : k < 3
      · obtain ⟨x, hx⟩ : ∃ o, a.ids[k]? = some o := ⟨_, List.getElem?_eq_getElem (by rw [hlA.out]; exact hlt)⟩
        have c1 := KA.out k x hx
        have hxH := Lib.hid hx
        have t1 : (0 : Int) ≤ k := by omega
        have t2 : (k : Int) < 3 := by omega
        clear hx
        go_wp2
        obtain ⟨q0, hq0⟩ : ∃ q0, q0 = q := ⟨_, rfl⟩
        rw [← hq0]
        clear hq0
        go_loopw [8] (fun i wr => ∃ j : Nat, j ≤ 3 ∧ i = .int .i64 j ∧ Hid (∀ y ∈ b.ids.take j, x = y → x = ByteArray.empty) ∧ ∃ q, wr = W2.drewN q) (fun i _ => 3 - (intOf i).toNat)
        case atStart => exact ⟨0, by omega, rfl, by simp [Hid], q0, rfl⟩
        case round =>
          obtain ⟨j, hj, rfl, hall2, q, rfl⟩ := hrel
          by_cases hlt2 : j < 3
          · obtain ⟨y, hy⟩ : ∃ o, b.ids[j]? = some o := ⟨_, List.getElem?_eq_getElem (by rw [hlB.out]; exact hlt2)⟩
            have c2 := KB.out j y hy
            have hyH := Lib.hid hy
            have t3 : (0 : Int) ≤ j := by omega
            have t4 : (j : Int) < 3 := by omega
            clear hy
            by_cases hbad : x = y ∧ x ≠ ByteArray.empty
            · have t5 : (x.toList == y.toList) = true := by rw [beq_str]; simpa using hbad.1
              have t6 : x.toList.isEmpty = false := (isEmpty_iff x).2 hbad.2
              have t7 : (!x.toList.isEmpty) = true := by rw [t6]; rfl
              have hfin : Hid (apartB a b = false) := by
                rw [Hid, Bool.eq_false_iff, ne_eq, apartB_iff]
                exact fun h => hbad.2 (h x (List.mem_of_getElem? hxH.out) y (List.mem_of_getElem? hyH.out) hbad.1)
              clear hbad
              go_wp2
              go_quiet (fail)
              go_wp2
              go_ret
              exact ⟨by rw [hfin.out]; rfl, by simp [hfr]⟩
            · have hnx : Hid (∀ z ∈ b.ids.take (j + 1), x = z → x = ByteArray.empty) := by
                intro z hz hxz
                rw [List.take_add_one, hyH.out] at hz
                simp at hz
                rcases hz with hz | rfl
                · exact hall2.out z hz hxz
                · exact Classical.byContradiction fun h => hbad ⟨hxz, h⟩
              by_cases hxy : x = y
              · have hxe : x = ByteArray.empty := Classical.byContradiction fun h => hbad ⟨hxy, h⟩
                have t5 : (x.toList == y.toList) = true := by rw [beq_str]; simpa using hxy
                have t6 : x.toList.isEmpty = true := by rw [hxe, empty_list]; rfl
                have t7 : (!x.toList.isEmpty) = false := by rw [t6]; rfl
                clear hbad hxy hxe
                go_wp2
                go_quiet (fail)
                go_wp2
                go_roundw
                case rel => exact ⟨j + 1, by omega, by go_num, hnx, _, rfl⟩
                case measure => simp [intOf]; omega
              · have t5 : (x.toList == y.toList) = false := by rw [beq_str]; simpa using hxy
                clear hbad hxy
                go_wp2
                go_quiet (fail)
                go_wp2
                go_roundw
                case rel => exact ⟨j + 1, by omega, by go_num, hnx, _, rfl⟩
                case measure => simp [intOf]; omega
          · have t3 : ¬ (j : Int) < 3 := by omega
            have hnx : Hid (∀ z ∈ a.ids.take (k + 1), ∀ y ∈ b.ids, z = y → z = ByteArray.empty) := by
              intro z hz y hy hzy
              rw [List.take_add_one, hxH.out] at hz
              simp at hz
              rcases hz with hz | rfl
              · exact hall.out z hz y hy hzy
              · exact hall2.out y (by rw [List.take_of_length_le (by rw [hlB.out]; omega)]; exact hy) hzy
            clear hlt2
            go_wp2
            go_roundw
            case rel => exact ⟨k + 1, by omega, by go_num, hnx, _, rfl⟩
            case measure => simp [intOf]; omega
      · have t3 : ¬ (k : Int) < 3 := by omega
        have hfin : Hid (apartB a b = true) := by
          rw [Hid, apartB_iff]
          intro x hx
          exact hall.out x (by rw [List.take_of_length_le (by rw [hlA.out]; omega)]; exact hx)
        clear hlt
        go_wp2
        go_ret
        exact ⟨by rw [hfin.out]; rfl, by simp [hfr]⟩
end Go.Proofs.Ytcolfgnjmnapkaa
