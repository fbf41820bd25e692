/- The lineage as it lies in memory; New, of, has, mention. -/
import Derived.Test.YtcolfgnjmnapkaaRows
import Derived.Test.YtcolfgnjmnapkaaBase
import Derived.Deep.QuietTactic
import Derived.BigQuiet
import Derived.Lib.Hide
import Derived.StringKeys
import Derived.Deep.RegionLaw
namespace Go.Proofs.Ytcolfgnjmnapkaa
open Go.RowKit Go.Pl Go.WideMaps

theorem Try.laidOut : laidOutB Try.prog = true := by kernel_rfl
theorem law9 : Maps.Keyed Try.prog 9 := Maps.string_keyed Try.underlying9
theorem key9 {s : ByteArray} (h : s.size ≤ maxLen) : ∃ l, keyOf Try.prog 9 (.string s) = some l := ⟨_, keyOf_string_mk Try.underlying9 h⟩
theorem key9_of {k : Value} {l : Lit} (h : keyOf Try.prog 9 k = some l) : ∃ s : ByteArray, k = .string s ∧ s.size ≤ maxLen := by
  obtain ⟨x, rfl, _, h2⟩ := Maps.keyOf_str Try.underlying9 h
  exact ⟨⟨x.toArray⟩, rfl, by show (x.toArray).size ≤ _; simpa using h2⟩
theorem zero60 (w : World) : (zeroValue 60).run Try.prog w = .ok (.map none) w := by kernel_rfl
theorem zero4 (w : World) : (zeroValue 4).run Try.prog w = .ok (.bool false) w := by kernel_rfl

/-- What became of objects: the Ids that are mentioned, and the parts of each Id. -/
structure LinS where
  men : ByteArray → Bool
  pt : ByteArray → ByteArray → Bool
def LinS.new : LinS := ⟨fun _ => false, fun a x => decide (a = x)⟩

def setM (s : ByteArray → Bool) : Value → Option Value
  | .string x => if s x = true then some (.bool true) else none
  | _ => none
theorem setM_str (s : ByteArray → Bool) (x : ByteArray) : setM s (.string x) = if s x = true then some (.bool true) else none := rfl
theorem setM_upd (s : ByteArray → Bool) (x : ByteArray) : upd (setM s) (.string x) (.bool true) = setM fun y => s y || decide (y = x) := by
  funext k
  cases k with
  | string y =>
    by_cases h : y = x
    · subst h; rw [upd_same]; simp [setM]
    · rw [upd_other _ (by simpa using h)]; simp [setM, h]
  | _ => rw [upd_other _ (by simp)]; rfl
theorem setM_del (s : ByteArray → Bool) (x : ByteArray) : del (setM s) (.string x) = setM fun y => s y && !decide (y = x) := by
  funext k
  cases k with
  | string y =>
    by_cases h : y = x
    · subst h; rw [del_same]; simp [setM]
    · rw [del_other _ (by simpa using h)]; simp [setM, h]
  | _ => rw [del_other _ (by simp)]; rfl
theorem setM_one (x : ByteArray) : upd (fun _ => none) (.string x) (.bool true) = setM fun y => decide (x = y) := by
  funext k
  cases k with
  | string y =>
    by_cases h : y = x
    · subst h; rw [upd_same]; simp [setM]
    · rw [upd_other _ (by simpa using h)]; simp [setM, Ne.symm h]
  | _ => rw [upd_other _ (by simp)]; rfl

abbrev Roles := Nat → Option (Nat × ByteArray)
abbrev Fp (ρ : Roles) : Nat → Prop := fun r => ρ r ≠ none
/-- The roles grow by new blocks alone. -/
def Grows (w : World) (ρ ρ' : Roles) : Prop := ∀ r, r < w.heap.size → ρ' r ≠ none → ρ r ≠ none

def PAt (w : World) (ρ : Roles) (N : Nat) (a : ByteArray) (x : Option Value) (S : LinS) : Prop :=
  (x = none ∧ S.men a = false ∧ ∀ y, S.pt a y = decide (a = y)) ∨ ∃ b, x = some (.map (some b)) ∧ S.men a = true ∧ ρ b = some (2, a) ∧ MapN Try.prog 9 w b N (setM (S.pt a))

/-- The lineage S lies at block p; N bounds its maps. -/
structure LinR (w : World) (p mp N : Nat) (f : Value → Option Value) (ρ : Roles) (S : LinS) : Prop where
  hp : w.heap[p]? = some (.cells #[.map (some mp)] 55 (0, 0))
  rp : ρ p = some (0, ByteArray.empty)
  rm : ρ mp = some (1, ByteArray.empty)
  hm : MapN Try.prog 9 w mp N f
  hS : ∀ a, PAt w ρ N a (f (.string a)) S
  lt : ∀ r, ρ r ≠ none → r < w.heap.size
  n1 : 1 ≤ N
def LinAt (w : World) (p N : Nat) (ρ : Roles) (S : LinS) : Prop := ∃ mp f, LinR w p mp N f ρ S
def LPost (p N : Nat) (ρ : Roles) (S' : LinS) (v : Value) (w : World) (e : Ending) (w' : World) : Prop := e = .returned v ∧ ∃ ρ', LinAt w' p N ρ' S' ∧ Fr (Fp ρ) w w' ∧ Grows w ρ ρ'

theorem PAt.fr {w w' : World} {ρ : Roles} {N : Nat} {a x S} (h : PAt w ρ N a x S) {F : Nat → Prop} (hf : Fr F w w') (hd : ∀ r, ρ r ≠ none → ¬ F r) : PAt w' ρ N a x S := by
  rcases h with h | ⟨b, h1, h2, h3, h4⟩
  · exact .inl h
  · exact .inr ⟨b, h1, h2, h3, h4.fr hf (hd b (by rw [h3]; simp))⟩
theorem LinR.fr {w w' : World} {p mp N f ρ S} (h : LinR w p mp N f ρ S) {F : Nat → Prop} (hf : Fr F w w') (hd : ∀ r, ρ r ≠ none → ¬ F r) : LinR w' p mp N f ρ S :=
  ⟨hf.obj h.hp (hd p (by rw [h.rp]; simp)), h.rp, h.rm, h.hm.fr hf (hd mp (by rw [h.rm]; simp)), fun a => (h.hS a).fr hf hd, fun r hr => Nat.lt_of_lt_of_le (h.lt r hr) hf.size, h.n1⟩
theorem LinAt.fr {w w' : World} {p N ρ S} (h : LinAt w p N ρ S) {F : Nat → Prop} (hf : Fr F w w') (hd : ∀ r, ρ r ≠ none → ¬ F r) : LinAt w' p N ρ S := by
  obtain ⟨mp, f, h⟩ := h; exact ⟨mp, f, h.fr hf hd⟩
theorem PAt.mono {w : World} {ρ : Roles} {N N' : Nat} {a x S} (h : PAt w ρ N a x S) (hn : N ≤ N') : PAt w ρ N' a x S := by
  rcases h with h | ⟨b, h1, h2, h3, h4⟩
  · exact .inl h
  · exact .inr ⟨b, h1, h2, h3, h4.mono hn⟩
theorem LinR.mono {w : World} {p mp N N' f ρ S} (h : LinR w p mp N f ρ S) (hn : N ≤ N') : LinR w p mp N' f ρ S :=
  ⟨h.hp, h.rp, h.rm, h.hm.mono hn, fun a => (h.hS a).mono hn, h.lt, Nat.le_trans h.n1 hn⟩
theorem LinAt.mono {w : World} {p N N' ρ S} (h : LinAt w p N ρ S) (hn : N ≤ N') : LinAt w p N' ρ S := by
  obtain ⟨mp, f, h⟩ := h; exact ⟨mp, f, h.mono hn⟩
theorem LinAt.lt {w : World} {p N ρ S} (h : LinAt w p N ρ S) : ∀ r, ρ r ≠ none → r < w.heap.size := by obtain ⟨_, _, h⟩ := h; exact h.lt
theorem LinR.cp {w : World} {p mp N f ρ S} (h : LinR w p mp N f ρ S) : w.cell? ⟨p, 0, none⟩ = some (.map (some mp)) := by rw [cell_of_blk h.hp]; rfl
/-- Every entry of the map of parts is an Id's set. -/
theorem LinR.entry {w : World} {p mp N f ρ S} (h : LinR w p mp N f ρ S) {k v : Value} (hk : f k = some v) : ∃ a b, k = .string a ∧ a.size ≤ maxLen ∧ v = .map (some b) ∧ S.men a = true ∧ ρ b = some (2, a) ∧ MapN Try.prog 9 w b N (setM (S.pt a)) := by
  obtain ⟨es, c, hb, he, _⟩ := h.hm
  obtain ⟨e, he1, he2, he3⟩ := (he.at_ k v).1 hk
  obtain ⟨l, hl⟩ := he.keys e he1
  rw [he2] at hl
  obtain ⟨a, rfl, ha⟩ := key9_of hl
  rcases h.hS a with ⟨h1, _⟩ | ⟨b, h1, h2, h3, h4⟩
  · rw [hk] at h1; cases h1
  · rw [hk] at h1; cases h1
    exact ⟨a, b, rfl, ha, rfl, h2, h3, h4⟩
theorem LinR.men {w : World} {p mp N f ρ S} (h : LinR w p mp N f ρ S) (a : ByteArray) : (f (.string a)).isSome = S.men a := by
  rcases h.hS a with ⟨h1, h2, _⟩ | ⟨b, h1, h2, _⟩ <;> rw [h1, h2] <;> rfl
/-- An Id's parts have the model's size. -/
theorem MapN.key_le {w : World} {b n : Nat} {m} (h : MapN Try.prog 9 w b n m) {x : ByteArray} (hx : m (.string x) ≠ none) : x.size ≤ maxLen := by
  obtain ⟨es, c, hb, he, _⟩ := h
  cases hm : m (.string x) with
  | none => exact absurd hm hx
  | some v =>
    obtain ⟨e, he1, he2, he3⟩ := (he.at_ _ v).1 hm
    obtain ⟨l, hl⟩ := he.keys e he1
    rw [he2] at hl
    obtain ⟨a, ha1, ha⟩ := key9_of hl
    cases ha1
    exact ha

def OfPost (a : ByteArray) (f : Value → Option Value) (N : Nat) (S : LinS) (w : World) (e : Ending) (w' : World) : Prop :=
  ∃ b, e = .returned (.map (some b)) ∧ MapN Try.prog 9 w' b N (setM (S.pt a)) ∧ Fr (fun _ => False) w w' ∧ (f (.string a) = some (.map (some b)) ∨ f (.string a) = none ∧ w.heap.size ≤ b)

set_option maxHeartbeats 400000 in
theorem of_has (p mp b : Nat) (a : ByteArray) (w : World) (h0 : w.cell? ⟨p, 0, none⟩ = some (.map (some mp)))
   (hlk : (Instr.lookup 53 (.map (some mp)) (.string a) true).run Try.prog w = .ok (.tuple #[.map (some b), .bool true]) w) :
    Calls Try.prog 29 #[.pointer (some ⟨p, 0, none⟩), .string a] w fun e w' => e = .returned (.map (some b)) ∧ w = w' := by
  go_enter Try.func29, Try.ntmps29
  go_wp2
  go_ret
  exact ⟨rfl, rfl⟩

set_option maxHeartbeats 400000 in
theorem of_new (p mp : Nat) (a : ByteArray) (w w' : World) (h0 : w.cell? ⟨p, 0, none⟩ = some (.map (some mp)))
   (hlk : (Instr.lookup 53 (.map (some mp)) (.string a) true).run Try.prog w = .ok (.tuple #[.map none, .bool false]) w) 
   (hup : (Instr.mapUpdate 60 (.map (some w.heap.size)) (.string a) (.bool true)).run Try.prog (w.alloc (.map #[] 0)) = .ok () w') :
    Calls Try.prog 29 #[.pointer (some ⟨p, 0, none⟩), .string a] w fun e w'' => e = .returned (.map (some w.heap.size)) ∧ w' = w'' := by
  have hmm := @run_makeMap Try.prog
  go_enter Try.func29, Try.ntmps29
  go_wp2
  go_ret
  exact ⟨rfl, rfl⟩

theorem of_calls {w : World} {p mp N : Nat} {f ρ S} (h : LinR w p mp N f ρ S) {a : ByteArray} (ha : a.size ≤ maxLen) :
    Calls Try.prog 29 #[.pointer (some ⟨p, 0, none⟩), .string a] w (OfPost a f N S w) := by
  obtain ⟨l, hk⟩ := key9 ha
  have hlk := h.hm.at.look_ok law9 Try.underlying53 hk (zero60 w)
  rcases h.hS a with ⟨h1, h2, h3⟩ | ⟨b, h1, h2, h3, h4⟩
  · rw [h1] at hlk
    obtain ⟨o, ho⟩ := (MapN.made (P := Try.prog) (K := 9) w).store law9 Try.underlying60 hk (.bool true)
    obtain ⟨g1, g2⟩ := ho (w.alloc (.map #[] 0)) rfl
    refine (of_new p mp a w _ h.cp hlk g1).mono ?_
    rintro e w' ⟨rfl, rfl⟩
    refine ⟨_, rfl, (g2.mono h.n1).congr fun k => ?_, (by simp : Fr (fun _ => False) w (w.alloc (.map #[] 0))).setBlk (fun x => absurd x (by omega)) _, .inr ⟨h1, Nat.le_refl _⟩⟩
    rw [setM_one]
    exact congrArg (fun s => setM s k) (funext fun y => (h3 y).symm)
  · rw [h1] at hlk
    refine (of_has p mp b a w h.cp hlk).mono ?_
    rintro e w' ⟨rfl, rfl⟩
    exact ⟨b, rfl, h4, Fr.refl _ _, .inl h1⟩

theorem look_set {w : World} {b N : Nat} {s : ByteArray → Bool} (h : MapN Try.prog 9 w b N (setM s)) {x : ByteArray} (hx : x.size ≤ maxLen) :
    (Instr.lookup 60 (.map (some b)) (.string x) false).run Try.prog w = .ok (.bool (s x)) w := by
  obtain ⟨l, hk⟩ := key9 hx
  rw [h.at.look law9 Try.underlying60 hk (zero4 w), setM_str]
  cases s x <;> rfl

theorem has_calls {w : World} {b N : Nat} {s : ByteArray → Bool} (h : MapN Try.prog 9 w b N (setM s)) {x : ByteArray} (hx : x.size ≤ maxLen) :
    Calls Try.prog 30 #[.map (some b), .string x] w fun e w' => e = .returned (.bool (s x)) ∧ w = w' := by
  have hlk := look_set h hx
  clear h hx
  go_enter Try.func30, Try.ntmps30
  go_wp2
  go_ret
  exact ⟨rfl, rfl⟩

def NewPost (w : World) (e : Ending) (w' : World) : Prop := ∃ p ρ, e = .returned (.pointer (some ⟨p, 0, none⟩)) ∧ LinAt w' p 1 ρ LinS.new ∧ Fr (fun _ => False) w w' ∧ ∀ r, ρ r ≠ none → w.heap.size ≤ r
theorem new_calls (w : World) : Calls Try.prog 12 #[] w (NewPost w) := by
  have hfin : Hid (NewPost w (.returned (.pointer (some ⟨w.heap.size + 1, 0, none⟩))) ((w.alloc (.map #[] 0)).alloc (.cells #[.map (some w.heap.size)] 55))) := by
    refine ⟨_, fun r => if r = w.heap.size + 1 then some (0, ByteArray.empty) else if r = w.heap.size then some (1, ByteArray.empty) else none, rfl, ⟨w.heap.size, fun _ => none, ?_, by simp, by simp, ?_, fun a => .inl ⟨rfl, rfl, fun _ => rfl⟩, fun r hr => ?_, Nat.le_refl _⟩, by simp, fun r hr => ?_⟩
    · exact blk_alloc_at (by simp) _
    · exact ((MapN.made w).mono (Nat.zero_le _)).of_blk (blk_alloc (by simp) _)
    · by_cases h1 : r = w.heap.size + 1
      · simp; omega
      · by_cases h2 : r = w.heap.size
        · simp; omega
        · simp [h1, h2] at hr
    · by_cases h1 : r = w.heap.size + 1
      · omega
      · by_cases h2 : r = w.heap.size
        · omega
        · simp [h1, h2] at hr
  have hmm := @run_makeMap Try.prog
  go_enter Try.func12, Try.ntmps12
  go_wp2
  go_ret
  exact hfin.out
end Go.Proofs.Ytcolfgnjmnapkaa
