/- The reference lineage's methods: small contracts that printed walks use. -/
import Derived.Test.YtcolfgnjmnapkaaRe
set_option linter.unusedVariables false
set_option linter.unusedSimpArgs false
namespace Go.Pl
theorem ret_nil {P : Program} {fn : Func} {R : Ending → World → Prop} {n : Nat} {L : List (Nat × Value)} {a : Act} {w : World} (hr : fn.results = #[]) (E : Env n L a) (h : R (.returned (.tuple #[])) w) : bodyPost P fn R .normal a w ∧ bodyPost P fn R .ret a w := by
  have : bodyPost P fn R .ret a w := by
    refine ⟨E.df, .tuple #[], ?_, h⟩
    unfold results
    rw [hr]
    simp
  exact ⟨this, this⟩
end Go.Pl
namespace Go.Proofs.Ytcolfgnjmnapkaa
open Go.RowKit Go.Pl
theorem RefAt.inC {w : World} {r : Nat} {σ : Nat → Prop} {R : RefS} {pv mv : Value} (h : RefAt w r σ R pv mv) (a : ByteArray) : Calls Try.prog 24 #[mv, .string a] w fun e w' => e = .returned (.bool (inB R.ms a)) ∧ Fr (fun _ => False) w w' := by
  obtain ⟨sm, gm, cm, km⟩ := strs_of h.hms
  exact (in_calls km a).mono fun e w' ⟨h1, h2⟩ => ⟨h1, h2 ▸ Fr.refl _ _⟩
theorem RefAt.pairC {w : World} {r : Nat} {σ : Nat → Prop} {R : RefS} {pv mv : Value} (h : RefAt w r σ R pv mv) (a b : ByteArray) : Calls Try.prog 32 #[.pointer (some ⟨r, 0, none⟩), .string a, .string b] w fun e w' => e = .returned (.bool (pairB R a b)) ∧ Fr (fun _ => False) w w' :=
  (pair_calls h a b).mono fun e w' ⟨h1, h2⟩ => ⟨h1, h2 ▸ Fr.refl _ _⟩
theorem RefAt.c0 {w : World} {r : Nat} {σ : Nat → Prop} {R : RefS} {pv mv : Value} (h : RefAt w r σ R pv mv) : w.cell? ⟨r, 0, none⟩ = some pv := by rw [cell_of_blk h.hp]; rfl
theorem RefAt.c1 {w : World} {r : Nat} {σ : Nat → Prop} {R : RefS} {pv mv : Value} (h : RefAt w r σ R pv mv) : w.cell? ⟨r, 1, none⟩ = some mv := by rw [cell_of_blk h.hp]; rfl
noncomputable def menR (R : RefS) (a : ByteArray) : RefS := if inB R.ms a = true then R else ⟨R.ps ++ [(a, a)], R.ms ++ [a]⟩
noncomputable def addR (R : RefS) (a b : ByteArray) : RefS := if pairB R a b = true then R else ⟨R.ps ++ [(a, b)], R.ms⟩
noncomputable def dropR (R : RefS) (a : ByteArray) : RefS := ⟨R.ps.filter (fun x => !decide (x.2 = a)), R.ms⟩
/-- As RPost; the mentioned Ids' field stays. -/
def RPostM (r : Nat) (σ : Nat → Prop) (R' : RefS) (v mv : Value) (w : World) (e : Ending) (w' : World) : Prop :=
  e = .returned v ∧ ∃ σ', (∃ pv', RefAt w' r σ' R' pv' mv) ∧ Fr σ w w' ∧ ∀ k, k < w.heap.size → σ' k → σ k
theorem RefAt.msrc' {w : World} {r : Nat} {σ : Nat → Prop} {R : RefS} {pv : Value} {p : Option Addr} {n c : Nat} (h : RefAt w r σ R pv (.slice p n c)) : n = R.ms.length ∧ srcAt strC 1 w w.heap.size p R.ms := by
  obtain ⟨p', c', h1, _, _, h2, _⟩ := h.msrc
  have h3 := Value.slice.inj h1
  exact ⟨h3.2.1, h3.1 ▸ h2⟩
end Go.Proofs.Ytcolfgnjmnapkaa
