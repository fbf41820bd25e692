/-
  No cell of these rows narrows 'for every input' (looked for: loops, veiled, ifaces, maps, wideKeys, modest, calm, conditions, laid).
  DERIVED. THE GIVEN ROWS OF THIS SEAT. 6 by the template 'for every input the law returns true; each argument reads behind the call as it read before'; 0 by the template 'total and deterministic' (their statements: YtheogcihnclehaaTotals.lean).
  GIVEN WITH THE SEED: the statements are not yours to turn. If you find one false, say at which input.
  Laid BY PROGRAM, IN A SANDBOX (cutbox-rows.mjs): the forced cells as the released guide's own fill.sh prints them over the translation 269d4c210641d490… (all of the seat's roots in one cut). By AI agents, Wed Nov 11 2026. No macro, syntax, notation, axiom, sorry.
-/
import Derived.Test.YtheogcihnclehaaChecked
import GoSem.Claim
import GoSem.ClaimJoined
import GoSem.ClaimMapViews
import Derived.JoinedTies
import Derived.KernelRfl
namespace Go.Proofs.Ytheogcihnclehaa
/- THE CELL 'sum', in the pinned program and in every row, IS THE sha256 OF THE DUMP (.gsa) THAT YtheogcihnclehaaProg.lean LOADS. Nothing in Lean hashes anything: it is a label: what it is worth is what the hold of that sum in a sandbox is worth. -/
noncomputable def Try.pinned : Pinned := { name := "ytheogcihnclehaa", sum := "269d4c210641d49081d071e3873c740c6834fc0886e1d080911522988161869c", checked := Try.checked }
namespace Rows
def none {H : Type} : Left H := { results := [], args := [] }

/-- 'planispherelaw52.NetMatchesReference': WHATEVER THE INPUT: true; the input reads as it did. -/
def netMatchesReferenceSpec : ChangeSpec := { name := "netMatchesReference", fn := fun _ => fun
  | [d1, d2] => { results := [.lit (.bool true)], args := [d1, d2] }
  | _ => none }
def netMatchesReferenceRow : OpenClaim := { program := "ytheogcihnclehaa", sum := "269d4c210641d49081d071e3873c740c6834fc0886e1d080911522988161869c", func := "planisphere/planispherelaw52.NetMatchesReference", spec := "netMatchesReference", plainKeys := false, apart := false }
def NetMatchesReferenceSaid : Prop := netMatchesReferenceRow.holds Try.pinned (OpenSpec.ofChange netMatchesReferenceSpec)

/-- ITS FALSE NEIGHBOUR: 'it returns false'. Refute it at one input. -/
def netMatchesReferenceWrong : ChangeSpec := { name := "netMatchesReference", fn := fun _ => fun
  | [d1, d2] => { results := [.lit (.bool false)], args := [d1, d2] }
  | _ => none }
def NetMatchesReferenceWrongFalsely : Prop := netMatchesReferenceRow.holds Try.pinned (OpenSpec.ofChange netMatchesReferenceWrong)

/-- 'planispherelaw52.NetFull': WHATEVER THE INPUT: true; the input reads as it did. -/
def netFullSpec : ChangeSpec := { name := "netFull", fn := fun _ => fun
  | [d1, d2, d3] => { results := [.lit (.bool true)], args := [d1, d2, d3] }
  | _ => none }
def netFullRow : OpenClaim := { program := "ytheogcihnclehaa", sum := "269d4c210641d49081d071e3873c740c6834fc0886e1d080911522988161869c", func := "planisphere/planispherelaw52.NetFull", spec := "netFull", plainKeys := false, apart := false }
def NetFullSaid : Prop := netFullRow.holds Try.pinned (OpenSpec.ofChange netFullSpec)

/-- ITS FALSE NEIGHBOUR: 'it returns false'. Refute it at one input. -/
def netFullWrong : ChangeSpec := { name := "netFull", fn := fun _ => fun
  | [d1, d2, d3] => { results := [.lit (.bool false)], args := [d1, d2, d3] }
  | _ => none }
def NetFullWrongFalsely : Prop := netFullRow.holds Try.pinned (OpenSpec.ofChange netFullWrong)

/-- 'planispherelaw52.NetDelivers': WHATEVER THE INPUT: true; the input reads as it did. -/
def netDeliversSpec : ChangeSpec := { name := "netDelivers", fn := fun _ => fun
  | [d] => { results := [.lit (.bool true)], args := [d] }
  | _ => none }
def netDeliversRow : OpenClaim := { program := "ytheogcihnclehaa", sum := "269d4c210641d49081d071e3873c740c6834fc0886e1d080911522988161869c", func := "planisphere/planispherelaw52.NetDelivers", spec := "netDelivers", plainKeys := false, apart := false }
def NetDeliversSaid : Prop := netDeliversRow.holds Try.pinned (OpenSpec.ofChange netDeliversSpec)

/-- ITS FALSE NEIGHBOUR: 'it returns false'. Refute it at one input. -/
def netDeliversWrong : ChangeSpec := { name := "netDelivers", fn := fun _ => fun
  | [d] => { results := [.lit (.bool false)], args := [d] }
  | _ => none }
def NetDeliversWrongFalsely : Prop := netDeliversRow.holds Try.pinned (OpenSpec.ofChange netDeliversWrong)

/-- 'planispherelaw52.NetPairs': WHATEVER THE INPUT: true; the input reads as it did. -/
def netPairsSpec : ChangeSpec := { name := "netPairs", fn := fun _ => fun
  | [d1, d2, d3] => { results := [.lit (.bool true)], args := [d1, d2, d3] }
  | _ => none }
def netPairsRow : OpenClaim := { program := "ytheogcihnclehaa", sum := "269d4c210641d49081d071e3873c740c6834fc0886e1d080911522988161869c", func := "planisphere/planispherelaw52.NetPairs", spec := "netPairs", plainKeys := false, apart := false }
def NetPairsSaid : Prop := netPairsRow.holds Try.pinned (OpenSpec.ofChange netPairsSpec)

/-- ITS FALSE NEIGHBOUR: 'it returns false'. Refute it at one input. -/
def netPairsWrong : ChangeSpec := { name := "netPairs", fn := fun _ => fun
  | [d1, d2, d3] => { results := [.lit (.bool false)], args := [d1, d2, d3] }
  | _ => none }
def NetPairsWrongFalsely : Prop := netPairsRow.holds Try.pinned (OpenSpec.ofChange netPairsWrong)

/-- 'planispherelaw52.NetCuts': WHATEVER THE INPUT: true; the input reads as it did. -/
def netCutsSpec : ChangeSpec := { name := "netCuts", fn := fun _ => fun
  | [d1, d2, d3, d4] => { results := [.lit (.bool true)], args := [d1, d2, d3, d4] }
  | _ => none }
def netCutsRow : OpenClaim := { program := "ytheogcihnclehaa", sum := "269d4c210641d49081d071e3873c740c6834fc0886e1d080911522988161869c", func := "planisphere/planispherelaw52.NetCuts", spec := "netCuts", plainKeys := false, apart := false }
def NetCutsSaid : Prop := netCutsRow.holds Try.pinned (OpenSpec.ofChange netCutsSpec)

/-- ITS FALSE NEIGHBOUR: 'it returns false'. Refute it at one input. -/
def netCutsWrong : ChangeSpec := { name := "netCuts", fn := fun _ => fun
  | [d1, d2, d3, d4] => { results := [.lit (.bool false)], args := [d1, d2, d3, d4] }
  | _ => none }
def NetCutsWrongFalsely : Prop := netCutsRow.holds Try.pinned (OpenSpec.ofChange netCutsWrong)

/-- 'planispherelaw52.NetRefuses': WHATEVER THE INPUT: true; the input reads as it did. -/
def netRefusesSpec : ChangeSpec := { name := "netRefuses", fn := fun _ => fun
  | [d1, d2] => { results := [.lit (.bool true)], args := [d1, d2] }
  | _ => none }
def netRefusesRow : OpenClaim := { program := "ytheogcihnclehaa", sum := "269d4c210641d49081d071e3873c740c6834fc0886e1d080911522988161869c", func := "planisphere/planispherelaw52.NetRefuses", spec := "netRefuses", plainKeys := false, apart := false }
def NetRefusesSaid : Prop := netRefusesRow.holds Try.pinned (OpenSpec.ofChange netRefusesSpec)

/-- ITS FALSE NEIGHBOUR: 'it returns false'. Refute it at one input. -/
def netRefusesWrong : ChangeSpec := { name := "netRefuses", fn := fun _ => fun
  | [d1, d2] => { results := [.lit (.bool false)], args := [d1, d2] }
  | _ => none }
def NetRefusesWrongFalsely : Prop := netRefusesRow.holds Try.pinned (OpenSpec.ofChange netRefusesWrong)

/- THE SECOND FORM. 'bulk': how many values and letters a reading holds, each counted each time it is reached (what is shared counts as often as it is met; a slice's spare places count too). A statement '..UptoSaid' is the law's where the arguments, and the package variables that the reading takes, are together of bulk at most 1048576: NARROWER than '..Said'. Prove '..Said' where nothing that the law and all that it calls make is longer than what came in: it says more and counts as full. Else prove '..UptoSaid'. A law counts once. -/
mutual
def uptoBulk {H : Type} : DataW H → Nat
  | .lit (.string bytes) => bytes.length + 1
  | .lit _ => 1
  | .nil => 1
  | .ptr d => uptoBulk d + 1
  | .slice elems spare => uptoBulkAll elems + uptoBulkAll spare + 1
  | .agg parts => uptoBulkAll parts + 1
  | .iface _ d => uptoBulk d + 1
  | .map entries => uptoBulkEntries entries + 1
  | .held _ => 1
def uptoBulkAll {H : Type} : List (DataW H) → Nat
  | [] => 0
  | d :: r => uptoBulk d + uptoBulkAll r
def uptoBulkEntries {H : Type} : List (Lit × DataW H) → Nat
  | [] => 0
  | x :: r => uptoBulkEntry x + uptoBulkEntries r
def uptoBulkEntry {H : Type} : Lit × DataW H → Nat
  | (.string bytes, d) => bytes.length + uptoBulk d + 1
  | (_, d) => uptoBulk d + 1
 end
def uptoSmall : (H : Type) → List (DataW H) → Bool := fun _ ds => decide (uptoBulkAll ds ≤ 1048576)
def OpenSpec.upto (s : _root_.Go.ChangeSpec) : _root_.Go.OpenSpec := { _root_.Go.OpenSpec.ofChange s with cond := some uptoSmall }

/-- 'planispherelaw52.NetMatchesReference', WHERE WHAT IT READS IS OF BULK AT MOST 1048576: true; the input reads as it did. -/
def netMatchesReferenceUptoRow : OpenClaim := { program := "ytheogcihnclehaa", sum := "269d4c210641d49081d071e3873c740c6834fc0886e1d080911522988161869c", func := "planisphere/planispherelaw52.NetMatchesReference", spec := "netMatchesReference", plainKeys := false, apart := false, narrowed := true }
def NetMatchesReferenceUptoSaid : Prop := netMatchesReferenceUptoRow.holds Try.pinned (OpenSpec.upto netMatchesReferenceSpec)

/-- 'planispherelaw52.NetFull', WHERE WHAT IT READS IS OF BULK AT MOST 1048576: true; the input reads as it did. -/
def netFullUptoRow : OpenClaim := { program := "ytheogcihnclehaa", sum := "269d4c210641d49081d071e3873c740c6834fc0886e1d080911522988161869c", func := "planisphere/planispherelaw52.NetFull", spec := "netFull", plainKeys := false, apart := false, narrowed := true }
def NetFullUptoSaid : Prop := netFullUptoRow.holds Try.pinned (OpenSpec.upto netFullSpec)

/-- 'planispherelaw52.NetDelivers', WHERE WHAT IT READS IS OF BULK AT MOST 1048576: true; the input reads as it did. -/
def netDeliversUptoRow : OpenClaim := { program := "ytheogcihnclehaa", sum := "269d4c210641d49081d071e3873c740c6834fc0886e1d080911522988161869c", func := "planisphere/planispherelaw52.NetDelivers", spec := "netDelivers", plainKeys := false, apart := false, narrowed := true }
def NetDeliversUptoSaid : Prop := netDeliversUptoRow.holds Try.pinned (OpenSpec.upto netDeliversSpec)

/-- 'planispherelaw52.NetPairs', WHERE WHAT IT READS IS OF BULK AT MOST 1048576: true; the input reads as it did. -/
def netPairsUptoRow : OpenClaim := { program := "ytheogcihnclehaa", sum := "269d4c210641d49081d071e3873c740c6834fc0886e1d080911522988161869c", func := "planisphere/planispherelaw52.NetPairs", spec := "netPairs", plainKeys := false, apart := false, narrowed := true }
def NetPairsUptoSaid : Prop := netPairsUptoRow.holds Try.pinned (OpenSpec.upto netPairsSpec)

/-- 'planispherelaw52.NetCuts', WHERE WHAT IT READS IS OF BULK AT MOST 1048576: true; the input reads as it did. -/
def netCutsUptoRow : OpenClaim := { program := "ytheogcihnclehaa", sum := "269d4c210641d49081d071e3873c740c6834fc0886e1d080911522988161869c", func := "planisphere/planispherelaw52.NetCuts", spec := "netCuts", plainKeys := false, apart := false, narrowed := true }
def NetCutsUptoSaid : Prop := netCutsUptoRow.holds Try.pinned (OpenSpec.upto netCutsSpec)

/-- 'planispherelaw52.NetRefuses', WHERE WHAT IT READS IS OF BULK AT MOST 1048576: true; the input reads as it did. -/
def netRefusesUptoRow : OpenClaim := { program := "ytheogcihnclehaa", sum := "269d4c210641d49081d071e3873c740c6834fc0886e1d080911522988161869c", func := "planisphere/planispherelaw52.NetRefuses", spec := "netRefuses", plainKeys := false, apart := false, narrowed := true }
def NetRefusesUptoSaid : Prop := netRefusesUptoRow.holds Try.pinned (OpenSpec.upto netRefusesSpec)

end Rows
end Go.Proofs.Ytheogcihnclehaa
