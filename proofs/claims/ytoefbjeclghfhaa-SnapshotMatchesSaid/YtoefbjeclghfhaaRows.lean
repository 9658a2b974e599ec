/-
  No cell of these rows narrows 'for every input' (looked for: loops, veiled, ifaces, maps, wideKeys, modest, calm, conditions, laid).
  DERIVED. THE GIVEN ROWS OF THIS SEAT. 7 by the template 'for every input the law returns true; each argument reads behind the call as it read before'; 0 by the template 'total and deterministic' (their statements: YtoefbjeclghfhaaTotals.lean).
  GIVEN WITH THE SEED: the statements are not yours to turn. If you find one false, say at which input.
  Laid BY PROGRAM, IN A SANDBOX (cutbox-rows.mjs): the forced cells as the released guide's own fill.sh prints them over the translation b74d3d1967487644… (all of the seat's roots in one cut). By AI agents, Wed Nov 11 2026. No macro, syntax, notation, axiom, sorry.
-/
import Derived.Test.YtoefbjeclghfhaaChecked
import GoSem.Claim
import GoSem.ClaimJoined
import GoSem.ClaimMapViews
import Derived.JoinedTies
import Derived.KernelRfl
namespace Go.Proofs.Ytoefbjeclghfhaa
/- THE CELL 'sum', in the pinned program and in every row, IS THE sha256 OF THE DUMP (.gsa) THAT YtoefbjeclghfhaaProg.lean LOADS. Nothing in Lean hashes anything: it is a label: what it is worth is what the hold of that sum in a sandbox is worth. -/
noncomputable def Try.pinned : Pinned := { name := "ytoefbjeclghfhaa", sum := "b74d3d196748764410f9d9e3f136a71cc6d62f8b1dc3cb1516f8d21253566dee", checked := Try.checked }
namespace Rows
def none {H : Type} : Left H := { results := [], args := [] }

/-- 'disjointlaw38.SnapshotDivide': WHATEVER THE INPUT: true; the input reads as it did. -/
def snapshotDivideSpec : ChangeSpec := { name := "snapshotDivide", fn := fun _ => fun
  | [d] => { results := [.lit (.bool true)], args := [d] }
  | _ => none }
def snapshotDivideRow : OpenClaim := { program := "ytoefbjeclghfhaa", sum := "b74d3d196748764410f9d9e3f136a71cc6d62f8b1dc3cb1516f8d21253566dee", func := "disjoint/disjointlaw38.SnapshotDivide", spec := "snapshotDivide", apart := false }
def SnapshotDivideSaid : Prop := snapshotDivideRow.holds Try.pinned (OpenSpec.ofChange snapshotDivideSpec)

/-- ITS FALSE NEIGHBOUR: 'it returns false'. Refute it at one input. -/
def snapshotDivideWrong : ChangeSpec := { name := "snapshotDivide", fn := fun _ => fun
  | [d] => { results := [.lit (.bool false)], args := [d] }
  | _ => none }
def SnapshotDivideWrongFalsely : Prop := snapshotDivideRow.holds Try.pinned (OpenSpec.ofChange snapshotDivideWrong)

/-- 'disjointlaw38.SnapshotDamage': WHATEVER THE INPUT: true; the input reads as it did. -/
def snapshotDamageSpec : ChangeSpec := { name := "snapshotDamage", fn := fun _ => fun
  | [d1, d2, d3] => { results := [.lit (.bool true)], args := [d1, d2, d3] }
  | _ => none }
def snapshotDamageRow : OpenClaim := { program := "ytoefbjeclghfhaa", sum := "b74d3d196748764410f9d9e3f136a71cc6d62f8b1dc3cb1516f8d21253566dee", func := "disjoint/disjointlaw38.SnapshotDamage", spec := "snapshotDamage", apart := false }
def SnapshotDamageSaid : Prop := snapshotDamageRow.holds Try.pinned (OpenSpec.ofChange snapshotDamageSpec)

/-- ITS FALSE NEIGHBOUR: 'it returns false'. Refute it at one input. -/
def snapshotDamageWrong : ChangeSpec := { name := "snapshotDamage", fn := fun _ => fun
  | [d1, d2, d3] => { results := [.lit (.bool false)], args := [d1, d2, d3] }
  | _ => none }
def SnapshotDamageWrongFalsely : Prop := snapshotDamageRow.holds Try.pinned (OpenSpec.ofChange snapshotDamageWrong)

/-- 'disjointlaw38.SnapshotRoundTrip': WHATEVER THE INPUT: true; the input reads as it did. -/
def snapshotRoundTripSpec : ChangeSpec := { name := "snapshotRoundTrip", fn := fun _ => fun
  | [d] => { results := [.lit (.bool true)], args := [d] }
  | _ => none }
def snapshotRoundTripRow : OpenClaim := { program := "ytoefbjeclghfhaa", sum := "b74d3d196748764410f9d9e3f136a71cc6d62f8b1dc3cb1516f8d21253566dee", func := "disjoint/disjointlaw38.SnapshotRoundTrip", spec := "snapshotRoundTrip", apart := false }
def SnapshotRoundTripSaid : Prop := snapshotRoundTripRow.holds Try.pinned (OpenSpec.ofChange snapshotRoundTripSpec)

/-- ITS FALSE NEIGHBOUR: 'it returns false'. Refute it at one input. -/
def snapshotRoundTripWrong : ChangeSpec := { name := "snapshotRoundTrip", fn := fun _ => fun
  | [d] => { results := [.lit (.bool false)], args := [d] }
  | _ => none }
def SnapshotRoundTripWrongFalsely : Prop := snapshotRoundTripRow.holds Try.pinned (OpenSpec.ofChange snapshotRoundTripWrong)

/-- 'disjointlaw38.SnapshotFull': WHATEVER THE INPUT: true; the input reads as it did. -/
def snapshotFullSpec : ChangeSpec := { name := "snapshotFull", fn := fun _ => fun
  | [d1, d2] => { results := [.lit (.bool true)], args := [d1, d2] }
  | _ => none }
def snapshotFullRow : OpenClaim := { program := "ytoefbjeclghfhaa", sum := "b74d3d196748764410f9d9e3f136a71cc6d62f8b1dc3cb1516f8d21253566dee", func := "disjoint/disjointlaw38.SnapshotFull", spec := "snapshotFull", apart := false }
def SnapshotFullSaid : Prop := snapshotFullRow.holds Try.pinned (OpenSpec.ofChange snapshotFullSpec)

/-- ITS FALSE NEIGHBOUR: 'it returns false'. Refute it at one input. -/
def snapshotFullWrong : ChangeSpec := { name := "snapshotFull", fn := fun _ => fun
  | [d1, d2] => { results := [.lit (.bool false)], args := [d1, d2] }
  | _ => none }
def SnapshotFullWrongFalsely : Prop := snapshotFullRow.holds Try.pinned (OpenSpec.ofChange snapshotFullWrong)

/-- 'disjointlaw38.SnapshotWrites': WHATEVER THE INPUT: true; the input reads as it did. -/
def snapshotWritesSpec : ChangeSpec := { name := "snapshotWrites", fn := fun _ => fun
  | [d] => { results := [.lit (.bool true)], args := [d] }
  | _ => none }
def snapshotWritesRow : OpenClaim := { program := "ytoefbjeclghfhaa", sum := "b74d3d196748764410f9d9e3f136a71cc6d62f8b1dc3cb1516f8d21253566dee", func := "disjoint/disjointlaw38.SnapshotWrites", spec := "snapshotWrites", apart := false }
def SnapshotWritesSaid : Prop := snapshotWritesRow.holds Try.pinned (OpenSpec.ofChange snapshotWritesSpec)

/-- ITS FALSE NEIGHBOUR: 'it returns false'. Refute it at one input. -/
def snapshotWritesWrong : ChangeSpec := { name := "snapshotWrites", fn := fun _ => fun
  | [d] => { results := [.lit (.bool false)], args := [d] }
  | _ => none }
def SnapshotWritesWrongFalsely : Prop := snapshotWritesRow.holds Try.pinned (OpenSpec.ofChange snapshotWritesWrong)

/-- 'disjointlaw38.SnapshotMatches': WHATEVER THE INPUT: true; the input reads as it did. -/
def snapshotMatchesSpec : ChangeSpec := { name := "snapshotMatches", fn := fun _ => fun
  | [d1, d2] => { results := [.lit (.bool true)], args := [d1, d2] }
  | _ => none }
def snapshotMatchesRow : OpenClaim := { program := "ytoefbjeclghfhaa", sum := "b74d3d196748764410f9d9e3f136a71cc6d62f8b1dc3cb1516f8d21253566dee", func := "disjoint/disjointlaw38.SnapshotMatches", spec := "snapshotMatches", apart := false }
def SnapshotMatchesSaid : Prop := snapshotMatchesRow.holds Try.pinned (OpenSpec.ofChange snapshotMatchesSpec)

/-- ITS FALSE NEIGHBOUR: 'it returns false'. Refute it at one input. -/
def snapshotMatchesWrong : ChangeSpec := { name := "snapshotMatches", fn := fun _ => fun
  | [d1, d2] => { results := [.lit (.bool false)], args := [d1, d2] }
  | _ => none }
def SnapshotMatchesWrongFalsely : Prop := snapshotMatchesRow.holds Try.pinned (OpenSpec.ofChange snapshotMatchesWrong)

/-- 'disjointlaw38.SnapshotTorn': WHATEVER THE INPUT: true; the input reads as it did. -/
def snapshotTornSpec : ChangeSpec := { name := "snapshotTorn", fn := fun _ => fun
  | [d1, d2, d3] => { results := [.lit (.bool true)], args := [d1, d2, d3] }
  | _ => none }
def snapshotTornRow : OpenClaim := { program := "ytoefbjeclghfhaa", sum := "b74d3d196748764410f9d9e3f136a71cc6d62f8b1dc3cb1516f8d21253566dee", func := "disjoint/disjointlaw38.SnapshotTorn", spec := "snapshotTorn", apart := false }
def SnapshotTornSaid : Prop := snapshotTornRow.holds Try.pinned (OpenSpec.ofChange snapshotTornSpec)

/-- ITS FALSE NEIGHBOUR: 'it returns false'. Refute it at one input. -/
def snapshotTornWrong : ChangeSpec := { name := "snapshotTorn", fn := fun _ => fun
  | [d1, d2, d3] => { results := [.lit (.bool false)], args := [d1, d2, d3] }
  | _ => none }
def SnapshotTornWrongFalsely : Prop := snapshotTornRow.holds Try.pinned (OpenSpec.ofChange snapshotTornWrong)

/- THE SECOND FORM. 'bulk': how many values and letters a reading holds, each counted each time it is reached (what is shared counts as often as it is met; a slice's spare places count too). A statement '..UptoSaid' is the law's where the arguments, and the package variables that the reading takes, are together of bulk at most 1048576: NARROWER than '..Said'. Prove '..Said' where nothing that the law and all that it calls make is longer than what came in: it says more and counts as full. Else prove '..UptoSaid'. A law counts once. -/
mutual
def uptoBulk {H : Type} : DataW H → Nat
  | .lit (.string bytes) => bytes.length + 1
  | .lit _ => 1
  | .nil => 1
  | .ptr d => uptoBulk d + 1
  | .slice elems spare => uptoBulkAll elems + uptoBulkAll spare + 1
  | .agg parts => uptoBulkAll parts + 1
  | .iface _ d => uptoBulk d + 1
  | .map entries => uptoBulkEntries entries + 1
  | .held _ => 1
def uptoBulkAll {H : Type} : List (DataW H) → Nat
  | [] => 0
  | d :: r => uptoBulk d + uptoBulkAll r
def uptoBulkEntries {H : Type} : List (Lit × DataW H) → Nat
  | [] => 0
  | x :: r => uptoBulkEntry x + uptoBulkEntries r
def uptoBulkEntry {H : Type} : Lit × DataW H → Nat
  | (.string bytes, d) => bytes.length + uptoBulk d + 1
  | (_, d) => uptoBulk d + 1
 end
def uptoSmall : (H : Type) → List (DataW H) → Bool := fun _ ds => decide (uptoBulkAll ds ≤ 1048576)
def OpenSpec.upto (s : _root_.Go.ChangeSpec) : _root_.Go.OpenSpec := { _root_.Go.OpenSpec.ofChange s with cond := some uptoSmall }

/-- 'disjointlaw38.SnapshotDivide', WHERE WHAT IT READS IS OF BULK AT MOST 1048576: true; the input reads as it did. -/
def snapshotDivideUptoRow : OpenClaim := { program := "ytoefbjeclghfhaa", sum := "b74d3d196748764410f9d9e3f136a71cc6d62f8b1dc3cb1516f8d21253566dee", func := "disjoint/disjointlaw38.SnapshotDivide", spec := "snapshotDivide", apart := false, narrowed := true }
def SnapshotDivideUptoSaid : Prop := snapshotDivideUptoRow.holds Try.pinned (OpenSpec.upto snapshotDivideSpec)

/-- 'disjointlaw38.SnapshotDamage', WHERE WHAT IT READS IS OF BULK AT MOST 1048576: true; the input reads as it did. -/
def snapshotDamageUptoRow : OpenClaim := { program := "ytoefbjeclghfhaa", sum := "b74d3d196748764410f9d9e3f136a71cc6d62f8b1dc3cb1516f8d21253566dee", func := "disjoint/disjointlaw38.SnapshotDamage", spec := "snapshotDamage", apart := false, narrowed := true }
def SnapshotDamageUptoSaid : Prop := snapshotDamageUptoRow.holds Try.pinned (OpenSpec.upto snapshotDamageSpec)

/-- 'disjointlaw38.SnapshotRoundTrip', WHERE WHAT IT READS IS OF BULK AT MOST 1048576: true; the input reads as it did. -/
def snapshotRoundTripUptoRow : OpenClaim := { program := "ytoefbjeclghfhaa", sum := "b74d3d196748764410f9d9e3f136a71cc6d62f8b1dc3cb1516f8d21253566dee", func := "disjoint/disjointlaw38.SnapshotRoundTrip", spec := "snapshotRoundTrip", apart := false, narrowed := true }
def SnapshotRoundTripUptoSaid : Prop := snapshotRoundTripUptoRow.holds Try.pinned (OpenSpec.upto snapshotRoundTripSpec)

/-- 'disjointlaw38.SnapshotFull', WHERE WHAT IT READS IS OF BULK AT MOST 1048576: true; the input reads as it did. -/
def snapshotFullUptoRow : OpenClaim := { program := "ytoefbjeclghfhaa", sum := "b74d3d196748764410f9d9e3f136a71cc6d62f8b1dc3cb1516f8d21253566dee", func := "disjoint/disjointlaw38.SnapshotFull", spec := "snapshotFull", apart := false, narrowed := true }
def SnapshotFullUptoSaid : Prop := snapshotFullUptoRow.holds Try.pinned (OpenSpec.upto snapshotFullSpec)

/-- 'disjointlaw38.SnapshotWrites', WHERE WHAT IT READS IS OF BULK AT MOST 1048576: true; the input reads as it did. -/
def snapshotWritesUptoRow : OpenClaim := { program := "ytoefbjeclghfhaa", sum := "b74d3d196748764410f9d9e3f136a71cc6d62f8b1dc3cb1516f8d21253566dee", func := "disjoint/disjointlaw38.SnapshotWrites", spec := "snapshotWrites", apart := false, narrowed := true }
def SnapshotWritesUptoSaid : Prop := snapshotWritesUptoRow.holds Try.pinned (OpenSpec.upto snapshotWritesSpec)

/-- 'disjointlaw38.SnapshotMatches', WHERE WHAT IT READS IS OF BULK AT MOST 1048576: true; the input reads as it did. -/
def snapshotMatchesUptoRow : OpenClaim := { program := "ytoefbjeclghfhaa", sum := "b74d3d196748764410f9d9e3f136a71cc6d62f8b1dc3cb1516f8d21253566dee", func := "disjoint/disjointlaw38.SnapshotMatches", spec := "snapshotMatches", apart := false, narrowed := true }
def SnapshotMatchesUptoSaid : Prop := snapshotMatchesUptoRow.holds Try.pinned (OpenSpec.upto snapshotMatchesSpec)

/-- 'disjointlaw38.SnapshotTorn', WHERE WHAT IT READS IS OF BULK AT MOST 1048576: true; the input reads as it did. -/
def snapshotTornUptoRow : OpenClaim := { program := "ytoefbjeclghfhaa", sum := "b74d3d196748764410f9d9e3f136a71cc6d62f8b1dc3cb1516f8d21253566dee", func := "disjoint/disjointlaw38.SnapshotTorn", spec := "snapshotTorn", apart := false, narrowed := true }
def SnapshotTornUptoSaid : Prop := snapshotTornUptoRow.holds Try.pinned (OpenSpec.upto snapshotTornSpec)

end Rows
end Go.Proofs.Ytoefbjeclghfhaa
