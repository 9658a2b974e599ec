/-
  No cell of these rows narrows 'for every input' (looked for: loops, veiled, ifaces, maps, wideKeys, modest, calm, conditions, laid).
  DERIVED. THE GIVEN ROWS OF THIS SEAT. 8 by the template 'for every input the law returns true; each argument reads behind the call as it read before'; 0 by the template 'total and deterministic' (their statements: YtnoaahgjfknnlaaTotals.lean).
  GIVEN WITH THE SEED: the statements are not yours to turn. If you find one false, say at which input.
  Laid BY PROGRAM, IN A SANDBOX (cutbox-rows.mjs): the forced cells as the released guide's own fill.sh prints them over the translation 0ec05d73a8a15342… (all of the seat's roots in one cut). By AI agents, Wed Nov 11 2026. No macro, syntax, notation, axiom, sorry.
-/
import Derived.Test.YtnoaahgjfknnlaaChecked
import GoSem.Claim
import GoSem.ClaimJoined
import GoSem.ClaimMapViews
import Derived.JoinedTies
import Derived.KernelRfl
namespace Go.Proofs.Ytnoaahgjfknnlaa
/- THE CELL 'sum', in the pinned program and in every row, IS THE sha256 OF THE DUMP (.gsa) THAT YtnoaahgjfknnlaaProg.lean LOADS. Nothing in Lean hashes anything: it is a label: what it is worth is what the hold of that sum in a sandbox is worth. -/
noncomputable def Try.pinned : Pinned := { name := "ytnoaahgjfknnlaa", sum := "0ec05d73a8a1534238fd825d2fc01660570333b5560634f4bd4bde70fd982a5c", checked := Try.checked }
namespace Rows
def none {H : Type} : Left H := { results := [], args := [] }

/-- 'disjointlaw37.WalCapacity': WHATEVER THE INPUT: true; the input reads as it did. -/
def walCapacitySpec : ChangeSpec := { name := "walCapacity", fn := fun _ => fun
  | [d] => { results := [.lit (.bool true)], args := [d] }
  | _ => none }
def walCapacityRow : OpenClaim := { program := "ytnoaahgjfknnlaa", sum := "0ec05d73a8a1534238fd825d2fc01660570333b5560634f4bd4bde70fd982a5c", func := "disjoint/disjointlaw37.WalCapacity", spec := "walCapacity", apart := false }
def WalCapacitySaid : Prop := walCapacityRow.holds Try.pinned (OpenSpec.ofChange walCapacitySpec)

/-- ITS FALSE NEIGHBOUR: 'it returns false'. Refute it at one input. -/
def walCapacityWrong : ChangeSpec := { name := "walCapacity", fn := fun _ => fun
  | [d] => { results := [.lit (.bool false)], args := [d] }
  | _ => none }
def WalCapacityWrongFalsely : Prop := walCapacityRow.holds Try.pinned (OpenSpec.ofChange walCapacityWrong)

/-- 'disjointlaw37.WalFresh': WHATEVER THE INPUT: true; the input reads as it did. -/
def walFreshSpec : ChangeSpec := { name := "walFresh", fn := fun _ => fun
  | [d] => { results := [.lit (.bool true)], args := [d] }
  | _ => none }
def walFreshRow : OpenClaim := { program := "ytnoaahgjfknnlaa", sum := "0ec05d73a8a1534238fd825d2fc01660570333b5560634f4bd4bde70fd982a5c", func := "disjoint/disjointlaw37.WalFresh", spec := "walFresh", apart := false }
def WalFreshSaid : Prop := walFreshRow.holds Try.pinned (OpenSpec.ofChange walFreshSpec)

/-- ITS FALSE NEIGHBOUR: 'it returns false'. Refute it at one input. -/
def walFreshWrong : ChangeSpec := { name := "walFresh", fn := fun _ => fun
  | [d] => { results := [.lit (.bool false)], args := [d] }
  | _ => none }
def WalFreshWrongFalsely : Prop := walFreshRow.holds Try.pinned (OpenSpec.ofChange walFreshWrong)

/-- 'disjointlaw37.WalScan': WHATEVER THE INPUT: true; the input reads as it did. -/
def walScanSpec : ChangeSpec := { name := "walScan", fn := fun _ => fun
  | [d] => { results := [.lit (.bool true)], args := [d] }
  | _ => none }
def walScanRow : OpenClaim := { program := "ytnoaahgjfknnlaa", sum := "0ec05d73a8a1534238fd825d2fc01660570333b5560634f4bd4bde70fd982a5c", func := "disjoint/disjointlaw37.WalScan", spec := "walScan", apart := false }
def WalScanSaid : Prop := walScanRow.holds Try.pinned (OpenSpec.ofChange walScanSpec)

/-- ITS FALSE NEIGHBOUR: 'it returns false'. Refute it at one input. -/
def walScanWrong : ChangeSpec := { name := "walScan", fn := fun _ => fun
  | [d] => { results := [.lit (.bool false)], args := [d] }
  | _ => none }
def WalScanWrongFalsely : Prop := walScanRow.holds Try.pinned (OpenSpec.ofChange walScanWrong)

/-- 'disjointlaw37.WalErrors': WHATEVER THE INPUT: true; the input reads as it did. -/
def walErrorsSpec : ChangeSpec := { name := "walErrors", fn := fun _ => fun
  | [d] => { results := [.lit (.bool true)], args := [d] }
  | _ => none }
def walErrorsRow : OpenClaim := { program := "ytnoaahgjfknnlaa", sum := "0ec05d73a8a1534238fd825d2fc01660570333b5560634f4bd4bde70fd982a5c", func := "disjoint/disjointlaw37.WalErrors", spec := "walErrors", apart := false }
def WalErrorsSaid : Prop := walErrorsRow.holds Try.pinned (OpenSpec.ofChange walErrorsSpec)

/-- ITS FALSE NEIGHBOUR: 'it returns false'. Refute it at one input. -/
def walErrorsWrong : ChangeSpec := { name := "walErrors", fn := fun _ => fun
  | [d] => { results := [.lit (.bool false)], args := [d] }
  | _ => none }
def WalErrorsWrongFalsely : Prop := walErrorsRow.holds Try.pinned (OpenSpec.ofChange walErrorsWrong)

/-- 'disjointlaw37.WalAppend': WHATEVER THE INPUT: true; the input reads as it did. -/
def walAppendSpec : ChangeSpec := { name := "walAppend", fn := fun _ => fun
  | [d] => { results := [.lit (.bool true)], args := [d] }
  | _ => none }
def walAppendRow : OpenClaim := { program := "ytnoaahgjfknnlaa", sum := "0ec05d73a8a1534238fd825d2fc01660570333b5560634f4bd4bde70fd982a5c", func := "disjoint/disjointlaw37.WalAppend", spec := "walAppend", apart := false }
def WalAppendSaid : Prop := walAppendRow.holds Try.pinned (OpenSpec.ofChange walAppendSpec)

/-- ITS FALSE NEIGHBOUR: 'it returns false'. Refute it at one input. -/
def walAppendWrong : ChangeSpec := { name := "walAppend", fn := fun _ => fun
  | [d] => { results := [.lit (.bool false)], args := [d] }
  | _ => none }
def WalAppendWrongFalsely : Prop := walAppendRow.holds Try.pinned (OpenSpec.ofChange walAppendWrong)

/-- 'disjointlaw37.WalCrash': WHATEVER THE INPUT: true; the input reads as it did. -/
def walCrashSpec : ChangeSpec := { name := "walCrash", fn := fun _ => fun
  | [d1, d2, d3] => { results := [.lit (.bool true)], args := [d1, d2, d3] }
  | _ => none }
def walCrashRow : OpenClaim := { program := "ytnoaahgjfknnlaa", sum := "0ec05d73a8a1534238fd825d2fc01660570333b5560634f4bd4bde70fd982a5c", func := "disjoint/disjointlaw37.WalCrash", spec := "walCrash", apart := false }
def WalCrashSaid : Prop := walCrashRow.holds Try.pinned (OpenSpec.ofChange walCrashSpec)

/-- ITS FALSE NEIGHBOUR: 'it returns false'. Refute it at one input. -/
def walCrashWrong : ChangeSpec := { name := "walCrash", fn := fun _ => fun
  | [d1, d2, d3] => { results := [.lit (.bool false)], args := [d1, d2, d3] }
  | _ => none }
def WalCrashWrongFalsely : Prop := walCrashRow.holds Try.pinned (OpenSpec.ofChange walCrashWrong)

/-- 'disjointlaw37.WalTorn': WHATEVER THE INPUT: true; the input reads as it did. -/
def walTornSpec : ChangeSpec := { name := "walTorn", fn := fun _ => fun
  | [d1, d2, d3] => { results := [.lit (.bool true)], args := [d1, d2, d3] }
  | _ => none }
def walTornRow : OpenClaim := { program := "ytnoaahgjfknnlaa", sum := "0ec05d73a8a1534238fd825d2fc01660570333b5560634f4bd4bde70fd982a5c", func := "disjoint/disjointlaw37.WalTorn", spec := "walTorn", apart := false }
def WalTornSaid : Prop := walTornRow.holds Try.pinned (OpenSpec.ofChange walTornSpec)

/-- ITS FALSE NEIGHBOUR: 'it returns false'. Refute it at one input. -/
def walTornWrong : ChangeSpec := { name := "walTorn", fn := fun _ => fun
  | [d1, d2, d3] => { results := [.lit (.bool false)], args := [d1, d2, d3] }
  | _ => none }
def WalTornWrongFalsely : Prop := walTornRow.holds Try.pinned (OpenSpec.ofChange walTornWrong)

/-- 'disjointlaw37.WalEpochs': WHATEVER THE INPUT: true; the input reads as it did. -/
def walEpochsSpec : ChangeSpec := { name := "walEpochs", fn := fun _ => fun
  | [d1, d2, d3] => { results := [.lit (.bool true)], args := [d1, d2, d3] }
  | _ => none }
def walEpochsRow : OpenClaim := { program := "ytnoaahgjfknnlaa", sum := "0ec05d73a8a1534238fd825d2fc01660570333b5560634f4bd4bde70fd982a5c", func := "disjoint/disjointlaw37.WalEpochs", spec := "walEpochs", apart := false }
def WalEpochsSaid : Prop := walEpochsRow.holds Try.pinned (OpenSpec.ofChange walEpochsSpec)

/-- ITS FALSE NEIGHBOUR: 'it returns false'. Refute it at one input. -/
def walEpochsWrong : ChangeSpec := { name := "walEpochs", fn := fun _ => fun
  | [d1, d2, d3] => { results := [.lit (.bool false)], args := [d1, d2, d3] }
  | _ => none }
def WalEpochsWrongFalsely : Prop := walEpochsRow.holds Try.pinned (OpenSpec.ofChange walEpochsWrong)

/- THE SECOND FORM. 'bulk': how many values and letters a reading holds, each counted each time it is reached (what is shared counts as often as it is met; a slice's spare places count too). A statement '..UptoSaid' is the law's where the arguments, and the package variables that the reading takes, are together of bulk at most 1048576: NARROWER than '..Said'. Prove '..Said' where nothing that the law and all that it calls make is longer than what came in: it says more and counts as full. Else prove '..UptoSaid'. A law counts once. -/
mutual
def uptoBulk {H : Type} : DataW H → Nat
  | .lit (.string bytes) => bytes.length + 1
  | .lit _ => 1
  | .nil => 1
  | .ptr d => uptoBulk d + 1
  | .slice elems spare => uptoBulkAll elems + uptoBulkAll spare + 1
  | .agg parts => uptoBulkAll parts + 1
  | .iface _ d => uptoBulk d + 1
  | .map entries => uptoBulkEntries entries + 1
  | .held _ => 1
def uptoBulkAll {H : Type} : List (DataW H) → Nat
  | [] => 0
  | d :: r => uptoBulk d + uptoBulkAll r
def uptoBulkEntries {H : Type} : List (Lit × DataW H) → Nat
  | [] => 0
  | x :: r => uptoBulkEntry x + uptoBulkEntries r
def uptoBulkEntry {H : Type} : Lit × DataW H → Nat
  | (.string bytes, d) => bytes.length + uptoBulk d + 1
  | (_, d) => uptoBulk d + 1
 end
def uptoSmall : (H : Type) → List (DataW H) → Bool := fun _ ds => decide (uptoBulkAll ds ≤ 1048576)
def OpenSpec.upto (s : _root_.Go.ChangeSpec) : _root_.Go.OpenSpec := { _root_.Go.OpenSpec.ofChange s with cond := some uptoSmall }

/-- 'disjointlaw37.WalCapacity', WHERE WHAT IT READS IS OF BULK AT MOST 1048576: true; the input reads as it did. -/
def walCapacityUptoRow : OpenClaim := { program := "ytnoaahgjfknnlaa", sum := "0ec05d73a8a1534238fd825d2fc01660570333b5560634f4bd4bde70fd982a5c", func := "disjoint/disjointlaw37.WalCapacity", spec := "walCapacity", apart := false, narrowed := true }
def WalCapacityUptoSaid : Prop := walCapacityUptoRow.holds Try.pinned (OpenSpec.upto walCapacitySpec)

/-- 'disjointlaw37.WalFresh', WHERE WHAT IT READS IS OF BULK AT MOST 1048576: true; the input reads as it did. -/
def walFreshUptoRow : OpenClaim := { program := "ytnoaahgjfknnlaa", sum := "0ec05d73a8a1534238fd825d2fc01660570333b5560634f4bd4bde70fd982a5c", func := "disjoint/disjointlaw37.WalFresh", spec := "walFresh", apart := false, narrowed := true }
def WalFreshUptoSaid : Prop := walFreshUptoRow.holds Try.pinned (OpenSpec.upto walFreshSpec)

/-- 'disjointlaw37.WalScan', WHERE WHAT IT READS IS OF BULK AT MOST 1048576: true; the input reads as it did. -/
def walScanUptoRow : OpenClaim := { program := "ytnoaahgjfknnlaa", sum := "0ec05d73a8a1534238fd825d2fc01660570333b5560634f4bd4bde70fd982a5c", func := "disjoint/disjointlaw37.WalScan", spec := "walScan", apart := false, narrowed := true }
def WalScanUptoSaid : Prop := walScanUptoRow.holds Try.pinned (OpenSpec.upto walScanSpec)

/-- 'disjointlaw37.WalErrors', WHERE WHAT IT READS IS OF BULK AT MOST 1048576: true; the input reads as it did. -/
def walErrorsUptoRow : OpenClaim := { program := "ytnoaahgjfknnlaa", sum := "0ec05d73a8a1534238fd825d2fc01660570333b5560634f4bd4bde70fd982a5c", func := "disjoint/disjointlaw37.WalErrors", spec := "walErrors", apart := false, narrowed := true }
def WalErrorsUptoSaid : Prop := walErrorsUptoRow.holds Try.pinned (OpenSpec.upto walErrorsSpec)

/-- 'disjointlaw37.WalAppend', WHERE WHAT IT READS IS OF BULK AT MOST 1048576: true; the input reads as it did. -/
def walAppendUptoRow : OpenClaim := { program := "ytnoaahgjfknnlaa", sum := "0ec05d73a8a1534238fd825d2fc01660570333b5560634f4bd4bde70fd982a5c", func := "disjoint/disjointlaw37.WalAppend", spec := "walAppend", apart := false, narrowed := true }
def WalAppendUptoSaid : Prop := walAppendUptoRow.holds Try.pinned (OpenSpec.upto walAppendSpec)

/-- 'disjointlaw37.WalCrash', WHERE WHAT IT READS IS OF BULK AT MOST 1048576: true; the input reads as it did. -/
def walCrashUptoRow : OpenClaim := { program := "ytnoaahgjfknnlaa", sum := "0ec05d73a8a1534238fd825d2fc01660570333b5560634f4bd4bde70fd982a5c", func := "disjoint/disjointlaw37.WalCrash", spec := "walCrash", apart := false, narrowed := true }
def WalCrashUptoSaid : Prop := walCrashUptoRow.holds Try.pinned (OpenSpec.upto walCrashSpec)

/-- 'disjointlaw37.WalTorn', WHERE WHAT IT READS IS OF BULK AT MOST 1048576: true; the input reads as it did. -/
def walTornUptoRow : OpenClaim := { program := "ytnoaahgjfknnlaa", sum := "0ec05d73a8a1534238fd825d2fc01660570333b5560634f4bd4bde70fd982a5c", func := "disjoint/disjointlaw37.WalTorn", spec := "walTorn", apart := false, narrowed := true }
def WalTornUptoSaid : Prop := walTornUptoRow.holds Try.pinned (OpenSpec.upto walTornSpec)

/-- 'disjointlaw37.WalEpochs', WHERE WHAT IT READS IS OF BULK AT MOST 1048576: true; the input reads as it did. -/
def walEpochsUptoRow : OpenClaim := { program := "ytnoaahgjfknnlaa", sum := "0ec05d73a8a1534238fd825d2fc01660570333b5560634f4bd4bde70fd982a5c", func := "disjoint/disjointlaw37.WalEpochs", spec := "walEpochs", apart := false, narrowed := true }
def WalEpochsUptoSaid : Prop := walEpochsUptoRow.holds Try.pinned (OpenSpec.upto walEpochsSpec)

end Rows
end Go.Proofs.Ytnoaahgjfknnlaa
