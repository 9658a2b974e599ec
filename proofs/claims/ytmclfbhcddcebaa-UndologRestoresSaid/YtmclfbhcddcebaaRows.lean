/-
  No cell of these rows narrows 'for every input' (looked for: loops, veiled, ifaces, maps, wideKeys, modest, calm, conditions, laid).
  DERIVED. THE GIVEN ROWS OF THIS SEAT. 7 by the template 'for every input the law returns true; each argument reads behind the call as it read before'; 0 by the template 'total and deterministic' (their statements: YtmclfbhcddcebaaTotals.lean).
  GIVEN WITH THE SEED: the statements are not yours to turn. If you find one false, say at which input.
  Laid BY PROGRAM, IN A SANDBOX (cutbox-rows.mjs): the forced cells as the released guide's own fill.sh prints them over the translation 103b4ad7bd27a686… (all of the seat's roots in one cut). By AI agents, Wed Nov 11 2026. No macro, syntax, notation, axiom, sorry.
-/
import Derived.Test.YtmclfbhcddcebaaChecked
import GoSem.Claim
import GoSem.ClaimJoined
import GoSem.ClaimMapViews
import Derived.JoinedTies
import Derived.KernelRfl
namespace Go.Proofs.Ytmclfbhcddcebaa
/- THE CELL 'sum', in the pinned program and in every row, IS THE sha256 OF THE DUMP (.gsa) THAT YtmclfbhcddcebaaProg.lean LOADS. Nothing in Lean hashes anything: it is a label: what it is worth is what the hold of that sum in a sandbox is worth. -/
noncomputable def Try.pinned : Pinned := { name := "ytmclfbhcddcebaa", sum := "103b4ad7bd27a6867f899048018e8dc17a0bd5c447569155bfc4285225b51eb1", checked := Try.checked }
namespace Rows
def none {H : Type} : Left H := { results := [], args := [] }

/-- 'disjointlaw41.UndologCopies': WHATEVER THE INPUT: true; the input reads as it did. -/
def undologCopiesSpec : ChangeSpec := { name := "undologCopies", fn := fun _ => fun
  | [d] => { results := [.lit (.bool true)], args := [d] }
  | _ => none }
def undologCopiesRow : OpenClaim := { program := "ytmclfbhcddcebaa", sum := "103b4ad7bd27a6867f899048018e8dc17a0bd5c447569155bfc4285225b51eb1", func := "disjoint/disjointlaw41.UndologCopies", spec := "undologCopies", unfollowed := true, recurses := true, plainKeys := false, apart := false }
def UndologCopiesSaid : Prop := undologCopiesRow.holds Try.pinned (OpenSpec.ofChange undologCopiesSpec)

/-- ITS FALSE NEIGHBOUR: 'it returns false'. Refute it at one input. -/
def undologCopiesWrong : ChangeSpec := { name := "undologCopies", fn := fun _ => fun
  | [d] => { results := [.lit (.bool false)], args := [d] }
  | _ => none }
def UndologCopiesWrongFalsely : Prop := undologCopiesRow.holds Try.pinned (OpenSpec.ofChange undologCopiesWrong)

/-- 'disjointlaw41.UndologInverse': WHATEVER THE INPUT: true; the input reads as it did. -/
def undologInverseSpec : ChangeSpec := { name := "undologInverse", fn := fun _ => fun
  | [d] => { results := [.lit (.bool true)], args := [d] }
  | _ => none }
def undologInverseRow : OpenClaim := { program := "ytmclfbhcddcebaa", sum := "103b4ad7bd27a6867f899048018e8dc17a0bd5c447569155bfc4285225b51eb1", func := "disjoint/disjointlaw41.UndologInverse", spec := "undologInverse", unfollowed := true, recurses := true, plainKeys := false, apart := false }
def UndologInverseSaid : Prop := undologInverseRow.holds Try.pinned (OpenSpec.ofChange undologInverseSpec)

/-- ITS FALSE NEIGHBOUR: 'it returns false'. Refute it at one input. -/
def undologInverseWrong : ChangeSpec := { name := "undologInverse", fn := fun _ => fun
  | [d] => { results := [.lit (.bool false)], args := [d] }
  | _ => none }
def UndologInverseWrongFalsely : Prop := undologInverseRow.holds Try.pinned (OpenSpec.ofChange undologInverseWrong)

/-- 'disjointlaw41.UndologUndo': WHATEVER THE INPUT: true; the input reads as it did. -/
def undologUndoSpec : ChangeSpec := { name := "undologUndo", fn := fun _ => fun
  | [d1, d2, d3] => { results := [.lit (.bool true)], args := [d1, d2, d3] }
  | _ => none }
def undologUndoRow : OpenClaim := { program := "ytmclfbhcddcebaa", sum := "103b4ad7bd27a6867f899048018e8dc17a0bd5c447569155bfc4285225b51eb1", func := "disjoint/disjointlaw41.UndologUndo", spec := "undologUndo", unfollowed := true, recurses := true, plainKeys := false, apart := false }
def UndologUndoSaid : Prop := undologUndoRow.holds Try.pinned (OpenSpec.ofChange undologUndoSpec)

/-- ITS FALSE NEIGHBOUR: 'it returns false'. Refute it at one input. -/
def undologUndoWrong : ChangeSpec := { name := "undologUndo", fn := fun _ => fun
  | [d1, d2, d3] => { results := [.lit (.bool false)], args := [d1, d2, d3] }
  | _ => none }
def UndologUndoWrongFalsely : Prop := undologUndoRow.holds Try.pinned (OpenSpec.ofChange undologUndoWrong)

/-- 'disjointlaw41.UndologNested': WHATEVER THE INPUT: true; the input reads as it did. -/
def undologNestedSpec : ChangeSpec := { name := "undologNested", fn := fun _ => fun
  | [d1, d2] => { results := [.lit (.bool true)], args := [d1, d2] }
  | _ => none }
def undologNestedRow : OpenClaim := { program := "ytmclfbhcddcebaa", sum := "103b4ad7bd27a6867f899048018e8dc17a0bd5c447569155bfc4285225b51eb1", func := "disjoint/disjointlaw41.UndologNested", spec := "undologNested", unfollowed := true, recurses := true, plainKeys := false, apart := false }
def UndologNestedSaid : Prop := undologNestedRow.holds Try.pinned (OpenSpec.ofChange undologNestedSpec)

/-- ITS FALSE NEIGHBOUR: 'it returns false'. Refute it at one input. -/
def undologNestedWrong : ChangeSpec := { name := "undologNested", fn := fun _ => fun
  | [d1, d2] => { results := [.lit (.bool false)], args := [d1, d2] }
  | _ => none }
def UndologNestedWrongFalsely : Prop := undologNestedRow.holds Try.pinned (OpenSpec.ofChange undologNestedWrong)

/-- 'disjointlaw41.UndologMatchesModel': WHATEVER THE INPUT: true; the input reads as it did. -/
def undologMatchesModelSpec : ChangeSpec := { name := "undologMatchesModel", fn := fun _ => fun
  | [d] => { results := [.lit (.bool true)], args := [d] }
  | _ => none }
def undologMatchesModelRow : OpenClaim := { program := "ytmclfbhcddcebaa", sum := "103b4ad7bd27a6867f899048018e8dc17a0bd5c447569155bfc4285225b51eb1", func := "disjoint/disjointlaw41.UndologMatchesModel", spec := "undologMatchesModel", unfollowed := true, recurses := true, plainKeys := false, apart := false }
def UndologMatchesModelSaid : Prop := undologMatchesModelRow.holds Try.pinned (OpenSpec.ofChange undologMatchesModelSpec)

/-- ITS FALSE NEIGHBOUR: 'it returns false'. Refute it at one input. -/
def undologMatchesModelWrong : ChangeSpec := { name := "undologMatchesModel", fn := fun _ => fun
  | [d] => { results := [.lit (.bool false)], args := [d] }
  | _ => none }
def UndologMatchesModelWrongFalsely : Prop := undologMatchesModelRow.holds Try.pinned (OpenSpec.ofChange undologMatchesModelWrong)

/-- 'disjointlaw41.UndologRestores': WHATEVER THE INPUT: true; the input reads as it did. -/
def undologRestoresSpec : ChangeSpec := { name := "undologRestores", fn := fun _ => fun
  | [d1, d2] => { results := [.lit (.bool true)], args := [d1, d2] }
  | _ => none }
def undologRestoresRow : OpenClaim := { program := "ytmclfbhcddcebaa", sum := "103b4ad7bd27a6867f899048018e8dc17a0bd5c447569155bfc4285225b51eb1", func := "disjoint/disjointlaw41.UndologRestores", spec := "undologRestores", unfollowed := true, recurses := true, plainKeys := false, apart := false }
def UndologRestoresSaid : Prop := undologRestoresRow.holds Try.pinned (OpenSpec.ofChange undologRestoresSpec)

/-- ITS FALSE NEIGHBOUR: 'it returns false'. Refute it at one input. -/
def undologRestoresWrong : ChangeSpec := { name := "undologRestores", fn := fun _ => fun
  | [d1, d2] => { results := [.lit (.bool false)], args := [d1, d2] }
  | _ => none }
def UndologRestoresWrongFalsely : Prop := undologRestoresRow.holds Try.pinned (OpenSpec.ofChange undologRestoresWrong)

/-- 'disjointlaw41.UndologNet': WHATEVER THE INPUT: true; the input reads as it did. -/
def undologNetSpec : ChangeSpec := { name := "undologNet", fn := fun _ => fun
  | [d] => { results := [.lit (.bool true)], args := [d] }
  | _ => none }
def undologNetRow : OpenClaim := { program := "ytmclfbhcddcebaa", sum := "103b4ad7bd27a6867f899048018e8dc17a0bd5c447569155bfc4285225b51eb1", func := "disjoint/disjointlaw41.UndologNet", spec := "undologNet", unfollowed := true, recurses := true, plainKeys := false, apart := false }
def UndologNetSaid : Prop := undologNetRow.holds Try.pinned (OpenSpec.ofChange undologNetSpec)

/-- ITS FALSE NEIGHBOUR: 'it returns false'. Refute it at one input. -/
def undologNetWrong : ChangeSpec := { name := "undologNet", fn := fun _ => fun
  | [d] => { results := [.lit (.bool false)], args := [d] }
  | _ => none }
def UndologNetWrongFalsely : Prop := undologNetRow.holds Try.pinned (OpenSpec.ofChange undologNetWrong)

/- THE SECOND FORM. 'bulk': how many values and letters a reading holds, each counted each time it is reached (what is shared counts as often as it is met; a slice's spare places count too). A statement '..UptoSaid' is the law's where the arguments, and the package variables that the reading takes, are together of bulk at most 1048576: NARROWER than '..Said'. Prove '..Said' where nothing that the law and all that it calls make is longer than what came in: it says more and counts as full. Else prove '..UptoSaid'. A law counts once. -/
mutual
def uptoBulk {H : Type} : DataW H → Nat
  | .lit (.string bytes) => bytes.length + 1
  | .lit _ => 1
  | .nil => 1
  | .ptr d => uptoBulk d + 1
  | .slice elems spare => uptoBulkAll elems + uptoBulkAll spare + 1
  | .agg parts => uptoBulkAll parts + 1
  | .iface _ d => uptoBulk d + 1
  | .map entries => uptoBulkEntries entries + 1
  | .held _ => 1
def uptoBulkAll {H : Type} : List (DataW H) → Nat
  | [] => 0
  | d :: r => uptoBulk d + uptoBulkAll r
def uptoBulkEntries {H : Type} : List (Lit × DataW H) → Nat
  | [] => 0
  | x :: r => uptoBulkEntry x + uptoBulkEntries r
def uptoBulkEntry {H : Type} : Lit × DataW H → Nat
  | (.string bytes, d) => bytes.length + uptoBulk d + 1
  | (_, d) => uptoBulk d + 1
 end
def uptoSmall : (H : Type) → List (DataW H) → Bool := fun _ ds => decide (uptoBulkAll ds ≤ 1048576)
def OpenSpec.upto (s : _root_.Go.ChangeSpec) : _root_.Go.OpenSpec := { _root_.Go.OpenSpec.ofChange s with cond := some uptoSmall }

/-- 'disjointlaw41.UndologCopies', WHERE WHAT IT READS IS OF BULK AT MOST 1048576: true; the input reads as it did. -/
def undologCopiesUptoRow : OpenClaim := { program := "ytmclfbhcddcebaa", sum := "103b4ad7bd27a6867f899048018e8dc17a0bd5c447569155bfc4285225b51eb1", func := "disjoint/disjointlaw41.UndologCopies", spec := "undologCopies", unfollowed := true, recurses := true, plainKeys := false, apart := false, narrowed := true }
def UndologCopiesUptoSaid : Prop := undologCopiesUptoRow.holds Try.pinned (OpenSpec.upto undologCopiesSpec)

/-- 'disjointlaw41.UndologInverse', WHERE WHAT IT READS IS OF BULK AT MOST 1048576: true; the input reads as it did. -/
def undologInverseUptoRow : OpenClaim := { program := "ytmclfbhcddcebaa", sum := "103b4ad7bd27a6867f899048018e8dc17a0bd5c447569155bfc4285225b51eb1", func := "disjoint/disjointlaw41.UndologInverse", spec := "undologInverse", unfollowed := true, recurses := true, plainKeys := false, apart := false, narrowed := true }
def UndologInverseUptoSaid : Prop := undologInverseUptoRow.holds Try.pinned (OpenSpec.upto undologInverseSpec)

/-- 'disjointlaw41.UndologUndo', WHERE WHAT IT READS IS OF BULK AT MOST 1048576: true; the input reads as it did. -/
def undologUndoUptoRow : OpenClaim := { program := "ytmclfbhcddcebaa", sum := "103b4ad7bd27a6867f899048018e8dc17a0bd5c447569155bfc4285225b51eb1", func := "disjoint/disjointlaw41.UndologUndo", spec := "undologUndo", unfollowed := true, recurses := true, plainKeys := false, apart := false, narrowed := true }
def UndologUndoUptoSaid : Prop := undologUndoUptoRow.holds Try.pinned (OpenSpec.upto undologUndoSpec)

/-- 'disjointlaw41.UndologNested', WHERE WHAT IT READS IS OF BULK AT MOST 1048576: true; the input reads as it did. -/
def undologNestedUptoRow : OpenClaim := { program := "ytmclfbhcddcebaa", sum := "103b4ad7bd27a6867f899048018e8dc17a0bd5c447569155bfc4285225b51eb1", func := "disjoint/disjointlaw41.UndologNested", spec := "undologNested", unfollowed := true, recurses := true, plainKeys := false, apart := false, narrowed := true }
def UndologNestedUptoSaid : Prop := undologNestedUptoRow.holds Try.pinned (OpenSpec.upto undologNestedSpec)

/-- 'disjointlaw41.UndologMatchesModel', WHERE WHAT IT READS IS OF BULK AT MOST 1048576: true; the input reads as it did. -/
def undologMatchesModelUptoRow : OpenClaim := { program := "ytmclfbhcddcebaa", sum := "103b4ad7bd27a6867f899048018e8dc17a0bd5c447569155bfc4285225b51eb1", func := "disjoint/disjointlaw41.UndologMatchesModel", spec := "undologMatchesModel", unfollowed := true, recurses := true, plainKeys := false, apart := false, narrowed := true }
def UndologMatchesModelUptoSaid : Prop := undologMatchesModelUptoRow.holds Try.pinned (OpenSpec.upto undologMatchesModelSpec)

/-- 'disjointlaw41.UndologRestores', WHERE WHAT IT READS IS OF BULK AT MOST 1048576: true; the input reads as it did. -/
def undologRestoresUptoRow : OpenClaim := { program := "ytmclfbhcddcebaa", sum := "103b4ad7bd27a6867f899048018e8dc17a0bd5c447569155bfc4285225b51eb1", func := "disjoint/disjointlaw41.UndologRestores", spec := "undologRestores", unfollowed := true, recurses := true, plainKeys := false, apart := false, narrowed := true }
def UndologRestoresUptoSaid : Prop := undologRestoresUptoRow.holds Try.pinned (OpenSpec.upto undologRestoresSpec)

/-- 'disjointlaw41.UndologNet', WHERE WHAT IT READS IS OF BULK AT MOST 1048576: true; the input reads as it did. -/
def undologNetUptoRow : OpenClaim := { program := "ytmclfbhcddcebaa", sum := "103b4ad7bd27a6867f899048018e8dc17a0bd5c447569155bfc4285225b51eb1", func := "disjoint/disjointlaw41.UndologNet", spec := "undologNet", unfollowed := true, recurses := true, plainKeys := false, apart := false, narrowed := true }
def UndologNetUptoSaid : Prop := undologNetUptoRow.holds Try.pinned (OpenSpec.upto undologNetSpec)

end Rows
end Go.Proofs.Ytmclfbhcddcebaa
