/-
  No cell of these rows narrows 'for every input' (looked for: loops, veiled, ifaces, maps, wideKeys, modest, calm, conditions, laid).
  DERIVED. THE GIVEN ROWS OF THIS SEAT. 9 by the template 'for every input the law returns true; each argument reads behind the call as it read before'; 0 by the template 'total and deterministic' (their statements: YtbinnmcodlejmaaTotals.lean).
  GIVEN WITH THE SEED: the statements are not yours to turn. If you find one false, say at which input.
  Laid BY PROGRAM, IN A SANDBOX (cutbox-rows.mjs): the forced cells as the released guide's own fill.sh prints them over the translation 1cbc73de27d6d58e… (all of the seat's roots in one cut). By AI agents, Wed Nov 11 2026. No macro, syntax, notation, axiom, sorry.
-/
import Derived.Test.YtbinnmcodlejmaaChecked
import GoSem.Claim
import GoSem.ClaimJoined
import GoSem.ClaimMapViews
import Derived.JoinedTies
import Derived.KernelRfl
namespace Go.Proofs.Ytbinnmcodlejmaa
/- THE CELL 'sum', in the pinned program and in every row, IS THE sha256 OF THE DUMP (.gsa) THAT YtbinnmcodlejmaaProg.lean LOADS. Nothing in Lean hashes anything: it is a label: what it is worth is what the hold of that sum in a sandbox is worth. -/
noncomputable def Try.pinned : Pinned := { name := "ytbinnmcodlejmaa", sum := "1cbc73de27d6d58e23275d5fce997361ee23f1ddfc31b795925b0bfe88c0c02c", checked := Try.checked }
namespace Rows
def none {H : Type} : Left H := { results := [], args := [] }

/-- 'disjointlaw03.CongruenceNew': WHATEVER THE INPUT: true; the input reads as it did. -/
def congruenceNewSpec : ChangeSpec := { name := "congruenceNew", fn := fun _ => fun
  | [d1, d2] => { results := [.lit (.bool true)], args := [d1, d2] }
  | _ => none }
def congruenceNewRow : OpenClaim := { program := "ytbinnmcodlejmaa", sum := "1cbc73de27d6d58e23275d5fce997361ee23f1ddfc31b795925b0bfe88c0c02c", func := "disjoint/disjointlaw03.CongruenceNew", spec := "congruenceNew", named := ["math/bits.divideError", "math/bits.overflowError"], apart := false }
def CongruenceNewSaid : Prop := congruenceNewRow.holds Try.pinned (OpenSpec.ofChange congruenceNewSpec)

/-- ITS FALSE NEIGHBOUR: 'it returns false'. Refute it at one input. -/
def congruenceNewWrong : ChangeSpec := { name := "congruenceNew", fn := fun _ => fun
  | [d1, d2] => { results := [.lit (.bool false)], args := [d1, d2] }
  | _ => none }
def CongruenceNewWrongFalsely : Prop := congruenceNewRow.holds Try.pinned (OpenSpec.ofChange congruenceNewWrong)

/-- 'disjointlaw03.CongruenceMeet': WHATEVER THE INPUT: true; the input reads as it did. -/
def congruenceMeetSpec : ChangeSpec := { name := "congruenceMeet", fn := fun _ => fun
  | [d1, d2] => { results := [.lit (.bool true)], args := [d1, d2] }
  | _ => none }
def congruenceMeetRow : OpenClaim := { program := "ytbinnmcodlejmaa", sum := "1cbc73de27d6d58e23275d5fce997361ee23f1ddfc31b795925b0bfe88c0c02c", func := "disjoint/disjointlaw03.CongruenceMeet", spec := "congruenceMeet", named := ["math/bits.divideError", "math/bits.overflowError"], apart := false }
def CongruenceMeetSaid : Prop := congruenceMeetRow.holds Try.pinned (OpenSpec.ofChange congruenceMeetSpec)

/-- ITS FALSE NEIGHBOUR: 'it returns false'. Refute it at one input. -/
def congruenceMeetWrong : ChangeSpec := { name := "congruenceMeet", fn := fun _ => fun
  | [d1, d2] => { results := [.lit (.bool false)], args := [d1, d2] }
  | _ => none }
def CongruenceMeetWrongFalsely : Prop := congruenceMeetRow.holds Try.pinned (OpenSpec.ofChange congruenceMeetWrong)

/-- 'disjointlaw03.CongruenceMeetOrder': WHATEVER THE INPUT: true; the input reads as it did. -/
def congruenceMeetOrderSpec : ChangeSpec := { name := "congruenceMeetOrder", fn := fun _ => fun
  | [d1, d2, d3] => { results := [.lit (.bool true)], args := [d1, d2, d3] }
  | _ => none }
def congruenceMeetOrderRow : OpenClaim := { program := "ytbinnmcodlejmaa", sum := "1cbc73de27d6d58e23275d5fce997361ee23f1ddfc31b795925b0bfe88c0c02c", func := "disjoint/disjointlaw03.CongruenceMeetOrder", spec := "congruenceMeetOrder", named := ["math/bits.divideError", "math/bits.overflowError"], apart := false }
def CongruenceMeetOrderSaid : Prop := congruenceMeetOrderRow.holds Try.pinned (OpenSpec.ofChange congruenceMeetOrderSpec)

/-- ITS FALSE NEIGHBOUR: 'it returns false'. Refute it at one input. -/
def congruenceMeetOrderWrong : ChangeSpec := { name := "congruenceMeetOrder", fn := fun _ => fun
  | [d1, d2, d3] => { results := [.lit (.bool false)], args := [d1, d2, d3] }
  | _ => none }
def CongruenceMeetOrderWrongFalsely : Prop := congruenceMeetOrderRow.holds Try.pinned (OpenSpec.ofChange congruenceMeetOrderWrong)

/-- 'disjointlaw03.CongruenceNext': WHATEVER THE INPUT: true; the input reads as it did. -/
def congruenceNextSpec : ChangeSpec := { name := "congruenceNext", fn := fun _ => fun
  | [d1, d2] => { results := [.lit (.bool true)], args := [d1, d2] }
  | _ => none }
def congruenceNextRow : OpenClaim := { program := "ytbinnmcodlejmaa", sum := "1cbc73de27d6d58e23275d5fce997361ee23f1ddfc31b795925b0bfe88c0c02c", func := "disjoint/disjointlaw03.CongruenceNext", spec := "congruenceNext", named := ["math/bits.divideError", "math/bits.overflowError"], apart := false }
def CongruenceNextSaid : Prop := congruenceNextRow.holds Try.pinned (OpenSpec.ofChange congruenceNextSpec)

/-- ITS FALSE NEIGHBOUR: 'it returns false'. Refute it at one input. -/
def congruenceNextWrong : ChangeSpec := { name := "congruenceNext", fn := fun _ => fun
  | [d1, d2] => { results := [.lit (.bool false)], args := [d1, d2] }
  | _ => none }
def CongruenceNextWrongFalsely : Prop := congruenceNextRow.holds Try.pinned (OpenSpec.ofChange congruenceNextWrong)

/-- 'disjointlaw03.CongruenceCount': WHATEVER THE INPUT: true; the input reads as it did. -/
def congruenceCountSpec : ChangeSpec := { name := "congruenceCount", fn := fun _ => fun
  | [d1, d2, d3] => { results := [.lit (.bool true)], args := [d1, d2, d3] }
  | _ => none }
def congruenceCountRow : OpenClaim := { program := "ytbinnmcodlejmaa", sum := "1cbc73de27d6d58e23275d5fce997361ee23f1ddfc31b795925b0bfe88c0c02c", func := "disjoint/disjointlaw03.CongruenceCount", spec := "congruenceCount", named := ["math/bits.divideError", "math/bits.overflowError"], apart := false }
def CongruenceCountSaid : Prop := congruenceCountRow.holds Try.pinned (OpenSpec.ofChange congruenceCountSpec)

/-- ITS FALSE NEIGHBOUR: 'it returns false'. Refute it at one input. -/
def congruenceCountWrong : ChangeSpec := { name := "congruenceCount", fn := fun _ => fun
  | [d1, d2, d3] => { results := [.lit (.bool false)], args := [d1, d2, d3] }
  | _ => none }
def CongruenceCountWrongFalsely : Prop := congruenceCountRow.holds Try.pinned (OpenSpec.ofChange congruenceCountWrong)

/-- 'disjointlaw03.CongruenceSolve': WHATEVER THE INPUT: true; the input reads as it did. -/
def congruenceSolveSpec : ChangeSpec := { name := "congruenceSolve", fn := fun _ => fun
  | [d1, d2, d3] => { results := [.lit (.bool true)], args := [d1, d2, d3] }
  | _ => none }
def congruenceSolveRow : OpenClaim := { program := "ytbinnmcodlejmaa", sum := "1cbc73de27d6d58e23275d5fce997361ee23f1ddfc31b795925b0bfe88c0c02c", func := "disjoint/disjointlaw03.CongruenceSolve", spec := "congruenceSolve", named := ["math/bits.divideError", "math/bits.overflowError"], apart := false }
def CongruenceSolveSaid : Prop := congruenceSolveRow.holds Try.pinned (OpenSpec.ofChange congruenceSolveSpec)

/-- ITS FALSE NEIGHBOUR: 'it returns false'. Refute it at one input. -/
def congruenceSolveWrong : ChangeSpec := { name := "congruenceSolve", fn := fun _ => fun
  | [d1, d2, d3] => { results := [.lit (.bool false)], args := [d1, d2, d3] }
  | _ => none }
def CongruenceSolveWrongFalsely : Prop := congruenceSolveRow.holds Try.pinned (OpenSpec.ofChange congruenceSolveWrong)

/-- 'disjointlaw03.CongruenceExtended': WHATEVER THE INPUT: true; the input reads as it did. -/
def congruenceExtendedSpec : ChangeSpec := { name := "congruenceExtended", fn := fun _ => fun
  | [d1, d2] => { results := [.lit (.bool true)], args := [d1, d2] }
  | _ => none }
def congruenceExtendedRow : OpenClaim := { program := "ytbinnmcodlejmaa", sum := "1cbc73de27d6d58e23275d5fce997361ee23f1ddfc31b795925b0bfe88c0c02c", func := "disjoint/disjointlaw03.CongruenceExtended", spec := "congruenceExtended", named := ["math/bits.divideError", "math/bits.overflowError"], apart := false }
def CongruenceExtendedSaid : Prop := congruenceExtendedRow.holds Try.pinned (OpenSpec.ofChange congruenceExtendedSpec)

/-- ITS FALSE NEIGHBOUR: 'it returns false'. Refute it at one input. -/
def congruenceExtendedWrong : ChangeSpec := { name := "congruenceExtended", fn := fun _ => fun
  | [d1, d2] => { results := [.lit (.bool false)], args := [d1, d2] }
  | _ => none }
def CongruenceExtendedWrongFalsely : Prop := congruenceExtendedRow.holds Try.pinned (OpenSpec.ofChange congruenceExtendedWrong)

/-- 'disjointlaw03.CongruenceContains': WHATEVER THE INPUT: true; the input reads as it did. -/
def congruenceContainsSpec : ChangeSpec := { name := "congruenceContains", fn := fun _ => fun
  | [d1, d2] => { results := [.lit (.bool true)], args := [d1, d2] }
  | _ => none }
def congruenceContainsRow : OpenClaim := { program := "ytbinnmcodlejmaa", sum := "1cbc73de27d6d58e23275d5fce997361ee23f1ddfc31b795925b0bfe88c0c02c", func := "disjoint/disjointlaw03.CongruenceContains", spec := "congruenceContains", named := ["math/bits.divideError", "math/bits.overflowError"], apart := false }
def CongruenceContainsSaid : Prop := congruenceContainsRow.holds Try.pinned (OpenSpec.ofChange congruenceContainsSpec)

/-- ITS FALSE NEIGHBOUR: 'it returns false'. Refute it at one input. -/
def congruenceContainsWrong : ChangeSpec := { name := "congruenceContains", fn := fun _ => fun
  | [d1, d2] => { results := [.lit (.bool false)], args := [d1, d2] }
  | _ => none }
def CongruenceContainsWrongFalsely : Prop := congruenceContainsRow.holds Try.pinned (OpenSpec.ofChange congruenceContainsWrong)

/-- 'disjointlaw03.CongruenceMeetMembers': WHATEVER THE INPUT: true; the input reads as it did. -/
def congruenceMeetMembersSpec : ChangeSpec := { name := "congruenceMeetMembers", fn := fun _ => fun
  | [d1, d2, d3] => { results := [.lit (.bool true)], args := [d1, d2, d3] }
  | _ => none }
def congruenceMeetMembersRow : OpenClaim := { program := "ytbinnmcodlejmaa", sum := "1cbc73de27d6d58e23275d5fce997361ee23f1ddfc31b795925b0bfe88c0c02c", func := "disjoint/disjointlaw03.CongruenceMeetMembers", spec := "congruenceMeetMembers", named := ["math/bits.divideError", "math/bits.overflowError"], apart := false }
def CongruenceMeetMembersSaid : Prop := congruenceMeetMembersRow.holds Try.pinned (OpenSpec.ofChange congruenceMeetMembersSpec)

/-- ITS FALSE NEIGHBOUR: 'it returns false'. Refute it at one input. -/
def congruenceMeetMembersWrong : ChangeSpec := { name := "congruenceMeetMembers", fn := fun _ => fun
  | [d1, d2, d3] => { results := [.lit (.bool false)], args := [d1, d2, d3] }
  | _ => none }
def CongruenceMeetMembersWrongFalsely : Prop := congruenceMeetMembersRow.holds Try.pinned (OpenSpec.ofChange congruenceMeetMembersWrong)

/- THE SECOND FORM. 'bulk': how many values and letters a reading holds, each counted each time it is reached (what is shared counts as often as it is met; a slice's spare places count too). A statement '..UptoSaid' is the law's where the arguments, and the package variables that the reading takes, are together of bulk at most 1048576: NARROWER than '..Said'. Prove '..Said' where nothing that the law and all that it calls make is longer than what came in: it says more and counts as full. Else prove '..UptoSaid'. A law counts once. -/
mutual
def uptoBulk {H : Type} : DataW H → Nat
  | .lit (.string bytes) => bytes.length + 1
  | .lit _ => 1
  | .nil => 1
  | .ptr d => uptoBulk d + 1
  | .slice elems spare => uptoBulkAll elems + uptoBulkAll spare + 1
  | .agg parts => uptoBulkAll parts + 1
  | .iface _ d => uptoBulk d + 1
  | .map entries => uptoBulkEntries entries + 1
  | .held _ => 1
def uptoBulkAll {H : Type} : List (DataW H) → Nat
  | [] => 0
  | d :: r => uptoBulk d + uptoBulkAll r
def uptoBulkEntries {H : Type} : List (Lit × DataW H) → Nat
  | [] => 0
  | x :: r => uptoBulkEntry x + uptoBulkEntries r
def uptoBulkEntry {H : Type} : Lit × DataW H → Nat
  | (.string bytes, d) => bytes.length + uptoBulk d + 1
  | (_, d) => uptoBulk d + 1
 end
def uptoSmall : (H : Type) → List (DataW H) → Bool := fun _ ds => decide (uptoBulkAll ds ≤ 1048576)
def OpenSpec.upto (s : _root_.Go.ChangeSpec) : _root_.Go.OpenSpec := { _root_.Go.OpenSpec.ofChange s with cond := some uptoSmall }

/-- 'disjointlaw03.CongruenceNew', WHERE WHAT IT READS IS OF BULK AT MOST 1048576: true; the input reads as it did. -/
def congruenceNewUptoRow : OpenClaim := { program := "ytbinnmcodlejmaa", sum := "1cbc73de27d6d58e23275d5fce997361ee23f1ddfc31b795925b0bfe88c0c02c", func := "disjoint/disjointlaw03.CongruenceNew", spec := "congruenceNew", named := ["math/bits.divideError", "math/bits.overflowError"], apart := false, narrowed := true }
def CongruenceNewUptoSaid : Prop := congruenceNewUptoRow.holds Try.pinned (OpenSpec.upto congruenceNewSpec)

/-- 'disjointlaw03.CongruenceMeet', WHERE WHAT IT READS IS OF BULK AT MOST 1048576: true; the input reads as it did. -/
def congruenceMeetUptoRow : OpenClaim := { program := "ytbinnmcodlejmaa", sum := "1cbc73de27d6d58e23275d5fce997361ee23f1ddfc31b795925b0bfe88c0c02c", func := "disjoint/disjointlaw03.CongruenceMeet", spec := "congruenceMeet", named := ["math/bits.divideError", "math/bits.overflowError"], apart := false, narrowed := true }
def CongruenceMeetUptoSaid : Prop := congruenceMeetUptoRow.holds Try.pinned (OpenSpec.upto congruenceMeetSpec)

/-- 'disjointlaw03.CongruenceMeetOrder', WHERE WHAT IT READS IS OF BULK AT MOST 1048576: true; the input reads as it did. -/
def congruenceMeetOrderUptoRow : OpenClaim := { program := "ytbinnmcodlejmaa", sum := "1cbc73de27d6d58e23275d5fce997361ee23f1ddfc31b795925b0bfe88c0c02c", func := "disjoint/disjointlaw03.CongruenceMeetOrder", spec := "congruenceMeetOrder", named := ["math/bits.divideError", "math/bits.overflowError"], apart := false, narrowed := true }
def CongruenceMeetOrderUptoSaid : Prop := congruenceMeetOrderUptoRow.holds Try.pinned (OpenSpec.upto congruenceMeetOrderSpec)

/-- 'disjointlaw03.CongruenceNext', WHERE WHAT IT READS IS OF BULK AT MOST 1048576: true; the input reads as it did. -/
def congruenceNextUptoRow : OpenClaim := { program := "ytbinnmcodlejmaa", sum := "1cbc73de27d6d58e23275d5fce997361ee23f1ddfc31b795925b0bfe88c0c02c", func := "disjoint/disjointlaw03.CongruenceNext", spec := "congruenceNext", named := ["math/bits.divideError", "math/bits.overflowError"], apart := false, narrowed := true }
def CongruenceNextUptoSaid : Prop := congruenceNextUptoRow.holds Try.pinned (OpenSpec.upto congruenceNextSpec)

/-- 'disjointlaw03.CongruenceCount', WHERE WHAT IT READS IS OF BULK AT MOST 1048576: true; the input reads as it did. -/
def congruenceCountUptoRow : OpenClaim := { program := "ytbinnmcodlejmaa", sum := "1cbc73de27d6d58e23275d5fce997361ee23f1ddfc31b795925b0bfe88c0c02c", func := "disjoint/disjointlaw03.CongruenceCount", spec := "congruenceCount", named := ["math/bits.divideError", "math/bits.overflowError"], apart := false, narrowed := true }
def CongruenceCountUptoSaid : Prop := congruenceCountUptoRow.holds Try.pinned (OpenSpec.upto congruenceCountSpec)

/-- 'disjointlaw03.CongruenceSolve', WHERE WHAT IT READS IS OF BULK AT MOST 1048576: true; the input reads as it did. -/
def congruenceSolveUptoRow : OpenClaim := { program := "ytbinnmcodlejmaa", sum := "1cbc73de27d6d58e23275d5fce997361ee23f1ddfc31b795925b0bfe88c0c02c", func := "disjoint/disjointlaw03.CongruenceSolve", spec := "congruenceSolve", named := ["math/bits.divideError", "math/bits.overflowError"], apart := false, narrowed := true }
def CongruenceSolveUptoSaid : Prop := congruenceSolveUptoRow.holds Try.pinned (OpenSpec.upto congruenceSolveSpec)

/-- 'disjointlaw03.CongruenceExtended', WHERE WHAT IT READS IS OF BULK AT MOST 1048576: true; the input reads as it did. -/
def congruenceExtendedUptoRow : OpenClaim := { program := "ytbinnmcodlejmaa", sum := "1cbc73de27d6d58e23275d5fce997361ee23f1ddfc31b795925b0bfe88c0c02c", func := "disjoint/disjointlaw03.CongruenceExtended", spec := "congruenceExtended", named := ["math/bits.divideError", "math/bits.overflowError"], apart := false, narrowed := true }
def CongruenceExtendedUptoSaid : Prop := congruenceExtendedUptoRow.holds Try.pinned (OpenSpec.upto congruenceExtendedSpec)

/-- 'disjointlaw03.CongruenceContains', WHERE WHAT IT READS IS OF BULK AT MOST 1048576: true; the input reads as it did. -/
def congruenceContainsUptoRow : OpenClaim := { program := "ytbinnmcodlejmaa", sum := "1cbc73de27d6d58e23275d5fce997361ee23f1ddfc31b795925b0bfe88c0c02c", func := "disjoint/disjointlaw03.CongruenceContains", spec := "congruenceContains", named := ["math/bits.divideError", "math/bits.overflowError"], apart := false, narrowed := true }
def CongruenceContainsUptoSaid : Prop := congruenceContainsUptoRow.holds Try.pinned (OpenSpec.upto congruenceContainsSpec)

/-- 'disjointlaw03.CongruenceMeetMembers', WHERE WHAT IT READS IS OF BULK AT MOST 1048576: true; the input reads as it did. -/
def congruenceMeetMembersUptoRow : OpenClaim := { program := "ytbinnmcodlejmaa", sum := "1cbc73de27d6d58e23275d5fce997361ee23f1ddfc31b795925b0bfe88c0c02c", func := "disjoint/disjointlaw03.CongruenceMeetMembers", spec := "congruenceMeetMembers", named := ["math/bits.divideError", "math/bits.overflowError"], apart := false, narrowed := true }
def CongruenceMeetMembersUptoSaid : Prop := congruenceMeetMembersUptoRow.holds Try.pinned (OpenSpec.upto congruenceMeetMembersSpec)

end Rows
end Go.Proofs.Ytbinnmcodlejmaa
