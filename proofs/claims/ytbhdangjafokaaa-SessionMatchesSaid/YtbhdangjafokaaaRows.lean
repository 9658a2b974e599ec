/-
  No cell of these rows narrows 'for every input' (looked for: loops, veiled, ifaces, maps, wideKeys, modest, calm, conditions, laid).
  DERIVED. THE GIVEN ROWS OF THIS SEAT. 6 by the template 'for every input the law returns true; each argument reads behind the call as it read before'; 0 by the template 'total and deterministic' (their statements: YtbhdangjafokaaaTotals.lean).
  GIVEN WITH THE SEED: the statements are not yours to turn. If you find one false, say at which input.
  Laid BY PROGRAM, IN A SANDBOX (cutbox-rows.mjs): the forced cells as the released guide's own fill.sh prints them over the translation 2ffd84a330f35a07… (all of the seat's roots in one cut). By AI agents, Wed Nov 11 2026. No macro, syntax, notation, axiom, sorry.
-/
import Derived.Test.YtbhdangjafokaaaChecked
import GoSem.Claim
import GoSem.ClaimJoined
import GoSem.ClaimMapViews
import Derived.JoinedTies
import Derived.KernelRfl
namespace Go.Proofs.Ytbhdangjafokaaa
/- THE CELL 'sum', in the pinned program and in every row, IS THE sha256 OF THE DUMP (.gsa) THAT YtbhdangjafokaaaProg.lean LOADS. Nothing in Lean hashes anything: it is a label: what it is worth is what the hold of that sum in a sandbox is worth. -/
noncomputable def Try.pinned : Pinned := { name := "ytbhdangjafokaaa", sum := "2ffd84a330f35a07f367c677aee611704e2698e19628af34d5ffd6cba9c7a378", checked := Try.checked }
namespace Rows
def none {H : Type} : Left H := { results := [], args := [] }

/-- 'disjointlaw50.SessionSplit': WHATEVER THE INPUT: true; the input reads as it did. -/
def sessionSplitSpec : ChangeSpec := { name := "sessionSplit", fn := fun _ => fun
  | [d] => { results := [.lit (.bool true)], args := [d] }
  | _ => none }
def sessionSplitRow : OpenClaim := { program := "ytbhdangjafokaaa", sum := "2ffd84a330f35a07f367c677aee611704e2698e19628af34d5ffd6cba9c7a378", func := "disjoint/disjointlaw50.SessionSplit", spec := "sessionSplit", apart := false }
def SessionSplitSaid : Prop := sessionSplitRow.holds Try.pinned (OpenSpec.ofChange sessionSplitSpec)

/-- ITS FALSE NEIGHBOUR: 'it returns false'. Refute it at one input. -/
def sessionSplitWrong : ChangeSpec := { name := "sessionSplit", fn := fun _ => fun
  | [d] => { results := [.lit (.bool false)], args := [d] }
  | _ => none }
def SessionSplitWrongFalsely : Prop := sessionSplitRow.holds Try.pinned (OpenSpec.ofChange sessionSplitWrong)

/-- 'disjointlaw50.SessionCovers': WHATEVER THE INPUT: true; the input reads as it did. -/
def sessionCoversSpec : ChangeSpec := { name := "sessionCovers", fn := fun _ => fun
  | [d] => { results := [.lit (.bool true)], args := [d] }
  | _ => none }
def sessionCoversRow : OpenClaim := { program := "ytbhdangjafokaaa", sum := "2ffd84a330f35a07f367c677aee611704e2698e19628af34d5ffd6cba9c7a378", func := "disjoint/disjointlaw50.SessionCovers", spec := "sessionCovers", apart := false }
def SessionCoversSaid : Prop := sessionCoversRow.holds Try.pinned (OpenSpec.ofChange sessionCoversSpec)

/-- ITS FALSE NEIGHBOUR: 'it returns false'. Refute it at one input. -/
def sessionCoversWrong : ChangeSpec := { name := "sessionCovers", fn := fun _ => fun
  | [d] => { results := [.lit (.bool false)], args := [d] }
  | _ => none }
def SessionCoversWrongFalsely : Prop := sessionCoversRow.holds Try.pinned (OpenSpec.ofChange sessionCoversWrong)

/-- 'disjointlaw50.SessionNumbers': WHATEVER THE INPUT: true; the input reads as it did. -/
def sessionNumbersSpec : ChangeSpec := { name := "sessionNumbers", fn := fun _ => fun
  | [d1, d2, d3] => { results := [.lit (.bool true)], args := [d1, d2, d3] }
  | _ => none }
def sessionNumbersRow : OpenClaim := { program := "ytbhdangjafokaaa", sum := "2ffd84a330f35a07f367c677aee611704e2698e19628af34d5ffd6cba9c7a378", func := "disjoint/disjointlaw50.SessionNumbers", spec := "sessionNumbers", apart := false }
def SessionNumbersSaid : Prop := sessionNumbersRow.holds Try.pinned (OpenSpec.ofChange sessionNumbersSpec)

/-- ITS FALSE NEIGHBOUR: 'it returns false'. Refute it at one input. -/
def sessionNumbersWrong : ChangeSpec := { name := "sessionNumbers", fn := fun _ => fun
  | [d1, d2, d3] => { results := [.lit (.bool false)], args := [d1, d2, d3] }
  | _ => none }
def SessionNumbersWrongFalsely : Prop := sessionNumbersRow.holds Try.pinned (OpenSpec.ofChange sessionNumbersWrong)

/-- 'disjointlaw50.SessionRestart': WHATEVER THE INPUT: true; the input reads as it did. -/
def sessionRestartSpec : ChangeSpec := { name := "sessionRestart", fn := fun _ => fun
  | [d1, d2] => { results := [.lit (.bool true)], args := [d1, d2] }
  | _ => none }
def sessionRestartRow : OpenClaim := { program := "ytbhdangjafokaaa", sum := "2ffd84a330f35a07f367c677aee611704e2698e19628af34d5ffd6cba9c7a378", func := "disjoint/disjointlaw50.SessionRestart", spec := "sessionRestart", apart := false }
def SessionRestartSaid : Prop := sessionRestartRow.holds Try.pinned (OpenSpec.ofChange sessionRestartSpec)

/-- ITS FALSE NEIGHBOUR: 'it returns false'. Refute it at one input. -/
def sessionRestartWrong : ChangeSpec := { name := "sessionRestart", fn := fun _ => fun
  | [d1, d2] => { results := [.lit (.bool false)], args := [d1, d2] }
  | _ => none }
def SessionRestartWrongFalsely : Prop := sessionRestartRow.holds Try.pinned (OpenSpec.ofChange sessionRestartWrong)

/-- 'disjointlaw50.SessionExecutes': WHATEVER THE INPUT: true; the input reads as it did. -/
def sessionExecutesSpec : ChangeSpec := { name := "sessionExecutes", fn := fun _ => fun
  | [d1, d2] => { results := [.lit (.bool true)], args := [d1, d2] }
  | _ => none }
def sessionExecutesRow : OpenClaim := { program := "ytbhdangjafokaaa", sum := "2ffd84a330f35a07f367c677aee611704e2698e19628af34d5ffd6cba9c7a378", func := "disjoint/disjointlaw50.SessionExecutes", spec := "sessionExecutes", apart := false }
def SessionExecutesSaid : Prop := sessionExecutesRow.holds Try.pinned (OpenSpec.ofChange sessionExecutesSpec)

/-- ITS FALSE NEIGHBOUR: 'it returns false'. Refute it at one input. -/
def sessionExecutesWrong : ChangeSpec := { name := "sessionExecutes", fn := fun _ => fun
  | [d1, d2] => { results := [.lit (.bool false)], args := [d1, d2] }
  | _ => none }
def SessionExecutesWrongFalsely : Prop := sessionExecutesRow.holds Try.pinned (OpenSpec.ofChange sessionExecutesWrong)

/-- 'disjointlaw50.SessionMatches': WHATEVER THE INPUT: true; the input reads as it did. -/
def sessionMatchesSpec : ChangeSpec := { name := "sessionMatches", fn := fun _ => fun
  | [d1, d2, d3] => { results := [.lit (.bool true)], args := [d1, d2, d3] }
  | _ => none }
def sessionMatchesRow : OpenClaim := { program := "ytbhdangjafokaaa", sum := "2ffd84a330f35a07f367c677aee611704e2698e19628af34d5ffd6cba9c7a378", func := "disjoint/disjointlaw50.SessionMatches", spec := "sessionMatches", apart := false }
def SessionMatchesSaid : Prop := sessionMatchesRow.holds Try.pinned (OpenSpec.ofChange sessionMatchesSpec)

/-- ITS FALSE NEIGHBOUR: 'it returns false'. Refute it at one input. -/
def sessionMatchesWrong : ChangeSpec := { name := "sessionMatches", fn := fun _ => fun
  | [d1, d2, d3] => { results := [.lit (.bool false)], args := [d1, d2, d3] }
  | _ => none }
def SessionMatchesWrongFalsely : Prop := sessionMatchesRow.holds Try.pinned (OpenSpec.ofChange sessionMatchesWrong)

/- THE SECOND FORM. 'bulk': how many values and letters a reading holds, each counted each time it is reached (what is shared counts as often as it is met; a slice's spare places count too). A statement '..UptoSaid' is the law's where the arguments, and the package variables that the reading takes, are together of bulk at most 1048576: NARROWER than '..Said'. Prove '..Said' where nothing that the law and all that it calls make is longer than what came in: it says more and counts as full. Else prove '..UptoSaid'. A law counts once. -/
mutual
def uptoBulk {H : Type} : DataW H → Nat
  | .lit (.string bytes) => bytes.length + 1
  | .lit _ => 1
  | .nil => 1
  | .ptr d => uptoBulk d + 1
  | .slice elems spare => uptoBulkAll elems + uptoBulkAll spare + 1
  | .agg parts => uptoBulkAll parts + 1
  | .iface _ d => uptoBulk d + 1
  | .map entries => uptoBulkEntries entries + 1
  | .held _ => 1
def uptoBulkAll {H : Type} : List (DataW H) → Nat
  | [] => 0
  | d :: r => uptoBulk d + uptoBulkAll r
def uptoBulkEntries {H : Type} : List (Lit × DataW H) → Nat
  | [] => 0
  | x :: r => uptoBulkEntry x + uptoBulkEntries r
def uptoBulkEntry {H : Type} : Lit × DataW H → Nat
  | (.string bytes, d) => bytes.length + uptoBulk d + 1
  | (_, d) => uptoBulk d + 1
 end
def uptoSmall : (H : Type) → List (DataW H) → Bool := fun _ ds => decide (uptoBulkAll ds ≤ 1048576)
def OpenSpec.upto (s : _root_.Go.ChangeSpec) : _root_.Go.OpenSpec := { _root_.Go.OpenSpec.ofChange s with cond := some uptoSmall }

/-- 'disjointlaw50.SessionSplit', WHERE WHAT IT READS IS OF BULK AT MOST 1048576: true; the input reads as it did. -/
def sessionSplitUptoRow : OpenClaim := { program := "ytbhdangjafokaaa", sum := "2ffd84a330f35a07f367c677aee611704e2698e19628af34d5ffd6cba9c7a378", func := "disjoint/disjointlaw50.SessionSplit", spec := "sessionSplit", apart := false, narrowed := true }
def SessionSplitUptoSaid : Prop := sessionSplitUptoRow.holds Try.pinned (OpenSpec.upto sessionSplitSpec)

/-- 'disjointlaw50.SessionCovers', WHERE WHAT IT READS IS OF BULK AT MOST 1048576: true; the input reads as it did. -/
def sessionCoversUptoRow : OpenClaim := { program := "ytbhdangjafokaaa", sum := "2ffd84a330f35a07f367c677aee611704e2698e19628af34d5ffd6cba9c7a378", func := "disjoint/disjointlaw50.SessionCovers", spec := "sessionCovers", apart := false, narrowed := true }
def SessionCoversUptoSaid : Prop := sessionCoversUptoRow.holds Try.pinned (OpenSpec.upto sessionCoversSpec)

/-- 'disjointlaw50.SessionNumbers', WHERE WHAT IT READS IS OF BULK AT MOST 1048576: true; the input reads as it did. -/
def sessionNumbersUptoRow : OpenClaim := { program := "ytbhdangjafokaaa", sum := "2ffd84a330f35a07f367c677aee611704e2698e19628af34d5ffd6cba9c7a378", func := "disjoint/disjointlaw50.SessionNumbers", spec := "sessionNumbers", apart := false, narrowed := true }
def SessionNumbersUptoSaid : Prop := sessionNumbersUptoRow.holds Try.pinned (OpenSpec.upto sessionNumbersSpec)

/-- 'disjointlaw50.SessionRestart', WHERE WHAT IT READS IS OF BULK AT MOST 1048576: true; the input reads as it did. -/
def sessionRestartUptoRow : OpenClaim := { program := "ytbhdangjafokaaa", sum := "2ffd84a330f35a07f367c677aee611704e2698e19628af34d5ffd6cba9c7a378", func := "disjoint/disjointlaw50.SessionRestart", spec := "sessionRestart", apart := false, narrowed := true }
def SessionRestartUptoSaid : Prop := sessionRestartUptoRow.holds Try.pinned (OpenSpec.upto sessionRestartSpec)

/-- 'disjointlaw50.SessionExecutes', WHERE WHAT IT READS IS OF BULK AT MOST 1048576: true; the input reads as it did. -/
def sessionExecutesUptoRow : OpenClaim := { program := "ytbhdangjafokaaa", sum := "2ffd84a330f35a07f367c677aee611704e2698e19628af34d5ffd6cba9c7a378", func := "disjoint/disjointlaw50.SessionExecutes", spec := "sessionExecutes", apart := false, narrowed := true }
def SessionExecutesUptoSaid : Prop := sessionExecutesUptoRow.holds Try.pinned (OpenSpec.upto sessionExecutesSpec)

/-- 'disjointlaw50.SessionMatches', WHERE WHAT IT READS IS OF BULK AT MOST 1048576: true; the input reads as it did. -/
def sessionMatchesUptoRow : OpenClaim := { program := "ytbhdangjafokaaa", sum := "2ffd84a330f35a07f367c677aee611704e2698e19628af34d5ffd6cba9c7a378", func := "disjoint/disjointlaw50.SessionMatches", spec := "sessionMatches", apart := false, narrowed := true }
def SessionMatchesUptoSaid : Prop := sessionMatchesUptoRow.holds Try.pinned (OpenSpec.upto sessionMatchesSpec)

end Rows
end Go.Proofs.Ytbhdangjafokaaa
