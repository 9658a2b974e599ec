/- Logs of changes, in plain Lean. -/
import Derived.RowKit
namespace Go.Proofs.Ytmclfbhcddcebaa
set_option linter.unusedSimpArgs false
set_option linter.unusedVariables false

/-- A value of a row. -/
structure Val where
  k : Int
  n : Int
  s : ByteArray
deriving DecidableEq
/-- A change. -/
structure Chg where
  t : Int
  id : Int
  old : List Val
  new : List Val
deriving DecidableEq
end Go.Proofs.Ytmclfbhcddcebaa
