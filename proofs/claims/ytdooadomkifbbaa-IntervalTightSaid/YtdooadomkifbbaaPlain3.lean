/-
  Intervals of words, in plain Lean, third part: what Refine gives. No program in sight; no condition.
-/
import Derived.Test.YtdooadomkifbbaaPlain2
namespace Go.Proofs.Ytdooadomkifbbaa
open Go.RowKit

/-- Both, or None and None if one of them has no word. -/
def finF (X Y : Int × Int) : (Int × Int) × (Int × Int) := if emptyB X.1 X.2 = true then ((1, 0), (1, 0)) else if emptyB Y.1 Y.2 = true then ((1, 0), (1, 0)) else (X, Y)
theorem fin_1 {X Y : Int × Int} (h1 : emptyB X.1 X.2 = false) (h2 : emptyB Y.1 Y.2 = false) : finF X Y = ((X.1, X.2), (Y.1, Y.2)) := by
  unfold finF; rw [h1, h2]; rfl
theorem fin_2 {X Y : Int × Int} (h1 : emptyB X.1 X.2 = false) (h2 : emptyB Y.1 Y.2 = true) : finF X Y = ((1, 0), (1, 0)) := by
  unfold finF; rw [h1, h2]; rfl
theorem fin_3 {X Y : Int × Int} (h1 : emptyB X.1 X.2 = true) : finF X Y = ((1, 0), (1, 0)) := by
  unfold finF; rw [h1]; rfl
end Go.Proofs.Ytdooadomkifbbaa
