/-
  The contract of interval.Do, in the form that the printed walks use. No condition.
-/
import Derived.Test.YtdooadomkifbbaaGivenA
import Derived.Test.YtdooadomkifbbaaWalksM1
namespace Go.Proofs.YtdooadomkifbbaaG
open Go.RowKit Go.Proofs.Ytdooadomkifbbaa
def interval_Do.f (op a b c d : Int) : Option (Int × Int) := some (doF op (fixP a b).1 (fixP a b).2 (fixP c d).1 (fixP c d).2)
theorem interval_Do.calls (op a b c d r1 r2 : Int) (w : World) (h : interval_Do.f op a b c d = some (r1, r2)) :
    Calls Try.prog 16 #[.int .i64 op, .agg #[.int .i64 a, .int .i64 b], .agg #[.int .i64 c, .int .i64 d]] w fun e w' => e = .returned (.agg #[.int .i64 r1, .int .i64 r2]) ∧ Below w.heap.size w w' := by
  have e := Option.some.inj h
  have := do_as op (fix_eta a b) (fix_eta c d) w
  rwa [e] at this
end Go.Proofs.YtdooadomkifbbaaG
