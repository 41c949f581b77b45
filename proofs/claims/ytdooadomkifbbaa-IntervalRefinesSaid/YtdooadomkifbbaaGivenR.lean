/-
  The contract of interval.Refine, in the form that the printed walks use. No condition.
-/
import Derived.Test.YtdooadomkifbbaaGivenA
import Derived.Test.YtdooadomkifbbaaWalksM2
namespace Go.Proofs.YtdooadomkifbbaaG
open Go.RowKit Go.Proofs.Ytdooadomkifbbaa
def interval_Refine.f (op : Int) (t : Bool) (a b c d : Int) : Option (Int × Int × Int × Int) :=
  let z := refF op t (fixP a b).1 (fixP a b).2 (fixP c d).1 (fixP c d).2
  some (z.1.1, z.1.2, z.2.1, z.2.2)
theorem interval_Refine.calls (op : Int) (t : Bool) (a b c d r1 r2 r3 r4 : Int) (w : World) (h : interval_Refine.f op t a b c d = some (r1, r2, r3, r4)) :
    Calls Try.prog 22 #[.int .i64 op, .bool t, .agg #[.int .i64 a, .int .i64 b], .agg #[.int .i64 c, .int .i64 d]] w fun e w' => e = .returned (.tuple #[.agg #[.int .i64 r1, .int .i64 r2], .agg #[.int .i64 r3, .int .i64 r4]]) ∧ Below w.heap.size w w' := by
  simp only [interval_Refine.f, Option.some.injEq, Prod.mk.injEq] at h
  obtain ⟨rfl, rfl, rfl, rfl⟩ := h
  exact refine_as op t (fix_eta a b) (fix_eta c d) w
end Go.Proofs.YtdooadomkifbbaaG
