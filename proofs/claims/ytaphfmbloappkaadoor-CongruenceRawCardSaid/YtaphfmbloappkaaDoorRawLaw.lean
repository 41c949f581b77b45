/-
  CongruenceRaw and CongruenceMade: the walks give true. Conditions: the kinds of Made's arguments; the library's table in its variable.
-/
import Derived.Test.YtaphfmbloappkaaDoorRefC
namespace Go.Proofs.YtaphfmbloappkaaDoorG
open Go.RowKit Go.Proofs.YtaphfmbloappkaaDoor PAll
set_option linter.unusedVariables false

theorem raw_walk (op a b c d n : Int) (w : World) (hT : TabOK w) :
    Calls Tryd.prog 5 #[.int .i64 op, .agg #[.int .i64 a, .int .i64 b], .agg #[.int .i64 c, .int .i64 d], .int .i64 n] w fun e w' => e = .returned (.bool true) ∧ Below w.heap.size w w' :=
  timeboundlaw08_CongruenceRaw.calls 40 op a b c d n true w (raw_pure op a b c d n) hT
theorem made_walk (o a b h k : Int) (a0 : -2147483648 ≤ a) (a1 : a ≤ 2147483647) (b0 : -2147483648 ≤ b) (b1 : b ≤ 2147483647) (h0 : 0 ≤ h) (h1 : h ≤ 255) (k0 : 0 ≤ k) (k1 : k ≤ 255) (w : World) (hT : TabOK w) :
    Calls Tryd.prog 6 #[.int .u8 o, .int .i32 a, .int .i32 b, .agg #[.int .u8 h, .int .u8 k]] w fun e w' => e = .returned (.bool true) ∧ Below w.heap.size w w' :=
  timeboundlaw08_CongruenceMade.calls 40 o a b h k true w (made_pure a0 a1 b0 b1 h0 h1 k0 k1) hT
end Go.Proofs.YtaphfmbloappkaaDoorG
