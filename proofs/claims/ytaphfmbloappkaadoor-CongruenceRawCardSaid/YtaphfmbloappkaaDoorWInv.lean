import Derived.Test.YtaphfmbloappkaaDoorWTab
namespace Go.Proofs.YtaphfmbloappkaaDoorW.PrintLast
def up (b : Nat → Bool) (i : Nat) : Nat → Bool := fun j => if j = i then true else b j
end Go.Proofs.YtaphfmbloappkaaDoorW.PrintLast
