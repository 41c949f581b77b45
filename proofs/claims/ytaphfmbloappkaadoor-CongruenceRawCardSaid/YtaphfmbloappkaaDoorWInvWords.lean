import Derived.Test.YtaphfmbloappkaaDoorWInv
import Derived.Test.YtaphfmbloappkaaDoorWFootNe
namespace Go.Proofs.YtaphfmbloappkaaDoorW.PrintWords
open Go.RowKit
end Go.Proofs.YtaphfmbloappkaaDoorW.PrintWords
namespace Go.Proofs.YtaphfmbloappkaaDoorW.PrintLast
end Go.Proofs.YtaphfmbloappkaaDoorW.PrintLast
