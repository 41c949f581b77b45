import Derived.Test.YtaphfmbloappkaaDoorWApart
import Derived.Test.YtaphfmbloappkaaDoorWArr
namespace Go.Proofs.YtaphfmbloappkaaDoorW.PrintWords
open Go.RowKit
namespace Kd
end Kd
end Go.Proofs.YtaphfmbloappkaaDoorW.PrintWords
