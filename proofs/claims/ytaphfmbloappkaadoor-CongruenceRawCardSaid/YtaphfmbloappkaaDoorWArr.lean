import Derived.Test.YtaphfmbloappkaaDoorWWords
namespace Go.Proofs.YtaphfmbloappkaaDoorW.PrintWords
open Go.RowKit
namespace Kd
end Kd
end Go.Proofs.YtaphfmbloappkaaDoorW.PrintWords
