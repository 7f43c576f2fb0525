/- by wip/prune.py -/
import Derived.Test.YtbmcbhpkefjhbaaDoorMTableDecodes4
import Derived.Test.YtbmcbhpkefjhbaaDoorMTableDecodes6
namespace Go.Proofs.YtbmcbhpkefjhbaaDoor.Dsg
open Go.RowKit YtbmcbhpkefjhbaaDoor.Mem YtbmcbhpkefjhbaaDoorW.PrintWords YtbmcbhpkefjhbaaDoorW.PrintLast YtbmcbhpkefjhbaaDoorW.PrintMore
theorem info64 : (Tryd.prog.info? 3).map (fun i=>(i.zero,i.size,i.bytes))=some (some (.int .i64 0),1,8):=by kernel_rfl
end Go.Proofs.YtbmcbhpkefjhbaaDoor.Dsg
