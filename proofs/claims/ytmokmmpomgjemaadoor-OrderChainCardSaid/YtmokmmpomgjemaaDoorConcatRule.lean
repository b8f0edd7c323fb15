/- Walks: slices.Grow (at nil) and slices.Concat at Rule. Bound: the result's bytes. -/
import Derived.Test.YtmokmmpomgjemaaDoorProg
import Derived.Test.YtmokmmpomgjemaaDoorOwn
import Derived.KernelRfl
import Derived.Deep.LoopGhost
namespace Go.Proofs.YtmokmmpomgjemaaDoor
open Go.RowKit

theorem infocRule : (Tryd.prog.info? 46).map (fun i => (i.zero, i.size, i.bytes)) = some (some (.agg #[.slice none 0 0, .int .i64 0]), 2, 32) := by kernel_rfl

end Go.Proofs.YtmokmmpomgjemaaDoor
