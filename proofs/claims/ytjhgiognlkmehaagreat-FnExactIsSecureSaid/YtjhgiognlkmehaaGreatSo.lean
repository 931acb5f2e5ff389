/- slices.Sort at numbers, by the library's contract. -/
import Derived.Test.YtjhgiognlkmehaaGreatSh
import Derived.Test.YtjhgiognlkmehaaGreatTXs
import Derived.Test.YtjhgiognlkmehaaGreatNd
namespace Go.SX
open Go.Proofs

def n_slices_Sort_int64_int64 : PF Tryz.prog := PF.sort 94 2 (fun blk off cap zs w h1 h2 h3 => AnyM.slices_Sort_int Tryz.laysSort blk off cap zs w h1 h2 h3)

end Go.SX
