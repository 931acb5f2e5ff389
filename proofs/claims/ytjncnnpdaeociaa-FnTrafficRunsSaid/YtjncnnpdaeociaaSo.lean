/- slices.Sort at numbers, by the library's contract. -/
import Derived.Test.YtjncnnpdaeociaaSh
import Derived.Test.YtjncnnpdaeociaaTXs
namespace Go.SX
open Go.Proofs

def n_slices_Sort_int64_int64 : PF Try.prog := PF.sort 175 2 (fun blk off cap zs w h1 h2 h3 => AnyM.slices_Sort_int Try.laysSort blk off cap zs w h1 h2 h3)

end Go.SX
