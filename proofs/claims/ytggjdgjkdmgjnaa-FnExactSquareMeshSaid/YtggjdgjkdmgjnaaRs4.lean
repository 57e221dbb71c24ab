import Derived.Test.YtggjdgjkdmgjnaaRows
import Derived.Test.YtggjdgjkdmgjnaaRs
import Derived.Test.YtggjdgjkdmgjnaaEqL
namespace Go.Proofs.Ytggjdgjkdmgjnaa

open Go.RowKit

theorem info_rat : (Try.prog.info? 52).map (fun i => (i.zero, i.size, i.bytes)) = some (some (.agg #[.bool false, .slice none 0 0, .slice none 0 0]), 3, 56) := by kernel_rfl
end Go.Proofs.Ytggjdgjkdmgjnaa
