import Derived.Test.YtggjdgjkdmgjnaaRows
import Derived.Test.YtggjdgjkdmgjnaaSp10
import Derived.Deep.Cut
namespace Go.Proofs.Ytggjdgjkdmgjnaa

open Go.RowKit

end Go.Proofs.Ytggjdgjkdmgjnaa
