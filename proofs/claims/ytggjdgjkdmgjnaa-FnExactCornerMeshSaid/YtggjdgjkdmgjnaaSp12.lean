import Derived.Test.YtggjdgjkdmgjnaaRows
import Derived.Test.YtggjdgjkdmgjnaaSp11y
import Derived.Test.YtggjdgjkdmgjnaaSp11n
namespace Go.Proofs.Ytggjdgjkdmgjnaa

open Go.RowKit

end Go.Proofs.Ytggjdgjkdmgjnaa
