import Derived.Test.YtggjdgjkdmgjnaaRows
import Derived.Test.YtggjdgjkdmgjnaaMk3
import Derived.Test.YtggjdgjkdmgjnaaBx
namespace Go.Proofs.Ytggjdgjkdmgjnaa

open Go.RowKit

end Go.Proofs.Ytggjdgjkdmgjnaa
