import Derived.Test.YtmkcacgmnnlddaaGreatRows
import Derived.Test.YtmkcacgmnnlddaaGreatPClosureM38
import Derived.Test.YtmkcacgmnnlddaaGreatPClosureM45
import Derived.Test.YtmkcacgmnnlddaaGreatPClosureM35
import Derived.Test.YtmkcacgmnnlddaaGreatPClosureM29
import Derived.Test.YtmkcacgmnnlddaaGreatPClosureM34
import Derived.Test.YtmkcacgmnnlddaaGreatPClosureM31
namespace Go.Proofs.YtmkcacgmnnlddaaGreat
set_option maxRecDepth 100000
set_option maxHeartbeats 16000000
section
open Go.RowKit
def qTab:List MeQ :=
 [⟨[(0,0),(2,0),(2,2),(0,2),(1,1)],[⟨4,0,1,0,0⟩,⟨4,1,2,0,0⟩,⟨4,2,3,1,0⟩,⟨4,3,0,0,0⟩]⟩,
  ⟨[(0,0),(2,0),(2,2),(0,2),(1,1)],[⟨4,0,1,0,0⟩,⟨4,1,2,0,0⟩,⟨4,2,3,1,0⟩,⟨4,3,0,1,0⟩]⟩,
  ⟨[(0,0),(2,0),(2,1),(0,2)],[⟨1,2,0,0,0⟩,⟨3,0,2,0,0⟩]⟩,
  ⟨[(0,0),(2,0),(2,1),(0,2)],[⟨1,2,0,0,0⟩,⟨3,0,2,1,0⟩]⟩,
  ⟨[(0,0),(2,0),(2,1),(0,2)],[⟨1,2,0,0,0⟩,⟨3,0,2,2,0⟩]⟩,
  ⟨[(0,0),(1,0),(2,0),(2,1),(1,1),(1,2),(0,2),(0,1)],[⟨1,4,0,0,0⟩,⟨7,0,4,0,0⟩,⟨3,4,2,0,0⟩,⟨1,2,4,1,0⟩,⟨7,4,6,0,0⟩,⟨5,6,4,2,0⟩]⟩,
  ⟨[(0,0),(2,0),(2,2),(0,2),(1,1),(1,0)],[⟨5,4,0,0,1⟩,⟨5,1,4,0,1⟩,⟨4,1,2,0,0⟩,⟨4,2,3,1,0⟩,⟨4,3,0,0,0⟩]⟩,
  ⟨[(0,0),(2,0),(2,2),(0,2),(1,1),(2,1)],[⟨4,0,1,0,0⟩,⟨5,4,1,0,1⟩,⟨5,2,4,0,1⟩,⟨4,2,3,1,0⟩,⟨4,3,0,0,0⟩]⟩,
  ⟨[(0,0),(2,0),(2,2),(0,2),(1,1),(1,2)],[⟨4,0,1,0,0⟩,⟨4,1,2,0,0⟩,⟨5,4,2,1,1⟩,⟨5,3,4,1,1⟩,⟨4,3,0,0,0⟩]⟩,
  ⟨[(0,0),(2,0),(2,2),(0,2),(1,1),(0,1)],[⟨4,0,1,0,0⟩,⟨4,1,2,0,0⟩,⟨4,2,3,1,0⟩,⟨5,4,3,0,1⟩,⟨5,0,4,0,1⟩]⟩,
  ⟨[(0,0),(2,0),(2,2),(0,2),(1,1),(1,0)],[⟨5,4,0,0,1⟩,⟨5,1,4,0,1⟩,⟨4,1,2,0,0⟩,⟨4,2,3,1,0⟩,⟨4,3,0,1,0⟩]⟩,
  ⟨[(0,0),(2,0),(2,2),(0,2),(1,1),(2,1)],[⟨4,0,1,0,0⟩,⟨5,4,1,0,1⟩,⟨5,2,4,0,1⟩,⟨4,2,3,1,0⟩,⟨4,3,0,1,0⟩]⟩,
  ⟨[(0,0),(2,0),(2,2),(0,2),(1,1),(1,2)],[⟨4,0,1,0,0⟩,⟨4,1,2,0,0⟩,⟨5,4,2,1,1⟩,⟨5,3,4,1,1⟩,⟨4,3,0,1,0⟩]⟩,
  ⟨[(0,0),(2,0),(2,2),(0,2),(1,1),(0,1)],[⟨4,0,1,0,0⟩,⟨4,1,2,0,0⟩,⟨4,2,3,1,0⟩,⟨5,4,3,1,1⟩,⟨5,0,4,1,1⟩]⟩,
  ⟨[(0,0),(2,0),(2,1),(0,2),(1,mkRat 1 2)],[⟨4,1,2,0,1⟩,⟨4,0,1,0,1⟩,⟨4,3,0,0,1⟩,⟨4,2,3,0,1⟩]⟩,
  ⟨[(0,0),(2,0),(2,1),(0,2),(1,mkRat 1 2)],[⟨4,1,2,0,1⟩,⟨4,0,1,0,1⟩,⟨4,3,0,1,1⟩,⟨4,2,3,1,1⟩]⟩,
  ⟨[(0,0),(2,0),(2,1),(0,2),(1,mkRat 1 2)],[⟨4,1,2,0,1⟩,⟨4,0,1,0,1⟩,⟨4,3,0,2,1⟩,⟨4,2,3,2,1⟩]⟩,
  ⟨[(0,0),(1,0),(2,0),(2,1),(1,1),(1,2),(0,2),(0,1),(mkRat 1 2,mkRat 1 2)],[⟨8,1,4,0,1⟩,⟨8,0,1,0,1⟩,⟨8,7,0,0,1⟩,⟨8,4,7,0,1⟩,⟨3,4,2,0,0⟩,⟨1,2,4,1,0⟩,⟨7,4,6,0,0⟩,⟨5,6,4,2,0⟩]⟩,
  ⟨[(0,0),(1,0),(2,0),(2,1),(1,1),(1,2),(0,2),(0,1),(mkRat 3 2,mkRat 1 2)],[⟨1,4,0,0,0⟩,⟨7,0,4,0,0⟩,⟨8,3,4,0,1⟩,⟨8,2,3,0,1⟩,⟨8,1,2,1,1⟩,⟨8,4,1,1,1⟩,⟨7,4,6,0,0⟩,⟨5,6,4,2,0⟩]⟩,
  ⟨[(0,0),(1,0),(2,0),(2,1),(1,1),(1,2),(0,2),(0,1),(mkRat 1 2,mkRat 3 2)],[⟨1,4,0,0,0⟩,⟨7,0,4,0,0⟩,⟨3,4,2,0,0⟩,⟨1,2,4,1,0⟩,⟨8,7,4,0,1⟩,⟨8,6,7,0,1⟩,⟨8,5,6,2,1⟩,⟨8,4,5,2,1⟩]⟩,
  ⟨[(0,0),(2,0),(2,2),(0,2),(1,1),(1,0),(0,1),(mkRat 1 2,mkRat 1 2)],[⟨7,5,4,0,2⟩,⟨7,0,5,0,2⟩,⟨5,1,4,0,1⟩,⟨4,1,2,0,0⟩,⟨4,2,3,1,0⟩,⟨6,4,3,0,1⟩,⟨7,6,0,0,2⟩,⟨7,4,6,0,2⟩]⟩,
  ⟨[(0,0),(2,0),(2,2),(0,2),(1,1),(1,0),(2,1),(mkRat 3 2,mkRat 1 2)],[⟨5,4,0,0,1⟩,⟨7,5,1,0,2⟩,⟨7,4,5,0,2⟩,⟨7,6,4,0,2⟩,⟨7,1,6,0,2⟩,⟨6,2,4,0,1⟩,⟨4,2,3,1,0⟩,⟨4,3,0,0,0⟩]⟩,
  ⟨[(0,0),(2,0),(2,2),(0,2),(1,1),(1,0),(2,1)],[⟨5,4,0,0,1⟩,⟨5,1,4,0,1⟩,⟨6,4,1,0,1⟩,⟨6,2,4,0,1⟩,⟨4,2,3,1,0⟩,⟨4,3,0,0,0⟩]⟩,
  ⟨[(0,0),(2,0),(2,2),(0,2),(1,1),(1,0),(1,2)],[⟨5,4,0,0,1⟩,⟨5,1,4,0,1⟩,⟨4,1,2,0,0⟩,⟨6,4,2,1,1⟩,⟨6,3,4,1,1⟩,⟨4,3,0,0,0⟩]⟩,
  ⟨[(0,0),(2,0),(2,2),(0,2),(1,1),(1,0),(0,1)],[⟨5,4,0,0,1⟩,⟨5,1,4,0,1⟩,⟨4,1,2,0,0⟩,⟨4,2,3,1,0⟩,⟨6,4,3,0,1⟩,⟨6,0,4,0,1⟩]⟩,
  ⟨[(0,0),(2,0),(2,2),(0,2),(1,1),(2,1),(1,0)],[⟨6,4,0,0,1⟩,⟨6,1,4,0,1⟩,⟨5,4,1,0,1⟩,⟨5,2,4,0,1⟩,⟨4,2,3,1,0⟩,⟨4,3,0,0,0⟩]⟩,
  ⟨[(0,0),(2,0),(2,2),(0,2),(1,1),(2,1),(1,0),(mkRat 3 2,mkRat 1 2)],[⟨6,4,0,0,1⟩,⟨7,6,1,0,2⟩,⟨7,4,6,0,2⟩,⟨7,5,4,0,2⟩,⟨7,1,5,0,2⟩,⟨5,2,4,0,1⟩,⟨4,2,3,1,0⟩,⟨4,3,0,0,0⟩]⟩,
  ⟨[(0,0),(2,0),(2,2),(0,2),(1,1),(2,1),(1,2),(mkRat 3 2,mkRat 3 2)],[⟨4,0,1,0,0⟩,⟨5,4,1,0,1⟩,⟨7,5,2,0,2⟩,⟨7,4,5,0,2⟩,⟨7,6,4,1,2⟩,⟨7,2,6,1,2⟩,⟨6,3,4,1,1⟩,⟨4,3,0,0,0⟩]⟩,
  ⟨[(0,0),(2,0),(2,2),(0,2),(1,1),(2,1),(1,2)],[⟨4,0,1,0,0⟩,⟨5,4,1,0,1⟩,⟨5,2,4,0,1⟩,⟨6,4,2,1,1⟩,⟨6,3,4,1,1⟩,⟨4,3,0,0,0⟩]⟩,
  ⟨[(0,0),(2,0),(2,2),(0,2),(1,1),(2,1),(0,1)],[⟨4,0,1,0,0⟩,⟨5,4,1,0,1⟩,⟨5,2,4,0,1⟩,⟨4,2,3,1,0⟩,⟨6,4,3,0,1⟩,⟨6,0,4,0,1⟩]⟩,
  ⟨[(0,0),(2,0),(2,2),(0,2),(1,1),(1,2),(1,0)],[⟨6,4,0,0,1⟩,⟨6,1,4,0,1⟩,⟨4,1,2,0,0⟩,⟨5,4,2,1,1⟩,⟨5,3,4,1,1⟩,⟨4,3,0,0,0⟩]⟩,
  ⟨[(0,0),(2,0),(2,2),(0,2),(1,1),(1,2),(2,1)],[⟨4,0,1,0,0⟩,⟨6,4,1,0,1⟩,⟨6,2,4,0,1⟩,⟨5,4,2,1,1⟩,⟨5,3,4,1,1⟩,⟨4,3,0,0,0⟩]⟩,
  ⟨[(0,0),(2,0),(2,2),(0,2),(1,1),(1,2),(2,1),(mkRat 3 2,mkRat 3 2)],[⟨4,0,1,0,0⟩,⟨6,4,1,0,1⟩,⟨7,6,2,0,2⟩,⟨7,4,6,0,2⟩,⟨7,5,4,1,2⟩,⟨7,2,5,1,2⟩,⟨5,3,4,1,1⟩,⟨4,3,0,0,0⟩]⟩,
  ⟨[(0,0),(2,0),(2,2),(0,2),(1,1),(1,2),(0,1),(mkRat 1 2,mkRat 3 2)],[⟨4,0,1,0,0⟩,⟨4,1,2,0,0⟩,⟨5,4,2,1,1⟩,⟨7,5,3,1,2⟩,⟨7,4,5,1,2⟩,⟨7,6,4,0,2⟩,⟨7,3,6,0,2⟩,⟨6,0,4,0,1⟩]⟩,
  ⟨[(0,0),(2,0),(2,2),(0,2),(1,1),(1,2),(0,1)],[⟨4,0,1,0,0⟩,⟨4,1,2,0,0⟩,⟨5,4,2,1,1⟩,⟨5,3,4,1,1⟩,⟨6,4,3,0,1⟩,⟨6,0,4,0,1⟩]⟩,
  ⟨[(0,0),(2,0),(2,2),(0,2),(1,1),(0,1),(1,0)],[⟨6,4,0,0,1⟩,⟨6,1,4,0,1⟩,⟨4,1,2,0,0⟩,⟨4,2,3,1,0⟩,⟨5,4,3,0,1⟩,⟨5,0,4,0,1⟩]⟩,
  ⟨[(0,0),(2,0),(2,2),(0,2),(1,1),(0,1),(2,1)],[⟨4,0,1,0,0⟩,⟨6,4,1,0,1⟩,⟨6,2,4,0,1⟩,⟨4,2,3,1,0⟩,⟨5,4,3,0,1⟩,⟨5,0,4,0,1⟩]⟩,
  ⟨[(0,0),(2,0),(2,2),(0,2),(1,1),(0,1),(1,2)],[⟨4,0,1,0,0⟩,⟨4,1,2,0,0⟩,⟨6,4,2,1,1⟩,⟨6,3,4,1,1⟩,⟨5,4,3,0,1⟩,⟨5,0,4,0,1⟩]⟩,
  ⟨[(0,0),(2,0),(2,2),(0,2),(1,1),(0,1),(1,2),(mkRat 1 2,mkRat 3 2)],[⟨4,0,1,0,0⟩,⟨4,1,2,0,0⟩,⟨6,4,2,1,1⟩,⟨7,6,3,1,2⟩,⟨7,4,6,1,2⟩,⟨7,5,4,0,2⟩,⟨7,3,5,0,2⟩,⟨5,0,4,0,1⟩]⟩,
  ⟨[(0,0),(2,0),(2,2),(0,2),(1,1),(0,1),(1,0),(mkRat 1 2,mkRat 1 2)],[⟨7,6,4,0,2⟩,⟨7,0,6,0,2⟩,⟨6,1,4,0,1⟩,⟨4,1,2,0,0⟩,⟨4,2,3,1,0⟩,⟨5,4,3,0,1⟩,⟨7,5,0,0,2⟩,⟨7,4,5,0,2⟩]⟩,
  ⟨[(0,0),(2,0),(2,2),(0,2),(1,1),(1,0),(0,1),(mkRat 1 2,mkRat 1 2)],[⟨7,5,4,0,2⟩,⟨7,0,5,0,2⟩,⟨5,1,4,0,1⟩,⟨4,1,2,0,0⟩,⟨4,2,3,1,0⟩,⟨6,4,3,1,1⟩,⟨7,6,0,1,2⟩,⟨7,4,6,1,2⟩]⟩,
  ⟨[(0,0),(2,0),(2,2),(0,2),(1,1),(1,0),(2,1),(mkRat 3 2,mkRat 1 2)],[⟨5,4,0,0,1⟩,⟨7,5,1,0,2⟩,⟨7,4,5,0,2⟩,⟨7,6,4,0,2⟩,⟨7,1,6,0,2⟩,⟨6,2,4,0,1⟩,⟨4,2,3,1,0⟩,⟨4,3,0,1,0⟩]⟩,
  ⟨[(0,0),(2,0),(2,2),(0,2),(1,1),(1,0),(2,1)],[⟨5,4,0,0,1⟩,⟨5,1,4,0,1⟩,⟨6,4,1,0,1⟩,⟨6,2,4,0,1⟩,⟨4,2,3,1,0⟩,⟨4,3,0,1,0⟩]⟩,
  ⟨[(0,0),(2,0),(2,2),(0,2),(1,1),(1,0),(1,2)],[⟨5,4,0,0,1⟩,⟨5,1,4,0,1⟩,⟨4,1,2,0,0⟩,⟨6,4,2,1,1⟩,⟨6,3,4,1,1⟩,⟨4,3,0,1,0⟩]⟩,
  ⟨[(0,0),(2,0),(2,2),(0,2),(1,1),(1,0),(0,1)],[⟨5,4,0,0,1⟩,⟨5,1,4,0,1⟩,⟨4,1,2,0,0⟩,⟨4,2,3,1,0⟩,⟨6,4,3,1,1⟩,⟨6,0,4,1,1⟩]⟩,
  ⟨[(0,0),(2,0),(2,2),(0,2),(1,1),(2,1),(1,0)],[⟨6,4,0,0,1⟩,⟨6,1,4,0,1⟩,⟨5,4,1,0,1⟩,⟨5,2,4,0,1⟩,⟨4,2,3,1,0⟩,⟨4,3,0,1,0⟩]⟩,
  ⟨[(0,0),(2,0),(2,2),(0,2),(1,1),(2,1),(1,0),(mkRat 3 2,mkRat 1 2)],[⟨6,4,0,0,1⟩,⟨7,6,1,0,2⟩,⟨7,4,6,0,2⟩,⟨7,5,4,0,2⟩,⟨7,1,5,0,2⟩,⟨5,2,4,0,1⟩,⟨4,2,3,1,0⟩,⟨4,3,0,1,0⟩]⟩,
  ⟨[(0,0),(2,0),(2,2),(0,2),(1,1),(2,1),(1,2),(mkRat 3 2,mkRat 3 2)],[⟨4,0,1,0,0⟩,⟨5,4,1,0,1⟩,⟨7,5,2,0,2⟩,⟨7,4,5,0,2⟩,⟨7,6,4,1,2⟩,⟨7,2,6,1,2⟩,⟨6,3,4,1,1⟩,⟨4,3,0,1,0⟩]⟩,
  ⟨[(0,0),(2,0),(2,2),(0,2),(1,1),(2,1),(1,2)],[⟨4,0,1,0,0⟩,⟨5,4,1,0,1⟩,⟨5,2,4,0,1⟩,⟨6,4,2,1,1⟩,⟨6,3,4,1,1⟩,⟨4,3,0,1,0⟩]⟩,
  ⟨[(0,0),(2,0),(2,2),(0,2),(1,1),(2,1),(0,1)],[⟨4,0,1,0,0⟩,⟨5,4,1,0,1⟩,⟨5,2,4,0,1⟩,⟨4,2,3,1,0⟩,⟨6,4,3,1,1⟩,⟨6,0,4,1,1⟩]⟩,
  ⟨[(0,0),(2,0),(2,2),(0,2),(1,1),(1,2),(1,0)],[⟨6,4,0,0,1⟩,⟨6,1,4,0,1⟩,⟨4,1,2,0,0⟩,⟨5,4,2,1,1⟩,⟨5,3,4,1,1⟩,⟨4,3,0,1,0⟩]⟩,
  ⟨[(0,0),(2,0),(2,2),(0,2),(1,1),(1,2),(2,1)],[⟨4,0,1,0,0⟩,⟨6,4,1,0,1⟩,⟨6,2,4,0,1⟩,⟨5,4,2,1,1⟩,⟨5,3,4,1,1⟩,⟨4,3,0,1,0⟩]⟩,
  ⟨[(0,0),(2,0),(2,2),(0,2),(1,1),(1,2),(2,1),(mkRat 3 2,mkRat 3 2)],[⟨4,0,1,0,0⟩,⟨6,4,1,0,1⟩,⟨7,6,2,0,2⟩,⟨7,4,6,0,2⟩,⟨7,5,4,1,2⟩,⟨7,2,5,1,2⟩,⟨5,3,4,1,1⟩,⟨4,3,0,1,0⟩]⟩,
  ⟨[(0,0),(2,0),(2,2),(0,2),(1,1),(1,2),(0,1),(mkRat 1 2,mkRat 3 2)],[⟨4,0,1,0,0⟩,⟨4,1,2,0,0⟩,⟨5,4,2,1,1⟩,⟨7,5,3,1,2⟩,⟨7,4,5,1,2⟩,⟨7,6,4,1,2⟩,⟨7,3,6,1,2⟩,⟨6,0,4,1,1⟩]⟩,
  ⟨[(0,0),(2,0),(2,2),(0,2),(1,1),(1,2),(0,1)],[⟨4,0,1,0,0⟩,⟨4,1,2,0,0⟩,⟨5,4,2,1,1⟩,⟨5,3,4,1,1⟩,⟨6,4,3,1,1⟩,⟨6,0,4,1,1⟩]⟩,
  ⟨[(0,0),(2,0),(2,2),(0,2),(1,1),(0,1),(1,0)],[⟨6,4,0,0,1⟩,⟨6,1,4,0,1⟩,⟨4,1,2,0,0⟩,⟨4,2,3,1,0⟩,⟨5,4,3,1,1⟩,⟨5,0,4,1,1⟩]⟩,
  ⟨[(0,0),(2,0),(2,2),(0,2),(1,1),(0,1),(2,1)],[⟨4,0,1,0,0⟩,⟨6,4,1,0,1⟩,⟨6,2,4,0,1⟩,⟨4,2,3,1,0⟩,⟨5,4,3,1,1⟩,⟨5,0,4,1,1⟩]⟩,
  ⟨[(0,0),(2,0),(2,2),(0,2),(1,1),(0,1),(1,2)],[⟨4,0,1,0,0⟩,⟨4,1,2,0,0⟩,⟨6,4,2,1,1⟩,⟨6,3,4,1,1⟩,⟨5,4,3,1,1⟩,⟨5,0,4,1,1⟩]⟩,
  ⟨[(0,0),(2,0),(2,2),(0,2),(1,1),(0,1),(1,2),(mkRat 1 2,mkRat 3 2)],[⟨4,0,1,0,0⟩,⟨4,1,2,0,0⟩,⟨6,4,2,1,1⟩,⟨7,6,3,1,2⟩,⟨7,4,6,1,2⟩,⟨7,5,4,1,2⟩,⟨7,3,5,1,2⟩,⟨5,0,4,1,1⟩]⟩,
  ⟨[(0,0),(2,0),(2,2),(0,2),(1,1),(0,1),(1,0),(mkRat 1 2,mkRat 1 2)],[⟨7,6,4,0,2⟩,⟨7,0,6,0,2⟩,⟨6,1,4,0,1⟩,⟨4,1,2,0,0⟩,⟨4,2,3,1,0⟩,⟨5,4,3,1,1⟩,⟨7,5,0,1,2⟩,⟨7,4,5,1,2⟩]⟩,
  ⟨[(0,0),(2,0),(2,1),(0,2),(1,mkRat 1 2),(2,mkRat 1 2)],[⟨5,4,1,0,2⟩,⟨5,2,4,0,2⟩,⟨4,0,1,0,1⟩,⟨4,3,0,0,1⟩,⟨4,2,3,0,1⟩]⟩,
  ⟨[(0,0),(2,0),(2,1),(0,2),(1,mkRat 1 2),(1,0)],[⟨4,1,2,0,1⟩,⟨5,4,0,0,2⟩,⟨5,1,4,0,2⟩,⟨4,3,0,0,1⟩,⟨4,2,3,0,1⟩]⟩,
  ⟨[(0,0),(2,0),(2,1),(0,2),(1,mkRat 1 2),(0,1)],[⟨4,1,2,0,1⟩,⟨4,0,1,0,1⟩,⟨5,4,3,0,2⟩,⟨5,0,4,0,2⟩,⟨4,2,3,0,1⟩]⟩,
  ⟨[(0,0),(2,0),(2,1),(0,2),(1,mkRat 1 2),(1,mkRat 3 2)],[⟨4,1,2,0,1⟩,⟨4,0,1,0,1⟩,⟨4,3,0,0,1⟩,⟨5,4,2,0,2⟩,⟨5,3,4,0,2⟩]⟩,
  ⟨[(0,0),(2,0),(2,1),(0,2),(1,mkRat 1 2),(2,mkRat 1 2)],[⟨5,4,1,0,2⟩,⟨5,2,4,0,2⟩,⟨4,0,1,0,1⟩,⟨4,3,0,1,1⟩,⟨4,2,3,1,1⟩]⟩,
  ⟨[(0,0),(2,0),(2,1),(0,2),(1,mkRat 1 2),(1,0)],[⟨4,1,2,0,1⟩,⟨5,4,0,0,2⟩,⟨5,1,4,0,2⟩,⟨4,3,0,1,1⟩,⟨4,2,3,1,1⟩]⟩,
  ⟨[(0,0),(2,0),(2,1),(0,2),(1,mkRat 1 2),(0,1)],[⟨4,1,2,0,1⟩,⟨4,0,1,0,1⟩,⟨5,4,3,1,2⟩,⟨5,0,4,1,2⟩,⟨4,2,3,1,1⟩]⟩,
  ⟨[(0,0),(2,0),(2,1),(0,2),(1,mkRat 1 2),(1,mkRat 3 2)],[⟨4,1,2,0,1⟩,⟨4,0,1,0,1⟩,⟨4,3,0,1,1⟩,⟨5,4,2,1,2⟩,⟨5,3,4,1,2⟩]⟩,
  ⟨[(0,0),(2,0),(2,1),(0,2),(1,mkRat 1 2),(2,mkRat 1 2)],[⟨5,4,1,0,2⟩,⟨5,2,4,0,2⟩,⟨4,0,1,0,1⟩,⟨4,3,0,2,1⟩,⟨4,2,3,2,1⟩]⟩,
  ⟨[(0,0),(2,0),(2,1),(0,2),(1,mkRat 1 2),(1,0)],[⟨4,1,2,0,1⟩,⟨5,4,0,0,2⟩,⟨5,1,4,0,2⟩,⟨4,3,0,2,1⟩,⟨4,2,3,2,1⟩]⟩,
  ⟨[(0,0),(2,0),(2,1),(0,2),(1,mkRat 1 2),(0,1)],[⟨4,1,2,0,1⟩,⟨4,0,1,0,1⟩,⟨5,4,3,2,2⟩,⟨5,0,4,2,2⟩,⟨4,2,3,2,1⟩]⟩,
  ⟨[(0,0),(2,0),(2,1),(0,2),(1,mkRat 1 2),(1,mkRat 3 2)],[⟨4,1,2,0,1⟩,⟨4,0,1,0,1⟩,⟨4,3,0,2,1⟩,⟨5,4,2,2,2⟩,⟨5,3,4,2,2⟩]⟩,
  ⟨[(0,0),(1,0),(2,0),(2,1),(1,1),(1,2),(0,2),(0,1),(mkRat 1 2,mkRat 1 2),(1,mkRat 1 2),(mkRat 3 2,mkRat 1 2)],[⟨9,8,1,0,2⟩,⟨9,4,8,0,2⟩,⟨8,0,1,0,1⟩,⟨8,7,0,0,1⟩,⟨8,4,7,0,1⟩,⟨10,3,4,0,1⟩,⟨10,2,3,0,1⟩,⟨10,1,2,1,1⟩,⟨9,10,4,1,2⟩,⟨9,1,10,1,2⟩,⟨7,4,6,0,0⟩,⟨5,6,4,2,0⟩]⟩,
  ⟨[(0,0),(1,0),(2,0),(2,1),(1,1),(1,2),(0,2),(0,1),(mkRat 1 2,mkRat 1 2),(mkRat 1 2,0)],[⟨8,1,4,0,1⟩,⟨9,8,0,0,2⟩,⟨9,1,8,0,2⟩,⟨8,7,0,0,1⟩,⟨8,4,7,0,1⟩,⟨3,4,2,0,0⟩,⟨1,2,4,1,0⟩,⟨7,4,6,0,0⟩,⟨5,6,4,2,0⟩]⟩,
  ⟨[(0,0),(1,0),(2,0),(2,1),(1,1),(1,2),(0,2),(0,1),(mkRat 1 2,mkRat 1 2),(0,mkRat 1 2)],[⟨8,1,4,0,1⟩,⟨8,0,1,0,1⟩,⟨9,8,7,0,2⟩,⟨9,0,8,0,2⟩,⟨8,4,7,0,1⟩,⟨3,4,2,0,0⟩,⟨1,2,4,1,0⟩,⟨7,4,6,0,0⟩,⟨5,6,4,2,0⟩]⟩,
  ⟨[(0,0),(1,0),(2,0),(2,1),(1,1),(1,2),(0,2),(0,1),(mkRat 1 2,mkRat 1 2),(mkRat 1 2,mkRat 3 2),(mkRat 1 2,1)],[⟨8,1,4,0,1⟩,⟨8,0,1,0,1⟩,⟨8,7,0,0,1⟩,⟨10,8,4,0,2⟩,⟨10,7,8,0,2⟩,⟨3,4,2,0,0⟩,⟨1,2,4,1,0⟩,⟨10,9,7,0,2⟩,⟨10,4,9,0,2⟩,⟨9,6,7,0,1⟩,⟨9,5,6,2,1⟩,⟨9,4,5,2,1⟩]⟩,
  ⟨[(0,0),(1,0),(2,0),(2,1),(1,1),(1,2),(0,2),(0,1),(mkRat 1 2,mkRat 1 2),(mkRat 3 2,mkRat 1 2)],[⟨8,1,4,0,1⟩,⟨8,0,1,0,1⟩,⟨8,7,0,0,1⟩,⟨8,4,7,0,1⟩,⟨9,3,4,0,1⟩,⟨9,2,3,0,1⟩,⟨9,1,2,1,1⟩,⟨9,4,1,1,1⟩,⟨7,4,6,0,0⟩,⟨5,6,4,2,0⟩]⟩,
  ⟨[(0,0),(1,0),(2,0),(2,1),(1,1),(1,2),(0,2),(0,1),(mkRat 1 2,mkRat 1 2),(mkRat 1 2,mkRat 3 2)],[⟨8,1,4,0,1⟩,⟨8,0,1,0,1⟩,⟨8,7,0,0,1⟩,⟨8,4,7,0,1⟩,⟨3,4,2,0,0⟩,⟨1,2,4,1,0⟩,⟨9,7,4,0,1⟩,⟨9,6,7,0,1⟩,⟨9,5,6,2,1⟩,⟨9,4,5,2,1⟩]⟩,
  ⟨[(0,0),(1,0),(2,0),(2,1),(1,1),(1,2),(0,2),(0,1),(mkRat 3 2,mkRat 1 2),(mkRat 1 2,mkRat 1 2)],[⟨9,1,4,0,1⟩,⟨9,0,1,0,1⟩,⟨9,7,0,0,1⟩,⟨9,4,7,0,1⟩,⟨8,3,4,0,1⟩,⟨8,2,3,0,1⟩,⟨8,1,2,1,1⟩,⟨8,4,1,1,1⟩,⟨7,4,6,0,0⟩,⟨5,6,4,2,0⟩]⟩,
  ⟨[(0,0),(1,0),(2,0),(2,1),(1,1),(1,2),(0,2),(0,1),(mkRat 3 2,mkRat 1 2),(mkRat 3 2,1)],[⟨1,4,0,0,0⟩,⟨7,0,4,0,0⟩,⟨9,8,3,0,2⟩,⟨9,4,8,0,2⟩,⟨8,2,3,0,1⟩,⟨8,1,2,1,1⟩,⟨8,4,1,1,1⟩,⟨7,4,6,0,0⟩,⟨5,6,4,2,0⟩]⟩,
  ⟨[(0,0),(1,0),(2,0),(2,1),(1,1),(1,2),(0,2),(0,1),(mkRat 3 2,mkRat 1 2),(2,mkRat 1 2)],[⟨1,4,0,0,0⟩,⟨7,0,4,0,0⟩,⟨8,3,4,0,1⟩,⟨9,8,2,0,2⟩,⟨9,3,8,0,2⟩,⟨8,1,2,1,1⟩,⟨8,4,1,1,1⟩,⟨7,4,6,0,0⟩,⟨5,6,4,2,0⟩]⟩,
  ⟨[(0,0),(1,0),(2,0),(2,1),(1,1),(1,2),(0,2),(0,1),(mkRat 3 2,mkRat 1 2),(mkRat 3 2,0)],[⟨1,4,0,0,0⟩,⟨7,0,4,0,0⟩,⟨8,3,4,0,1⟩,⟨8,2,3,0,1⟩,⟨9,8,1,1,2⟩,⟨9,2,8,1,2⟩,⟨8,4,1,1,1⟩,⟨7,4,6,0,0⟩,⟨5,6,4,2,0⟩]⟩,
  ⟨[(0,0),(1,0),(2,0),(2,1),(1,1),(1,2),(0,2),(0,1),(mkRat 3 2,mkRat 1 2),(mkRat 1 2,mkRat 1 2),(1,mkRat 1 2)],[⟨10,9,1,0,2⟩,⟨10,4,9,0,2⟩,⟨9,0,1,0,1⟩,⟨9,7,0,0,1⟩,⟨9,4,7,0,1⟩,⟨8,3,4,0,1⟩,⟨8,2,3,0,1⟩,⟨8,1,2,1,1⟩,⟨10,8,4,1,2⟩,⟨10,1,8,1,2⟩,⟨7,4,6,0,0⟩,⟨5,6,4,2,0⟩]⟩,
  ⟨[(0,0),(1,0),(2,0),(2,1),(1,1),(1,2),(0,2),(0,1),(mkRat 3 2,mkRat 1 2),(mkRat 1 2,mkRat 3 2)],[⟨1,4,0,0,0⟩,⟨7,0,4,0,0⟩,⟨8,3,4,0,1⟩,⟨8,2,3,0,1⟩,⟨8,1,2,1,1⟩,⟨8,4,1,1,1⟩,⟨9,7,4,0,1⟩,⟨9,6,7,0,1⟩,⟨9,5,6,2,1⟩,⟨9,4,5,2,1⟩]⟩,
  ⟨[(0,0),(1,0),(2,0),(2,1),(1,1),(1,2),(0,2),(0,1),(mkRat 1 2,mkRat 3 2),(mkRat 1 2,mkRat 1 2)],[⟨9,1,4,0,1⟩,⟨9,0,1,0,1⟩,⟨9,7,0,0,1⟩,⟨9,4,7,0,1⟩,⟨3,4,2,0,0⟩,⟨1,2,4,1,0⟩,⟨8,7,4,0,1⟩,⟨8,6,7,0,1⟩,⟨8,5,6,2,1⟩,⟨8,4,5,2,1⟩]⟩,
  ⟨[(0,0),(1,0),(2,0),(2,1),(1,1),(1,2),(0,2),(0,1),(mkRat 1 2,mkRat 3 2),(mkRat 3 2,mkRat 1 2)],[⟨1,4,0,0,0⟩,⟨7,0,4,0,0⟩,⟨9,3,4,0,1⟩,⟨9,2,3,0,1⟩,⟨9,1,2,1,1⟩,⟨9,4,1,1,1⟩,⟨8,7,4,0,1⟩,⟨8,6,7,0,1⟩,⟨8,5,6,2,1⟩,⟨8,4,5,2,1⟩]⟩,
  ⟨[(0,0),(1,0),(2,0),(2,1),(1,1),(1,2),(0,2),(0,1),(mkRat 1 2,mkRat 3 2),(mkRat 1 2,mkRat 1 2),(mkRat 1 2,1)],[⟨9,1,4,0,1⟩,⟨9,0,1,0,1⟩,⟨9,7,0,0,1⟩,⟨10,9,4,0,2⟩,⟨10,7,9,0,2⟩,⟨3,4,2,0,0⟩,⟨1,2,4,1,0⟩,⟨10,8,7,0,2⟩,⟨10,4,8,0,2⟩,⟨8,6,7,0,1⟩,⟨8,5,6,2,1⟩,⟨8,4,5,2,1⟩]⟩,
  ⟨[(0,0),(1,0),(2,0),(2,1),(1,1),(1,2),(0,2),(0,1),(mkRat 1 2,mkRat 3 2),(0,mkRat 3 2)],[⟨1,4,0,0,0⟩,⟨7,0,4,0,0⟩,⟨3,4,2,0,0⟩,⟨1,2,4,1,0⟩,⟨8,7,4,0,1⟩,⟨9,8,6,0,2⟩,⟨9,7,8,0,2⟩,⟨8,5,6,2,1⟩,⟨8,4,5,2,1⟩]⟩,
  ⟨[(0,0),(1,0),(2,0),(2,1),(1,1),(1,2),(0,2),(0,1),(mkRat 1 2,mkRat 3 2),(mkRat 1 2,2)],[⟨1,4,0,0,0⟩,⟨7,0,4,0,0⟩,⟨3,4,2,0,0⟩,⟨1,2,4,1,0⟩,⟨8,7,4,0,1⟩,⟨8,6,7,0,1⟩,⟨9,8,5,2,2⟩,⟨9,6,8,2,2⟩,⟨8,4,5,2,1⟩]⟩,
  ⟨[(0,0),(1,0),(2,0),(2,1),(1,1),(1,2),(0,2),(0,1),(mkRat 1 2,mkRat 3 2),(1,mkRat 3 2)],[⟨1,4,0,0,0⟩,⟨7,0,4,0,0⟩,⟨3,4,2,0,0⟩,⟨1,2,4,1,0⟩,⟨8,7,4,0,1⟩,⟨8,6,7,0,1⟩,⟨8,5,6,2,1⟩,⟨9,8,4,2,2⟩,⟨9,5,8,2,2⟩]⟩]
def qt (a:Nat):MeQ:=pix qTab a
def qOrg:List Nat:=[0,1,2,3,4,5,0,0,0,0,1,1,1,1,2,3,4,5,5,5,0,0,0,0,0,0,0,0,0,0,0,0,0,0,0,0,0,0,0,0,1,1,1,1,1,1,1,1,1,1,1,1,1,1,1,1,1,1,1,1,2,2,2,2,3,3,3,3,4,4,4,4,5,5,5,5,5,5,5,5,5,5,5,5,5,5,5,5,5,5]
def qStp:List (List Nat) :=
 [[6,7,8,9],
  [10,11,12,13],
  [14,14],
  [15,15],
  [16,16],
  [17,17,18,18,19,19],
  [20,21,22,23,24],
  [25,26,27,28,29],
  [30,31,32,33,34],
  [35,36,37,38,39],
  [40,41,42,43,44],
  [45,46,47,48,49],
  [50,51,52,53,54],
  [55,56,57,58,59],
  [60,61,62,63],
  [64,65,66,67],
  [68,69,70,71],
  [72,73,74,75,76,76,77,77],
  [78,78,79,80,81,82,83,83],
  [84,84,85,85,86,87,88,89]]
def stI (a k:Nat):Nat:=pix (pix qStp a) k
def oI (a:Nat):Nat:=pix qOrg a
def stC (a:Nat):Bool:=(List.range (qt a).tris.length).all fun k=>decide (stM (qt a) k=qt (stI a k))&&(decide (oI (stI a k)=oI a)&&decide (stI a k<if a<6 then 20 else 90))
theorem qt_cs:(List.range 6).map qt=csL:=by decide +kernel
theorem qt_org:(List.range 6).all (fun a=>decide (oI a=a))=true:=by decide +kernel
theorem qt_st:(List.range 20).all stC=true:=by decide +kernel
theorem qt_sp:(List.range 20).all (fun a=>okSt (qt a))=true:=by decide +kernel
end
section
open Go.RowKit
theorem qt_fit0:((List.range 15).map (·+0)).all (fun a=>okF (qt a))=true:=by decide +kernel
theorem qt_fit1:((List.range 15).map (·+15)).all (fun a=>okF (qt a))=true:=by decide +kernel
theorem qt_fit2:((List.range 15).map (·+30)).all (fun a=>okF (qt a))=true:=by decide +kernel
theorem qt_fit3:((List.range 15).map (·+45)).all (fun a=>okF (qt a))=true:=by decide +kernel
theorem qt_fit4:((List.range 15).map (·+60)).all (fun a=>okF (qt a))=true:=by decide +kernel
theorem qt_fit5:((List.range 15).map (·+75)).all (fun a=>okF (qt a))=true:=by decide +kernel
end
section
open Go.RowKit
theorem StepOk.of {m:MeQ}(hf:FitM m) (h:okSt m=true):StepOk m:=by
 unfold okSt at h
 simp only[Bool.and_eq_true,decide_eq_true_eq]at h
 exact⟨SpM.of hf h.1,h.2.1,fun k hk j hj=>splB_ok (h.2.2 k hk j hj)⟩
theorem all_range {n:Nat}{f:Nat→Bool}(h:(List.range n).all f=true) {a:Nat}(ha:a<n):f a=true:=List.all_eq_true.1 h a (List.mem_range.2 ha)
theorem qt_fit {a:Nat}(ha:a<90):FitM (qt a):=by
 have key:∀{s:Nat},((List.range 15).map (·+s)).all (fun a=>okF (qt a))=true→s≤a→a<s+15→FitM (qt a):=fun {s} h h1 h2=>
  fit_of (List.all_eq_true.1 h a (List.mem_map.2 ⟨a-s,List.mem_range.2 (by omega),by show a-s+s=a;omega⟩))
 rcases(show (0≤a∧a<0+15)∨(15≤a∧a<15+15)∨(30≤a∧a<30+15)∨(45≤a∧a<45+15)∨(60≤a∧a<60+15)∨(75≤a∧a<75+15)by omega)with h|h|h|h|h|h
 ·exact key qt_fit0 h.1 h.2
 ·exact key qt_fit1 h.1 h.2
 ·exact key qt_fit2 h.1 h.2
 ·exact key qt_fit3 h.1 h.2
 ·exact key qt_fit4 h.1 h.2
 ·exact key qt_fit5 h.1 h.2
theorem qt_coarse {m:MeQ}(h:m∈csL):∃a,a<6∧m=qt a∧oI a=a:=by
 rw[←qt_cs]at h
 obtain⟨a,ha,rfl⟩:=List.mem_map.1 h
 exact⟨a,List.mem_range.1 ha,rfl,of_decide_eq_true (all_range qt_org (List.mem_range.1 ha))⟩
theorem qt_stp {a k:Nat}(ha:a<20) (hk:k<(qt a).tris.length):stM (qt a) k=qt (stI a k)∧oI (stI a k)=oI a∧stI a k<if a<6 then 20 else 90:=by
 have h:=List.all_eq_true.1 (all_range qt_st ha) k (List.mem_range.2 hk)
 simp only[Bool.and_eq_true,decide_eq_true_eq]at h
 exact h
theorem MkM.at_ {a0:Nat}(h0:a0<6) (ho:oI a0=a0):∀{i:Nat}{m:MeQ},i≤2→MkM (qt a0) i m→∃a,m=qt a∧oI a=a0∧a<(if i=0 then 6 else if i=1 then 20 else 90)
 | 0,m,_,h=>⟨a0,h,ho,h0⟩
 | i+1,m,hi,⟨x,hx,k,hk,e⟩=>by
  obtain⟨a,rfl,h1,h2⟩:=MkM.at_ h0 ho (by omega) hx
  rcases(show i=0∨i=1 by omega)with rfl|rfl
  ·have h2:a<6:=h2
   obtain⟨e1,e2,e3⟩:=qt_stp (show a<20 by omega) hk
   rw[if_pos h2]at e3
   exact⟨stI a k,e.trans e1,e2.trans h1,e3⟩
  ·have h2:a<20:=h2
   obtain⟨e1,e2,e3⟩:=qt_stp h2 hk
   refine⟨stI a k,e.trans e1,e2.trans h1,?_⟩
   show stI a k<90
   by_cases h6:a<6
   ·rw[if_pos h6]at e3;omega
   ·rw[if_neg h6]at e3;exact e3
theorem mk_step {m0:MeQ}(h:m0∈csL) {i:Nat}(hi:i≤1) {m:MeQ}(hm:MkM m0 i m):StepOk m:=by
 obtain⟨a0,h0,rfl,ho⟩:=qt_coarse h
 obtain⟨a,rfl,_,h2⟩:=MkM.at_ h0 ho (by omega) hm
 have h3:a < 20:=by
  rcases(show i=0∨i=1 by omega)with rfl|rfl
  ·have h2:a<6:=h2
   omega
  ·exact h2
 exact StepOk.of (qt_fit (by omega)) (all_range qt_sp h3)
end
section
open Go.RowKit
theorem qt_c0:((List.range 15).map (·+0)).all (fun a=>okC (qt a))=true:=by decide +kernel
theorem qt_c1:((List.range 15).map (·+15)).all (fun a=>okC (qt a))=true:=by decide +kernel
theorem qt_c2:((List.range 15).map (·+30)).all (fun a=>okC (qt a))=true:=by decide +kernel
theorem qt_c3:((List.range 15).map (·+45)).all (fun a=>okC (qt a))=true:=by decide +kernel
theorem qt_c4:((List.range 15).map (·+60)).all (fun a=>okC (qt a))=true:=by decide +kernel
theorem qt_c5:((List.range 15).map (·+75)).all (fun a=>okC (qt a))=true:=by decide +kernel
theorem qt_cl {a:Nat}(ha:a<90):ClOk (qt a):=by
 have key:∀{s:Nat},((List.range 15).map (·+s)).all (fun a=>okC (qt a))=true→s≤a→a<s+15→ClOk (qt a):=fun {s} h h1 h2=>
  ClOk.of (qt_fit ha) (List.all_eq_true.1 h a (List.mem_map.2 ⟨a-s,List.mem_range.2 (by omega),by show a-s+s=a;omega⟩))
 rcases(show (0≤a∧a<0+15)∨(15≤a∧a<15+15)∨(30≤a∧a<30+15)∨(45≤a∧a<45+15)∨(60≤a∧a<60+15)∨(75≤a∧a<75+15)by omega)with h|h|h|h|h|h
 ·exact key qt_c0 h.1 h.2
 ·exact key qt_c1 h.1 h.2
 ·exact key qt_c2 h.1 h.2
 ·exact key qt_c3 h.1 h.2
 ·exact key qt_c4 h.1 h.2
 ·exact key qt_c5 h.1 h.2
theorem mk_cl {m0:MeQ}(h:m0∈csL) {i:Nat}(hi:i≤2) {m:MeQ}(hm:MkM m0 i m):ClOk m:=by
 obtain⟨a0,h0,rfl,ho⟩:=qt_coarse h
 obtain⟨a,rfl,_,h2⟩:=MkM.at_ h0 ho hi hm
 refine qt_cl ?_
 rcases(show i=0∨i=1∨i=2 by omega)with rfl|rfl|rfl
 ·have h2:a<6:=h2
  omega
 ·have h2:a<20:=h2
  omega
 ·exact h2
end
section
open Go.RowKit
def BiRes (w:World) (m x:MeQ) (e:Ending) (w':World):Prop:=(∃v2,e=.returned (.tuple #[v2,.bool true])∧MeshOk x∧MeOw w.heap.size w' v2 x∧Bl w w')∨∃v2,e=.returned (.tuple #[v2,.bool false])∧MeOw w.heap.size w' v2 m∧Bl w w'
theorem BisectEdges_q (w:World) {v:Value}{mq:MeQ}(h:MeAt w v mq) (hf:FitM mq) {B:Option Addr}{kl dl:Nat}{list:List Int}(hl:RdI w B kl dl list) (hk:kl≤1048576) (ho:MeshPre (bisM mq list)) :
  Calls Tryz.prog 17 #[v,.slice B kl dl] w (BiRes w mq (bisM mq list)):=by
 obtain⟨gp,n,cp,gt,m,ct,rfl,hp,ht⟩:=h
 have hn:=Lib.hid (show mq.pts.length=n by rw[←hp.len,List.length_map])
 have hm:=Lib.hid (show mq.tris.length=m from ht.len)
 have hn40:n≤40:=by have:=hf.ok.n40;rw[hn.out]at this;exact this
 have hn3:3≤n:=by have:=hf.ok.n3;rw[hn.out]at this;exact this
 have hm48:m≤48:=by have:=hf.ok.t48;rw[hm.out]at this;exact this
 replace hf:=Lib.hid hf
 replace ho:=Lib.hid ho
 go_enter Tryz.func17,Tryz.ntmps17
 go_wp2_with fail
 refine calls_gen (fun W=>Bl w W∧Blk W w.heap.size 26 #[.slice (some ⟨gp,0,none⟩) n cp,.slice (some ⟨gt,0,none⟩) m ct]∧Wk 2 26 (w.heap.size+1) W) ⟨slc,bts,bts⟩ ?_
 rintro W ⟨hbW,hM,hr⟩
 refine(IsMesh_yes _ (RdPS.bl hp hbW) (RdTS.bl ht hbW) hf.out.ok).mono ?_
 rintro e w1 ⟨rfl,hb1⟩
 have hM:=hM.bl hb1
 have hr:=hr.bl hb1
 have hbW:=hbW.next hb1
 clear hb1
 obtain⟨r0,r1⟩:=bx2 hM
 go_wp2_with fail
 clear r0 r1
 refine(bisect_any _ (RdPS.bl hp hbW) (RdTS.bl ht hbW) hf.out.ok hf.out.has hf.out.sm (hl.bl hbW) hk).mono ?_
 rintro e w2 ⟨_,rfl,hO,hb2⟩
 obtain⟨gp2,n2,cp2,gt2,m2,ct2,rfl,hP2,hT2⟩:=hO.1
 have hlt:w.heap.size+1<w1.heap.size:=hr.lt
 have hr:=hr.bl hb2
 have hbW:=hbW.next hb2
 have hA:=hM.bl hb2
 have h12:=hb2.size
 clear hM hb2
 go_upto_region 4 with (fail)
 refine wp_gen (fun W=>Bl w2 W∧Blk W w2.heap.size 26 #[.slice (some ⟨gp2,0,none⟩) n2 cp2,.slice (some ⟨gt2,0,none⟩) m2 ct2]) ⟨slc,by exact bts⟩ ?_
 rintro W3 ⟨hb3,hM⟩
 have hA:=hA.bl hb3
 have h23:=hb3.size
 have hr:=hr.bl hb3
 have hbW:=hbW.next hb3
 have hP2:=RdPS.bl hP2 hb3
 have hT2:=RdTS.bl hT2 hb3
 have hO:=hO.bl hb3
 clear hb3
 obtain⟨r0,r1⟩:=bx2 hM
 go_wp2_with fail
 clear r0 r1
 refine(IsMesh_q _ hP2 hT2 ho.out).mono ?_
 rintro e w4 ⟨b,rfl,hok,hb4⟩
 replace hok:=Lib.hid hok
 have hA:=hA.bl hb4
 have h34:=hb4.size
 have hM:=hM.bl hb4
 have hr:=hr.bl hb4
 have hbW:=hbW.next hb4
 have hO:=hO.bl hb4
 clear hb4
 cases b
 ·clear hM hO hP2 hT2
  obtain⟨r0,r1⟩:=bx2 hA
  go_wp2_with fail
  refine(copyMesh_any _ (RdPS.bl hp hbW) (RdTS.bl ht hbW) (by omega) (by omega) (by omega) (fun i hi=>by rw[pix_map (by rw[hn.out];exact hi)];exact⟨sm_sz (hf.out.ok.place.1 i (by rw[hn.out];exact hi)).1,sm_sz (hf.out.ok.place.1 i (by rw[hn.out];exact hi)).2⟩)).mono ?_
  rintro e w5 ⟨lo,gp',n',cp',gt',m',ct',rfl,hn',hm',hrow,hT,hgl,hlo,hb5⟩
  obtain rfl:n'=n:=by rw[hn',List.length_map,hn.out]
  obtain rfl:m'=m:=by rw[hm',hm.out]
  clear hn' hm' r0 r1
  have hr:=hr.bl hb5
  have hbW:=hbW.next hb5
  have hM:MeOw w1.heap.size w5 (.agg #[.slice (some ⟨gp',0,none⟩) n' cp',.slice (some ⟨gt',0,none⟩) m' ct']) mq:=MeOw.of hrow hT (by omega) (by omega) (by rw[hn.out];omega)
  obtain⟨v0,x0⟩:=hr.val_ (i:=0) (by omega)
  obtain⟨v1,x1⟩:=hr.val_ (i:=1) (by omega)
  have hgr:=hr.lt
  obtain⟨cs4,hB4,hc4⟩:=hr
  have hf0:=hB4.frozen 0
  have hf1:=hB4.frozen 1
  go_wp2_with fail
  exact bodyPost_ret (v:=.tuple #[.agg #[.slice (some ⟨gp',0,none⟩) n' cp',.slice (some ⟨gt',0,none⟩) m' ct'],.bool false]) (by simp[results,Tryz.results17,go_sem,x0,x1]) rfl (.inr ⟨_,rfl,MeOw.low (MeOw.setLow (MeOw.setLow hM (q:=⟨w.heap.size+1,0,none⟩) hlt _) (q:=⟨w.heap.size+1,1,none⟩) hlt _) (by omega),slc⟩)
 ·have hokx:=Lib.hid (hok.out.1 rfl)
  clear hok hA
  obtain⟨r0,r1⟩:=bx2 hM
  obtain⟨v0,x0⟩:=hr.val_ (i:=0) (by omega)
  obtain⟨v1,x1⟩:=hr.val_ (i:=1) (by omega)
  have hg:=hr.lt
  obtain⟨cs4,hB4,hc4⟩:=hr
  have hf0:=hB4.frozen 0
  have hf1:=hB4.frozen 1
  go_wp2_with fail
  exact bodyPost_ret (v:=.tuple #[.agg #[.slice (some ⟨gp2,0,none⟩) n2 cp2,.slice (some ⟨gt2,0,none⟩) m2 ct2],.bool true]) (by simp[results,Tryz.results17,go_sem,x0,x1]) rfl (.inl ⟨_,rfl,hokx.out,MeOw.low (MeOw.setLow (MeOw.setLow hO (q:=⟨w.heap.size+1,0,none⟩) hlt _) (q:=⟨w.heap.size+1,1,none⟩) hlt _) (by omega),slc⟩)
end
end Go.Proofs.YtmkcacgmnnlddaaGreat
