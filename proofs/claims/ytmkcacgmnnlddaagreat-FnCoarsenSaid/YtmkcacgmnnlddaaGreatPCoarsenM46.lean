/- Lemmas. -/
import Derived.Test.YtmkcacgmnnlddaaGreatRows
import Derived.Test.YtmkcacgmnnlddaaGreatPCoarsenM32
import Derived.Test.YtmkcacgmnnlddaaGreatPCoarsenM45
import Derived.Test.YtmkcacgmnnlddaaGreatPCoarsenM33
import Derived.Test.YtmkcacgmnnlddaaGreatPCoarsenM42
import Derived.Test.YtmkcacgmnnlddaaGreatPCoarsenM23
import Derived.Test.YtmkcacgmnnlddaaGreatPCoarsenM28
import Derived.Test.YtmkcacgmnnlddaaGreatPCoarsenM20
import Derived.Deep.Cut
import Derived.Deep.DeepCutAuto
namespace Go.Proofs.YtmkcacgmnnlddaaGreat
section
open Go.RowKit
/-- The meshes of MakeMesh: coarse ones, bisected once, bisected twice. -/
def qTab:List MeQ :=
  [⟨[(0,0),(2,0),(2,2),(0,2),(1,1)],[⟨4,0,1,0,0⟩,⟨4,1,2,0,0⟩,⟨4,2,3,1,0⟩,⟨4,3,0,0,0⟩]⟩,
   ⟨[(0,0),(2,0),(2,2),(0,2),(1,1)],[⟨4,0,1,0,0⟩,⟨4,1,2,0,0⟩,⟨4,2,3,1,0⟩,⟨4,3,0,1,0⟩]⟩,
   ⟨[(0,0),(2,0),(2,1),(0,2)],[⟨1,2,0,0,0⟩,⟨3,0,2,0,0⟩]⟩,
   ⟨[(0,0),(2,0),(2,1),(0,2)],[⟨1,2,0,0,0⟩,⟨3,0,2,1,0⟩]⟩,
   ⟨[(0,0),(2,0),(2,1),(0,2)],[⟨1,2,0,0,0⟩,⟨3,0,2,2,0⟩]⟩,
   ⟨[(0,0),(1,0),(2,0),(2,1),(1,1),(1,2),(0,2),(0,1)],[⟨1,4,0,0,0⟩,⟨7,0,4,0,0⟩,⟨3,4,2,0,0⟩,⟨1,2,4,1,0⟩,⟨7,4,6,0,0⟩,⟨5,6,4,2,0⟩]⟩,
   ⟨[(0,0),(2,0),(2,2),(0,2),(1,1),(1,0)],[⟨5,4,0,0,1⟩,⟨5,1,4,0,1⟩,⟨4,1,2,0,0⟩,⟨4,2,3,1,0⟩,⟨4,3,0,0,0⟩]⟩,
   ⟨[(0,0),(2,0),(2,2),(0,2),(1,1),(2,1)],[⟨4,0,1,0,0⟩,⟨5,4,1,0,1⟩,⟨5,2,4,0,1⟩,⟨4,2,3,1,0⟩,⟨4,3,0,0,0⟩]⟩,
   ⟨[(0,0),(2,0),(2,2),(0,2),(1,1),(1,2)],[⟨4,0,1,0,0⟩,⟨4,1,2,0,0⟩,⟨5,4,2,1,1⟩,⟨5,3,4,1,1⟩,⟨4,3,0,0,0⟩]⟩,
   ⟨[(0,0),(2,0),(2,2),(0,2),(1,1),(0,1)],[⟨4,0,1,0,0⟩,⟨4,1,2,0,0⟩,⟨4,2,3,1,0⟩,⟨5,4,3,0,1⟩,⟨5,0,4,0,1⟩]⟩,
   ⟨[(0,0),(2,0),(2,2),(0,2),(1,1),(1,0)],[⟨5,4,0,0,1⟩,⟨5,1,4,0,1⟩,⟨4,1,2,0,0⟩,⟨4,2,3,1,0⟩,⟨4,3,0,1,0⟩]⟩,
   ⟨[(0,0),(2,0),(2,2),(0,2),(1,1),(2,1)],[⟨4,0,1,0,0⟩,⟨5,4,1,0,1⟩,⟨5,2,4,0,1⟩,⟨4,2,3,1,0⟩,⟨4,3,0,1,0⟩]⟩,
   ⟨[(0,0),(2,0),(2,2),(0,2),(1,1),(1,2)],[⟨4,0,1,0,0⟩,⟨4,1,2,0,0⟩,⟨5,4,2,1,1⟩,⟨5,3,4,1,1⟩,⟨4,3,0,1,0⟩]⟩,
   ⟨[(0,0),(2,0),(2,2),(0,2),(1,1),(0,1)],[⟨4,0,1,0,0⟩,⟨4,1,2,0,0⟩,⟨4,2,3,1,0⟩,⟨5,4,3,1,1⟩,⟨5,0,4,1,1⟩]⟩,
   ⟨[(0,0),(2,0),(2,1),(0,2),(1,mkRat 1 2)],[⟨4,1,2,0,1⟩,⟨4,0,1,0,1⟩,⟨4,3,0,0,1⟩,⟨4,2,3,0,1⟩]⟩,
   ⟨[(0,0),(2,0),(2,1),(0,2),(1,mkRat 1 2)],[⟨4,1,2,0,1⟩,⟨4,0,1,0,1⟩,⟨4,3,0,1,1⟩,⟨4,2,3,1,1⟩]⟩,
   ⟨[(0,0),(2,0),(2,1),(0,2),(1,mkRat 1 2)],[⟨4,1,2,0,1⟩,⟨4,0,1,0,1⟩,⟨4,3,0,2,1⟩,⟨4,2,3,2,1⟩]⟩,
   ⟨[(0,0),(1,0),(2,0),(2,1),(1,1),(1,2),(0,2),(0,1),(mkRat 1 2,mkRat 1 2)],[⟨8,1,4,0,1⟩,⟨8,0,1,0,1⟩,⟨8,7,0,0,1⟩,⟨8,4,7,0,1⟩,⟨3,4,2,0,0⟩,⟨1,2,4,1,0⟩,⟨7,4,6,0,0⟩,⟨5,6,4,2,0⟩]⟩,
   ⟨[(0,0),(1,0),(2,0),(2,1),(1,1),(1,2),(0,2),(0,1),(mkRat 3 2,mkRat 1 2)],[⟨1,4,0,0,0⟩,⟨7,0,4,0,0⟩,⟨8,3,4,0,1⟩,⟨8,2,3,0,1⟩,⟨8,1,2,1,1⟩,⟨8,4,1,1,1⟩,⟨7,4,6,0,0⟩,⟨5,6,4,2,0⟩]⟩,
   ⟨[(0,0),(1,0),(2,0),(2,1),(1,1),(1,2),(0,2),(0,1),(mkRat 1 2,mkRat 3 2)],[⟨1,4,0,0,0⟩,⟨7,0,4,0,0⟩,⟨3,4,2,0,0⟩,⟨1,2,4,1,0⟩,⟨8,7,4,0,1⟩,⟨8,6,7,0,1⟩,⟨8,5,6,2,1⟩,⟨8,4,5,2,1⟩]⟩,
   ⟨[(0,0),(2,0),(2,2),(0,2),(1,1),(1,0),(0,1),(mkRat 1 2,mkRat 1 2)],[⟨7,5,4,0,2⟩,⟨7,0,5,0,2⟩,⟨5,1,4,0,1⟩,⟨4,1,2,0,0⟩,⟨4,2,3,1,0⟩,⟨6,4,3,0,1⟩,⟨7,6,0,0,2⟩,⟨7,4,6,0,2⟩]⟩,
   ⟨[(0,0),(2,0),(2,2),(0,2),(1,1),(1,0),(2,1),(mkRat 3 2,mkRat 1 2)],[⟨5,4,0,0,1⟩,⟨7,5,1,0,2⟩,⟨7,4,5,0,2⟩,⟨7,6,4,0,2⟩,⟨7,1,6,0,2⟩,⟨6,2,4,0,1⟩,⟨4,2,3,1,0⟩,⟨4,3,0,0,0⟩]⟩,
   ⟨[(0,0),(2,0),(2,2),(0,2),(1,1),(1,0),(2,1)],[⟨5,4,0,0,1⟩,⟨5,1,4,0,1⟩,⟨6,4,1,0,1⟩,⟨6,2,4,0,1⟩,⟨4,2,3,1,0⟩,⟨4,3,0,0,0⟩]⟩,
   ⟨[(0,0),(2,0),(2,2),(0,2),(1,1),(1,0),(1,2)],[⟨5,4,0,0,1⟩,⟨5,1,4,0,1⟩,⟨4,1,2,0,0⟩,⟨6,4,2,1,1⟩,⟨6,3,4,1,1⟩,⟨4,3,0,0,0⟩]⟩,
   ⟨[(0,0),(2,0),(2,2),(0,2),(1,1),(1,0),(0,1)],[⟨5,4,0,0,1⟩,⟨5,1,4,0,1⟩,⟨4,1,2,0,0⟩,⟨4,2,3,1,0⟩,⟨6,4,3,0,1⟩,⟨6,0,4,0,1⟩]⟩,
   ⟨[(0,0),(2,0),(2,2),(0,2),(1,1),(2,1),(1,0)],[⟨6,4,0,0,1⟩,⟨6,1,4,0,1⟩,⟨5,4,1,0,1⟩,⟨5,2,4,0,1⟩,⟨4,2,3,1,0⟩,⟨4,3,0,0,0⟩]⟩,
   ⟨[(0,0),(2,0),(2,2),(0,2),(1,1),(2,1),(1,0),(mkRat 3 2,mkRat 1 2)],[⟨6,4,0,0,1⟩,⟨7,6,1,0,2⟩,⟨7,4,6,0,2⟩,⟨7,5,4,0,2⟩,⟨7,1,5,0,2⟩,⟨5,2,4,0,1⟩,⟨4,2,3,1,0⟩,⟨4,3,0,0,0⟩]⟩,
   ⟨[(0,0),(2,0),(2,2),(0,2),(1,1),(2,1),(1,2),(mkRat 3 2,mkRat 3 2)],[⟨4,0,1,0,0⟩,⟨5,4,1,0,1⟩,⟨7,5,2,0,2⟩,⟨7,4,5,0,2⟩,⟨7,6,4,1,2⟩,⟨7,2,6,1,2⟩,⟨6,3,4,1,1⟩,⟨4,3,0,0,0⟩]⟩,
   ⟨[(0,0),(2,0),(2,2),(0,2),(1,1),(2,1),(1,2)],[⟨4,0,1,0,0⟩,⟨5,4,1,0,1⟩,⟨5,2,4,0,1⟩,⟨6,4,2,1,1⟩,⟨6,3,4,1,1⟩,⟨4,3,0,0,0⟩]⟩,
   ⟨[(0,0),(2,0),(2,2),(0,2),(1,1),(2,1),(0,1)],[⟨4,0,1,0,0⟩,⟨5,4,1,0,1⟩,⟨5,2,4,0,1⟩,⟨4,2,3,1,0⟩,⟨6,4,3,0,1⟩,⟨6,0,4,0,1⟩]⟩,
   ⟨[(0,0),(2,0),(2,2),(0,2),(1,1),(1,2),(1,0)],[⟨6,4,0,0,1⟩,⟨6,1,4,0,1⟩,⟨4,1,2,0,0⟩,⟨5,4,2,1,1⟩,⟨5,3,4,1,1⟩,⟨4,3,0,0,0⟩]⟩,
   ⟨[(0,0),(2,0),(2,2),(0,2),(1,1),(1,2),(2,1)],[⟨4,0,1,0,0⟩,⟨6,4,1,0,1⟩,⟨6,2,4,0,1⟩,⟨5,4,2,1,1⟩,⟨5,3,4,1,1⟩,⟨4,3,0,0,0⟩]⟩,
   ⟨[(0,0),(2,0),(2,2),(0,2),(1,1),(1,2),(2,1),(mkRat 3 2,mkRat 3 2)],[⟨4,0,1,0,0⟩,⟨6,4,1,0,1⟩,⟨7,6,2,0,2⟩,⟨7,4,6,0,2⟩,⟨7,5,4,1,2⟩,⟨7,2,5,1,2⟩,⟨5,3,4,1,1⟩,⟨4,3,0,0,0⟩]⟩,
   ⟨[(0,0),(2,0),(2,2),(0,2),(1,1),(1,2),(0,1),(mkRat 1 2,mkRat 3 2)],[⟨4,0,1,0,0⟩,⟨4,1,2,0,0⟩,⟨5,4,2,1,1⟩,⟨7,5,3,1,2⟩,⟨7,4,5,1,2⟩,⟨7,6,4,0,2⟩,⟨7,3,6,0,2⟩,⟨6,0,4,0,1⟩]⟩,
   ⟨[(0,0),(2,0),(2,2),(0,2),(1,1),(1,2),(0,1)],[⟨4,0,1,0,0⟩,⟨4,1,2,0,0⟩,⟨5,4,2,1,1⟩,⟨5,3,4,1,1⟩,⟨6,4,3,0,1⟩,⟨6,0,4,0,1⟩]⟩,
   ⟨[(0,0),(2,0),(2,2),(0,2),(1,1),(0,1),(1,0)],[⟨6,4,0,0,1⟩,⟨6,1,4,0,1⟩,⟨4,1,2,0,0⟩,⟨4,2,3,1,0⟩,⟨5,4,3,0,1⟩,⟨5,0,4,0,1⟩]⟩,
   ⟨[(0,0),(2,0),(2,2),(0,2),(1,1),(0,1),(2,1)],[⟨4,0,1,0,0⟩,⟨6,4,1,0,1⟩,⟨6,2,4,0,1⟩,⟨4,2,3,1,0⟩,⟨5,4,3,0,1⟩,⟨5,0,4,0,1⟩]⟩,
   ⟨[(0,0),(2,0),(2,2),(0,2),(1,1),(0,1),(1,2)],[⟨4,0,1,0,0⟩,⟨4,1,2,0,0⟩,⟨6,4,2,1,1⟩,⟨6,3,4,1,1⟩,⟨5,4,3,0,1⟩,⟨5,0,4,0,1⟩]⟩,
   ⟨[(0,0),(2,0),(2,2),(0,2),(1,1),(0,1),(1,2),(mkRat 1 2,mkRat 3 2)],[⟨4,0,1,0,0⟩,⟨4,1,2,0,0⟩,⟨6,4,2,1,1⟩,⟨7,6,3,1,2⟩,⟨7,4,6,1,2⟩,⟨7,5,4,0,2⟩,⟨7,3,5,0,2⟩,⟨5,0,4,0,1⟩]⟩,
   ⟨[(0,0),(2,0),(2,2),(0,2),(1,1),(0,1),(1,0),(mkRat 1 2,mkRat 1 2)],[⟨7,6,4,0,2⟩,⟨7,0,6,0,2⟩,⟨6,1,4,0,1⟩,⟨4,1,2,0,0⟩,⟨4,2,3,1,0⟩,⟨5,4,3,0,1⟩,⟨7,5,0,0,2⟩,⟨7,4,5,0,2⟩]⟩,
   ⟨[(0,0),(2,0),(2,2),(0,2),(1,1),(1,0),(0,1),(mkRat 1 2,mkRat 1 2)],[⟨7,5,4,0,2⟩,⟨7,0,5,0,2⟩,⟨5,1,4,0,1⟩,⟨4,1,2,0,0⟩,⟨4,2,3,1,0⟩,⟨6,4,3,1,1⟩,⟨7,6,0,1,2⟩,⟨7,4,6,1,2⟩]⟩,
   ⟨[(0,0),(2,0),(2,2),(0,2),(1,1),(1,0),(2,1),(mkRat 3 2,mkRat 1 2)],[⟨5,4,0,0,1⟩,⟨7,5,1,0,2⟩,⟨7,4,5,0,2⟩,⟨7,6,4,0,2⟩,⟨7,1,6,0,2⟩,⟨6,2,4,0,1⟩,⟨4,2,3,1,0⟩,⟨4,3,0,1,0⟩]⟩,
   ⟨[(0,0),(2,0),(2,2),(0,2),(1,1),(1,0),(2,1)],[⟨5,4,0,0,1⟩,⟨5,1,4,0,1⟩,⟨6,4,1,0,1⟩,⟨6,2,4,0,1⟩,⟨4,2,3,1,0⟩,⟨4,3,0,1,0⟩]⟩,
   ⟨[(0,0),(2,0),(2,2),(0,2),(1,1),(1,0),(1,2)],[⟨5,4,0,0,1⟩,⟨5,1,4,0,1⟩,⟨4,1,2,0,0⟩,⟨6,4,2,1,1⟩,⟨6,3,4,1,1⟩,⟨4,3,0,1,0⟩]⟩,
   ⟨[(0,0),(2,0),(2,2),(0,2),(1,1),(1,0),(0,1)],[⟨5,4,0,0,1⟩,⟨5,1,4,0,1⟩,⟨4,1,2,0,0⟩,⟨4,2,3,1,0⟩,⟨6,4,3,1,1⟩,⟨6,0,4,1,1⟩]⟩,
   ⟨[(0,0),(2,0),(2,2),(0,2),(1,1),(2,1),(1,0)],[⟨6,4,0,0,1⟩,⟨6,1,4,0,1⟩,⟨5,4,1,0,1⟩,⟨5,2,4,0,1⟩,⟨4,2,3,1,0⟩,⟨4,3,0,1,0⟩]⟩,
   ⟨[(0,0),(2,0),(2,2),(0,2),(1,1),(2,1),(1,0),(mkRat 3 2,mkRat 1 2)],[⟨6,4,0,0,1⟩,⟨7,6,1,0,2⟩,⟨7,4,6,0,2⟩,⟨7,5,4,0,2⟩,⟨7,1,5,0,2⟩,⟨5,2,4,0,1⟩,⟨4,2,3,1,0⟩,⟨4,3,0,1,0⟩]⟩,
   ⟨[(0,0),(2,0),(2,2),(0,2),(1,1),(2,1),(1,2),(mkRat 3 2,mkRat 3 2)],[⟨4,0,1,0,0⟩,⟨5,4,1,0,1⟩,⟨7,5,2,0,2⟩,⟨7,4,5,0,2⟩,⟨7,6,4,1,2⟩,⟨7,2,6,1,2⟩,⟨6,3,4,1,1⟩,⟨4,3,0,1,0⟩]⟩,
   ⟨[(0,0),(2,0),(2,2),(0,2),(1,1),(2,1),(1,2)],[⟨4,0,1,0,0⟩,⟨5,4,1,0,1⟩,⟨5,2,4,0,1⟩,⟨6,4,2,1,1⟩,⟨6,3,4,1,1⟩,⟨4,3,0,1,0⟩]⟩,
   ⟨[(0,0),(2,0),(2,2),(0,2),(1,1),(2,1),(0,1)],[⟨4,0,1,0,0⟩,⟨5,4,1,0,1⟩,⟨5,2,4,0,1⟩,⟨4,2,3,1,0⟩,⟨6,4,3,1,1⟩,⟨6,0,4,1,1⟩]⟩,
   ⟨[(0,0),(2,0),(2,2),(0,2),(1,1),(1,2),(1,0)],[⟨6,4,0,0,1⟩,⟨6,1,4,0,1⟩,⟨4,1,2,0,0⟩,⟨5,4,2,1,1⟩,⟨5,3,4,1,1⟩,⟨4,3,0,1,0⟩]⟩,
   ⟨[(0,0),(2,0),(2,2),(0,2),(1,1),(1,2),(2,1)],[⟨4,0,1,0,0⟩,⟨6,4,1,0,1⟩,⟨6,2,4,0,1⟩,⟨5,4,2,1,1⟩,⟨5,3,4,1,1⟩,⟨4,3,0,1,0⟩]⟩,
   ⟨[(0,0),(2,0),(2,2),(0,2),(1,1),(1,2),(2,1),(mkRat 3 2,mkRat 3 2)],[⟨4,0,1,0,0⟩,⟨6,4,1,0,1⟩,⟨7,6,2,0,2⟩,⟨7,4,6,0,2⟩,⟨7,5,4,1,2⟩,⟨7,2,5,1,2⟩,⟨5,3,4,1,1⟩,⟨4,3,0,1,0⟩]⟩,
   ⟨[(0,0),(2,0),(2,2),(0,2),(1,1),(1,2),(0,1),(mkRat 1 2,mkRat 3 2)],[⟨4,0,1,0,0⟩,⟨4,1,2,0,0⟩,⟨5,4,2,1,1⟩,⟨7,5,3,1,2⟩,⟨7,4,5,1,2⟩,⟨7,6,4,1,2⟩,⟨7,3,6,1,2⟩,⟨6,0,4,1,1⟩]⟩,
   ⟨[(0,0),(2,0),(2,2),(0,2),(1,1),(1,2),(0,1)],[⟨4,0,1,0,0⟩,⟨4,1,2,0,0⟩,⟨5,4,2,1,1⟩,⟨5,3,4,1,1⟩,⟨6,4,3,1,1⟩,⟨6,0,4,1,1⟩]⟩,
   ⟨[(0,0),(2,0),(2,2),(0,2),(1,1),(0,1),(1,0)],[⟨6,4,0,0,1⟩,⟨6,1,4,0,1⟩,⟨4,1,2,0,0⟩,⟨4,2,3,1,0⟩,⟨5,4,3,1,1⟩,⟨5,0,4,1,1⟩]⟩,
   ⟨[(0,0),(2,0),(2,2),(0,2),(1,1),(0,1),(2,1)],[⟨4,0,1,0,0⟩,⟨6,4,1,0,1⟩,⟨6,2,4,0,1⟩,⟨4,2,3,1,0⟩,⟨5,4,3,1,1⟩,⟨5,0,4,1,1⟩]⟩,
   ⟨[(0,0),(2,0),(2,2),(0,2),(1,1),(0,1),(1,2)],[⟨4,0,1,0,0⟩,⟨4,1,2,0,0⟩,⟨6,4,2,1,1⟩,⟨6,3,4,1,1⟩,⟨5,4,3,1,1⟩,⟨5,0,4,1,1⟩]⟩,
   ⟨[(0,0),(2,0),(2,2),(0,2),(1,1),(0,1),(1,2),(mkRat 1 2,mkRat 3 2)],[⟨4,0,1,0,0⟩,⟨4,1,2,0,0⟩,⟨6,4,2,1,1⟩,⟨7,6,3,1,2⟩,⟨7,4,6,1,2⟩,⟨7,5,4,1,2⟩,⟨7,3,5,1,2⟩,⟨5,0,4,1,1⟩]⟩,
   ⟨[(0,0),(2,0),(2,2),(0,2),(1,1),(0,1),(1,0),(mkRat 1 2,mkRat 1 2)],[⟨7,6,4,0,2⟩,⟨7,0,6,0,2⟩,⟨6,1,4,0,1⟩,⟨4,1,2,0,0⟩,⟨4,2,3,1,0⟩,⟨5,4,3,1,1⟩,⟨7,5,0,1,2⟩,⟨7,4,5,1,2⟩]⟩,
   ⟨[(0,0),(2,0),(2,1),(0,2),(1,mkRat 1 2),(2,mkRat 1 2)],[⟨5,4,1,0,2⟩,⟨5,2,4,0,2⟩,⟨4,0,1,0,1⟩,⟨4,3,0,0,1⟩,⟨4,2,3,0,1⟩]⟩,
   ⟨[(0,0),(2,0),(2,1),(0,2),(1,mkRat 1 2),(1,0)],[⟨4,1,2,0,1⟩,⟨5,4,0,0,2⟩,⟨5,1,4,0,2⟩,⟨4,3,0,0,1⟩,⟨4,2,3,0,1⟩]⟩,
   ⟨[(0,0),(2,0),(2,1),(0,2),(1,mkRat 1 2),(0,1)],[⟨4,1,2,0,1⟩,⟨4,0,1,0,1⟩,⟨5,4,3,0,2⟩,⟨5,0,4,0,2⟩,⟨4,2,3,0,1⟩]⟩,
   ⟨[(0,0),(2,0),(2,1),(0,2),(1,mkRat 1 2),(1,mkRat 3 2)],[⟨4,1,2,0,1⟩,⟨4,0,1,0,1⟩,⟨4,3,0,0,1⟩,⟨5,4,2,0,2⟩,⟨5,3,4,0,2⟩]⟩,
   ⟨[(0,0),(2,0),(2,1),(0,2),(1,mkRat 1 2),(2,mkRat 1 2)],[⟨5,4,1,0,2⟩,⟨5,2,4,0,2⟩,⟨4,0,1,0,1⟩,⟨4,3,0,1,1⟩,⟨4,2,3,1,1⟩]⟩,
   ⟨[(0,0),(2,0),(2,1),(0,2),(1,mkRat 1 2),(1,0)],[⟨4,1,2,0,1⟩,⟨5,4,0,0,2⟩,⟨5,1,4,0,2⟩,⟨4,3,0,1,1⟩,⟨4,2,3,1,1⟩]⟩,
   ⟨[(0,0),(2,0),(2,1),(0,2),(1,mkRat 1 2),(0,1)],[⟨4,1,2,0,1⟩,⟨4,0,1,0,1⟩,⟨5,4,3,1,2⟩,⟨5,0,4,1,2⟩,⟨4,2,3,1,1⟩]⟩,
   ⟨[(0,0),(2,0),(2,1),(0,2),(1,mkRat 1 2),(1,mkRat 3 2)],[⟨4,1,2,0,1⟩,⟨4,0,1,0,1⟩,⟨4,3,0,1,1⟩,⟨5,4,2,1,2⟩,⟨5,3,4,1,2⟩]⟩,
   ⟨[(0,0),(2,0),(2,1),(0,2),(1,mkRat 1 2),(2,mkRat 1 2)],[⟨5,4,1,0,2⟩,⟨5,2,4,0,2⟩,⟨4,0,1,0,1⟩,⟨4,3,0,2,1⟩,⟨4,2,3,2,1⟩]⟩,
   ⟨[(0,0),(2,0),(2,1),(0,2),(1,mkRat 1 2),(1,0)],[⟨4,1,2,0,1⟩,⟨5,4,0,0,2⟩,⟨5,1,4,0,2⟩,⟨4,3,0,2,1⟩,⟨4,2,3,2,1⟩]⟩,
   ⟨[(0,0),(2,0),(2,1),(0,2),(1,mkRat 1 2),(0,1)],[⟨4,1,2,0,1⟩,⟨4,0,1,0,1⟩,⟨5,4,3,2,2⟩,⟨5,0,4,2,2⟩,⟨4,2,3,2,1⟩]⟩,
   ⟨[(0,0),(2,0),(2,1),(0,2),(1,mkRat 1 2),(1,mkRat 3 2)],[⟨4,1,2,0,1⟩,⟨4,0,1,0,1⟩,⟨4,3,0,2,1⟩,⟨5,4,2,2,2⟩,⟨5,3,4,2,2⟩]⟩,
   ⟨[(0,0),(1,0),(2,0),(2,1),(1,1),(1,2),(0,2),(0,1),(mkRat 1 2,mkRat 1 2),(1,mkRat 1 2),(mkRat 3 2,mkRat 1 2)],[⟨9,8,1,0,2⟩,⟨9,4,8,0,2⟩,⟨8,0,1,0,1⟩,⟨8,7,0,0,1⟩,⟨8,4,7,0,1⟩,⟨10,3,4,0,1⟩,⟨10,2,3,0,1⟩,⟨10,1,2,1,1⟩,⟨9,10,4,1,2⟩,⟨9,1,10,1,2⟩,⟨7,4,6,0,0⟩,⟨5,6,4,2,0⟩]⟩,
   ⟨[(0,0),(1,0),(2,0),(2,1),(1,1),(1,2),(0,2),(0,1),(mkRat 1 2,mkRat 1 2),(mkRat 1 2,0)],[⟨8,1,4,0,1⟩,⟨9,8,0,0,2⟩,⟨9,1,8,0,2⟩,⟨8,7,0,0,1⟩,⟨8,4,7,0,1⟩,⟨3,4,2,0,0⟩,⟨1,2,4,1,0⟩,⟨7,4,6,0,0⟩,⟨5,6,4,2,0⟩]⟩,
   ⟨[(0,0),(1,0),(2,0),(2,1),(1,1),(1,2),(0,2),(0,1),(mkRat 1 2,mkRat 1 2),(0,mkRat 1 2)],[⟨8,1,4,0,1⟩,⟨8,0,1,0,1⟩,⟨9,8,7,0,2⟩,⟨9,0,8,0,2⟩,⟨8,4,7,0,1⟩,⟨3,4,2,0,0⟩,⟨1,2,4,1,0⟩,⟨7,4,6,0,0⟩,⟨5,6,4,2,0⟩]⟩,
   ⟨[(0,0),(1,0),(2,0),(2,1),(1,1),(1,2),(0,2),(0,1),(mkRat 1 2,mkRat 1 2),(mkRat 1 2,mkRat 3 2),(mkRat 1 2,1)],[⟨8,1,4,0,1⟩,⟨8,0,1,0,1⟩,⟨8,7,0,0,1⟩,⟨10,8,4,0,2⟩,⟨10,7,8,0,2⟩,⟨3,4,2,0,0⟩,⟨1,2,4,1,0⟩,⟨10,9,7,0,2⟩,⟨10,4,9,0,2⟩,⟨9,6,7,0,1⟩,⟨9,5,6,2,1⟩,⟨9,4,5,2,1⟩]⟩,
   ⟨[(0,0),(1,0),(2,0),(2,1),(1,1),(1,2),(0,2),(0,1),(mkRat 1 2,mkRat 1 2),(mkRat 3 2,mkRat 1 2)],[⟨8,1,4,0,1⟩,⟨8,0,1,0,1⟩,⟨8,7,0,0,1⟩,⟨8,4,7,0,1⟩,⟨9,3,4,0,1⟩,⟨9,2,3,0,1⟩,⟨9,1,2,1,1⟩,⟨9,4,1,1,1⟩,⟨7,4,6,0,0⟩,⟨5,6,4,2,0⟩]⟩,
   ⟨[(0,0),(1,0),(2,0),(2,1),(1,1),(1,2),(0,2),(0,1),(mkRat 1 2,mkRat 1 2),(mkRat 1 2,mkRat 3 2)],[⟨8,1,4,0,1⟩,⟨8,0,1,0,1⟩,⟨8,7,0,0,1⟩,⟨8,4,7,0,1⟩,⟨3,4,2,0,0⟩,⟨1,2,4,1,0⟩,⟨9,7,4,0,1⟩,⟨9,6,7,0,1⟩,⟨9,5,6,2,1⟩,⟨9,4,5,2,1⟩]⟩,
   ⟨[(0,0),(1,0),(2,0),(2,1),(1,1),(1,2),(0,2),(0,1),(mkRat 3 2,mkRat 1 2),(mkRat 1 2,mkRat 1 2)],[⟨9,1,4,0,1⟩,⟨9,0,1,0,1⟩,⟨9,7,0,0,1⟩,⟨9,4,7,0,1⟩,⟨8,3,4,0,1⟩,⟨8,2,3,0,1⟩,⟨8,1,2,1,1⟩,⟨8,4,1,1,1⟩,⟨7,4,6,0,0⟩,⟨5,6,4,2,0⟩]⟩,
   ⟨[(0,0),(1,0),(2,0),(2,1),(1,1),(1,2),(0,2),(0,1),(mkRat 3 2,mkRat 1 2),(mkRat 3 2,1)],[⟨1,4,0,0,0⟩,⟨7,0,4,0,0⟩,⟨9,8,3,0,2⟩,⟨9,4,8,0,2⟩,⟨8,2,3,0,1⟩,⟨8,1,2,1,1⟩,⟨8,4,1,1,1⟩,⟨7,4,6,0,0⟩,⟨5,6,4,2,0⟩]⟩,
   ⟨[(0,0),(1,0),(2,0),(2,1),(1,1),(1,2),(0,2),(0,1),(mkRat 3 2,mkRat 1 2),(2,mkRat 1 2)],[⟨1,4,0,0,0⟩,⟨7,0,4,0,0⟩,⟨8,3,4,0,1⟩,⟨9,8,2,0,2⟩,⟨9,3,8,0,2⟩,⟨8,1,2,1,1⟩,⟨8,4,1,1,1⟩,⟨7,4,6,0,0⟩,⟨5,6,4,2,0⟩]⟩,
   ⟨[(0,0),(1,0),(2,0),(2,1),(1,1),(1,2),(0,2),(0,1),(mkRat 3 2,mkRat 1 2),(mkRat 3 2,0)],[⟨1,4,0,0,0⟩,⟨7,0,4,0,0⟩,⟨8,3,4,0,1⟩,⟨8,2,3,0,1⟩,⟨9,8,1,1,2⟩,⟨9,2,8,1,2⟩,⟨8,4,1,1,1⟩,⟨7,4,6,0,0⟩,⟨5,6,4,2,0⟩]⟩,
   ⟨[(0,0),(1,0),(2,0),(2,1),(1,1),(1,2),(0,2),(0,1),(mkRat 3 2,mkRat 1 2),(mkRat 1 2,mkRat 1 2),(1,mkRat 1 2)],[⟨10,9,1,0,2⟩,⟨10,4,9,0,2⟩,⟨9,0,1,0,1⟩,⟨9,7,0,0,1⟩,⟨9,4,7,0,1⟩,⟨8,3,4,0,1⟩,⟨8,2,3,0,1⟩,⟨8,1,2,1,1⟩,⟨10,8,4,1,2⟩,⟨10,1,8,1,2⟩,⟨7,4,6,0,0⟩,⟨5,6,4,2,0⟩]⟩,
   ⟨[(0,0),(1,0),(2,0),(2,1),(1,1),(1,2),(0,2),(0,1),(mkRat 3 2,mkRat 1 2),(mkRat 1 2,mkRat 3 2)],[⟨1,4,0,0,0⟩,⟨7,0,4,0,0⟩,⟨8,3,4,0,1⟩,⟨8,2,3,0,1⟩,⟨8,1,2,1,1⟩,⟨8,4,1,1,1⟩,⟨9,7,4,0,1⟩,⟨9,6,7,0,1⟩,⟨9,5,6,2,1⟩,⟨9,4,5,2,1⟩]⟩,
   ⟨[(0,0),(1,0),(2,0),(2,1),(1,1),(1,2),(0,2),(0,1),(mkRat 1 2,mkRat 3 2),(mkRat 1 2,mkRat 1 2)],[⟨9,1,4,0,1⟩,⟨9,0,1,0,1⟩,⟨9,7,0,0,1⟩,⟨9,4,7,0,1⟩,⟨3,4,2,0,0⟩,⟨1,2,4,1,0⟩,⟨8,7,4,0,1⟩,⟨8,6,7,0,1⟩,⟨8,5,6,2,1⟩,⟨8,4,5,2,1⟩]⟩,
   ⟨[(0,0),(1,0),(2,0),(2,1),(1,1),(1,2),(0,2),(0,1),(mkRat 1 2,mkRat 3 2),(mkRat 3 2,mkRat 1 2)],[⟨1,4,0,0,0⟩,⟨7,0,4,0,0⟩,⟨9,3,4,0,1⟩,⟨9,2,3,0,1⟩,⟨9,1,2,1,1⟩,⟨9,4,1,1,1⟩,⟨8,7,4,0,1⟩,⟨8,6,7,0,1⟩,⟨8,5,6,2,1⟩,⟨8,4,5,2,1⟩]⟩,
   ⟨[(0,0),(1,0),(2,0),(2,1),(1,1),(1,2),(0,2),(0,1),(mkRat 1 2,mkRat 3 2),(mkRat 1 2,mkRat 1 2),(mkRat 1 2,1)],[⟨9,1,4,0,1⟩,⟨9,0,1,0,1⟩,⟨9,7,0,0,1⟩,⟨10,9,4,0,2⟩,⟨10,7,9,0,2⟩,⟨3,4,2,0,0⟩,⟨1,2,4,1,0⟩,⟨10,8,7,0,2⟩,⟨10,4,8,0,2⟩,⟨8,6,7,0,1⟩,⟨8,5,6,2,1⟩,⟨8,4,5,2,1⟩]⟩,
   ⟨[(0,0),(1,0),(2,0),(2,1),(1,1),(1,2),(0,2),(0,1),(mkRat 1 2,mkRat 3 2),(0,mkRat 3 2)],[⟨1,4,0,0,0⟩,⟨7,0,4,0,0⟩,⟨3,4,2,0,0⟩,⟨1,2,4,1,0⟩,⟨8,7,4,0,1⟩,⟨9,8,6,0,2⟩,⟨9,7,8,0,2⟩,⟨8,5,6,2,1⟩,⟨8,4,5,2,1⟩]⟩,
   ⟨[(0,0),(1,0),(2,0),(2,1),(1,1),(1,2),(0,2),(0,1),(mkRat 1 2,mkRat 3 2),(mkRat 1 2,2)],[⟨1,4,0,0,0⟩,⟨7,0,4,0,0⟩,⟨3,4,2,0,0⟩,⟨1,2,4,1,0⟩,⟨8,7,4,0,1⟩,⟨8,6,7,0,1⟩,⟨9,8,5,2,2⟩,⟨9,6,8,2,2⟩,⟨8,4,5,2,1⟩]⟩,
   ⟨[(0,0),(1,0),(2,0),(2,1),(1,1),(1,2),(0,2),(0,1),(mkRat 1 2,mkRat 3 2),(1,mkRat 3 2)],[⟨1,4,0,0,0⟩,⟨7,0,4,0,0⟩,⟨3,4,2,0,0⟩,⟨1,2,4,1,0⟩,⟨8,7,4,0,1⟩,⟨8,6,7,0,1⟩,⟨8,5,6,2,1⟩,⟨9,8,4,2,2⟩,⟨9,5,8,2,2⟩]⟩]
def qt (a:Nat):MeQ:=pix qTab a
/-- The coarse mesh that a mesh was made of. -/
def qOrg:List Nat:=[0,1,2,3,4,5,0,0,0,0,1,1,1,1,2,3,4,5,5,5,0,0,0,0,0,0,0,0,0,0,0,0,0,0,0,0,0,0,0,0,1,1,1,1,1,1,1,1,1,1,1,1,1,1,1,1,1,1,1,1,2,2,2,2,3,3,3,3,4,4,4,4,5,5,5,5,5,5,5,5,5,5,5,5,5,5,5,5,5,5]
/-- What bisection at a triangle makes. -/
def qStp:List (List Nat) :=
  [[6,7,8,9],
   [10,11,12,13],
   [14,14],
   [15,15],
   [16,16],
   [17,17,18,18,19,19],
   [20,21,22,23,24],
   [25,26,27,28,29],
   [30,31,32,33,34],
   [35,36,37,38,39],
   [40,41,42,43,44],
   [45,46,47,48,49],
   [50,51,52,53,54],
   [55,56,57,58,59],
   [60,61,62,63],
   [64,65,66,67],
   [68,69,70,71],
   [72,73,74,75,76,76,77,77],
   [78,78,79,80,81,82,83,83],
   [84,84,85,85,86,87,88,89]]
/-- Removable points, and what their removal leaves. -/
def qRm:List (List (Nat × Nat)) :=
  [[],
   [],
   [],
   [],
   [],
   [],
   [(5,0)],
   [(5,0)],
   [(5,0)],
   [(5,0)],
   [(5,1)],
   [(5,1)],
   [(5,1)],
   [(5,1)],
   [(4,2)],
   [(4,3)],
   [(4,4)],
   [(8,5)],
   [(8,5)],
   [(8,5)],
   [(7,24)],
   [(7,22)],
   [(5,7),(6,6)],
   [(5,8),(6,6)],
   [(5,9),(6,6)],
   [(5,6),(6,7)],
   [(7,25)],
   [(7,28)],
   [(5,8),(6,7)],
   [(5,9),(6,7)],
   [(5,6),(6,8)],
   [(5,7),(6,8)],
   [(7,31)],
   [(7,34)],
   [(5,9),(6,8)],
   [(5,6),(6,9)],
   [(5,7),(6,9)],
   [(5,8),(6,9)],
   [(7,37)],
   [(7,35)],
   [(7,44)],
   [(7,42)],
   [(5,11),(6,10)],
   [(5,12),(6,10)],
   [(5,13),(6,10)],
   [(5,10),(6,11)],
   [(7,45)],
   [(7,48)],
   [(5,12),(6,11)],
   [(5,13),(6,11)],
   [(5,10),(6,12)],
   [(5,11),(6,12)],
   [(7,51)],
   [(7,54)],
   [(5,13),(6,12)],
   [(5,10),(6,13)],
   [(5,11),(6,13)],
   [(5,12),(6,13)],
   [(7,57)],
   [(7,55)],
   [(5,14)],
   [(5,14)],
   [(5,14)],
   [(5,14)],
   [(5,15)],
   [(5,15)],
   [(5,15)],
   [(5,15)],
   [(5,16)],
   [(5,16)],
   [(5,16)],
   [(5,16)],
   [(9,76)],
   [(9,17)],
   [(9,17)],
   [(10,77)],
   [(8,18),(9,17)],
   [(8,19),(9,17)],
   [(8,17),(9,18)],
   [(9,18)],
   [(9,18)],
   [(9,18)],
   [(10,78)],
   [(8,19),(9,18)],
   [(8,17),(9,19)],
   [(8,18),(9,19)],
   [(10,84)],
   [(9,19)],
   [(9,19)],
   [(9,19)]]
def stI (a k:Nat):Nat:=pix (pix qStp a) k
def oI (a:Nat):Nat:=pix qOrg a
def rmI (a:Nat):List (Nat × Nat):=pix qRm a
/-- Mesh a's bisections stand in the table. -/
def stC (a:Nat):Bool:=(List.range (qt a).tris.length).all fun k=> decide (stM (qt a) k=qt (stI a k)) && (decide (oI (stI a k)=oI a) && decide (stI a k < if a < 6 then 20 else 90))
/-- Mesh a's removable points stand in the table. -/
def rmC_ (a:Nat):Bool:=decide (rmvL (qt a)=(rmI a).map fun x =>(x.1:Int)) && (rmI a).all fun x=> decide (rmM (qt a) (x.1:Int)=qt x.2) && (rvC (qt a) (x.1:Int) && decide (x.2 < 90))
/-- The removal of a point, in the table. -/
def crI (x:Nat × Nat) (p:Int):Nat × Nat:=match (rmI x.1).find? (fun y=> decide ((y.1:Int)=p)) with
  | some y =>(y.2,x.2+1)
  | none=> x
def crK:Nat × Nat→List Int→Bool
  | _,[]=> true
  | x,p :: ps =>(decide (0≤p) && decide (p < ((qt x.1).pts.length:Int))) && crK (crI x p) ps
def caK (a0:Nat):Nat→Nat→Bool
  | 0,_=> false
  | f+1,a=> crK (a,0) (crL (qt a) (rmvL (qt a))) && (if ((crL (qt a) (rmvL (qt a))).foldl crI (a,0)).2=0 then decide (a=a0) else caK a0 f ((crL (qt a) (rmvL (qt a))).foldl crI (a,0)).1)
theorem qt_cs:(List.range 6).map qt=csL:=by decide +kernel
theorem qt_org:(List.range 6).all (fun a=> decide (oI a=a))=true:=by decide +kernel
theorem qt_st:(List.range 20).all stC=true:=by decide +kernel
theorem qt_rm:(List.range 90).all rmC_=true:=by decide +kernel
theorem qt_ca:(List.range 90).all (fun a=> caK (oI a) 4 a)=true:=by decide +kernel
theorem qt_sp:(List.range 20).all (fun a=> okSt (qt a))=true:=by decide +kernel
end

section
open Go.RowKit
theorem qt_fit0:((List.range 15).map (·+0)).all (fun a=> okF (qt a))=true:=by decide +kernel
theorem qt_fit1:((List.range 15).map (·+15)).all (fun a=> okF (qt a))=true:=by decide +kernel
theorem qt_fit2:((List.range 15).map (·+30)).all (fun a=> okF (qt a))=true:=by decide +kernel
theorem qt_fit3:((List.range 15).map (·+45)).all (fun a=> okF (qt a))=true:=by decide +kernel
theorem qt_fit4:((List.range 15).map (·+60)).all (fun a=> okF (qt a))=true:=by decide +kernel
theorem qt_fit5:((List.range 15).map (·+75)).all (fun a=> okF (qt a))=true:=by decide +kernel
end

section
open Go.RowKit

theorem StepOk.of {m:MeQ}(hf:FitM m) (h:okSt m=true):StepOk m:=by
  unfold okSt at h
  simp only[Bool.and_eq_true,decide_eq_true_eq] at h
  exact⟨SpM.of hf h.1,h.2.1,fun k hk j hj=> splB_ok (h.2.2 k hk j hj)⟩
theorem all_range {n:Nat}{f:Nat→Bool}(h:(List.range n).all f=true) {a:Nat}(ha:a < n):f a=true:=List.all_eq_true.1 h a (List.mem_range.2 ha)
theorem qt_fit {a:Nat}(ha:a < 90):FitM (qt a):=by
  have key:∀ {s:Nat},((List.range 15).map (·+s)).all (fun a=> okF (qt a))=true→s≤a→a < s+15→FitM (qt a):=fun {s} h h1 h2 =>
    fit_of (List.all_eq_true.1 h a (List.mem_map.2 ⟨a - s,List.mem_range.2 (by omega),by show a - s+s=a;omega⟩))
  rcases(show (0≤a∧a < 0+15)∨(15≤a∧a < 15+15)∨(30≤a∧a < 30+15)∨(45≤a∧a < 45+15)∨(60≤a∧a < 60+15)∨(75≤a∧a < 75+15) by omega) with h | h | h | h | h | h
  · exact key qt_fit0 h.1 h.2
  · exact key qt_fit1 h.1 h.2
  · exact key qt_fit2 h.1 h.2
  · exact key qt_fit3 h.1 h.2
  · exact key qt_fit4 h.1 h.2
  · exact key qt_fit5 h.1 h.2
theorem qt_coarse {m:MeQ}(h:m ∈ csL):∃ a,a < 6∧m=qt a∧oI a=a:=by
  rw[← qt_cs] at h
  obtain⟨a,ha,rfl⟩:=List.mem_map.1 h
  exact⟨a,List.mem_range.1 ha,rfl,of_decide_eq_true (all_range qt_org (List.mem_range.1 ha))⟩
theorem qt_stp {a k:Nat}(ha:a < 20) (hk:k < (qt a).tris.length):stM (qt a) k=qt (stI a k)∧oI (stI a k)=oI a∧stI a k < if a < 6 then 20 else 90:=by
  have h:=List.all_eq_true.1 (all_range qt_st ha) k (List.mem_range.2 hk)
  simp only[Bool.and_eq_true,decide_eq_true_eq] at h
  exact h
/-- Where MakeMesh's meshes stand in the table. -/
theorem MkM.at_ {a0:Nat}(h0:a0 < 6) (ho:oI a0=a0):∀ {i:Nat}{m:MeQ},i≤2→MkM (qt a0) i m→∃ a,m=qt a∧oI a=a0∧a < (if i=0 then 6 else if i=1 then 20 else 90)
  | 0,m,_,h =>⟨a0,h,ho,h0⟩
  | i+1,m,hi,⟨x,hx,k,hk,e⟩=> by
    obtain⟨a,rfl,h1,h2⟩:=MkM.at_ h0 ho (by omega) hx
    rcases(show i=0∨i=1 by omega) with rfl | rfl
    · have h2:a < 6:=h2
      obtain⟨e1,e2,e3⟩:=qt_stp (show a < 20 by omega) hk
      rw[if_pos h2] at e3
      exact⟨stI a k,e.trans e1,e2.trans h1,e3⟩
    · have h2:a < 20:=h2
      obtain⟨e1,e2,e3⟩:=qt_stp h2 hk
      refine⟨stI a k,e.trans e1,e2.trans h1,?_⟩
      show stI a k < 90
      by_cases h6:a < 6
      · rw[if_pos h6] at e3;omega
      · rw[if_neg h6] at e3;exact e3
theorem mk_step {m0:MeQ}(h:m0 ∈ csL) {i:Nat}(hi:i≤1) {m:MeQ}(hm:MkM m0 i m):StepOk m:=by
  obtain⟨a0,h0,rfl,ho⟩:=qt_coarse h
  obtain⟨a,rfl,_,h2⟩:=MkM.at_ h0 ho (by omega) hm
  have h3:a < 20:=by
    rcases(show i=0∨i=1 by omega) with rfl | rfl
    · have h2:a < 6:=h2
      omega
    · exact h2
  exact StepOk.of (qt_fit (by omega)) (all_range qt_sp h3)
theorem qt_rmv {a:Nat}(ha:a < 90) {x:Nat × Nat}(hx:x ∈ rmI a):rmM (qt a) (x.1:Int)=qt x.2∧rvC (qt a) (x.1:Int)=true∧x.2 < 90:=by
  have h:=all_range qt_rm ha
  unfold rmC_ at h
  rw[Bool.and_eq_true] at h
  have h2:=List.all_eq_true.1 h.2 x hx
  simp only[Bool.and_eq_true,decide_eq_true_eq] at h2
  exact h2
theorem qt_mem {a:Nat}(ha:a < 90) {p:Nat}(hp:p < (qt a).pts.length):remB (qt a) (p:Int)=true↔∃ x,x ∈ rmI a∧x.1=p:=by
  have h:=all_range qt_rm ha
  unfold rmC_ at h
  rw[Bool.and_eq_true,decide_eq_true_eq] at h
  have h1:(p:Int) ∈ rmvL (qt a)↔remB (qt a) (p:Int)=true:=by
    refine⟨fun hm=> ?_,fun hr=> ?_⟩
    · obtain⟨q,e,_,hq⟩:=rmvTo_mem hm
      rw[e];exact hq
    · unfold rmvL rmvTo
      exact List.mem_map.2 ⟨p,List.mem_filter.2 ⟨List.mem_range.2 hp,hr⟩,rfl⟩
  rw[← h1,h.1]
  refine⟨fun hm=> ?_,fun ⟨x,hx,e⟩=> List.mem_map.2 ⟨x,hx,by rw[e]⟩⟩
  obtain⟨x,hx,e⟩:=List.mem_map.1 hm
  exact⟨x,hx,by omega⟩
theorem qt_co {a:Nat}(ha:a < 90):CoOk (qt a) :=
  ⟨qt_fit ha,fun p hp hr=> by
    obtain⟨x,hx,rfl⟩:=(qt_mem ha hp).1 hr
    obtain⟨e1,e2,e3⟩:=qt_rmv ha hx
    exact⟨by rw[e1];exact qt_fit e3,e2⟩⟩
theorem crS_tab {x:Nat × Nat}(ha:x.1 < 90) {p:Int}(h0:0≤p) (hp:p < ((qt x.1).pts.length:Int)):okS (qt x.1) p=true∧crS (qt x.1,x.2) p=(qt (crI x p).1,(crI x p).2)∧(crI x p).1 < 90:=by
  obtain⟨q,rfl⟩:=Int.eq_ofNat_of_zero_le h0
  have hq:q < (qt x.1).pts.length:=by omega
  have hm:=qt_mem ha hq
  unfold okS crS crI
  rw[decide_eq_true h0,decide_eq_true hp]
  cases hf:(rmI x.1).find? (fun y=> decide ((y.1:Int)=(q:Int))) with
  | none =>
    have hr:remB (qt x.1) (q:Int)=false:=Bool.eq_false_iff.2 fun hr=> by
      obtain⟨y,hy,e⟩:=hm.1 hr
      have:=List.find?_eq_none.1 hf y hy
      simp[e] at this
    refine⟨by rw[hr];rfl,?_,ha⟩
    rw[if_neg (by show ¬ remB (qt x.1) (q:Int)=true;rw[hr];decide)]
  | some y =>
    have hy:=List.mem_of_find?_eq_some hf
    have he:=List.find?_some hf
    have he:y.1=q:=by
      have h2:(y.1:Int)=(q:Int):=of_decide_eq_true he
      omega
    obtain⟨e1,e2,e3⟩:=qt_rmv ha hy
    rw[he] at e1 e2
    have hr:=hm.2 ⟨y,hy,he⟩
    have hok:okF (rmM (qt x.1) (q:Int))=true:=by
      rw[e1]
      have key:∀ {s:Nat},((List.range 15).map (·+s)).all (fun a=> okF (qt a))=true→s≤y.2→y.2 < s+15→okF (qt y.2)=true:=fun {s} h h1 h2 =>
        List.all_eq_true.1 h y.2 (List.mem_map.2 ⟨y.2 - s,List.mem_range.2 (by omega),by show y.2 - s+s=y.2;omega⟩)
      rcases(show (0≤y.2∧y.2 < 0+15)∨(15≤y.2∧y.2 < 15+15)∨(30≤y.2∧y.2 < 30+15)∨(45≤y.2∧y.2 < 45+15)∨(60≤y.2∧y.2 < 60+15)∨(75≤y.2∧y.2 < 75+15) by omega) with h | h | h | h | h | h
      · exact key qt_fit0 h.1 h.2
      · exact key qt_fit1 h.1 h.2
      · exact key qt_fit2 h.1 h.2
      · exact key qt_fit3 h.1 h.2
      · exact key qt_fit4 h.1 h.2
      · exact key qt_fit5 h.1 h.2
    refine⟨by rw[hr,hok,e2];rfl,?_,e3⟩
    rw[if_pos hr,e1]
theorem crK_tab:∀ {l:List Int}{x:Nat × Nat},x.1 < 90→crK x l=true→crC (qt x.1,x.2) l=true∧l.foldl crS (qt x.1,x.2)=(qt (l.foldl crI x).1,(l.foldl crI x).2)∧(l.foldl crI x).1 < 90
  | [],x,ha,_ =>⟨rfl,rfl,ha⟩
  | p :: ps,x,ha,h=> by
    have h:((decide (0≤p) && decide (p < ((qt x.1).pts.length:Int))) && crK (crI x p) ps)=true:=h
    simp only[Bool.and_eq_true,decide_eq_true_eq] at h
    obtain⟨h1,h2,h3⟩:=crS_tab ha h.1.1 h.1.2
    obtain⟨k1,k2,k3⟩:=crK_tab h3 h.2
    refine⟨?_,?_,k3⟩
    · show (okS (qt x.1) p && crC (crS (qt x.1,x.2) p) ps)=true
      rw[h1,h2,k1]
      rfl
    · show ps.foldl crS (crS (qt x.1,x.2) p)=_
      rw[h2]
      exact k2
theorem caK_tab {a0:Nat}:∀ {f a:Nat},a < 90→caK a0 f a=true→CaOk (qt a0) (qt a)
  | 0,_,_,h=> by cases h
  | f+1,a,ha,h=> by
    unfold caK at h
    rw[Bool.and_eq_true] at h
    obtain⟨h1,h2⟩:=h
    obtain⟨k1,k2,k3⟩:=crK_tab (x:=(a,0)) ha h1
    have e:crA (qt a) (rmvL (qt a))=(qt ((crL (qt a) (rmvL (qt a))).foldl crI (a,0)).1,((crL (qt a) (rmvL (qt a))).foldl crI (a,0)).2):=k2
    by_cases h0:((crL (qt a) (rmvL (qt a))).foldl crI (a,0)).2=0
    · rw[if_pos h0] at h2
      have h3:a=a0:=of_decide_eq_true h2
      have h4:(crA (qt a) (rmvL (qt a))).2=0:=by rw[e];exact h0
      exact .stop (qt_fit ha) k1 h4 (congrArg qt h3)
    · rw[if_neg h0] at h2
      have h4:(crA (qt a) (rmvL (qt a))).2≠0:=by rw[e];exact h0
      have h6:=caK_tab k3 h2
      have h5:CaOk (qt a0) (crA (qt a) (rmvL (qt a))).1:=by
        rw[e]
        dsimp only
        exact h6
      exact .step (qt_fit ha) k1 h4 h5
theorem mk_fin {m0:MeQ}(h:m0 ∈ csL) {i:Nat}(hi:i≤2) {m:MeQ}(hm:MkM m0 i m):CoOk m∧CaOk m0 m:=by
  obtain⟨a0,h0,rfl,ho⟩:=qt_coarse h
  obtain⟨a,rfl,h1,h2⟩:=MkM.at_ h0 ho hi hm
  have h3:a < 90:=by
    rcases(show i=0∨i=1∨i=2 by omega) with rfl | rfl | rfl
    · have h2:a < 6:=h2
      omega
    · have h2:a < 20:=h2
      omega
    · exact h2
  have h4:=all_range qt_ca h3
  rw[h1] at h4
  exact⟨qt_co h3,caK_tab h3 h4⟩
end

section
open Go.RowKit

theorem sameM_refl {x:MeD}:sameM x x=true:=by simp[sameM,Same]
end

section
open Go.RowKit

theorem rem_at {mq:MeQ}{p:Int}(h:remB mq p=true):(atA mq.tris p).length≤4:=by
  unfold remB at h
  simp only[Bool.and_eq_true,Bool.or_eq_true,decide_eq_true_eq] at h
  omega
set_option maxRecDepth 100000 in
set_option maxHeartbeats 32000000 in
theorem FnCoarsen_any (w0:World) {Ac:Option Addr}{nc cc:Nat}{lc:List Int}(hc:RdB w0 Ac nc cc lc) :
    Calls Tryz.prog 3 #[.slice Ac nc cc] w0 fun e w'=> e=.returned (.bool true)∧Bl w0 w':=by
  have hn:=hc.small
  by_cases hbig:(nc:Int) > 1048576
  · go_enter Tryz.func3,Tryz.ntmps3
    go_wp2_with fail
    go_ret
    exact⟨rfl,slc⟩
  · have hsmall:¬ 1048576 < (nc:Int):=hbig
    go_enter Tryz.func3,Tryz.ntmps3
    go_wp2_with fail
    refine(MakeCoarse_x _ hc).mono ?_
    rintro e w1 ⟨_,rfl,hcs,hO1,hb1⟩
    obtain⟨m0,hm0⟩:∃ m0,coM lc=m0:=⟨_,rfl⟩
    rw[hm0] at hcs hO1
    obtain⟨gp1,n1,cp1,gt1,m1,ct1,rfl,hP1,hT1⟩:=hO1.1
    have hca1:=Lib.hid (mk_fin hcs (Nat.zero_le 2) (show MkM m0 0 m0 from rfl)).2
    have hmk:=Lib.hid (show ∀ i,i≤1→∀ m,MkM (coM lc) i m→StepOk m by rw[hm0];exact fun i hi m hm=> mk_step hcs hi hm)
    have hfin:=Lib.hid (show ∀ i,i≤2→∀ m,MkM (coM lc) i m→CoOk m∧CaOk m0 m by rw[hm0];exact fun i hi m hm=> mk_fin hcs hi hm)
    clear hcs hO1 hm0
    go_upto_region 4 with (fail)
    refine wp_gen (fun W=> Bl w1 W∧∃ g3,Blk W g3 26 #[.slice (some ⟨gp1,0,none⟩) n1 cp1,.slice (some ⟨gt1,0,none⟩) m1 ct1]∧g3=w1.heap.size) ⟨slc,_,by exact bts,rfl⟩ ?_
    rintro W1 ⟨hbW,g3,h3,hg3⟩
    rw[← hg3]
    have hP1:=RdPS.bl hP1 hbW
    have hT1:=RdTS.bl hT1 hbW
    have hbw:=hb1.next hbW
    clear hg3 hbW hb1
    go_wp2_with fail
    refine(MakeMesh_x _ (RdB.bl hc hbw) hmk.out).mono ?_
    rintro e w2 ⟨_,i2,mq,rfl,hi2,hm2,hO2,hb2⟩
    obtain⟨hco,hca⟩:=hfin.out i2 hi2 mq hm2
    have hco:=Lib.hid hco;rename_i h_;clear h_
    have hca2:=Lib.hid hca
    obtain⟨gp2,n2,cp2,gt2,m2,ct2,rfl,hP2,hT2⟩:=hO2.1
    clear hca hfin hmk hm2 hO2
    go_upto_region 5 with (fail)
    refine wp_gen (fun W=> Bl w2 W∧∃ g4,Blk W g4 26 #[.slice (some ⟨gp2,0,none⟩) n2 cp2,.slice (some ⟨gt2,0,none⟩) m2 ct2]∧g4=w2.heap.size) ⟨slc,_,by exact bts,rfl⟩ ?_
    rintro W2 ⟨hbW,g4,h4,hg4⟩
    rw[← hg4]
    have hbX:=hb2.next hbW
    have h3:=h3.bl hbX
    have hP1:=RdPS.bl hP1 hbX
    have hT1:=RdTS.bl hT1 hbX
    have hP2:=RdPS.bl hP2 hbW
    have hT2:=RdTS.bl hT2 hbW
    have hbw:=hbw.next hbX
    have hM1:MeAt W2 (.agg #[.slice (some ⟨gp1,0,none⟩) n1 cp1,.slice (some ⟨gt1,0,none⟩) m1 ct1]) m0:=⟨gp1,n1,cp1,gt1,m1,ct1,rfl,hP1,hT1⟩
    have hM2:MeAt W2 (.agg #[.slice (some ⟨gp2,0,none⟩) n2 cp2,.slice (some ⟨gt2,0,none⟩) m2 ct2]) mq:=⟨gp2,n2,cp2,gt2,m2,ct2,rfl,hP2,hT2⟩
    have hn2:=Lib.hid (show mq.pts.length=n2 by rw[← hP2.len,List.length_map])
    have hn40:n2≤40:=by rw[← hn2.out];exact hco.out.fit.ok.n40
    have hn3:3≤n2:=by rw[← hn2.out];exact hco.out.fit.ok.n3
    clear hg4 hbW hb2 hbX
    obtain⟨r0,r1⟩:=bx2 h4
    go_wp2_with fail
    refine(Removable_yes _ hM2 hco.out.fit).mono ?_
    rintro e w3 ⟨B3,k3,d3,rfl,hR3,hb3⟩
    have hk3:=Lib.hid hR3.rd.len
    have hkc:=hR3.rd.cap
    have hR:=hR3.rd
    have h3:=h3.bl hb3
    have h4:=h4.bl hb3
    have hP1:=RdPS.bl hP1 hb3
    have hT1:=RdTS.bl hT1 hb3
    have hM1:=hM1.bl hb3
    have hM2:=hM2.bl hb3
    have hbw:=hbw.next hb3
    clear r0 r1 hR3 hb3 hP2 hT2
    have hkl:k3≤40:=by have h:=rmvTo_len mq mq.pts.length;rw[show rmvTo mq mq.pts.length=rmvL mq from rfl,hk3.out,hn2.out] at h;omega
    go_wp2_with fail
    go_loopw [19] (fun v wr=> ∃ i:Nat,i≤k3∧v=.int .i64 (i:Int)∧Bl w3 wr) (fun v _=> k3 - (intOf v).toNat)
    case atStart=> exact⟨0,by omega,rfl,Bl.refl _⟩
    case round =>
      obtain⟨i,hi,rfl,hbi⟩:=hrel
      obtain⟨wi,rfl⟩:∃ wi:World,wi=wr:=⟨_,rfl⟩
      have h3:=h3.bl hbi
      have h4:=h4.bl hbi
      have hM1:=hM1.bl hbi
      have hM2:=hM2.bl hbi
      by_cases hik:i < k3
      · have hii:(i:Int) < (k3:Int):=by omega
        obtain⟨ad,rfl,hlta,hca⟩:=(RdI.bl hR hbi).cells i hik
        obtain⟨p,hp,hpl,hpr⟩:=rmvL_ix (m:=mq) (i:=i) (by rw[hk3.out];exact hik)
        rw[hp] at hca
        obtain⟨r0,r1⟩:=bx2 h4
        have hre:=hco.out.rem p hpl hpr
        have hat:=rem_at hpr
        have hfy:=Lib.hid hre.1
        have hlen:(rmM mq (p:Int)).pts.length+1=n2:=by
          show (mq.pts.eraseIdx ((p:Int)).toNat).length+1=n2
          rw[List.length_eraseIdx_of_lt (by rw[Int.toNat_natCast];exact hpl)]
          have:=hn2.out
          omega
        clear hp
        go_wp2_with fail
        refine(RemovePoint_yes _ (x:=(mq,0)) hM2 hco.out.fit p hpl (fun _=> hre) hpr).mono ?_
        rw[show (crS (mq,0) (p:Int)).1=rmM mq (p:Int) by unfold crS;rw[if_pos hpr]]
        rintro e w5 ⟨_,rfl,hO5,hb5⟩
        obtain⟨gp5,n5,cp5,gt5,m5,ct5,rfl,hP5,hT5⟩:=hO5.1
        obtain⟨y,hy⟩:∃ y,rmM mq (p:Int)=y:=⟨_,rfl⟩
        rw[hy] at hfy hlen hP5 hT5
        have hn5:n5+1=n2:=by rw[← hlen,← hP5.len,List.length_map]
        have hlt5:3≤n5:=by rw[← hP5.len,List.length_map];exact hfy.out.ok.n3
        clear r0 r1 hre hO5 hca hlta hlen hy
        go_upto_region 9 with (fail)
        refine wp_gen (fun W=> Bl w5 W∧∃ g7,Blk W g7 26 #[.slice (some ⟨gp5,0,none⟩) n5 cp5,.slice (some ⟨gt5,0,none⟩) m5 ct5]∧g7=w5.heap.size) ⟨slc,_,by exact bts,rfl⟩ ?_
        rintro W5 ⟨hbW,g7,h7,hg7⟩
        rw[← hg7]
        have hb55:=hb5.next hbW
        have h4:=h4.bl hb55
        have hM2:=hM2.bl hb55
        have hbi:=hbi.next hb55
        clear hg7
        obtain⟨r0,r1⟩:=bx2 h7
        go_wp2_with fail
        refine(IsMesh_yes _ (RdPS.bl hP5 hbW) (RdTS.bl hT5 hbW) hfy.out.ok).mono ?_
        rintro e w6 ⟨rfl,hb6⟩
        have h4:=h4.bl hb6
        have h7:=h7.bl hb6
        have hM2:=hM2.bl hb6
        have hbi:=hbi.next hb6
        clear r0 r1
        obtain⟨r0,r1⟩:=bx2 h7
        obtain⟨q0,q1⟩:=bx2 h4
        have hw1:IntKind.i64.wrap ((n2:Int) - 1)=(n2:Int) - 1:=IntWalk.i64_in _ (by omega)
        have hne:((n5:Int) != (n2:Int) - 1)=false:=by simp;omega
        go_wp2_with fail
        refine(PointTriangles_yes _ hM2 hco.out.fit p hpl).mono ?_
        rintro e w7 ⟨B7,k7,d7,rfl,hR7,hb7⟩
        have hk7:k7≤4:=by rw[← hR7.rd.len];exact hat
        have hk7i:¬ 4 < (k7:Int):=by omega
        have hbi:=hbi.next hb7
        clear r0 r1 q0 q1
        go_wp2_with fail
        go_roundw
        case rel=> exact⟨i+1,by omega,by go_num,hbi⟩
        case measure=> simp[intOf];omega
      · obtain rfl:i=k3:=by omega
        have hkm2:¬ (i:Int) < (i:Int):=by omega
        have hP1:=RdPS.bl hP1 hbi
        have hT1:=RdTS.bl hT1 hbi
        have hc2:=Lib.hid (show ∃ x,MeAt wi (.agg #[.slice (some ⟨gp2,0,none⟩) n2 cp2,.slice (some ⟨gt2,0,none⟩) m2 ct2]) x∧CaOk m0 x from ⟨mq,hM2,hca2.out⟩)
        have hc1:=Lib.hid (show ∃ x,MeAt wi (.agg #[.slice (some ⟨gp1,0,none⟩) n1 cp1,.slice (some ⟨gt1,0,none⟩) m1 ct1]) x∧CaOk m0 x from ⟨m0,hM1,hca1.out⟩)
        have ca:∀ (W:World) (gp n cp gt m ct:Nat),(∃ x,MeAt wi (.agg #[.slice (some ⟨gp,0,none⟩) n cp,.slice (some ⟨gt,0,none⟩) m ct]) x∧CaOk m0 x)→Bl wi W→Calls Tryz.prog 12 #[.agg #[.slice (some ⟨gp,0,none⟩) n cp,.slice (some ⟨gt,0,none⟩) m ct]] W (MeRes W m0):=fun W gp n cp gt m ct h hb=> by
          obtain⟨x,h1,h2⟩:=h
          exact CoarsenAll_yes W (h1.bl hb) h2
        have cs:∀ (W:World) (gp n cp gt m ct:Nat),RdPS W (some ⟨gp,0,none⟩) n cp (m0.pts.map tp)→RdTS W (some ⟨gt,0,none⟩) m ct m0.tris→Bl wi W→Calls Tryz.prog 11 #[.agg #[.slice (some ⟨gp,0,none⟩) n cp,.slice (some ⟨gt,0,none⟩) m ct],.agg #[.slice (some ⟨gp1,0,none⟩) n1 cp1,.slice (some ⟨gt1,0,none⟩) m1 ct1]] W (fun e w'=> e=.returned (.bool true)∧Bl W w'):=fun W gp n cp gt m ct h1 h2 hb=> by
          have h:=SameMesh_any W (x:=⟨m0.pts.map tp,m0.tris⟩) (y:=⟨m0.pts.map tp,m0.tris⟩) h1 h2 (RdPS.bl hP1 hb) (RdTS.bl hT1 hb)
          rw[sameM_refl] at h
          exact h
        have hM1:=Lib.hid hM1;rename_i h_;clear h_
        have hM2:=Lib.hid hM2;rename_i h_;clear h_
        go_wp2_with fail
        go_region_held3 (fun w' =>(w'.cell? ⟨g3,0,none⟩=some (.slice (some ⟨gp1,0,none⟩) n1 cp1)∧w'.cell? ⟨g3,1,none⟩=some (.slice (some ⟨gt1,0,none⟩) m1 ct1))∧(w'.cell? ⟨g4,0,none⟩=some (.slice (some ⟨gp2,0,none⟩) n2 cp2)∧w'.cell? ⟨g4,1,none⟩=some (.slice (some ⟨gt2,0,none⟩) m2 ct2))) (first | exact⟨bx2 (T:=26) (h3.bl slc),bx2 (T:=26) (h4.bl slc)⟩) (first |(go_at_call 12;refine(ca _ _ _ _ _ _ _ (by first | exact hc2.out | exact hc1.out) slc).mono ?_;rintro e v1 ⟨_,rfl,hR5,hv1⟩;obtain⟨gp5,n5,cp5,gt5,m5,ct5,rfl,hP5,hT5⟩:=hR5.1) |(go_at_call 11;refine(cs _ gp5 n5 cp5 gt5 m5 ct5 (RdPS.bl hP5 slc) (RdTS.bl hT5 slc) slc).mono ?_;rintro e v2 ⟨rfl,hv2⟩))
        go_wp2_with fail
        go_ret
        exact⟨rfl,slc⟩
end

end Go.Proofs.YtmkcacgmnnlddaaGreat
