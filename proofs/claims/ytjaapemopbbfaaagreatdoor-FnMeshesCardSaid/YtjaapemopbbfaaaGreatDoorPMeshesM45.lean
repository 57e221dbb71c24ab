import Derived.Test.YtjaapemopbbfaaaGreatDoorPMeshesM44
namespace Go.Proofs.YtjaapemopbbfaaaGreatDoor
open Go.RowKit
set_option maxRecDepth 100000
set_option maxHeartbeats 32000000
def qeO:List MeQ :=
 [⟨[(0,0),(2,0),(2,2),(0,2),(1,1)],[⟨4,0,1,0,0⟩,⟨4,1,2,0,0⟩,⟨4,2,3,1,0⟩,⟨4,3,0,0,0⟩]⟩,
  ⟨[(0,0),(2,0),(2,2),(0,2),(1,1)],[⟨4,0,1,0,0⟩,⟨4,1,2,0,0⟩,⟨4,2,3,1,0⟩,⟨4,3,0,1,0⟩]⟩,
  ⟨[(0,0),(2,0),(2,1),(0,2)],[⟨1,2,0,0,0⟩,⟨3,0,2,0,0⟩]⟩,
  ⟨[(0,0),(2,0),(2,1),(0,2)],[⟨1,2,0,0,0⟩,⟨3,0,2,1,0⟩]⟩,
  ⟨[(0,0),(2,0),(2,1),(0,2)],[⟨1,2,0,0,0⟩,⟨3,0,2,2,0⟩]⟩,
  ⟨[(0,0),(1,0),(2,0),(2,1),(1,1),(1,2),(0,2),(0,1)],[⟨1,4,0,0,0⟩,⟨7,0,4,0,0⟩,⟨3,4,2,0,0⟩,⟨1,2,4,1,0⟩,⟨7,4,6,0,0⟩,⟨5,6,4,2,0⟩]⟩,
  ⟨[(0,0),(2,0),(2,2),(0,2),(1,1),(1,0)],[⟨5,4,0,0,1⟩,⟨5,1,4,0,1⟩,⟨4,1,2,0,0⟩,⟨4,2,3,1,0⟩,⟨4,3,0,0,0⟩]⟩,
  ⟨[(0,0),(2,0),(2,2),(0,2),(1,1),(2,1)],[⟨4,0,1,0,0⟩,⟨5,4,1,0,1⟩,⟨5,2,4,0,1⟩,⟨4,2,3,1,0⟩,⟨4,3,0,0,0⟩]⟩,
  ⟨[(0,0),(2,0),(2,2),(0,2),(1,1),(1,2)],[⟨4,0,1,0,0⟩,⟨4,1,2,0,0⟩,⟨5,4,2,1,1⟩,⟨5,3,4,1,1⟩,⟨4,3,0,0,0⟩]⟩,
  ⟨[(0,0),(2,0),(2,2),(0,2),(1,1),(0,1)],[⟨4,0,1,0,0⟩,⟨4,1,2,0,0⟩,⟨4,2,3,1,0⟩,⟨5,4,3,0,1⟩,⟨5,0,4,0,1⟩]⟩,
  ⟨[(0,0),(2,0),(2,2),(0,2),(1,1),(1,0)],[⟨5,4,0,0,1⟩,⟨5,1,4,0,1⟩,⟨4,1,2,0,0⟩,⟨4,2,3,1,0⟩,⟨4,3,0,1,0⟩]⟩,
  ⟨[(0,0),(2,0),(2,2),(0,2),(1,1),(2,1)],[⟨4,0,1,0,0⟩,⟨5,4,1,0,1⟩,⟨5,2,4,0,1⟩,⟨4,2,3,1,0⟩,⟨4,3,0,1,0⟩]⟩,
  ⟨[(0,0),(2,0),(2,2),(0,2),(1,1),(1,2)],[⟨4,0,1,0,0⟩,⟨4,1,2,0,0⟩,⟨5,4,2,1,1⟩,⟨5,3,4,1,1⟩,⟨4,3,0,1,0⟩]⟩,
  ⟨[(0,0),(2,0),(2,2),(0,2),(1,1),(0,1)],[⟨4,0,1,0,0⟩,⟨4,1,2,0,0⟩,⟨4,2,3,1,0⟩,⟨5,4,3,1,1⟩,⟨5,0,4,1,1⟩]⟩,
  ⟨[(0,0),(2,0),(2,1),(0,2),(1,mkRat 1 2)],[⟨4,1,2,0,1⟩,⟨4,0,1,0,1⟩,⟨4,3,0,0,1⟩,⟨4,2,3,0,1⟩]⟩,
  ⟨[(0,0),(2,0),(2,1),(0,2),(1,mkRat 1 2)],[⟨4,1,2,0,1⟩,⟨4,0,1,0,1⟩,⟨4,3,0,1,1⟩,⟨4,2,3,1,1⟩]⟩,
  ⟨[(0,0),(2,0),(2,1),(0,2),(1,mkRat 1 2)],[⟨4,1,2,0,1⟩,⟨4,0,1,0,1⟩,⟨4,3,0,2,1⟩,⟨4,2,3,2,1⟩]⟩,
  ⟨[(0,0),(1,0),(2,0),(2,1),(1,1),(1,2),(0,2),(0,1),(mkRat 1 2,mkRat 1 2)],[⟨8,1,4,0,1⟩,⟨8,0,1,0,1⟩,⟨8,7,0,0,1⟩,⟨8,4,7,0,1⟩,⟨3,4,2,0,0⟩,⟨1,2,4,1,0⟩,⟨7,4,6,0,0⟩,⟨5,6,4,2,0⟩]⟩,
  ⟨[(0,0),(1,0),(2,0),(2,1),(1,1),(1,2),(0,2),(0,1),(mkRat 3 2,mkRat 1 2)],[⟨1,4,0,0,0⟩,⟨7,0,4,0,0⟩,⟨8,3,4,0,1⟩,⟨8,2,3,0,1⟩,⟨8,1,2,1,1⟩,⟨8,4,1,1,1⟩,⟨7,4,6,0,0⟩,⟨5,6,4,2,0⟩]⟩,
  ⟨[(0,0),(1,0),(2,0),(2,1),(1,1),(1,2),(0,2),(0,1),(mkRat 1 2,mkRat 3 2)],[⟨1,4,0,0,0⟩,⟨7,0,4,0,0⟩,⟨3,4,2,0,0⟩,⟨1,2,4,1,0⟩,⟨8,7,4,0,1⟩,⟨8,6,7,0,1⟩,⟨8,5,6,2,1⟩,⟨8,4,5,2,1⟩]⟩,
  ⟨[(0,0),(2,0),(2,2),(0,2),(1,1),(1,0),(0,1),(mkRat 1 2,mkRat 1 2)],[⟨7,5,4,0,2⟩,⟨7,0,5,0,2⟩,⟨5,1,4,0,1⟩,⟨4,1,2,0,0⟩,⟨4,2,3,1,0⟩,⟨6,4,3,0,1⟩,⟨7,6,0,0,2⟩,⟨7,4,6,0,2⟩]⟩,
  ⟨[(0,0),(2,0),(2,2),(0,2),(1,1),(1,0),(2,1),(mkRat 3 2,mkRat 1 2)],[⟨5,4,0,0,1⟩,⟨7,5,1,0,2⟩,⟨7,4,5,0,2⟩,⟨7,6,4,0,2⟩,⟨7,1,6,0,2⟩,⟨6,2,4,0,1⟩,⟨4,2,3,1,0⟩,⟨4,3,0,0,0⟩]⟩,
  ⟨[(0,0),(2,0),(2,2),(0,2),(1,1),(1,0),(2,1)],[⟨5,4,0,0,1⟩,⟨5,1,4,0,1⟩,⟨6,4,1,0,1⟩,⟨6,2,4,0,1⟩,⟨4,2,3,1,0⟩,⟨4,3,0,0,0⟩]⟩,
  ⟨[(0,0),(2,0),(2,2),(0,2),(1,1),(1,0),(1,2)],[⟨5,4,0,0,1⟩,⟨5,1,4,0,1⟩,⟨4,1,2,0,0⟩,⟨6,4,2,1,1⟩,⟨6,3,4,1,1⟩,⟨4,3,0,0,0⟩]⟩,
  ⟨[(0,0),(2,0),(2,2),(0,2),(1,1),(1,0),(0,1)],[⟨5,4,0,0,1⟩,⟨5,1,4,0,1⟩,⟨4,1,2,0,0⟩,⟨4,2,3,1,0⟩,⟨6,4,3,0,1⟩,⟨6,0,4,0,1⟩]⟩,
  ⟨[(0,0),(2,0),(2,2),(0,2),(1,1),(2,1),(1,0)],[⟨6,4,0,0,1⟩,⟨6,1,4,0,1⟩,⟨5,4,1,0,1⟩,⟨5,2,4,0,1⟩,⟨4,2,3,1,0⟩,⟨4,3,0,0,0⟩]⟩,
  ⟨[(0,0),(2,0),(2,2),(0,2),(1,1),(2,1),(1,0),(mkRat 3 2,mkRat 1 2)],[⟨6,4,0,0,1⟩,⟨7,6,1,0,2⟩,⟨7,4,6,0,2⟩,⟨7,5,4,0,2⟩,⟨7,1,5,0,2⟩,⟨5,2,4,0,1⟩,⟨4,2,3,1,0⟩,⟨4,3,0,0,0⟩]⟩,
  ⟨[(0,0),(2,0),(2,2),(0,2),(1,1),(2,1),(1,2),(mkRat 3 2,mkRat 3 2)],[⟨4,0,1,0,0⟩,⟨5,4,1,0,1⟩,⟨7,5,2,0,2⟩,⟨7,4,5,0,2⟩,⟨7,6,4,1,2⟩,⟨7,2,6,1,2⟩,⟨6,3,4,1,1⟩,⟨4,3,0,0,0⟩]⟩,
  ⟨[(0,0),(2,0),(2,2),(0,2),(1,1),(2,1),(1,2)],[⟨4,0,1,0,0⟩,⟨5,4,1,0,1⟩,⟨5,2,4,0,1⟩,⟨6,4,2,1,1⟩,⟨6,3,4,1,1⟩,⟨4,3,0,0,0⟩]⟩,
  ⟨[(0,0),(2,0),(2,2),(0,2),(1,1),(2,1),(0,1)],[⟨4,0,1,0,0⟩,⟨5,4,1,0,1⟩,⟨5,2,4,0,1⟩,⟨4,2,3,1,0⟩,⟨6,4,3,0,1⟩,⟨6,0,4,0,1⟩]⟩,
  ⟨[(0,0),(2,0),(2,2),(0,2),(1,1),(1,2),(1,0)],[⟨6,4,0,0,1⟩,⟨6,1,4,0,1⟩,⟨4,1,2,0,0⟩,⟨5,4,2,1,1⟩,⟨5,3,4,1,1⟩,⟨4,3,0,0,0⟩]⟩,
  ⟨[(0,0),(2,0),(2,2),(0,2),(1,1),(1,2),(2,1)],[⟨4,0,1,0,0⟩,⟨6,4,1,0,1⟩,⟨6,2,4,0,1⟩,⟨5,4,2,1,1⟩,⟨5,3,4,1,1⟩,⟨4,3,0,0,0⟩]⟩,
  ⟨[(0,0),(2,0),(2,2),(0,2),(1,1),(1,2),(2,1),(mkRat 3 2,mkRat 3 2)],[⟨4,0,1,0,0⟩,⟨6,4,1,0,1⟩,⟨7,6,2,0,2⟩,⟨7,4,6,0,2⟩,⟨7,5,4,1,2⟩,⟨7,2,5,1,2⟩,⟨5,3,4,1,1⟩,⟨4,3,0,0,0⟩]⟩,
  ⟨[(0,0),(2,0),(2,2),(0,2),(1,1),(1,2),(0,1),(mkRat 1 2,mkRat 3 2)],[⟨4,0,1,0,0⟩,⟨4,1,2,0,0⟩,⟨5,4,2,1,1⟩,⟨7,5,3,1,2⟩,⟨7,4,5,1,2⟩,⟨7,6,4,0,2⟩,⟨7,3,6,0,2⟩,⟨6,0,4,0,1⟩]⟩,
  ⟨[(0,0),(2,0),(2,2),(0,2),(1,1),(1,2),(0,1)],[⟨4,0,1,0,0⟩,⟨4,1,2,0,0⟩,⟨5,4,2,1,1⟩,⟨5,3,4,1,1⟩,⟨6,4,3,0,1⟩,⟨6,0,4,0,1⟩]⟩,
  ⟨[(0,0),(2,0),(2,2),(0,2),(1,1),(0,1),(1,0)],[⟨6,4,0,0,1⟩,⟨6,1,4,0,1⟩,⟨4,1,2,0,0⟩,⟨4,2,3,1,0⟩,⟨5,4,3,0,1⟩,⟨5,0,4,0,1⟩]⟩,
  ⟨[(0,0),(2,0),(2,2),(0,2),(1,1),(0,1),(2,1)],[⟨4,0,1,0,0⟩,⟨6,4,1,0,1⟩,⟨6,2,4,0,1⟩,⟨4,2,3,1,0⟩,⟨5,4,3,0,1⟩,⟨5,0,4,0,1⟩]⟩,
  ⟨[(0,0),(2,0),(2,2),(0,2),(1,1),(0,1),(1,2)],[⟨4,0,1,0,0⟩,⟨4,1,2,0,0⟩,⟨6,4,2,1,1⟩,⟨6,3,4,1,1⟩,⟨5,4,3,0,1⟩,⟨5,0,4,0,1⟩]⟩,
  ⟨[(0,0),(2,0),(2,2),(0,2),(1,1),(0,1),(1,2),(mkRat 1 2,mkRat 3 2)],[⟨4,0,1,0,0⟩,⟨4,1,2,0,0⟩,⟨6,4,2,1,1⟩,⟨7,6,3,1,2⟩,⟨7,4,6,1,2⟩,⟨7,5,4,0,2⟩,⟨7,3,5,0,2⟩,⟨5,0,4,0,1⟩]⟩,
  ⟨[(0,0),(2,0),(2,2),(0,2),(1,1),(0,1),(1,0),(mkRat 1 2,mkRat 1 2)],[⟨7,6,4,0,2⟩,⟨7,0,6,0,2⟩,⟨6,1,4,0,1⟩,⟨4,1,2,0,0⟩,⟨4,2,3,1,0⟩,⟨5,4,3,0,1⟩,⟨7,5,0,0,2⟩,⟨7,4,5,0,2⟩]⟩,
  ⟨[(0,0),(2,0),(2,2),(0,2),(1,1),(1,0),(0,1),(mkRat 1 2,mkRat 1 2)],[⟨7,5,4,0,2⟩,⟨7,0,5,0,2⟩,⟨5,1,4,0,1⟩,⟨4,1,2,0,0⟩,⟨4,2,3,1,0⟩,⟨6,4,3,1,1⟩,⟨7,6,0,1,2⟩,⟨7,4,6,1,2⟩]⟩,
  ⟨[(0,0),(2,0),(2,2),(0,2),(1,1),(1,0),(2,1),(mkRat 3 2,mkRat 1 2)],[⟨5,4,0,0,1⟩,⟨7,5,1,0,2⟩,⟨7,4,5,0,2⟩,⟨7,6,4,0,2⟩,⟨7,1,6,0,2⟩,⟨6,2,4,0,1⟩,⟨4,2,3,1,0⟩,⟨4,3,0,1,0⟩]⟩,
  ⟨[(0,0),(2,0),(2,2),(0,2),(1,1),(1,0),(2,1)],[⟨5,4,0,0,1⟩,⟨5,1,4,0,1⟩,⟨6,4,1,0,1⟩,⟨6,2,4,0,1⟩,⟨4,2,3,1,0⟩,⟨4,3,0,1,0⟩]⟩,
  ⟨[(0,0),(2,0),(2,2),(0,2),(1,1),(1,0),(1,2)],[⟨5,4,0,0,1⟩,⟨5,1,4,0,1⟩,⟨4,1,2,0,0⟩,⟨6,4,2,1,1⟩,⟨6,3,4,1,1⟩,⟨4,3,0,1,0⟩]⟩,
  ⟨[(0,0),(2,0),(2,2),(0,2),(1,1),(1,0),(0,1)],[⟨5,4,0,0,1⟩,⟨5,1,4,0,1⟩,⟨4,1,2,0,0⟩,⟨4,2,3,1,0⟩,⟨6,4,3,1,1⟩,⟨6,0,4,1,1⟩]⟩,
  ⟨[(0,0),(2,0),(2,2),(0,2),(1,1),(2,1),(1,0)],[⟨6,4,0,0,1⟩,⟨6,1,4,0,1⟩,⟨5,4,1,0,1⟩,⟨5,2,4,0,1⟩,⟨4,2,3,1,0⟩,⟨4,3,0,1,0⟩]⟩,
  ⟨[(0,0),(2,0),(2,2),(0,2),(1,1),(2,1),(1,0),(mkRat 3 2,mkRat 1 2)],[⟨6,4,0,0,1⟩,⟨7,6,1,0,2⟩,⟨7,4,6,0,2⟩,⟨7,5,4,0,2⟩,⟨7,1,5,0,2⟩,⟨5,2,4,0,1⟩,⟨4,2,3,1,0⟩,⟨4,3,0,1,0⟩]⟩,
  ⟨[(0,0),(2,0),(2,2),(0,2),(1,1),(2,1),(1,2),(mkRat 3 2,mkRat 3 2)],[⟨4,0,1,0,0⟩,⟨5,4,1,0,1⟩,⟨7,5,2,0,2⟩,⟨7,4,5,0,2⟩,⟨7,6,4,1,2⟩,⟨7,2,6,1,2⟩,⟨6,3,4,1,1⟩,⟨4,3,0,1,0⟩]⟩,
  ⟨[(0,0),(2,0),(2,2),(0,2),(1,1),(2,1),(1,2)],[⟨4,0,1,0,0⟩,⟨5,4,1,0,1⟩,⟨5,2,4,0,1⟩,⟨6,4,2,1,1⟩,⟨6,3,4,1,1⟩,⟨4,3,0,1,0⟩]⟩,
  ⟨[(0,0),(2,0),(2,2),(0,2),(1,1),(2,1),(0,1)],[⟨4,0,1,0,0⟩,⟨5,4,1,0,1⟩,⟨5,2,4,0,1⟩,⟨4,2,3,1,0⟩,⟨6,4,3,1,1⟩,⟨6,0,4,1,1⟩]⟩,
  ⟨[(0,0),(2,0),(2,2),(0,2),(1,1),(1,2),(1,0)],[⟨6,4,0,0,1⟩,⟨6,1,4,0,1⟩,⟨4,1,2,0,0⟩,⟨5,4,2,1,1⟩,⟨5,3,4,1,1⟩,⟨4,3,0,1,0⟩]⟩,
  ⟨[(0,0),(2,0),(2,2),(0,2),(1,1),(1,2),(2,1)],[⟨4,0,1,0,0⟩,⟨6,4,1,0,1⟩,⟨6,2,4,0,1⟩,⟨5,4,2,1,1⟩,⟨5,3,4,1,1⟩,⟨4,3,0,1,0⟩]⟩,
  ⟨[(0,0),(2,0),(2,2),(0,2),(1,1),(1,2),(2,1),(mkRat 3 2,mkRat 3 2)],[⟨4,0,1,0,0⟩,⟨6,4,1,0,1⟩,⟨7,6,2,0,2⟩,⟨7,4,6,0,2⟩,⟨7,5,4,1,2⟩,⟨7,2,5,1,2⟩,⟨5,3,4,1,1⟩,⟨4,3,0,1,0⟩]⟩,
  ⟨[(0,0),(2,0),(2,2),(0,2),(1,1),(1,2),(0,1),(mkRat 1 2,mkRat 3 2)],[⟨4,0,1,0,0⟩,⟨4,1,2,0,0⟩,⟨5,4,2,1,1⟩,⟨7,5,3,1,2⟩,⟨7,4,5,1,2⟩,⟨7,6,4,1,2⟩,⟨7,3,6,1,2⟩,⟨6,0,4,1,1⟩]⟩,
  ⟨[(0,0),(2,0),(2,2),(0,2),(1,1),(1,2),(0,1)],[⟨4,0,1,0,0⟩,⟨4,1,2,0,0⟩,⟨5,4,2,1,1⟩,⟨5,3,4,1,1⟩,⟨6,4,3,1,1⟩,⟨6,0,4,1,1⟩]⟩,
  ⟨[(0,0),(2,0),(2,2),(0,2),(1,1),(0,1),(1,0)],[⟨6,4,0,0,1⟩,⟨6,1,4,0,1⟩,⟨4,1,2,0,0⟩,⟨4,2,3,1,0⟩,⟨5,4,3,1,1⟩,⟨5,0,4,1,1⟩]⟩,
  ⟨[(0,0),(2,0),(2,2),(0,2),(1,1),(0,1),(2,1)],[⟨4,0,1,0,0⟩,⟨6,4,1,0,1⟩,⟨6,2,4,0,1⟩,⟨4,2,3,1,0⟩,⟨5,4,3,1,1⟩,⟨5,0,4,1,1⟩]⟩,
  ⟨[(0,0),(2,0),(2,2),(0,2),(1,1),(0,1),(1,2)],[⟨4,0,1,0,0⟩,⟨4,1,2,0,0⟩,⟨6,4,2,1,1⟩,⟨6,3,4,1,1⟩,⟨5,4,3,1,1⟩,⟨5,0,4,1,1⟩]⟩,
  ⟨[(0,0),(2,0),(2,2),(0,2),(1,1),(0,1),(1,2),(mkRat 1 2,mkRat 3 2)],[⟨4,0,1,0,0⟩,⟨4,1,2,0,0⟩,⟨6,4,2,1,1⟩,⟨7,6,3,1,2⟩,⟨7,4,6,1,2⟩,⟨7,5,4,1,2⟩,⟨7,3,5,1,2⟩,⟨5,0,4,1,1⟩]⟩,
  ⟨[(0,0),(2,0),(2,2),(0,2),(1,1),(0,1),(1,0),(mkRat 1 2,mkRat 1 2)],[⟨7,6,4,0,2⟩,⟨7,0,6,0,2⟩,⟨6,1,4,0,1⟩,⟨4,1,2,0,0⟩,⟨4,2,3,1,0⟩,⟨5,4,3,1,1⟩,⟨7,5,0,1,2⟩,⟨7,4,5,1,2⟩]⟩,
  ⟨[(0,0),(2,0),(2,1),(0,2),(1,mkRat 1 2),(2,mkRat 1 2)],[⟨5,4,1,0,2⟩,⟨5,2,4,0,2⟩,⟨4,0,1,0,1⟩,⟨4,3,0,0,1⟩,⟨4,2,3,0,1⟩]⟩,
  ⟨[(0,0),(2,0),(2,1),(0,2),(1,mkRat 1 2),(1,0)],[⟨4,1,2,0,1⟩,⟨5,4,0,0,2⟩,⟨5,1,4,0,2⟩,⟨4,3,0,0,1⟩,⟨4,2,3,0,1⟩]⟩,
  ⟨[(0,0),(2,0),(2,1),(0,2),(1,mkRat 1 2),(0,1)],[⟨4,1,2,0,1⟩,⟨4,0,1,0,1⟩,⟨5,4,3,0,2⟩,⟨5,0,4,0,2⟩,⟨4,2,3,0,1⟩]⟩,
  ⟨[(0,0),(2,0),(2,1),(0,2),(1,mkRat 1 2),(1,mkRat 3 2)],[⟨4,1,2,0,1⟩,⟨4,0,1,0,1⟩,⟨4,3,0,0,1⟩,⟨5,4,2,0,2⟩,⟨5,3,4,0,2⟩]⟩,
  ⟨[(0,0),(2,0),(2,1),(0,2),(1,mkRat 1 2),(2,mkRat 1 2)],[⟨5,4,1,0,2⟩,⟨5,2,4,0,2⟩,⟨4,0,1,0,1⟩,⟨4,3,0,1,1⟩,⟨4,2,3,1,1⟩]⟩,
  ⟨[(0,0),(2,0),(2,1),(0,2),(1,mkRat 1 2),(1,0)],[⟨4,1,2,0,1⟩,⟨5,4,0,0,2⟩,⟨5,1,4,0,2⟩,⟨4,3,0,1,1⟩,⟨4,2,3,1,1⟩]⟩,
  ⟨[(0,0),(2,0),(2,1),(0,2),(1,mkRat 1 2),(0,1)],[⟨4,1,2,0,1⟩,⟨4,0,1,0,1⟩,⟨5,4,3,1,2⟩,⟨5,0,4,1,2⟩,⟨4,2,3,1,1⟩]⟩,
  ⟨[(0,0),(2,0),(2,1),(0,2),(1,mkRat 1 2),(1,mkRat 3 2)],[⟨4,1,2,0,1⟩,⟨4,0,1,0,1⟩,⟨4,3,0,1,1⟩,⟨5,4,2,1,2⟩,⟨5,3,4,1,2⟩]⟩,
  ⟨[(0,0),(2,0),(2,1),(0,2),(1,mkRat 1 2),(2,mkRat 1 2)],[⟨5,4,1,0,2⟩,⟨5,2,4,0,2⟩,⟨4,0,1,0,1⟩,⟨4,3,0,2,1⟩,⟨4,2,3,2,1⟩]⟩,
  ⟨[(0,0),(2,0),(2,1),(0,2),(1,mkRat 1 2),(1,0)],[⟨4,1,2,0,1⟩,⟨5,4,0,0,2⟩,⟨5,1,4,0,2⟩,⟨4,3,0,2,1⟩,⟨4,2,3,2,1⟩]⟩,
  ⟨[(0,0),(2,0),(2,1),(0,2),(1,mkRat 1 2),(0,1)],[⟨4,1,2,0,1⟩,⟨4,0,1,0,1⟩,⟨5,4,3,2,2⟩,⟨5,0,4,2,2⟩,⟨4,2,3,2,1⟩]⟩,
  ⟨[(0,0),(2,0),(2,1),(0,2),(1,mkRat 1 2),(1,mkRat 3 2)],[⟨4,1,2,0,1⟩,⟨4,0,1,0,1⟩,⟨4,3,0,2,1⟩,⟨5,4,2,2,2⟩,⟨5,3,4,2,2⟩]⟩,
  ⟨[(0,0),(1,0),(2,0),(2,1),(1,1),(1,2),(0,2),(0,1),(mkRat 1 2,mkRat 1 2),(1,mkRat 1 2),(mkRat 3 2,mkRat 1 2)],[⟨9,8,1,0,2⟩,⟨9,4,8,0,2⟩,⟨8,0,1,0,1⟩,⟨8,7,0,0,1⟩,⟨8,4,7,0,1⟩,⟨10,3,4,0,1⟩,⟨10,2,3,0,1⟩,⟨10,1,2,1,1⟩,⟨9,10,4,1,2⟩,⟨9,1,10,1,2⟩,⟨7,4,6,0,0⟩,⟨5,6,4,2,0⟩]⟩,
  ⟨[(0,0),(1,0),(2,0),(2,1),(1,1),(1,2),(0,2),(0,1),(mkRat 1 2,mkRat 1 2),(mkRat 1 2,0)],[⟨8,1,4,0,1⟩,⟨9,8,0,0,2⟩,⟨9,1,8,0,2⟩,⟨8,7,0,0,1⟩,⟨8,4,7,0,1⟩,⟨3,4,2,0,0⟩,⟨1,2,4,1,0⟩,⟨7,4,6,0,0⟩,⟨5,6,4,2,0⟩]⟩,
  ⟨[(0,0),(1,0),(2,0),(2,1),(1,1),(1,2),(0,2),(0,1),(mkRat 1 2,mkRat 1 2),(0,mkRat 1 2)],[⟨8,1,4,0,1⟩,⟨8,0,1,0,1⟩,⟨9,8,7,0,2⟩,⟨9,0,8,0,2⟩,⟨8,4,7,0,1⟩,⟨3,4,2,0,0⟩,⟨1,2,4,1,0⟩,⟨7,4,6,0,0⟩,⟨5,6,4,2,0⟩]⟩,
  ⟨[(0,0),(1,0),(2,0),(2,1),(1,1),(1,2),(0,2),(0,1),(mkRat 1 2,mkRat 1 2),(mkRat 1 2,mkRat 3 2),(mkRat 1 2,1)],[⟨8,1,4,0,1⟩,⟨8,0,1,0,1⟩,⟨8,7,0,0,1⟩,⟨10,8,4,0,2⟩,⟨10,7,8,0,2⟩,⟨3,4,2,0,0⟩,⟨1,2,4,1,0⟩,⟨10,9,7,0,2⟩,⟨10,4,9,0,2⟩,⟨9,6,7,0,1⟩,⟨9,5,6,2,1⟩,⟨9,4,5,2,1⟩]⟩,
  ⟨[(0,0),(1,0),(2,0),(2,1),(1,1),(1,2),(0,2),(0,1),(mkRat 1 2,mkRat 1 2),(mkRat 3 2,mkRat 1 2)],[⟨8,1,4,0,1⟩,⟨8,0,1,0,1⟩,⟨8,7,0,0,1⟩,⟨8,4,7,0,1⟩,⟨9,3,4,0,1⟩,⟨9,2,3,0,1⟩,⟨9,1,2,1,1⟩,⟨9,4,1,1,1⟩,⟨7,4,6,0,0⟩,⟨5,6,4,2,0⟩]⟩,
  ⟨[(0,0),(1,0),(2,0),(2,1),(1,1),(1,2),(0,2),(0,1),(mkRat 1 2,mkRat 1 2),(mkRat 1 2,mkRat 3 2)],[⟨8,1,4,0,1⟩,⟨8,0,1,0,1⟩,⟨8,7,0,0,1⟩,⟨8,4,7,0,1⟩,⟨3,4,2,0,0⟩,⟨1,2,4,1,0⟩,⟨9,7,4,0,1⟩,⟨9,6,7,0,1⟩,⟨9,5,6,2,1⟩,⟨9,4,5,2,1⟩]⟩,
  ⟨[(0,0),(1,0),(2,0),(2,1),(1,1),(1,2),(0,2),(0,1),(mkRat 3 2,mkRat 1 2),(mkRat 1 2,mkRat 1 2)],[⟨9,1,4,0,1⟩,⟨9,0,1,0,1⟩,⟨9,7,0,0,1⟩,⟨9,4,7,0,1⟩,⟨8,3,4,0,1⟩,⟨8,2,3,0,1⟩,⟨8,1,2,1,1⟩,⟨8,4,1,1,1⟩,⟨7,4,6,0,0⟩,⟨5,6,4,2,0⟩]⟩,
  ⟨[(0,0),(1,0),(2,0),(2,1),(1,1),(1,2),(0,2),(0,1),(mkRat 3 2,mkRat 1 2),(mkRat 3 2,1)],[⟨1,4,0,0,0⟩,⟨7,0,4,0,0⟩,⟨9,8,3,0,2⟩,⟨9,4,8,0,2⟩,⟨8,2,3,0,1⟩,⟨8,1,2,1,1⟩,⟨8,4,1,1,1⟩,⟨7,4,6,0,0⟩,⟨5,6,4,2,0⟩]⟩,
  ⟨[(0,0),(1,0),(2,0),(2,1),(1,1),(1,2),(0,2),(0,1),(mkRat 3 2,mkRat 1 2),(2,mkRat 1 2)],[⟨1,4,0,0,0⟩,⟨7,0,4,0,0⟩,⟨8,3,4,0,1⟩,⟨9,8,2,0,2⟩,⟨9,3,8,0,2⟩,⟨8,1,2,1,1⟩,⟨8,4,1,1,1⟩,⟨7,4,6,0,0⟩,⟨5,6,4,2,0⟩]⟩,
  ⟨[(0,0),(1,0),(2,0),(2,1),(1,1),(1,2),(0,2),(0,1),(mkRat 3 2,mkRat 1 2),(mkRat 3 2,0)],[⟨1,4,0,0,0⟩,⟨7,0,4,0,0⟩,⟨8,3,4,0,1⟩,⟨8,2,3,0,1⟩,⟨9,8,1,1,2⟩,⟨9,2,8,1,2⟩,⟨8,4,1,1,1⟩,⟨7,4,6,0,0⟩,⟨5,6,4,2,0⟩]⟩,
  ⟨[(0,0),(1,0),(2,0),(2,1),(1,1),(1,2),(0,2),(0,1),(mkRat 3 2,mkRat 1 2),(mkRat 1 2,mkRat 1 2),(1,mkRat 1 2)],[⟨10,9,1,0,2⟩,⟨10,4,9,0,2⟩,⟨9,0,1,0,1⟩,⟨9,7,0,0,1⟩,⟨9,4,7,0,1⟩,⟨8,3,4,0,1⟩,⟨8,2,3,0,1⟩,⟨8,1,2,1,1⟩,⟨10,8,4,1,2⟩,⟨10,1,8,1,2⟩,⟨7,4,6,0,0⟩,⟨5,6,4,2,0⟩]⟩,
  ⟨[(0,0),(1,0),(2,0),(2,1),(1,1),(1,2),(0,2),(0,1),(mkRat 3 2,mkRat 1 2),(mkRat 1 2,mkRat 3 2)],[⟨1,4,0,0,0⟩,⟨7,0,4,0,0⟩,⟨8,3,4,0,1⟩,⟨8,2,3,0,1⟩,⟨8,1,2,1,1⟩,⟨8,4,1,1,1⟩,⟨9,7,4,0,1⟩,⟨9,6,7,0,1⟩,⟨9,5,6,2,1⟩,⟨9,4,5,2,1⟩]⟩,
  ⟨[(0,0),(1,0),(2,0),(2,1),(1,1),(1,2),(0,2),(0,1),(mkRat 1 2,mkRat 3 2),(mkRat 1 2,mkRat 1 2)],[⟨9,1,4,0,1⟩,⟨9,0,1,0,1⟩,⟨9,7,0,0,1⟩,⟨9,4,7,0,1⟩,⟨3,4,2,0,0⟩,⟨1,2,4,1,0⟩,⟨8,7,4,0,1⟩,⟨8,6,7,0,1⟩,⟨8,5,6,2,1⟩,⟨8,4,5,2,1⟩]⟩,
  ⟨[(0,0),(1,0),(2,0),(2,1),(1,1),(1,2),(0,2),(0,1),(mkRat 1 2,mkRat 3 2),(mkRat 3 2,mkRat 1 2)],[⟨1,4,0,0,0⟩,⟨7,0,4,0,0⟩,⟨9,3,4,0,1⟩,⟨9,2,3,0,1⟩,⟨9,1,2,1,1⟩,⟨9,4,1,1,1⟩,⟨8,7,4,0,1⟩,⟨8,6,7,0,1⟩,⟨8,5,6,2,1⟩,⟨8,4,5,2,1⟩]⟩,
  ⟨[(0,0),(1,0),(2,0),(2,1),(1,1),(1,2),(0,2),(0,1),(mkRat 1 2,mkRat 3 2),(mkRat 1 2,mkRat 1 2),(mkRat 1 2,1)],[⟨9,1,4,0,1⟩,⟨9,0,1,0,1⟩,⟨9,7,0,0,1⟩,⟨10,9,4,0,2⟩,⟨10,7,9,0,2⟩,⟨3,4,2,0,0⟩,⟨1,2,4,1,0⟩,⟨10,8,7,0,2⟩,⟨10,4,8,0,2⟩,⟨8,6,7,0,1⟩,⟨8,5,6,2,1⟩,⟨8,4,5,2,1⟩]⟩,
  ⟨[(0,0),(1,0),(2,0),(2,1),(1,1),(1,2),(0,2),(0,1),(mkRat 1 2,mkRat 3 2),(0,mkRat 3 2)],[⟨1,4,0,0,0⟩,⟨7,0,4,0,0⟩,⟨3,4,2,0,0⟩,⟨1,2,4,1,0⟩,⟨8,7,4,0,1⟩,⟨9,8,6,0,2⟩,⟨9,7,8,0,2⟩,⟨8,5,6,2,1⟩,⟨8,4,5,2,1⟩]⟩,
  ⟨[(0,0),(1,0),(2,0),(2,1),(1,1),(1,2),(0,2),(0,1),(mkRat 1 2,mkRat 3 2),(mkRat 1 2,2)],[⟨1,4,0,0,0⟩,⟨7,0,4,0,0⟩,⟨3,4,2,0,0⟩,⟨1,2,4,1,0⟩,⟨8,7,4,0,1⟩,⟨8,6,7,0,1⟩,⟨9,8,5,2,2⟩,⟨9,6,8,2,2⟩,⟨8,4,5,2,1⟩]⟩,
  ⟨[(0,0),(1,0),(2,0),(2,1),(1,1),(1,2),(0,2),(0,1),(mkRat 1 2,mkRat 3 2),(1,mkRat 3 2)],[⟨1,4,0,0,0⟩,⟨7,0,4,0,0⟩,⟨3,4,2,0,0⟩,⟨1,2,4,1,0⟩,⟨8,7,4,0,1⟩,⟨8,6,7,0,1⟩,⟨8,5,6,2,1⟩,⟨9,8,4,2,2⟩,⟨9,5,8,2,2⟩]⟩]
def qt (a:Nat):MeQ:=pix qeO a
def qeT:List Nat:=[0,1,2,3,4,5,0,0,0,0,1,1,1,1,2,3,4,5,5,5,0,0,0,0,0,0,0,0,0,0,0,0,0,0,0,0,0,0,0,0,1,1,1,1,1,1,1,1,1,1,1,1,1,1,1,1,1,1,1,1,2,2,2,2,3,3,3,3,4,4,4,4,5,5,5,5,5,5,5,5,5,5,5,5,5,5,5,5,5,5]
def qeM:List (List Nat) :=
 [[6,7,8,9],
  [10,11,12,13],
  [14,14],
  [15,15],
  [16,16],
  [17,17,18,18,19,19],
  [20,21,22,23,24],
  [25,26,27,28,29],
  [30,31,32,33,34],
  [35,36,37,38,39],
  [40,41,42,43,44],
  [45,46,47,48,49],
  [50,51,52,53,54],
  [55,56,57,58,59],
  [60,61,62,63],
  [64,65,66,67],
  [68,69,70,71],
  [72,73,74,75,76,76,77,77],
  [78,78,79,80,81,82,83,83],
  [84,84,85,85,86,87,88,89]]
def stI (a k:Nat):Nat:=pix (pix qeM a) k
def oI (a:Nat):Nat:=pix qeT a
def stC (a:Nat):Bool:=(List.range (qt a).tris.length).all λk=>decide (stM (qt a) k=qt (stI a k))&&(decide (oI (stI a k)=oI a)&&decide (stI a k<if a<6 then 20 else 90))
theorem qeu:(List.range 6).map qt=csL:=by decide +kernel
theorem qdj:(List.range 6).all (λa=>decide (oI a=a))=true:=by decide +kernel
theorem qea:(List.range 20).all stC=true:=by decide +kernel
theorem qd3:(List.range 20).all (λa=>qee (qt a))=true:=by decide +kernel
theorem qbU:((List.range 15).map (·+0)).all (λa=>okF (qt a))=true:=by decide +kernel
theorem qbZ:((List.range 15).map (·+15)).all (λa=>okF (qt a))=true:=by decide +kernel
theorem qbS:((List.range 15).map (·+30)).all (λa=>okF (qt a))=true:=by decide +kernel
theorem qcd:((List.range 15).map (·+45)).all (λa=>okF (qt a))=true:=by decide +kernel
theorem qbB:((List.range 15).map (·+60)).all (λa=>okF (qt a))=true:=by decide +kernel
theorem qcb:((List.range 15).map (·+75)).all (λa=>okF (qt a))=true:=by decide +kernel
theorem vB.of {m:MeQ}(hf:KY m) (h:qee m=true):vB m:=by
 unfold qee at h
 simp only[Bool.and_eq_true,decide_eq_true_eq]at h
 exact⟨SpM.of hf h.1,h.2.1,λk hk j hj=>XT (h.2.2 k hk j hj)⟩
theorem Ys {n:Nat}{f:Nat->Bool}(h:(List.range n).all f=true) {a:Nat}(ha:a<n):f a=true:=List.all_eq_true.1 h a (List.mem_range.2 ha)
theorem qbm {a:Nat}(ha:a<90):KY (qt a):=by
 have key:∀{s:Nat},((List.range 15).map (·+s)).all (λa=>okF (qt a))=true->s<=a->a<s+15->KY (qt a):=λ{s} h h1 h2=>
  qdx (List.all_eq_true.1 h a (List.mem_map.2 ⟨a-s,List.mem_range.2 (by omega),by show a-s+s=a;omega⟩))
 rcases(show (0<=a/\a<0+15)\/(15<=a/\a<15+15)\/(30<=a/\a<30+15)\/(45<=a/\a<45+15)\/(60<=a/\a<60+15)\/(75<=a/\a<75+15)by omega)with h|h|h|h|h|h
 ·exact key qbU h.1 h.2
 ·exact key qbZ h.1 h.2
 ·exact key qbS h.1 h.2
 ·exact key qcd h.1 h.2
 ·exact key qbB h.1 h.2
 ·exact key qcb h.1 h.2
theorem xd {m:MeQ}(h:m∈csL):∃a,a<6/\m=qt a/\oI a=a:=by
 rw[<-qeu]at h
 obtain⟨a,ha,rfl⟩:=List.mem_map.1 h
 exact⟨a,List.mem_range.1 ha,rfl,of_decide_eq_true (Ys qdj (List.mem_range.1 ha))⟩
theorem qbe {a k:Nat}(ha:a<20) (hk:k<(qt a).tris.length):stM (qt a) k=qt (stI a k)/\oI (stI a k)=oI a/\stI a k<if a<6 then 20 else 90:=by
 have h:=List.all_eq_true.1 (Ys qea ha) k (List.mem_range.2 hk)
 simp only[Bool.and_eq_true,decide_eq_true_eq]at h
 exact h
theorem MkM.at_ {a0:Nat}(h0:a0<6) (ho:oI a0=a0):∀{i:Nat}{m:MeQ},i<=2->MkM (qt a0) i m->∃a,m=qt a/\oI a=a0/\a<(if i=0 then 6 else if i=1 then 20 else 90)
 | 0,m,_,h=>⟨a0,h,ho,h0⟩
 | i+1,m,hi,⟨x,hx,k,hk,e⟩=>by
  obtain⟨a,rfl,h1,h2⟩:=MkM.at_ h0 ho (by omega) hx
  rcases(show i=0\/i=1 by omega)with rfl|rfl
  ·have h2:a<6:=h2
   obtain⟨e1,e2,e3⟩:=qbe (show a<20 by omega) hk
   rw[if_pos h2]at e3
   exact⟨stI a k,e.trans e1,e2.trans h1,e3⟩
  ·have h2:a<20:=h2
   obtain⟨e1,e2,e3⟩:=qbe h2 hk
   refine⟨stI a k,e.trans e1,e2.trans h1,?_⟩
   show stI a k<90
   by_cases h6:a<6
   ·rw[if_pos h6]at e3;omega
   ·rw[if_neg h6]at e3;exact e3
theorem qcx {m0:MeQ}(h:m0∈csL) {i:Nat}(hi:i<=1) {m:MeQ}(hm:MkM m0 i m):vB m:=by
 obtain⟨a0,h0,rfl,ho⟩:=xd h
 obtain⟨a,rfl,_,h2⟩:=MkM.at_ h0 ho (by omega) hm
 have h3:a < 20:=by
  rcases(show i=0\/i=1 by omega)with rfl|rfl
  ·have h2:a<6:=h2
   omega
  ·exact h2
 exact vB.of (qbm (by omega)) (Ys qd3 h3)
theorem qdc {f:Nat->Bool}:∀l:List Nat,(l.filter λi=>f i == true).length+(l.filter λi=>f i == false).length=l.length
 | []=>rfl
 | x::l=>by
  have h:=qdc (f:=f) l
  rw[List.filter_cons,List.filter_cons,List.length_cons]
  cases f x <;> simp <;> simp at h <;> omega
theorem qb5 (m:MeQ):(xR m).length+(V5 m).length=m.pts.length:=by
 unfold xR V5 jw
 rw[List.length_map,List.length_map,qdc,List.length_range]
def okE (m:MeQ):Bool:=decide ((m.pts.length:Int)-((edL m.tris).length:Int)+(m.tris.length:Int)=1)&&(okA m (qbd (aqK m) m.tris.length)&&decide (0<qbd (aqK m) m.tris.length/\Bd 1000000 (qbd (aqK m) m.tris.length)))
theorem qej:((List.range 15).map (·+0)).all (λa=>okE (qt a))=true:=by decide +kernel
theorem qeh:((List.range 15).map (·+15)).all (λa=>okE (qt a))=true:=by decide +kernel
theorem qes:((List.range 15).map (·+30)).all (λa=>okE (qt a))=true:=by decide +kernel
theorem qd2:((List.range 15).map (·+45)).all (λa=>okE (qt a))=true:=by decide +kernel
theorem qex:((List.range 15).map (·+60)).all (λa=>okE (qt a))=true:=by decide +kernel
theorem qd7:((List.range 15).map (·+75)).all (λa=>okE (qt a))=true:=by decide +kernel
theorem qeK {a:Nat}(ha:a<90):okE (qt a)=true:=by
 have key:∀{s:Nat},((List.range 15).map (·+s)).all (λa=>okE (qt a))=true->s<=a->a<s+15->okE (qt a)=true:=λ{s} h h1 h2=>
  List.all_eq_true.1 h a (List.mem_map.2 ⟨a-s,List.mem_range.2 (by omega),by show a-s+s=a;omega⟩)
 rcases(show (0<=a/\a<0+15)\/(15<=a/\a<15+15)\/(30<=a/\a<30+15)\/(45<=a/\a<45+15)\/(60<=a/\a<60+15)\/(75<=a/\a<75+15)by omega)with h|h|h|h|h|h
 ·exact key qej h.1 h.2
 ·exact key qeh h.1 h.2
 ·exact key qes h.1 h.2
 ·exact key qd2 h.1 h.2
 ·exact key qex h.1 h.2
 ·exact key qd7 h.1 h.2
structure qdT (m:MeQ):Prop where
 ok:za m
 eul:(m.pts.length:Int)-((edL m.tris).length:Int)+(m.tris.length:Int)=1
 pos:Zi (UX m)=1
theorem qdT.of {m:MeQ}(h:za m) (he:okE m=true):qdT m:=by
 unfold okE at he
 simp only[Bool.and_eq_true,decide_eq_true_eq]at he
 obtain⟨h1,h2,h3,h4⟩:=he
 refine⟨h,h1,?_⟩
 rw[Kw h2,ZH (h4.fit (by decide)),if_neg (by grind),if_pos h3]
theorem qez {m0:MeQ}(h:m0∈csL) {i:Nat}(hi:i<=2) {m:MeQ}(hm:MkM m0 i m):qdT m:=by
 obtain⟨a0,h0,rfl,ho⟩:=xd h
 obtain⟨a,rfl,_,h2⟩:=MkM.at_ h0 ho hi hm
 have ha:a < 90:=by
  rcases(show i=0\/i=1\/i=2 by omega)with rfl|rfl|rfl
  ·have h2:a<6:=h2
   omega
  ·have h2:a<20:=h2
   omega
  ·exact h2
 exact qdT.of (qbm ha).ok (qeK ha)
theorem uC (l:List Int):coM l∈csL:=by
 have h2:∀s,0<=(beF l s 2).1/\(beF l s 2).1<2:=λs=>⟨Int.emod_nonneg _ (by decide),Int.emod_lt_of_pos _ (by decide)⟩
 have h3:∀s,0<=(beF l s 3).1/\(beF l s 3).1<3:=λs=>⟨Int.emod_nonneg _ (by decide),Int.emod_lt_of_pos _ (by decide)⟩
 unfold coM coF
 split
 ·exact KP (h2 _).1 (h2 _).2
 ·split
  ·exact KN (h3 _).1 (h3 _).2
  ·exact Ki
theorem ZU (w:World) {v:Value}{mq:MeQ}(h:vO w v mq) (hok:za mq) :
  Calls Tryz.prog 31 #[v] w (XF w (xR mq)):=by
 obtain⟨gp,n,cp,gt,m,ct,rfl,hp,ht⟩:=h
 replace hok:=Lib.hid hok
 go_enter Tryz.func31,Tryz.ntmps31
 go_wp2_with fail
 refine qd (λW=>Bl w W/\Blk W w.heap.size 49 #[.slice (some ⟨gp,0,none⟩) n cp,.slice (some ⟨gt,0,none⟩) m ct]) ⟨slc,bts⟩ ?_
 rintro W ⟨hbW,hM⟩
 refine(jz _ (qR.bl hp hbW) (zx.bl ht hbW) hok.out).mono ?_
 rintro e w1 ⟨rfl,hb1⟩
 have hM:=hM.bl hb1
 have hbW:=hbW.next hb1
 clear hb1
 obtain⟨r0,r1⟩:=bx2 hM
 have hn:=Lib.hid (show mq.pts.length=n by rw[<-hp.len,List.length_map])
 have hn40:n<=1048576:=by have:=hok.out.n40;rw[hn.out]at this;omega
 have hm48:m<=10000:=by have:=hok.out.t48;rw[ht.len]at this;omega
 go_wp2_with fail
 refine(Qu _ true (zx.bl ht hbW) hm48 hn40 (by have:=hok.out.ixs;rw[hn.out]at this;exact this)).mono ?_
 rintro e w2 ⟨A,k,c,rfl,hR,hb2⟩
 rw[show jw (edL mq.tris) true n=xR mq by unfold xR;rw[hn.out]]at hR
 go_wp2_with fail
 go_ret
 exact⟨A,k,c,rfl,hR,hbW.next hb2⟩
theorem YB (w:World) {v:Value}{mq:MeQ}(h:vO w v mq) (hok:za mq) (hE:Env w) :
  Calls Tryz.prog 34 #[v] w λe w'=>∃s:List UInt8,e=.returned (.string (sb s))/\s≠[]/\Bl w w':=by
 obtain⟨gp,n,cp,gt,m,ct,rfl,hp,ht⟩:=h
 replace hok:=Lib.hid hok
 replace hE:=Lib.hid hE
 go_enter Tryz.func34,Tryz.ntmps34
 go_wp2_with fail
 refine qd (λW=>Bl w W/\∃g,Blk W g 49 #[.slice (some ⟨gp,0,none⟩) n cp,.slice (some ⟨gt,0,none⟩) m ct]/\g=w.heap.size) ⟨slc,_,by exact bts,rfl⟩ ?_
 rintro W ⟨hbw,g,hM,hge⟩
 rw[<-hge]
 clear hge
 refine(jz _ (qR.bl hp hbw) (zx.bl ht hbw) hok.out).mono ?_
 rintro e w1 ⟨rfl,hb1⟩
 have hM:=hM.bl hb1
 have hbw:=hbw.next hb1
 clear hb1
 obtain⟨r0,r1⟩:=bx2 hM
 have hn:=Lib.hid (show mq.pts.length=n by rw[<-hp.len,List.length_map])
 have hn40:n<=1048576:=by have:=hok.out.n40;rw[hn.out]at this;omega
 have hm48:m<=10000:=by have:=hok.out.t48;rw[ht.len]at this;omega
 have hix:=Lib.hid (show Y7 n mq.tris by have:=hok.out.ixs;rw[hn.out]at this;exact this)
 have h3:(jw (edL mq.tris) false n).length<=1048576:=by
  have:(jw (edL mq.tris) false n).length<=n:=by unfold jw;rw[List.length_map];exact Nat.le_trans (List.length_filter_le _ _) (by rw[List.length_range];exact Nat.le_refl _)
  omega
 have l1:=yx (N:=n) (by omega)
 have l2:=yx (N:=m) (by omega)
 have l3:=yx (N:=(jw (edL mq.tris) false n).length) (by omega)
 have a1:∀W,(Op.stringOp .add ⟨#[112,111,105,110,116,115,32]⟩ (sb (dD n))).run Tryz.prog W=.ok (.string (sb ([112,111,105,110,116,115,32]++dD n))) W:=λW=>jf (P:=Tryz.prog) W [112,111,105,110,116,115,32] (dD n) (by simp) (by omega)
 obtain⟨x1,e1⟩:∃x1,[112,111,105,110,116,115,32]++dD n=x1:=⟨_,rfl⟩
 have q1:x1.length<=100:=by rw[<-e1,List.length_append];simp;omega
 rw[e1]at a1
 have a2:∀W,(Op.stringOp .add (sb x1) ⟨#[32,116,114,105,97,110,103,108,101,115,32]⟩).run Tryz.prog W=.ok (.string (sb (x1++[32,116,114,105,97,110,103,108,101,115,32]))) W:=λW=>jf (P:=Tryz.prog) W x1 [32,116,114,105,97,110,103,108,101,115,32] (by omega) (by simp)
 obtain⟨x2,e2⟩:∃x2,x1++[32,116,114,105,97,110,103,108,101,115,32]=x2:=⟨_,rfl⟩
 have q2:x2.length<=200:=by rw[<-e2,List.length_append];simp;omega
 rw[e2]at a2
 have a3:∀W,(Op.stringOp .add (sb x2) (sb (dD m))).run Tryz.prog W=.ok (.string (sb (x2++dD m))) W:=λW=>jf (P:=Tryz.prog) W x2 (dD m) (by omega) (by omega)
 obtain⟨x3,e3⟩:∃x3,x2++dD m=x3:=⟨_,rfl⟩
 have q3:x3.length<=300:=by rw[<-e3,List.length_append];omega
 rw[e3]at a3
 have a4:∀W,(Op.stringOp .add (sb x3) ⟨#[32,105,110,116,101,114,105,111,114,32]⟩).run Tryz.prog W=.ok (.string (sb (x3++[32,105,110,116,101,114,105,111,114,32]))) W:=λW=>jf (P:=Tryz.prog) W x3 [32,105,110,116,101,114,105,111,114,32] (by omega) (by simp)
 obtain⟨x4,e4⟩:∃x4,x3++[32,105,110,116,101,114,105,111,114,32]=x4:=⟨_,rfl⟩
 have q4:x4.length<=400:=by rw[<-e4,List.length_append];simp;omega
 rw[e4]at a4
 have a5:∀W,(Op.stringOp .add (sb x4) (sb (dD (jw (edL mq.tris) false n).length))).run Tryz.prog W=.ok (.string (sb (x4++dD (jw (edL mq.tris) false n).length))) W:=λW=>jf (P:=Tryz.prog) W x4 (dD _) (by omega) (by omega)
 have hx5:Hid (x4++dD (jw (edL mq.tris) false n).length≠[]):=Lib.hid (by simp[kL])
 clear e1 e2 e3 e4 q1 q2 q3 q4 l1 l2 l3
 go_wp2_with fail
 go_region_held3 (λw'=>(w'.cell? ⟨g,0,none⟩=some (.slice (some ⟨gp,0,none⟩) n cp)/\w'.cell? ⟨g,1,none⟩=some (.slice (some ⟨gt,0,none⟩) m ct))) (first|exact(bx2 (T:=49) bts)) (first |(go_at_call 77;with_reducible refine(zu _ n (by omega) (hE.out.bl (hbw.next (show Bl w1 _ from slc)))).mono ?_;rintro en v1 ⟨rfl,hv1⟩) |(go_at_call 77;with_reducible refine(zu _ m (by omega) (hE.out.bl (hbw.next (show Bl w1 _ from slc)))).mono ?_;rintro en v2 ⟨rfl,hv2⟩) |(go_at_call 73;refine(Qu _ false (zx.bl ht (hbw.next (show Bl w1 _ from slc))) hm48 hn40 hix.out).mono ?_;rintro en v3 ⟨A3,k3,c3,rfl,hR3,hv3⟩;obtain rfl:=hR3.len) |(go_at_call 77;with_reducible refine(zu _ (jw (edL mq.tris) false n).length (by omega) (hE.out.bl (hbw.next (show Bl w1 _ from slc)))).mono ?_;rintro en v4 ⟨rfl,hv4⟩))
 all_goals (go_wp2_with fail)
 all_goals go_ret
 all_goals exact⟨_,rfl,hx5.out,hbw.next (show Bl w1 _ from slc)⟩
theorem Xw {x:MeD}:XX x x=true:=by simp[XX,U8]
theorem xg (w0:World) {Ac:Option Addr}{nc cc:Nat}{lc:List Int}(hc:RdB w0 Ac nc cc lc) (hE:Env w0) :
  Calls Tryz.prog 5 #[.slice Ac nc cc] w0 λe w'=>e=.returned (.bool true)/\Bl w0 w':=by
 have hn:=hc.small
 replace hE:=Lib.hid hE
 by_cases hbig:(nc:Int)>1048576
 ·go_enter Tryz.func5,Tryz.ntmps5
  go_wp2_with fail
  go_ret
  exact⟨rfl,slc⟩
 ·have hsmall:¬1048576<(nc:Int):=hbig
  go_enter Tryz.func5,Tryz.ntmps5
  go_wp2_with fail
  refine(UJ _ hc (λi hi m hm=>qcx (uC lc) hi hm)).mono ?_
  rintro e w1 ⟨_,i1,mq,rfl,hi1,hm1,hO1,hb1⟩
  have hF:=Lib.hid (qez (uC lc) hi1 hm1)
  obtain⟨gp1,n1,cp1,gt1,m1,ct1,rfl,hP1,hT1⟩:=hO1.1
  clear hO1 hm1 hi1
  go_upto_region 4 with (fail)
  refine qe (λW=>Bl w1 W/\∃g3,Blk W g3 49 #[.slice (some ⟨gp1,0,none⟩) n1 cp1,.slice (some ⟨gt1,0,none⟩) m1 ct1]/\g3=w1.heap.size) ⟨slc,_,by exact bts,rfl⟩ ?_
  rintro W1 ⟨hbW,g3,hg3,hge⟩
  rw[<-hge]
  have hP1:=qR.bl hP1 hbW
  have hT1:=zx.bl hT1 hbW
  have hM1:vO W1 (.agg #[.slice (some ⟨gp1,0,none⟩) n1 cp1,.slice (some ⟨gt1,0,none⟩) m1 ct1]) mq:=⟨gp1,n1,cp1,gt1,m1,ct1,rfl,hP1,hT1⟩
  have hn1:=Lib.hid (show mq.pts.length=n1 by rw[<-hP1.len,List.length_map])
  have hm1:=Lib.hid (show mq.tris.length=m1 from hT1.len)
  have hbw:=hb1.next hbW
  clear hge hbW hb1
  obtain⟨r0,r1⟩:=bx2 hg3
  go_upto_region 5 with (first
   | (go_at_call 27;refine(Q6 _ hM1 hF.out.ok (hE.out.bl hbw)).mono ?_;rintro e w2 ⟨rfl,hb2⟩)
   | (go_at_call 26;refine(Ve w2 hF.out.ok (hE.out.bl (hbw.next hb2))).mono ?_;rintro e w3 ⟨gp2,n2,cp2,gt2,m2,ct2,rfl,hP2,hT2,hb3⟩))
  refine qe (λW=>Bl w3 W/\∃g4,Blk W g4 49 #[.slice (some ⟨gp2,0,none⟩) n2 cp2,.slice (some ⟨gt2,0,none⟩) m2 ct2]/\g4=w3.heap.size) ⟨slc,_,by exact bts,rfl⟩ ?_
  rintro W3 ⟨hbW,g4,hg4,hge⟩
  rw[<-hge]
  have hP2:=qR.bl hP2 hbW
  have hT2:=zx.bl hT2 hbW
  have hb13:=(hb2.next hb3).next hbW
  have hg3:=hg3.bl hb13
  have hM1:=hM1.bl hb13
  have hP1:=qR.bl hP1 hb13
  have hT1:=zx.bl hT1 hb13
  have hbw:=hbw.next hb13
  clear hge hbW hb2 hb3 hb13 r0 r1
  obtain⟨r0,r1⟩:=bx2 hg3
  go_upto_region 6 with (go_at_call 28;refine(Xp _ hM1 hF.out.ok).mono ?_;rintro e w7 ⟨ge,ne,ce,rfl,hE7,hb7⟩)
  have hne:=Lib.hid hE7.len
  have hg3:=hg3.bl hb7
  have hg4:=hg4.bl hb7
  have hM1:=Lib.hid (hM1.bl hb7)
  have hP1:=Lib.hid (qR.bl hP1 hb7)
  have hT1:=Lib.hid (zx.bl hT1 hb7)
  have hP2:=Lib.hid (qR.bl hP2 hb7)
  have hT2:=Lib.hid (zx.bl hT2 hb7)
  have hbw:=hbw.next hb7
  have heu:(n1:Int)-(ne:Int)+(m1:Int)=1:=by have:=hF.out.eul;rw[hn1.out,hm1.out,hne.out]at this;exact this
  have hn40:n1<=40:=by rw[<-hn1.out];exact hF.out.ok.n40
  have hm48:m1<=48:=by rw[<-hm1.out];exact hF.out.ok.t48
  have hsum:((xR mq).length:Int)+((V5 mq).length:Int)=(n1:Int):=by have:=qb5 mq;rw[hn1.out]at this;omega
  have hbd:(xR mq).length<=40:=by omega
  have hin:(V5 mq).length<=40:=by omega
  have hne87:ne<=87:=by omega
  have hwA:IntKind.i64.wrap ((n1:Int)-(ne:Int))=(n1:Int)-(ne:Int):=IntWalk.i64_in _ (by omega)
  have hwB:IntKind.i64.wrap ((n1:Int)-(ne:Int)+(m1:Int))=1:=by rw[heu];rfl
  have hwC:IntKind.i64.wrap (((xR mq).length:Int)+((V5 mq).length:Int))=(n1:Int):=by rw[hsum];exact IntWalk.i64_in _ (by omega)
  have hw1:IntKind.i64.wrap 1=1:=rfl
  have hwn:IntKind.i64.wrap (n1:Int)=(n1:Int):=IntWalk.i64_in _ (by omega)
  clear hE7 hb7 r0 r1
  go_wp2_with fail
  go_region_held3 (λw'=>(w'.cell? ⟨g3,0,none⟩=some (.slice (some ⟨gp1,0,none⟩) n1 cp1)/\w'.cell? ⟨g3,1,none⟩=some (.slice (some ⟨gt1,0,none⟩) m1 ct1))/\(w'.cell? ⟨g4,0,none⟩=some (.slice (some ⟨gp2,0,none⟩) n2 cp2)/\w'.cell? ⟨g4,1,none⟩=some (.slice (some ⟨gt2,0,none⟩) m2 ct2))) (first|exact⟨bx2 (T:=49) (hg3.bl (show Bl w7 _ from slc)),bx2 (T:=49) (hg4.bl (show Bl w7 _ from slc))⟩) (first |(go_at_call 29;refine(xV _ (x:=⟨mq.pts.map tp,mq.tris⟩) (y:=⟨mq.pts.map tp,mq.tris⟩) (qR.bl hP2.out (show Bl w7 _ from slc)) (zx.bl hT2.out (show Bl w7 _ from slc)) (qR.bl hP1.out (show Bl w7 _ from slc)) (zx.bl hT1.out (show Bl w7 _ from slc))).mono ?_;rw[Xw];rintro e u1 ⟨rfl,hu1⟩) |(go_at_call 30;refine(jz _ (qR.bl hP1.out (show Bl w7 _ from slc)) (zx.bl hT1.out (show Bl w7 _ from slc)) hF.out.ok).mono ?_;rintro e u2 ⟨rfl,hu2⟩) |(go_at_call 31;refine(ZU _ (hM1.out.bl (show Bl w7 _ from slc)) hF.out.ok).mono ?_;rintro e u3 ⟨A3,k3,c3,rfl,hR3,hu3⟩;obtain rfl:=hR3.len) |(go_at_call 32;refine(ZW _ (hM1.out.bl (show Bl w7 _ from slc)) hF.out.ok).mono ?_;rintro e u4 ⟨A4,k4,c4,rfl,hR4,hu4⟩;obtain rfl:=hR4.len) |(go_at_call 33;refine(xO _ (hM1.out.bl (show Bl w7 _ from slc)) hF.out.ok).mono ?_;rintro e u5 ⟨s5,A5,n5,c5,B5,m5,d5,rfl,hR5,hu5⟩) |(go_at_call 20;refine(XN _ hR5.rd).mono ?_;rw[hF.out.pos];rintro e u6 ⟨rfl,hu6⟩) |(go_at_call 34;refine(YB _ (hM1.out.bl (show Bl w7 _ from slc)) hF.out.ok (hE.out.bl (hbw.next (show Bl w7 _ from slc)))).mono ?_;rintro e u8 ⟨st,rfl,hst,hu8⟩;have hse:(sb st).toList.isEmpty=false:=(by rw[jD];cases st with|nil=>exact absurd rfl hst|cons _ _=>rfl)))
  have hb8:Bl w7 u8:=slc
  go_wp2_with fail
  go_ret
  exact⟨rfl,hbw.next hb8⟩
end Go.Proofs.YtjaapemopbbfaaaGreatDoor
