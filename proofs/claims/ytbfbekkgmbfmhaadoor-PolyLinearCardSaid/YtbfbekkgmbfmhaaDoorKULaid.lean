import Derived.Test.YtbfbekkgmbfmhaaDoorRows
import Derived.Test.YtbfbekkgmbfmhaaDoorChecked
import Derived.WideWitness
import Derived.WalkKit
namespace Go.Proofs.YtbfbekkgmbfmhaaDoor.U
/-- The block's cells laid anew. -/
def relaid (l : List Nat) : Obj → Obj
  | .cells _ t frozen => .cells (l.map fun n => Value.int .u8 (Int.ofNat n)).toArray t frozen
  | o => o
/-- The settled world with both tables laid (blocks 1 and 2). -/
noncomputable def laidWorld (os : Os) : World :=
  { World.holding Tryd.prog os ⟨#[], #[], []⟩ with
    heap := Array.modify (Array.modify (World.holding Tryd.prog os ⟨#[], #[], []⟩).heap 1 (relaid Go.Pinned.utf8FirstZ)) 2 (relaid [128, 191, 160, 191, 128, 159, 144, 191, 128, 143, 0, 0, 0, 0, 0, 0, 0, 0, 0, 0, 0, 0, 0, 0, 0, 0, 0, 0, 0, 0, 0, 0]) }
end Go.Proofs.YtbfbekkgmbfmhaaDoor.U
