/- TopTampers: for every input the call returns true; part HT of the proof. -/
import Derived.Test.YtadggjnohohedaaGreatDoorA9
namespace Go.Proofs.YtadggjnohohedaaGreatDoor
namespace EV
noncomputable section
open Go.RowKit
set_option maxRecDepth 100000
def topR (l m r:List Row) (a b n:Nat):Bool:=okR (runF (bi4 T8.reverse (T9 l m r) T11.reverse) 100 p4 [.w .u8 a b,.i .u8 (.ofNat n)] .e p1)
end
end EV
end Go.Proofs.YtadggjnohohedaaGreatDoor
