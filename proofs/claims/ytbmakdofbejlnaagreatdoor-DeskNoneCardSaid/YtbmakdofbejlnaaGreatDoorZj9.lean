/- A fact of the card, reckoned by the kernel. No condition. -/
import Derived.Test.YtbmakdofbejlnaaGreatDoorCards
import Derived.Test.YtbmakdofbejlnaaGreatDoorProg
import Derived.KernelRfl
import Derived.SevenTiedAt
namespace Go.Proofs.YtbmakdofbejlnaaGreatDoor.Cl
open Go
set_option maxHeartbeats 20000000
theorem Oh:true=Tryz.prog.looks []:=by kernel_rfl
end Go.Proofs.YtbmakdofbejlnaaGreatDoor.Cl
