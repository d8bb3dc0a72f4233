/- Proved: DeskNone answers true, whatever it is called with, and leaves all as it was, where the listed tables hold what the program's text lays: as a card. -/
import Derived.Test.YtbmakdofbejlnaaGreatDoorZj5
import Derived.Test.YtbmakdofbejlnaaGreatDoorZj6
import Derived.Test.YtbmakdofbejlnaaGreatDoorZj7
import Derived.Test.YtbmakdofbejlnaaGreatDoorZj8
import Derived.Test.YtbmakdofbejlnaaGreatDoorZj9
import Derived.Test.YtbmakdofbejlnaaGreatDoorZj10
set_option maxRecDepth 100000
set_option maxHeartbeats 16000000
set_option linter.unusedVariables false
set_option linter.unusedSectionVars false
set_option linter.unusedSimpArgs false
namespace Go.Proofs.YtbmakdofbejlnaaGreatDoor
variable (Fr : Nat → Prop) (w : World)
set_option maxRecDepth 100000
namespace Cl
open Go Vg Go.ChangeShapes Go.WideShapes Go.ChangeAt Go.RowKit Sched Conf Api LibC
set_option maxHeartbeats 20000000
theorem dnone_card:Rows.DeskNoneCardSaid:=
 Claim7.holds_tied_plain_at .later [] [.data,.data,.data,.data,.sentinel,.sentinel,.data,.pinned] true Rows.deskNoneCard.stood.harness true
  Ol (fun _ h=>by cases h) Oe (fun _ h=>by cases h) deskNone_row_tie rfl ⟨rfl,rfl⟩ Of rfl
  (fun f fn hf hfn=>by
   obtain rfl:f=3:=(jS (Og.symm.trans hf)).symm
   obtain rfl:fn=Tryz.f3:=(jS (Tryz.func3.symm.trans hfn)).symm
   exact⟨Oh,fun j t ht=>by
    rw[Tryz.params3] at ht
    have hm:t∈[24,9]:=by simpa using Array.mem_of_getElem? ht
    have hall:([24,9].all fun u=>!Tryz.prog.wantsStandIn u)=true:=by kernel_rfl
    exact(show Tryz.prog.wantsStandIn t=false by simpa using kU.1 hall t hm)⟩)
  Oi

end Cl
end Go.Proofs.YtbmakdofbejlnaaGreatDoor
#print axioms Go.Proofs.YtbmakdofbejlnaaGreatDoor.Cl.dnone_card
