/- RF. -/
import Derived.Test.YtomkgfdigldhcaaGreatDoorLIP
import Derived.Test.YtomkgfdigldhcaaGreatDoorChecked
import Derived.SevenTiedAt
set_option maxRecDepth 100000
namespace Go.Proofs.YtomkgfdigldhcaaGreatDoor
open Go.KX
theorem pf1 : laidOutB Tryz.checked.prog = true := by kernel_rfl
theorem pf2 : mapsRowed Tryz.checked.prog = true := by kernel_rfl
theorem pf3 : (Tryz.checked.prog.stops == []) = true := by kernel_rfl
theorem pf4 : (Tryz.checked.prog.stopKnobs == []) = true := by kernel_rfl
theorem pf5 : Tryz.checked.prog.stopsHeard = true := by kernel_rfl
theorem pf6 : Tryz.checked.prog.mayEnter = true := by kernel_rfl
theorem pf7 : Tryz.checked.prog.mainIs = some (true, "fce65dc5fb92e96bbb5ed638c88e5c8fba7f0e027c7fa6aed975b28d3c35562e".toList) := by kernel_rfl
theorem pf8 : true = Tryz.checked.prog.looks [] := by kernel_rfl
end Go.Proofs.YtomkgfdigldhcaaGreatDoor
