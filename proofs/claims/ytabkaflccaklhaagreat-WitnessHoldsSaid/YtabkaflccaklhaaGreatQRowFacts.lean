/- The closed facts of the program that every row asks for, each by itself. -/
import Derived.Test.YtabkaflccaklhaaGreatRows
import Derived.Test.YtabkaflccaklhaaGreatQBase1
set_option linter.unusedSimpArgs false
set_option linter.unusedVariables false
namespace Go.Proofs.YtabkaflccaklhaaGreat
open Go.ChangeShapes Go.WideShapes Go.ChangeAt Go.RowKit Go.Qk
theorem pOwn : ownKnob Tryz.prog.godebug = none := by kernel_rfl
theorem pLaid : laidOutB Tryz.prog = true := by kernel_rfl
theorem pMaps : mapsRowed Tryz.prog = true := by kernel_rfl
theorem pStops : (Tryz.prog.stops == []) = true := by kernel_rfl
theorem pKnobs : (Tryz.prog.stopKnobs == []) = true := by kernel_rfl
theorem pHeard : Tryz.prog.stopsHeard = true := by kernel_rfl
theorem pEnter : Tryz.prog.mayEnter = true := by kernel_rfl
theorem pLifts : ((show OpenClaim from { program := "", sum := "", func := "", spec := "" }).lifted == Tryz.prog.liftsFinal) = true := by kernel_rfl
end Go.Proofs.YtabkaflccaklhaaGreat
