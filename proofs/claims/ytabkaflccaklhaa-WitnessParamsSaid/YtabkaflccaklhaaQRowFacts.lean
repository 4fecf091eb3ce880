/- The closed facts of the program that every row asks for, each by itself. -/
import Derived.Test.YtabkaflccaklhaaRows
import Derived.Test.YtabkaflccaklhaaQBase1
set_option linter.unusedSimpArgs false
set_option linter.unusedVariables false
namespace Go.Proofs.Ytabkaflccaklhaa
open Go.ChangeShapes Go.WideShapes Go.ChangeAt Go.RowKit Go.Qk
theorem pOwn : ownKnob Try.prog.godebug = none := by kernel_rfl
theorem pLaid : laidOutB Try.prog = true := by kernel_rfl
theorem pMaps : mapsRowed Try.prog = true := by kernel_rfl
theorem pStops : (Try.prog.stops == []) = true := by kernel_rfl
theorem pKnobs : (Try.prog.stopKnobs == []) = true := by kernel_rfl
theorem pHeard : Try.prog.stopsHeard = true := by kernel_rfl
theorem pEnter : Try.prog.mayEnter = true := by kernel_rfl
theorem pLifts : ((show OpenClaim from { program := "", sum := "", func := "", spec := "" }).lifted == Try.prog.liftsFinal) = true := by kernel_rfl
end Go.Proofs.Ytabkaflccaklhaa
