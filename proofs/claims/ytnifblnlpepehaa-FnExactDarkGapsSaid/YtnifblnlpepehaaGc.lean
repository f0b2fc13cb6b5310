import Derived.Test.YtnifblnlpepehaaRows
import Derived.JoinedOf
import Derived.KernelRfl
namespace Go.Proofs.Ytnifblnlpepehaa.Gc
open Go.ChangeShapes Go.WideShapes
set_option linter.unusedVariables false
theorem andT {a b : Bool} (h : a = true) (h' : b = true) : (a && b) = true := by rw [h, h']; rfl
theorem k1 : (laidOutB Try.prog) = true := by kernel_rfl
theorem k2 : (mapsRowed Try.prog) = true := by kernel_rfl
theorem k6 : ((Try.prog.stops == [])) = true := by kernel_rfl
theorem k8 : ((Try.prog.stopKnobs == [])) = true := by kernel_rfl
theorem k24 : (Try.prog.stopsHeard) = true := by kernel_rfl
theorem k25 : (Try.prog.mayEnter) = true := by kernel_rfl
theorem k22 : ((Rows.fnExactDarkGapsRow.plainKeys == Try.prog.plainKeys)) = true := by kernel_rfl
theorem k26 : ((Rows.fnExactDarkGapsRow.lifted == Try.prog.liftsFinal)) = true := by kernel_rfl
theorem k27 : ((Try.prog.make == some Rows.fnExactDarkGapsRow.make)) = true := by kernel_rfl
end Go.Proofs.Ytnifblnlpepehaa.Gc
