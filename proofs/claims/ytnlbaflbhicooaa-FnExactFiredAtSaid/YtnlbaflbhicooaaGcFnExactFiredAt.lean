import Derived.Test.YtnlbaflbhicooaaGc
namespace Go.Proofs.Ytnlbaflbhicooaa.GcFnExactFiredAt
open Go.ChangeShapes Go.WideShapes
set_option linter.unusedVariables false
theorem k0 : (Rows.fnExactFiredAtRow.wf (OpenSpec.ofChange Rows.fnExactFiredAtSpec)) = true := by kernel_rfl
theorem k3 : (Try.f16.params.all (Try.prog.readableRec ·)) = true := by kernel_rfl
theorem k4 : (namedTie Try.prog Rows.fnExactFiredAtRow.named Rows.fnExactFiredAtSpec.vars) = true := by kernel_rfl
theorem k5 : ((Rows.fnExactFiredAtRow.stops == [])) = true := by kernel_rfl
theorem k7 : ((Rows.fnExactFiredAtRow.knobs == [])) = true := by kernel_rfl
theorem k9 : ((Rows.fnExactFiredAtRow.inPlace == Try.prog.inPlace 16)) = true := by kernel_rfl
theorem k10 : ((Rows.fnExactFiredAtRow.unfollowed == Try.prog.unfollowed 16)) = true := by kernel_rfl
theorem k11 : ((Rows.fnExactFiredAtRow.recurses == Try.prog.recurses 16)) = true := by kernel_rfl
theorem k12 : ((Rows.fnExactFiredAtRow.named == Try.prog.varsNamed 16)) = true := by kernel_rfl
theorem k13 : ((Rows.fnExactFiredAtRow.maps == (Try.f16.params.toList ++ Rows.fnExactFiredAtSpec.plain.varTypes Try.prog).any (Try.prog.mapsRec ·))) = true := by kernel_rfl
theorem k14 : ((Rows.fnExactFiredAtRow.ifaces == (Try.f16.params.toList ++ Rows.fnExactFiredAtSpec.plain.varTypes Try.prog).any (Try.prog.ifacesRec ·))) = true := by kernel_rfl
theorem k15 : ((Rows.fnExactFiredAtRow.mapsOut == Try.prog.mapsAmong Try.f16.resultTypes.toList)) = true := by kernel_rfl
theorem k16 : ((Rows.fnExactFiredAtRow.loops == (Try.f16.params.toList ++ Rows.fnExactFiredAtSpec.plain.varTypes Try.prog).any (Try.prog.loopsFrom ·))) = true := by kernel_rfl
theorem k17 : ((Rows.fnExactFiredAtRow.wideKeys == (Try.f16.params.toList ++ Rows.fnExactFiredAtSpec.plain.varTypes Try.prog ++ Try.f16.resultTypes.toList).any (Try.prog.wideKeysFrom ·))) = true := by kernel_rfl
theorem k18 : (Rows.fnExactFiredAtSpec.vars.all (Try.prog.varReadable ·)) = true := by kernel_rfl
theorem k19 : (Try.f16.resultTypes.all (fun t => Try.prog.readableRec t && decide (t < Try.prog.types.size))) = true := by kernel_rfl
theorem k20 : ((Rows.fnExactFiredAtRow.ifacesOut == Try.f16.resultTypes.toList.any (Try.prog.ifacesRec ·))) = true := by kernel_rfl
theorem k21 : ((Rows.fnExactFiredAtRow.loopsOut == Try.f16.resultTypes.toList.any (Try.prog.loopsFrom ·))) = true := by kernel_rfl
theorem k22 : ((Rows.fnExactFiredAtRow.plainKeys == Try.prog.plainKeys)) = true := Gc.k22
theorem k23 : (Rows.fnExactFiredAtRow.shortTexts.isNone) = true := by kernel_rfl
theorem k26 : ((Rows.fnExactFiredAtRow.lifted == Try.prog.liftsFinal)) = true := Gc.k26
theorem k27 : ((Try.prog.make == some Rows.fnExactFiredAtRow.make)) = true := Gc.k27
theorem k28 : ((Rows.fnExactFiredAtRow.kinds == (if Rows.fnExactFiredAtRow.domain.isEmpty then [] else Try.f16.params.toList.map fun t => match Try.prog.underlying t with | some (.int k) => some k | _ => none))) = true := by kernel_rfl
theorem k29 : ((Rows.fnExactFiredAtRow.pinned == Rows.fnExactFiredAtRow.pinnedBy)) = true := by kernel_rfl
theorem k30 : ((Rows.fnExactFiredAtRow.veiled == (Try.f16.params.toList ++ Rows.fnExactFiredAtSpec.plain.varTypes Try.prog ++ Try.f16.resultTypes.toList).any (Try.prog.veiledRec ·))) = true := by kernel_rfl
theorem k31 : (Rows.fnExactFiredAtRow.veiledFits Try.prog Try.f16.params.toList (Try.f16.params.toList ++ Rows.fnExactFiredAtSpec.plain.varTypes Try.prog ++ Try.f16.resultTypes.toList)) = true := by kernel_rfl
set_option maxRecDepth 100000 in
theorem closed : joinedFacts Try.prog 16 Try.f16 Rows.fnExactFiredAtSpec Rows.fnExactFiredAtRow = true := by
  unfold joinedFacts
  exact (Gc.andT (Gc.andT (Gc.andT (Gc.andT (Gc.andT (Gc.andT (Gc.andT (Gc.andT (Gc.andT (Gc.andT (Gc.andT (Gc.andT (Gc.andT (Gc.andT (Gc.andT (Gc.andT (Gc.andT (Gc.andT (Gc.andT (Gc.andT (Gc.andT (Gc.andT (Gc.andT (Gc.andT (Gc.andT (Gc.andT (Gc.andT (Gc.andT (Gc.andT (Gc.andT (Gc.andT k0 Gc.k1) Gc.k2) k3) k4) k5) Gc.k6) k7) Gc.k8) k9) k10) k11) k12) k13) k14) k15) k16) k17) k18) k19) k20) k21) k22) k23) Gc.k24) Gc.k25) k26) k27) k28) k29) k30) k31)
end Go.Proofs.Ytnlbaflbhicooaa.GcFnExactFiredAt
