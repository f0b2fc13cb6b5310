import Derived.Test.YtnlbaflbhicooaaGc
namespace Go.Proofs.Ytnlbaflbhicooaa.GcFnExactBusiestTime
open Go.ChangeShapes Go.WideShapes
set_option linter.unusedVariables false
theorem k0 : (Rows.fnExactBusiestTimeRow.wf (OpenSpec.ofChange Rows.fnExactBusiestTimeSpec)) = true := by kernel_rfl
theorem k3 : (Try.f10.params.all (Try.prog.readableRec ·)) = true := by kernel_rfl
theorem k4 : (namedTie Try.prog Rows.fnExactBusiestTimeRow.named Rows.fnExactBusiestTimeSpec.vars) = true := by kernel_rfl
theorem k5 : ((Rows.fnExactBusiestTimeRow.stops == [])) = true := by kernel_rfl
theorem k7 : ((Rows.fnExactBusiestTimeRow.knobs == [])) = true := by kernel_rfl
theorem k9 : ((Rows.fnExactBusiestTimeRow.inPlace == Try.prog.inPlace 10)) = true := by kernel_rfl
theorem k10 : ((Rows.fnExactBusiestTimeRow.unfollowed == Try.prog.unfollowed 10)) = true := by kernel_rfl
theorem k11 : ((Rows.fnExactBusiestTimeRow.recurses == Try.prog.recurses 10)) = true := by kernel_rfl
theorem k12 : ((Rows.fnExactBusiestTimeRow.named == Try.prog.varsNamed 10)) = true := by kernel_rfl
theorem k13 : ((Rows.fnExactBusiestTimeRow.maps == (Try.f10.params.toList ++ Rows.fnExactBusiestTimeSpec.plain.varTypes Try.prog).any (Try.prog.mapsRec ·))) = true := by kernel_rfl
theorem k14 : ((Rows.fnExactBusiestTimeRow.ifaces == (Try.f10.params.toList ++ Rows.fnExactBusiestTimeSpec.plain.varTypes Try.prog).any (Try.prog.ifacesRec ·))) = true := by kernel_rfl
theorem k15 : ((Rows.fnExactBusiestTimeRow.mapsOut == Try.prog.mapsAmong Try.f10.resultTypes.toList)) = true := by kernel_rfl
theorem k16 : ((Rows.fnExactBusiestTimeRow.loops == (Try.f10.params.toList ++ Rows.fnExactBusiestTimeSpec.plain.varTypes Try.prog).any (Try.prog.loopsFrom ·))) = true := by kernel_rfl
theorem k17 : ((Rows.fnExactBusiestTimeRow.wideKeys == (Try.f10.params.toList ++ Rows.fnExactBusiestTimeSpec.plain.varTypes Try.prog ++ Try.f10.resultTypes.toList).any (Try.prog.wideKeysFrom ·))) = true := by kernel_rfl
theorem k18 : (Rows.fnExactBusiestTimeSpec.vars.all (Try.prog.varReadable ·)) = true := by kernel_rfl
theorem k19 : (Try.f10.resultTypes.all (fun t => Try.prog.readableRec t && decide (t < Try.prog.types.size))) = true := by kernel_rfl
theorem k20 : ((Rows.fnExactBusiestTimeRow.ifacesOut == Try.f10.resultTypes.toList.any (Try.prog.ifacesRec ·))) = true := by kernel_rfl
theorem k21 : ((Rows.fnExactBusiestTimeRow.loopsOut == Try.f10.resultTypes.toList.any (Try.prog.loopsFrom ·))) = true := by kernel_rfl
theorem k22 : ((Rows.fnExactBusiestTimeRow.plainKeys == Try.prog.plainKeys)) = true := Gc.k22
theorem k23 : (Rows.fnExactBusiestTimeRow.shortTexts.isNone) = true := by kernel_rfl
theorem k26 : ((Rows.fnExactBusiestTimeRow.lifted == Try.prog.liftsFinal)) = true := Gc.k26
theorem k27 : ((Try.prog.make == some Rows.fnExactBusiestTimeRow.make)) = true := Gc.k27
theorem k28 : ((Rows.fnExactBusiestTimeRow.kinds == (if Rows.fnExactBusiestTimeRow.domain.isEmpty then [] else Try.f10.params.toList.map fun t => match Try.prog.underlying t with | some (.int k) => some k | _ => none))) = true := by kernel_rfl
theorem k29 : ((Rows.fnExactBusiestTimeRow.pinned == Rows.fnExactBusiestTimeRow.pinnedBy)) = true := by kernel_rfl
theorem k30 : ((Rows.fnExactBusiestTimeRow.veiled == (Try.f10.params.toList ++ Rows.fnExactBusiestTimeSpec.plain.varTypes Try.prog ++ Try.f10.resultTypes.toList).any (Try.prog.veiledRec ·))) = true := by kernel_rfl
theorem k31 : (Rows.fnExactBusiestTimeRow.veiledFits Try.prog Try.f10.params.toList (Try.f10.params.toList ++ Rows.fnExactBusiestTimeSpec.plain.varTypes Try.prog ++ Try.f10.resultTypes.toList)) = true := by kernel_rfl
set_option maxRecDepth 100000 in
theorem closed : joinedFacts Try.prog 10 Try.f10 Rows.fnExactBusiestTimeSpec Rows.fnExactBusiestTimeRow = true := by
  unfold joinedFacts
  exact (Gc.andT (Gc.andT (Gc.andT (Gc.andT (Gc.andT (Gc.andT (Gc.andT (Gc.andT (Gc.andT (Gc.andT (Gc.andT (Gc.andT (Gc.andT (Gc.andT (Gc.andT (Gc.andT (Gc.andT (Gc.andT (Gc.andT (Gc.andT (Gc.andT (Gc.andT (Gc.andT (Gc.andT (Gc.andT (Gc.andT (Gc.andT (Gc.andT (Gc.andT (Gc.andT (Gc.andT k0 Gc.k1) Gc.k2) k3) k4) k5) Gc.k6) k7) Gc.k8) k9) k10) k11) k12) k13) k14) k15) k16) k17) k18) k19) k20) k21) k22) k23) Gc.k24) Gc.k25) k26) k27) k28) k29) k30) k31)
end Go.Proofs.Ytnlbaflbhicooaa.GcFnExactBusiestTime
