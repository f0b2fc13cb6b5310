import Derived.Test.YtnlbaflbhicooaaGc
namespace Go.Proofs.Ytnlbaflbhicooaa.GcFnExactCountUsed
open Go.ChangeShapes Go.WideShapes
set_option linter.unusedVariables false
theorem k0 : (Rows.fnExactCountUsedRow.wf (OpenSpec.ofChange Rows.fnExactCountUsedSpec)) = true := by kernel_rfl
theorem k3 : (Try.f12.params.all (Try.prog.readableRec ·)) = true := by kernel_rfl
theorem k4 : (namedTie Try.prog Rows.fnExactCountUsedRow.named Rows.fnExactCountUsedSpec.vars) = true := by kernel_rfl
theorem k5 : ((Rows.fnExactCountUsedRow.stops == [])) = true := by kernel_rfl
theorem k7 : ((Rows.fnExactCountUsedRow.knobs == [])) = true := by kernel_rfl
theorem k9 : ((Rows.fnExactCountUsedRow.inPlace == Try.prog.inPlace 12)) = true := by kernel_rfl
theorem k10 : ((Rows.fnExactCountUsedRow.unfollowed == Try.prog.unfollowed 12)) = true := by kernel_rfl
theorem k11 : ((Rows.fnExactCountUsedRow.recurses == Try.prog.recurses 12)) = true := by kernel_rfl
theorem k12 : ((Rows.fnExactCountUsedRow.named == Try.prog.varsNamed 12)) = true := by kernel_rfl
theorem k13 : ((Rows.fnExactCountUsedRow.maps == (Try.f12.params.toList ++ Rows.fnExactCountUsedSpec.plain.varTypes Try.prog).any (Try.prog.mapsRec ·))) = true := by kernel_rfl
theorem k14 : ((Rows.fnExactCountUsedRow.ifaces == (Try.f12.params.toList ++ Rows.fnExactCountUsedSpec.plain.varTypes Try.prog).any (Try.prog.ifacesRec ·))) = true := by kernel_rfl
theorem k15 : ((Rows.fnExactCountUsedRow.mapsOut == Try.prog.mapsAmong Try.f12.resultTypes.toList)) = true := by kernel_rfl
theorem k16 : ((Rows.fnExactCountUsedRow.loops == (Try.f12.params.toList ++ Rows.fnExactCountUsedSpec.plain.varTypes Try.prog).any (Try.prog.loopsFrom ·))) = true := by kernel_rfl
theorem k17 : ((Rows.fnExactCountUsedRow.wideKeys == (Try.f12.params.toList ++ Rows.fnExactCountUsedSpec.plain.varTypes Try.prog ++ Try.f12.resultTypes.toList).any (Try.prog.wideKeysFrom ·))) = true := by kernel_rfl
theorem k18 : (Rows.fnExactCountUsedSpec.vars.all (Try.prog.varReadable ·)) = true := by kernel_rfl
theorem k19 : (Try.f12.resultTypes.all (fun t => Try.prog.readableRec t && decide (t < Try.prog.types.size))) = true := by kernel_rfl
theorem k20 : ((Rows.fnExactCountUsedRow.ifacesOut == Try.f12.resultTypes.toList.any (Try.prog.ifacesRec ·))) = true := by kernel_rfl
theorem k21 : ((Rows.fnExactCountUsedRow.loopsOut == Try.f12.resultTypes.toList.any (Try.prog.loopsFrom ·))) = true := by kernel_rfl
theorem k22 : ((Rows.fnExactCountUsedRow.plainKeys == Try.prog.plainKeys)) = true := Gc.k22
theorem k23 : (Rows.fnExactCountUsedRow.shortTexts.isNone) = true := by kernel_rfl
theorem k26 : ((Rows.fnExactCountUsedRow.lifted == Try.prog.liftsFinal)) = true := Gc.k26
theorem k27 : ((Try.prog.make == some Rows.fnExactCountUsedRow.make)) = true := Gc.k27
theorem k28 : ((Rows.fnExactCountUsedRow.kinds == (if Rows.fnExactCountUsedRow.domain.isEmpty then [] else Try.f12.params.toList.map fun t => match Try.prog.underlying t with | some (.int k) => some k | _ => none))) = true := by kernel_rfl
theorem k29 : ((Rows.fnExactCountUsedRow.pinned == Rows.fnExactCountUsedRow.pinnedBy)) = true := by kernel_rfl
theorem k30 : ((Rows.fnExactCountUsedRow.veiled == (Try.f12.params.toList ++ Rows.fnExactCountUsedSpec.plain.varTypes Try.prog ++ Try.f12.resultTypes.toList).any (Try.prog.veiledRec ·))) = true := by kernel_rfl
theorem k31 : (Rows.fnExactCountUsedRow.veiledFits Try.prog Try.f12.params.toList (Try.f12.params.toList ++ Rows.fnExactCountUsedSpec.plain.varTypes Try.prog ++ Try.f12.resultTypes.toList)) = true := by kernel_rfl
set_option maxRecDepth 100000 in
theorem closed : joinedFacts Try.prog 12 Try.f12 Rows.fnExactCountUsedSpec Rows.fnExactCountUsedRow = true := by
  unfold joinedFacts
  exact (Gc.andT (Gc.andT (Gc.andT (Gc.andT (Gc.andT (Gc.andT (Gc.andT (Gc.andT (Gc.andT (Gc.andT (Gc.andT (Gc.andT (Gc.andT (Gc.andT (Gc.andT (Gc.andT (Gc.andT (Gc.andT (Gc.andT (Gc.andT (Gc.andT (Gc.andT (Gc.andT (Gc.andT (Gc.andT (Gc.andT (Gc.andT (Gc.andT (Gc.andT (Gc.andT (Gc.andT k0 Gc.k1) Gc.k2) k3) k4) k5) Gc.k6) k7) Gc.k8) k9) k10) k11) k12) k13) k14) k15) k16) k17) k18) k19) k20) k21) k22) k23) Gc.k24) Gc.k25) k26) k27) k28) k29) k30) k31)
end Go.Proofs.Ytnlbaflbhicooaa.GcFnExactCountUsed
