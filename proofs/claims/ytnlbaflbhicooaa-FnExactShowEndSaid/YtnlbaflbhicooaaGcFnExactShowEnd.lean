import Derived.Test.YtnlbaflbhicooaaGc
namespace Go.Proofs.Ytnlbaflbhicooaa.GcFnExactShowEnd
open Go.ChangeShapes Go.WideShapes
set_option linter.unusedVariables false
theorem k0 : (Rows.fnExactShowEndRow.wf (OpenSpec.ofChange Rows.fnExactShowEndSpec)) = true := by kernel_rfl
theorem k3 : (Try.f7.params.all (Try.prog.readableRec ·)) = true := by kernel_rfl
theorem k4 : (namedTie Try.prog Rows.fnExactShowEndRow.named Rows.fnExactShowEndSpec.vars) = true := by kernel_rfl
theorem k5 : ((Rows.fnExactShowEndRow.stops == [])) = true := by kernel_rfl
theorem k7 : ((Rows.fnExactShowEndRow.knobs == [])) = true := by kernel_rfl
theorem k9 : ((Rows.fnExactShowEndRow.inPlace == Try.prog.inPlace 7)) = true := by kernel_rfl
theorem k10 : ((Rows.fnExactShowEndRow.unfollowed == Try.prog.unfollowed 7)) = true := by kernel_rfl
theorem k11 : ((Rows.fnExactShowEndRow.recurses == Try.prog.recurses 7)) = true := by kernel_rfl
theorem k12 : ((Rows.fnExactShowEndRow.named == Try.prog.varsNamed 7)) = true := by kernel_rfl
theorem k13 : ((Rows.fnExactShowEndRow.maps == (Try.f7.params.toList ++ Rows.fnExactShowEndSpec.plain.varTypes Try.prog).any (Try.prog.mapsRec ·))) = true := by kernel_rfl
theorem k14 : ((Rows.fnExactShowEndRow.ifaces == (Try.f7.params.toList ++ Rows.fnExactShowEndSpec.plain.varTypes Try.prog).any (Try.prog.ifacesRec ·))) = true := by kernel_rfl
theorem k15 : ((Rows.fnExactShowEndRow.mapsOut == Try.prog.mapsAmong Try.f7.resultTypes.toList)) = true := by kernel_rfl
theorem k16 : ((Rows.fnExactShowEndRow.loops == (Try.f7.params.toList ++ Rows.fnExactShowEndSpec.plain.varTypes Try.prog).any (Try.prog.loopsFrom ·))) = true := by kernel_rfl
theorem k17 : ((Rows.fnExactShowEndRow.wideKeys == (Try.f7.params.toList ++ Rows.fnExactShowEndSpec.plain.varTypes Try.prog ++ Try.f7.resultTypes.toList).any (Try.prog.wideKeysFrom ·))) = true := by kernel_rfl
theorem k18 : (Rows.fnExactShowEndSpec.vars.all (Try.prog.varReadable ·)) = true := by kernel_rfl
theorem k19 : (Try.f7.resultTypes.all (fun t => Try.prog.readableRec t && decide (t < Try.prog.types.size))) = true := by kernel_rfl
theorem k20 : ((Rows.fnExactShowEndRow.ifacesOut == Try.f7.resultTypes.toList.any (Try.prog.ifacesRec ·))) = true := by kernel_rfl
theorem k21 : ((Rows.fnExactShowEndRow.loopsOut == Try.f7.resultTypes.toList.any (Try.prog.loopsFrom ·))) = true := by kernel_rfl
theorem k22 : ((Rows.fnExactShowEndRow.plainKeys == Try.prog.plainKeys)) = true := Gc.k22
theorem k23 : (Rows.fnExactShowEndRow.shortTexts.isNone) = true := by kernel_rfl
theorem k26 : ((Rows.fnExactShowEndRow.lifted == Try.prog.liftsFinal)) = true := Gc.k26
theorem k27 : ((Try.prog.make == some Rows.fnExactShowEndRow.make)) = true := Gc.k27
theorem k28 : ((Rows.fnExactShowEndRow.kinds == (if Rows.fnExactShowEndRow.domain.isEmpty then [] else Try.f7.params.toList.map fun t => match Try.prog.underlying t with | some (.int k) => some k | _ => none))) = true := by kernel_rfl
theorem k29 : ((Rows.fnExactShowEndRow.pinned == Rows.fnExactShowEndRow.pinnedBy)) = true := by kernel_rfl
theorem k30 : ((Rows.fnExactShowEndRow.veiled == (Try.f7.params.toList ++ Rows.fnExactShowEndSpec.plain.varTypes Try.prog ++ Try.f7.resultTypes.toList).any (Try.prog.veiledRec ·))) = true := by kernel_rfl
theorem k31 : (Rows.fnExactShowEndRow.veiledFits Try.prog Try.f7.params.toList (Try.f7.params.toList ++ Rows.fnExactShowEndSpec.plain.varTypes Try.prog ++ Try.f7.resultTypes.toList)) = true := by kernel_rfl
set_option maxRecDepth 100000 in
theorem closed : joinedFacts Try.prog 7 Try.f7 Rows.fnExactShowEndSpec Rows.fnExactShowEndRow = true := by
  unfold joinedFacts
  exact (Gc.andT (Gc.andT (Gc.andT (Gc.andT (Gc.andT (Gc.andT (Gc.andT (Gc.andT (Gc.andT (Gc.andT (Gc.andT (Gc.andT (Gc.andT (Gc.andT (Gc.andT (Gc.andT (Gc.andT (Gc.andT (Gc.andT (Gc.andT (Gc.andT (Gc.andT (Gc.andT (Gc.andT (Gc.andT (Gc.andT (Gc.andT (Gc.andT (Gc.andT (Gc.andT (Gc.andT k0 Gc.k1) Gc.k2) k3) k4) k5) Gc.k6) k7) Gc.k8) k9) k10) k11) k12) k13) k14) k15) k16) k17) k18) k19) k20) k21) k22) k23) Gc.k24) Gc.k25) k26) k27) k28) k29) k30) k31)
end Go.Proofs.Ytnlbaflbhicooaa.GcFnExactShowEnd
