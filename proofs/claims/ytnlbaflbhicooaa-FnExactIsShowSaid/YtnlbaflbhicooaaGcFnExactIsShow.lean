import Derived.Test.YtnlbaflbhicooaaGc
namespace Go.Proofs.Ytnlbaflbhicooaa.GcFnExactIsShow
open Go.ChangeShapes Go.WideShapes
set_option linter.unusedVariables false
theorem k0 : (Rows.fnExactIsShowRow.wf (OpenSpec.ofChange Rows.fnExactIsShowSpec)) = true := by kernel_rfl
theorem k3 : (Try.f6.params.all (Try.prog.readableRec ·)) = true := by kernel_rfl
theorem k4 : (namedTie Try.prog Rows.fnExactIsShowRow.named Rows.fnExactIsShowSpec.vars) = true := by kernel_rfl
theorem k5 : ((Rows.fnExactIsShowRow.stops == [])) = true := by kernel_rfl
theorem k7 : ((Rows.fnExactIsShowRow.knobs == [])) = true := by kernel_rfl
theorem k9 : ((Rows.fnExactIsShowRow.inPlace == Try.prog.inPlace 6)) = true := by kernel_rfl
theorem k10 : ((Rows.fnExactIsShowRow.unfollowed == Try.prog.unfollowed 6)) = true := by kernel_rfl
theorem k11 : ((Rows.fnExactIsShowRow.recurses == Try.prog.recurses 6)) = true := by kernel_rfl
theorem k12 : ((Rows.fnExactIsShowRow.named == Try.prog.varsNamed 6)) = true := by kernel_rfl
theorem k13 : ((Rows.fnExactIsShowRow.maps == (Try.f6.params.toList ++ Rows.fnExactIsShowSpec.plain.varTypes Try.prog).any (Try.prog.mapsRec ·))) = true := by kernel_rfl
theorem k14 : ((Rows.fnExactIsShowRow.ifaces == (Try.f6.params.toList ++ Rows.fnExactIsShowSpec.plain.varTypes Try.prog).any (Try.prog.ifacesRec ·))) = true := by kernel_rfl
theorem k15 : ((Rows.fnExactIsShowRow.mapsOut == Try.prog.mapsAmong Try.f6.resultTypes.toList)) = true := by kernel_rfl
theorem k16 : ((Rows.fnExactIsShowRow.loops == (Try.f6.params.toList ++ Rows.fnExactIsShowSpec.plain.varTypes Try.prog).any (Try.prog.loopsFrom ·))) = true := by kernel_rfl
theorem k17 : ((Rows.fnExactIsShowRow.wideKeys == (Try.f6.params.toList ++ Rows.fnExactIsShowSpec.plain.varTypes Try.prog ++ Try.f6.resultTypes.toList).any (Try.prog.wideKeysFrom ·))) = true := by kernel_rfl
theorem k18 : (Rows.fnExactIsShowSpec.vars.all (Try.prog.varReadable ·)) = true := by kernel_rfl
theorem k19 : (Try.f6.resultTypes.all (fun t => Try.prog.readableRec t && decide (t < Try.prog.types.size))) = true := by kernel_rfl
theorem k20 : ((Rows.fnExactIsShowRow.ifacesOut == Try.f6.resultTypes.toList.any (Try.prog.ifacesRec ·))) = true := by kernel_rfl
theorem k21 : ((Rows.fnExactIsShowRow.loopsOut == Try.f6.resultTypes.toList.any (Try.prog.loopsFrom ·))) = true := by kernel_rfl
theorem k22 : ((Rows.fnExactIsShowRow.plainKeys == Try.prog.plainKeys)) = true := Gc.k22
theorem k23 : (Rows.fnExactIsShowRow.shortTexts.isNone) = true := by kernel_rfl
theorem k26 : ((Rows.fnExactIsShowRow.lifted == Try.prog.liftsFinal)) = true := Gc.k26
theorem k27 : ((Try.prog.make == some Rows.fnExactIsShowRow.make)) = true := Gc.k27
theorem k28 : ((Rows.fnExactIsShowRow.kinds == (if Rows.fnExactIsShowRow.domain.isEmpty then [] else Try.f6.params.toList.map fun t => match Try.prog.underlying t with | some (.int k) => some k | _ => none))) = true := by kernel_rfl
theorem k29 : ((Rows.fnExactIsShowRow.pinned == Rows.fnExactIsShowRow.pinnedBy)) = true := by kernel_rfl
theorem k30 : ((Rows.fnExactIsShowRow.veiled == (Try.f6.params.toList ++ Rows.fnExactIsShowSpec.plain.varTypes Try.prog ++ Try.f6.resultTypes.toList).any (Try.prog.veiledRec ·))) = true := by kernel_rfl
theorem k31 : (Rows.fnExactIsShowRow.veiledFits Try.prog Try.f6.params.toList (Try.f6.params.toList ++ Rows.fnExactIsShowSpec.plain.varTypes Try.prog ++ Try.f6.resultTypes.toList)) = true := by kernel_rfl
set_option maxRecDepth 100000 in
theorem closed : joinedFacts Try.prog 6 Try.f6 Rows.fnExactIsShowSpec Rows.fnExactIsShowRow = true := by
  unfold joinedFacts
  exact (Gc.andT (Gc.andT (Gc.andT (Gc.andT (Gc.andT (Gc.andT (Gc.andT (Gc.andT (Gc.andT (Gc.andT (Gc.andT (Gc.andT (Gc.andT (Gc.andT (Gc.andT (Gc.andT (Gc.andT (Gc.andT (Gc.andT (Gc.andT (Gc.andT (Gc.andT (Gc.andT (Gc.andT (Gc.andT (Gc.andT (Gc.andT (Gc.andT (Gc.andT (Gc.andT (Gc.andT k0 Gc.k1) Gc.k2) k3) k4) k5) Gc.k6) k7) Gc.k8) k9) k10) k11) k12) k13) k14) k15) k16) k17) k18) k19) k20) k21) k22) k23) Gc.k24) Gc.k25) k26) k27) k28) k29) k30) k31)
end Go.Proofs.Ytnlbaflbhicooaa.GcFnExactIsShow
