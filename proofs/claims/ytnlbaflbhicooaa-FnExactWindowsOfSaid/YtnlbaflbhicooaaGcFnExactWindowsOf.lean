import Derived.Test.YtnlbaflbhicooaaGc
namespace Go.Proofs.Ytnlbaflbhicooaa.GcFnExactWindowsOf
open Go.ChangeShapes Go.WideShapes
set_option linter.unusedVariables false
theorem k0 : (Rows.fnExactWindowsOfRow.wf (OpenSpec.ofChange Rows.fnExactWindowsOfSpec)) = true := by kernel_rfl
theorem k3 : (Try.f17.params.all (Try.prog.readableRec ·)) = true := by kernel_rfl
theorem k4 : (namedTie Try.prog Rows.fnExactWindowsOfRow.named Rows.fnExactWindowsOfSpec.vars) = true := by kernel_rfl
theorem k5 : ((Rows.fnExactWindowsOfRow.stops == [])) = true := by kernel_rfl
theorem k7 : ((Rows.fnExactWindowsOfRow.knobs == [])) = true := by kernel_rfl
theorem k9 : ((Rows.fnExactWindowsOfRow.inPlace == Try.prog.inPlace 17)) = true := by kernel_rfl
theorem k10 : ((Rows.fnExactWindowsOfRow.unfollowed == Try.prog.unfollowed 17)) = true := by kernel_rfl
theorem k11 : ((Rows.fnExactWindowsOfRow.recurses == Try.prog.recurses 17)) = true := by kernel_rfl
theorem k12 : ((Rows.fnExactWindowsOfRow.named == Try.prog.varsNamed 17)) = true := by kernel_rfl
theorem k13 : ((Rows.fnExactWindowsOfRow.maps == (Try.f17.params.toList ++ Rows.fnExactWindowsOfSpec.plain.varTypes Try.prog).any (Try.prog.mapsRec ·))) = true := by kernel_rfl
theorem k14 : ((Rows.fnExactWindowsOfRow.ifaces == (Try.f17.params.toList ++ Rows.fnExactWindowsOfSpec.plain.varTypes Try.prog).any (Try.prog.ifacesRec ·))) = true := by kernel_rfl
theorem k15 : ((Rows.fnExactWindowsOfRow.mapsOut == Try.prog.mapsAmong Try.f17.resultTypes.toList)) = true := by kernel_rfl
theorem k16 : ((Rows.fnExactWindowsOfRow.loops == (Try.f17.params.toList ++ Rows.fnExactWindowsOfSpec.plain.varTypes Try.prog).any (Try.prog.loopsFrom ·))) = true := by kernel_rfl
theorem k17 : ((Rows.fnExactWindowsOfRow.wideKeys == (Try.f17.params.toList ++ Rows.fnExactWindowsOfSpec.plain.varTypes Try.prog ++ Try.f17.resultTypes.toList).any (Try.prog.wideKeysFrom ·))) = true := by kernel_rfl
theorem k18 : (Rows.fnExactWindowsOfSpec.vars.all (Try.prog.varReadable ·)) = true := by kernel_rfl
theorem k19 : (Try.f17.resultTypes.all (fun t => Try.prog.readableRec t && decide (t < Try.prog.types.size))) = true := by kernel_rfl
theorem k20 : ((Rows.fnExactWindowsOfRow.ifacesOut == Try.f17.resultTypes.toList.any (Try.prog.ifacesRec ·))) = true := by kernel_rfl
theorem k21 : ((Rows.fnExactWindowsOfRow.loopsOut == Try.f17.resultTypes.toList.any (Try.prog.loopsFrom ·))) = true := by kernel_rfl
theorem k22 : ((Rows.fnExactWindowsOfRow.plainKeys == Try.prog.plainKeys)) = true := Gc.k22
theorem k23 : (Rows.fnExactWindowsOfRow.shortTexts.isNone) = true := by kernel_rfl
theorem k26 : ((Rows.fnExactWindowsOfRow.lifted == Try.prog.liftsFinal)) = true := Gc.k26
theorem k27 : ((Try.prog.make == some Rows.fnExactWindowsOfRow.make)) = true := Gc.k27
theorem k28 : ((Rows.fnExactWindowsOfRow.kinds == (if Rows.fnExactWindowsOfRow.domain.isEmpty then [] else Try.f17.params.toList.map fun t => match Try.prog.underlying t with | some (.int k) => some k | _ => none))) = true := by kernel_rfl
theorem k29 : ((Rows.fnExactWindowsOfRow.pinned == Rows.fnExactWindowsOfRow.pinnedBy)) = true := by kernel_rfl
theorem k30 : ((Rows.fnExactWindowsOfRow.veiled == (Try.f17.params.toList ++ Rows.fnExactWindowsOfSpec.plain.varTypes Try.prog ++ Try.f17.resultTypes.toList).any (Try.prog.veiledRec ·))) = true := by kernel_rfl
theorem k31 : (Rows.fnExactWindowsOfRow.veiledFits Try.prog Try.f17.params.toList (Try.f17.params.toList ++ Rows.fnExactWindowsOfSpec.plain.varTypes Try.prog ++ Try.f17.resultTypes.toList)) = true := by kernel_rfl
set_option maxRecDepth 100000 in
theorem closed : joinedFacts Try.prog 17 Try.f17 Rows.fnExactWindowsOfSpec Rows.fnExactWindowsOfRow = true := by
  unfold joinedFacts
  exact (Gc.andT (Gc.andT (Gc.andT (Gc.andT (Gc.andT (Gc.andT (Gc.andT (Gc.andT (Gc.andT (Gc.andT (Gc.andT (Gc.andT (Gc.andT (Gc.andT (Gc.andT (Gc.andT (Gc.andT (Gc.andT (Gc.andT (Gc.andT (Gc.andT (Gc.andT (Gc.andT (Gc.andT (Gc.andT (Gc.andT (Gc.andT (Gc.andT (Gc.andT (Gc.andT (Gc.andT k0 Gc.k1) Gc.k2) k3) k4) k5) Gc.k6) k7) Gc.k8) k9) k10) k11) k12) k13) k14) k15) k16) k17) k18) k19) k20) k21) k22) k23) Gc.k24) Gc.k25) k26) k27) k28) k29) k30) k31)
end Go.Proofs.Ytnlbaflbhicooaa.GcFnExactWindowsOf
