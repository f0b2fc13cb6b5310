import Derived.Test.YtnlbaflbhicooaaGc
namespace Go.Proofs.Ytnlbaflbhicooaa.GcFnExactUnsurePairs
open Go.ChangeShapes Go.WideShapes
set_option linter.unusedVariables false
theorem k0 : (Rows.fnExactUnsurePairsRow.wf (OpenSpec.ofChange Rows.fnExactUnsurePairsSpec)) = true := by kernel_rfl
theorem k3 : (Try.f18.params.all (Try.prog.readableRec ·)) = true := by kernel_rfl
theorem k4 : (namedTie Try.prog Rows.fnExactUnsurePairsRow.named Rows.fnExactUnsurePairsSpec.vars) = true := by kernel_rfl
theorem k5 : ((Rows.fnExactUnsurePairsRow.stops == [])) = true := by kernel_rfl
theorem k7 : ((Rows.fnExactUnsurePairsRow.knobs == [])) = true := by kernel_rfl
theorem k9 : ((Rows.fnExactUnsurePairsRow.inPlace == Try.prog.inPlace 18)) = true := by kernel_rfl
theorem k10 : ((Rows.fnExactUnsurePairsRow.unfollowed == Try.prog.unfollowed 18)) = true := by kernel_rfl
theorem k11 : ((Rows.fnExactUnsurePairsRow.recurses == Try.prog.recurses 18)) = true := by kernel_rfl
theorem k12 : ((Rows.fnExactUnsurePairsRow.named == Try.prog.varsNamed 18)) = true := by kernel_rfl
theorem k13 : ((Rows.fnExactUnsurePairsRow.maps == (Try.f18.params.toList ++ Rows.fnExactUnsurePairsSpec.plain.varTypes Try.prog).any (Try.prog.mapsRec ·))) = true := by kernel_rfl
theorem k14 : ((Rows.fnExactUnsurePairsRow.ifaces == (Try.f18.params.toList ++ Rows.fnExactUnsurePairsSpec.plain.varTypes Try.prog).any (Try.prog.ifacesRec ·))) = true := by kernel_rfl
theorem k15 : ((Rows.fnExactUnsurePairsRow.mapsOut == Try.prog.mapsAmong Try.f18.resultTypes.toList)) = true := by kernel_rfl
theorem k16 : ((Rows.fnExactUnsurePairsRow.loops == (Try.f18.params.toList ++ Rows.fnExactUnsurePairsSpec.plain.varTypes Try.prog).any (Try.prog.loopsFrom ·))) = true := by kernel_rfl
theorem k17 : ((Rows.fnExactUnsurePairsRow.wideKeys == (Try.f18.params.toList ++ Rows.fnExactUnsurePairsSpec.plain.varTypes Try.prog ++ Try.f18.resultTypes.toList).any (Try.prog.wideKeysFrom ·))) = true := by kernel_rfl
theorem k18 : (Rows.fnExactUnsurePairsSpec.vars.all (Try.prog.varReadable ·)) = true := by kernel_rfl
theorem k19 : (Try.f18.resultTypes.all (fun t => Try.prog.readableRec t && decide (t < Try.prog.types.size))) = true := by kernel_rfl
theorem k20 : ((Rows.fnExactUnsurePairsRow.ifacesOut == Try.f18.resultTypes.toList.any (Try.prog.ifacesRec ·))) = true := by kernel_rfl
theorem k21 : ((Rows.fnExactUnsurePairsRow.loopsOut == Try.f18.resultTypes.toList.any (Try.prog.loopsFrom ·))) = true := by kernel_rfl
theorem k22 : ((Rows.fnExactUnsurePairsRow.plainKeys == Try.prog.plainKeys)) = true := Gc.k22
theorem k23 : (Rows.fnExactUnsurePairsRow.shortTexts.isNone) = true := by kernel_rfl
theorem k26 : ((Rows.fnExactUnsurePairsRow.lifted == Try.prog.liftsFinal)) = true := Gc.k26
theorem k27 : ((Try.prog.make == some Rows.fnExactUnsurePairsRow.make)) = true := Gc.k27
theorem k28 : ((Rows.fnExactUnsurePairsRow.kinds == (if Rows.fnExactUnsurePairsRow.domain.isEmpty then [] else Try.f18.params.toList.map fun t => match Try.prog.underlying t with | some (.int k) => some k | _ => none))) = true := by kernel_rfl
theorem k29 : ((Rows.fnExactUnsurePairsRow.pinned == Rows.fnExactUnsurePairsRow.pinnedBy)) = true := by kernel_rfl
theorem k30 : ((Rows.fnExactUnsurePairsRow.veiled == (Try.f18.params.toList ++ Rows.fnExactUnsurePairsSpec.plain.varTypes Try.prog ++ Try.f18.resultTypes.toList).any (Try.prog.veiledRec ·))) = true := by kernel_rfl
theorem k31 : (Rows.fnExactUnsurePairsRow.veiledFits Try.prog Try.f18.params.toList (Try.f18.params.toList ++ Rows.fnExactUnsurePairsSpec.plain.varTypes Try.prog ++ Try.f18.resultTypes.toList)) = true := by kernel_rfl
set_option maxRecDepth 100000 in
theorem closed : joinedFacts Try.prog 18 Try.f18 Rows.fnExactUnsurePairsSpec Rows.fnExactUnsurePairsRow = true := by
  unfold joinedFacts
  exact (Gc.andT (Gc.andT (Gc.andT (Gc.andT (Gc.andT (Gc.andT (Gc.andT (Gc.andT (Gc.andT (Gc.andT (Gc.andT (Gc.andT (Gc.andT (Gc.andT (Gc.andT (Gc.andT (Gc.andT (Gc.andT (Gc.andT (Gc.andT (Gc.andT (Gc.andT (Gc.andT (Gc.andT (Gc.andT (Gc.andT (Gc.andT (Gc.andT (Gc.andT (Gc.andT (Gc.andT k0 Gc.k1) Gc.k2) k3) k4) k5) Gc.k6) k7) Gc.k8) k9) k10) k11) k12) k13) k14) k15) k16) k17) k18) k19) k20) k21) k22) k23) Gc.k24) Gc.k25) k26) k27) k28) k29) k30) k31)
end Go.Proofs.Ytnlbaflbhicooaa.GcFnExactUnsurePairs
