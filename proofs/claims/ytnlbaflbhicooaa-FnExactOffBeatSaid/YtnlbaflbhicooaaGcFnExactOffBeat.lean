import Derived.Test.YtnlbaflbhicooaaGc
namespace Go.Proofs.Ytnlbaflbhicooaa.GcFnExactOffBeat
open Go.ChangeShapes Go.WideShapes
set_option linter.unusedVariables false
theorem k0 : (Rows.fnExactOffBeatRow.wf (OpenSpec.ofChange Rows.fnExactOffBeatSpec)) = true := by kernel_rfl
theorem k3 : (Try.f14.params.all (Try.prog.readableRec ·)) = true := by kernel_rfl
theorem k4 : (namedTie Try.prog Rows.fnExactOffBeatRow.named Rows.fnExactOffBeatSpec.vars) = true := by kernel_rfl
theorem k5 : ((Rows.fnExactOffBeatRow.stops == [])) = true := by kernel_rfl
theorem k7 : ((Rows.fnExactOffBeatRow.knobs == [])) = true := by kernel_rfl
theorem k9 : ((Rows.fnExactOffBeatRow.inPlace == Try.prog.inPlace 14)) = true := by kernel_rfl
theorem k10 : ((Rows.fnExactOffBeatRow.unfollowed == Try.prog.unfollowed 14)) = true := by kernel_rfl
theorem k11 : ((Rows.fnExactOffBeatRow.recurses == Try.prog.recurses 14)) = true := by kernel_rfl
theorem k12 : ((Rows.fnExactOffBeatRow.named == Try.prog.varsNamed 14)) = true := by kernel_rfl
theorem k13 : ((Rows.fnExactOffBeatRow.maps == (Try.f14.params.toList ++ Rows.fnExactOffBeatSpec.plain.varTypes Try.prog).any (Try.prog.mapsRec ·))) = true := by kernel_rfl
theorem k14 : ((Rows.fnExactOffBeatRow.ifaces == (Try.f14.params.toList ++ Rows.fnExactOffBeatSpec.plain.varTypes Try.prog).any (Try.prog.ifacesRec ·))) = true := by kernel_rfl
theorem k15 : ((Rows.fnExactOffBeatRow.mapsOut == Try.prog.mapsAmong Try.f14.resultTypes.toList)) = true := by kernel_rfl
theorem k16 : ((Rows.fnExactOffBeatRow.loops == (Try.f14.params.toList ++ Rows.fnExactOffBeatSpec.plain.varTypes Try.prog).any (Try.prog.loopsFrom ·))) = true := by kernel_rfl
theorem k17 : ((Rows.fnExactOffBeatRow.wideKeys == (Try.f14.params.toList ++ Rows.fnExactOffBeatSpec.plain.varTypes Try.prog ++ Try.f14.resultTypes.toList).any (Try.prog.wideKeysFrom ·))) = true := by kernel_rfl
theorem k18 : (Rows.fnExactOffBeatSpec.vars.all (Try.prog.varReadable ·)) = true := by kernel_rfl
theorem k19 : (Try.f14.resultTypes.all (fun t => Try.prog.readableRec t && decide (t < Try.prog.types.size))) = true := by kernel_rfl
theorem k20 : ((Rows.fnExactOffBeatRow.ifacesOut == Try.f14.resultTypes.toList.any (Try.prog.ifacesRec ·))) = true := by kernel_rfl
theorem k21 : ((Rows.fnExactOffBeatRow.loopsOut == Try.f14.resultTypes.toList.any (Try.prog.loopsFrom ·))) = true := by kernel_rfl
theorem k22 : ((Rows.fnExactOffBeatRow.plainKeys == Try.prog.plainKeys)) = true := Gc.k22
theorem k23 : (Rows.fnExactOffBeatRow.shortTexts.isNone) = true := by kernel_rfl
theorem k26 : ((Rows.fnExactOffBeatRow.lifted == Try.prog.liftsFinal)) = true := Gc.k26
theorem k27 : ((Try.prog.make == some Rows.fnExactOffBeatRow.make)) = true := Gc.k27
theorem k28 : ((Rows.fnExactOffBeatRow.kinds == (if Rows.fnExactOffBeatRow.domain.isEmpty then [] else Try.f14.params.toList.map fun t => match Try.prog.underlying t with | some (.int k) => some k | _ => none))) = true := by kernel_rfl
theorem k29 : ((Rows.fnExactOffBeatRow.pinned == Rows.fnExactOffBeatRow.pinnedBy)) = true := by kernel_rfl
theorem k30 : ((Rows.fnExactOffBeatRow.veiled == (Try.f14.params.toList ++ Rows.fnExactOffBeatSpec.plain.varTypes Try.prog ++ Try.f14.resultTypes.toList).any (Try.prog.veiledRec ·))) = true := by kernel_rfl
theorem k31 : (Rows.fnExactOffBeatRow.veiledFits Try.prog Try.f14.params.toList (Try.f14.params.toList ++ Rows.fnExactOffBeatSpec.plain.varTypes Try.prog ++ Try.f14.resultTypes.toList)) = true := by kernel_rfl
set_option maxRecDepth 100000 in
theorem closed : joinedFacts Try.prog 14 Try.f14 Rows.fnExactOffBeatSpec Rows.fnExactOffBeatRow = true := by
  unfold joinedFacts
  exact (Gc.andT (Gc.andT (Gc.andT (Gc.andT (Gc.andT (Gc.andT (Gc.andT (Gc.andT (Gc.andT (Gc.andT (Gc.andT (Gc.andT (Gc.andT (Gc.andT (Gc.andT (Gc.andT (Gc.andT (Gc.andT (Gc.andT (Gc.andT (Gc.andT (Gc.andT (Gc.andT (Gc.andT (Gc.andT (Gc.andT (Gc.andT (Gc.andT (Gc.andT (Gc.andT (Gc.andT k0 Gc.k1) Gc.k2) k3) k4) k5) Gc.k6) k7) Gc.k8) k9) k10) k11) k12) k13) k14) k15) k16) k17) k18) k19) k20) k21) k22) k23) Gc.k24) Gc.k25) k26) k27) k28) k29) k30) k31)
end Go.Proofs.Ytnlbaflbhicooaa.GcFnExactOffBeat
