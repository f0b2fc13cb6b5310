import Derived.Test.YthhijbdekboahaaGc
namespace Go.Proofs.Ythhijbdekboahaa.GcFnEveryBurst
open Go.ChangeShapes Go.WideShapes
set_option linter.unusedVariables false
theorem k0 : (Rows.fnEveryBurstRow.wf (OpenSpec.ofChange Rows.fnEveryBurstSpec)) = true := by kernel_rfl
theorem k3 : (Try.f7.params.all (Try.prog.readableRec ·)) = true := by kernel_rfl
theorem k4 : (namedTie Try.prog Rows.fnEveryBurstRow.named Rows.fnEveryBurstSpec.vars) = true := by kernel_rfl
theorem k5 : ((Rows.fnEveryBurstRow.stops == [])) = true := by kernel_rfl
theorem k7 : ((Rows.fnEveryBurstRow.knobs == [])) = true := by kernel_rfl
theorem k9 : ((Rows.fnEveryBurstRow.inPlace == Try.prog.inPlace 7)) = true := by kernel_rfl
theorem k10 : ((Rows.fnEveryBurstRow.unfollowed == Try.prog.unfollowed 7)) = true := by kernel_rfl
theorem k11 : ((Rows.fnEveryBurstRow.recurses == Try.prog.recurses 7)) = true := by kernel_rfl
theorem k12 : ((Rows.fnEveryBurstRow.named == Try.prog.varsNamed 7)) = true := by kernel_rfl
theorem k13 : ((Rows.fnEveryBurstRow.maps == (Try.f7.params.toList ++ Rows.fnEveryBurstSpec.plain.varTypes Try.prog).any (Try.prog.mapsRec ·))) = true := by kernel_rfl
theorem k14 : ((Rows.fnEveryBurstRow.ifaces == (Try.f7.params.toList ++ Rows.fnEveryBurstSpec.plain.varTypes Try.prog).any (Try.prog.ifacesRec ·))) = true := by kernel_rfl
theorem k15 : ((Rows.fnEveryBurstRow.mapsOut == Try.prog.mapsAmong Try.f7.resultTypes.toList)) = true := by kernel_rfl
theorem k16 : ((Rows.fnEveryBurstRow.loops == (Try.f7.params.toList ++ Rows.fnEveryBurstSpec.plain.varTypes Try.prog).any (Try.prog.loopsFrom ·))) = true := by kernel_rfl
theorem k17 : ((Rows.fnEveryBurstRow.wideKeys == (Try.f7.params.toList ++ Rows.fnEveryBurstSpec.plain.varTypes Try.prog ++ Try.f7.resultTypes.toList).any (Try.prog.wideKeysFrom ·))) = true := by kernel_rfl
theorem k18 : (Rows.fnEveryBurstSpec.vars.all (Try.prog.varReadable ·)) = true := by kernel_rfl
theorem k19 : (Try.f7.resultTypes.all (fun t => Try.prog.readableRec t && decide (t < Try.prog.types.size))) = true := by kernel_rfl
theorem k20 : ((Rows.fnEveryBurstRow.ifacesOut == Try.f7.resultTypes.toList.any (Try.prog.ifacesRec ·))) = true := by kernel_rfl
theorem k21 : ((Rows.fnEveryBurstRow.loopsOut == Try.f7.resultTypes.toList.any (Try.prog.loopsFrom ·))) = true := by kernel_rfl
theorem k22 : ((Rows.fnEveryBurstRow.plainKeys == Try.prog.plainKeys)) = true := Gc.k22
theorem k23 : (Rows.fnEveryBurstRow.shortTexts.isNone) = true := by kernel_rfl
theorem k26 : ((Rows.fnEveryBurstRow.lifted == Try.prog.liftsFinal)) = true := Gc.k26
theorem k27 : ((Try.prog.make == some Rows.fnEveryBurstRow.make)) = true := Gc.k27
theorem k28 : ((Rows.fnEveryBurstRow.kinds == (if Rows.fnEveryBurstRow.domain.isEmpty then [] else Try.f7.params.toList.map fun t => match Try.prog.underlying t with | some (.int k) => some k | _ => none))) = true := by kernel_rfl
theorem k29 : ((Rows.fnEveryBurstRow.pinned == Rows.fnEveryBurstRow.pinnedBy)) = true := by kernel_rfl
theorem k30 : ((Rows.fnEveryBurstRow.veiled == (Try.f7.params.toList ++ Rows.fnEveryBurstSpec.plain.varTypes Try.prog ++ Try.f7.resultTypes.toList).any (Try.prog.veiledRec ·))) = true := by kernel_rfl
theorem k31 : (Rows.fnEveryBurstRow.veiledFits Try.prog Try.f7.params.toList (Try.f7.params.toList ++ Rows.fnEveryBurstSpec.plain.varTypes Try.prog ++ Try.f7.resultTypes.toList)) = true := by kernel_rfl
set_option maxRecDepth 100000 in
theorem closed : joinedFacts Try.prog 7 Try.f7 Rows.fnEveryBurstSpec Rows.fnEveryBurstRow = true := by
  unfold joinedFacts
  exact (Gc.andT (Gc.andT (Gc.andT (Gc.andT (Gc.andT (Gc.andT (Gc.andT (Gc.andT (Gc.andT (Gc.andT (Gc.andT (Gc.andT (Gc.andT (Gc.andT (Gc.andT (Gc.andT (Gc.andT (Gc.andT (Gc.andT (Gc.andT (Gc.andT (Gc.andT (Gc.andT (Gc.andT (Gc.andT (Gc.andT (Gc.andT (Gc.andT (Gc.andT (Gc.andT (Gc.andT k0 Gc.k1) Gc.k2) k3) k4) k5) Gc.k6) k7) Gc.k8) k9) k10) k11) k12) k13) k14) k15) k16) k17) k18) k19) k20) k21) k22) k23) Gc.k24) Gc.k25) k26) k27) k28) k29) k30) k31)
end Go.Proofs.Ythhijbdekboahaa.GcFnEveryBurst
