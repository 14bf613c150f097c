/-
  What is proved here: closed facts of the program and of a row. Conditions: none.
-/
import Derived.Test.YtncjabmlkgacdaaGreatJa
namespace Go.Proofs.YtncjabmlkgacdaaGreat.topFrictionRuns
open Go Go.TH
theorem j_wf : (Rows.topFrictionRunsRow.wf (OpenSpec.ofChange Rows.topFrictionRunsSpec)) = true := by kernel_rfl
theorem j_prm : (Tryz.f5.params.all (Tryz.prog.readableRec ·)) = true := by kernel_rfl
theorem j_named : (namedTie Tryz.prog Rows.topFrictionRunsRow.named Rows.topFrictionRunsSpec.vars) = true := by kernel_rfl
theorem j_stops : ((Rows.topFrictionRunsRow.stops == [])) = true := by kernel_rfl
theorem j_knobs : ((Rows.topFrictionRunsRow.knobs == [])) = true := by kernel_rfl
theorem j_inpl : ((Rows.topFrictionRunsRow.inPlace == Tryz.prog.inPlace 5)) = true := by kernel_rfl
theorem j_unf : ((Rows.topFrictionRunsRow.unfollowed == Tryz.prog.unfollowed 5)) = true := by kernel_rfl
theorem j_rec : ((Rows.topFrictionRunsRow.recurses == Tryz.prog.recurses 5)) = true := by kernel_rfl
theorem j_vn : ((Rows.topFrictionRunsRow.named == Tryz.prog.varsNamed 5)) = true := by kernel_rfl
theorem j_cm : ((Rows.topFrictionRunsRow.maps == (Tryz.f5.params.toList ++ Rows.topFrictionRunsSpec.plain.varTypes Tryz.prog).any (Tryz.prog.mapsRec ·))) = true := by kernel_rfl
theorem j_ci : ((Rows.topFrictionRunsRow.ifaces == (Tryz.f5.params.toList ++ Rows.topFrictionRunsSpec.plain.varTypes Tryz.prog).any (Tryz.prog.ifacesRec ·))) = true := by kernel_rfl
theorem j_mo : ((Rows.topFrictionRunsRow.mapsOut == Tryz.prog.mapsAmong Tryz.f5.resultTypes.toList)) = true := by kernel_rfl
theorem j_lp : ((Rows.topFrictionRunsRow.loops == (Tryz.f5.params.toList ++ Rows.topFrictionRunsSpec.plain.varTypes Tryz.prog).any (Tryz.prog.loopsFrom ·))) = true := by kernel_rfl
theorem j_wk : ((Rows.topFrictionRunsRow.wideKeys == (Tryz.f5.params.toList ++ Rows.topFrictionRunsSpec.plain.varTypes Tryz.prog ++ Tryz.f5.resultTypes.toList).any (Tryz.prog.wideKeysFrom ·))) = true := by kernel_rfl
theorem j_vr : (Rows.topFrictionRunsSpec.vars.all (Tryz.prog.varReadable ·)) = true := by kernel_rfl
theorem j_rt : (Tryz.f5.resultTypes.all (fun t => Tryz.prog.readableRec t && decide (t < Tryz.prog.types.size))) = true := by kernel_rfl
theorem j_io : ((Rows.topFrictionRunsRow.ifacesOut == Tryz.f5.resultTypes.toList.any (Tryz.prog.ifacesRec ·))) = true := by kernel_rfl
theorem j_lo : ((Rows.topFrictionRunsRow.loopsOut == Tryz.f5.resultTypes.toList.any (Tryz.prog.loopsFrom ·))) = true := by kernel_rfl
theorem j_pk : ((Rows.topFrictionRunsRow.plainKeys == Tryz.prog.plainKeys)) = true := by kernel_rfl
theorem j_st : (Rows.topFrictionRunsRow.shortTexts.isNone) = true := by kernel_rfl
theorem j_li : ((Rows.topFrictionRunsRow.lifted == Tryz.prog.liftsFinal)) = true := by kernel_rfl
theorem j_mk : ((Tryz.prog.make == some Rows.topFrictionRunsRow.make)) = true := by kernel_rfl
theorem j_kd : ((Rows.topFrictionRunsRow.kinds == (if Rows.topFrictionRunsRow.domain.isEmpty then [] else Tryz.f5.params.toList.map fun t => match Tryz.prog.underlying t with | some (.int k) => some k | _ => none))) = true := by kernel_rfl
theorem j_pn : ((Rows.topFrictionRunsRow.pinned == Rows.topFrictionRunsRow.pinnedBy)) = true := by kernel_rfl
theorem j_ve : ((Rows.topFrictionRunsRow.veiled == (Tryz.f5.params.toList ++ Rows.topFrictionRunsSpec.plain.varTypes Tryz.prog ++ Tryz.f5.resultTypes.toList).any (Tryz.prog.veiledRec ·))) = true := by kernel_rfl
theorem j_vf : (Rows.topFrictionRunsRow.veiledFits Tryz.prog Tryz.f5.params.toList (Tryz.f5.params.toList ++ Rows.topFrictionRunsSpec.plain.varTypes Tryz.prog ++ Tryz.f5.resultTypes.toList)) = true := by kernel_rfl
set_option maxRecDepth 100000 in
theorem closed : joinedFacts Tryz.prog 5 Tryz.f5 Rows.topFrictionRunsSpec Rows.topFrictionRunsRow = true := (and_t (and_t (and_t (and_t (and_t (and_t (and_t (and_t (and_t (and_t (and_t (and_t (and_t (and_t (and_t (and_t (and_t (and_t (and_t (and_t (and_t (and_t (and_t (and_t (and_t (and_t (and_t (and_t (and_t (and_t (and_t j_wf j_laid) j_maps) j_prm) j_named) j_stops) j_pstops) j_knobs) j_sk) j_inpl) j_unf) j_rec) j_vn) j_cm) j_ci) j_mo) j_lp) j_wk) j_vr) j_rt) j_io) j_lo) j_pk) j_st) j_sh) j_me) j_li) j_mk) j_kd) j_pn) j_ve) j_vf)
end Go.Proofs.YtncjabmlkgacdaaGreat.topFrictionRuns
