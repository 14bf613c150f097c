/-
  What is proved here: closed facts of the program and of a row. Conditions: none.
-/
import Derived.Test.YtnehaifgcegemaaGreatJa
namespace Go.Proofs.YtnehaifgcegemaaGreat.topFairTrack
open Go Go.TH
theorem j_wf : (Rows.topFairTrackRow.wf (OpenSpec.ofChange Rows.topFairTrackSpec)) = true := by kernel_rfl
theorem j_prm : (Tryz.f6.params.all (Tryz.prog.readableRec ·)) = true := by kernel_rfl
theorem j_named : (namedTie Tryz.prog Rows.topFairTrackRow.named Rows.topFairTrackSpec.vars) = true := by kernel_rfl
theorem j_stops : ((Rows.topFairTrackRow.stops == [])) = true := by kernel_rfl
theorem j_knobs : ((Rows.topFairTrackRow.knobs == [])) = true := by kernel_rfl
theorem j_inpl : ((Rows.topFairTrackRow.inPlace == Tryz.prog.inPlace 6)) = true := by kernel_rfl
theorem j_unf : ((Rows.topFairTrackRow.unfollowed == Tryz.prog.unfollowed 6)) = true := by kernel_rfl
theorem j_rec : ((Rows.topFairTrackRow.recurses == Tryz.prog.recurses 6)) = true := by kernel_rfl
theorem j_vn : ((Rows.topFairTrackRow.named == Tryz.prog.varsNamed 6)) = true := by kernel_rfl
theorem j_cm : ((Rows.topFairTrackRow.maps == (Tryz.f6.params.toList ++ Rows.topFairTrackSpec.plain.varTypes Tryz.prog).any (Tryz.prog.mapsRec ·))) = true := by kernel_rfl
theorem j_ci : ((Rows.topFairTrackRow.ifaces == (Tryz.f6.params.toList ++ Rows.topFairTrackSpec.plain.varTypes Tryz.prog).any (Tryz.prog.ifacesRec ·))) = true := by kernel_rfl
theorem j_mo : ((Rows.topFairTrackRow.mapsOut == Tryz.prog.mapsAmong Tryz.f6.resultTypes.toList)) = true := by kernel_rfl
theorem j_lp : ((Rows.topFairTrackRow.loops == (Tryz.f6.params.toList ++ Rows.topFairTrackSpec.plain.varTypes Tryz.prog).any (Tryz.prog.loopsFrom ·))) = true := by kernel_rfl
theorem j_wk : ((Rows.topFairTrackRow.wideKeys == (Tryz.f6.params.toList ++ Rows.topFairTrackSpec.plain.varTypes Tryz.prog ++ Tryz.f6.resultTypes.toList).any (Tryz.prog.wideKeysFrom ·))) = true := by kernel_rfl
theorem j_vr : (Rows.topFairTrackSpec.vars.all (Tryz.prog.varReadable ·)) = true := by kernel_rfl
theorem j_rt : (Tryz.f6.resultTypes.all (fun t => Tryz.prog.readableRec t && decide (t < Tryz.prog.types.size))) = true := by kernel_rfl
theorem j_io : ((Rows.topFairTrackRow.ifacesOut == Tryz.f6.resultTypes.toList.any (Tryz.prog.ifacesRec ·))) = true := by kernel_rfl
theorem j_lo : ((Rows.topFairTrackRow.loopsOut == Tryz.f6.resultTypes.toList.any (Tryz.prog.loopsFrom ·))) = true := by kernel_rfl
theorem j_pk : ((Rows.topFairTrackRow.plainKeys == Tryz.prog.plainKeys)) = true := by kernel_rfl
theorem j_st : (Rows.topFairTrackRow.shortTexts.isNone) = true := by kernel_rfl
theorem j_li : ((Rows.topFairTrackRow.lifted == Tryz.prog.liftsFinal)) = true := by kernel_rfl
theorem j_mk : ((Tryz.prog.make == some Rows.topFairTrackRow.make)) = true := by kernel_rfl
theorem j_kd : ((Rows.topFairTrackRow.kinds == (if Rows.topFairTrackRow.domain.isEmpty then [] else Tryz.f6.params.toList.map fun t => match Tryz.prog.underlying t with | some (.int k) => some k | _ => none))) = true := by kernel_rfl
theorem j_pn : ((Rows.topFairTrackRow.pinned == Rows.topFairTrackRow.pinnedBy)) = true := by kernel_rfl
theorem j_ve : ((Rows.topFairTrackRow.veiled == (Tryz.f6.params.toList ++ Rows.topFairTrackSpec.plain.varTypes Tryz.prog ++ Tryz.f6.resultTypes.toList).any (Tryz.prog.veiledRec ·))) = true := by kernel_rfl
theorem j_vf : (Rows.topFairTrackRow.veiledFits Tryz.prog Tryz.f6.params.toList (Tryz.f6.params.toList ++ Rows.topFairTrackSpec.plain.varTypes Tryz.prog ++ Tryz.f6.resultTypes.toList)) = true := by kernel_rfl
set_option maxRecDepth 100000 in
theorem closed : joinedFacts Tryz.prog 6 Tryz.f6 Rows.topFairTrackSpec Rows.topFairTrackRow = true := (and_t (and_t (and_t (and_t (and_t (and_t (and_t (and_t (and_t (and_t (and_t (and_t (and_t (and_t (and_t (and_t (and_t (and_t (and_t (and_t (and_t (and_t (and_t (and_t (and_t (and_t (and_t (and_t (and_t (and_t (and_t j_wf j_laid) j_maps) j_prm) j_named) j_stops) j_pstops) j_knobs) j_sk) j_inpl) j_unf) j_rec) j_vn) j_cm) j_ci) j_mo) j_lp) j_wk) j_vr) j_rt) j_io) j_lo) j_pk) j_st) j_sh) j_me) j_li) j_mk) j_kd) j_pn) j_ve) j_vf)
end Go.Proofs.YtnehaifgcegemaaGreat.topFairTrack
