/-
  What is proved here: closed facts of the program and of a row. Conditions: none.
-/
import Derived.Test.YtnehaifgcegemaaGreatJa
namespace Go.Proofs.YtnehaifgcegemaaGreat.topStraightTrack
open Go Go.TH
theorem j_wf : (Rows.topStraightTrackRow.wf (OpenSpec.ofChange Rows.topStraightTrackSpec)) = true := by kernel_rfl
theorem j_prm : (Tryz.f7.params.all (Tryz.prog.readableRec ·)) = true := by kernel_rfl
theorem j_named : (namedTie Tryz.prog Rows.topStraightTrackRow.named Rows.topStraightTrackSpec.vars) = true := by kernel_rfl
theorem j_stops : ((Rows.topStraightTrackRow.stops == [])) = true := by kernel_rfl
theorem j_knobs : ((Rows.topStraightTrackRow.knobs == [])) = true := by kernel_rfl
theorem j_inpl : ((Rows.topStraightTrackRow.inPlace == Tryz.prog.inPlace 7)) = true := by kernel_rfl
theorem j_unf : ((Rows.topStraightTrackRow.unfollowed == Tryz.prog.unfollowed 7)) = true := by kernel_rfl
theorem j_rec : ((Rows.topStraightTrackRow.recurses == Tryz.prog.recurses 7)) = true := by kernel_rfl
theorem j_vn : ((Rows.topStraightTrackRow.named == Tryz.prog.varsNamed 7)) = true := by kernel_rfl
theorem j_cm : ((Rows.topStraightTrackRow.maps == (Tryz.f7.params.toList ++ Rows.topStraightTrackSpec.plain.varTypes Tryz.prog).any (Tryz.prog.mapsRec ·))) = true := by kernel_rfl
theorem j_ci : ((Rows.topStraightTrackRow.ifaces == (Tryz.f7.params.toList ++ Rows.topStraightTrackSpec.plain.varTypes Tryz.prog).any (Tryz.prog.ifacesRec ·))) = true := by kernel_rfl
theorem j_mo : ((Rows.topStraightTrackRow.mapsOut == Tryz.prog.mapsAmong Tryz.f7.resultTypes.toList)) = true := by kernel_rfl
theorem j_lp : ((Rows.topStraightTrackRow.loops == (Tryz.f7.params.toList ++ Rows.topStraightTrackSpec.plain.varTypes Tryz.prog).any (Tryz.prog.loopsFrom ·))) = true := by kernel_rfl
theorem j_wk : ((Rows.topStraightTrackRow.wideKeys == (Tryz.f7.params.toList ++ Rows.topStraightTrackSpec.plain.varTypes Tryz.prog ++ Tryz.f7.resultTypes.toList).any (Tryz.prog.wideKeysFrom ·))) = true := by kernel_rfl
theorem j_vr : (Rows.topStraightTrackSpec.vars.all (Tryz.prog.varReadable ·)) = true := by kernel_rfl
theorem j_rt : (Tryz.f7.resultTypes.all (fun t => Tryz.prog.readableRec t && decide (t < Tryz.prog.types.size))) = true := by kernel_rfl
theorem j_io : ((Rows.topStraightTrackRow.ifacesOut == Tryz.f7.resultTypes.toList.any (Tryz.prog.ifacesRec ·))) = true := by kernel_rfl
theorem j_lo : ((Rows.topStraightTrackRow.loopsOut == Tryz.f7.resultTypes.toList.any (Tryz.prog.loopsFrom ·))) = true := by kernel_rfl
theorem j_pk : ((Rows.topStraightTrackRow.plainKeys == Tryz.prog.plainKeys)) = true := by kernel_rfl
theorem j_st : (Rows.topStraightTrackRow.shortTexts.isNone) = true := by kernel_rfl
theorem j_li : ((Rows.topStraightTrackRow.lifted == Tryz.prog.liftsFinal)) = true := by kernel_rfl
theorem j_mk : ((Tryz.prog.make == some Rows.topStraightTrackRow.make)) = true := by kernel_rfl
theorem j_kd : ((Rows.topStraightTrackRow.kinds == (if Rows.topStraightTrackRow.domain.isEmpty then [] else Tryz.f7.params.toList.map fun t => match Tryz.prog.underlying t with | some (.int k) => some k | _ => none))) = true := by kernel_rfl
theorem j_pn : ((Rows.topStraightTrackRow.pinned == Rows.topStraightTrackRow.pinnedBy)) = true := by kernel_rfl
theorem j_ve : ((Rows.topStraightTrackRow.veiled == (Tryz.f7.params.toList ++ Rows.topStraightTrackSpec.plain.varTypes Tryz.prog ++ Tryz.f7.resultTypes.toList).any (Tryz.prog.veiledRec ·))) = true := by kernel_rfl
theorem j_vf : (Rows.topStraightTrackRow.veiledFits Tryz.prog Tryz.f7.params.toList (Tryz.f7.params.toList ++ Rows.topStraightTrackSpec.plain.varTypes Tryz.prog ++ Tryz.f7.resultTypes.toList)) = true := by kernel_rfl
set_option maxRecDepth 100000 in
theorem closed : joinedFacts Tryz.prog 7 Tryz.f7 Rows.topStraightTrackSpec Rows.topStraightTrackRow = true := (and_t (and_t (and_t (and_t (and_t (and_t (and_t (and_t (and_t (and_t (and_t (and_t (and_t (and_t (and_t (and_t (and_t (and_t (and_t (and_t (and_t (and_t (and_t (and_t (and_t (and_t (and_t (and_t (and_t (and_t (and_t j_wf j_laid) j_maps) j_prm) j_named) j_stops) j_pstops) j_knobs) j_sk) j_inpl) j_unf) j_rec) j_vn) j_cm) j_ci) j_mo) j_lp) j_wk) j_vr) j_rt) j_io) j_lo) j_pk) j_st) j_sh) j_me) j_li) j_mk) j_kd) j_pn) j_ve) j_vf)
end Go.Proofs.YtnehaifgcegemaaGreat.topStraightTrack
