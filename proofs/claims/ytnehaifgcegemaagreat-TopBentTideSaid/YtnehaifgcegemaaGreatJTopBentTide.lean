/-
  What is proved here: closed facts of the program and of a row. Conditions: none.
-/
import Derived.Test.YtnehaifgcegemaaGreatJa
namespace Go.Proofs.YtnehaifgcegemaaGreat.topBentTide
open Go Go.TH
theorem j_wf : (Rows.topBentTideRow.wf (OpenSpec.ofChange Rows.topBentTideSpec)) = true := by kernel_rfl
theorem j_prm : (Tryz.f3.params.all (Tryz.prog.readableRec ·)) = true := by kernel_rfl
theorem j_named : (namedTie Tryz.prog Rows.topBentTideRow.named Rows.topBentTideSpec.vars) = true := by kernel_rfl
theorem j_stops : ((Rows.topBentTideRow.stops == [])) = true := by kernel_rfl
theorem j_knobs : ((Rows.topBentTideRow.knobs == [])) = true := by kernel_rfl
theorem j_inpl : ((Rows.topBentTideRow.inPlace == Tryz.prog.inPlace 3)) = true := by kernel_rfl
theorem j_unf : ((Rows.topBentTideRow.unfollowed == Tryz.prog.unfollowed 3)) = true := by kernel_rfl
theorem j_rec : ((Rows.topBentTideRow.recurses == Tryz.prog.recurses 3)) = true := by kernel_rfl
theorem j_vn : ((Rows.topBentTideRow.named == Tryz.prog.varsNamed 3)) = true := by kernel_rfl
theorem j_cm : ((Rows.topBentTideRow.maps == (Tryz.f3.params.toList ++ Rows.topBentTideSpec.plain.varTypes Tryz.prog).any (Tryz.prog.mapsRec ·))) = true := by kernel_rfl
theorem j_ci : ((Rows.topBentTideRow.ifaces == (Tryz.f3.params.toList ++ Rows.topBentTideSpec.plain.varTypes Tryz.prog).any (Tryz.prog.ifacesRec ·))) = true := by kernel_rfl
theorem j_mo : ((Rows.topBentTideRow.mapsOut == Tryz.prog.mapsAmong Tryz.f3.resultTypes.toList)) = true := by kernel_rfl
theorem j_lp : ((Rows.topBentTideRow.loops == (Tryz.f3.params.toList ++ Rows.topBentTideSpec.plain.varTypes Tryz.prog).any (Tryz.prog.loopsFrom ·))) = true := by kernel_rfl
theorem j_wk : ((Rows.topBentTideRow.wideKeys == (Tryz.f3.params.toList ++ Rows.topBentTideSpec.plain.varTypes Tryz.prog ++ Tryz.f3.resultTypes.toList).any (Tryz.prog.wideKeysFrom ·))) = true := by kernel_rfl
theorem j_vr : (Rows.topBentTideSpec.vars.all (Tryz.prog.varReadable ·)) = true := by kernel_rfl
theorem j_rt : (Tryz.f3.resultTypes.all (fun t => Tryz.prog.readableRec t && decide (t < Tryz.prog.types.size))) = true := by kernel_rfl
theorem j_io : ((Rows.topBentTideRow.ifacesOut == Tryz.f3.resultTypes.toList.any (Tryz.prog.ifacesRec ·))) = true := by kernel_rfl
theorem j_lo : ((Rows.topBentTideRow.loopsOut == Tryz.f3.resultTypes.toList.any (Tryz.prog.loopsFrom ·))) = true := by kernel_rfl
theorem j_pk : ((Rows.topBentTideRow.plainKeys == Tryz.prog.plainKeys)) = true := by kernel_rfl
theorem j_st : (Rows.topBentTideRow.shortTexts.isNone) = true := by kernel_rfl
theorem j_li : ((Rows.topBentTideRow.lifted == Tryz.prog.liftsFinal)) = true := by kernel_rfl
theorem j_mk : ((Tryz.prog.make == some Rows.topBentTideRow.make)) = true := by kernel_rfl
theorem j_kd : ((Rows.topBentTideRow.kinds == (if Rows.topBentTideRow.domain.isEmpty then [] else Tryz.f3.params.toList.map fun t => match Tryz.prog.underlying t with | some (.int k) => some k | _ => none))) = true := by kernel_rfl
theorem j_pn : ((Rows.topBentTideRow.pinned == Rows.topBentTideRow.pinnedBy)) = true := by kernel_rfl
theorem j_ve : ((Rows.topBentTideRow.veiled == (Tryz.f3.params.toList ++ Rows.topBentTideSpec.plain.varTypes Tryz.prog ++ Tryz.f3.resultTypes.toList).any (Tryz.prog.veiledRec ·))) = true := by kernel_rfl
theorem j_vf : (Rows.topBentTideRow.veiledFits Tryz.prog Tryz.f3.params.toList (Tryz.f3.params.toList ++ Rows.topBentTideSpec.plain.varTypes Tryz.prog ++ Tryz.f3.resultTypes.toList)) = true := by kernel_rfl
set_option maxRecDepth 100000 in
theorem closed : joinedFacts Tryz.prog 3 Tryz.f3 Rows.topBentTideSpec Rows.topBentTideRow = true := (and_t (and_t (and_t (and_t (and_t (and_t (and_t (and_t (and_t (and_t (and_t (and_t (and_t (and_t (and_t (and_t (and_t (and_t (and_t (and_t (and_t (and_t (and_t (and_t (and_t (and_t (and_t (and_t (and_t (and_t (and_t j_wf j_laid) j_maps) j_prm) j_named) j_stops) j_pstops) j_knobs) j_sk) j_inpl) j_unf) j_rec) j_vn) j_cm) j_ci) j_mo) j_lp) j_wk) j_vr) j_rt) j_io) j_lo) j_pk) j_st) j_sh) j_me) j_li) j_mk) j_kd) j_pn) j_ve) j_vf)
end Go.Proofs.YtnehaifgcegemaaGreat.topBentTide
