/-
  What is proved here: closed facts of the program and of a row. Conditions: none.
-/
import Derived.Test.YtfchgmiiicidcaaGreatJa
namespace Go.Proofs.YtfchgmiiicidcaaGreat.topChartRuns
open Go Go.TH
theorem j_wf:(Rows.topChartRunsRow.wf (OpenSpec.ofChange Rows.topChartRunsSpec))=true:=by kernel_rfl
theorem j_prm:(Tryz.f3.params.all (Tryz.prog.readableRec ·))=true:=by kernel_rfl
theorem j_named:(namedTie Tryz.prog Rows.topChartRunsRow.named Rows.topChartRunsSpec.vars)=true:=by kernel_rfl
theorem j_stops:((Rows.topChartRunsRow.stops==[]))=true:=by kernel_rfl
theorem j_knobs:((Rows.topChartRunsRow.knobs==[]))=true:=by kernel_rfl
theorem j_inpl:((Rows.topChartRunsRow.inPlace==Tryz.prog.inPlace 3))=true:=by kernel_rfl
theorem j_unf:((Rows.topChartRunsRow.unfollowed==Tryz.prog.unfollowed 3))=true:=by kernel_rfl
theorem j_rec:((Rows.topChartRunsRow.recurses==Tryz.prog.recurses 3))=true:=by kernel_rfl
theorem j_vn:((Rows.topChartRunsRow.named==Tryz.prog.varsNamed 3))=true:=by kernel_rfl
theorem j_cm:((Rows.topChartRunsRow.maps==(Tryz.f3.params.toList++Rows.topChartRunsSpec.plain.varTypes Tryz.prog).any (Tryz.prog.mapsRec ·)))=true:=by kernel_rfl
theorem j_ci:((Rows.topChartRunsRow.ifaces==(Tryz.f3.params.toList++Rows.topChartRunsSpec.plain.varTypes Tryz.prog).any (Tryz.prog.ifacesRec ·)))=true:=by kernel_rfl
theorem j_mo:((Rows.topChartRunsRow.mapsOut==Tryz.prog.mapsAmong Tryz.f3.resultTypes.toList))=true:=by kernel_rfl
theorem j_lp:((Rows.topChartRunsRow.loops==(Tryz.f3.params.toList++Rows.topChartRunsSpec.plain.varTypes Tryz.prog).any (Tryz.prog.loopsFrom ·)))=true:=by kernel_rfl
theorem j_wk:((Rows.topChartRunsRow.wideKeys==(Tryz.f3.params.toList++Rows.topChartRunsSpec.plain.varTypes Tryz.prog++Tryz.f3.resultTypes.toList).any (Tryz.prog.wideKeysFrom ·)))=true:=by kernel_rfl
theorem j_vr:(Rows.topChartRunsSpec.vars.all (Tryz.prog.varReadable ·))=true:=by kernel_rfl
theorem j_rt:(Tryz.f3.resultTypes.all (fun t=>Tryz.prog.readableRec t&&decide (t<Tryz.prog.types.size)))=true:=by kernel_rfl
theorem j_io:((Rows.topChartRunsRow.ifacesOut==Tryz.f3.resultTypes.toList.any (Tryz.prog.ifacesRec ·)))=true:=by kernel_rfl
theorem j_lo:((Rows.topChartRunsRow.loopsOut==Tryz.f3.resultTypes.toList.any (Tryz.prog.loopsFrom ·)))=true:=by kernel_rfl
theorem j_pk:((Rows.topChartRunsRow.plainKeys==Tryz.prog.plainKeys))=true:=by kernel_rfl
theorem j_st:(Rows.topChartRunsRow.shortTexts.isNone)=true:=by kernel_rfl
theorem j_li:((Rows.topChartRunsRow.lifted==Tryz.prog.liftsFinal))=true:=by kernel_rfl
theorem j_mk:((Tryz.prog.make==some Rows.topChartRunsRow.make))=true:=by kernel_rfl
theorem j_kd:((Rows.topChartRunsRow.kinds==(if Rows.topChartRunsRow.domain.isEmpty then [] else Tryz.f3.params.toList.map fun t=>match Tryz.prog.underlying t with | some (.int k)=>some k | _=>none)))=true:=by kernel_rfl
theorem j_pn:((Rows.topChartRunsRow.pinned==Rows.topChartRunsRow.pinnedBy))=true:=by kernel_rfl
theorem j_ve:((Rows.topChartRunsRow.veiled==(Tryz.f3.params.toList++Rows.topChartRunsSpec.plain.varTypes Tryz.prog++Tryz.f3.resultTypes.toList).any (Tryz.prog.veiledRec ·)))=true:=by kernel_rfl
theorem j_vf:(Rows.topChartRunsRow.veiledFits Tryz.prog Tryz.f3.params.toList (Tryz.f3.params.toList++Rows.topChartRunsSpec.plain.varTypes Tryz.prog++Tryz.f3.resultTypes.toList))=true:=by kernel_rfl
set_option maxRecDepth 100000 in
theorem closed:joinedFacts Tryz.prog 3 Tryz.f3 Rows.topChartRunsSpec Rows.topChartRunsRow=true:=(and_t (and_t (and_t (and_t (and_t (and_t (and_t (and_t (and_t (and_t (and_t (and_t (and_t (and_t (and_t (and_t (and_t (and_t (and_t (and_t (and_t (and_t (and_t (and_t (and_t (and_t (and_t (and_t (and_t (and_t (and_t j_wf j_laid) j_maps) j_prm) j_named) j_stops) j_pstops) j_knobs) j_sk) j_inpl) j_unf) j_rec) j_vn) j_cm) j_ci) j_mo) j_lp) j_wk) j_vr) j_rt) j_io) j_lo) j_pk) j_st) j_sh) j_me) j_li) j_mk) j_kd) j_pn) j_ve) j_vf)
end Go.Proofs.YtfchgmiiicidcaaGreat.topChartRuns
