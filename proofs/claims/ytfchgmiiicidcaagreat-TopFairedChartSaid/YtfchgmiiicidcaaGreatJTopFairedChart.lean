/-
  What is proved here: closed facts of the program and of a row. Conditions: none.
-/
import Derived.Test.YtfchgmiiicidcaaGreatJa
namespace Go.Proofs.YtfchgmiiicidcaaGreat.topFairedChart
open Go Go.TH
theorem j_wf:(Rows.topFairedChartRow.wf (OpenSpec.ofChange Rows.topFairedChartSpec))=true:=by kernel_rfl
theorem j_prm:(Tryz.f5.params.all (Tryz.prog.readableRec ·))=true:=by kernel_rfl
theorem j_named:(namedTie Tryz.prog Rows.topFairedChartRow.named Rows.topFairedChartSpec.vars)=true:=by kernel_rfl
theorem j_stops:((Rows.topFairedChartRow.stops==[]))=true:=by kernel_rfl
theorem j_knobs:((Rows.topFairedChartRow.knobs==[]))=true:=by kernel_rfl
theorem j_inpl:((Rows.topFairedChartRow.inPlace==Tryz.prog.inPlace 5))=true:=by kernel_rfl
theorem j_unf:((Rows.topFairedChartRow.unfollowed==Tryz.prog.unfollowed 5))=true:=by kernel_rfl
theorem j_rec:((Rows.topFairedChartRow.recurses==Tryz.prog.recurses 5))=true:=by kernel_rfl
theorem j_vn:((Rows.topFairedChartRow.named==Tryz.prog.varsNamed 5))=true:=by kernel_rfl
theorem j_cm:((Rows.topFairedChartRow.maps==(Tryz.f5.params.toList++Rows.topFairedChartSpec.plain.varTypes Tryz.prog).any (Tryz.prog.mapsRec ·)))=true:=by kernel_rfl
theorem j_ci:((Rows.topFairedChartRow.ifaces==(Tryz.f5.params.toList++Rows.topFairedChartSpec.plain.varTypes Tryz.prog).any (Tryz.prog.ifacesRec ·)))=true:=by kernel_rfl
theorem j_mo:((Rows.topFairedChartRow.mapsOut==Tryz.prog.mapsAmong Tryz.f5.resultTypes.toList))=true:=by kernel_rfl
theorem j_lp:((Rows.topFairedChartRow.loops==(Tryz.f5.params.toList++Rows.topFairedChartSpec.plain.varTypes Tryz.prog).any (Tryz.prog.loopsFrom ·)))=true:=by kernel_rfl
theorem j_wk:((Rows.topFairedChartRow.wideKeys==(Tryz.f5.params.toList++Rows.topFairedChartSpec.plain.varTypes Tryz.prog++Tryz.f5.resultTypes.toList).any (Tryz.prog.wideKeysFrom ·)))=true:=by kernel_rfl
theorem j_vr:(Rows.topFairedChartSpec.vars.all (Tryz.prog.varReadable ·))=true:=by kernel_rfl
theorem j_rt:(Tryz.f5.resultTypes.all (fun t=>Tryz.prog.readableRec t&&decide (t<Tryz.prog.types.size)))=true:=by kernel_rfl
theorem j_io:((Rows.topFairedChartRow.ifacesOut==Tryz.f5.resultTypes.toList.any (Tryz.prog.ifacesRec ·)))=true:=by kernel_rfl
theorem j_lo:((Rows.topFairedChartRow.loopsOut==Tryz.f5.resultTypes.toList.any (Tryz.prog.loopsFrom ·)))=true:=by kernel_rfl
theorem j_pk:((Rows.topFairedChartRow.plainKeys==Tryz.prog.plainKeys))=true:=by kernel_rfl
theorem j_st:(Rows.topFairedChartRow.shortTexts.isNone)=true:=by kernel_rfl
theorem j_li:((Rows.topFairedChartRow.lifted==Tryz.prog.liftsFinal))=true:=by kernel_rfl
theorem j_mk:((Tryz.prog.make==some Rows.topFairedChartRow.make))=true:=by kernel_rfl
theorem j_kd:((Rows.topFairedChartRow.kinds==(if Rows.topFairedChartRow.domain.isEmpty then [] else Tryz.f5.params.toList.map fun t=>match Tryz.prog.underlying t with | some (.int k)=>some k | _=>none)))=true:=by kernel_rfl
theorem j_pn:((Rows.topFairedChartRow.pinned==Rows.topFairedChartRow.pinnedBy))=true:=by kernel_rfl
theorem j_ve:((Rows.topFairedChartRow.veiled==(Tryz.f5.params.toList++Rows.topFairedChartSpec.plain.varTypes Tryz.prog++Tryz.f5.resultTypes.toList).any (Tryz.prog.veiledRec ·)))=true:=by kernel_rfl
theorem j_vf:(Rows.topFairedChartRow.veiledFits Tryz.prog Tryz.f5.params.toList (Tryz.f5.params.toList++Rows.topFairedChartSpec.plain.varTypes Tryz.prog++Tryz.f5.resultTypes.toList))=true:=by kernel_rfl
set_option maxRecDepth 100000 in
theorem closed:joinedFacts Tryz.prog 5 Tryz.f5 Rows.topFairedChartSpec Rows.topFairedChartRow=true:=(and_t (and_t (and_t (and_t (and_t (and_t (and_t (and_t (and_t (and_t (and_t (and_t (and_t (and_t (and_t (and_t (and_t (and_t (and_t (and_t (and_t (and_t (and_t (and_t (and_t (and_t (and_t (and_t (and_t (and_t (and_t j_wf j_laid) j_maps) j_prm) j_named) j_stops) j_pstops) j_knobs) j_sk) j_inpl) j_unf) j_rec) j_vn) j_cm) j_ci) j_mo) j_lp) j_wk) j_vr) j_rt) j_io) j_lo) j_pk) j_st) j_sh) j_me) j_li) j_mk) j_kd) j_pn) j_ve) j_vf)
end Go.Proofs.YtfchgmiiicidcaaGreat.topFairedChart
