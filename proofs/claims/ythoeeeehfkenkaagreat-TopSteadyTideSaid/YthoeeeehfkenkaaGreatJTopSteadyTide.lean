/-
  What is proved here: closed facts of the program and of a row. Conditions: none.
-/
import Derived.Test.YthoeeeehfkenkaaGreatJa
namespace Go.Proofs.YthoeeeehfkenkaaGreat.topSteadyTide
open Go Go.TH
theorem j_wf:(Rows.topSteadyTideRow.wf (OpenSpec.ofChange Rows.topSteadyTideSpec))=true:=by kernel_rfl
theorem j_prm:(Tryz.f3.params.all (Tryz.prog.readableRec ·))=true:=by kernel_rfl
theorem j_named:(namedTie Tryz.prog Rows.topSteadyTideRow.named Rows.topSteadyTideSpec.vars)=true:=by kernel_rfl
theorem j_stops:((Rows.topSteadyTideRow.stops==[]))=true:=by kernel_rfl
theorem j_knobs:((Rows.topSteadyTideRow.knobs==[]))=true:=by kernel_rfl
theorem j_inpl:((Rows.topSteadyTideRow.inPlace==Tryz.prog.inPlace 3))=true:=by kernel_rfl
theorem j_unf:((Rows.topSteadyTideRow.unfollowed==Tryz.prog.unfollowed 3))=true:=by kernel_rfl
theorem j_rec:((Rows.topSteadyTideRow.recurses==Tryz.prog.recurses 3))=true:=by kernel_rfl
theorem j_vn:((Rows.topSteadyTideRow.named==Tryz.prog.varsNamed 3))=true:=by kernel_rfl
theorem j_cm:((Rows.topSteadyTideRow.maps==(Tryz.f3.params.toList++Rows.topSteadyTideSpec.plain.varTypes Tryz.prog).any (Tryz.prog.mapsRec ·)))=true:=by kernel_rfl
theorem j_ci:((Rows.topSteadyTideRow.ifaces==(Tryz.f3.params.toList++Rows.topSteadyTideSpec.plain.varTypes Tryz.prog).any (Tryz.prog.ifacesRec ·)))=true:=by kernel_rfl
theorem j_mo:((Rows.topSteadyTideRow.mapsOut==Tryz.prog.mapsAmong Tryz.f3.resultTypes.toList))=true:=by kernel_rfl
theorem j_lp:((Rows.topSteadyTideRow.loops==(Tryz.f3.params.toList++Rows.topSteadyTideSpec.plain.varTypes Tryz.prog).any (Tryz.prog.loopsFrom ·)))=true:=by kernel_rfl
theorem j_wk:((Rows.topSteadyTideRow.wideKeys==(Tryz.f3.params.toList++Rows.topSteadyTideSpec.plain.varTypes Tryz.prog++Tryz.f3.resultTypes.toList).any (Tryz.prog.wideKeysFrom ·)))=true:=by kernel_rfl
theorem j_vr:(Rows.topSteadyTideSpec.vars.all (Tryz.prog.varReadable ·))=true:=by kernel_rfl
theorem j_rt:(Tryz.f3.resultTypes.all (fun t=>Tryz.prog.readableRec t&&decide (t<Tryz.prog.types.size)))=true:=by kernel_rfl
theorem j_io:((Rows.topSteadyTideRow.ifacesOut==Tryz.f3.resultTypes.toList.any (Tryz.prog.ifacesRec ·)))=true:=by kernel_rfl
theorem j_lo:((Rows.topSteadyTideRow.loopsOut==Tryz.f3.resultTypes.toList.any (Tryz.prog.loopsFrom ·)))=true:=by kernel_rfl
theorem j_pk:((Rows.topSteadyTideRow.plainKeys==Tryz.prog.plainKeys))=true:=by kernel_rfl
theorem j_st:(Rows.topSteadyTideRow.shortTexts.isNone)=true:=by kernel_rfl
theorem j_li:((Rows.topSteadyTideRow.lifted==Tryz.prog.liftsFinal))=true:=by kernel_rfl
theorem j_mk:((Tryz.prog.make==some Rows.topSteadyTideRow.make))=true:=by kernel_rfl
theorem j_kd:((Rows.topSteadyTideRow.kinds==(if Rows.topSteadyTideRow.domain.isEmpty then [] else Tryz.f3.params.toList.map fun t=>match Tryz.prog.underlying t with | some (.int k)=>some k | _=>none)))=true:=by kernel_rfl
theorem j_pn:((Rows.topSteadyTideRow.pinned==Rows.topSteadyTideRow.pinnedBy))=true:=by kernel_rfl
theorem j_ve:((Rows.topSteadyTideRow.veiled==(Tryz.f3.params.toList++Rows.topSteadyTideSpec.plain.varTypes Tryz.prog++Tryz.f3.resultTypes.toList).any (Tryz.prog.veiledRec ·)))=true:=by kernel_rfl
theorem j_vf:(Rows.topSteadyTideRow.veiledFits Tryz.prog Tryz.f3.params.toList (Tryz.f3.params.toList++Rows.topSteadyTideSpec.plain.varTypes Tryz.prog++Tryz.f3.resultTypes.toList))=true:=by kernel_rfl
set_option maxRecDepth 100000 in
theorem closed:joinedFacts Tryz.prog 3 Tryz.f3 Rows.topSteadyTideSpec Rows.topSteadyTideRow=true:=(and_t (and_t (and_t (and_t (and_t (and_t (and_t (and_t (and_t (and_t (and_t (and_t (and_t (and_t (and_t (and_t (and_t (and_t (and_t (and_t (and_t (and_t (and_t (and_t (and_t (and_t (and_t (and_t (and_t (and_t (and_t j_wf j_laid) j_maps) j_prm) j_named) j_stops) j_pstops) j_knobs) j_sk) j_inpl) j_unf) j_rec) j_vn) j_cm) j_ci) j_mo) j_lp) j_wk) j_vr) j_rt) j_io) j_lo) j_pk) j_st) j_sh) j_me) j_li) j_mk) j_kd) j_pn) j_ve) j_vf)
end Go.Proofs.YthoeeeehfkenkaaGreat.topSteadyTide
