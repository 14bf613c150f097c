/-
  What is proved here: closed facts of the program and of a row. Conditions: none.
-/
import Derived.Test.YtfchgmiiicidcaaGreatJa
namespace Go.Proofs.YtfchgmiiicidcaaGreat.topNeededSpan
open Go Go.TH
theorem j_wf:(Rows.topNeededSpanRow.wf (OpenSpec.ofChange Rows.topNeededSpanSpec))=true:=by kernel_rfl
theorem j_prm:(Tryz.f6.params.all (Tryz.prog.readableRec ·))=true:=by kernel_rfl
theorem j_named:(namedTie Tryz.prog Rows.topNeededSpanRow.named Rows.topNeededSpanSpec.vars)=true:=by kernel_rfl
theorem j_stops:((Rows.topNeededSpanRow.stops==[]))=true:=by kernel_rfl
theorem j_knobs:((Rows.topNeededSpanRow.knobs==[]))=true:=by kernel_rfl
theorem j_inpl:((Rows.topNeededSpanRow.inPlace==Tryz.prog.inPlace 6))=true:=by kernel_rfl
theorem j_unf:((Rows.topNeededSpanRow.unfollowed==Tryz.prog.unfollowed 6))=true:=by kernel_rfl
theorem j_rec:((Rows.topNeededSpanRow.recurses==Tryz.prog.recurses 6))=true:=by kernel_rfl
theorem j_vn:((Rows.topNeededSpanRow.named==Tryz.prog.varsNamed 6))=true:=by kernel_rfl
theorem j_cm:((Rows.topNeededSpanRow.maps==(Tryz.f6.params.toList++Rows.topNeededSpanSpec.plain.varTypes Tryz.prog).any (Tryz.prog.mapsRec ·)))=true:=by kernel_rfl
theorem j_ci:((Rows.topNeededSpanRow.ifaces==(Tryz.f6.params.toList++Rows.topNeededSpanSpec.plain.varTypes Tryz.prog).any (Tryz.prog.ifacesRec ·)))=true:=by kernel_rfl
theorem j_mo:((Rows.topNeededSpanRow.mapsOut==Tryz.prog.mapsAmong Tryz.f6.resultTypes.toList))=true:=by kernel_rfl
theorem j_lp:((Rows.topNeededSpanRow.loops==(Tryz.f6.params.toList++Rows.topNeededSpanSpec.plain.varTypes Tryz.prog).any (Tryz.prog.loopsFrom ·)))=true:=by kernel_rfl
theorem j_wk:((Rows.topNeededSpanRow.wideKeys==(Tryz.f6.params.toList++Rows.topNeededSpanSpec.plain.varTypes Tryz.prog++Tryz.f6.resultTypes.toList).any (Tryz.prog.wideKeysFrom ·)))=true:=by kernel_rfl
theorem j_vr:(Rows.topNeededSpanSpec.vars.all (Tryz.prog.varReadable ·))=true:=by kernel_rfl
theorem j_rt:(Tryz.f6.resultTypes.all (fun t=>Tryz.prog.readableRec t&&decide (t<Tryz.prog.types.size)))=true:=by kernel_rfl
theorem j_io:((Rows.topNeededSpanRow.ifacesOut==Tryz.f6.resultTypes.toList.any (Tryz.prog.ifacesRec ·)))=true:=by kernel_rfl
theorem j_lo:((Rows.topNeededSpanRow.loopsOut==Tryz.f6.resultTypes.toList.any (Tryz.prog.loopsFrom ·)))=true:=by kernel_rfl
theorem j_pk:((Rows.topNeededSpanRow.plainKeys==Tryz.prog.plainKeys))=true:=by kernel_rfl
theorem j_st:(Rows.topNeededSpanRow.shortTexts.isNone)=true:=by kernel_rfl
theorem j_li:((Rows.topNeededSpanRow.lifted==Tryz.prog.liftsFinal))=true:=by kernel_rfl
theorem j_mk:((Tryz.prog.make==some Rows.topNeededSpanRow.make))=true:=by kernel_rfl
theorem j_kd:((Rows.topNeededSpanRow.kinds==(if Rows.topNeededSpanRow.domain.isEmpty then [] else Tryz.f6.params.toList.map fun t=>match Tryz.prog.underlying t with | some (.int k)=>some k | _=>none)))=true:=by kernel_rfl
theorem j_pn:((Rows.topNeededSpanRow.pinned==Rows.topNeededSpanRow.pinnedBy))=true:=by kernel_rfl
theorem j_ve:((Rows.topNeededSpanRow.veiled==(Tryz.f6.params.toList++Rows.topNeededSpanSpec.plain.varTypes Tryz.prog++Tryz.f6.resultTypes.toList).any (Tryz.prog.veiledRec ·)))=true:=by kernel_rfl
theorem j_vf:(Rows.topNeededSpanRow.veiledFits Tryz.prog Tryz.f6.params.toList (Tryz.f6.params.toList++Rows.topNeededSpanSpec.plain.varTypes Tryz.prog++Tryz.f6.resultTypes.toList))=true:=by kernel_rfl
set_option maxRecDepth 100000 in
theorem closed:joinedFacts Tryz.prog 6 Tryz.f6 Rows.topNeededSpanSpec Rows.topNeededSpanRow=true:=(and_t (and_t (and_t (and_t (and_t (and_t (and_t (and_t (and_t (and_t (and_t (and_t (and_t (and_t (and_t (and_t (and_t (and_t (and_t (and_t (and_t (and_t (and_t (and_t (and_t (and_t (and_t (and_t (and_t (and_t (and_t j_wf j_laid) j_maps) j_prm) j_named) j_stops) j_pstops) j_knobs) j_sk) j_inpl) j_unf) j_rec) j_vn) j_cm) j_ci) j_mo) j_lp) j_wk) j_vr) j_rt) j_io) j_lo) j_pk) j_st) j_sh) j_me) j_li) j_mk) j_kd) j_pn) j_ve) j_vf)
end Go.Proofs.YtfchgmiiicidcaaGreat.topNeededSpan
