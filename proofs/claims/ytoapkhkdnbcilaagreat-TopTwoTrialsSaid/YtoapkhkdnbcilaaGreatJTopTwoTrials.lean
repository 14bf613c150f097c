/-
  What is proved here: closed facts of the program and of a row. Conditions: none.
-/
import Derived.Test.YtoapkhkdnbcilaaGreatJa
namespace Go.Proofs.YtoapkhkdnbcilaaGreat.topTwoTrials
open Go Go.TH
theorem j_wf:(Rows.topTwoTrialsRow.wf (OpenSpec.ofChange Rows.topTwoTrialsSpec))=true:=by kernel_rfl
theorem j_prm:(Tryz.f3.params.all (Tryz.prog.readableRec ·))=true:=by kernel_rfl
theorem j_named:(namedTie Tryz.prog Rows.topTwoTrialsRow.named Rows.topTwoTrialsSpec.vars)=true:=by kernel_rfl
theorem j_stops:((Rows.topTwoTrialsRow.stops==[]))=true:=by kernel_rfl
theorem j_knobs:((Rows.topTwoTrialsRow.knobs==[]))=true:=by kernel_rfl
theorem j_inpl:((Rows.topTwoTrialsRow.inPlace==Tryz.prog.inPlace 3))=true:=by kernel_rfl
theorem j_unf:((Rows.topTwoTrialsRow.unfollowed==Tryz.prog.unfollowed 3))=true:=by kernel_rfl
theorem j_rec:((Rows.topTwoTrialsRow.recurses==Tryz.prog.recurses 3))=true:=by kernel_rfl
theorem j_vn:((Rows.topTwoTrialsRow.named==Tryz.prog.varsNamed 3))=true:=by kernel_rfl
theorem j_cm:((Rows.topTwoTrialsRow.maps==(Tryz.f3.params.toList++Rows.topTwoTrialsSpec.plain.varTypes Tryz.prog).any (Tryz.prog.mapsRec ·)))=true:=by kernel_rfl
theorem j_ci:((Rows.topTwoTrialsRow.ifaces==(Tryz.f3.params.toList++Rows.topTwoTrialsSpec.plain.varTypes Tryz.prog).any (Tryz.prog.ifacesRec ·)))=true:=by kernel_rfl
theorem j_mo:((Rows.topTwoTrialsRow.mapsOut==Tryz.prog.mapsAmong Tryz.f3.resultTypes.toList))=true:=by kernel_rfl
theorem j_lp:((Rows.topTwoTrialsRow.loops==(Tryz.f3.params.toList++Rows.topTwoTrialsSpec.plain.varTypes Tryz.prog).any (Tryz.prog.loopsFrom ·)))=true:=by kernel_rfl
theorem j_wk:((Rows.topTwoTrialsRow.wideKeys==(Tryz.f3.params.toList++Rows.topTwoTrialsSpec.plain.varTypes Tryz.prog++Tryz.f3.resultTypes.toList).any (Tryz.prog.wideKeysFrom ·)))=true:=by kernel_rfl
theorem j_vr:(Rows.topTwoTrialsSpec.vars.all (Tryz.prog.varReadable ·))=true:=by kernel_rfl
theorem j_rt:(Tryz.f3.resultTypes.all (fun t=>Tryz.prog.readableRec t&&decide (t<Tryz.prog.types.size)))=true:=by kernel_rfl
theorem j_io:((Rows.topTwoTrialsRow.ifacesOut==Tryz.f3.resultTypes.toList.any (Tryz.prog.ifacesRec ·)))=true:=by kernel_rfl
theorem j_lo:((Rows.topTwoTrialsRow.loopsOut==Tryz.f3.resultTypes.toList.any (Tryz.prog.loopsFrom ·)))=true:=by kernel_rfl
theorem j_pk:((Rows.topTwoTrialsRow.plainKeys==Tryz.prog.plainKeys))=true:=by kernel_rfl
theorem j_st:(Rows.topTwoTrialsRow.shortTexts.isNone)=true:=by kernel_rfl
theorem j_li:((Rows.topTwoTrialsRow.lifted==Tryz.prog.liftsFinal))=true:=by kernel_rfl
theorem j_mk:((Tryz.prog.make==some Rows.topTwoTrialsRow.make))=true:=by kernel_rfl
theorem j_kd:((Rows.topTwoTrialsRow.kinds==(if Rows.topTwoTrialsRow.domain.isEmpty then [] else Tryz.f3.params.toList.map fun t=>match Tryz.prog.underlying t with | some (.int k)=>some k | _=>none)))=true:=by kernel_rfl
theorem j_pn:((Rows.topTwoTrialsRow.pinned==Rows.topTwoTrialsRow.pinnedBy))=true:=by kernel_rfl
theorem j_ve:((Rows.topTwoTrialsRow.veiled==(Tryz.f3.params.toList++Rows.topTwoTrialsSpec.plain.varTypes Tryz.prog++Tryz.f3.resultTypes.toList).any (Tryz.prog.veiledRec ·)))=true:=by kernel_rfl
theorem j_vf:(Rows.topTwoTrialsRow.veiledFits Tryz.prog Tryz.f3.params.toList (Tryz.f3.params.toList++Rows.topTwoTrialsSpec.plain.varTypes Tryz.prog++Tryz.f3.resultTypes.toList))=true:=by kernel_rfl
set_option maxRecDepth 100000 in
theorem closed:joinedFacts Tryz.prog 3 Tryz.f3 Rows.topTwoTrialsSpec Rows.topTwoTrialsRow=true:=(and_t (and_t (and_t (and_t (and_t (and_t (and_t (and_t (and_t (and_t (and_t (and_t (and_t (and_t (and_t (and_t (and_t (and_t (and_t (and_t (and_t (and_t (and_t (and_t (and_t (and_t (and_t (and_t (and_t (and_t (and_t j_wf j_laid) j_maps) j_prm) j_named) j_stops) j_pstops) j_knobs) j_sk) j_inpl) j_unf) j_rec) j_vn) j_cm) j_ci) j_mo) j_lp) j_wk) j_vr) j_rt) j_io) j_lo) j_pk) j_st) j_sh) j_me) j_li) j_mk) j_kd) j_pn) j_ve) j_vf)
end Go.Proofs.YtoapkhkdnbcilaaGreat.topTwoTrials
