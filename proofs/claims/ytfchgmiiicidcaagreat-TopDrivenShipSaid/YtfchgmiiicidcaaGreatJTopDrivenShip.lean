/-
  What is proved here: closed facts of the program and of a row. Conditions: none.
-/
import Derived.Test.YtfchgmiiicidcaaGreatJa
namespace Go.Proofs.YtfchgmiiicidcaaGreat.topDrivenShip
open Go Go.TH
theorem j_wf:(Rows.topDrivenShipRow.wf (OpenSpec.ofChange Rows.topDrivenShipSpec))=true:=by kernel_rfl
theorem j_prm:(Tryz.f4.params.all (Tryz.prog.readableRec ·))=true:=by kernel_rfl
theorem j_named:(namedTie Tryz.prog Rows.topDrivenShipRow.named Rows.topDrivenShipSpec.vars)=true:=by kernel_rfl
theorem j_stops:((Rows.topDrivenShipRow.stops==[]))=true:=by kernel_rfl
theorem j_knobs:((Rows.topDrivenShipRow.knobs==[]))=true:=by kernel_rfl
theorem j_inpl:((Rows.topDrivenShipRow.inPlace==Tryz.prog.inPlace 4))=true:=by kernel_rfl
theorem j_unf:((Rows.topDrivenShipRow.unfollowed==Tryz.prog.unfollowed 4))=true:=by kernel_rfl
theorem j_rec:((Rows.topDrivenShipRow.recurses==Tryz.prog.recurses 4))=true:=by kernel_rfl
theorem j_vn:((Rows.topDrivenShipRow.named==Tryz.prog.varsNamed 4))=true:=by kernel_rfl
theorem j_cm:((Rows.topDrivenShipRow.maps==(Tryz.f4.params.toList++Rows.topDrivenShipSpec.plain.varTypes Tryz.prog).any (Tryz.prog.mapsRec ·)))=true:=by kernel_rfl
theorem j_ci:((Rows.topDrivenShipRow.ifaces==(Tryz.f4.params.toList++Rows.topDrivenShipSpec.plain.varTypes Tryz.prog).any (Tryz.prog.ifacesRec ·)))=true:=by kernel_rfl
theorem j_mo:((Rows.topDrivenShipRow.mapsOut==Tryz.prog.mapsAmong Tryz.f4.resultTypes.toList))=true:=by kernel_rfl
theorem j_lp:((Rows.topDrivenShipRow.loops==(Tryz.f4.params.toList++Rows.topDrivenShipSpec.plain.varTypes Tryz.prog).any (Tryz.prog.loopsFrom ·)))=true:=by kernel_rfl
theorem j_wk:((Rows.topDrivenShipRow.wideKeys==(Tryz.f4.params.toList++Rows.topDrivenShipSpec.plain.varTypes Tryz.prog++Tryz.f4.resultTypes.toList).any (Tryz.prog.wideKeysFrom ·)))=true:=by kernel_rfl
theorem j_vr:(Rows.topDrivenShipSpec.vars.all (Tryz.prog.varReadable ·))=true:=by kernel_rfl
theorem j_rt:(Tryz.f4.resultTypes.all (fun t=>Tryz.prog.readableRec t&&decide (t<Tryz.prog.types.size)))=true:=by kernel_rfl
theorem j_io:((Rows.topDrivenShipRow.ifacesOut==Tryz.f4.resultTypes.toList.any (Tryz.prog.ifacesRec ·)))=true:=by kernel_rfl
theorem j_lo:((Rows.topDrivenShipRow.loopsOut==Tryz.f4.resultTypes.toList.any (Tryz.prog.loopsFrom ·)))=true:=by kernel_rfl
theorem j_pk:((Rows.topDrivenShipRow.plainKeys==Tryz.prog.plainKeys))=true:=by kernel_rfl
theorem j_st:(Rows.topDrivenShipRow.shortTexts.isNone)=true:=by kernel_rfl
theorem j_li:((Rows.topDrivenShipRow.lifted==Tryz.prog.liftsFinal))=true:=by kernel_rfl
theorem j_mk:((Tryz.prog.make==some Rows.topDrivenShipRow.make))=true:=by kernel_rfl
theorem j_kd:((Rows.topDrivenShipRow.kinds==(if Rows.topDrivenShipRow.domain.isEmpty then [] else Tryz.f4.params.toList.map fun t=>match Tryz.prog.underlying t with | some (.int k)=>some k | _=>none)))=true:=by kernel_rfl
theorem j_pn:((Rows.topDrivenShipRow.pinned==Rows.topDrivenShipRow.pinnedBy))=true:=by kernel_rfl
theorem j_ve:((Rows.topDrivenShipRow.veiled==(Tryz.f4.params.toList++Rows.topDrivenShipSpec.plain.varTypes Tryz.prog++Tryz.f4.resultTypes.toList).any (Tryz.prog.veiledRec ·)))=true:=by kernel_rfl
theorem j_vf:(Rows.topDrivenShipRow.veiledFits Tryz.prog Tryz.f4.params.toList (Tryz.f4.params.toList++Rows.topDrivenShipSpec.plain.varTypes Tryz.prog++Tryz.f4.resultTypes.toList))=true:=by kernel_rfl
set_option maxRecDepth 100000 in
theorem closed:joinedFacts Tryz.prog 4 Tryz.f4 Rows.topDrivenShipSpec Rows.topDrivenShipRow=true:=(and_t (and_t (and_t (and_t (and_t (and_t (and_t (and_t (and_t (and_t (and_t (and_t (and_t (and_t (and_t (and_t (and_t (and_t (and_t (and_t (and_t (and_t (and_t (and_t (and_t (and_t (and_t (and_t (and_t (and_t (and_t j_wf j_laid) j_maps) j_prm) j_named) j_stops) j_pstops) j_knobs) j_sk) j_inpl) j_unf) j_rec) j_vn) j_cm) j_ci) j_mo) j_lp) j_wk) j_vr) j_rt) j_io) j_lo) j_pk) j_st) j_sh) j_me) j_li) j_mk) j_kd) j_pn) j_ve) j_vf)
end Go.Proofs.YtfchgmiiicidcaaGreat.topDrivenShip
