/- The law TopSteadyTide: called with whatever arguments, in whatever memory, it answers true, and turns nothing that was there. Conditions: none. -/
import Derived.Test.YthoeeeehfkenkaaGreatRows
import Derived.Test.YthoeeeehfkenkaaGreatM2
import Derived.Test.YthoeeeehfkenkaaGreatM10
import Derived.Test.YthoeeeehfkenkaaGreatWz
import Derived.Test.YthoeeeehfkenkaaGreatJTopSteadyTide
import Derived.OpenShut
namespace Go.Proofs.YthoeeeehfkenkaaGreat.topSteadyTide
open Go Go.TH Go.ChangeShapes Go.WideShapes Go.ChangeAt Go.RowKit
theorem own:ownKnob Tryz.prog.godebug=none:=by kernel_rfl
theorem laid:laidOutB Tryz.prog=true:=j_laid
set_option maxRecDepth 100000 in
theorem lifted (os:Os) (started:os.Started) (H:Type) (enc:TypeId × Value→H) :
    ReturnsInHanded {} Tryz.checked os 3 .any (Rows.topSteadyTideSpec.pre6 enc Tryz.prog Tryz.f3 Rows.topSteadyTideRow.domain false) (Rows.topSteadyTideSpec.post enc Tryz.prog Tryz.f3 false true false false):=by
  refine returnsInHanded_of_change (C:=Tryz.checked) own started (by kernel_rfl) Tryz.func3
    (ChangeSpec.witness6 (enc:=enc) (C:=Tryz.checked) false ⟨#[],#[.agg #[.int .i64 0,.slice none 0 0]],[]⟩ 8 (by kernel_rfl) (by kernel_rfl) (by kernel_rfl) (by kernel_rfl)) ?_
  intro W base args ds gs before hval0 hW hcnd _
  have hval:∀ (j:Nat) t v,Tryz.f3.params[j]?=some t→args[j]?=some v→Value.okWide Tryz.prog W .any base t v:=hval0
  have hW':=hW
  have hlt:∀ x∈before,x.block<W.heap.size:=fun x hx=>hW.lt x hx
  obtain ⟨p,q,hA0,hV,rfl,hfz,hnd⟩:=hW
  have hA:DataW.TrodAll enc Tryz.prog W 0 (fun _=>true) true Tryz.f3.params.toList args.toList ds p:=hA0
  rw [Tryz.params3] at hA hval
  obtain ⟨v0,vs0,d0,ds0,p0,q0,hargs,rfl,rfl,h0,r0⟩:=trodAll_cons hA
  obtain ⟨rfl,rfl,rfl⟩:=trodAll_nil r0
  obtain ⟨rfl,rfl⟩:=trodVars_none hV
  obtain rfl:args=#[v0]:=Array.toList_inj.1 hargs
  clear hA0 hval0 hargs
  simp only [List.append_nil] at hW' hlt
  have k0:=h0
  obtain ⟨m0,o0,rs0,rfl,hR0⟩:=open_test (hval 0 24 v0 rfl rfl) h0
  refine (law_SteadyTide y5 W m0 o0 rs0 hR0).calls.mono fun e W' ⟨he,hg⟩=>?_
  subst he
  have st:∀ {t v d ps},Tryz.prog.readableRec t=true→t<Tryz.prog.types.size→DataW.Trod enc Tryz.prog W 0 (fun _=>true) true t v d ps→(∀ x∈ps,x∈p0)→∀ sp:Nat→Bool,(∀ x∈p0,sp x.block=true)→DataW.Trod enc Tryz.prog W' 0 sp true t v d ps:=fun hr hs h hin sp hsp=>trod_stay laid hr hs h hg (fun x hx=>hlt x (hin x hx)) sp (fun x hx=>hsp x (hin x hx))
  have ha:∀ sp:Nat→Bool,(∀ x∈p0,sp x.block=true)→DataW.TrodAll enc Tryz.prog W' 0 sp true [24] _ [d0] (p0++[]):=fun sp hsp=>trodAll_cons_mk (st (by kernel_rfl) (of_decide_eq_true (by kernel_rfl)) k0 (fun x hx=>by simp [hx]) sp hsp) trodAll_mk0
  simp only [List.append_nil] at ha
  exact ⟨_,rfl,post_law (pa:=p0) (pv:=[]) hW' (fun _ _ _=>(trodAll_cons_mk (shut_bool Tryz.underlying4 _) trodAll_mk0)) (fun sp hsp=>ha sp hsp) (fun _ _=>rfl) (by simp)
    hg (ok_one (by kernel_rfl) rfl (okWide_bool_mk Tryz.underlying4 _))⟩
theorem over:Rows.topSteadyTideRow.holds Tryz.pinned (OpenSpec.ofChange Rows.topSteadyTideSpec) :=
  OpenClaim.holds_of_wide 3 Tryz.f3 rfl rfl rfl rfl rfl rfl rfl ⟨rfl,rfl,rfl,rfl,rfl⟩ rfl rfl rfl rfl rfl (by kernel_rfl) Tryz.func3 closed
    (of_decide_eq_true (by kernel_rfl)) (by unfold Func.isWrapper;first | (rw [if_pos (by decide +kernel)];kernel_rfl) | (rw [if_neg (by decide +kernel)];exact ⟨rfl,rfl⟩))
    (fun os started H enc _=>lifted os started H enc)
theorem proved:Rows.TopSteadyTideSaid:=over
end Go.Proofs.YthoeeeehfkenkaaGreat.topSteadyTide
