/- The law TopTwoTrials: called with whatever arguments, in whatever memory, it answers true, and turns nothing that was there. Conditions: none. -/
import Derived.Test.YtoapkhkdnbcilaaGreatRows
import Derived.Test.YtoapkhkdnbcilaaGreatM6
import Derived.Test.YtoapkhkdnbcilaaGreatM10
import Derived.Test.YtoapkhkdnbcilaaGreatWz
import Derived.Test.YtoapkhkdnbcilaaGreatJTopTwoTrials
import Derived.OpenShut
namespace Go.Proofs.YtoapkhkdnbcilaaGreat.topTwoTrials
open Go Go.TH Go.ChangeShapes Go.WideShapes Go.ChangeAt Go.RowKit
theorem own:ownKnob Tryz.prog.godebug=none:=by kernel_rfl
theorem laid:laidOutB Tryz.prog=true:=j_laid
set_option maxRecDepth 100000 in
theorem lifted (os:Os) (started:os.Started) (H:Type) (enc:TypeId × Value→H) :
    ReturnsInHanded {} Tryz.checked os 3 .any (Rows.topTwoTrialsSpec.pre6 enc Tryz.prog Tryz.f3 Rows.topTwoTrialsRow.domain false) (Rows.topTwoTrialsSpec.post enc Tryz.prog Tryz.f3 false true false false):=by
  refine returnsInHanded_of_change (C:=Tryz.checked) own started (by kernel_rfl) Tryz.func3
    (ChangeSpec.witness6 (enc:=enc) (C:=Tryz.checked) false ⟨#[],#[.slice none 0 0,.int .u16 0,.slice none 0 0,.slice none 0 0],[]⟩ 8 (by kernel_rfl) (by kernel_rfl) (by kernel_rfl) (by kernel_rfl)) ?_
  intro W base args ds gs before hval0 hW hcnd _
  have hval:∀ (j:Nat) t v,Tryz.f3.params[j]?=some t→args[j]?=some v→Value.okWide Tryz.prog W .any base t v:=hval0
  have hW':=hW
  have hlt:∀ x∈before,x.block<W.heap.size:=fun x hx=>hW.lt x hx
  obtain ⟨p,q,hA0,hV,rfl,hfz,hnd⟩:=hW
  have hA:DataW.TrodAll enc Tryz.prog W 0 (fun _=>true) true Tryz.f3.params.toList args.toList ds p:=hA0
  rw [Tryz.params3] at hA hval
  obtain ⟨v0,vs0,d0,ds0,p0,q0,hargs,rfl,rfl,h0,r0⟩:=trodAll_cons hA
  obtain ⟨v1,vs1,d1,ds1,p1,q1,rfl,rfl,rfl,h1,r1⟩:=trodAll_cons r0
  obtain ⟨v2,vs2,d2,ds2,p2,q2,rfl,rfl,rfl,h2,r2⟩:=trodAll_cons r1
  obtain ⟨v3,vs3,d3,ds3,p3,q3,rfl,rfl,rfl,h3,r3⟩:=trodAll_cons r2
  obtain ⟨rfl,rfl,rfl⟩:=trodAll_nil r3
  obtain ⟨rfl,rfl⟩:=trodVars_none hV
  obtain rfl:args=#[v0,v1,v2,v3]:=Array.toList_inj.1 hargs
  clear hA0 hval0 hargs
  simp only [List.append_nil] at hW' hlt
  have k0:=h0
  obtain ⟨ms0,R0,hM0⟩:=open_trials (hval 0 22 v0 rfl rfl) h0
  have k1:=h1
  obtain ⟨n1,rfl,hn1⟩:=open_u16 (hval 1 23 v1 rfl rfl) h1
  have k2:=h2
  obtain ⟨rv2,TD2,hT2,ht2⟩:=open_tides (hval 2 24 v2 rfl rfl) h2
  have k3:=h3
  obtain ⟨wo3,hU3,hu3⟩:=open_bytes (hval 3 25 v3 rfl rfl) h3
  refine (law_TwoTrials (Ret.yes y4) W _ _ _ ms0 R0 rv2 TD2 wo3 n1 hn1 hM0 hT2 hU3 ht2 hu3).calls.mono fun e W' ⟨he,hg⟩=>?_
  subst he
  have st:∀ {t v d ps},Tryz.prog.readableRec t=true→t<Tryz.prog.types.size→DataW.Trod enc Tryz.prog W 0 (fun _=>true) true t v d ps→(∀ x∈ps,x∈p0++(p1++(p2++(p3))))→∀ sp:Nat→Bool,(∀ x∈p0++(p1++(p2++(p3))),sp x.block=true)→DataW.Trod enc Tryz.prog W' 0 sp true t v d ps:=fun hr hs h hin sp hsp=>trod_stay laid hr hs h hg (fun x hx=>hlt x (hin x hx)) sp (fun x hx=>hsp x (hin x hx))
  have ha:∀ sp:Nat→Bool,(∀ x∈p0++(p1++(p2++(p3))),sp x.block=true)→DataW.TrodAll enc Tryz.prog W' 0 sp true [22,23,24,25] _ [d0,d1,d2,d3] (p0++(p1++(p2++(p3++[])))):=fun sp hsp=>trodAll_cons_mk (st (by kernel_rfl) (of_decide_eq_true (by kernel_rfl)) k0 (fun x hx=>by simp [hx]) sp hsp) (trodAll_cons_mk (st (by kernel_rfl) (of_decide_eq_true (by kernel_rfl)) k1 (fun x hx=>by simp [hx]) sp hsp) (trodAll_cons_mk (st (by kernel_rfl) (of_decide_eq_true (by kernel_rfl)) k2 (fun x hx=>by simp [hx]) sp hsp) (trodAll_cons_mk (st (by kernel_rfl) (of_decide_eq_true (by kernel_rfl)) k3 (fun x hx=>by simp [hx]) sp hsp) trodAll_mk0)))
  simp only [List.append_nil] at ha
  exact ⟨_,rfl,post_law (pa:=p0++(p1++(p2++(p3)))) (pv:=[]) hW' (fun _ _ _=>(trodAll_cons_mk (shut_bool Tryz.underlying4 _) trodAll_mk0)) (fun sp hsp=>ha sp hsp) (fun _ _=>rfl) (by simp)
    hg (ok_one (by kernel_rfl) rfl (okWide_bool_mk Tryz.underlying4 _))⟩
theorem over:Rows.topTwoTrialsRow.holds Tryz.pinned (OpenSpec.ofChange Rows.topTwoTrialsSpec) :=
  OpenClaim.holds_of_wide 3 Tryz.f3 rfl rfl rfl rfl rfl rfl rfl ⟨rfl,rfl,rfl,rfl,rfl⟩ rfl rfl rfl rfl rfl (by kernel_rfl) Tryz.func3 closed
    (of_decide_eq_true (by kernel_rfl)) (by unfold Func.isWrapper;first | (rw [if_pos (by decide +kernel)];kernel_rfl) | (rw [if_neg (by decide +kernel)];exact ⟨rfl,rfl⟩))
    (fun os started H enc _=>lifted os started H enc)
theorem proved:Rows.TopTwoTrialsSaid:=over
end Go.Proofs.YtoapkhkdnbcilaaGreat.topTwoTrials
