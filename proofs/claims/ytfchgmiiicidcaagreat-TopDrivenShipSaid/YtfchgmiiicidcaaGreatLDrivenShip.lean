/- The law TopDrivenShip: called with whatever arguments, in whatever memory, it answers true, and turns nothing that was there. Conditions: none. -/
import Derived.Test.YtfchgmiiicidcaaGreatRows
import Derived.Test.YtfchgmiiicidcaaGreatM5
import Derived.Test.YtfchgmiiicidcaaGreatM10
import Derived.Test.YtfchgmiiicidcaaGreatWz
import Derived.Test.YtfchgmiiicidcaaGreatJTopDrivenShip
import Derived.OpenShut
namespace Go.Proofs.YtfchgmiiicidcaaGreat.topDrivenShip
open Go Go.TH Go.ChangeShapes Go.WideShapes Go.ChangeAt Go.RowKit
theorem own:ownKnob Tryz.prog.godebug=none:=by kernel_rfl
theorem laid:laidOutB Tryz.prog=true:=j_laid
set_option maxRecDepth 100000 in
theorem lifted (os:Os) (started:os.Started) (H:Type) (enc:TypeId × Value→H) :
    ReturnsInHanded {} Tryz.checked os 4 .any (Rows.topDrivenShipSpec.pre6 enc Tryz.prog Tryz.f4 Rows.topDrivenShipRow.domain false) (Rows.topDrivenShipSpec.post enc Tryz.prog Tryz.f4 false true false false):=by
  refine returnsInHanded_of_change (C:=Tryz.checked) own started (by kernel_rfl) Tryz.func4
    (ChangeSpec.witness6 (enc:=enc) (C:=Tryz.checked) false ⟨#[],#[.agg #[.int .i64 0,.int .i64 0,.int .i64 0,.int .i64 0,.int .i64 0,.int .i64 0,.int .i64 0,.int .i64 0,.int .i64 0,.int .i64 0,.int .i64 0,.int .i64 0,.int .i64 0,.int .i64 0,.int .i64 0,.int .i64 0],.slice none 0 0,.agg #[.int .u32 0,.int .u32 0,.int .u32 0,.int .u32 0,.int .u32 0,.int .u32 0],.agg #[.slice none 0 0,.slice none 0 0,.slice none 0 0],.slice none 0 0,.agg #[.int .u16 0,.int .u16 0],.int .u16 0],[]⟩ 8 (by kernel_rfl) (by kernel_rfl) (by kernel_rfl) (by kernel_rfl)) ?_
  intro W base args ds gs before hval0 hW hcnd _
  have hval:∀ (j:Nat) t v,Tryz.f4.params[j]?=some t→args[j]?=some v→Value.okWide Tryz.prog W .any base t v:=hval0
  have hW':=hW
  have hlt:∀ x∈before,x.block<W.heap.size:=fun x hx=>hW.lt x hx
  obtain ⟨p,q,hA0,hV,rfl,hfz,hnd⟩:=hW
  have hA:DataW.TrodAll enc Tryz.prog W 0 (fun _=>true) true Tryz.f4.params.toList args.toList ds p:=hA0
  rw [Tryz.params4] at hA hval
  obtain ⟨v0,vs0,d0,ds0,p0,q0,hargs,rfl,rfl,h0,r0⟩:=trodAll_cons hA
  obtain ⟨v1,vs1,d1,ds1,p1,q1,rfl,rfl,rfl,h1,r1⟩:=trodAll_cons r0
  obtain ⟨v2,vs2,d2,ds2,p2,q2,rfl,rfl,rfl,h2,r2⟩:=trodAll_cons r1
  obtain ⟨v3,vs3,d3,ds3,p3,q3,rfl,rfl,rfl,h3,r3⟩:=trodAll_cons r2
  obtain ⟨v4,vs4,d4,ds4,p4,q4,rfl,rfl,rfl,h4,r4⟩:=trodAll_cons r3
  obtain ⟨v5,vs5,d5,ds5,p5,q5,rfl,rfl,rfl,h5,r5⟩:=trodAll_cons r4
  obtain ⟨v6,vs6,d6,ds6,p6,q6,rfl,rfl,rfl,h6,r6⟩:=trodAll_cons r5
  obtain ⟨rfl,rfl,rfl⟩:=trodAll_nil r6
  obtain ⟨rfl,rfl⟩:=trodVars_none hV
  obtain rfl:args=#[v0,v1,v2,v3,v4,v5,v6]:=Array.toList_inj.1 hargs
  clear hA0 hval0 hargs
  simp only [List.append_nil] at hW' hlt
  have k0:=h0
  obtain ⟨t0,rfl⟩:=open_test (hval 0 50 v0 rfl rfl) h0
  have k1:=h1
  obtain ⟨vs1,ls1,hL1⟩:=open_lines (hval 1 51 v1 rfl rfl) h1
  have k2:=h2
  obtain ⟨y02,y12,y22,y32,y42,y52,rfl,hy02,hy12,hy22,hy32,hy42,hy52⟩:=open_six (hval 2 53 v2 rfl rfl) h2
  have k3:=h3
  obtain ⟨vp3,va3,o3,rv3,P3,A3,R3,rfl,hP3,hA3,hR3⟩:=open_chart (hval 3 25 v3 rfl rfl) h3
  have k4:=h4
  obtain ⟨bs4,hB4,hb4⟩:=open_truly (hval 4 54 v4 rfl rfl) h4
  have k5:=h5
  obtain ⟨g5,e5,rfl,hg5,he5⟩:=open_at (hval 5 56 v5 rfl rfl) h5
  have k6:=h6
  obtain ⟨n6,rfl,hn6⟩:=open_u16 (hval 6 55 v6 rfl rfl) h6
  refine (law_DrivenShip y8 W t0 _ vp3 va3 o3 _ vs1 ls1 rv3 P3 A3 R3 bs4 y02 y12 y22 y32 y42 y52 g5 e5 n6 hy02 hy12 hy22 hy32 hy42 hy52 hg5 he5 hn6 hb4 hL1 hP3 hA3 hR3 hB4).calls.mono fun e W' ⟨he,hg⟩=>?_
  subst he
  have st:∀ {t v d ps},Tryz.prog.readableRec t=true→t<Tryz.prog.types.size→DataW.Trod enc Tryz.prog W 0 (fun _=>true) true t v d ps→(∀ x∈ps,x∈p0++(p1++(p2++(p3++(p4++(p5++(p6)))))))→∀ sp:Nat→Bool,(∀ x∈p0++(p1++(p2++(p3++(p4++(p5++(p6)))))),sp x.block=true)→DataW.Trod enc Tryz.prog W' 0 sp true t v d ps:=fun hr hs h hin sp hsp=>trod_stay laid hr hs h hg (fun x hx=>hlt x (hin x hx)) sp (fun x hx=>hsp x (hin x hx))
  have ha:∀ sp:Nat→Bool,(∀ x∈p0++(p1++(p2++(p3++(p4++(p5++(p6)))))),sp x.block=true)→DataW.TrodAll enc Tryz.prog W' 0 sp true [50,51,53,25,54,56,55] _ [d0,d1,d2,d3,d4,d5,d6] (p0++(p1++(p2++(p3++(p4++(p5++(p6++[]))))))):=fun sp hsp=>trodAll_cons_mk (st (by kernel_rfl) (of_decide_eq_true (by kernel_rfl)) k0 (fun x hx=>by simp [hx]) sp hsp) (trodAll_cons_mk (st (by kernel_rfl) (of_decide_eq_true (by kernel_rfl)) k1 (fun x hx=>by simp [hx]) sp hsp) (trodAll_cons_mk (st (by kernel_rfl) (of_decide_eq_true (by kernel_rfl)) k2 (fun x hx=>by simp [hx]) sp hsp) (trodAll_cons_mk (st (by kernel_rfl) (of_decide_eq_true (by kernel_rfl)) k3 (fun x hx=>by simp [hx]) sp hsp) (trodAll_cons_mk (st (by kernel_rfl) (of_decide_eq_true (by kernel_rfl)) k4 (fun x hx=>by simp [hx]) sp hsp) (trodAll_cons_mk (st (by kernel_rfl) (of_decide_eq_true (by kernel_rfl)) k5 (fun x hx=>by simp [hx]) sp hsp) (trodAll_cons_mk (st (by kernel_rfl) (of_decide_eq_true (by kernel_rfl)) k6 (fun x hx=>by simp [hx]) sp hsp) trodAll_mk0))))))
  simp only [List.append_nil] at ha
  exact ⟨_,rfl,post_law (pa:=p0++(p1++(p2++(p3++(p4++(p5++(p6))))))) (pv:=[]) hW' (fun _ _ _=>(trodAll_cons_mk (shut_bool Tryz.underlying4 _) trodAll_mk0)) (fun sp hsp=>ha sp hsp) (fun _ _=>rfl) (by simp)
    hg (ok_one (by kernel_rfl) rfl (okWide_bool_mk Tryz.underlying4 _))⟩
theorem over:Rows.topDrivenShipRow.holds Tryz.pinned (OpenSpec.ofChange Rows.topDrivenShipSpec) :=
  OpenClaim.holds_of_wide 4 Tryz.f4 rfl rfl rfl rfl rfl rfl rfl ⟨rfl,rfl,rfl,rfl,rfl⟩ rfl rfl rfl rfl rfl (by kernel_rfl) Tryz.func4 closed
    (of_decide_eq_true (by kernel_rfl)) (by unfold Func.isWrapper;first | (rw [if_pos (by decide +kernel)];kernel_rfl) | (rw [if_neg (by decide +kernel)];exact ⟨rfl,rfl⟩))
    (fun os started H enc _=>lifted os started H enc)
theorem proved:Rows.TopDrivenShipSaid:=over
end Go.Proofs.YtfchgmiiicidcaaGreat.topDrivenShip
