/-
  What is proved here: numbers picked by words, and plain: waiting is enough. Conditions: none; each contract states its own.
  What is proved here: the law of still water. Conditions: none; each contract states its own.
-/
import Derived.Test.YtkonhpcldomidaaM12
set_option linter.unusedVariables false
set_option linter.unusedSimpArgs false
namespace Go.Proofs.Ytkonhpcldomidaa
open Go Go.TH
attribute [local irreducible] W WO pt
set_option maxRecDepth 10000
set_option maxHeartbeats 1000000
def pkN (lo hi : Int) (ws : List Int) (n : Nat) : Int := if ws.length = 0 then lo else lo + (ws.getD (n % ws.length) 0).tmod (hi - lo + 1)
theorem pk_bd {lo hi : Int} {ws : List Int} (hw : ∀ x ∈ ws, 0 ≤ x ∧ x ≤ 4294967295) (h : lo ≤ hi) (n : Nat) : lo ≤ pkN lo hi ws n ∧ pkN lo hi ws n ≤ hi := by
  unfold pkN
  split
  · omega
  have hx := hw _ (getD_mem (Nat.mod_lt n (show 0 < ws.length by omega)) 0)
  have h1 := Int.tmod_nonneg (hi - lo + 1) hx.1
  have h2 := Int.tmod_lt_of_pos (ws.getD (n % ws.length) 0) (show (0 : Int) < hi - lo + 1 by omega)
  omega
theorem law_pick (w : World) (u : Value) (lo hi : Int) (ws : List Int) (n : Nat) (hX : RdF encV 1 w.heap.size w u ws) (hw : ∀ x ∈ ws, 0 ≤ x ∧ x ≤ 4294967295) (h : 0 ≤ lo ∧ lo ≤ hi ∧ hi ≤ 1000000) (hn : n ≤ 1000) : Ret Try.prog 29 [.agg #[.int .i64 lo, .int .i64 hi], u, .int .i64 (n : Int)].toArray w (.int .i64 (pkN lo hi ws n)) := by
  refine Ret.of mixed tyTab Try.func29 rfl rfl ?_
  replace hX : RdF encV 1 (fnCx mixed tyTab Try.f29.ntmps w).B (fnCx mixed tyTab Try.f29.ntmps w).w0 u ws := hX
  have hle := hX.sl.le
  refine W.sreg ?_
  refine WO.boxA rfl rfl (fun b1 hb1 => ?_)
  refine WO.p rfl rfl ?_
  refine WO.nil ?_
  refine W.seq ?_
  refine W.sreg ?_
  refine WO.p rfl rfl ?_
  refine' WO.len (n := _) rfl rfl ?hs rfl ?_
  case hs => (first | exact hX.sl)
  refine WO.p rfl rfl ?_
  refine WO.nil ?_
  refine W.cond_bl rfl (fun c1 => ?_) (fun c1 => ?_)
  · first
    | (exfalso; omega)
    | (refine W.sreg ?_
       refine WO.field0 rfl rfl rfl (WO.load rfl rfl (Cell.own Pick.head rfl) rfl (WO.p rfl rfl ?_))
       refine WO.nil ?_
       refine W.ret ?_
       refine fin.ret (Res.one rfl (RV.tmp rfl)) (congrArg (Value.int .i64) ?_)
       first | exact (if_pos (by omega)).symm | exact (if_neg (by omega)).symm)
  first
  | (exfalso; omega)
  | (refine W.skip ?_
     refine W.seq ?_
     have hl0 : 0 < ws.length := by omega
     have hm := Nat.mod_lt n hl0
     have hx := hw _ (getD_mem hm 0)
     have ht1 := Int.tmod_nonneg (hi - lo + 1) hx.1
     have ht2 := Int.tmod_lt_of_pos (ws.getD (n % ws.length) 0) (show (0 : Int) < hi - lo + 1 by omega)
     refine W.drawD 17 [.r 0 [], .b 1 [], .r 2 [], .r 3 [], .r 4 [], .r 5 [], .r 6 [], .r 7 [], .b 8 [], .r 9 [], .r 10 [], .b 11 [], .r 12 [], .b 13 [], .r 14 [], .r 15 [], .r 16 []] [] (A0 := []) (Sub.refl _) (by kernel_rfl) ?_ ?_
     · exact (ALok.r (ALok.b (ALok.r (ALok.r (ALok.r (ALok.r (ALok.r (ALok.r (ALok.b (ALok.r (ALok.r (ALok.b (ALok.r (ALok.b (ALok.r (ALok.r (ALok.r ALok.nil)))))))))))))))))
     refine' DT.r rfl rfl rfl ?hq ?_
     case hq =>
       refine WO.field0 rfl rfl rfl ?_
       exact WO.nil ⟨rfl, rfl⟩
     refine' DT.b rfl rfl rfl ?hq ?_
     case hq =>
       refine WO.load rfl rfl (Cell.own Pick.head rfl) rfl ?_
       exact WO.nil ⟨rfl, rfl⟩
     refine' DT.r rfl rfl rfl ?hq ?_
     case hq =>
       refine WO.p rfl rfl ?_
       exact WO.nil ⟨rfl, rfl⟩
     refine' DT.r rfl rfl rfl ?hq ?_
     case hq =>
       refine WO.p rfl rfl ?_
       exact WO.nil ⟨rfl, rfl⟩
     refine' DT.r rfl rfl rfl ?hq ?_
     case hq =>
       refine WO.p rfl rfl ?_
       exact WO.nil ⟨rfl, rfl⟩
     refine' DT.r rfl rfl rfl ?hq ?_
     case hq =>
       refine' WO.len (n := _) rfl rfl ?hs rfl ?_
       case hs => (first | exact hX.sl)
       exact WO.nil ⟨rfl, rfl⟩
     refine' DT.r rfl rfl rfl ?hq ?_
     case hq =>
       refine WO.rem (b := (ws.length : Int)) rfl rfl (by omega) rfl ?_
       rw [← Int.ofNat_tmod]
       exact WO.nil ⟨rfl, rfl⟩
     refine' DT.r rfl rfl rfl ?hq ?_
     case hq =>
       refine' WO.indexAddr (n := _) (i := _) rfl rfl rfl ?hs ?h1 rfl ?_
       case hs => (first | exact hX.sl)
       case h1 => (first | omega | (simp; omega))
       exact WO.nil ⟨rfl, rfl⟩
     refine' DT.b rfl rfl rfl ?hq ?_
     case hq =>
       refine' WO.load (v := _) rfl rfl ?hc rfl ?_
       case hc => (first | (refine hX.cell0 (i := n % ws.length) hm 0 ?_; rfl))
       exact WO.nil ⟨rfl, rfl⟩
     refine' DT.r rfl rfl rfl ?hq ?_
     case hq =>
       refine WO.conv64 rfl rfl rfl (by (first | (unfold in64; omega) | (unfold in64; omega))) rfl ?_
       exact WO.nil ⟨rfl, rfl⟩
     refine' DT.r rfl rfl rfl ?hq ?_
     case hq =>
       refine WO.fieldL rfl rfl rfl ?_
       exact WO.nil ⟨rfl, rfl⟩
     refine' DT.b rfl rfl rfl ?hq ?_
     case hq =>
       refine WO.load rfl rfl (Cell.own Pick.head rfl) rfl ?_
       exact WO.nil ⟨rfl, rfl⟩
     refine' DT.r rfl rfl rfl ?hq ?_
     case hq =>
       refine WO.field0 rfl rfl rfl ?_
       exact WO.nil ⟨rfl, rfl⟩
     refine' DT.b rfl rfl rfl ?hq ?_
     case hq =>
       refine WO.load rfl rfl (Cell.own Pick.head rfl) rfl ?_
       exact WO.nil ⟨rfl, rfl⟩
     refine' DT.r rfl rfl rfl ?hq ?_
     case hq =>
       refine WO.ar rfl rfl rfl (by (first | (unfold in64; omega) | (unfold in64; omega))) rfl ?_
       exact WO.nil ⟨rfl, rfl⟩
     refine' DT.r rfl rfl rfl ?hq ?_
     case hq =>
       refine WO.ar rfl rfl rfl (by (first | (unfold in64; omega) | (unfold in64; omega))) rfl ?_
       exact WO.nil ⟨rfl, rfl⟩
     refine' DT.r rfl rfl rfl ?hq ?_
     case hq =>
       refine WO.rem rfl rfl (by first | omega | assumption) rfl ?_
       exact WO.nil ⟨rfl, rfl⟩
     refine DT.nil [_] rfl ?_
     refine WO.ar rfl rfl rfl (by (first | (unfold in64; omega) | (unfold in64; omega))) rfl (WO.p rfl rfl ?_)
     refine WO.nil ?_
     refine W.ret ?_
     refine fin.ret (Res.one rfl (RV.tmp rfl)) (congrArg (Value.int .i64) ?_)
     first | exact (if_pos (by omega)).symm | exact (if_neg (by omega)).symm)
theorem dyn_mono {k k' e e' : Int} (hk : 0 ≤ k ∧ k ≤ k') (he : 0 ≤ e ∧ e ≤ e') : dyn k e ≤ dyn k' e' := by
  unfold dyn
  have h1 : e * k ≤ e' * k' := Int.mul_le_mul he.2 hk.2 hk.1 (by omega)
  have h2 : 0 ≤ e * k := Int.mul_nonneg he.1 hk.1
  rw [Int.tdiv_eq_ediv_of_nonneg h2, Int.tdiv_eq_ediv_of_nonneg (by omega)]
  omega
theorem en_mono {k k' e e' : Int} (h : OkE k e) (hk : k ≤ k') (he : e ≤ e') : ∀ m, en k e m ≤ en k' e' m
  | 0 => he
  | m + 1 => dyn_mono ⟨h.1.1, hk⟩ ⟨(en_ok h m).2.1, en_mono h hk he m⟩
theorem en_anti {k e : Int} (h : OkE k e) {m : Nat} : ∀ n, m ≤ n → en k e n ≤ en k e m
  | 0, hn => by rw [show m = 0 by omega]; omega
  | n + 1, hn => by
    rcases Nat.lt_or_ge n m with g | g
    · rw [show m = n + 1 by omega]; omega
    have := en_anti h n g
    have := en_le h n
    omega
theorem wt_still {k e st : Int} (h : 0 ≤ wt k e st) : en k e (wt k e st).toNat ≤ st := by
  unfold wt at h ⊢
  split
  · rename_i h1
    have h2 := (fi_spec (fun m => en k e m ≤ st) (dyS k e + 1)).2.1
    rw [Int.toNat_natCast]
    exact h2 (by unfold wq at h1; omega)
  rename_i h1; rw [if_neg h1] at h; omega
/-- the runs so far, begun as late as they are -/
def StI (b : Int) (l : List Rn) (o gs vs : List Int) (i : Nat) : Prop := gs.length = i ∧ vs.length = i ∧ (∀ k, k < i → atK b l o k ≤ gs.getD k 0 ∧ gs.getD k 0 ≤ atK b l o k + 255 * ((k : Int) + 1)) ∧ (∀ k, k < i → (ruK l o k).lo ≤ vs.getD k 0 ∧ vs.getD k 0 ≤ (ruK l o k).hi) ∧ ∀ k, k + 1 < i → gs.getD k 0 + (ruK l o k).mi + wOf b l (o.getD k 0).toNat (o.getD (k + 1) 0).toNat ≤ gs.getD (k + 1) 0
theorem StI.zero (b : Int) (l : List Rn) (o : List Int) : StI b l o [] [] 0 := ⟨rfl, rfl, fun k h => by omega, fun k h => by omega, fun k h => by omega⟩
theorem StI.step {b : Int} {l : List Rn} {o gs vs : List Int} {i : Nat} {g v : Int} (h : StI b l o gs vs i) (h1 : atK b l o i ≤ g ∧ g ≤ atK b l o i + 255 * ((i : Int) + 1)) (h2 : (ruK l o i).lo ≤ v ∧ v ≤ (ruK l o i).hi) (h3 : ∀ k, i = k + 1 → gs.getD k 0 + (ruK l o k).mi + wOf b l (o.getD k 0).toNat (o.getD (k + 1) 0).toNat ≤ g) : StI b l o (gs ++ [g]) (vs ++ [v]) (i + 1) := by
  obtain ⟨l1, l2, q1, q2, q3⟩ := h
  have e1 : (gs ++ [g]).getD i 0 = g := by rw [← l1]; exact getD_app_e gs g
  have e2 : (vs ++ [v]).getD i 0 = v := by rw [← l2]; exact getD_app_e vs v
  refine ⟨by simp [l1], by simp [l2], fun k hk => ?_, fun k hk => ?_, fun k hk => ?_⟩
  · rcases Nat.lt_or_ge k i with c | c
    · rw [getD_app_l (by omega)]; exact q1 k c
    obtain rfl : k = i := by omega
    rw [e1]; exact h1
  · rcases Nat.lt_or_ge k i with c | c
    · rw [getD_app_l (by omega)]; exact q2 k c
    obtain rfl : k = i := by omega
    rw [e2]; exact h2
  rw [getD_app_l (show k < gs.length by omega)]
  rcases Nat.lt_or_ge (k + 1) i with c | c
  · rw [getD_app_l (by omega)]; exact q3 k c
  rw [show k + 1 = i by omega, e1, show i = k + 1 by omega]; exact h3 k (by omega)
theorem ruK_ok {a b : Int} {l : List Rn} {o : List Int} (hd : OkD a b l) (hv : ∀ x ∈ o, In l x) {k : Nat} (hk : k < o.length) : OkR (ruK l o k) := by
  have h := hv _ (getD_mem hk 0)
  unfold In at h
  exact hd.at_ (i := (o.getD k 0).toNat) (by omega)
theorem noW {b : Int} {l : List Rn} {o : List Int} {k : Nat} (hv : VO b l o) (hk : k + 1 < o.length) : wOf b l (o.getD k 0).toNat (o.getD (k + 1) 0).toNat ≠ -1 := by
  have h1 := bgE_un (tmE_0.1 hv.2.2 (k + 1) hk)
  have h2 := hv.1 _ (getD_mem (show k < o.length by omega) 0)
  unfold In at h2
  exact fun e => h1.2 ⟨h2.1, e⟩
/-- the day can be played, and the water is still enough -/
theorem StI.play {a b : Int} {l : List Rn} {o gs vs : List Int} {kp : Int} (hd : OkD a b l) (h8 : l.length ≤ 8) (hv : VO b l o) (h : StI b l o gs vs o.length) (hkp : a ≤ kp ∧ kp ≤ b) : okA l o gs vs o.length ∧ ∀ k, k < o.length → 0 ≤ plN l o gs vs kp k ∧ plN l o gs vs kp k ≤ (ruK l o k).st := by
  obtain ⟨l1, l2, q1, q2, q3⟩ := h
  have hol := hv.len
  have hbk := hd.1
  unfold OkK at hbk
  constructor
  · intro k hk
    have h1 := q1 k hk
    have hb := atK_bd hd hv.1 hk (tmE_0.1 hv.2.2 k hk)
    refine ⟨q2 k hk, ?_, by omega⟩
    cases k with
    | zero => show 0 ≤ _; omega
    | succ k =>
      have h3 := q3 k hk
      have h4 := noW hv hk
      have h5 := hd.w (i := (o.getD k 0).toNat) (by have := hv.1 _ (getD_mem (show k < o.length by omega) 0); unfold In at this; omega) (o.getD (k + 1) 0).toNat
      show gs.getD k 0 + (ruK l o k).mi ≤ _
      omega
  intro k hk
  have hr := ruK_ok hd hv.1 hk
  unfold OkR at hr
  cases k with
  | zero => show 0 ≤ 0 ∧ 0 ≤ _; omega
  | succ k =>
    have hk' : k < o.length := by omega
    have hrk := ruK_ok hd hv.1 hk'
    unfold OkR at hrk
    have hx := q2 k hk'
    have h3 := q3 k hk
    have h4 := noW hv hk
    have hin := hv.1 _ (getD_mem hk' 0)
    unfold In at hin
    have h5 := hd.w (i := (o.getD k 0).toNat) (by omega) (o.getD (k + 1) 0).toNat
    have hke : OkE kp (vs.getD k 0) := ⟨⟨by omega, by omega⟩, by omega, by omega⟩
    have hbe : OkE b (ruK l o k).hi := hd.ke (i := (o.getD k 0).toNat) (by omega)
    show 0 ≤ en kp (vs.getD k 0) _ ∧ en kp (vs.getD k 0) _ ≤ _
    refine ⟨(en_ok hke _).2.1, ?_⟩
    have hw : en b (ruK l o k).hi (wOf b l (o.getD k 0).toNat (o.getD (k + 1) 0).toNat).toNat ≤ (ruK l o (k + 1)).st := wt_still (show 0 ≤ wOf b l (o.getD k 0).toNat (o.getD (k + 1) 0).toNat by omega)
    refine Int.le_trans (en_mono hke hkp.2 hx.2 _) (Int.le_trans (en_anti hbe _ ?_) hw)
    omega
end Go.Proofs.Ytkonhpcldomidaa
namespace Go.Proofs.Ytkonhpcldomidaa
open Go Go.TH
attribute [local irreducible] W WO pt
set_option maxRecDepth 10000
set_option maxHeartbeats 1000000
theorem ruK_at {l : List Rn} {o : List Int} {k z : Nat} (h : o.getD k 0 = (z : Int)) : ruK l o k = l.getD z rn0 := by unfold ruK; rw [h, Int.toNat_natCast]
theorem law_RunStill (w : World) (o u g e : Value) (a b : Int) (l : List Rn) (bs cs ws : List Int) (hR : RdF encR 6 w.heap.size w o l) (hX : RdF encU 1 w.heap.size w u bs) (hG : RdF encU 1 w.heap.size w g cs) (hE : RdF encV 1 w.heap.size w e ws) (hb : ∀ x ∈ bs, 0 ≤ x ∧ x ≤ 255) (hcs : ∀ x ∈ cs, 0 ≤ x ∧ x ≤ 255) (hws : ∀ x ∈ ws, 0 ≤ x ∧ x ≤ 4294967295) : Ret Try.prog 6 [dayV a b o, u, g, e].toArray w (.bool true) := by
  refine Ret.of mixed tyTab Try.func6 rfl rfl ?_
  replace hR : RdF encR 6 (fnCx mixed tyTab Try.f6.ntmps w).B (fnCx mixed tyTab Try.f6.ntmps w).w0 o l := hR
  replace hX : RdF encU 1 (fnCx mixed tyTab Try.f6.ntmps w).B (fnCx mixed tyTab Try.f6.ntmps w).w0 u bs := hX
  replace hG : RdF encU 1 (fnCx mixed tyTab Try.f6.ntmps w).B (fnCx mixed tyTab Try.f6.ntmps w).w0 g cs := hG
  replace hE : RdF encV 1 (fnCx mixed tyTab Try.f6.ntmps w).B (fnCx mixed tyTab Try.f6.ntmps w).w0 e ws := hE
  have hoc := hR.sl.oc
  refine W.sreg ?_
  refine WO.boxA rfl rfl (fun b1 hb1 => ?_)
  refine WO.p rfl rfl ?_
  refine WO.nil ?_
  refine W.seq ?_
  refine W.sreg ?_
  refine WO.loadA rfl rfl (Cells.own Pick.head) rfl rfl ?_
  refine WO.callR rfl Try.call26 (fun L w hi => law_fine w o a b l (hR.later hi)) rfl ?_
  refine WO.p rfl rfl (WO.p rfl rfl ?_)
  refine WO.guard_nbl rfl rfl (fun c1 => ?_) (fun c1 => ?_)
  · first
    | (exfalso; omega)
    | (refine WO.no rfl rfl (WO.no rfl rfl (WO.no rfl rfl (WO.p rfl rfl (WO.p rfl rfl (WO.no rfl rfl (WO.no rfl rfl (WO.no rfl rfl (WO.p rfl rfl (WO.p rfl rfl (WO.no rfl rfl (WO.no rfl rfl ?_)))))))))))
       refine WO.no rfl rfl (WO.p rfl rfl ?_)
       refine WO.nil ?_
       refine W.cond_t rfl ?_
       refine W.sreg ?_
       refine WO.callR rfl Try.call12 (fun L w hi => l_Works w) rfl ?_
       refine WO.p rfl rfl ?_
       refine WO.nil ?_
       refine W.ret ?_
       first | exact fin.ret (Res.one rfl (RV.tmp rfl)) rfl | (exfalso; omega))
  first
  | (exfalso; omega)
  | (refine WO.pg rfl rfl rfl (WO.go' rfl ?_)
     refine' WO.len (n := _) rfl rfl ?hs rfl ?_
     case hs => (first | exact hX.sl)
     refine WO.pg rfl rfl rfl (WO.p rfl rfl (WO.p rfl rfl ?_))
     refine WO.guard_bl rfl rfl (fun c2 => ?_) (fun c2 => ?_)
     · first
       | (exfalso; omega)
       | (refine WO.no rfl rfl (WO.no rfl rfl (WO.no rfl rfl (WO.p rfl rfl (WO.p rfl rfl (WO.no rfl rfl (WO.no rfl rfl (WO.no rfl rfl (WO.p rfl rfl ?_))))))))
          refine WO.nil ?_
          refine W.cond_t rfl ?_
          refine W.sreg ?_
          refine WO.callR rfl Try.call12 (fun L w hi => l_Works w) rfl ?_
          refine WO.p rfl rfl ?_
          refine WO.nil ?_
          refine W.ret ?_
          first | exact fin.ret (Res.one rfl (RV.tmp rfl)) rfl | (exfalso; omega))
     first
     | (exfalso; omega)
     | (refine WO.pg rfl rfl rfl (WO.go' rfl ?_)
        refine' WO.len (n := _) rfl rfl ?hs rfl ?_
        case hs => (first | exact hG.sl)
        refine WO.pg rfl rfl rfl (WO.p rfl rfl (WO.p rfl rfl ?_))
        refine WO.guard_bl rfl rfl (fun c3 => ?_) (fun c3 => ?_)
        · first
          | (exfalso; omega)
          | (refine WO.no rfl rfl (WO.no rfl rfl (WO.no rfl rfl (WO.p rfl rfl ?_)))
             refine WO.nil ?_
             refine W.cond_t rfl ?_
             refine W.sreg ?_
             refine WO.callR rfl Try.call12 (fun L w hi => l_Works w) rfl ?_
             refine WO.p rfl rfl ?_
             refine WO.nil ?_
             refine W.ret ?_
             first | exact fin.ret (Res.one rfl (RV.tmp rfl)) rfl | (exfalso; omega))
        first
        | (exfalso; omega)
        | (refine WO.pg rfl rfl rfl (WO.go' rfl ?_)
           refine' WO.len (n := _) rfl rfl ?hs rfl ?_
           case hs => (first | exact hE.sl)
           refine WO.pg rfl rfl rfl (WO.p rfl rfl ?_)
           refine WO.nil ?_
           refine W.cond_bl rfl (fun c4 => ?_) (fun c4 => ?_)
           · first
             | (exfalso; omega)
             | (refine W.sreg ?_
                refine WO.callR rfl Try.call12 (fun L w hi => l_Works w) rfl ?_
                refine WO.p rfl rfl ?_
                refine WO.nil ?_
                refine W.ret ?_
                first | exact fin.ret (Res.one rfl (RV.tmp rfl)) rfl | (exfalso; omega))
           first
           | (exfalso; omega)
           | (refine W.skip ?_
              have hfp : fineP a b l := by assumption
              have hc : chkD a b l = 0 := hfp.2
              obtain ⟨hln, hd⟩ := chkD0.1 hc
              have hkk := hd.1
              unfold OkK at hkk
              have hod := odL_ok (l := l) (bs := bs) hb
              obtain ⟨od, hodd⟩ : ∃ od, odL l.length bs = od := ⟨_, rfl⟩
              rw [hodd] at hod
              obtain ⟨hte, htl, hol⟩ := Tm_fine hc hod
              have hkd := tmE_kinds b l od
              refine W.sreg ?_
              refine WO.loadA rfl rfl (Cells.own Pick.head) rfl rfl (WO.p rfl rfl ?_)
              refine WO.call (Post := fun r Hq => ∃ x : Value, r = x ∧ Hq = [OwE encI 3 1 x od]) rfl Try.call27 (fun L w hi => by have h := law_Order w o u a b l bs (hR.later hi) (hX.later hi) hb (by omega); rw [hodd] at h; exact h) rfl ?_
              rintro xv _ ⟨_, rfl, rfl⟩
              refine WO.fact (OwE.sl (enc := encI) (e := 3) (sz := 1) (v := xv) (xs := od) Pick.head) (fun hxs => ?_)
              refine WO.p rfl rfl ?_
              refine WO.nil ?_
              refine W.sreg ?_
              refine WO.loadA rfl rfl (Cells.own (Pick.tail (Pick.head))) rfl rfl (WO.p rfl rfl ?_)
              refine WO.call (Post := fun r Hq => ∃ x : Value, r = .tuple #[x, .int .i64 (tmE b l od)] ∧ Hq = [OwE encI 2 1 x (tmL b l od)]) rfl Try.call13 (fun L w hi => by have h := c_Times w o _ a b l od (hR.later hi) (RdF.of_ow (e := 3) encI_ok (by repeat (first | exact Pick.head | apply Pick.tail)) hi); rw [hte, htl] at h; exact h) rfl ?_
              rintro _ _ ⟨tv, rfl, rfl⟩
              refine WO.fact (OwE.sl (enc := encI) (e := 2) (sz := 1) (v := tv) (xs := tmL b l od) Pick.head) (fun hts => ?_)
              refine WO.p rfl rfl (WO.p rfl rfl (WO.p rfl rfl (WO.p rfl rfl (WO.p rfl rfl ?_))))
              refine WO.nil ?_
              refine W.seq ?_
              refine W.sreg ?_
              refine WO.p rfl rfl (WO.p rfl rfl ?_)
              refine WO.nil ?_
              refine W.cond_bl rfl (fun c5 => ?_) (fun c5 => ?_)
              · first
                | (exfalso; omega)
                | (have hl0 : (tmL b l od).length = 0 := by rw [tmL_ne (by assumption)]; rfl
                   refine W.sreg ?_
                   refine WO.p rfl rfl (WO.p rfl rfl (WO.p rfl rfl ?_))
                   refine WO.guard_bl rfl rfl (fun c6 => ?_) (fun c6 => ?_)
                   · first
                     | (exfalso; omega)
                     | (refine WO.no rfl rfl (WO.no rfl rfl (WO.p rfl rfl (WO.p rfl rfl (WO.pg rfl rfl rfl (WO.go' rfl ?_)))))
                        refine' WO.len (n := _) rfl rfl ?hs rfl ?_
                        case hs => (first | exact hts)
                        refine WO.pg rfl rfl rfl (WO.p rfl rfl (WO.p rfl rfl ?_))
                        refine WO.guard_bl rfl rfl (fun c7 => ?_) (fun c7 => ?_)
                        · first
                          | (exfalso; omega)
                          | (refine WO.go' rfl ?_
                             refine WO.callR rfl Try.call12 (fun L w hi => l_Works w) rfl ?_
                             refine WO.p rfl rfl (WO.p rfl rfl ?_)
                             refine WO.nil ?_
                             refine W.ret ?_
                             first | exact fin.ret (Res.one rfl (RV.tmp rfl)) rfl | (exfalso; omega))
                        first
                        | (exfalso; omega)
                        | (refine WO.no rfl rfl (WO.p rfl rfl (WO.p rfl rfl ?_))
                           refine WO.nil ?_
                           refine W.ret ?_
                           first | exact fin.ret (Res.one rfl (RV.tmp rfl)) rfl | (exfalso; omega)))
                   first
                   | (exfalso; omega)
                   | (refine WO.pg rfl rfl rfl (WO.pg rfl rfl rfl (WO.p rfl rfl (WO.p rfl rfl ?_)))
                      refine WO.guard_bl rfl rfl (fun c7 => ?_) (fun c7 => ?_)
                      · first
                        | (exfalso; omega)
                        | (refine WO.pg rfl rfl rfl (WO.go' rfl ?_)
                           refine' WO.len (n := _) rfl rfl ?hs rfl ?_
                           case hs => (first | exact hts)
                           refine WO.pg rfl rfl rfl (WO.p rfl rfl (WO.p rfl rfl ?_))
                           refine WO.guard_bl rfl rfl (fun c8 => ?_) (fun c8 => ?_)
                           · first
                             | (exfalso; omega)
                             | (refine WO.go' rfl ?_
                                refine WO.callR rfl Try.call12 (fun L w hi => l_Works w) rfl ?_
                                refine WO.p rfl rfl (WO.p rfl rfl ?_)
                                refine WO.nil ?_
                                refine W.ret ?_
                                first | exact fin.ret (Res.one rfl (RV.tmp rfl)) rfl | (exfalso; omega))
                           first
                           | (exfalso; omega)
                           | (refine WO.no rfl rfl (WO.p rfl rfl (WO.p rfl rfl ?_))
                              refine WO.nil ?_
                              refine W.ret ?_
                              first | exact fin.ret (Res.one rfl (RV.tmp rfl)) rfl | (exfalso; omega)))
                      first
                      | (exfalso; omega)
                      | (refine WO.no rfl rfl (WO.no rfl rfl (WO.no rfl rfl (WO.p rfl rfl (WO.p rfl rfl (WO.no rfl rfl (WO.p rfl rfl (WO.p rfl rfl ?_)))))))
                         refine WO.nil ?_
                         refine W.ret ?_
                         first | exact fin.ret (Res.one rfl (RV.tmp rfl)) rfl | (exfalso; omega))))
              first
              | (exfalso; omega)
              | (refine W.skip ?_
                 refine W.seq ?_
                 have ht0 : tmE b l od = 0 := Classical.not_not.1 (by assumption)
                 have htl0 : tmL b l od = tmA b l od od.length := tmL_0 ht0
                 have htll : (tmL b l od).length = od.length := by rw [htl0, tmA_len]
                 have hvo : VO b l od := ⟨hod.1, hod.2, ht0⟩
                 have hno : noE a b l od = 0 := noE0.2 ⟨⟨hc, hln, hd⟩, hol, hod.1, hod.2⟩
                 refine W.sreg ?_
                 refine WO.p rfl rfl ?_
                 refine' WO.len (n := _) rfl rfl ?hs rfl ?_
                 case hs => (first | exact hts)
                 refine WO.p rfl rfl ?_
                 refine' WO.len (n := _) rfl rfl ?hs rfl ?_
                 case hs => (first | exact hxs)
                 refine WO.neqF rfl rfl (by omega) rfl ?_
                 refine WO.nil ?_
                 refine W.cond_f rfl ?_
                 refine W.skip ?_
                 refine W.sreg ?_
                 refine WO.p rfl rfl (WO.p rfl rfl ?_)
                 refine WO.nil ?_
                 refine W.seq ?_
                 refine W.sreg ?_
                 refine WO.p rfl rfl ?_
                 refine WO.nil ?_
                 refine W.block ?_
                 refine W.chg (owNil (enc := encI) (e := 2) (sz := 1)) ?_
                 refine W.chg (owNil (enc := encI) (e := 2) (sz := 1)) ?_
                 refine W.loop5 (fun (i : Nat) (gv : Value) (vv : Value) (gs : List Int) (vs : List Int) => i ≤ od.length ∧ StI b l od gs vs i)
                   (fun (i : Nat) (gv : Value) (vv : Value) (gs : List Int) (vs : List Int) => [(2, g), (3, e), (4, .pointer (some ⟨b1, 0, none⟩)), (9, xv), (10, tv), (12, gv), (13, vv), (14, .int .i64 (i : Int))])
                   (fun (i : Nat) (gv : Value) (vv : Value) (gs : List Int) (vs : List Int) => [pt b1 (.cells #[.int .i64 a, .int .i64 b, o] 26 (0, 0)), OwE encI 3 1 xv od, OwE encI 2 1 tv (tmL b l od), OwE encI 2 1 gv gs, OwE encI 2 1 vv vs])
                   (fun (i : Nat) (gv : Value) (vv : Value) (gs : List Int) (vs : List Int) => od.length - i) 0 _ _ [] []
                   (by exact ⟨by omega, StI.zero b l od⟩) ⟨rfl, rfl, rfl, rfl, rfl, rfl, rfl, rfl, trivial⟩ (by repeat (first | exact Sub.nil | refine Sub.cons (by repeat (first | exact Pick.head | apply Pick.tail)) ?_)) ?_
                 rintro i gv vv gs vs ⟨hi, hst⟩
                 refine W.seq ?_
                 refine W.sreg ?_
                 refine WO.p rfl rfl (WO.p rfl rfl ?_)
                 refine' WO.len (n := _) rfl rfl ?hs rfl ?_
                 case hs => (first | exact hxs)
                 refine WO.p rfl rfl ?_
                 refine WO.nil ?_
                 refine W.cond_bl rfl (fun c6 => ?_) (fun c6 => ?_)
                 · first
                   | (exfalso; omega)
                   | (refine W.skip ?_
                      refine W.seq ?_
                      refine W.block ?_
                      refine W.seq ?_
                      have hil : i < od.length := by omega
                      obtain ⟨z, hz, hzl⟩ := in_nat (hod.1 _ (getD_mem hil 0))
                      have hrz := ruK_at (l := l) hz
                      have hri := hd.at_ hzl
                      unfold OkR at hri
                      have hae := bgE_un (tmE_0.1 ht0 i hil)
                      have haf := bgA_fr b l (stK b l od i).1 (stK b l od i).2 (od.getD i 0).toNat
                      rw [show bgA b l (stK b l od i).1 (stK b l od i).2 (od.getD i 0).toNat = atK b l od i from rfl] at hae haf
                      rw [hz, Int.toNat_natCast] at hae haf
                      have hat := atK_bd hd hod.1 hil (tmE_0.1 ht0 i hil)
                      have hlv : (ruK l od i).lo ≤ pkN (l.getD z rn0).lo (l.getD z rn0).hi ws i ∧ pkN (l.getD z rn0).lo (l.getD z rn0).hi ws i ≤ (ruK l od i).hi := by rw [hrz]; exact pk_bd hws (by omega) i
                      refine W.drawD 9 [.r 0 [], .b 1 [], .r 2 [], .r 3 [], .r 4 [], .b 5 [], .r 6 [], .b 7 [], .a 8 15 (.cells #[.int .i64 0, .int .i64 0, .int .i64 0, .int .i64 0, .int .i64 0, .int .i64 0] 48 (0, 0))] [] (A0 := []) (Sub.refl _) (by kernel_rfl) ?_ ?_
                      · exact (ALok.r (ALok.b (ALok.r (ALok.r (ALok.r (ALok.b (ALok.r (ALok.b (ALok.cons rfl rfl rfl rfl rfl ALok.nil)))))))))
                      refine' DT.r rfl rfl rfl ?hq ?_
                      case hq =>
                        refine WO.fieldL rfl rfl rfl ?_
                        exact WO.nil ⟨rfl, rfl⟩
                      refine' DT.b rfl rfl rfl ?hq ?_
                      case hq =>
                        refine WO.load rfl rfl (Cell.own Pick.head rfl) rfl ?_
                        exact WO.nil ⟨rfl, rfl⟩
                      refine' DT.r rfl rfl rfl ?hq ?_
                      case hq =>
                        refine WO.p rfl rfl ?_
                        exact WO.nil ⟨rfl, rfl⟩
                      refine' DT.r rfl rfl rfl ?hq ?_
                      case hq =>
                        refine WO.p rfl rfl ?_
                        exact WO.nil ⟨rfl, rfl⟩
                      refine' DT.r rfl rfl rfl ?hq ?_
                      case hq =>
                        refine' WO.indexAddr (n := _) (i := _) rfl rfl rfl ?hs ?h1 rfl ?_
                        case hs => (first | exact hxs)
                        case h1 => (first | omega | (simp; omega))
                        exact WO.nil ⟨rfl, rfl⟩
                      refine' DT.b rfl rfl rfl ?hq ?_
                      case hq =>
                        refine' WO.load (v := _) rfl rfl ?hc rfl ?_
                        case hc => (first | (refine owE_cellS (e := 3) (xs := od) (x := (z : Int)) (i := i) ?_ (by omega) hz.symm rfl; exact (by repeat (first | exact Sub.nil | refine Sub.cons (by repeat (first | exact Pick.head | apply Pick.tail)) ?_))))
                        exact WO.nil ⟨rfl, rfl⟩
                      refine' DT.r rfl rfl rfl ?hq ?_
                      case hq =>
                        refine' WO.indexAddr (n := _) (i := _) rfl rfl rfl ?hs ?h1 rfl ?_
                        case hs => (first | exact hR.sl)
                        case h1 => (first | omega | (simp; omega))
                        exact WO.nil ⟨rfl, rfl⟩
                      refine' DT.b rfl rfl rfl ?hq ?_
                      case hq =>
                        refine' WO.loadA (vs := _) rfl rfl ?hc ?hl rfl ?_
                        case hc => (first | exact RdF.cellsR hR (i := z) hzl)
                        case hl => rfl
                        exact WO.nil ⟨rfl, rfl⟩
                      refine DT.a (fun b2 => ?_)
                      refine DT.nil [_, _, _, _, _, _] rfl ?_
                      refine WO.storeA rfl rfl rfl rfl Pick.head rfl rfl ?_
                      refine WO.nil ?_
                      refine W.sreg ?_
                      refine WO.p rfl rfl (WO.p rfl rfl ?_)
                      refine' WO.indexAddr (n := _) (i := _) rfl rfl rfl ?hs ?h1 rfl ?_
                      case hs => (first | exact hts)
                      case h1 => (first | omega | (simp; omega))
                      refine' WO.load (v := _) rfl rfl ?hc rfl ?_
                      case hc => (first | (refine owE_cellS (e := 2) (xs := tmL b l od) (x := atK b l od i) (i := i) ?_ (by omega) (by rw [htl0, tmA_get hil]) rfl; exact (by repeat (first | exact Sub.nil | refine Sub.cons (by repeat (first | exact Pick.head | apply Pick.tail)) ?_))))
                      refine WO.p rfl rfl ?_
                      refine WO.nil ?_
                      refine W.seq ?_
                      refine W.sreg ?_
                      refine WO.p rfl rfl (WO.fieldL rfl rfl rfl (WO.load rfl rfl (Cell.own Pick.head rfl) rfl ?_))
                      refine WO.lssF rfl rfl (by omega) rfl ?_
                      refine WO.p rfl rfl (WO.pg rfl rfl rfl (WO.go' rfl (WO.fieldL rfl rfl rfl (WO.go' rfl (WO.load rfl rfl (Cell.own Pick.head rfl) rfl (WO.go' rfl ?_))))))
                      refine WO.gtrF rfl rfl (by omega) rfl ?_
                      refine WO.p rfl rfl ?_
                      refine WO.nil ?_
                      refine W.cond_f rfl ?_
                      refine W.skip ?_
                      refine W.seq ?_
                      refine W.sreg ?_
                      refine WO.p rfl rfl (WO.p rfl rfl ?_)
                      refine WO.nil ?_
                      refine W.cond_bl rfl (fun c7 => ?_) (fun c7 => ?_)
                      · first
                        | (exfalso; omega)
                        | (refine W.seq ?_
                           obtain ⟨k, hik⟩ : ∃ k, i = k + 1 := ⟨i - 1, by omega⟩
                           have hkl : k < od.length := by omega
                           obtain ⟨y, hy, hyl⟩ := in_nat (hod.1 _ (getD_mem hkl 0))
                           have hry := hd.at_ hyl
                           unfold OkR at hry
                           have hwn := noW hvo (show k + 1 < od.length by omega)
                           rw [← hik, hy, hz, Int.toNat_natCast, Int.toNat_natCast] at hwn
                           have hwb := hd.w hyl z
                           have hsk := atK_S (b := b) (l := l) hy (show od.getD (k + 1) 0 = (z : Int) by rw [← hik]; exact hz)
                           rw [← hik] at hsk
                           have hgk := hst.2.2.1 k (by omega)
                           have hak := atK_bd hd hod.1 hkl (tmE_0.1 ht0 k hkl)
                           have hgl := hst.1
                           have hr3 : ∀ k', i = k' + 1 → gs.getD k' 0 + (ruK l od k').mi + wOf b l (od.getD k' 0).toNat (od.getD (k' + 1) 0).toNat = gs.getD k 0 + (l.getD y rn0).mi + wOf b l y z := fun k' q => by obtain rfl : k' = k := (by omega); rw [← hik, ruK_at hy, hy, hz, Int.toNat_natCast, Int.toNat_natCast]
                           refine W.drawD 15 [.b 0 [], .r 1 [], .r 2 [], .r 3 [], .r 4 [], .b 5 [], .r 6 [], .r 7 [], .r 8 [], .b 9 [], .b 10 [], .r 11 [], .r 12 [], .r 13 [], .r 14 []] [] (A0 := []) (Sub.refl _) (by kernel_rfl) ?_ ?_
                           · exact (ALok.b (ALok.r (ALok.r (ALok.r (ALok.r (ALok.b (ALok.r (ALok.r (ALok.r (ALok.b (ALok.b (ALok.r (ALok.r (ALok.r (ALok.r ALok.nil)))))))))))))))
                           refine' DT.b rfl rfl rfl ?hq ?_
                           case hq =>
                             refine WO.loadA rfl rfl (Cells.own (Pick.tail (Pick.head))) rfl rfl ?_
                             exact WO.nil ⟨rfl, rfl⟩
                           refine' DT.r rfl rfl rfl ?hq ?_
                           case hq =>
                             refine WO.p rfl rfl ?_
                             exact WO.nil ⟨rfl, rfl⟩
                           refine' DT.r rfl rfl rfl ?hq ?_
                           case hq =>
                             refine WO.p rfl rfl ?_
                             exact WO.nil ⟨rfl, rfl⟩
                           refine' DT.r rfl rfl rfl ?hq ?_
                           case hq =>
                             refine WO.sub rfl rfl (by unfold in64; omega) rfl ?_
                             rw [show (i : Int) - 1 = (k : Int) by omega]
                             exact WO.nil ⟨rfl, rfl⟩
                           refine' DT.r rfl rfl rfl ?hq ?_
                           case hq =>
                             refine' WO.indexAddr (n := _) (i := _) rfl rfl rfl ?hs ?h1 rfl ?_
                             case hs => (first | exact hxs)
                             case h1 => (first | omega | (simp; omega))
                             exact WO.nil ⟨rfl, rfl⟩
                           refine' DT.b rfl rfl rfl ?hq ?_
                           case hq =>
                             refine' WO.load (v := _) rfl rfl ?hc rfl ?_
                             case hc => (first | (refine owE_cellS (e := 3) (xs := od) (x := (y : Int)) (i := k) ?_ (by omega) hy.symm rfl; exact (by repeat (first | exact Sub.nil | refine Sub.cons (by repeat (first | exact Pick.head | apply Pick.tail)) ?_))))
                             exact WO.nil ⟨rfl, rfl⟩
                           refine' DT.r rfl rfl rfl ?hq ?_
                           case hq =>
                             refine WO.p rfl rfl ?_
                             exact WO.nil ⟨rfl, rfl⟩
                           refine' DT.r rfl rfl rfl ?hq ?_
                           case hq =>
                             refine WO.p rfl rfl ?_
                             exact WO.nil ⟨rfl, rfl⟩
                           refine' DT.r rfl rfl rfl ?hq ?_
                           case hq =>
                             refine' WO.indexAddr (n := _) (i := _) rfl rfl rfl ?hs ?h1 rfl ?_
                             case hs => (first | exact hxs)
                             case h1 => (first | omega | (simp; omega))
                             exact WO.nil ⟨rfl, rfl⟩
                           refine' DT.b rfl rfl rfl ?hq ?_
                           case hq =>
                             refine' WO.load (v := _) rfl rfl ?hc rfl ?_
                             case hc => (first | (refine owE_cellS (e := 3) (xs := od) (x := (z : Int)) (i := i) ?_ (by omega) hz.symm rfl; exact (by repeat (first | exact Sub.nil | refine Sub.cons (by repeat (first | exact Pick.head | apply Pick.tail)) ?_))))
                             exact WO.nil ⟨rfl, rfl⟩
                           refine' DT.b rfl rfl rfl ?hq ?_
                           case hq =>
                             refine WO.callR (r := .tuple #[.int .i64 (wOf b l y z), .int .i64 0]) rfl Try.call28 (fun L w hi => by have h := c_Wait w o a b l (y : Int) (z : Int) (hR.later hi); rw [wtV_0 (by omega) hyl hzl (by omega)] at h; exact h) rfl ?_
                             exact WO.nil ⟨rfl, rfl⟩
                           refine' DT.r rfl rfl rfl ?hq ?_
                           case hq =>
                             refine WO.p rfl rfl ?_
                             exact WO.nil ⟨rfl, rfl⟩
                           refine' DT.r rfl rfl rfl ?hq ?_
                           case hq =>
                             refine WO.p rfl rfl ?_
                             exact WO.nil ⟨rfl, rfl⟩
                           refine' DT.r rfl rfl rfl ?hq ?_
                           case hq =>
                             refine WO.p rfl rfl ?_
                             exact WO.nil ⟨rfl, rfl⟩
                           refine' DT.r rfl rfl rfl ?hq ?_
                           case hq =>
                             refine WO.p rfl rfl ?_
                             exact WO.nil ⟨rfl, rfl⟩
                           refine DT.nil [_, _, _, _, _, _] rfl ?_
                           refine WO.p rfl rfl ?_
                           refine WO.nil ?_
                           refine W.seq ?_
                           refine W.seq ?_
                           refine W.drawD 22 [.r 0 [], .r 1 [], .r 2 [], .r 3 [], .r 4 [], .r 5 [], .r 6 [], .r 7 [], .b 8 [], .r 9 [], .b 10 [], .r 11 [], .r 12 [], .r 13 [], .r 14 [], .b 15 [], .r 16 [], .r 17 [], .b 18 [], .r 19 [], .r 20 [], .r 21 []] [] (A0 := []) (Sub.refl _) (by kernel_rfl) ?_ ?_
                           · exact (ALok.r (ALok.r (ALok.r (ALok.r (ALok.r (ALok.r (ALok.r (ALok.r (ALok.b (ALok.r (ALok.b (ALok.r (ALok.r (ALok.r (ALok.r (ALok.b (ALok.r (ALok.r (ALok.b (ALok.r (ALok.r (ALok.r ALok.nil))))))))))))))))))))))
                           refine' DT.r rfl rfl rfl ?hq ?_
                           case hq =>
                             refine WO.p rfl rfl ?_
                             exact WO.nil ⟨rfl, rfl⟩
                           refine' DT.r rfl rfl rfl ?hq ?_
                           case hq =>
                             refine WO.neqF rfl rfl (by decide) rfl ?_
                             exact WO.nil ⟨rfl, rfl⟩
                           refine' DT.r rfl rfl rfl ?hq ?_
                           case hq =>
                             refine WO.p rfl rfl ?_
                             exact WO.nil ⟨rfl, rfl⟩
                           refine' DT.r rfl rfl rfl ?hq ?_
                           case hq =>
                             refine WO.pg rfl rfl rfl ?_
                             exact WO.nil ⟨rfl, rfl⟩
                           refine' DT.r rfl rfl rfl ?hq ?_
                           case hq =>
                             refine WO.pg rfl rfl rfl ?_
                             exact WO.nil ⟨rfl, rfl⟩
                           refine' DT.r rfl rfl rfl ?hq ?_
                           case hq =>
                             refine WO.pg rfl rfl rfl ?_
                             exact WO.nil ⟨rfl, rfl⟩
                           refine' DT.r rfl rfl rfl ?hq ?_
                           case hq =>
                             refine WO.go' rfl ?_
                             refine WO.sub rfl rfl (by unfold in64; omega) rfl ?_
                             rw [show (i : Int) - 1 = (k : Int) by omega]
                             exact WO.nil ⟨rfl, rfl⟩
                           refine' DT.r rfl rfl rfl ?hq ?_
                           case hq =>
                             refine WO.go' rfl ?_
                             refine' WO.indexAddr (n := _) (i := _) rfl rfl rfl ?hs ?h1 rfl ?_
                             case hs => (first | exact hts)
                             case h1 => (first | omega | (simp; omega))
                             exact WO.nil ⟨rfl, rfl⟩
                           refine' DT.b rfl rfl rfl ?hq ?_
                           case hq =>
                             refine WO.go' rfl ?_
                             refine' WO.load (v := _) rfl rfl ?hc rfl ?_
                             case hc => (first | (refine owE_cellS (e := 2) (xs := tmL b l od) (x := atK b l od k) (i := k) ?_ (by omega) (by rw [htl0, tmA_get hkl]) rfl; exact (by repeat (first | exact Sub.nil | refine Sub.cons (by repeat (first | exact Pick.head | apply Pick.tail)) ?_))))
                             exact WO.nil ⟨rfl, rfl⟩
                           refine' DT.r rfl rfl rfl ?hq ?_
                           case hq =>
                             refine WO.go' rfl (WO.fieldL rfl rfl rfl ?_)
                             exact WO.nil ⟨rfl, rfl⟩
                           refine' DT.b rfl rfl rfl ?hq ?_
                           case hq =>
                             refine WO.go' rfl (WO.load rfl rfl (Cell.own (Pick.tail (Pick.head)) rfl) rfl ?_)
                             exact WO.nil ⟨rfl, rfl⟩
                           refine' DT.r rfl rfl rfl ?hq ?_
                           case hq =>
                             refine WO.pg rfl rfl rfl ?_
                             exact WO.nil ⟨rfl, rfl⟩
                           refine' DT.r rfl rfl rfl ?hq ?_
                           case hq =>
                             refine WO.pg rfl rfl rfl ?_
                             exact WO.nil ⟨rfl, rfl⟩
                           refine' DT.r rfl rfl rfl ?hq ?_
                           case hq =>
                             refine WO.go' rfl ?_
                             refine WO.sub rfl rfl (by unfold in64; omega) rfl ?_
                             rw [show (i : Int) - 1 = (k : Int) by omega]
                             exact WO.nil ⟨rfl, rfl⟩
                           refine' DT.r rfl rfl rfl ?hq ?_
                           case hq =>
                             refine WO.go' rfl ?_
                             refine' WO.indexAddr (n := _) (i := _) rfl rfl rfl ?hs ?h1 rfl ?_
                             case hs => (first | exact hxs)
                             case h1 => (first | omega | (simp; omega))
                             exact WO.nil ⟨rfl, rfl⟩
                           refine' DT.b rfl rfl rfl ?hq ?_
                           case hq =>
                             refine WO.go' rfl ?_
                             refine' WO.load (v := _) rfl rfl ?hc rfl ?_
                             case hc => (first | (refine owE_cellS (e := 3) (xs := od) (x := (y : Int)) (i := k) ?_ (by omega) hy.symm rfl; exact (by repeat (first | exact Sub.nil | refine Sub.cons (by repeat (first | exact Pick.head | apply Pick.tail)) ?_))))
                             exact WO.nil ⟨rfl, rfl⟩
                           refine' DT.r rfl rfl rfl ?hq ?_
                           case hq =>
                             refine WO.go' rfl ?_
                             refine' WO.indexAddr (n := _) (i := _) rfl rfl rfl ?hs ?h1 rfl ?_
                             case hs => (first | exact hR.sl)
                             case h1 => (first | omega | (simp; omega))
                             exact WO.nil ⟨rfl, rfl⟩
                           refine' DT.r rfl rfl rfl ?hq ?_
                           case hq =>
                             refine WO.go' rfl (WO.field0 rfl rfl rfl ?_)
                             exact WO.nil ⟨rfl, rfl⟩
                           refine' DT.b rfl rfl rfl ?hq ?_
                           case hq =>
                             refine WO.go' rfl ?_
                             refine' WO.load (v := _) rfl rfl ?hc rfl ?_
                             case hc => (first | (refine hR.cell0 (i := y) hyl rn0 ?_; rfl))
                             exact WO.nil ⟨rfl, rfl⟩
                           refine' DT.r rfl rfl rfl ?hq ?_
                           case hq =>
                             refine WO.go' rfl (WO.ar rfl rfl rfl (by (first | (unfold in64; omega) | (unfold in64; omega))) rfl ?_)
                             exact WO.nil ⟨rfl, rfl⟩
                           refine' DT.r rfl rfl rfl ?hq ?_
                           case hq =>
                             refine WO.pg rfl rfl rfl ?_
                             exact WO.nil ⟨rfl, rfl⟩
                           refine' DT.r rfl rfl rfl ?hq ?_
                           case hq =>
                             refine WO.go' rfl (WO.ar rfl rfl rfl (by (first | (unfold in64; omega) | (unfold in64; omega))) rfl ?_)
                             exact WO.nil ⟨rfl, rfl⟩
                           refine DT.nil [_, _, _, _, _, _] rfl ?_
                           refine WO.go' rfl ?_
                           refine WO.lssF rfl rfl (by omega) rfl ?_
                           refine WO.p rfl rfl ?_
                           refine WO.nil ?_
                           refine W.cond_f rfl ?_
                           refine W.skip ?_
                           refine W.fact (OwE.sl (enc := encI) (e := 2) (sz := 1) (v := gv) (xs := gs) (by repeat (first | exact Pick.head | apply Pick.tail))) (fun hgs => ?_)
                           refine W.drawD 19 [.r 0 [], .r 1 [], .r 2 [], .r 3 [], .r 4 [], .b 5 [], .r 6 [], .b 7 [], .r 8 [], .r 9 [], .r 10 [], .r 11 [], .b 12 [], .r 13 [], .r 14 [], .b 15 [], .r 16 [], .r 17 [], .r 18 []] [] (A0 := []) (Sub.refl _) (by kernel_rfl) ?_ ?_
                           · exact (ALok.r (ALok.r (ALok.r (ALok.r (ALok.r (ALok.b (ALok.r (ALok.b (ALok.r (ALok.r (ALok.r (ALok.r (ALok.b (ALok.r (ALok.r (ALok.b (ALok.r (ALok.r (ALok.r ALok.nil)))))))))))))))))))
                           refine' DT.r rfl rfl rfl ?hq ?_
                           case hq =>
                             refine WO.p rfl rfl ?_
                             exact WO.nil ⟨rfl, rfl⟩
                           refine' DT.r rfl rfl rfl ?hq ?_
                           case hq =>
                             refine WO.p rfl rfl ?_
                             exact WO.nil ⟨rfl, rfl⟩
                           refine' DT.r rfl rfl rfl ?hq ?_
                           case hq =>
                             refine WO.p rfl rfl ?_
                             exact WO.nil ⟨rfl, rfl⟩
                           refine' DT.r rfl rfl rfl ?hq ?_
                           case hq =>
                             refine WO.sub rfl rfl (by unfold in64; omega) rfl ?_
                             rw [show (i : Int) - 1 = (k : Int) by omega]
                             exact WO.nil ⟨rfl, rfl⟩
                           refine' DT.r rfl rfl rfl ?hq ?_
                           case hq =>
                             refine' WO.indexAddr (n := _) (i := _) rfl rfl rfl ?hs ?h1 rfl ?_
                             case hs => (first | exact hgs)
                             case h1 => (first | omega | (simp; omega))
                             exact WO.nil ⟨rfl, rfl⟩
                           refine' DT.b rfl rfl rfl ?hq ?_
                           case hq =>
                             refine' WO.load (v := _) rfl rfl ?hc rfl ?_
                             case hc => (first | (refine owE_cellS (e := 2) (xs := gs) (x := gs.getD k 0) (i := k) ?_ (by omega) rfl rfl; exact (by repeat (first | exact Sub.nil | refine Sub.cons (by repeat (first | exact Pick.head | apply Pick.tail)) ?_))))
                             exact WO.nil ⟨rfl, rfl⟩
                           refine' DT.r rfl rfl rfl ?hq ?_
                           case hq =>
                             refine WO.fieldL rfl rfl rfl ?_
                             exact WO.nil ⟨rfl, rfl⟩
                           refine' DT.b rfl rfl rfl ?hq ?_
                           case hq =>
                             refine WO.load rfl rfl (Cell.own (Pick.tail (Pick.head)) rfl) rfl ?_
                             exact WO.nil ⟨rfl, rfl⟩
                           refine' DT.r rfl rfl rfl ?hq ?_
                           case hq =>
                             refine WO.p rfl rfl ?_
                             exact WO.nil ⟨rfl, rfl⟩
                           refine' DT.r rfl rfl rfl ?hq ?_
                           case hq =>
                             refine WO.p rfl rfl ?_
                             exact WO.nil ⟨rfl, rfl⟩
                           refine' DT.r rfl rfl rfl ?hq ?_
                           case hq =>
                             refine WO.sub rfl rfl (by unfold in64; omega) rfl ?_
                             rw [show (i : Int) - 1 = (k : Int) by omega]
                             exact WO.nil ⟨rfl, rfl⟩
                           refine' DT.r rfl rfl rfl ?hq ?_
                           case hq =>
                             refine' WO.indexAddr (n := _) (i := _) rfl rfl rfl ?hs ?h1 rfl ?_
                             case hs => (first | exact hxs)
                             case h1 => (first | omega | (simp; omega))
                             exact WO.nil ⟨rfl, rfl⟩
                           refine' DT.b rfl rfl rfl ?hq ?_
                           case hq =>
                             refine' WO.load (v := _) rfl rfl ?hc rfl ?_
                             case hc => (first | (refine owE_cellS (e := 3) (xs := od) (x := (y : Int)) (i := k) ?_ (by omega) hy.symm rfl; exact (by repeat (first | exact Sub.nil | refine Sub.cons (by repeat (first | exact Pick.head | apply Pick.tail)) ?_))))
                             exact WO.nil ⟨rfl, rfl⟩
                           refine' DT.r rfl rfl rfl ?hq ?_
                           case hq =>
                             refine' WO.indexAddr (n := _) (i := _) rfl rfl rfl ?hs ?h1 rfl ?_
                             case hs => (first | exact hR.sl)
                             case h1 => (first | omega | (simp; omega))
                             exact WO.nil ⟨rfl, rfl⟩
                           refine' DT.r rfl rfl rfl ?hq ?_
                           case hq =>
                             refine WO.field0 rfl rfl rfl ?_
                             exact WO.nil ⟨rfl, rfl⟩
                           refine' DT.b rfl rfl rfl ?hq ?_
                           case hq =>
                             refine' WO.load (v := _) rfl rfl ?hc rfl ?_
                             case hc => (first | (refine hR.cell0 (i := y) hyl rn0 ?_; rfl))
                             exact WO.nil ⟨rfl, rfl⟩
                           refine' DT.r rfl rfl rfl ?hq ?_
                           case hq =>
                             refine WO.ar rfl rfl rfl (by (first | (unfold in64; omega) | (unfold in64; omega))) rfl ?_
                             exact WO.nil ⟨rfl, rfl⟩
                           refine' DT.r rfl rfl rfl ?hq ?_
                           case hq =>
                             refine WO.p rfl rfl ?_
                             exact WO.nil ⟨rfl, rfl⟩
                           refine' DT.r rfl rfl rfl ?hq ?_
                           case hq =>
                             refine WO.ar rfl rfl rfl (by (first | (unfold in64; omega) | (unfold in64; omega))) rfl ?_
                             exact WO.nil ⟨rfl, rfl⟩
                           refine DT.nil [_, _, _, _, _, _] rfl ?_
                           refine WO.max2 rfl rfl rfl ?_
                           refine WO.p rfl rfl ?_
                           refine WO.nil ?_
                           refine W.seq ?_
                           refine W.sreg ?_
                           refine WO.p rfl rfl (WO.p rfl rfl ?_)
                           refine' WO.len (n := _) rfl rfl ?hs rfl ?_
                           case hs => (first | exact hG.sl)
                           refine WO.p rfl rfl ?_
                           refine WO.nil ?_
                           refine W.cond_bl rfl (fun c8 => ?_) (fun c8 => ?_)
                           · first
                             | (exfalso; omega)
                             | (have hci := hcs _ (getD_mem (show i < cs.length by omega) 0)
                                refine W.region ?_
                                refine WO.p rfl rfl (WO.p rfl rfl (WO.p rfl rfl ?_))
                                refine' WO.indexAddr (n := _) (i := _) rfl rfl rfl ?hs ?h1 rfl ?_
                                case hs => (first | exact hG.sl)
                                case h1 => (first | omega | (simp; omega))
                                refine' WO.load (v := _) rfl rfl ?hc rfl ?_
                                case hc => (first | (refine hG.cell0 (i := i) (by omega) 0 ?_; rfl))
                                refine WO.conv64 rfl rfl rfl (by (first | (unfold in64; omega) | (unfold in64; omega))) rfl (WO.ar rfl rfl rfl (by (first | (unfold in64; omega) | (unfold in64; omega))) rfl (WO.p rfl rfl ?_))
                                refine WO.nil ?_
                                refine W.sreg ?_
                                refine WO.p rfl rfl (WO.p rfl rfl ?_)
                                refine' WO.buildSl (cs := _) rfl rfl rfl rfl ?hf rfl rfl ?hl rfl (fun v3 => ?_)
                                case hf => (conv => lhs; simp [-List.getD_eq_getElem?_getD, fillL, vcl, wrl, TTab.pl?.lget']) <;> rfl
                                case hl => rfl
                                refine' WO.appendE (enc := encI) (m := 1) (xs := gs) (ys := [_]) encI_ok rfl rfl rfl rfl rfl (by repeat (first | exact Pick.head | apply Pick.tail)) (isSl_lit (by omega) (fun _ => ⟨_, _, rfl⟩)) (by omega) rfl (OwC.cells .head) (by have := hst.1; omega) (by have := hst.1; omega) rfl (fun g' c' => ?_)
                                refine WO.p rfl rfl ?_
                                refine WO.nil ?_
                                refine W.region ?_
                                refine WO.p rfl rfl (WO.fieldL rfl rfl rfl (WO.loadA rfl rfl (Cells.ownAt (n := 2) (Pick.tail (Pick.tail (Pick.head))) rfl) rfl rfl (WO.p rfl rfl (WO.p rfl rfl ?_))))
                                refine WO.callR rfl Try.call29 (fun L w hi => law_pick w e (l.getD z rn0).lo (l.getD z rn0).hi ws i (hE.later hi) hws (by omega) (by omega)) rfl ?_
                                refine' WO.buildSl (cs := _) rfl rfl rfl rfl ?hf rfl rfl ?hl rfl (fun v4 => ?_)
                                case hf => (conv => lhs; simp [-List.getD_eq_getElem?_getD, fillL, vcl, wrl, TTab.pl?.lget']) <;> rfl
                                case hl => rfl
                                refine' WO.appendE (enc := encI) (m := 1) (xs := vs) (ys := [pkN (l.getD z rn0).lo (l.getD z rn0).hi ws i]) encI_ok rfl rfl rfl rfl rfl (by repeat (first | exact Pick.head | apply Pick.tail)) (isSl_lit (by omega) (fun _ => ⟨_, _, rfl⟩)) (by omega) rfl (OwC.cells .head) (by have := hst.2.1; omega) (by have := hst.2.1; omega) rfl (fun g2 c2 => ?_)
                                refine WO.p rfl rfl ?_
                                refine WO.nil ?_
                                refine W.region ?_
                                refine WO.p rfl rfl (WO.ar rfl rfl rfl (by (first | (unfold in64; omega) | (unfold in64; omega))) rfl (WO.p rfl rfl ?_))
                                refine WO.nil ?_
                                refine' ⟨i + 1, _, _, _, _, ?hp, ?hmu, ⟨rfl, rfl, rfl, rfl, rfl, rfl, rfl, rfl, trivial⟩, ?hS⟩
                                case hS => repeat (first | exact Sub.nil | refine Sub.cons (by repeat (first | exact Pick.head | apply Pick.tail)) ?_)
                                case hp => first | exact ⟨by omega, hst.step ⟨by omega, by omega⟩ hlv (fun k' q => by omega)⟩ | exact ⟨by omega, hst.step ⟨by omega, by omega⟩ hlv (fun k' q => by have := hr3 k' q; omega)⟩
                                case hmu => omega)
                           first
                           | (exfalso; omega)
                           | (refine W.skip ?_
                              refine W.sreg ?_
                              refine WO.p rfl rfl (WO.p rfl rfl ?_)
                              refine' WO.buildSl (cs := _) rfl rfl rfl rfl ?hf rfl rfl ?hl rfl (fun v3 => ?_)
                              case hf => (conv => lhs; simp [-List.getD_eq_getElem?_getD, fillL, vcl, wrl, TTab.pl?.lget']) <;> rfl
                              case hl => rfl
                              refine' WO.appendE (enc := encI) (m := 1) (xs := gs) (ys := [_]) encI_ok rfl rfl rfl rfl rfl (by repeat (first | exact Pick.head | apply Pick.tail)) (isSl_lit (by omega) (fun _ => ⟨_, _, rfl⟩)) (by omega) rfl (OwC.cells .head) (by have := hst.1; omega) (by have := hst.1; omega) rfl (fun g' c' => ?_)
                              refine WO.p rfl rfl ?_
                              refine WO.nil ?_
                              refine W.region ?_
                              refine WO.p rfl rfl (WO.fieldL rfl rfl rfl (WO.loadA rfl rfl (Cells.ownAt (n := 2) (Pick.tail (Pick.tail (Pick.head))) rfl) rfl rfl (WO.p rfl rfl (WO.p rfl rfl ?_))))
                              refine WO.callR rfl Try.call29 (fun L w hi => law_pick w e (l.getD z rn0).lo (l.getD z rn0).hi ws i (hE.later hi) hws (by omega) (by omega)) rfl ?_
                              refine' WO.buildSl (cs := _) rfl rfl rfl rfl ?hf rfl rfl ?hl rfl (fun v4 => ?_)
                              case hf => (conv => lhs; simp [-List.getD_eq_getElem?_getD, fillL, vcl, wrl, TTab.pl?.lget']) <;> rfl
                              case hl => rfl
                              refine' WO.appendE (enc := encI) (m := 1) (xs := vs) (ys := [pkN (l.getD z rn0).lo (l.getD z rn0).hi ws i]) encI_ok rfl rfl rfl rfl rfl (by repeat (first | exact Pick.head | apply Pick.tail)) (isSl_lit (by omega) (fun _ => ⟨_, _, rfl⟩)) (by omega) rfl (OwC.cells .head) (by have := hst.2.1; omega) (by have := hst.2.1; omega) rfl (fun g2 c2 => ?_)
                              refine WO.p rfl rfl ?_
                              refine WO.nil ?_
                              refine W.region ?_
                              refine WO.p rfl rfl (WO.ar rfl rfl rfl (by (first | (unfold in64; omega) | (unfold in64; omega))) rfl (WO.p rfl rfl ?_))
                              refine WO.nil ?_
                              refine' ⟨i + 1, _, _, _, _, ?hp, ?hmu, ⟨rfl, rfl, rfl, rfl, rfl, rfl, rfl, rfl, trivial⟩, ?hS⟩
                              case hS => repeat (first | exact Sub.nil | refine Sub.cons (by repeat (first | exact Pick.head | apply Pick.tail)) ?_)
                              case hp => first | exact ⟨by omega, hst.step ⟨by omega, by omega⟩ hlv (fun k' q => by omega)⟩ | exact ⟨by omega, hst.step ⟨by omega, by omega⟩ hlv (fun k' q => by have := hr3 k' q; omega)⟩
                              case hmu => omega))
                      first
                      | (exfalso; omega)
                      | (refine W.skip ?_
                         refine W.seq ?_
                         refine W.sreg ?_
                         refine WO.p rfl rfl (WO.p rfl rfl ?_)
                         refine' WO.len (n := _) rfl rfl ?hs rfl ?_
                         case hs => (first | exact hG.sl)
                         refine WO.p rfl rfl ?_
                         refine WO.nil ?_
                         refine W.cond_bl rfl (fun c8 => ?_) (fun c8 => ?_)
                         · first
                           | (exfalso; omega)
                           | (have hci := hcs _ (getD_mem (show i < cs.length by omega) 0)
                              refine W.region ?_
                              refine WO.p rfl rfl (WO.p rfl rfl (WO.p rfl rfl ?_))
                              refine' WO.indexAddr (n := _) (i := _) rfl rfl rfl ?hs ?h1 rfl ?_
                              case hs => (first | exact hG.sl)
                              case h1 => (first | omega | (simp; omega))
                              refine' WO.load (v := _) rfl rfl ?hc rfl ?_
                              case hc => (first | (refine hG.cell0 (i := i) (by omega) 0 ?_; rfl))
                              refine WO.conv64 rfl rfl rfl (by (first | (unfold in64; omega) | (unfold in64; omega))) rfl (WO.ar rfl rfl rfl (by (first | (unfold in64; omega) | (unfold in64; omega))) rfl (WO.p rfl rfl ?_))
                              refine WO.nil ?_
                              refine W.sreg ?_
                              refine WO.p rfl rfl (WO.p rfl rfl ?_)
                              refine' WO.buildSl (cs := _) rfl rfl rfl rfl ?hf rfl rfl ?hl rfl (fun v3 => ?_)
                              case hf => (conv => lhs; simp [-List.getD_eq_getElem?_getD, fillL, vcl, wrl, TTab.pl?.lget']) <;> rfl
                              case hl => rfl
                              refine' WO.appendE (enc := encI) (m := 1) (xs := gs) (ys := [_]) encI_ok rfl rfl rfl rfl rfl (by repeat (first | exact Pick.head | apply Pick.tail)) (isSl_lit (by omega) (fun _ => ⟨_, _, rfl⟩)) (by omega) rfl (OwC.cells .head) (by have := hst.1; omega) (by have := hst.1; omega) rfl (fun g' c' => ?_)
                              refine WO.p rfl rfl ?_
                              refine WO.nil ?_
                              refine W.region ?_
                              refine WO.p rfl rfl (WO.fieldL rfl rfl rfl (WO.loadA rfl rfl (Cells.ownAt (n := 2) (Pick.tail (Pick.tail (Pick.head))) rfl) rfl rfl (WO.p rfl rfl (WO.p rfl rfl ?_))))
                              refine WO.callR rfl Try.call29 (fun L w hi => law_pick w e (l.getD z rn0).lo (l.getD z rn0).hi ws i (hE.later hi) hws (by omega) (by omega)) rfl ?_
                              refine' WO.buildSl (cs := _) rfl rfl rfl rfl ?hf rfl rfl ?hl rfl (fun v4 => ?_)
                              case hf => (conv => lhs; simp [-List.getD_eq_getElem?_getD, fillL, vcl, wrl, TTab.pl?.lget']) <;> rfl
                              case hl => rfl
                              refine' WO.appendE (enc := encI) (m := 1) (xs := vs) (ys := [pkN (l.getD z rn0).lo (l.getD z rn0).hi ws i]) encI_ok rfl rfl rfl rfl rfl (by repeat (first | exact Pick.head | apply Pick.tail)) (isSl_lit (by omega) (fun _ => ⟨_, _, rfl⟩)) (by omega) rfl (OwC.cells .head) (by have := hst.2.1; omega) (by have := hst.2.1; omega) rfl (fun g2 c2 => ?_)
                              refine WO.p rfl rfl ?_
                              refine WO.nil ?_
                              refine W.region ?_
                              refine WO.p rfl rfl (WO.ar rfl rfl rfl (by (first | (unfold in64; omega) | (unfold in64; omega))) rfl (WO.p rfl rfl ?_))
                              refine WO.nil ?_
                              refine' ⟨i + 1, _, _, _, _, ?hp, ?hmu, ⟨rfl, rfl, rfl, rfl, rfl, rfl, rfl, rfl, trivial⟩, ?hS⟩
                              case hS => repeat (first | exact Sub.nil | refine Sub.cons (by repeat (first | exact Pick.head | apply Pick.tail)) ?_)
                              case hp => first | exact ⟨by omega, hst.step ⟨by omega, by omega⟩ hlv (fun k' q => by omega)⟩ | exact ⟨by omega, hst.step ⟨by omega, by omega⟩ hlv (fun k' q => by have := hr3 k' q; omega)⟩
                              case hmu => omega)
                         first
                         | (exfalso; omega)
                         | (refine W.skip ?_
                            refine W.sreg ?_
                            refine WO.p rfl rfl (WO.p rfl rfl ?_)
                            refine' WO.buildSl (cs := _) rfl rfl rfl rfl ?hf rfl rfl ?hl rfl (fun v3 => ?_)
                            case hf => (conv => lhs; simp [-List.getD_eq_getElem?_getD, fillL, vcl, wrl, TTab.pl?.lget']) <;> rfl
                            case hl => rfl
                            refine' WO.appendE (enc := encI) (m := 1) (xs := gs) (ys := [_]) encI_ok rfl rfl rfl rfl rfl (by repeat (first | exact Pick.head | apply Pick.tail)) (isSl_lit (by omega) (fun _ => ⟨_, _, rfl⟩)) (by omega) rfl (OwC.cells .head) (by have := hst.1; omega) (by have := hst.1; omega) rfl (fun g' c' => ?_)
                            refine WO.p rfl rfl ?_
                            refine WO.nil ?_
                            refine W.region ?_
                            refine WO.p rfl rfl (WO.fieldL rfl rfl rfl (WO.loadA rfl rfl (Cells.ownAt (n := 2) (Pick.tail (Pick.tail (Pick.head))) rfl) rfl rfl (WO.p rfl rfl (WO.p rfl rfl ?_))))
                            refine WO.callR rfl Try.call29 (fun L w hi => law_pick w e (l.getD z rn0).lo (l.getD z rn0).hi ws i (hE.later hi) hws (by omega) (by omega)) rfl ?_
                            refine' WO.buildSl (cs := _) rfl rfl rfl rfl ?hf rfl rfl ?hl rfl (fun v4 => ?_)
                            case hf => (conv => lhs; simp [-List.getD_eq_getElem?_getD, fillL, vcl, wrl, TTab.pl?.lget']) <;> rfl
                            case hl => rfl
                            refine' WO.appendE (enc := encI) (m := 1) (xs := vs) (ys := [pkN (l.getD z rn0).lo (l.getD z rn0).hi ws i]) encI_ok rfl rfl rfl rfl rfl (by repeat (first | exact Pick.head | apply Pick.tail)) (isSl_lit (by omega) (fun _ => ⟨_, _, rfl⟩)) (by omega) rfl (OwC.cells .head) (by have := hst.2.1; omega) (by have := hst.2.1; omega) rfl (fun g2 c2 => ?_)
                            refine WO.p rfl rfl ?_
                            refine WO.nil ?_
                            refine W.region ?_
                            refine WO.p rfl rfl (WO.ar rfl rfl rfl (by (first | (unfold in64; omega) | (unfold in64; omega))) rfl (WO.p rfl rfl ?_))
                            refine WO.nil ?_
                            refine' ⟨i + 1, _, _, _, _, ?hp, ?hmu, ⟨rfl, rfl, rfl, rfl, rfl, rfl, rfl, rfl, trivial⟩, ?hS⟩
                            case hS => repeat (first | exact Sub.nil | refine Sub.cons (by repeat (first | exact Pick.head | apply Pick.tail)) ?_)
                            case hp => first | exact ⟨by omega, hst.step ⟨by omega, by omega⟩ hlv (fun k' q => by omega)⟩ | exact ⟨by omega, hst.step ⟨by omega, by omega⟩ hlv (fun k' q => by have := hr3 k' q; omega)⟩
                            case hmu => omega)))
                 first
                 | (exfalso; omega)
                 | (refine W.exit (blk_same ?_)
                    have hin : i = od.length := by omega
                    have hkb := pk_bd (ws := ws) hws hkk.2.1 19
                    obtain ⟨kp, hkp⟩ : ∃ kp, pkN a b ws 19 = kp := ⟨_, rfl⟩
                    rw [hkp] at hkb
                    have hst' := hst
                    rw [hin] at hst'
                    obtain ⟨hoa, hpl⟩ := hst'.play hd hln.2 hvo hkb
                    have hp0 := plE_0 (show ¬ noE a b l od ≠ 0 by omega) (show ¬ (gs.length ≠ od.length ∨ vs.length ≠ od.length) by have h1 := hst'.1; have h2 := hst'.2.1; omega) hkb hoa
                    refine W.sreg ?_
                    refine WO.field0 rfl rfl rfl (WO.loadA rfl rfl (Cells.ownAt (n := 2) Pick.head rfl) rfl rfl (WO.p rfl rfl ?_))
                    refine WO.callR (r := .int .i64 kp) rfl Try.call29 (fun L w hi => by rw [← hkp]; exact law_pick w e a b ws 19 (hE.later hi) hws (by omega) (by omega)) rfl ?_
                    refine WO.p rfl rfl ?_
                    refine WO.nil ?_
                    refine W.sreg ?_
                    refine WO.loadA rfl rfl (Cells.own Pick.head) rfl rfl (WO.p rfl rfl (WO.p rfl rfl (WO.p rfl rfl (WO.p rfl rfl ?_))))
                    refine WO.call (Post := fun r Hq => ∃ x : Value, r = .tuple #[x, .int .i64 0] ∧ Hq = [OwE encI 2 1 x (plA l od gs vs kp od.length)]) rfl Try.call15 (fun L w hi => by have h := c_Play w o xv gv vv a b l od gs vs kp (hR.later hi) (RdF.of_ow (e := 3) encI_ok (by repeat (first | exact Pick.head | apply Pick.tail)) hi) (RdF.of_ow (e := 2) encI_ok (by repeat (first | exact Pick.head | apply Pick.tail)) hi) (RdF.of_ow (e := 2) encI_ok (by repeat (first | exact Pick.head | apply Pick.tail)) hi); rw [hp0.1, hp0.2] at h; exact h) rfl ?_
                    rintro _ _ ⟨sv, rfl, rfl⟩
                    refine WO.fact (OwE.sl (enc := encI) (e := 2) (sz := 1) (v := sv) (xs := plA l od gs vs kp od.length) Pick.head) (fun hss => ?_)
                    rw [plA_len] at hss
                    refine WO.p rfl rfl (WO.p rfl rfl (WO.p rfl rfl (WO.p rfl rfl (WO.p rfl rfl ?_))))
                    refine WO.nil ?_
                    refine W.seq ?_
                    refine W.sreg ?_
                    refine WO.p rfl rfl ?_
                    refine WO.neqF rfl rfl (by decide) rfl ?_
                    refine WO.p rfl rfl (WO.pg rfl rfl rfl (WO.go' rfl ?_))
                    refine' WO.len (n := _) rfl rfl ?hs rfl ?_
                    case hs => (first | exact hss)
                    refine WO.pg rfl rfl rfl (WO.go' rfl ?_)
                    refine' WO.len (n := _) rfl rfl ?hs rfl ?_
                    case hs => (first | exact hxs)
                    refine WO.go' rfl ?_
                    refine WO.neqF rfl rfl (by omega) rfl ?_
                    refine WO.p rfl rfl ?_
                    refine WO.nil ?_
                    refine W.cond_f rfl ?_
                    refine W.skip ?_
                    refine W.seq ?_
                    refine W.sreg ?_
                    refine WO.p rfl rfl ?_
                    refine WO.nil ?_
                    refine W.block ?_
                    refine W.loop (fun (j : Nat) => j ≤ od.length)
                      (fun (j : Nat) => [(4, .pointer (some ⟨b1, 0, none⟩)), (9, xv), (20, sv), (21, .int .i64 (j : Int))])
                      (fun (j : Nat) => [pt b1 (.cells #[.int .i64 a, .int .i64 b, o] 26 (0, 0)), OwE encI 3 1 xv od, OwE encI 2 1 sv (plA l od gs vs kp od.length)])
                      (fun (j : Nat) => od.length - j) 0
                      (by omega) ⟨rfl, rfl, rfl, rfl, trivial⟩ (by repeat (first | exact Sub.nil | refine Sub.cons (by repeat (first | exact Pick.head | apply Pick.tail)) ?_)) ?_
                    rintro j hj
                    refine W.seq ?_
                    refine W.sreg ?_
                    refine WO.p rfl rfl (WO.p rfl rfl ?_)
                    refine' WO.len (n := _) rfl rfl ?hs rfl ?_
                    case hs => (first | exact hxs)
                    refine WO.p rfl rfl ?_
                    refine WO.nil ?_
                    refine W.cond_bl rfl (fun c7 => ?_) (fun c7 => ?_)
                    · first
                      | (exfalso; omega)
                      | (refine W.skip ?_
                         refine W.seq ?_
                         refine W.block ?_
                         refine W.seq ?_
                         have hjl : j < od.length := by omega
                         obtain ⟨z, hz, hzl⟩ := in_nat (hod.1 _ (getD_mem hjl 0))
                         have hpj := hpl j hjl
                         rw [ruK_at hz] at hpj
                         refine W.drawD 19 [.r 0 [], .r 1 [], .r 2 [], .b 3 [], .r 4 [], .r 5 [], .r 6 [], .r 7 [], .r 8 [], .b 9 [], .r 10 [], .b 11 [], .r 12 [], .r 13 [], .r 14 [], .b 15 [], .r 16 [], .r 17 [], .b 18 []] [] (A0 := []) (Sub.refl _) (by kernel_rfl) ?_ ?_
                         · exact (ALok.r (ALok.r (ALok.r (ALok.b (ALok.r (ALok.r (ALok.r (ALok.r (ALok.r (ALok.b (ALok.r (ALok.b (ALok.r (ALok.r (ALok.r (ALok.b (ALok.r (ALok.r (ALok.b ALok.nil)))))))))))))))))))
                         refine' DT.r rfl rfl rfl ?hq ?_
                         case hq =>
                           refine WO.p rfl rfl ?_
                           exact WO.nil ⟨rfl, rfl⟩
                         refine' DT.r rfl rfl rfl ?hq ?_
                         case hq =>
                           refine WO.p rfl rfl ?_
                           exact WO.nil ⟨rfl, rfl⟩
                         refine' DT.r rfl rfl rfl ?hq ?_
                         case hq =>
                           refine' WO.indexAddr (n := _) (i := _) rfl rfl rfl ?hs ?h1 rfl ?_
                           case hs => (first | exact hss)
                           case h1 => (first | omega | (simp; omega))
                           exact WO.nil ⟨rfl, rfl⟩
                         refine' DT.b rfl rfl rfl ?hq ?_
                         case hq =>
                           refine' WO.load (v := _) rfl rfl ?hc rfl ?_
                           case hc => (first | (refine owE_cellS (e := 2) (xs := plA l od gs vs kp od.length) (x := plN l od gs vs kp j) (i := j) ?_ (by rw [plA_len]; omega) (plA_get hjl).symm rfl; exact (by repeat (first | exact Sub.nil | refine Sub.cons (by repeat (first | exact Pick.head | apply Pick.tail)) ?_))))
                           exact WO.nil ⟨rfl, rfl⟩
                         refine' DT.r rfl rfl rfl ?hq ?_
                         case hq =>
                           refine WO.lssF rfl rfl (by omega) rfl ?_
                           exact WO.nil ⟨rfl, rfl⟩
                         refine' DT.r rfl rfl rfl ?hq ?_
                         case hq =>
                           refine WO.p rfl rfl ?_
                           exact WO.nil ⟨rfl, rfl⟩
                         refine' DT.r rfl rfl rfl ?hq ?_
                         case hq =>
                           refine WO.pg rfl rfl rfl ?_
                           exact WO.nil ⟨rfl, rfl⟩
                         refine' DT.r rfl rfl rfl ?hq ?_
                         case hq =>
                           refine WO.pg rfl rfl rfl ?_
                           exact WO.nil ⟨rfl, rfl⟩
                         refine' DT.r rfl rfl rfl ?hq ?_
                         case hq =>
                           refine WO.go' rfl ?_
                           refine' WO.indexAddr (n := _) (i := _) rfl rfl rfl ?hs ?h1 rfl ?_
                           case hs => (first | exact hss)
                           case h1 => (first | omega | (simp; omega))
                           exact WO.nil ⟨rfl, rfl⟩
                         refine' DT.b rfl rfl rfl ?hq ?_
                         case hq =>
                           refine WO.go' rfl ?_
                           refine' WO.load (v := _) rfl rfl ?hc rfl ?_
                           case hc => (first | (refine owE_cellS (e := 2) (xs := plA l od gs vs kp od.length) (x := plN l od gs vs kp j) (i := j) ?_ (by rw [plA_len]; omega) (plA_get hjl).symm rfl; exact (by repeat (first | exact Sub.nil | refine Sub.cons (by repeat (first | exact Pick.head | apply Pick.tail)) ?_))))
                           exact WO.nil ⟨rfl, rfl⟩
                         refine' DT.r rfl rfl rfl ?hq ?_
                         case hq =>
                           refine WO.go' rfl (WO.fieldL rfl rfl rfl ?_)
                           exact WO.nil ⟨rfl, rfl⟩
                         refine' DT.b rfl rfl rfl ?hq ?_
                         case hq =>
                           refine WO.go' rfl (WO.load rfl rfl (Cell.own Pick.head rfl) rfl ?_)
                           exact WO.nil ⟨rfl, rfl⟩
                         refine' DT.r rfl rfl rfl ?hq ?_
                         case hq =>
                           refine WO.pg rfl rfl rfl ?_
                           exact WO.nil ⟨rfl, rfl⟩
                         refine' DT.r rfl rfl rfl ?hq ?_
                         case hq =>
                           refine WO.pg rfl rfl rfl ?_
                           exact WO.nil ⟨rfl, rfl⟩
                         refine' DT.r rfl rfl rfl ?hq ?_
                         case hq =>
                           refine WO.go' rfl ?_
                           refine' WO.indexAddr (n := _) (i := _) rfl rfl rfl ?hs ?h1 rfl ?_
                           case hs => (first | exact hxs)
                           case h1 => (first | omega | (simp; omega))
                           exact WO.nil ⟨rfl, rfl⟩
                         refine' DT.b rfl rfl rfl ?hq ?_
                         case hq =>
                           refine WO.go' rfl ?_
                           refine' WO.load (v := _) rfl rfl ?hc rfl ?_
                           case hc => (first | (refine owE_cellS (e := 3) (xs := od) (x := (z : Int)) (i := j) ?_ (by omega) hz.symm rfl; exact (by repeat (first | exact Sub.nil | refine Sub.cons (by repeat (first | exact Pick.head | apply Pick.tail)) ?_))))
                           exact WO.nil ⟨rfl, rfl⟩
                         refine' DT.r rfl rfl rfl ?hq ?_
                         case hq =>
                           refine WO.go' rfl ?_
                           refine' WO.indexAddr (n := _) (i := _) rfl rfl rfl ?hs ?h1 rfl ?_
                           case hs => (first | exact hR.sl)
                           case h1 => (first | omega | (simp; omega))
                           exact WO.nil ⟨rfl, rfl⟩
                         refine' DT.r rfl rfl rfl ?hq ?_
                         case hq =>
                           refine WO.go' rfl (WO.field rfl rfl rfl ?_)
                           exact WO.nil ⟨rfl, rfl⟩
                         refine' DT.b rfl rfl rfl ?hq ?_
                         case hq =>
                           refine WO.go' rfl ?_
                           refine' WO.load (v := _) rfl rfl ?hc rfl ?_
                           case hc => (first | (refine hR.cellAt (i := z) (j := 3) hzl rn0 ?_; rfl))
                           exact WO.nil ⟨rfl, rfl⟩
                         refine DT.nil [_, _, _] rfl ?_
                         refine WO.go' rfl ?_
                         refine WO.gtrF rfl rfl (by omega) rfl ?_
                         refine WO.p rfl rfl ?_
                         refine WO.nil ?_
                         refine W.cond_f rfl ?_
                         refine W.skip ?_
                         refine W.region ?_
                         refine WO.p rfl rfl (WO.ar rfl rfl rfl (by (first | (unfold in64; omega) | (unfold in64; omega))) rfl (WO.p rfl rfl ?_))
                         refine WO.nil ?_
                         refine' ⟨j + 1, ?hp, ?hmu, ⟨rfl, rfl, rfl, rfl, trivial⟩, ?hS⟩
                         case hS => repeat (first | exact Sub.nil | refine Sub.cons (by repeat (first | exact Pick.head | apply Pick.tail)) ?_)
                         case hp => omega
                         case hmu => omega)
                    first
                    | (exfalso; omega)
                    | (refine W.exit (blk_same ?_)
                       refine W.sreg ?_
                       refine WO.callR rfl Try.call12 (fun L w hi => l_Works w) rfl ?_
                       refine WO.p rfl rfl ?_
                       refine WO.nil ?_
                       refine W.ret ?_
                       first | exact fin.ret (Res.one rfl (RV.tmp rfl)) rfl | (exfalso; omega))))))))
end Go.Proofs.Ytkonhpcldomidaa
