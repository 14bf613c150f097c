/-
  What is proved here: numbers picked by words, and plain: waiting is enough. Conditions: none; each contract states its own.
  What is proved here: a store into a field of one's own slice; plain: an easier day. Conditions: none; each rule states its own.
  What is proved here: the law of an easier day. Conditions: none; each contract states its own.
-/
import Derived.Test.YtkonhpcldomidaaM12
import Derived.Test.YtkonhpcldomidaaM16
set_option linter.unusedVariables false
set_option linter.unusedSimpArgs false
namespace Go.Proofs.Ytkonhpcldomidaa
open Go Go.TH
attribute [local irreducible] W WO pt
set_option maxRecDepth 10000
set_option maxHeartbeats 1000000
def pkN (lo hi : Int) (ws : List Int) (n : Nat) : Int := if ws.length = 0 then lo else lo + (ws.getD (n % ws.length) 0).tmod (hi - lo + 1)
theorem pk_bd {lo hi : Int} {ws : List Int} (hw : ∀ x ∈ ws, 0 ≤ x ∧ x ≤ 4294967295) (h : lo ≤ hi) (n : Nat) : lo ≤ pkN lo hi ws n ∧ pkN lo hi ws n ≤ hi := by
  unfold pkN
  split
  · omega
  have hx := hw _ (getD_mem (Nat.mod_lt n (show 0 < ws.length by omega)) 0)
  have h1 := Int.tmod_nonneg (hi - lo + 1) hx.1
  have h2 := Int.tmod_lt_of_pos (ws.getD (n % ws.length) 0) (show (0 : Int) < hi - lo + 1 by omega)
  omega
theorem law_pick (w : World) (u : Value) (lo hi : Int) (ws : List Int) (n : Nat) (hX : RdF encV 1 w.heap.size w u ws) (hw : ∀ x ∈ ws, 0 ≤ x ∧ x ≤ 4294967295) (h : 0 ≤ lo ∧ lo ≤ hi ∧ hi ≤ 1000000) (hn : n ≤ 1000) : Ret Try.prog 29 [.agg #[.int .i64 lo, .int .i64 hi], u, .int .i64 (n : Int)].toArray w (.int .i64 (pkN lo hi ws n)) := by
  refine Ret.of mixed tyTab Try.func29 rfl rfl ?_
  replace hX : RdF encV 1 (fnCx mixed tyTab Try.f29.ntmps w).B (fnCx mixed tyTab Try.f29.ntmps w).w0 u ws := hX
  have hle := hX.sl.le
  refine W.sreg ?_
  refine WO.boxA rfl rfl (fun b1 hb1 => ?_)
  refine WO.p rfl rfl ?_
  refine WO.nil ?_
  refine W.seq ?_
  refine W.sreg ?_
  refine WO.p rfl rfl ?_
  refine' WO.len (n := _) rfl rfl ?hs rfl ?_
  case hs => (first | exact hX.sl)
  refine WO.p rfl rfl ?_
  refine WO.nil ?_
  refine W.cond_bl rfl (fun c1 => ?_) (fun c1 => ?_)
  · first
    | (exfalso; omega)
    | (refine W.sreg ?_
       refine WO.field0 rfl rfl rfl (WO.load rfl rfl (Cell.own Pick.head rfl) rfl (WO.p rfl rfl ?_))
       refine WO.nil ?_
       refine W.ret ?_
       refine fin.ret (Res.one rfl (RV.tmp rfl)) (congrArg (Value.int .i64) ?_)
       first | exact (if_pos (by omega)).symm | exact (if_neg (by omega)).symm)
  first
  | (exfalso; omega)
  | (refine W.skip ?_
     refine W.seq ?_
     have hl0 : 0 < ws.length := by omega
     have hm := Nat.mod_lt n hl0
     have hx := hw _ (getD_mem hm 0)
     have ht1 := Int.tmod_nonneg (hi - lo + 1) hx.1
     have ht2 := Int.tmod_lt_of_pos (ws.getD (n % ws.length) 0) (show (0 : Int) < hi - lo + 1 by omega)
     refine W.drawD 17 [.r 0 [], .b 1 [], .r 2 [], .r 3 [], .r 4 [], .r 5 [], .r 6 [], .r 7 [], .b 8 [], .r 9 [], .r 10 [], .b 11 [], .r 12 [], .b 13 [], .r 14 [], .r 15 [], .r 16 []] [] (A0 := []) (Sub.refl _) (by kernel_rfl) ?_ ?_
     · exact (ALok.r (ALok.b (ALok.r (ALok.r (ALok.r (ALok.r (ALok.r (ALok.r (ALok.b (ALok.r (ALok.r (ALok.b (ALok.r (ALok.b (ALok.r (ALok.r (ALok.r ALok.nil)))))))))))))))))
     refine' DT.r rfl rfl rfl ?hq ?_
     case hq =>
       refine WO.field0 rfl rfl rfl ?_
       exact WO.nil ⟨rfl, rfl⟩
     refine' DT.b rfl rfl rfl ?hq ?_
     case hq =>
       refine WO.load rfl rfl (Cell.own Pick.head rfl) rfl ?_
       exact WO.nil ⟨rfl, rfl⟩
     refine' DT.r rfl rfl rfl ?hq ?_
     case hq =>
       refine WO.p rfl rfl ?_
       exact WO.nil ⟨rfl, rfl⟩
     refine' DT.r rfl rfl rfl ?hq ?_
     case hq =>
       refine WO.p rfl rfl ?_
       exact WO.nil ⟨rfl, rfl⟩
     refine' DT.r rfl rfl rfl ?hq ?_
     case hq =>
       refine WO.p rfl rfl ?_
       exact WO.nil ⟨rfl, rfl⟩
     refine' DT.r rfl rfl rfl ?hq ?_
     case hq =>
       refine' WO.len (n := _) rfl rfl ?hs rfl ?_
       case hs => (first | exact hX.sl)
       exact WO.nil ⟨rfl, rfl⟩
     refine' DT.r rfl rfl rfl ?hq ?_
     case hq =>
       refine WO.rem (b := (ws.length : Int)) rfl rfl (by omega) rfl ?_
       rw [← Int.ofNat_tmod]
       exact WO.nil ⟨rfl, rfl⟩
     refine' DT.r rfl rfl rfl ?hq ?_
     case hq =>
       refine' WO.indexAddr (n := _) (i := _) rfl rfl rfl ?hs ?h1 rfl ?_
       case hs => (first | exact hX.sl)
       case h1 => (first | omega | (simp; omega))
       exact WO.nil ⟨rfl, rfl⟩
     refine' DT.b rfl rfl rfl ?hq ?_
     case hq =>
       refine' WO.load (v := _) rfl rfl ?hc rfl ?_
       case hc => (first | (refine hX.cell0 (i := n % ws.length) hm 0 ?_; rfl))
       exact WO.nil ⟨rfl, rfl⟩
     refine' DT.r rfl rfl rfl ?hq ?_
     case hq =>
       refine WO.conv64 rfl rfl rfl (by (first | (unfold in64; omega) | (unfold in64; omega))) rfl ?_
       exact WO.nil ⟨rfl, rfl⟩
     refine' DT.r rfl rfl rfl ?hq ?_
     case hq =>
       refine WO.fieldL rfl rfl rfl ?_
       exact WO.nil ⟨rfl, rfl⟩
     refine' DT.b rfl rfl rfl ?hq ?_
     case hq =>
       refine WO.load rfl rfl (Cell.own Pick.head rfl) rfl ?_
       exact WO.nil ⟨rfl, rfl⟩
     refine' DT.r rfl rfl rfl ?hq ?_
     case hq =>
       refine WO.field0 rfl rfl rfl ?_
       exact WO.nil ⟨rfl, rfl⟩
     refine' DT.b rfl rfl rfl ?hq ?_
     case hq =>
       refine WO.load rfl rfl (Cell.own Pick.head rfl) rfl ?_
       exact WO.nil ⟨rfl, rfl⟩
     refine' DT.r rfl rfl rfl ?hq ?_
     case hq =>
       refine WO.ar rfl rfl rfl (by (first | (unfold in64; omega) | (unfold in64; omega))) rfl ?_
       exact WO.nil ⟨rfl, rfl⟩
     refine' DT.r rfl rfl rfl ?hq ?_
     case hq =>
       refine WO.ar rfl rfl rfl (by (first | (unfold in64; omega) | (unfold in64; omega))) rfl ?_
       exact WO.nil ⟨rfl, rfl⟩
     refine' DT.r rfl rfl rfl ?hq ?_
     case hq =>
       refine WO.rem rfl rfl (by first | omega | assumption) rfl ?_
       exact WO.nil ⟨rfl, rfl⟩
     refine DT.nil [_] rfl ?_
     refine WO.ar rfl rfl rfl (by (first | (unfold in64; omega) | (unfold in64; omega))) rfl (WO.p rfl rfl ?_)
     refine WO.nil ?_
     refine W.ret ?_
     refine fin.ret (Res.one rfl (RV.tmp rfl)) (congrArg (Value.int .i64) ?_)
     first | exact (if_pos (by omega)).symm | exact (if_neg (by omega)).symm)
theorem dyn_mono {k k' e e' : Int} (hk : 0 ≤ k ∧ k ≤ k') (he : 0 ≤ e ∧ e ≤ e') : dyn k e ≤ dyn k' e' := by
  unfold dyn
  have h1 : e * k ≤ e' * k' := Int.mul_le_mul he.2 hk.2 hk.1 (by omega)
  have h2 : 0 ≤ e * k := Int.mul_nonneg he.1 hk.1
  rw [Int.tdiv_eq_ediv_of_nonneg h2, Int.tdiv_eq_ediv_of_nonneg (by omega)]
  omega
theorem en_mono {k k' e e' : Int} (h : OkE k e) (hk : k ≤ k') (he : e ≤ e') : ∀ m, en k e m ≤ en k' e' m
  | 0 => he
  | m + 1 => dyn_mono ⟨h.1.1, hk⟩ ⟨(en_ok h m).2.1, en_mono h hk he m⟩
theorem en_anti {k e : Int} (h : OkE k e) {m : Nat} : ∀ n, m ≤ n → en k e n ≤ en k e m
  | 0, hn => by rw [show m = 0 by omega]; omega
  | n + 1, hn => by
    rcases Nat.lt_or_ge n m with g | g
    · rw [show m = n + 1 by omega]; omega
    have := en_anti h n g
    have := en_le h n
    omega
theorem wt_still {k e st : Int} (h : 0 ≤ wt k e st) : en k e (wt k e st).toNat ≤ st := by
  unfold wt at h ⊢
  split
  · rename_i h1
    have h2 := (fi_spec (fun m => en k e m ≤ st) (dyS k e + 1)).2.1
    rw [Int.toNat_natCast]
    exact h2 (by unfold wq at h1; omega)
  rename_i h1; rw [if_neg h1] at h; omega
/-- the runs so far, begun as late as they are -/
def StI (b : Int) (l : List Rn) (o gs vs : List Int) (i : Nat) : Prop := gs.length = i ∧ vs.length = i ∧ (∀ k, k < i → atK b l o k ≤ gs.getD k 0 ∧ gs.getD k 0 ≤ atK b l o k + 255 * ((k : Int) + 1)) ∧ (∀ k, k < i → (ruK l o k).lo ≤ vs.getD k 0 ∧ vs.getD k 0 ≤ (ruK l o k).hi) ∧ ∀ k, k + 1 < i → gs.getD k 0 + (ruK l o k).mi + wOf b l (o.getD k 0).toNat (o.getD (k + 1) 0).toNat ≤ gs.getD (k + 1) 0
theorem StI.zero (b : Int) (l : List Rn) (o : List Int) : StI b l o [] [] 0 := ⟨rfl, rfl, fun k h => by omega, fun k h => by omega, fun k h => by omega⟩
theorem StI.step {b : Int} {l : List Rn} {o gs vs : List Int} {i : Nat} {g v : Int} (h : StI b l o gs vs i) (h1 : atK b l o i ≤ g ∧ g ≤ atK b l o i + 255 * ((i : Int) + 1)) (h2 : (ruK l o i).lo ≤ v ∧ v ≤ (ruK l o i).hi) (h3 : ∀ k, i = k + 1 → gs.getD k 0 + (ruK l o k).mi + wOf b l (o.getD k 0).toNat (o.getD (k + 1) 0).toNat ≤ g) : StI b l o (gs ++ [g]) (vs ++ [v]) (i + 1) := by
  obtain ⟨l1, l2, q1, q2, q3⟩ := h
  have e1 : (gs ++ [g]).getD i 0 = g := by rw [← l1]; exact getD_app_e gs g
  have e2 : (vs ++ [v]).getD i 0 = v := by rw [← l2]; exact getD_app_e vs v
  refine ⟨by simp [l1], by simp [l2], fun k hk => ?_, fun k hk => ?_, fun k hk => ?_⟩
  · rcases Nat.lt_or_ge k i with c | c
    · rw [getD_app_l (by omega)]; exact q1 k c
    obtain rfl : k = i := by omega
    rw [e1]; exact h1
  · rcases Nat.lt_or_ge k i with c | c
    · rw [getD_app_l (by omega)]; exact q2 k c
    obtain rfl : k = i := by omega
    rw [e2]; exact h2
  rw [getD_app_l (show k < gs.length by omega)]
  rcases Nat.lt_or_ge (k + 1) i with c | c
  · rw [getD_app_l (by omega)]; exact q3 k c
  rw [show k + 1 = i by omega, e1, show i = k + 1 by omega]; exact h3 k (by omega)
theorem ruK_ok {a b : Int} {l : List Rn} {o : List Int} (hd : OkD a b l) (hv : ∀ x ∈ o, In l x) {k : Nat} (hk : k < o.length) : OkR (ruK l o k) := by
  have h := hv _ (getD_mem hk 0)
  unfold In at h
  exact hd.at_ (i := (o.getD k 0).toNat) (by omega)
theorem noW {b : Int} {l : List Rn} {o : List Int} {k : Nat} (hv : VO b l o) (hk : k + 1 < o.length) : wOf b l (o.getD k 0).toNat (o.getD (k + 1) 0).toNat ≠ -1 := by
  have h1 := bgE_un (tmE_0.1 hv.2.2 (k + 1) hk)
  have h2 := hv.1 _ (getD_mem (show k < o.length by omega) 0)
  unfold In at h2
  exact fun e => h1.2 ⟨h2.1, e⟩
/-- the day can be played, and the water is still enough -/
theorem StI.play {a b : Int} {l : List Rn} {o gs vs : List Int} {kp : Int} (hd : OkD a b l) (h8 : l.length ≤ 8) (hv : VO b l o) (h : StI b l o gs vs o.length) (hkp : a ≤ kp ∧ kp ≤ b) : okA l o gs vs o.length ∧ ∀ k, k < o.length → 0 ≤ plN l o gs vs kp k ∧ plN l o gs vs kp k ≤ (ruK l o k).st := by
  obtain ⟨l1, l2, q1, q2, q3⟩ := h
  have hol := hv.len
  have hbk := hd.1
  unfold OkK at hbk
  constructor
  · intro k hk
    have h1 := q1 k hk
    have hb := atK_bd hd hv.1 hk (tmE_0.1 hv.2.2 k hk)
    refine ⟨q2 k hk, ?_, by omega⟩
    cases k with
    | zero => show 0 ≤ _; omega
    | succ k =>
      have h3 := q3 k hk
      have h4 := noW hv hk
      have h5 := hd.w (i := (o.getD k 0).toNat) (by have := hv.1 _ (getD_mem (show k < o.length by omega) 0); unfold In at this; omega) (o.getD (k + 1) 0).toNat
      show gs.getD k 0 + (ruK l o k).mi ≤ _
      omega
  intro k hk
  have hr := ruK_ok hd hv.1 hk
  unfold OkR at hr
  cases k with
  | zero => show 0 ≤ 0 ∧ 0 ≤ _; omega
  | succ k =>
    have hk' : k < o.length := by omega
    have hrk := ruK_ok hd hv.1 hk'
    unfold OkR at hrk
    have hx := q2 k hk'
    have h3 := q3 k hk
    have h4 := noW hv hk
    have hin := hv.1 _ (getD_mem hk' 0)
    unfold In at hin
    have h5 := hd.w (i := (o.getD k 0).toNat) (by omega) (o.getD (k + 1) 0).toNat
    have hke : OkE kp (vs.getD k 0) := ⟨⟨by omega, by omega⟩, by omega, by omega⟩
    have hbe : OkE b (ruK l o k).hi := hd.ke (i := (o.getD k 0).toNat) (by omega)
    show 0 ≤ en kp (vs.getD k 0) _ ∧ en kp (vs.getD k 0) _ ≤ _
    refine ⟨(en_ok hke _).2.1, ?_⟩
    have hw : en b (ruK l o k).hi (wOf b l (o.getD k 0).toNat (o.getD (k + 1) 0).toNat).toNat ≤ (ruK l o (k + 1)).st := wt_still (show 0 ≤ wOf b l (o.getD k 0).toNat (o.getD (k + 1) 0).toNat by omega)
    refine Int.le_trans (en_mono hke hkp.2 hx.2 _) (Int.le_trans (en_anti hbe _ ?_) hw)
    omega
end Go.Proofs.Ytkonhpcldomidaa
namespace Go.Proofs.Ytkonhpcldomidaa
open Go Go.TH
attribute [local irreducible] W WO pt
set_option maxRecDepth 10000
set_option maxHeartbeats 1000000
theorem WO.storeOwF {C : Cx Try.prog} {E : Env} {H : List HP} {ops : Array Oper} {K : KP} {rest : List Oper} {ty : TypeId} {pos : String} {af : Array Edge} {x y : Operand} {T : TypeId} {e n sz q : Nat} {v u : Value} {pa : Addr} {cs : List Value} {H' : List HP} (hx : ev E x = some (.pointer (some pa))) (hpa : pa = (base v).add q) (hy : ev E y = some u) (hT : C.tt.one? T = true) (h1 : u.oneCell' = true) (p : Pick (OwC e sz v n cs) H H') (hl : q < cs.length)
    (h : WO C ops rest K E (OwC e sz v n (cs.set q u) :: H')) : WO C ops (⟨none, .store T x y, ty, pos, af, none⟩ :: rest) K E H := by
  refine WO.step0 rfl rfl (XO.run (by simp) fun L a w hf hi => ?_)
  obtain ⟨hcl, hcase⟩ := OwC.open (hi.pickL p)
  rcases hcase with ⟨rfl, rfl, hv⟩ | ⟨g, cap, cur, rfl, q1, q2, q3, q4, hv⟩
  · rw [hcl] at hl; simp at hl
  have hlook := (hv.look (b := g) (o := .cells cur.toArray e (0, 0)) ((Pick.head).app L)).1
  have ea : pa = ⟨g, q, none⟩ := by rw [hpa]; simp [base, Addr.add_lit]
  have hcl' : cs.length ≤ cur.length := by rw [← q4, List.length_take]; omega
  have hu : u.cells = [u].toArray := by cases u <;> simp_all [Value.cells, Value.oneCell']
  obtain ⟨w', hr, a1, a2, a3, a4, a5, a6⟩ := run_storeVar_own (P := Try.prog) (T := T) (b := g) (off := q) (w := w) (cs := cur) hu (CT.of hT).size hlook (by simp; omega) (by simp [h1])
  refine ⟨undef, w', _, .inr ⟨?_, rfl⟩, h, ?_⟩
  · simp [execOp, hf.eval hx, hf.eval hy, ea, Instr.storeAt, Instr.sureAddr, hr]
  have h2 := hv.set (b := g) (o := .cells cur.toArray e (0, 0)) (H' := L ++ H') Pick.mem a1 a2 a3 a4 a5 a6
  have h3 := h2.perm (List.perm_middle (l₁ := L) (l₂ := H')).symm
  refine OwC.shut (by simpa using hcl) q1 q2 (by simpa [wrl] using q3) ?_ h3
  simp only [wrl]
  rw [← q4, List.take_set]
theorem flat_setF {xs : List Rn} {i j : Nat} {r : Rn} {u : Value} (hi : i < xs.length) (hj : j < 6) (hr : encR r = (encR (xs.getD i rn0)).set j u) : (xs.flatMap encR).set (i * 6 + j) u = (xs.set i r).flatMap encR := by
  refine List.ext_getElem? fun m => ?_
  have hlen : (xs.flatMap encR).length = xs.length * 6 := encR_ok.flat_len xs
  rcases Nat.lt_or_ge m (xs.length * 6) with g | g
  · have hm : m = m / 6 * 6 + m % 6 := by omega
    have ha : m / 6 < xs.length := by omega
    have e1 : (xs.flatMap encR)[m]? = (encR xs[m / 6])[m % 6]? := by
      conv => lhs; rw [hm]
      exact encR_ok.flat_get xs (m / 6) (m % 6) _ (List.getElem?_eq_getElem ha) (by omega)
    have e2 : ((xs.set i r).flatMap encR)[m]? = (encR ((xs.set i r)[m / 6]'(by simpa using ha)))[m % 6]? := by
      conv => lhs; rw [hm]
      exact encR_ok.flat_get (xs.set i r) (m / 6) (m % 6) _ (List.getElem?_eq_getElem (by simpa using ha)) (by omega)
    rw [List.getElem?_set, e1, e2, List.getElem_set]
    by_cases q : i = m / 6
    · rw [if_pos q, hr, List.getElem?_set, encR_ok.len]
      have ex : xs.getD i rn0 = xs[m / 6] := by
        rw [List.getD_eq_getElem?_getD, q, List.getElem?_eq_getElem ha]; rfl
      rw [ex]
      by_cases q2 : j = m % 6
      · rw [if_pos (by omega), if_pos q2, if_pos (by omega), if_pos (by omega)]
      rw [if_neg (by omega), if_neg q2]
    rw [if_neg q, if_neg (by omega)]
  rw [List.getElem?_eq_none (by rw [List.length_set, hlen]; exact g), List.getElem?_eq_none (by rw [encR_ok.flat_len, List.length_set]; exact g)]
theorem WO.storeRn {C : Cx Try.prog} {E : Env} {H : List HP} {ops : Array Oper} {K : KP} {rest : List Oper} {ty : TypeId} {pos : String} {af : Array Edge} {x y : Operand} {T : TypeId} {i j : Nat} {v u : Value} {pa : Addr} {xs : List Rn} {r : Rn} {H' : List HP} (hx : ev E x = some (.pointer (some pa))) (hpa : pa = (base v).add (i * 6 + j)) (hy : ev E y = some u) (hT : C.tt.one? T = true) (h1 : u.oneCell' = true) (p : Pick (OwE encR 48 6 v xs) H H') (hi : i < xs.length) (hj : j < 6) (hr : encR r = (encR (xs.getD i rn0)).set j u)
    (h : WO C ops rest K E (OwE encR 48 6 v (xs.set i r) :: H')) : WO C ops (⟨none, .store T x y, ty, pos, af, none⟩ :: rest) K E H := by
  refine WO.storeOwF hx hpa hy hT h1 p (by rw [encR_ok.flat_len]; omega) ?_
  unfold OwE at h
  rw [← flat_setF hi hj hr, List.length_set] at h
  exact h
theorem pa_fld (v : Value) (i j : Nat) : prt (elt v i 6) j = (base v).add (i * 6 + j) := by rw [prt_eq, elt_eq, addr_add_add]
theorem pa_fld2 (v : Value) (i j k : Nat) : prt (prt (elt v i 6) j) k = (base v).add (i * 6 + (j + k)) := by rw [prt_eq, prt_eq, elt_eq, addr_add_add, addr_add_add]
/-- a wait is the least -/
theorem wt_least {k e st : Int} {m : Nat} (h : OkE k e) (hm : en k e m ≤ st) : 0 ≤ wt k e st ∧ wt k e st ≤ (m : Int) := by
  obtain ⟨h1, h2, h3⟩ := fi_spec (fun m => en k e m ≤ st) (dyS k e + 1)
  have hw : wq k e st = fi (fun m => en k e m ≤ st) (dyS k e + 1) := rfl
  rw [← hw] at h1 h2 h3
  have hle : wq k e st ≤ m := by
    rcases Nat.lt_or_ge m (wq k e st) with g | g
    · exact absurd hm (h3 m g)
    exact g
  have hle2 : wq k e st ≤ dyS k e := by
    rcases Nat.lt_or_ge (dyS k e) (wq k e st) with g | g
    · have h4 := h3 (dyS k e) g
      have h5 : en k e m ≤ st := hm
      rcases Nat.lt_or_ge m (dyS k e) with q | q
      · exact absurd hm (h3 m (by omega))
      rw [en_same (dyS_stop h) m q] at h5
      exact absurd h5 h4
    exact g
  unfold wt
  rw [if_pos hle2]
  omega
/-- an easier day -/
structure Eas (b b2 : Int) (l l2 : List Rn) : Prop where
  keep : 0 ≤ b2 ∧ b2 ≤ b
  len : l2.length = l.length
  run : ∀ i, i < l.length → (l2.getD i rn0).mi = (l.getD i rn0).mi ∧ (0 ≤ (l2.getD i rn0).hi ∧ (l2.getD i rn0).hi ≤ (l.getD i rn0).hi) ∧ (l.getD i rn0).st ≤ (l2.getD i rn0).st ∧ (l2.getD i rn0).fr = (l.getD i rn0).fr ∧ (l.getD i rn0).un ≤ (l2.getD i rn0).un
section
variable {a b b2 : Int} {l l2 : List Rn}
theorem Eas.wait (h : Eas b b2 l l2) (hd : OkD a b l) {i j : Nat} (hi : i < l.length) (hj : j < l.length) (h0 : 0 ≤ wOf b l i j) : 0 ≤ wOf b2 l2 i j ∧ wOf b2 l2 i j ≤ wOf b l i j := by
  have hbe := hd.ke hi
  have hri := h.run i hi
  have hrj := h.run j hj
  have hb2 : OkE b2 (l2.getD i rn0).hi := ⟨⟨h.keep.1, by have := hbe.1; have := h.keep; omega⟩, by omega, by have := hbe.2; omega⟩
  have hs := wt_still (k := b) (e := (l.getD i rn0).hi) (st := (l.getD j rn0).st) h0
  have h1 : en b2 (l2.getD i rn0).hi (wOf b l i j).toNat ≤ (l2.getD j rn0).st := Int.le_trans (en_mono hb2 h.keep.2 hri.2.1.2 _) (Int.le_trans hs hrj.2.2.1)
  have h2 := wt_least hb2 h1
  unfold wOf at *
  omega
/-- no run of an order begins later -/
theorem Eas.at_ (h : Eas b b2 l l2) (hd : OkD a b l) {o : List Int} (hv : ∀ x ∈ o, In l x) (h0 : ∀ j, j < o.length → erK b l o j = 0) : ∀ {k : Nat}, k < o.length → erK b2 l2 o k = 0 ∧ atK b2 l2 o k ≤ atK b l o k
  | 0, hk => by
    have hx := hv _ (getD_mem hk 0)
    unfold In at hx
    have hr := h.run (o.getD 0 0).toNat (by omega)
    have h1 := bgE_un (h0 0 hk)
    have e1 : atK b2 l2 o 0 ≤ atK b l o 0 := by rw [atK_0, atK_0]; omega
    have h2 : atK b l o 0 ≤ (l.getD (o.getD 0 0).toNat rn0).un := h1.1
    refine ⟨?_, e1⟩
    show bgE b2 l2 (-1) 0 (o.getD 0 0).toNat = 0
    unfold bgE
    rw [if_neg (by omega)]
    have h3 : bgA b2 l2 (-1) 0 (o.getD 0 0).toNat = atK b2 l2 o 0 := rfl
    rw [h3, if_neg (by omega)]
  | k + 1, hk => by
    have hx := hv _ (getD_mem hk 0)
    have hy := hv _ (getD_mem (show k < o.length by omega) 0)
    obtain ⟨x, hx1, hxl⟩ := in_nat hx
    obtain ⟨y, hy1, hyl⟩ := in_nat hy
    have ih := Eas.at_ h hd hv h0 (k := k) (by omega)
    have hrx := h.run x hxl
    have hry := h.run y hyl
    have h1 := bgE_un (h0 (k + 1) hk)
    have h2 : atK b l o (k + 1) ≤ (l.getD x rn0).un := by
      have := h1.1
      rw [hx1, Int.toNat_natCast] at this
      have e : bgA b l (stK b l o (k + 1)).1 (stK b l o (k + 1)).2 x = atK b l o (k + 1) := by unfold atK; rw [hx1, Int.toNat_natCast]
      rw [e] at this; exact this
    have hw : wOf b l y x ≠ -1 := by
      have h3 := h1.2
      have e : (stK b l o (k + 1)).1 = (y : Int) := hy1
      rw [e, hx1, Int.toNat_natCast, Int.toNat_natCast] at h3
      exact fun q => h3 ⟨by omega, q⟩
    have hwb := hd.w hyl x
    have hw2 := h.wait hd hyl hxl (by omega)
    have e1 := atK_S (b := b) (l := l) hy1 hx1
    have e2 := atK_S (b := b2) (l := l2) hy1 hx1
    have h4 : atK b2 l2 o (k + 1) ≤ atK b l o (k + 1) := by omega
    exact ⟨erK_ok hx1 (noW_S hy1 (by omega)) (by omega), h4⟩
theorem Eas.vo (h : Eas b b2 l l2) (hd : OkD a b l) {o : List Int} (hv : VO b l o) : VO b2 l2 o :=
  ⟨fun x hx => by have := hv.1 x hx; unfold In at *; rw [h.len]; exact this, hv.2.1, tmE_0.2 fun j hj => (h.at_ hd hv.1 (tmE_0.1 hv.2.2) hj).1⟩
/-- the best order gets no shorter -/
theorem Eas.best (h : Eas b b2 l l2) (hc : chkD a b l = 0) {a2 : Int} (hc2 : chkD a2 b2 l2 = 0) : (bsL a b l).length ≤ (bsL a2 b2 l2).length :=
  (bsL_ok hc2).2.1 _ (h.vo (chkD0.1 hc).2 (bsL_ok hc).1)
end
end Go.Proofs.Ytkonhpcldomidaa
namespace Go.Proofs.Ytkonhpcldomidaa
open Go Go.TH
attribute [local irreducible] W WO pt
set_option maxRecDepth 10000
set_option maxHeartbeats 1000000
theorem rnC {C : Cx Try.prog} {H : List HP} {v u : Value} {xs : List Rn} {i j : Nat} {pa : Addr} (s : Sub H [OwE encR 48 6 v xs]) (hi : i < xs.length) (hpa : pa = (base v).add (i * 6 + j)) (hu : lget (encR (xs.getD i rn0)) j = some u) : Cell C H pa u := by
  subst hpa
  rw [← pa_fld]
  cases s with
  | cons p _ => exact OwE.cellAt encR_ok p hi rn0 hu
theorem getD_set {l : List Rn} {r : Rn} {k : Nat} (hk : k < l.length) (i : Nat) : (l.set k r).getD i rn0 = if i = k then r else l.getD i rn0 := by
  rw [List.getD_eq_getElem?_getD, List.getD_eq_getElem?_getD, List.getElem?_set]
  by_cases e : i = k
  · subst e; rw [if_pos rfl, if_pos hk, if_pos rfl]; rfl
  rw [if_neg (fun q => e q.symm), if_neg e]
theorem eas_of {a b B2 : Int} {l : List Rn} {r : Rn} {k : Nat} (hd : OkD a b l) (hk : k < l.length) (hB : a ≤ B2 ∧ B2 ≤ b) (h1 : r.mi = (l.getD k rn0).mi) (h2 : r.lo = (l.getD k rn0).lo) (h3 : 0 ≤ r.hi ∧ r.hi ≤ (l.getD k rn0).hi) (h4 : (l.getD k rn0).lo ≤ r.hi) (h5 : (l.getD k rn0).st ≤ r.st ∧ r.st ≤ 1000000) (h6 : r.fr = (l.getD k rn0).fr) (h7 : (l.getD k rn0).un ≤ r.un ∧ r.un ≤ 1000) : Eas b B2 l (l.set k r) ∧ OkD a B2 (l.set k r) := by
  have hkk := hd.1
  unfold OkK at hkk
  have hrk := hd.at_ hk
  unfold OkR at hrk
  refine ⟨⟨by omega, by simp, fun i hi => ?_⟩, by unfold OkK; omega, fun x hx => ?_⟩
  · rw [getD_set hk i]
    by_cases e : i = k
    · subst e; rw [if_pos rfl]; omega
    rw [if_neg e]
    have hri := hd.at_ hi
    unfold OkR at hri
    omega
  rcases List.mem_or_eq_of_mem_set hx with q | q
  · exact hd.2 x q
  subst q; unfold OkR; omega
theorem wt_cmp {a b B2 : Int} {l L3 : List Rn} (he : Eas b B2 l L3) (hc : chkD a b l = 0) (hc2 : chkD a B2 L3 = 0) {i j : Nat} (hi : i < l.length) (hj : j < l.length) : (wtE a b l i j = 0 ∧ wtE a B2 L3 i j = 0 ∧ 0 ≤ wtN a b l i j ∧ 0 ≤ wtN a B2 L3 i j ∧ wtN a B2 L3 i j ≤ wtN a b l i j) ∨ (wtE a b l i j = 18 ∧ (wtE a B2 L3 i j = 0 ∨ wtE a B2 L3 i j = 18)) := by
  obtain ⟨_, hd⟩ := chkD0.1 hc
  obtain ⟨_, hd2⟩ := chkD0.1 hc2
  have hll := he.len
  have e1 : wtE a b l i j = if wOf b l i j < 0 then 18 else 0 := by unfold wtE; rw [if_neg (by omega), if_neg (by omega), Int.toNat_natCast, Int.toNat_natCast]
  have e2 : wtE a B2 L3 i j = if wOf B2 L3 i j < 0 then 18 else 0 := by unfold wtE; rw [if_neg (by omega), if_neg (by omega), Int.toNat_natCast, Int.toNat_natCast]
  by_cases h : wOf b l i j < 0
  · refine .inr ⟨by rw [e1, if_pos h], ?_⟩
    rw [e2]
    split
    · exact .inr rfl
    exact .inl rfl
  have hw := he.wait hd hi hj (by omega)
  have q1 : wtE a b l i j = 0 := by rw [e1, if_neg h]
  have q2 : wtE a B2 L3 i j = 0 := by rw [e2, if_neg (by omega)]
  have n1 : wtN a b l i j = wOf b l i j := by unfold wtN; rw [if_pos q1, Int.toNat_natCast, Int.toNat_natCast]
  have n2 : wtN a B2 L3 i j = wOf B2 L3 i j := by unfold wtN; rw [if_pos q2, Int.toNat_natCast, Int.toNat_natCast]
  exact .inl ⟨q1, q2, by omega, by omega, by omega⟩
theorem law_RunStiller (w : World) (o u : Value) (a b : Int) (l : List Rn) (bs : List Int) (n : Nat) (q0 q1 q2 q3 : Int) (hR : RdF encR 6 w.heap.size w o l) (hX : RdF encU 1 w.heap.size w u bs) (hb : ∀ x ∈ bs, 0 ≤ x ∧ x ≤ 255) (hn : n ≤ 255) (h0 : 0 ≤ q0 ∧ q0 ≤ 4294967295) (h1 : 0 ≤ q1 ∧ q1 ≤ 4294967295) (h2 : 0 ≤ q2 ∧ q2 ≤ 4294967295) (h3 : 0 ≤ q3 ∧ q3 ≤ 4294967295) : Ret Try.prog 9 [dayV a b o, .int .u8 (n : Int), .agg #[.int .u32 q0, .int .u32 q1, .int .u32 q2, .int .u32 q3], u].toArray w (.bool true) := by
  refine Ret.of mixed tyTab Try.func9 rfl rfl ?_
  replace hR : RdF encR 6 (fnCx mixed tyTab Try.f9.ntmps w).B (fnCx mixed tyTab Try.f9.ntmps w).w0 o l := hR
  replace hX : RdF encU 1 (fnCx mixed tyTab Try.f9.ntmps w).B (fnCx mixed tyTab Try.f9.ntmps w).w0 u bs := hX
  have hoc := hR.sl.oc
  refine W.sreg ?_
  refine WO.boxA rfl rfl (fun b1 hb1 => ?_)
  refine WO.boxA rfl rfl (fun b2 hb2 => ?_)
  refine WO.p rfl rfl ?_
  refine WO.nil ?_
  refine W.seq ?_
  refine W.sreg ?_
  refine WO.loadA rfl rfl (Cells.own (Pick.tail (Pick.head))) rfl rfl ?_
  refine WO.callR rfl Try.call26 (fun L w hi => law_fine w o a b l (hR.later hi)) rfl ?_
  refine WO.p rfl rfl (WO.p rfl rfl ?_)
  refine WO.guard_nbl rfl rfl (fun c1 => ?_) (fun c1 => ?_)
  · first
    | (exfalso; omega)
    | (refine WO.no rfl rfl (WO.no rfl rfl (WO.no rfl rfl (WO.p rfl rfl ?_)))
       refine WO.nil ?_
       refine W.cond_t rfl ?_
       refine W.sreg ?_
       refine WO.callR rfl Try.call12 (fun L w hi => l_Works w) rfl ?_
       refine WO.p rfl rfl ?_
       refine WO.nil ?_
       refine W.ret ?_
       first | exact fin.ret (Res.one rfl (RV.tmp rfl)) rfl | (exfalso; omega))
  first
  | (exfalso; omega)
  | (refine WO.pg rfl rfl rfl (WO.go' rfl ?_)
     refine' WO.len (n := _) rfl rfl ?hs rfl ?_
     case hs => (first | exact hX.sl)
     refine WO.pg rfl rfl rfl (WO.p rfl rfl ?_)
     refine WO.nil ?_
     refine W.cond_bl rfl (fun c2 => ?_) (fun c2 => ?_)
     · first
       | (exfalso; omega)
       | (refine W.sreg ?_
          refine WO.callR rfl Try.call12 (fun L w hi => l_Works w) rfl ?_
          refine WO.p rfl rfl ?_
          refine WO.nil ?_
          refine W.ret ?_
          first | exact fin.ret (Res.one rfl (RV.tmp rfl)) rfl | (exfalso; omega))
     first
     | (exfalso; omega)
     | (refine W.skip ?_
        refine W.seq ?_
        have hfp : fineP a b l := by assumption
        have hc : chkD a b l = 0 := hfp.2
        obtain ⟨hln, hd⟩ := chkD0.1 hc
        have hkk := hd.1
        unfold OkK at hkk
        refine W.drawD 8 [.r 0 [], .b 1 [], .r 3 [], .b 4 [], .c 2 [], .c 5 [], .r 6 [], .a 7 9 (.cells #[.int .i64 0, .int .i64 0, .slice none 0 0] 26 (0, 0))] [] (A0 := []) (Sub.refl _) (by kernel_rfl) ?_ ?_
        · exact (ALok.r (ALok.b (ALok.r (ALok.b (ALok.c (ALok.c (ALok.r (ALok.cons rfl rfl rfl rfl rfl ALok.nil))))))))
        refine' DT.r rfl rfl rfl ?hq ?_
        case hq =>
          refine WO.field0 rfl rfl rfl ?_
          exact WO.nil ⟨rfl, rfl⟩
        refine' DT.b rfl rfl rfl ?hq ?_
        case hq =>
          refine WO.loadA rfl rfl (Cells.ownAt (n := 2) (Pick.tail (Pick.head)) rfl) rfl rfl ?_
          exact WO.nil ⟨rfl, rfl⟩
        refine' DT.r rfl rfl rfl ?hq ?_
        case hq =>
          refine WO.fieldL rfl rfl rfl ?_
          exact WO.nil ⟨rfl, rfl⟩
        refine' DT.b rfl rfl rfl ?hq ?_
        case hq =>
          refine WO.load rfl rfl (Cell.own (Pick.tail (Pick.head)) rfl) rfl ?_
          exact WO.nil ⟨rfl, rfl⟩
        refine DT.c [_, _] rfl rfl rfl rfl ?_
        refine WO.buildSl0 rfl rfl (fun b0 => ?_)
        refine WO.nil ⟨_, [_], rfl, rfl, (Keep.b (Keep.r (Keep.b (Keep.r Keep.nil)))), ?_⟩
        refine DT.c [_, _, _] rfl rfl rfl rfl ?_
        refine WO.appendEZ (enc := encR) (m := l.length) (xs := []) (ys := l) encR_ok rfl rfl rfl rfl rfl (by repeat (first | exact Pick.head | apply Pick.tail)) hR.sl rfl (hR.flat encR_ok) (by simp only [List.length_nil]; omega) (by simp only [List.length_nil]; omega) rfl (fun cv => ?_)
        rw [List.nil_append]
        refine WO.fact (OwE.form (enc := encR) (e := 48) (sz := 6) (xs := l) (v := cv) (by repeat (first | exact Pick.head | apply Pick.tail))) (fun hcv => ?_)
        obtain ⟨ca, cc, rfl⟩ := hcv
        refine WO.nil ⟨_, [_], rfl, rfl, (Keep.c (Keep.b (Keep.r (Keep.b (Keep.r Keep.nil))))), ?_⟩
        refine' DT.r rfl rfl rfl ?hq ?_
        case hq =>
          refine' WO.build (cs := _) rfl rfl rfl ?hf rfl ?_
          case hf => (conv => lhs; simp [-List.getD_eq_getElem?_getD, fillL, vcl, wrl, TTab.pl?.lget']) <;> rfl
          exact WO.nil ⟨rfl, rfl⟩
        refine DT.a (fun b3 => ?_)
        refine DT.nil [_, _, _, _] rfl ?_
        refine WO.storeA rfl rfl rfl rfl Pick.head rfl rfl ?_
        refine WO.nil ?_
        have ht0a := Int.tmod_nonneg 200 h0.1
        have ht0b := Int.tmod_lt_of_pos q0 (show (0 : Int) < 200 by omega)
        have ht1a := Int.tmod_nonneg 1000000 h1.1
        have ht1b := Int.tmod_lt_of_pos q1 (show (0 : Int) < 1000000 by omega)
        have ht2a := Int.tmod_nonneg 1000000 h2.1
        have ht2b := Int.tmod_lt_of_pos q2 (show (0 : Int) < 1000000 by omega)
        have ht3a := Int.tmod_nonneg 1000 h3.1
        have ht3b := Int.tmod_lt_of_pos q3 (show (0 : Int) < 1000 by omega)
        refine W.sreg ?_
        refine WO.field0 rfl rfl rfl (WO.field0 rfl rfl rfl (WO.load rfl rfl (Cell.own Pick.head rfl) rfl (WO.field0 rfl rfl rfl (WO.fieldL rfl rfl rfl (WO.load rfl rfl (Cell.own Pick.head rfl) rfl ?_)))))
        refine WO.indexArrL (o' := 0) rfl rfl rfl (by decide) rfl rfl ?_
        refine WO.load rfl rfl (Cell.own (Pick.tail (Pick.tail (Pick.head))) rfl) rfl (WO.rem rfl rfl (by first | omega | assumption) rfl (WO.conv64 rfl rfl rfl (by (first | (unfold in64; omega) | (unfold in64; omega))) rfl (WO.ar rfl rfl rfl (by (first | (unfold in64; omega) | (unfold in64; omega))) rfl ?_)))
        refine WO.max2 rfl rfl rfl ?_
        refine WO.field0 rfl rfl rfl (WO.fieldL rfl rfl rfl (WO.store1 rfl rfl rfl (by first | rfl | assumption) Pick.head rfl ?_))
        refine WO.nil ?_
        refine W.seq ?_
        obtain ⟨B2, hB2⟩ : ∃ B2, B2 = max a (b - q0.tmod 200) := ⟨_, rfl⟩
        rw [← hB2]
        refine W.fact (OwE.sl (enc := encR) (e := 48) (sz := 6) (v := .slice ca l.length cc) (xs := l) (by repeat (first | exact Pick.head | apply Pick.tail))) (fun hcs => ?_)
        have hk := tmod_at (n := l.length) (x := (n : Int)) (by omega) (by omega)
        obtain ⟨k, hk1, hk2⟩ : ∃ k : Nat, (n : Int).tmod (l.length : Int) = (k : Int) ∧ k < l.length := ⟨_, hk.1, hk.2⟩
        have hrk := hd.at_ hk2
        unfold OkR at hrk
        refine W.drawD 8 [.r 0 [], .b 1 [], .r 2 [], .r 3 [], .r 4 [], .b 5 [], .r 6 [], .r 7 []] [] (A0 := []) (Sub.refl _) (by kernel_rfl) ?_ ?_
        · exact (ALok.r (ALok.b (ALok.r (ALok.r (ALok.r (ALok.b (ALok.r (ALok.r ALok.nil))))))))
        refine' DT.r rfl rfl rfl ?hq ?_
        case hq =>
          refine WO.fieldL rfl rfl rfl ?_
          exact WO.nil ⟨rfl, rfl⟩
        refine' DT.b rfl rfl rfl ?hq ?_
        case hq =>
          refine WO.load rfl rfl (Cell.own Pick.head rfl) rfl ?_
          exact WO.nil ⟨rfl, rfl⟩
        refine' DT.r rfl rfl rfl ?hq ?_
        case hq =>
          refine WO.p rfl rfl ?_
          exact WO.nil ⟨rfl, rfl⟩
        refine' DT.r rfl rfl rfl ?hq ?_
        case hq =>
          refine WO.conv64 rfl rfl rfl (by (first | (unfold in64; omega) | (unfold in64; omega))) rfl ?_
          exact WO.nil ⟨rfl, rfl⟩
        refine' DT.r rfl rfl rfl ?hq ?_
        case hq =>
          refine WO.fieldL rfl rfl rfl ?_
          exact WO.nil ⟨rfl, rfl⟩
        refine' DT.b rfl rfl rfl ?hq ?_
        case hq =>
          refine WO.load rfl rfl (Cell.own Pick.head rfl) rfl ?_
          exact WO.nil ⟨rfl, rfl⟩
        refine' DT.r rfl rfl rfl ?hq ?_
        case hq =>
          refine' WO.len (n := _) rfl rfl ?hs rfl ?_
          case hs => (first | exact hcs)
          exact WO.nil ⟨rfl, rfl⟩
        refine' DT.r rfl rfl rfl ?hq ?_
        case hq =>
          refine WO.rem (b := (l.length : Int)) rfl rfl (by omega) rfl ?_
          rw [hk1]
          exact WO.nil ⟨rfl, rfl⟩
        refine DT.nil [_, _, _, _] rfl ?_
        refine' WO.indexAddr (n := _) (i := _) rfl rfl rfl ?hs ?h1 rfl ?_
        case hs => (first | exact hcs)
        case h1 => (first | omega | (simp; omega))
        refine WO.p rfl rfl ?_
        refine WO.nil ?_
        refine W.seq ?_
        refine W.drawD 17 [.r 0 [], .r 1 [], .r 2 [], .r 3 [], .r 4 [], .b 5 [], .r 6 [], .r 7 [], .r 8 [], .r 9 [], .b 10 [], .r 11 [], .b 12 [], .r 13 [], .r 14 [], .r 15 [], .r 16 []] [] (A0 := []) (Sub.refl _) (by kernel_rfl) ?_ ?_
        · exact (ALok.r (ALok.r (ALok.r (ALok.r (ALok.r (ALok.b (ALok.r (ALok.r (ALok.r (ALok.r (ALok.b (ALok.r (ALok.b (ALok.r (ALok.r (ALok.r (ALok.r ALok.nil)))))))))))))))))
        refine' DT.r rfl rfl rfl ?hq ?_
        case hq =>
          refine WO.p rfl rfl ?_
          exact WO.nil ⟨rfl, rfl⟩
        refine' DT.r rfl rfl rfl ?hq ?_
        case hq =>
          refine WO.p rfl rfl ?_
          exact WO.nil ⟨rfl, rfl⟩
        refine' DT.r rfl rfl rfl ?hq ?_
        case hq =>
          refine WO.p rfl rfl ?_
          exact WO.nil ⟨rfl, rfl⟩
        refine' DT.r rfl rfl rfl ?hq ?_
        case hq =>
          refine WO.field rfl rfl rfl ?_
          exact WO.nil ⟨rfl, rfl⟩
        refine' DT.r rfl rfl rfl ?hq ?_
        case hq =>
          refine WO.field0 rfl rfl rfl ?_
          exact WO.nil ⟨rfl, rfl⟩
        refine' DT.b rfl rfl rfl ?hq ?_
        case hq =>
          refine' WO.load (v := _) rfl rfl ?hc rfl ?_
          case hc => (first | (refine rnC (xs := l) (i := k) (j := 1) ?_ hk2 (pa_fld _ _ _) ?_; exact (by repeat (first | exact Sub.nil | refine Sub.cons (by repeat (first | exact Pick.head | apply Pick.tail)) ?_)); rfl))
          exact WO.nil ⟨rfl, rfl⟩
        refine' DT.r rfl rfl rfl ?hq ?_
        case hq =>
          refine WO.p rfl rfl ?_
          exact WO.nil ⟨rfl, rfl⟩
        refine' DT.r rfl rfl rfl ?hq ?_
        case hq =>
          refine WO.p rfl rfl ?_
          exact WO.nil ⟨rfl, rfl⟩
        refine' DT.r rfl rfl rfl ?hq ?_
        case hq =>
          refine WO.field rfl rfl rfl ?_
          exact WO.nil ⟨rfl, rfl⟩
        refine' DT.r rfl rfl rfl ?hq ?_
        case hq =>
          refine WO.field rfl rfl rfl ?_
          exact WO.nil ⟨rfl, rfl⟩
        refine' DT.b rfl rfl rfl ?hq ?_
        case hq =>
          refine' WO.load (v := _) rfl rfl ?hc rfl ?_
          case hc => (first | (refine rnC (xs := l) (i := k) (j := 2) ?_ hk2 (pa_fld2 _ _ _ _) ?_; exact (by repeat (first | exact Sub.nil | refine Sub.cons (by repeat (first | exact Pick.head | apply Pick.tail)) ?_)); rfl))
          exact WO.nil ⟨rfl, rfl⟩
        refine' DT.r rfl rfl rfl ?hq ?_
        case hq =>
          refine WO.indexArrL (o' := 1) rfl rfl rfl (by decide) rfl rfl ?_
          exact WO.nil ⟨rfl, rfl⟩
        refine' DT.b rfl rfl rfl ?hq ?_
        case hq =>
          refine WO.load rfl rfl (Cell.own (Pick.tail (Pick.tail (Pick.head))) rfl) rfl ?_
          exact WO.nil ⟨rfl, rfl⟩
        refine' DT.r rfl rfl rfl ?hq ?_
        case hq =>
          refine WO.rem rfl rfl (by first | omega | assumption) rfl ?_
          exact WO.nil ⟨rfl, rfl⟩
        refine' DT.r rfl rfl rfl ?hq ?_
        case hq =>
          refine WO.conv64 rfl rfl rfl (by (first | (unfold in64; omega) | (unfold in64; omega))) rfl ?_
          exact WO.nil ⟨rfl, rfl⟩
        refine' DT.r rfl rfl rfl ?hq ?_
        case hq =>
          refine WO.ar rfl rfl rfl (by (first | (unfold in64; omega) | (unfold in64; omega))) rfl ?_
          exact WO.nil ⟨rfl, rfl⟩
        refine' DT.r rfl rfl rfl ?hq ?_
        case hq =>
          refine WO.max2 rfl rfl rfl ?_
          exact WO.nil ⟨rfl, rfl⟩
        refine DT.nil [_, _, _, _] rfl ?_
        refine WO.p rfl rfl (WO.field rfl rfl rfl (WO.field rfl rfl rfl ?_))
        refine WO.storeRn (i := k) (j := 2) (r := { l.getD k rn0 with hi := max (l.getD k rn0).lo ((l.getD k rn0).hi - q1.tmod 1000000) }) rfl (pa_fld2 _ _ _ _) rfl rfl rfl (by repeat (first | exact Pick.head | apply Pick.tail)) hk2 (by omega) rfl ?_
        refine WO.nil ?_
        refine W.seq ?_
        obtain ⟨r1, hr1⟩ : ∃ r1 : Rn, r1 = { l.getD k rn0 with hi := max (l.getD k rn0).lo ((l.getD k rn0).hi - q1.tmod 1000000) } := ⟨_, rfl⟩
        rw [← hr1]
        have g1 := getD_set (r := r1) hk2 k
        rw [if_pos rfl] at g1
        have s1 : r1.st = (l.getD k rn0).st := by rw [hr1]
        refine W.drawD 11 [.r 0 [], .r 1 [], .r 2 [], .r 3 [], .b 4 [], .r 5 [], .b 6 [], .r 7 [], .r 8 [], .r 9 [], .r 10 []] [] (A0 := []) (Sub.refl _) (by kernel_rfl) ?_ ?_
        · exact (ALok.r (ALok.r (ALok.r (ALok.r (ALok.b (ALok.r (ALok.b (ALok.r (ALok.r (ALok.r (ALok.r ALok.nil)))))))))))
        refine' DT.r rfl rfl rfl ?hq ?_
        case hq =>
          refine WO.p rfl rfl ?_
          exact WO.nil ⟨rfl, rfl⟩
        refine' DT.r rfl rfl rfl ?hq ?_
        case hq =>
          refine WO.p rfl rfl ?_
          exact WO.nil ⟨rfl, rfl⟩
        refine' DT.r rfl rfl rfl ?hq ?_
        case hq =>
          refine WO.p rfl rfl ?_
          exact WO.nil ⟨rfl, rfl⟩
        refine' DT.r rfl rfl rfl ?hq ?_
        case hq =>
          refine WO.field rfl rfl rfl ?_
          exact WO.nil ⟨rfl, rfl⟩
        refine' DT.b rfl rfl rfl ?hq ?_
        case hq =>
          refine' WO.load (v := _) rfl rfl ?hc rfl ?_
          case hc => (first | (refine rnC (xs := l.set k r1) (i := k) (j := 3) ?_ (by rw [List.length_set]; exact hk2) (pa_fld _ _ _) ?_; exact (by repeat (first | exact Sub.nil | refine Sub.cons (by repeat (first | exact Pick.head | apply Pick.tail)) ?_)); (rw [g1]; rfl)))
          exact WO.nil ⟨rfl, rfl⟩
        refine' DT.r rfl rfl rfl ?hq ?_
        case hq =>
          refine WO.indexArrL (o' := 2) rfl rfl rfl (by decide) rfl rfl ?_
          exact WO.nil ⟨rfl, rfl⟩
        refine' DT.b rfl rfl rfl ?hq ?_
        case hq =>
          refine WO.load rfl rfl (Cell.own (Pick.tail (Pick.tail (Pick.head))) rfl) rfl ?_
          exact WO.nil ⟨rfl, rfl⟩
        refine' DT.r rfl rfl rfl ?hq ?_
        case hq =>
          refine WO.rem rfl rfl (by first | omega | assumption) rfl ?_
          exact WO.nil ⟨rfl, rfl⟩
        refine' DT.r rfl rfl rfl ?hq ?_
        case hq =>
          refine WO.conv64 rfl rfl rfl (by (first | (unfold in64; omega) | (unfold in64; omega))) rfl ?_
          exact WO.nil ⟨rfl, rfl⟩
        refine' DT.r rfl rfl rfl ?hq ?_
        case hq =>
          refine WO.ar rfl rfl rfl (by (first | (unfold in64; omega) | (unfold in64; omega))) rfl ?_
          exact WO.nil ⟨rfl, rfl⟩
        refine' DT.r rfl rfl rfl ?hq ?_
        case hq =>
          refine WO.min2 rfl rfl rfl ?_
          exact WO.nil ⟨rfl, rfl⟩
        refine DT.nil [_, _, _, _] rfl ?_
        refine WO.p rfl rfl (WO.field rfl rfl rfl ?_)
        refine WO.storeRn (i := k) (j := 3) (r := { r1 with st := min 1000000 (r1.st + q2.tmod 1000000) }) rfl (pa_fld _ _ _) rfl rfl rfl (by repeat (first | exact Pick.head | apply Pick.tail)) (by rw [List.length_set]; exact hk2) (by omega) (by rw [g1]; rfl) ?_
        rw [List.set_set]
        refine WO.nil ?_
        refine W.seq ?_
        obtain ⟨r2, hr2⟩ : ∃ r2 : Rn, r2 = { r1 with st := min 1000000 (r1.st + q2.tmod 1000000) } := ⟨_, rfl⟩
        rw [← hr2]
        have g2 := getD_set (r := r2) hk2 k
        rw [if_pos rfl] at g2
        have s2 : r2.un = (l.getD k rn0).un := by rw [hr2, hr1]
        refine W.drawD 11 [.r 0 [], .r 1 [], .r 2 [], .r 3 [], .b 4 [], .r 5 [], .b 6 [], .r 7 [], .r 8 [], .r 9 [], .r 10 []] [] (A0 := []) (Sub.refl _) (by kernel_rfl) ?_ ?_
        · exact (ALok.r (ALok.r (ALok.r (ALok.r (ALok.b (ALok.r (ALok.b (ALok.r (ALok.r (ALok.r (ALok.r ALok.nil)))))))))))
        refine' DT.r rfl rfl rfl ?hq ?_
        case hq =>
          refine WO.p rfl rfl ?_
          exact WO.nil ⟨rfl, rfl⟩
        refine' DT.r rfl rfl rfl ?hq ?_
        case hq =>
          refine WO.p rfl rfl ?_
          exact WO.nil ⟨rfl, rfl⟩
        refine' DT.r rfl rfl rfl ?hq ?_
        case hq =>
          refine WO.p rfl rfl ?_
          exact WO.nil ⟨rfl, rfl⟩
        refine' DT.r rfl rfl rfl ?hq ?_
        case hq =>
          refine WO.field rfl rfl rfl ?_
          exact WO.nil ⟨rfl, rfl⟩
        refine' DT.b rfl rfl rfl ?hq ?_
        case hq =>
          refine' WO.load (v := _) rfl rfl ?hc rfl ?_
          case hc => (first | (refine rnC (xs := l.set k r2) (i := k) (j := 5) ?_ (by rw [List.length_set]; exact hk2) (pa_fld _ _ _) ?_; exact (by repeat (first | exact Sub.nil | refine Sub.cons (by repeat (first | exact Pick.head | apply Pick.tail)) ?_)); (rw [g2]; rfl)))
          exact WO.nil ⟨rfl, rfl⟩
        refine' DT.r rfl rfl rfl ?hq ?_
        case hq =>
          refine WO.indexArrL (o' := 3) rfl rfl rfl (by decide) rfl rfl ?_
          exact WO.nil ⟨rfl, rfl⟩
        refine' DT.b rfl rfl rfl ?hq ?_
        case hq =>
          refine WO.load rfl rfl (Cell.own (Pick.tail (Pick.tail (Pick.head))) rfl) rfl ?_
          exact WO.nil ⟨rfl, rfl⟩
        refine' DT.r rfl rfl rfl ?hq ?_
        case hq =>
          refine WO.rem rfl rfl (by first | omega | assumption) rfl ?_
          exact WO.nil ⟨rfl, rfl⟩
        refine' DT.r rfl rfl rfl ?hq ?_
        case hq =>
          refine WO.conv64 rfl rfl rfl (by (first | (unfold in64; omega) | (unfold in64; omega))) rfl ?_
          exact WO.nil ⟨rfl, rfl⟩
        refine' DT.r rfl rfl rfl ?hq ?_
        case hq =>
          refine WO.ar rfl rfl rfl (by (first | (unfold in64; omega) | (unfold in64; omega))) rfl ?_
          exact WO.nil ⟨rfl, rfl⟩
        refine' DT.r rfl rfl rfl ?hq ?_
        case hq =>
          refine WO.min2 rfl rfl rfl ?_
          exact WO.nil ⟨rfl, rfl⟩
        refine DT.nil [_, _, _, _] rfl ?_
        refine WO.p rfl rfl (WO.field rfl rfl rfl ?_)
        refine WO.storeRn (i := k) (j := 5) (r := { r2 with un := min 1000 (r2.un + q3.tmod 1000) }) rfl (pa_fld _ _ _) rfl rfl rfl (by repeat (first | exact Pick.head | apply Pick.tail)) (by rw [List.length_set]; exact hk2) (by omega) (by rw [g2]; rfl) ?_
        rw [List.set_set]
        refine WO.nil ?_
        refine W.seq ?_
        obtain ⟨r3, hr3⟩ : ∃ r3 : Rn, r3 = { r2 with un := min 1000 (r2.un + q3.tmod 1000) } := ⟨_, rfl⟩
        rw [← hr3]
        obtain ⟨hea, hd2⟩ := eas_of (B2 := B2) (r := r3) hd hk2 (by omega) (by rw [hr3, hr2, hr1]) (by rw [hr3, hr2, hr1]) (by rw [hr3, hr2, hr1]; show 0 ≤ max _ _ ∧ max _ _ ≤ _; omega) (by rw [hr3, hr2, hr1]; show _ ≤ max _ _; omega) (by rw [hr3, hr2, hr1]; show _ ≤ min _ _ ∧ min _ _ ≤ _; show _ ≤ min 1000000 ((l.getD k rn0).st + _) ∧ min 1000000 ((l.getD k rn0).st + _) ≤ 1000000; omega) (by rw [hr3, hr2, hr1]) (by rw [hr3, hr2, hr1]; show _ ≤ min 1000 ((l.getD k rn0).un + _) ∧ min 1000 ((l.getD k rn0).un + _) ≤ 1000; omega)
        obtain ⟨L3, hL3⟩ : ∃ L3, L3 = l.set k r3 := ⟨_, rfl⟩
        rw [← hL3] at hea hd2 ⊢
        have hll := hea.len
        have hc2 : chkD a B2 L3 = 0 := chkD0.2 ⟨by omega, hd2⟩
        refine W.sreg ?_
        refine WO.p rfl rfl ?_
        refine WO.nil ?_
        refine W.block ?_
        refine W.loop (fun (i : Nat) => i ≤ l.length)
          (fun (i : Nat) => [(3, u), (4, .pointer (some ⟨b1, 0, none⟩)), (9, .pointer (some ⟨b3, 0, none⟩)), (11, .int .i64 (i : Int))])
          (fun (i : Nat) => [pt b1 (.cells #[.int .i64 a, .int .i64 b, o] 26 (0, 0)), pt b3 (.cells #[.int .i64 a, .int .i64 B2, .slice ca l.length cc] 26 (0, 0)), OwE encR 48 6 (.slice ca l.length cc) L3])
          (fun (i : Nat) => l.length - i) 0
          (by omega) ⟨rfl, rfl, rfl, rfl, trivial⟩ (by repeat (first | exact Sub.nil | refine Sub.cons (by repeat (first | exact Pick.head | apply Pick.tail)) ?_)) ?_
        rintro i hi
        refine W.seq ?_
        refine W.sreg ?_
        refine WO.p rfl rfl (WO.fieldL rfl rfl rfl (WO.load rfl rfl (Cell.own Pick.head rfl) rfl ?_))
        refine' WO.len (n := _) rfl rfl ?hs rfl ?_
        case hs => (first | exact hR.sl)
        refine WO.p rfl rfl ?_
        refine WO.nil ?_
        refine W.cond_bl rfl (fun c3 => ?_) (fun c3 => ?_)
        · first
          | (exfalso; omega)
          | (refine W.skip ?_
             refine W.seq ?_
             refine W.block ?_
             refine W.sreg ?_
             refine WO.p rfl rfl ?_
             refine WO.nil ?_
             refine W.block ?_
             refine W.loop (fun (j : Nat) => j ≤ l.length)
               (fun (j : Nat) => [(3, u), (4, .pointer (some ⟨b1, 0, none⟩)), (9, .pointer (some ⟨b3, 0, none⟩)), (11, .int .i64 (i : Int)), (12, .int .i64 (j : Int))])
               (fun (j : Nat) => [pt b1 (.cells #[.int .i64 a, .int .i64 b, o] 26 (0, 0)), pt b3 (.cells #[.int .i64 a, .int .i64 B2, .slice ca l.length cc] 26 (0, 0)), OwE encR 48 6 (.slice ca l.length cc) L3])
               (fun (j : Nat) => l.length - j) 0
               (by omega) ⟨rfl, rfl, rfl, rfl, rfl, trivial⟩ (by repeat (first | exact Sub.nil | refine Sub.cons (by repeat (first | exact Pick.head | apply Pick.tail)) ?_)) ?_
             rintro j hj
             refine W.seq ?_
             refine W.sreg ?_
             refine WO.p rfl rfl (WO.fieldL rfl rfl rfl (WO.load rfl rfl (Cell.own Pick.head rfl) rfl ?_))
             refine' WO.len (n := _) rfl rfl ?hs rfl ?_
             case hs => (first | exact hR.sl)
             refine WO.p rfl rfl ?_
             refine WO.nil ?_
             refine W.cond_bl rfl (fun c4 => ?_) (fun c4 => ?_)
             · first
               | (exfalso; omega)
               | (refine W.skip ?_
                  refine W.seq ?_
                  refine W.block ?_
                  have hcm := wt_cmp hea hc hc2 (show i < l.length by omega) (show j < l.length by omega)
                  refine W.sreg ?_
                  refine WO.loadA rfl rfl (Cells.own Pick.head) rfl rfl (WO.p rfl rfl (WO.p rfl rfl ?_))
                  refine WO.callR (r := .tuple #[.int .i64 (wtN a b l i j), .int .i64 (wtE a b l i j)]) rfl Try.call28 (fun L w hi => c_Wait w o a b l i j (hR.later hi)) rfl ?_
                  refine WO.p rfl rfl (WO.p rfl rfl (WO.p rfl rfl (WO.p rfl rfl (WO.p rfl rfl ?_))))
                  refine WO.nil ?_
                  refine W.sreg ?_
                  refine WO.loadA rfl rfl (Cells.own (Pick.tail (Pick.head))) rfl rfl (WO.p rfl rfl (WO.p rfl rfl ?_))
                  refine WO.callR (r := .tuple #[.int .i64 (wtN a B2 L3 i j), .int .i64 (wtE a B2 L3 i j)]) rfl Try.call28 (fun L w hi => c_Wait w _ a B2 L3 i j (RdF.of_ow (e := 48) encR_ok (by repeat (first | exact Pick.head | apply Pick.tail)) hi)) rfl ?_
                  refine WO.p rfl rfl (WO.p rfl rfl (WO.p rfl rfl (WO.p rfl rfl (WO.p rfl rfl ?_))))
                  refine WO.nil ?_
                  refine W.sreg ?_
                  refine WO.p rfl rfl (WO.p rfl rfl (WO.p rfl rfl ?_))
                  refine WO.guard_bl rfl rfl (fun c5 => ?_) (fun c5 => ?_)
                  · first
                    | (exfalso; omega)
                    | (refine WO.pg rfl rfl rfl (WO.pg rfl rfl rfl (WO.pg rfl rfl rfl ?_))
                       refine WO.guard_bl rfl rfl (fun c6 => ?_) (fun c6 => ?_)
                       · first
                         | (exfalso; omega)
                         | (refine WO.no rfl rfl (WO.no rfl rfl (WO.no rfl rfl (WO.pg rfl rfl rfl (WO.pg rfl rfl rfl (WO.no rfl rfl (WO.no rfl rfl (WO.pg rfl rfl rfl (WO.pg rfl rfl rfl (WO.no rfl rfl (WO.no rfl rfl (WO.pg rfl rfl rfl ?_)))))))))))
                            refine WO.p rfl rfl (WO.p rfl rfl (WO.no rfl rfl (WO.no rfl rfl (WO.no rfl rfl (WO.no rfl rfl (WO.no rfl rfl (WO.no rfl rfl (WO.p rfl rfl (WO.p rfl rfl (WO.no rfl rfl (WO.no rfl rfl ?_)))))))))))
                            refine WO.no rfl rfl (WO.no rfl rfl (WO.no rfl rfl (WO.no rfl rfl (WO.p rfl rfl ?_))))
                            refine WO.nil ?_
                            refine W.cond_t rfl ?_
                            refine W.sreg ?_
                            refine WO.p rfl rfl ?_
                            refine WO.nil ?_
                            refine W.ret ?_
                            first | exact fin.ret (Res.one rfl (RV.tmp rfl)) rfl | (exfalso; omega))
                       first
                       | (exfalso; omega)
                       | (refine WO.pg rfl rfl rfl (WO.pg rfl rfl rfl (WO.pg rfl rfl rfl (WO.pg rfl rfl rfl (WO.pg rfl rfl rfl ?_))))
                          refine WO.guard_bl rfl rfl (fun c7 => ?_) (fun c7 => ?_)
                          · first
                            | (exfalso; omega)
                            | (refine WO.no rfl rfl (WO.no rfl rfl (WO.pg rfl rfl rfl (WO.pg rfl rfl rfl (WO.no rfl rfl (WO.no rfl rfl (WO.pg rfl rfl rfl (WO.p rfl rfl (WO.p rfl rfl (WO.no rfl rfl (WO.no rfl rfl (WO.no rfl rfl ?_)))))))))))
                               refine WO.no rfl rfl (WO.no rfl rfl (WO.no rfl rfl (WO.p rfl rfl (WO.p rfl rfl (WO.no rfl rfl (WO.no rfl rfl (WO.no rfl rfl (WO.no rfl rfl (WO.no rfl rfl (WO.no rfl rfl (WO.p rfl rfl ?_)))))))))))
                               refine WO.nil ?_
                               refine W.cond_t rfl ?_
                               refine W.sreg ?_
                               refine WO.p rfl rfl ?_
                               refine WO.nil ?_
                               refine W.ret ?_
                               first | exact fin.ret (Res.one rfl (RV.tmp rfl)) rfl | (exfalso; omega))
                          first
                          | (exfalso; omega)
                          | (refine WO.pg rfl rfl rfl (WO.pg rfl rfl rfl (WO.pg rfl rfl rfl (WO.pg rfl rfl rfl ?_)))
                             refine WO.guard_bl rfl rfl (fun c8 => ?_) (fun c8 => ?_)
                             · first
                               | (exfalso; omega)
                               | (refine WO.no rfl rfl (WO.no rfl rfl (WO.pg rfl rfl rfl (WO.p rfl rfl (WO.p rfl rfl (WO.no rfl rfl (WO.no rfl rfl (WO.no rfl rfl (WO.no rfl rfl (WO.no rfl rfl (WO.no rfl rfl (WO.p rfl rfl ?_)))))))))))
                                  refine WO.p rfl rfl (WO.no rfl rfl (WO.no rfl rfl (WO.no rfl rfl (WO.no rfl rfl (WO.no rfl rfl (WO.no rfl rfl (WO.p rfl rfl ?_)))))))
                                  refine WO.nil ?_
                                  refine W.cond_t rfl ?_
                                  refine W.sreg ?_
                                  refine WO.p rfl rfl ?_
                                  refine WO.nil ?_
                                  refine W.ret ?_
                                  first | exact fin.ret (Res.one rfl (RV.tmp rfl)) rfl | (exfalso; omega))
                             first
                             | (exfalso; omega)
                             | (refine WO.pg rfl rfl rfl (WO.pg rfl rfl rfl (WO.pg rfl rfl rfl (WO.p rfl rfl (WO.p rfl rfl ?_))))
                                refine WO.guard_bl rfl rfl (fun c9 => ?_) (fun c9 => ?_)
                                · first
                                  | (exfalso; omega)
                                  | (refine WO.no rfl rfl (WO.no rfl rfl (WO.no rfl rfl (WO.no rfl rfl (WO.no rfl rfl (WO.no rfl rfl (WO.p rfl rfl (WO.p rfl rfl (WO.no rfl rfl (WO.no rfl rfl (WO.no rfl rfl (WO.no rfl rfl ?_)))))))))))
                                     refine WO.no rfl rfl (WO.no rfl rfl (WO.p rfl rfl ?_))
                                     refine WO.nil ?_
                                     refine W.cond_t rfl ?_
                                     refine W.sreg ?_
                                     refine WO.p rfl rfl ?_
                                     refine WO.nil ?_
                                     refine W.ret ?_
                                     first | exact fin.ret (Res.one rfl (RV.tmp rfl)) rfl | (exfalso; omega))
                                first
                                | (exfalso; omega)
                                | (refine WO.pg rfl rfl rfl (WO.pg rfl rfl rfl (WO.pg rfl rfl rfl ?_))
                                   refine WO.guard_bl rfl rfl (fun c10 => ?_) (fun c10 => ?_)
                                   · first
                                     | (exfalso; omega)
                                     | (refine WO.pg rfl rfl rfl (WO.pg rfl rfl rfl (WO.pg rfl rfl rfl (WO.p rfl rfl (WO.p rfl rfl ?_))))
                                        refine WO.guard_bl rfl rfl (fun c11 => ?_) (fun c11 => ?_)
                                        · first
                                          | (exfalso; omega)
                                          | (refine WO.no rfl rfl (WO.no rfl rfl (WO.no rfl rfl (WO.no rfl rfl (WO.no rfl rfl (WO.no rfl rfl (WO.p rfl rfl ?_))))))
                                             refine WO.nil ?_
                                             refine W.cond_t rfl ?_
                                             refine W.sreg ?_
                                             refine WO.p rfl rfl ?_
                                             refine WO.nil ?_
                                             refine W.ret ?_
                                             first | exact fin.ret (Res.one rfl (RV.tmp rfl)) rfl | (exfalso; omega))
                                        first
                                        | (exfalso; omega)
                                        | (refine WO.pg rfl rfl rfl (WO.pg rfl rfl rfl (WO.pg rfl rfl rfl ?_))
                                           refine WO.guard_bl rfl rfl (fun c12 => ?_) (fun c12 => ?_)
                                           · first
                                             | (exfalso; omega)
                                             | (refine WO.pg rfl rfl rfl (WO.pg rfl rfl rfl (WO.pg rfl rfl rfl (WO.p rfl rfl ?_)))
                                                refine WO.nil ?_
                                                refine W.cond_bl rfl (fun c13 => ?_) (fun c13 => ?_)
                                                · first
                                                  | (exfalso; omega)
                                                  | (refine W.sreg ?_
                                                     refine WO.p rfl rfl ?_
                                                     refine WO.nil ?_
                                                     refine W.ret ?_
                                                     first | exact fin.ret (Res.one rfl (RV.tmp rfl)) rfl | (exfalso; omega))
                                                first
                                                | (exfalso; omega)
                                                | (refine W.skip ?_
                                                   refine W.region ?_
                                                   refine WO.p rfl rfl (WO.ar rfl rfl rfl (by (first | (unfold in64; omega) | (unfold in64; omega))) rfl (WO.p rfl rfl ?_))
                                                   refine WO.nil ?_
                                                   refine' ⟨j + 1, ?hp, ?hmu, ⟨rfl, rfl, rfl, rfl, rfl, trivial⟩, ?hS⟩
                                                   case hS => repeat (first | exact Sub.nil | refine Sub.cons (by repeat (first | exact Pick.head | apply Pick.tail)) ?_)
                                                   case hp => omega
                                                   case hmu => omega))
                                           first
                                           | (exfalso; omega)
                                           | (refine WO.no rfl rfl (WO.no rfl rfl (WO.pg rfl rfl rfl (WO.p rfl rfl ?_)))
                                              refine WO.nil ?_
                                              refine W.cond_f rfl ?_
                                              refine W.skip ?_
                                              refine W.region ?_
                                              refine WO.p rfl rfl (WO.ar rfl rfl rfl (by (first | (unfold in64; omega) | (unfold in64; omega))) rfl (WO.p rfl rfl ?_))
                                              refine WO.nil ?_
                                              refine' ⟨j + 1, ?hp, ?hmu, ⟨rfl, rfl, rfl, rfl, rfl, trivial⟩, ?hS⟩
                                              case hS => repeat (first | exact Sub.nil | refine Sub.cons (by repeat (first | exact Pick.head | apply Pick.tail)) ?_)
                                              case hp => omega
                                              case hmu => omega)))
                                   first
                                   | (exfalso; omega)
                                   | (refine WO.no rfl rfl (WO.no rfl rfl (WO.pg rfl rfl rfl (WO.p rfl rfl (WO.p rfl rfl (WO.pg rfl rfl rfl (WO.pg rfl rfl rfl (WO.pg rfl rfl rfl ?_)))))))
                                      refine WO.guard_bl rfl rfl (fun c11 => ?_) (fun c11 => ?_)
                                      · first
                                        | (exfalso; omega)
                                        | (refine WO.pg rfl rfl rfl (WO.pg rfl rfl rfl (WO.pg rfl rfl rfl (WO.p rfl rfl ?_)))
                                           refine WO.nil ?_
                                           refine W.cond_bl rfl (fun c12 => ?_) (fun c12 => ?_)
                                           · first
                                             | (exfalso; omega)
                                             | (refine W.sreg ?_
                                                refine WO.p rfl rfl ?_
                                                refine WO.nil ?_
                                                refine W.ret ?_
                                                first | exact fin.ret (Res.one rfl (RV.tmp rfl)) rfl | (exfalso; omega))
                                           first
                                           | (exfalso; omega)
                                           | (refine W.skip ?_
                                              refine W.region ?_
                                              refine WO.p rfl rfl (WO.ar rfl rfl rfl (by (first | (unfold in64; omega) | (unfold in64; omega))) rfl (WO.p rfl rfl ?_))
                                              refine WO.nil ?_
                                              refine' ⟨j + 1, ?hp, ?hmu, ⟨rfl, rfl, rfl, rfl, rfl, trivial⟩, ?hS⟩
                                              case hS => repeat (first | exact Sub.nil | refine Sub.cons (by repeat (first | exact Pick.head | apply Pick.tail)) ?_)
                                              case hp => omega
                                              case hmu => omega))
                                      first
                                      | (exfalso; omega)
                                      | (refine WO.no rfl rfl (WO.no rfl rfl (WO.pg rfl rfl rfl (WO.p rfl rfl ?_)))
                                         refine WO.nil ?_
                                         refine W.cond_f rfl ?_
                                         refine W.skip ?_
                                         refine W.region ?_
                                         refine WO.p rfl rfl (WO.ar rfl rfl rfl (by (first | (unfold in64; omega) | (unfold in64; omega))) rfl (WO.p rfl rfl ?_))
                                         refine WO.nil ?_
                                         refine' ⟨j + 1, ?hp, ?hmu, ⟨rfl, rfl, rfl, rfl, rfl, trivial⟩, ?hS⟩
                                         case hS => repeat (first | exact Sub.nil | refine Sub.cons (by repeat (first | exact Pick.head | apply Pick.tail)) ?_)
                                         case hp => omega
                                         case hmu => omega)))))))
                  first
                  | (exfalso; omega)
                  | (refine WO.no rfl rfl (WO.no rfl rfl (WO.no rfl rfl (WO.no rfl rfl (WO.no rfl rfl (WO.no rfl rfl (WO.no rfl rfl (WO.no rfl rfl (WO.no rfl rfl (WO.no rfl rfl (WO.no rfl rfl (WO.no rfl rfl ?_)))))))))))
                     refine WO.no rfl rfl (WO.no rfl rfl (WO.no rfl rfl (WO.p rfl rfl (WO.p rfl rfl (WO.pg rfl rfl rfl (WO.pg rfl rfl rfl (WO.pg rfl rfl rfl ?_)))))))
                     refine WO.guard_bl rfl rfl (fun c6 => ?_) (fun c6 => ?_)
                     · first
                       | (exfalso; omega)
                       | (refine WO.pg rfl rfl rfl (WO.pg rfl rfl rfl (WO.pg rfl rfl rfl (WO.p rfl rfl (WO.p rfl rfl ?_))))
                          refine WO.guard_bl rfl rfl (fun c7 => ?_) (fun c7 => ?_)
                          · first
                            | (exfalso; omega)
                            | (refine WO.no rfl rfl (WO.no rfl rfl (WO.no rfl rfl (WO.no rfl rfl (WO.no rfl rfl (WO.no rfl rfl (WO.p rfl rfl ?_))))))
                               refine WO.nil ?_
                               refine W.cond_t rfl ?_
                               refine W.sreg ?_
                               refine WO.p rfl rfl ?_
                               refine WO.nil ?_
                               refine W.ret ?_
                               first | exact fin.ret (Res.one rfl (RV.tmp rfl)) rfl | (exfalso; omega))
                          first
                          | (exfalso; omega)
                          | (refine WO.pg rfl rfl rfl (WO.pg rfl rfl rfl (WO.pg rfl rfl rfl ?_))
                             refine WO.guard_bl rfl rfl (fun c8 => ?_) (fun c8 => ?_)
                             · first
                               | (exfalso; omega)
                               | (refine WO.pg rfl rfl rfl (WO.pg rfl rfl rfl (WO.pg rfl rfl rfl (WO.p rfl rfl ?_)))
                                  refine WO.nil ?_
                                  refine W.cond_bl rfl (fun c9 => ?_) (fun c9 => ?_)
                                  · first
                                    | (exfalso; omega)
                                    | (refine W.sreg ?_
                                       refine WO.p rfl rfl ?_
                                       refine WO.nil ?_
                                       refine W.ret ?_
                                       first | exact fin.ret (Res.one rfl (RV.tmp rfl)) rfl | (exfalso; omega))
                                  first
                                  | (exfalso; omega)
                                  | (refine W.skip ?_
                                     refine W.region ?_
                                     refine WO.p rfl rfl (WO.ar rfl rfl rfl (by (first | (unfold in64; omega) | (unfold in64; omega))) rfl (WO.p rfl rfl ?_))
                                     refine WO.nil ?_
                                     refine' ⟨j + 1, ?hp, ?hmu, ⟨rfl, rfl, rfl, rfl, rfl, trivial⟩, ?hS⟩
                                     case hS => repeat (first | exact Sub.nil | refine Sub.cons (by repeat (first | exact Pick.head | apply Pick.tail)) ?_)
                                     case hp => omega
                                     case hmu => omega))
                             first
                             | (exfalso; omega)
                             | (refine WO.no rfl rfl (WO.no rfl rfl (WO.pg rfl rfl rfl (WO.p rfl rfl ?_)))
                                refine WO.nil ?_
                                refine W.cond_f rfl ?_
                                refine W.skip ?_
                                refine W.region ?_
                                refine WO.p rfl rfl (WO.ar rfl rfl rfl (by (first | (unfold in64; omega) | (unfold in64; omega))) rfl (WO.p rfl rfl ?_))
                                refine WO.nil ?_
                                refine' ⟨j + 1, ?hp, ?hmu, ⟨rfl, rfl, rfl, rfl, rfl, trivial⟩, ?hS⟩
                                case hS => repeat (first | exact Sub.nil | refine Sub.cons (by repeat (first | exact Pick.head | apply Pick.tail)) ?_)
                                case hp => omega
                                case hmu => omega)))
                     first
                     | (exfalso; omega)
                     | (refine WO.no rfl rfl (WO.no rfl rfl (WO.pg rfl rfl rfl (WO.p rfl rfl (WO.p rfl rfl (WO.pg rfl rfl rfl (WO.pg rfl rfl rfl (WO.pg rfl rfl rfl ?_)))))))
                        refine WO.guard_bl rfl rfl (fun c7 => ?_) (fun c7 => ?_)
                        · first
                          | (exfalso; omega)
                          | (refine WO.pg rfl rfl rfl (WO.pg rfl rfl rfl (WO.pg rfl rfl rfl (WO.p rfl rfl ?_)))
                             refine WO.nil ?_
                             refine W.cond_bl rfl (fun c8 => ?_) (fun c8 => ?_)
                             · first
                               | (exfalso; omega)
                               | (refine W.sreg ?_
                                  refine WO.p rfl rfl ?_
                                  refine WO.nil ?_
                                  refine W.ret ?_
                                  first | exact fin.ret (Res.one rfl (RV.tmp rfl)) rfl | (exfalso; omega))
                             first
                             | (exfalso; omega)
                             | (refine W.skip ?_
                                refine W.region ?_
                                refine WO.p rfl rfl (WO.ar rfl rfl rfl (by (first | (unfold in64; omega) | (unfold in64; omega))) rfl (WO.p rfl rfl ?_))
                                refine WO.nil ?_
                                refine' ⟨j + 1, ?hp, ?hmu, ⟨rfl, rfl, rfl, rfl, rfl, trivial⟩, ?hS⟩
                                case hS => repeat (first | exact Sub.nil | refine Sub.cons (by repeat (first | exact Pick.head | apply Pick.tail)) ?_)
                                case hp => omega
                                case hmu => omega))
                        first
                        | (exfalso; omega)
                        | (refine WO.no rfl rfl (WO.no rfl rfl (WO.pg rfl rfl rfl (WO.p rfl rfl ?_)))
                           refine WO.nil ?_
                           refine W.cond_f rfl ?_
                           refine W.skip ?_
                           refine W.region ?_
                           refine WO.p rfl rfl (WO.ar rfl rfl rfl (by (first | (unfold in64; omega) | (unfold in64; omega))) rfl (WO.p rfl rfl ?_))
                           refine WO.nil ?_
                           refine' ⟨j + 1, ?hp, ?hmu, ⟨rfl, rfl, rfl, rfl, rfl, trivial⟩, ?hS⟩
                           case hS => repeat (first | exact Sub.nil | refine Sub.cons (by repeat (first | exact Pick.head | apply Pick.tail)) ?_)
                           case hp => omega
                           case hmu => omega))))
             first
             | (exfalso; omega)
             | (refine W.exit (blk_same ?_)
                refine W.region ?_
                refine WO.p rfl rfl (WO.ar rfl rfl rfl (by (first | (unfold in64; omega) | (unfold in64; omega))) rfl (WO.p rfl rfl ?_))
                refine WO.nil ?_
                refine' ⟨i + 1, ?hp, ?hmu, ⟨rfl, rfl, rfl, rfl, trivial⟩, ?hS⟩
                case hS => repeat (first | exact Sub.nil | refine Sub.cons (by repeat (first | exact Pick.head | apply Pick.tail)) ?_)
                case hp => omega
                case hmu => omega))
        first
        | (exfalso; omega)
        | (refine W.exit (blk_same ?_)
           have hod := odL_ok (l := l) (bs := bs) hb
           obtain ⟨od, hodd⟩ : ∃ od, odL l.length bs = od := ⟨_, rfl⟩
           rw [hodd] at hod
           obtain ⟨hte, htl, hol⟩ := Tm_fine hc hod
           have hod2 : (∀ x ∈ od, In L3 x) ∧ od.Nodup := ⟨fun x hx => by have := hod.1 x hx; unfold In at *; omega, hod.2⟩
           obtain ⟨hte2, htl2, hol2⟩ := Tm_fine hc2 hod2
           have hbb := hea.best hc hc2
           refine W.sreg ?_
           refine WO.loadA rfl rfl (Cells.own Pick.head) rfl rfl (WO.p rfl rfl ?_)
           refine WO.call (Post := fun r Hq => ∃ x : Value, r = x ∧ Hq = [OwE encI 3 1 x od]) rfl Try.call27 (fun L w hi => by have h := law_Order w o u a b l bs (hR.later hi) (hX.later hi) hb (by omega); rw [hodd] at h; exact h) rfl ?_
           rintro xv _ ⟨_, rfl, rfl⟩
           refine WO.fact (OwE.sl (enc := encI) (e := 3) (sz := 1) (v := xv) (xs := od) Pick.head) (fun hxs => ?_)
           refine WO.p rfl rfl ?_
           refine WO.nil ?_
           refine W.sreg ?_
           refine WO.loadA rfl rfl (Cells.own (Pick.tail (Pick.head))) rfl rfl (WO.p rfl rfl ?_)
           refine WO.call (Post := fun r Hq => ∃ x : Value, r = .tuple #[x, .int .i64 (tmE b l od)] ∧ Hq = [OwE encI 2 1 x (tmL b l od)]) rfl Try.call13 (fun L w hi => by have h := c_Times w o _ a b l od (hR.later hi) (RdF.of_ow (e := 3) encI_ok (by repeat (first | exact Pick.head | apply Pick.tail)) hi); rw [hte, htl] at h; exact h) rfl ?_
           rintro _ _ ⟨tv, rfl, rfl⟩
           refine WO.fact (OwE.sl (enc := encI) (e := 2) (sz := 1) (v := tv) (xs := tmL b l od) Pick.head) (fun hts => ?_)
           refine WO.p rfl rfl (WO.p rfl rfl (WO.p rfl rfl (WO.p rfl rfl (WO.p rfl rfl ?_))))
           refine WO.nil ?_
           refine W.sreg ?_
           refine WO.loadA rfl rfl (Cells.own (Pick.tail (Pick.tail (Pick.tail (Pick.head))))) rfl rfl (WO.p rfl rfl ?_)
           refine WO.call (Post := fun r Hq => ∃ x : Value, r = .tuple #[x, .int .i64 (tmE B2 L3 od)] ∧ Hq = [OwE encI 2 1 x (tmL B2 L3 od)]) rfl Try.call13 (fun L w hi => by have h := c_Times w _ _ a B2 L3 od (RdF.of_ow (e := 48) encR_ok (by repeat (first | exact Pick.head | apply Pick.tail)) hi) (RdF.of_ow (e := 3) encI_ok (by repeat (first | exact Pick.head | apply Pick.tail)) hi); rw [hte2, htl2] at h; exact h) rfl ?_
           rintro _ _ ⟨sv, rfl, rfl⟩
           refine WO.fact (OwE.sl (enc := encI) (e := 2) (sz := 1) (v := sv) (xs := tmL B2 L3 od) Pick.head) (fun hss => ?_)
           refine WO.p rfl rfl (WO.p rfl rfl (WO.p rfl rfl (WO.p rfl rfl (WO.p rfl rfl ?_))))
           refine WO.nil ?_
           refine W.seq ?_
           refine W.sreg ?_
           refine WO.p rfl rfl (WO.p rfl rfl ?_)
           refine WO.nil ?_
           refine W.cond_bl rfl (fun c4 => ?_) (fun c4 => ?_)
           · first
             | (exfalso; omega)
             | (refine W.seq ?_
                have ht0 : tmE b l od = 0 := by assumption
                have hvo : VO b l od := ⟨hod.1, hod.2, ht0⟩
                have ht2 : tmE B2 L3 od = 0 := (hea.vo hd hvo).2.2
                have htl0 : tmL b l od = tmA b l od od.length := tmL_0 ht0
                have htl3 : tmL B2 L3 od = tmA B2 L3 od od.length := tmL_0 ht2
                have htll : (tmL b l od).length = od.length := by rw [htl0, tmA_len]
                have htll2 : (tmL B2 L3 od).length = od.length := by rw [htl3, tmA_len]
                refine W.sreg ?_
                refine WO.p rfl rfl ?_
                refine WO.neqF rfl rfl (by omega) rfl ?_
                refine WO.p rfl rfl (WO.pg rfl rfl rfl (WO.go' rfl ?_))
                refine' WO.len (n := _) rfl rfl ?hs rfl ?_
                case hs => (first | exact hts)
                refine WO.pg rfl rfl rfl (WO.go' rfl ?_)
                refine' WO.len (n := _) rfl rfl ?hs rfl ?_
                case hs => (first | exact hxs)
                refine WO.go' rfl ?_
                refine WO.neqF rfl rfl (by omega) rfl ?_
                refine WO.p rfl rfl (WO.p rfl rfl (WO.pg rfl rfl rfl (WO.go' rfl ?_)))
                refine' WO.len (n := _) rfl rfl ?hs rfl ?_
                case hs => (first | exact hss)
                refine WO.pg rfl rfl rfl (WO.go' rfl ?_)
                refine' WO.len (n := _) rfl rfl ?hs rfl ?_
                case hs => (first | exact hxs)
                refine WO.go' rfl ?_
                refine WO.neqF rfl rfl (by omega) rfl ?_
                refine WO.p rfl rfl ?_
                refine WO.nil ?_
                refine W.cond_f rfl ?_
                refine W.skip ?_
                refine W.sreg ?_
                refine WO.p rfl rfl ?_
                refine WO.nil ?_
                refine W.block ?_
                refine W.loop (fun (m : Nat) => m ≤ od.length)
                  (fun (m : Nat) => [(4, .pointer (some ⟨b1, 0, none⟩)), (9, .pointer (some ⟨b3, 0, none⟩)), (17, xv), (18, tv), (20, sv), (22, .int .i64 (m : Int))])
                  (fun (m : Nat) => [pt b1 (.cells #[.int .i64 a, .int .i64 b, o] 26 (0, 0)), pt b3 (.cells #[.int .i64 a, .int .i64 B2, .slice ca l.length cc] 26 (0, 0)), OwE encR 48 6 (.slice ca l.length cc) L3, OwE encI 3 1 xv od, OwE encI 2 1 tv (tmL b l od), OwE encI 2 1 sv (tmL B2 L3 od)])
                  (fun (m : Nat) => od.length - m) 0
                  (by omega) ⟨rfl, rfl, rfl, rfl, rfl, rfl, trivial⟩ (by repeat (first | exact Sub.nil | refine Sub.cons (by repeat (first | exact Pick.head | apply Pick.tail)) ?_)) ?_
                rintro m hm
                refine W.seq ?_
                refine W.sreg ?_
                refine WO.p rfl rfl (WO.p rfl rfl ?_)
                refine' WO.len (n := _) rfl rfl ?hs rfl ?_
                case hs => (first | exact hxs)
                refine WO.p rfl rfl ?_
                refine WO.nil ?_
                refine W.cond_bl rfl (fun c5 => ?_) (fun c5 => ?_)
                · first
                  | (exfalso; omega)
                  | (refine W.skip ?_
                     refine W.seq ?_
                     refine W.block ?_
                     refine W.seq ?_
                     have hml : m < od.length := by omega
                     have hle := (hea.at_ hd hod.1 (tmE_0.1 ht0) hml).2
                     refine W.drawD 8 [.r 0 [], .r 1 [], .r 2 [], .b 3 [], .r 4 [], .r 5 [], .r 6 [], .b 7 []] [] (A0 := []) (Sub.refl _) (by kernel_rfl) ?_ ?_
                     · exact (ALok.r (ALok.r (ALok.r (ALok.b (ALok.r (ALok.r (ALok.r (ALok.b ALok.nil))))))))
                     refine' DT.r rfl rfl rfl ?hq ?_
                     case hq =>
                       refine WO.p rfl rfl ?_
                       exact WO.nil ⟨rfl, rfl⟩
                     refine' DT.r rfl rfl rfl ?hq ?_
                     case hq =>
                       refine WO.p rfl rfl ?_
                       exact WO.nil ⟨rfl, rfl⟩
                     refine' DT.r rfl rfl rfl ?hq ?_
                     case hq =>
                       refine' WO.indexAddr (n := _) (i := _) rfl rfl rfl ?hs ?h1 rfl ?_
                       case hs => (first | exact hss)
                       case h1 => (first | omega | (simp; omega))
                       exact WO.nil ⟨rfl, rfl⟩
                     refine' DT.b rfl rfl rfl ?hq ?_
                     case hq =>
                       refine' WO.load (v := _) rfl rfl ?hc rfl ?_
                       case hc => (first | (refine owE_cellS (e := 2) (xs := tmL B2 L3 od) (x := atK B2 L3 od m) (i := m) ?_ (by omega) (by rw [htl3, tmA_get hml]) rfl; exact (by repeat (first | exact Sub.nil | refine Sub.cons (by repeat (first | exact Pick.head | apply Pick.tail)) ?_))))
                       exact WO.nil ⟨rfl, rfl⟩
                     refine' DT.r rfl rfl rfl ?hq ?_
                     case hq =>
                       refine WO.p rfl rfl ?_
                       exact WO.nil ⟨rfl, rfl⟩
                     refine' DT.r rfl rfl rfl ?hq ?_
                     case hq =>
                       refine WO.p rfl rfl ?_
                       exact WO.nil ⟨rfl, rfl⟩
                     refine' DT.r rfl rfl rfl ?hq ?_
                     case hq =>
                       refine' WO.indexAddr (n := _) (i := _) rfl rfl rfl ?hs ?h1 rfl ?_
                       case hs => (first | exact hts)
                       case h1 => (first | omega | (simp; omega))
                       exact WO.nil ⟨rfl, rfl⟩
                     refine' DT.b rfl rfl rfl ?hq ?_
                     case hq =>
                       refine' WO.load (v := _) rfl rfl ?hc rfl ?_
                       case hc => (first | (refine owE_cellS (e := 2) (xs := tmL b l od) (x := atK b l od m) (i := m) ?_ (by omega) (by rw [htl0, tmA_get hml]) rfl; exact (by repeat (first | exact Sub.nil | refine Sub.cons (by repeat (first | exact Pick.head | apply Pick.tail)) ?_))))
                       exact WO.nil ⟨rfl, rfl⟩
                     refine DT.nil [_, _, _, _, _, _] rfl ?_
                     refine WO.gtrF rfl rfl (by omega) rfl ?_
                     refine WO.nil ?_
                     refine W.cond_f rfl ?_
                     refine W.skip ?_
                     refine W.region ?_
                     refine WO.p rfl rfl (WO.ar rfl rfl rfl (by (first | (unfold in64; omega) | (unfold in64; omega))) rfl (WO.p rfl rfl ?_))
                     refine WO.nil ?_
                     refine' ⟨m + 1, ?hp, ?hmu, ⟨rfl, rfl, rfl, rfl, rfl, rfl, trivial⟩, ?hS⟩
                     case hS => repeat (first | exact Sub.nil | refine Sub.cons (by repeat (first | exact Pick.head | apply Pick.tail)) ?_)
                     case hp => omega
                     case hmu => omega)
                first
                | (exfalso; omega)
                | (refine W.exit (blk_same ?_)
                   refine W.sreg ?_
                   refine WO.loadA rfl rfl (Cells.own Pick.head) rfl rfl ?_
                   refine WO.call (Post := fun r Hq => ∃ x : Value, r = .tuple #[x, .int .i64 0] ∧ Hq = [OwE encI 3 1 x (bsL a b l)]) rfl Try.call19 (fun L w hi => by have h := c_Best w o a b l (hR.later hi); rw [hc] at h; exact h) rfl ?_
                   rintro _ _ ⟨r5, rfl, rfl⟩
                   refine WO.fact (OwE.sl (enc := encI) (e := 3) (sz := 1) (v := r5) (xs := bsL a b l) Pick.head) (fun h5s => ?_)
                   refine WO.p rfl rfl (WO.p rfl rfl (WO.p rfl rfl (WO.p rfl rfl (WO.p rfl rfl ?_))))
                   refine WO.nil ?_
                   refine W.sreg ?_
                   refine WO.loadA rfl rfl (Cells.own (Pick.tail (Pick.tail (Pick.head)))) rfl rfl ?_
                   refine WO.call (Post := fun r Hq => ∃ x : Value, r = .tuple #[x, .int .i64 0] ∧ Hq = [OwE encI 3 1 x (bsL a B2 L3)]) rfl Try.call19 (fun L w hi => by have h := c_Best w _ a B2 L3 (RdF.of_ow (e := 48) encR_ok (by repeat (first | exact Pick.head | apply Pick.tail)) hi); rw [hc2] at h; exact h) rfl ?_
                   rintro _ _ ⟨r6, rfl, rfl⟩
                   refine WO.fact (OwE.sl (enc := encI) (e := 3) (sz := 1) (v := r6) (xs := bsL a B2 L3) Pick.head) (fun h6s => ?_)
                   refine WO.p rfl rfl (WO.p rfl rfl (WO.p rfl rfl (WO.p rfl rfl (WO.p rfl rfl ?_))))
                   refine WO.nil ?_
                   refine W.sreg ?_
                   refine WO.p rfl rfl ?_
                   refine WO.eqlT rfl rfl rfl rfl ?_
                   refine WO.p rfl rfl (WO.pg rfl rfl rfl (WO.go' rfl ?_))
                   refine WO.eqlT rfl rfl rfl rfl ?_
                   refine WO.p rfl rfl (WO.p rfl rfl (WO.pg rfl rfl rfl (WO.go' rfl ?_)))
                   refine' WO.len (n := _) rfl rfl ?hs rfl ?_
                   case hs => (first | exact h6s)
                   refine WO.pg rfl rfl rfl (WO.go' rfl ?_)
                   refine' WO.len (n := _) rfl rfl ?hs rfl ?_
                   case hs => (first | exact h5s)
                   refine WO.go' rfl ?_
                   refine WO.geqT rfl rfl (by omega) rfl ?_
                   refine WO.p rfl rfl (WO.p rfl rfl (WO.go' rfl ?_))
                   refine WO.callR rfl Try.call12 (fun L w hi => l_Works w) rfl ?_
                   refine WO.p rfl rfl (WO.p rfl rfl ?_)
                   refine WO.nil ?_
                   refine W.ret ?_
                   first | exact fin.ret (Res.one rfl (RV.tmp rfl)) rfl | (exfalso; omega)))
           first
           | (exfalso; omega)
           | (refine W.skip ?_
              refine W.sreg ?_
              refine WO.loadA rfl rfl (Cells.own (Pick.tail (Pick.tail (Pick.tail (Pick.head))))) rfl rfl ?_
              refine WO.call (Post := fun r Hq => ∃ x : Value, r = .tuple #[x, .int .i64 0] ∧ Hq = [OwE encI 3 1 x (bsL a b l)]) rfl Try.call19 (fun L w hi => by have h := c_Best w o a b l (hR.later hi); rw [hc] at h; exact h) rfl ?_
              rintro _ _ ⟨r5, rfl, rfl⟩
              refine WO.fact (OwE.sl (enc := encI) (e := 3) (sz := 1) (v := r5) (xs := bsL a b l) Pick.head) (fun h5s => ?_)
              refine WO.p rfl rfl (WO.p rfl rfl (WO.p rfl rfl (WO.p rfl rfl (WO.p rfl rfl ?_))))
              refine WO.nil ?_
              refine W.sreg ?_
              refine WO.loadA rfl rfl (Cells.own (Pick.tail (Pick.tail (Pick.tail (Pick.tail (Pick.tail (Pick.head))))))) rfl rfl ?_
              refine WO.call (Post := fun r Hq => ∃ x : Value, r = .tuple #[x, .int .i64 0] ∧ Hq = [OwE encI 3 1 x (bsL a B2 L3)]) rfl Try.call19 (fun L w hi => by have h := c_Best w _ a B2 L3 (RdF.of_ow (e := 48) encR_ok (by repeat (first | exact Pick.head | apply Pick.tail)) hi); rw [hc2] at h; exact h) rfl ?_
              rintro _ _ ⟨r6, rfl, rfl⟩
              refine WO.fact (OwE.sl (enc := encI) (e := 3) (sz := 1) (v := r6) (xs := bsL a B2 L3) Pick.head) (fun h6s => ?_)
              refine WO.p rfl rfl (WO.p rfl rfl (WO.p rfl rfl (WO.p rfl rfl (WO.p rfl rfl ?_))))
              refine WO.nil ?_
              refine W.sreg ?_
              refine WO.p rfl rfl ?_
              refine WO.eqlT rfl rfl rfl rfl ?_
              refine WO.p rfl rfl (WO.pg rfl rfl rfl (WO.go' rfl ?_))
              refine WO.eqlT rfl rfl rfl rfl ?_
              refine WO.p rfl rfl (WO.p rfl rfl (WO.pg rfl rfl rfl (WO.go' rfl ?_)))
              refine' WO.len (n := _) rfl rfl ?hs rfl ?_
              case hs => (first | exact h6s)
              refine WO.pg rfl rfl rfl (WO.go' rfl ?_)
              refine' WO.len (n := _) rfl rfl ?hs rfl ?_
              case hs => (first | exact h5s)
              refine WO.go' rfl ?_
              refine WO.geqT rfl rfl (by omega) rfl ?_
              refine WO.p rfl rfl (WO.p rfl rfl (WO.go' rfl ?_))
              refine WO.callR rfl Try.call12 (fun L w hi => l_Works w) rfl ?_
              refine WO.p rfl rfl (WO.p rfl rfl ?_)
              refine WO.nil ?_
              refine W.ret ?_
              first | exact fin.ret (Res.one rfl (RV.tmp rfl)) rfl | (exfalso; omega)))))
end Go.Proofs.Ytkonhpcldomidaa
