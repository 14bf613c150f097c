/-
  What is proved here: the mean of some number of each run, and the functions that tell the number. Conditions: none; each contract states its own.
  What is proved here: the functions that tell the numbers of runs, and tides. Conditions: none; each contract states its own.
  What is proved here: tides, the mean's error in a tide, and the span. Conditions: none; each contract states its own.
  What is proved here: the mean's error in a tide, and the span, of a valid trial. Conditions: none; each contract states its own.
  What is proved here: some tide of a degree below the number of runs does not cancel (no program in sight). Conditions: none; each theorem states its own.
  What is proved here: the program's mean, span, error in a tide, degree that cancels and widest run. Conditions: none; each contract states its own.
  What is proved here: the program's error in a tide, degree that cancels and widest run. Conditions: none; each contract states its own.
  What is proved here: the reference's tides, means and spans. Conditions: none; each contract states its own.
-/
import Derived.Test.YtkiaepcklbidgaaM3
import Derived.Test.YtkiaepcklbidgaaM2
namespace Go.Proofs.Ytkiaepcklbidgaa
open Go Go.TH
attribute [local irreducible] W WO pt
set_option maxRecDepth 10000
set_option maxHeartbeats 1000000
/-- a function value that answers T x at each x of S, and touches nothing, in whatever memory that is below block B as wr is -/
def FnV (B : Nat) (wr : World) (f : Nat) (cap : List Value) (S : Int → Prop) (T : Int → Int) : Prop :=
  ∀ w : World, B ≤ w.heap.size → (∀ k, k < B → w.heap[k]? = wr.heap[k]?) → ∀ x, S x → Ret Try.prog f (([.int .i64 x] : List Value) ++ cap).toArray w (.int .i64 (T x))
theorem FnV.at_ {C : Cx Try.prog} {H : List HP} {L : List HP} {w : World} {f : Nat} {cap : List Value} {S : Int → Prop} {T : Int → Int} (hB : C.B = C.w0.heap.size) (h : FnV C.w0.heap.size C.w0 f cap S T) (hi : Inv C.w0 C.M (L ++ H) w) {x : Int} (hx : S x) : Ret Try.prog f (([] : List Value) ++ [Value.int .i64 x] ++ cap).toArray w (.int .i64 (T x)) := by
  rw [List.nil_append]
  exact h w hi.size (by rw [← hB]; exact hi.keepB) x hx
/-- the weights' sum of what a function tells of each run -/
def msum (m : Int) (rs : List (Int × Int × Int)) (g : Int → Int) : Nat → Int
  | 0 => 0
  | i + 1 => msum m rs g i + wts m rs i * g (i : Int)
theorem abs_mul {w g W G : Int} (hw : 0 ≤ w ∧ w ≤ W) (hg : ab g ≤ G) : -(W * G) ≤ w * g ∧ w * g ≤ W * G := by
  have h0 : 0 ≤ ab g := ab_nn g
  have h1 : w * ab g ≤ W * G := Int.mul_le_mul hw.2 hg h0 (by omega)
  have h2 : w * g ≤ w * ab g := Int.mul_le_mul_of_nonneg_left (by unfold ab; omega) hw.1
  have h3 : w * (-g) ≤ w * ab g := Int.mul_le_mul_of_nonneg_left (by unfold ab; omega) hw.1
  rw [Int.mul_neg] at h3
  omega
section
variable {m : Int} {rs : List (Int × Int × Int)} {g : Int → Int}
theorem msum_in (hv : VT m rs) (hg : ∀ i : Nat, i < rs.length → ab (g i) ≤ 1000000000) : ∀ {i : Nat}, i ≤ rs.length → ab (msum m rs g i) ≤ 1670880000000000000 * i
  | 0, _ => by simp [msum, ab]
  | i + 1, h => by
    have h1 := msum_in hv hg (i := i) (by omega)
    have h2 := wts_lt hv (i := i) (by omega)
    have h3 := abs_mul (W := 1670880000) ⟨by omega, h2.2⟩ (hg i (by omega))
    have e : msum m rs g (i + 1) = msum m rs g i + wts m rs i * g (i : Int) := rfl
    unfold ab at *
    omega
end
theorem wTo_at {g : Nat → Int} {n i : Nat} (h : i < n) : wTo g n i = g i := by unfold wTo; rw [if_pos h]
theorem sc_cellP {C : Cx Try.prog} {H : List HP} {p : Addr} {i : Nat} {m : Int} {o : Value} {f : Nat → Int} {s x : Int} (hP : RdC C.B C.w0 p (sc m o f s)) (h : i < 5) (e : f i = x) : Cell C H ((prt p 2).add ((i : Int).toNat * 1)) (.int .i64 x) := by
  subst e
  have := hP.cellAt (H := H) (sc_get (m := m) (o := o) (f := f) (s := s) h)
  rw [prt_eq] at this ⊢
  rwa [Int.toNat_natCast, Nat.mul_one, Addr.add_add]
theorem c_mean (w : World) (p : Addr) (m : Int) (o : Value) (rs : List (Int × Int × Int)) (f : Nat) (cap : List Value) (T : Int → Int) (hP : RdC w.heap.size w p (sc m o (wTo (wts m rs) rs.length) (wsum m rs rs.length))) (hR : RdF encR 3 w.heap.size w o rs) (hv : VT m rs)
    (hF : FnV w.heap.size w f cap (fun x => 0 ≤ x ∧ x < rs.length) T) (hcall : ∀ (args : Array Value) (w : World), (callFunc f args).run Try.prog w = .ok (.enter f args) w) (hg : ∀ i : Nat, i < rs.length → ab (T i) ≤ 1000000000) :
    Ret Try.prog 53 [.pointer (some p), .func (.func f) (([] : List Value).toArray) cap.toArray].toArray w (.agg (encP (red (msum m rs T rs.length) (wsum m rs rs.length))).toArray) := by
  refine Ret.of mixed tyTab Try.func53 rfl rfl ?_
  replace hR : RdF encR 3 (fnCx mixed tyTab Try.f53.ntmps w).B (fnCx mixed tyTab Try.f53.ntmps w).w0 o rs := hR
  replace hP : RdC (fnCx mixed tyTab Try.f53.ntmps w).B (fnCx mixed tyTab Try.f53.ntmps w).w0 p (sc m o (wTo (wts m rs) rs.length) (wsum m rs rs.length)) := hP
  replace hF : FnV (fnCx mixed tyTab Try.f53.ntmps w).w0.heap.size (fnCx mixed tyTab Try.f53.ntmps w).w0 f cap (fun x => 0 ≤ x ∧ x < rs.length) T := hF
  have hn := hv.n
  have hws := wsum_lt hv (i := rs.length) (Nat.le_refl _)
  refine W.sreg ?_
  refine WO.alloc rfl rfl rfl (fun b1 hb1 => ?_)
  refine WO.nil ?_
  refine W.sreg ?_
  refine WO.p rfl rfl ?_
  refine WO.nil ?_
  refine W.seq ?_
  refine W.sreg ?_
  refine WO.p rfl rfl (WO.p rfl rfl (WO.field0 rfl rfl rfl (WO.field rfl rfl rfl ?_)))
  refine' WO.load (v := _) rfl rfl ?hc rfl ?_
  case hc => (first | (refine hP.cellAt ?_; rfl))
  refine' WO.len (n := _) rfl rfl ?hs rfl ?_
  case hs => (first | exact hR.sl)
  refine WO.p rfl rfl ?_
  refine WO.nil ?_
  refine W.block ?_
  refine W.loop2 (fun (i : Nat) (c : Int) => i ≤ rs.length ∧ c = msum m rs T i)
    (fun (i : Nat) (c : Int) => [(13, .int .i64 (i : Int)), (12, .int .i64 (rs.length : Int)), (5, .int .i64 c), (4, .pointer (some ⟨b1, 0, none⟩)), (0, .pointer (some p)), (1, .func (.func f) (([] : List Value).toArray) cap.toArray)])
    (fun (i : Nat) (c : Int) => [pt b1 (.cells #[.int .i64 0, .int .i64 0] 36 (0, 0))])
    (fun (i : Nat) (c : Int) => rs.length - i) 0 0
    (by exact ⟨by omega, rfl⟩) ⟨rfl, rfl, rfl, rfl, rfl, rfl, trivial⟩ (by repeat (first | exact Sub.nil | refine Sub.cons (by repeat (first | exact Pick.head | apply Pick.tail)) ?_)) ?_
  rintro i c ⟨hi, hc⟩
  have hmi := msum_in hv hg (i := i) hi
  have hmi1 : i < rs.length → ab (msum m rs T (i + 1)) ≤ 1670880000000000000 * ((i + 1 : Nat) : Int) := fun h => msum_in hv hg (i := i + 1) (by omega)
  unfold ab at hmi hmi1
  refine W.sreg ?_
  refine WO.p rfl rfl ?_
  refine WO.nil ?_
  refine W.seq ?_
  refine W.cond_bl rfl (fun c1 => ?_) (fun c1 => ?_)
  · first
    | (exfalso; omega)
    | (refine W.skip ?_
       refine W.seq ?_
       refine W.block ?_
       refine W.sreg ?_
       refine WO.p rfl rfl (WO.p rfl rfl ?_)
       refine WO.nil ?_
       have hwl := wts_lt hv (i := i) (by omega)
       have hmul := abs_mul (W := 1670880000) (w := wts m rs i) ⟨by omega, hwl.2⟩ (hg i (by omega))
       have hms : msum m rs T (i + 1) = msum m rs T i + wts m rs i * T (i : Int) := rfl
       have hmi2 := hmi1 (by omega)
       rw [hms] at hmi2
       clear hmi1
       refine W.drawD 11 [.r 0 [], .r 1 [], .r 2 [], .r 3 [], .r 4 [], .r 5 [], .b 6 [], .r 7 [], .r 8 [], .b 9 [], .r 10 []] [] (A0 := []) (Sub.refl _) (by kernel_rfl) ?_ ?_
       · exact (ALok.r (ALok.r (ALok.r (ALok.r (ALok.r (ALok.r (ALok.b (ALok.r (ALok.r (ALok.b (ALok.r ALok.nil)))))))))))
       refine' DT.r rfl rfl rfl ?hq ?_
       case hq =>
         refine WO.p rfl rfl ?_
         exact WO.nil ⟨rfl, rfl⟩
       refine' DT.r rfl rfl rfl ?hq ?_
       case hq =>
         refine WO.p rfl rfl ?_
         exact WO.nil ⟨rfl, rfl⟩
       refine' DT.r rfl rfl rfl ?hq ?_
       case hq =>
         refine WO.p rfl rfl ?_
         exact WO.nil ⟨rfl, rfl⟩
       refine' DT.r rfl rfl rfl ?hq ?_
       case hq =>
         refine WO.p rfl rfl ?_
         exact WO.nil ⟨rfl, rfl⟩
       refine' DT.r rfl rfl rfl ?hq ?_
       case hq =>
         refine WO.field rfl rfl rfl ?_
         exact WO.nil ⟨rfl, rfl⟩
       refine' DT.r rfl rfl rfl ?hq ?_
       case hq =>
         refine WO.indexArr rfl rfl rfl (by omega) (by omega) rfl ?_
         exact WO.nil ⟨rfl, rfl⟩
       refine' DT.b rfl rfl rfl ?hq ?_
       case hq =>
         refine' WO.load (v := _) rfl rfl ?hc rfl ?_
         case hc => (first | exact sc_cellP (i := i) (x := wts m rs i) hP (by omega) (wTo_at (by omega)))
         exact WO.nil ⟨rfl, rfl⟩
       refine' DT.r rfl rfl rfl ?hq ?_
       case hq =>
         refine WO.p rfl rfl ?_
         exact WO.nil ⟨rfl, rfl⟩
       refine' DT.r rfl rfl rfl ?hq ?_
       case hq =>
         refine WO.p rfl rfl ?_
         exact WO.nil ⟨rfl, rfl⟩
       refine' DT.b rfl rfl rfl ?hq ?_
       case hq =>
         refine WO.callCR (first := []) (captured := cap) rfl rfl hcall (fun L w hi => hF.at_ (x := (i : Int)) rfl hi ⟨by omega, by omega⟩) rfl ?_
         exact WO.nil ⟨rfl, rfl⟩
       refine' DT.r rfl rfl rfl ?hq ?_
       case hq =>
         refine WO.ar rfl rfl rfl (by (first | (unfold in64; omega) | (unfold in64; omega))) rfl ?_
         exact WO.nil ⟨rfl, rfl⟩
       refine DT.nil [_] rfl ?_
       refine WO.ar rfl rfl rfl (by (first | (unfold in64; omega) | (unfold in64; omega))) rfl (WO.p rfl rfl ?_)
       refine WO.nil ?_
       refine W.region ?_
       refine WO.ar rfl rfl rfl (by (first | (unfold in64; omega) | (unfold in64; omega))) rfl (WO.p rfl rfl ?_)
       refine WO.nil ?_
       refine' ⟨i + 1, _, ?hp, ?hmu, ⟨rfl, rfl, rfl, rfl, rfl, rfl, trivial⟩, ?hS⟩
       case hS => repeat (first | exact Sub.nil | refine Sub.cons (by repeat (first | exact Pick.head | apply Pick.tail)) ?_)
       case hp => exact ⟨by omega, by rw [hc]; rfl⟩
       case hmu => omega)
  · first
    | (exfalso; omega)
    | (refine W.exit (blk_same ?_)
       obtain rfl : i = rs.length := by omega
       subst hc
       refine W.sreg ?_
       refine WO.p rfl rfl (WO.p rfl rfl (WO.p rfl rfl (WO.field rfl rfl rfl ?_)))
       refine' WO.load (v := _) rfl rfl ?hc rfl ?_
       case hc => (first | (refine hP.cellAt ?_; rfl))
       refine WO.callR rfl Try.call70 (fun L w hi => c_fraction w _ _ (by unfold ab; omega) (by omega) (by unfold in64; omega)) rfl ?_
       refine WO.storeA rfl rfl rfl rfl Pick.head rfl rfl ?_
       refine WO.nil ?_
       refine W.ret ?_
       exact fin.ret (Res.one rfl (RV.cell rfl rfl rfl (Cells.own Pick.head))) rfl)
end Go.Proofs.Ytkiaepcklbidgaa
namespace Go.TH
theorem Cap.agree {w w' : World} {p : Addr} {v : Value} (h : Cap w p v) (hB : w.heap.size ≤ w'.heap.size) (hk : ∀ k, k < w.heap.size → w'.heap[k]? = w.heap[k]?) : Cap w' p v :=
  ⟨Nat.lt_of_lt_of_le h.lt hB, by rw [cell_agree hk h.lt]; exact h.at_⟩
theorem RdF.cellAt2 {α : Type} {C : Cx Go.Proofs.Try.prog} {H : List HP} {enc : α → List Value} {sz : Nat} {v : Value} {xs : List α} (h : RdF enc sz C.B C.w0 v xs) {i : Nat} (h1 : i < xs.length) (z : α) {a b : Nat} {u : Value} (hu : lget (enc (xs.getD i z)) (a + b) = some u) : Cell C H (prt (prt (elt v i sz) a) b) u := by
  have := h.cellAt (H := H) h1 z hu
  rw [prt_eq] at this
  rw [prt_eq, prt_eq, Addr.add_add]; exact this
end Go.TH
namespace Go.Proofs.Ytkiaepcklbidgaa
open Go Go.TH
attribute [local irreducible] W WO pt
set_option maxRecDepth 10000
set_option maxHeartbeats 1000000
theorem c_ground (w : World) (p : Addr) (v : Value) (xs : List Int) (x : Int) (hc : Cap w p v) (hR : RdF encI 1 w.heap.size w v xs) (hx : 0 ≤ x ∧ x < xs.length) : Ret Try.prog 54 [.int .i64 x, .pointer (some p)].toArray w (.int .i64 (xs.getD x.toNat 0)) := by
  refine Ret.of mixed tyTab Try.func54 rfl rfl ?_
  replace hR : RdF encI 1 (fnCx mixed tyTab Try.f54.ntmps w).B (fnCx mixed tyTab Try.f54.ntmps w).w0 v xs := hR
  replace hc : Cap (fnCx mixed tyTab Try.f54.ntmps w).w0 p v := hc
  refine W.sreg ?_
  refine WO.p rfl rfl ?_
  refine WO.nil ?_
  refine W.sreg ?_
  refine' WO.load (v := _) rfl rfl ?hc rfl ?_
  case hc => (first | (refine Cap.cell (v := v) rfl hc))
  refine WO.p rfl rfl ?_
  refine' WO.indexAddrZ (n := _) rfl rfl rfl ?hs ?h00 ?h1 rfl ?_
  case hs => (first | exact hR.sl)
  case h00 => omega
  case h1 => (first | omega | (simp; omega))
  refine' WO.load (v := _) rfl rfl ?hc rfl ?_
  case hc => (first | (refine hR.cell0 ?_ 0 ?_ <;> first | rfl | omega))
  refine WO.p rfl rfl ?_
  refine WO.nil ?_
  refine W.ret ?_
  exact fin.ret (Res.one rfl (RV.tmp rfl)) rfl
theorem fn_ground {w : World} {p : Addr} {v : Value} {xs : List Int} (hc : Cap w p v) (hR : RdF encI 1 w.heap.size w v xs) : FnV w.heap.size w 54 [.pointer (some p)] (fun x => 0 ≤ x ∧ x < xs.length) (fun x => xs.getD x.toNat 0) :=
  fun w' hB hk x hx => c_ground w' p v xs x (hc.agree hB hk) ((hR.agree hk).up hB) hx
theorem c_lo (w : World) (q p : Addr) (m : Int) (o : Value) (rest : List Value) (rs : List (Int × Int × Int)) (x : Int) (hc : Cap w q (.pointer (some p))) (hP : RdC w.heap.size w p (.int .i64 m :: o :: rest)) (hR : RdF encR 3 w.heap.size w o rs) (hx : 0 ≤ x ∧ x < rs.length) : Ret Try.prog 71 [.int .i64 x, .pointer (some q)].toArray w (.int .i64 (rs.getD x.toNat r0).2.1) := by
  refine Ret.of mixed tyTab Try.func71 rfl rfl ?_
  replace hR : RdF encR 3 (fnCx mixed tyTab Try.f71.ntmps w).B (fnCx mixed tyTab Try.f71.ntmps w).w0 o rs := hR
  replace hc : Cap (fnCx mixed tyTab Try.f71.ntmps w).w0 q (.pointer (some p)) := hc
  replace hP : RdC (fnCx mixed tyTab Try.f71.ntmps w).B (fnCx mixed tyTab Try.f71.ntmps w).w0 p (.int .i64 m :: o :: rest) := hP
  refine W.sreg ?_
  refine WO.p rfl rfl ?_
  refine WO.nil ?_
  refine W.sreg ?_
  refine' WO.load (v := _) rfl rfl ?hc rfl ?_
  case hc => (first | (refine Cap.cell (v := .pointer (some p)) rfl hc))
  refine WO.p rfl rfl (WO.field0 rfl rfl rfl (WO.field rfl rfl rfl ?_))
  refine' WO.load (v := _) rfl rfl ?hc rfl ?_
  case hc => (first | (refine hP.cellAt ?_; rfl) | (refine hR.cellAt ?_ r0 ?_ <;> first | rfl | omega))
  refine WO.p rfl rfl ?_
  refine' WO.indexAddrZ (n := _) rfl rfl rfl ?hs ?h00 ?h1 rfl ?_
  case hs => (first | exact hR.sl)
  case h00 => omega
  case h1 => (first | omega | (simp; omega))
  refine WO.field rfl rfl rfl (WO.field0 rfl rfl rfl ?_)
  refine' WO.load (v := _) rfl rfl ?hc rfl ?_
  case hc => (first | (refine hP.cellAt ?_; rfl) | (refine hR.cellAt ?_ r0 ?_ <;> first | rfl | omega))
  refine WO.p rfl rfl ?_
  refine WO.nil ?_
  refine W.ret ?_
  exact fin.ret (Res.one rfl (RV.tmp rfl)) rfl
theorem c_hi (w : World) (q p : Addr) (m : Int) (o : Value) (rest : List Value) (rs : List (Int × Int × Int)) (x : Int) (hc : Cap w q (.pointer (some p))) (hP : RdC w.heap.size w p (.int .i64 m :: o :: rest)) (hR : RdF encR 3 w.heap.size w o rs) (hx : 0 ≤ x ∧ x < rs.length) : Ret Try.prog 72 [.int .i64 x, .pointer (some q)].toArray w (.int .i64 (rs.getD x.toNat r0).2.2) := by
  refine Ret.of mixed tyTab Try.func72 rfl rfl ?_
  replace hR : RdF encR 3 (fnCx mixed tyTab Try.f72.ntmps w).B (fnCx mixed tyTab Try.f72.ntmps w).w0 o rs := hR
  replace hc : Cap (fnCx mixed tyTab Try.f72.ntmps w).w0 q (.pointer (some p)) := hc
  replace hP : RdC (fnCx mixed tyTab Try.f72.ntmps w).B (fnCx mixed tyTab Try.f72.ntmps w).w0 p (.int .i64 m :: o :: rest) := hP
  refine W.sreg ?_
  refine WO.p rfl rfl ?_
  refine WO.nil ?_
  refine W.sreg ?_
  refine' WO.load (v := _) rfl rfl ?hc rfl ?_
  case hc => (first | (refine Cap.cell (v := .pointer (some p)) rfl hc))
  refine WO.p rfl rfl (WO.field0 rfl rfl rfl (WO.field rfl rfl rfl ?_))
  refine' WO.load (v := _) rfl rfl ?hc rfl ?_
  case hc => (first | (refine hP.cellAt ?_; rfl) | (refine RdF.cellAt2 hR ?_ r0 ?_ <;> first | rfl | omega))
  refine WO.p rfl rfl ?_
  refine' WO.indexAddrZ (n := _) rfl rfl rfl ?hs ?h00 ?h1 rfl ?_
  case hs => (first | exact hR.sl)
  case h00 => omega
  case h1 => (first | omega | (simp; omega))
  refine WO.field rfl rfl rfl (WO.field rfl rfl rfl ?_)
  refine' WO.load (v := _) rfl rfl ?hc rfl ?_
  case hc => (first | (refine hP.cellAt ?_; rfl) | (refine RdF.cellAt2 hR ?_ r0 ?_ <;> first | rfl | omega))
  refine WO.p rfl rfl ?_
  refine WO.nil ?_
  refine W.ret ?_
  exact fin.ret (Res.one rfl (RV.tmp rfl)) rfl
theorem fn_lo {w : World} {q p : Addr} {m : Int} {o : Value} {rest : List Value} {rs : List (Int × Int × Int)} (hc : Cap w q (.pointer (some p))) (hP : RdC w.heap.size w p (.int .i64 m :: o :: rest)) (hR : RdF encR 3 w.heap.size w o rs) : FnV w.heap.size w 71 [.pointer (some q)] (fun x => 0 ≤ x ∧ x < rs.length) (fun x => (rs.getD x.toNat r0).2.1) :=
  fun w' hB hk x hx => c_lo w' q p m o rest rs x (hc.agree hB hk) ((hP.agree hk).up hB) ((hR.agree hk).up hB) hx
theorem fn_hi {w : World} {q p : Addr} {m : Int} {o : Value} {rest : List Value} {rs : List (Int × Int × Int)} (hc : Cap w q (.pointer (some p))) (hP : RdC w.heap.size w p (.int .i64 m :: o :: rest)) (hR : RdF encR 3 w.heap.size w o rs) : FnV w.heap.size w 72 [.pointer (some q)] (fun x => 0 ≤ x ∧ x < rs.length) (fun x => (rs.getD x.toNat r0).2.2) :=
  fun w' hB hk x hx => c_hi w' q p m o rest rs x (hc.agree hB hk) ((hP.agree hk).up hB) ((hR.agree hk).up hB) hx
/-- a power -/
def pw (t : Int) : Nat → Int
  | 0 => 1
  | d + 1 => pw t d * t
theorem pw_in {t : Int} (h : 0 ≤ t ∧ t ≤ 60) : ∀ d, 0 ≤ pw t d ∧ pw t d ≤ 60 ^ d
  | 0 => by simp [pw]
  | d + 1 => by
    have ih := pw_in h d
    have e : pw t (d + 1) = pw t d * t := rfl
    rw [e, Int.pow_succ]
    exact ⟨Int.mul_nonneg ih.1 h.1, Int.mul_le_mul ih.2 h.2 h.1 (by omega)⟩
theorem pw_B {t : Int} (h : 0 ≤ t ∧ t ≤ 60) {d : Nat} (hd : d ≤ 5) : 0 ≤ pw t d ∧ pw t d ≤ 777600000 := by
  have h1 := pw_in h d
  have h2 := (by decide : ∀ d : Nat, d ≤ 5 → (60 : Int) ^ d ≤ 777600000) d hd
  omega
theorem c_power (w : World) (p : Addr) (d : Nat) (t : Int) (hc : Cap w p (.int .i64 (d : Int))) (hd : d ≤ 5) (ht : 0 ≤ t ∧ t ≤ 60) : Ret Try.prog 48 [.int .i64 t, .pointer (some p)].toArray w (.int .i64 (pw t d)) := by
  refine Ret.of mixed tyTab Try.func48 rfl rfl ?_
  replace hc : Cap (fnCx mixed tyTab Try.f48.ntmps w).w0 p (.int .i64 (d : Int)) := hc
  refine W.sreg ?_
  refine WO.p rfl rfl ?_
  refine WO.nil ?_
  refine W.sreg ?_
  refine WO.p rfl rfl ?_
  refine WO.nil ?_
  refine W.seq ?_
  refine W.sreg ?_
  refine' WO.load (v := _) rfl rfl ?hc rfl ?_
  case hc => (first | (refine Cap.cell (v := .int .i64 (d : Int)) rfl hc))
  refine WO.p rfl rfl ?_
  refine WO.nil ?_
  refine W.block ?_
  refine W.loop2 (fun (k : Nat) (c : Int) => k ≤ d ∧ c = pw t k)
    (fun (k : Nat) (c : Int) => [(6, .int .i64 (k : Int)), (5, .int .i64 (d : Int)), (4, .int .i64 c), (0, .int .i64 t)])
    (fun (k : Nat) (c : Int) => [])
    (fun (k : Nat) (c : Int) => d - k) 0 1
    (by exact ⟨by omega, rfl⟩) ⟨rfl, rfl, rfl, rfl, trivial⟩ (by repeat (first | exact Sub.nil | refine Sub.cons (by repeat (first | exact Pick.head | apply Pick.tail)) ?_)) ?_
  rintro k c ⟨hk, hcc⟩
  subst hcc
  refine W.sreg ?_
  refine WO.p rfl rfl ?_
  refine WO.nil ?_
  refine W.seq ?_
  refine W.cond_bl rfl (fun c1 => ?_) (fun c1 => ?_)
  · first
    | (exfalso; omega)
    | (refine W.skip ?_
       refine W.seq ?_
       refine W.block ?_
       have hp1 := pw_B ht (d := k + 1) (by omega)
       have hpe : pw t (k + 1) = pw t k * t := rfl
       refine W.region ?_
       refine WO.p rfl rfl (WO.p rfl rfl (WO.ar rfl rfl rfl (by (first | (unfold in64; omega) | (unfold in64; omega))) rfl (WO.p rfl rfl ?_)))
       refine WO.nil ?_
       refine W.region ?_
       refine WO.ar rfl rfl rfl (by (first | (unfold in64; omega) | (unfold in64; omega))) rfl (WO.p rfl rfl ?_)
       refine WO.nil ?_
       refine' ⟨k + 1, _, ?hp, ?hmu, ⟨rfl, rfl, rfl, rfl, trivial⟩, ?hS⟩
       case hS => repeat (first | exact Sub.nil | refine Sub.cons (by repeat (first | exact Pick.head | apply Pick.tail)) ?_)
       case hp => exact ⟨by omega, rfl⟩
       case hmu => omega)
  · first
    | (exfalso; omega)
    | (refine W.exit (blk_same ?_)
       refine W.sreg ?_
       refine WO.p rfl rfl (WO.p rfl rfl ?_)
       refine WO.nil ?_
       refine W.ret ?_
       obtain rfl : k = d := by omega
       exact fin.ret (Res.one rfl (RV.tmp rfl)) (by first | rfl | (subst hcc; rfl)))
theorem fn_power {w : World} {p : Addr} {d : Nat} (hc : Cap w p (.int .i64 (d : Int))) (hd : d ≤ 5) : FnV w.heap.size w 48 [.pointer (some p)] (fun t => 0 ≤ t ∧ t ≤ 60) (fun t => pw t d) :=
  fun w' hB hk t ht => c_power w' p d t (hc.agree hB hk) hd ht
end Go.Proofs.Ytkiaepcklbidgaa
namespace Go.Proofs.Ytkiaepcklbidgaa
open Go Go.TH
attribute [local irreducible] W WO pt
set_option maxRecDepth 10000
set_option maxHeartbeats 1000000
theorem c_Backward (w : World) (v : Value) (hv : v.oneCell' = true) : Ct Try.prog 58 [v].toArray w fun r w' => ∃ Hq, (∃ b1, r = .func (.func 73) #[] #[.pointer (some ⟨b1, 0, none⟩)] ∧
    Hq = [pt b1 (.cells #[v] 26 (0, 0))]) ∧ Inv w [] Hq w' := by
  refine Ct.of mixed tyTab Try.func58 rfl rfl ?_
  refine W.sreg ?_
  refine WO.box1 rfl (by first | rfl | assumption) rfl (fun b1 hb1 => ?_)
  refine WO.p rfl rfl ?_
  refine WO.nil ?_
  refine W.sreg ?_
  refine WO.p rfl rfl (WO.p rfl rfl ?_)
  refine WO.nil ?_
  refine W.ret ?_
  exact fin.ret (Res.one rfl (RV.tmp rfl)) ⟨b1, rfl, rfl⟩
/-- numbers with their indexes, the last one first -/
def backV (xs : List Int) : List (Value × Value) := (List.range xs.length).map fun (q : Nat) => (.int .i64 ((xs.length : Int) - 1 - q), .int .i64 (xs.getD ((xs.length : Int) - 1 - q).toNat 0))
theorem backV_get {xs : List Int} {q : Nat} {z : Int} (hz : z = (xs.length : Int) - 1 - q) (hq : q < xs.length) : (backV xs)[q]? = some (.int .i64 z, .int .i64 (xs.getD z.toNat 0)) := by
  unfold backV
  rw [List.getElem?_map, List.getElem?_range hq, hz]; rfl
theorem backV_len (xs : List Int) : (backV xs).length = xs.length := by unfold backV; simp
theorem c_Backward1 (B : Nat) (wr : World) (v : Value) (xs : List Int) (hR : RdF encI 1 B wr v xs) (hl : xs.length ≤ 1000000)
    (l : Nat) (Hc : Nat → List HP) (hy : ∀ k x, (backV xs)[k]? = some x → YieldOK Try.prog B wr l #[x.1, x.2] (Hc k) (Hc (k + 1))) (b1 : Nat) (w : World) (M' : List Nat) (hB : B ≤ w.heap.size) (hk : ∀ k, k < B → w.heap[k]? = wr.heap[k]?) (hM : ∀ b ∈ M', B ≤ b)
    (hi : Inv w M' ([pt b1 (.cells #[v] 26 (0, 0))] ++ Hc 0) w) :
    Ct Try.prog 73 ([.func (.yield l) #[] #[], .pointer (some ⟨b1, 0, none⟩)] : List Value).toArray w fun _ w' => Inv w M' ([pt b1 (.cells #[v] 26 (0, 0))] ++ Hc (backV xs).length) w' := by
  refine Iter.of mixed tyTab hB hM Try.func73 rfl rfl hi ?_
  replace hR : RdF encI 1 (itCx mixed tyTab Try.f73.ntmps w M' B hB hM).B (itCx mixed tyTab Try.f73.ntmps w M' B hB hM).w0 v xs := hR.agree hk
  refine W.sreg ?_
  refine WO.load rfl rfl (Cell.own Pick.head rfl) rfl ?_
  refine' WO.len (n := _) rfl rfl ?hs rfl ?_
  case hs => (first | exact hR.sl)
  refine WO.ar rfl rfl rfl (by (first | (unfold in64; omega) | (unfold in64; omega))) rfl (WO.p rfl rfl ?_)
  refine WO.nil ?_
  refine W.block ?_
  refine W.loop2 (fun (q : Nat) (z : Int) => q ≤ xs.length ∧ z = (xs.length : Int) - 1 - q)
    (fun (q : Nat) (z : Int) => [(3, .int .i64 z), (0, .func (.yield l) #[] #[]), (1, .pointer (some ⟨b1, 0, none⟩))])
    (fun (q : Nat) (z : Int) => [pt b1 (.cells #[v] 26 (0, 0)), sat (Hc q)])
    (fun (q : Nat) (z : Int) => xs.length - q) 0 ((xs.length : Int) - 1)
    (by omega) ⟨rfl, rfl, rfl, trivial⟩ (by repeat (first | exact Sub.nil | refine Sub.cons (by repeat (first | exact Pick.head | apply Pick.tail)) ?_)) ?_
  rintro q z ⟨hq, hz⟩
  refine W.seq ?_
  refine W.sreg ?_
  refine WO.p rfl rfl (WO.p rfl rfl ?_)
  refine WO.nil ?_
  refine W.cond_bl rfl (fun c1 => ?_) (fun c1 => ?_)
  · first
    | (exfalso; omega)
    | (refine W.skip ?_
       refine W.seq ?_
       refine W.block ?_
       refine W.sreg ?_
       refine WO.p rfl rfl (WO.p rfl rfl (WO.load rfl rfl (Cell.own Pick.head rfl) rfl (WO.p rfl rfl ?_)))
       refine' WO.indexAddrZ (n := _) rfl rfl rfl ?hs ?h00 ?h1 rfl ?_
       case hs => (first | exact hR.sl)
       case h00 => omega
       case h1 => (first | omega | (simp; omega))
       refine' WO.load (v := _) rfl rfl ?hc rfl ?_
       case hc => (first | (refine hR.cell0 ?_ 0 ?_ <;> first | rfl | omega))
       refine WO.yield rfl rfl (by repeat (first | exact Pick.head | apply Pick.tail)) ((hy _ _ (backV_get (q := q) hz (by omega))).one.agree hk) rfl ?_
       refine WO.p rfl rfl ?_
       refine WO.nil ?_
       refine W.cond_f rfl ?_
       refine W.skip ?_
       refine W.region ?_
       refine WO.p rfl rfl (WO.ar rfl rfl rfl (by (first | (unfold in64; omega) | (unfold in64; omega))) rfl (WO.p rfl rfl ?_))
       refine WO.nil ?_
       refine' ⟨q + 1, _, ?hp, ?hmu, ⟨rfl, rfl, rfl, trivial⟩, ?hS⟩
       case hS => repeat (first | exact Sub.nil | refine Sub.cons (by repeat (first | exact Pick.head | apply Pick.tail)) ?_)
       case hp => omega
       case hmu => omega)
  · first
    | (exfalso; omega)
    | (refine W.exit (blk_same ?_)
       obtain rfl : q = xs.length := by omega
       refine fin.normal (Res.none rfl) ?_
       rw [backV_len]
       exact .cons .head (.cons .head .nil))
/-- a tide's number at a minute, from the greatest power down -/
def hB (xs : List Int) (t : Int) : Nat → Int
  | 0 => 0
  | q + 1 => hB xs t q * t + xs.getD ((xs.length : Int) - 1 - q).toNat 0
def tideV (xs : List Int) (t : Int) : Int := hB xs t xs.length
/-- the numbers of a tide are small -/
def Tidal (xs : List Int) : Prop := xs.length ≤ 5 ∧ ∀ x ∈ xs, -20 ≤ x ∧ x ≤ 20
def tB : Nat → Int
  | 0 => 0
  | q + 1 => tB q * 60 + 20
theorem mul_ab {a t A : Int} (h : ab a ≤ A) (ht : 0 ≤ t ∧ t ≤ 60) : -(A * 60) ≤ a * t ∧ a * t ≤ A * 60 := by
  have := abs_mul (w := t) (g := a) (W := 60) (G := A) ⟨ht.1, ht.2⟩ h
  rw [Int.mul_comm t a, Int.mul_comm 60 A] at this
  exact this
theorem hB_in {xs : List Int} (h : Tidal xs) {t : Int} (ht : 0 ≤ t ∧ t ≤ 60) : ∀ {q : Nat}, q ≤ xs.length → ab (hB xs t q) ≤ tB q
  | 0, _ => by simp [hB, tB, ab]
  | q + 1, hq => by
    have ih := hB_in h ht (q := q) (by omega)
    have h1 := mul_ab ih ht
    have h2 := h.2 _ (getD_mem (l := xs) (i := ((xs.length : Int) - 1 - q).toNat) (by omega) 0)
    have e : hB xs t (q + 1) = hB xs t q * t + xs.getD ((xs.length : Int) - 1 - q).toNat 0 := rfl
    have e2 : tB (q + 1) = tB q * 60 + 20 := rfl
    rw [e, e2]
    unfold ab
    omega
theorem tB_B : ∀ q, q < 6 → 0 ≤ tB q ∧ tB q ≤ 263593220 := by decide
theorem hB_B {xs : List Int} (h : Tidal xs) {t : Int} (ht : 0 ≤ t ∧ t ≤ 60) {q : Nat} (hq : q ≤ xs.length) : -263593220 ≤ hB xs t q ∧ hB xs t q ≤ 263593220 := by
  have h1 := hB_in h ht hq
  have h2 := tB_B q (by have := h.1; omega)
  unfold ab at h1
  omega
theorem backV_some {xs : List Int} {q : Nat} {x : Value × Value} (h : (backV xs)[q]? = some x) : q < xs.length ∧ x = (.int .i64 ((xs.length : Int) - 1 - q), .int .i64 (xs.getD ((xs.length : Int) - 1 - q).toNat 0)) := by
  have hq : q < xs.length := by have := (List.getElem?_eq_some_iff.1 h).1; rwa [backV_len] at this
  rw [backV_get rfl hq] at h
  exact ⟨hq, (Option.some.inj h).symm⟩
theorem c_tide (w : World) (p : Addr) (v : Value) (xs : List Int) (t : Int) (hc : Cap w p v) (hR : RdF encI 1 w.heap.size w v xs) (hx : Tidal xs) (ht : 0 ≤ t ∧ t ≤ 60) : Ret Try.prog 57 [.int .i64 t, .pointer (some p)].toArray w (.int .i64 (tideV xs t)) := by
  refine Ret.of mixed tyTab Try.func57 rfl rfl ?_
  replace hR : RdF encI 1 (fnCx mixed tyTab Try.f57.ntmps w).B (fnCx mixed tyTab Try.f57.ntmps w).w0 v xs := hR
  replace hc : Cap (fnCx mixed tyTab Try.f57.ntmps w).w0 p v := hc
  have hl := hx.1
  refine W.sreg ?_
  refine WO.box1 rfl (by first | rfl | assumption) rfl (fun b1 hb1 => ?_)
  refine WO.p rfl rfl ?_
  refine WO.nil ?_
  refine W.sreg ?_
  refine WO.alloc rfl rfl rfl (fun b2 hb2 => ?_)
  refine WO.store1 rfl rfl rfl (by first | rfl | assumption) Pick.head rfl ?_
  refine WO.nil ?_
  refine W.seq ?_
  refine W.sreg ?_
  refine' WO.load (v := _) rfl rfl ?hc rfl ?_
  case hc => (first | (refine Cap.cell (v := v) rfl hc))
  refine WO.call (Post := fun r Hq => ∃ b1, r = .func (.func 73) #[] #[.pointer (some ⟨b1, 0, none⟩)] ∧ Hq = [pt b1 (.cells #[v] 26 (0, 0))]) rfl Try.call58 (fun L w hi => c_Backward w v hR.sl.oc) rfl ?_
  rintro _ _ ⟨e1, rfl, rfl⟩
  refine WO.nil ?_
  refine W.block ?_
  refine W.rangeFunc2 [pt e1 (.cells #[v] 26 (0, 0))] (fun q => [pt b1 (.cells #[.int .i64 t] 2 (0, 0)), pt b2 (.cells #[.int .i64 (hB xs t q)] 2 (0, 0))]) (backV xs) rfl rfl rfl rfl Try.call73 (by repeat (first | exact Sub.nil | refine Sub.cons (by repeat (first | exact Pick.head | apply Pick.tail)) ?_)) ?_ ?_ ?_
  · intro l Hc hy w1 M' hB hk hM hi
    exact c_Backward1 _ _ v xs hR (by omega) l Hc hy e1 w1 M' hB hk hM hi
  · intro l w1 M hB' hM hk q x hxq
    obtain ⟨hq, rfl⟩ := backV_some hxq
    have h1 := hB_B hx ht (q := q) (by omega)
    have h2 := hB_B hx ht (q := q + 1) (by omega)
    have h3 := mul_ab (a := Ytkiaepcklbidgaa.hB xs t q) (A := 263593220) (by unfold ab; omega) ht
    have e : Ytkiaepcklbidgaa.hB xs t (q + 1) = Ytkiaepcklbidgaa.hB xs t q * t + xs.getD ((xs.length : Int) - 1 - q).toNat 0 := rfl
    rw [e] at h2
    refine W.region ?_
    refine WO.p rfl rfl ?_
    refine WO.nil ?_
    refine W.block ?_
    refine W.region ?_
    refine WO.load rfl rfl (Cell.own (Pick.tail (Pick.head)) rfl) rfl (WO.load rfl rfl (Cell.own Pick.head rfl) rfl (WO.ar rfl rfl rfl (by (first | (unfold in64; omega) | (unfold in64; omega))) rfl (WO.p rfl rfl (WO.ar rfl rfl rfl (by (first | (unfold in64; omega) | (unfold in64; omega))) rfl (WO.store1 rfl rfl rfl (by first | rfl | assumption) (Pick.tail (Pick.head)) rfl ?_)))))
    refine WO.nil ?_
    (repeat (first | exact Sub.nil | refine Sub.cons (by repeat (first | exact Pick.head | apply Pick.tail)) ?_))
  rw [backV_len]
  refine W.sreg ?_
  refine WO.load rfl rfl (Cell.own (Pick.tail (Pick.tail (Pick.head))) rfl) rfl (WO.p rfl rfl ?_)
  refine WO.nil ?_
  refine W.ret ?_
  exact fin.ret (Res.one rfl (RV.tmp rfl)) rfl
theorem fn_tide {w : World} {p : Addr} {v : Value} {xs : List Int} (hc : Cap w p v) (hR : RdF encI 1 w.heap.size w v xs) (hx : Tidal xs) : FnV w.heap.size w 57 [.pointer (some p)] (fun t => 0 ≤ t ∧ t ≤ 60) (fun t => tideV xs t) :=
  fun w' hB hk t ht => c_tide w' p v xs t (hc.agree hB hk) ((hR.agree hk).up hB) hx ht
end Go.Proofs.Ytkiaepcklbidgaa
namespace Go.Proofs.Ytkiaepcklbidgaa
open Go Go.TH
attribute [local irreducible] W WO pt
set_option maxRecDepth 10000
set_option maxHeartbeats 1000000
theorem FnV.later {C : Cx Try.prog} {H : List HP} {L : List HP} {w : World} {f : Nat} {cap : List Value} {S : Int → Prop} {T : Int → Int} (hB : C.B = C.w0.heap.size) (h : FnV C.w0.heap.size C.w0 f cap S T) (hi : Inv C.w0 C.M (L ++ H) w) : FnV w.heap.size w f cap S T := fun w' hB' hk x hx =>
  h w' (Nat.le_trans hi.size hB') (fun k hlt => by rw [hk k (Nat.lt_of_lt_of_le hlt hi.size)]; exact hi.keepB k (by rw [hB]; exact hlt)) x hx
/-- what a tide adds to a run, up or down the mile -/
def offT (rs : List (Int × Int × Int)) (T : Int → Int) (x : Int) : Int := if x.tmod 2 = 1 then -(T (tm rs x.toNat)) else T (tm rs x.toNat)
theorem c_off1 (w : World) (q1 q2 p : Addr) (m : Int) (o : Value) (rest : List Value) (rs : List (Int × Int × Int)) (f : Nat) (cap : List Value) (T : Int → Int) (x : Int) (hc1 : Cap w q1 (.func (.func f) (([] : List Value).toArray) cap.toArray)) (hc2 : Cap w q2 (.pointer (some p))) (hP : RdC w.heap.size w p (.int .i64 m :: o :: rest)) (hR : RdF encR 3 w.heap.size w o rs) (hv : VT m rs)
    (hF : FnV w.heap.size w f cap (fun t => 0 ≤ t ∧ t ≤ 60) T) (hcall : ∀ (args : Array Value) (w : World), (callFunc f args).run Try.prog w = .ok (.enter f args) w) (hT : ∀ i : Nat, i < rs.length → ab (T (tm rs i)) ≤ 1000000000) (hx : 0 ≤ x ∧ x < rs.length) :
    Ret Try.prog 67 [.int .i64 x, .pointer (some q1), .pointer (some q2)].toArray w (.int .i64 (offT rs T x)) := by
  refine Ret.of mixed tyTab Try.func67 rfl rfl ?_
  replace hR : RdF encR 3 (fnCx mixed tyTab Try.f67.ntmps w).B (fnCx mixed tyTab Try.f67.ntmps w).w0 o rs := hR
  replace hc1 : Cap (fnCx mixed tyTab Try.f67.ntmps w).w0 q1 (.func (.func f) (([] : List Value).toArray) cap.toArray) := hc1
  replace hc2 : Cap (fnCx mixed tyTab Try.f67.ntmps w).w0 q2 (.pointer (some p)) := hc2
  replace hP : RdC (fnCx mixed tyTab Try.f67.ntmps w).B (fnCx mixed tyTab Try.f67.ntmps w).w0 p (.int .i64 m :: o :: rest) := hP
  replace hF : FnV (fnCx mixed tyTab Try.f67.ntmps w).w0.heap.size (fnCx mixed tyTab Try.f67.ntmps w).w0 f cap (fun t => 0 ≤ t ∧ t ≤ 60) T := hF
  have hrun := hv.run (i := x.toNat) (by omega)
  have hTx := hT x.toNat (by omega)
  unfold ab at hTx
  refine W.sreg ?_
  refine WO.p rfl rfl ?_
  refine WO.nil ?_
  refine W.seq ?_
  refine W.drawD 10 [.b 0 [], .b 1 [], .r 2 [], .r 3 [], .r 4 [], .b 5 [], .r 6 [], .r 7 [], .r 8 [], .b 9 []] [] (A0 := []) (Sub.refl _) (by kernel_rfl) ?_ ?_
  · exact (ALok.b (ALok.b (ALok.r (ALok.r (ALok.r (ALok.b (ALok.r (ALok.r (ALok.r (ALok.b ALok.nil))))))))))
  refine' DT.b rfl rfl rfl ?hq ?_
  case hq =>
    refine' WO.load (v := _) rfl rfl ?hc rfl ?_
    case hc => (first | (refine Cap.cell (v := .func (.func f) (([] : List Value).toArray) cap.toArray) rfl hc1))
    exact WO.nil ⟨rfl, rfl⟩
  refine' DT.b rfl rfl rfl ?hq ?_
  case hq =>
    refine' WO.load (v := _) rfl rfl ?hc rfl ?_
    case hc => (first | (refine Cap.cell (v := .pointer (some p)) rfl hc2))
    exact WO.nil ⟨rfl, rfl⟩
  refine' DT.r rfl rfl rfl ?hq ?_
  case hq =>
    refine WO.p rfl rfl ?_
    exact WO.nil ⟨rfl, rfl⟩
  refine' DT.r rfl rfl rfl ?hq ?_
  case hq =>
    refine WO.field0 rfl rfl rfl ?_
    exact WO.nil ⟨rfl, rfl⟩
  refine' DT.r rfl rfl rfl ?hq ?_
  case hq =>
    refine WO.field rfl rfl rfl ?_
    exact WO.nil ⟨rfl, rfl⟩
  refine' DT.b rfl rfl rfl ?hq ?_
  case hq =>
    refine' WO.load (v := _) rfl rfl ?hc rfl ?_
    case hc => (first | (refine hP.cellAt ?_; rfl) | (refine hR.cell0 ?_ r0 ?_ <;> first | rfl | omega))
    exact WO.nil ⟨rfl, rfl⟩
  refine' DT.r rfl rfl rfl ?hq ?_
  case hq =>
    refine WO.p rfl rfl ?_
    exact WO.nil ⟨rfl, rfl⟩
  refine' DT.r rfl rfl rfl ?hq ?_
  case hq =>
    refine' WO.indexAddrZ (n := _) rfl rfl rfl ?hs ?h00 ?h1 rfl ?_
    case hs => (first | exact hR.sl)
    case h00 => omega
    case h1 => (first | omega | (simp; omega))
    exact WO.nil ⟨rfl, rfl⟩
  refine' DT.r rfl rfl rfl ?hq ?_
  case hq =>
    refine WO.field0 rfl rfl rfl ?_
    exact WO.nil ⟨rfl, rfl⟩
  refine' DT.b rfl rfl rfl ?hq ?_
  case hq =>
    refine' WO.load (v := _) rfl rfl ?hc rfl ?_
    case hc => (first | (refine hP.cellAt ?_; rfl) | (refine hR.cell0 ?_ r0 ?_ <;> first | rfl | omega))
    exact WO.nil ⟨rfl, rfl⟩
  refine DT.nil [] rfl ?_
  refine WO.callCR (first := []) (captured := cap) (r := .int .i64 (T (tm rs x.toNat))) rfl rfl hcall (fun L w hi => hF.at_ (x := tm rs x.toNat) rfl hi ⟨by omega, by omega⟩) rfl ?_
  refine WO.p rfl rfl ?_
  refine WO.nil ?_
  refine W.seq ?_
  refine W.sreg ?_
  refine WO.p rfl rfl (WO.rem rfl rfl (by first | omega | assumption) rfl (WO.p rfl rfl ?_))
  refine WO.nil ?_
  refine W.cond_bl rfl (fun c1 => ?_) (fun c1 => ?_)
  · first
    | (exfalso; omega)
    | (refine W.sreg ?_
       refine WO.p rfl rfl (WO.neg rfl (by (first | (unfold in64; omega) | (unfold in64; omega))) rfl (WO.p rfl rfl ?_))
       refine WO.nil ?_
       refine W.ret ?_
       refine fin.ret (Res.one rfl (RV.tmp rfl)) (congrArg (Value.int .i64) ?_)
       unfold offT
       first | rw [if_pos (by assumption)] | rw [if_neg (by assumption)])
  · first
    | (exfalso; omega)
    | (refine W.skip ?_
       refine W.sreg ?_
       refine WO.p rfl rfl (WO.p rfl rfl ?_)
       refine WO.nil ?_
       refine W.ret ?_
       refine fin.ret (Res.one rfl (RV.tmp rfl)) (congrArg (Value.int .i64) ?_)
       unfold offT
       first | rw [if_pos (by assumption)] | rw [if_neg (by assumption)])
theorem fn_off1 {w : World} {q1 q2 p : Addr} {m : Int} {o : Value} {rest : List Value} {rs : List (Int × Int × Int)} {f : Nat} {cap : List Value} {T : Int → Int} (hc1 : Cap w q1 (.func (.func f) (([] : List Value).toArray) cap.toArray)) (hc2 : Cap w q2 (.pointer (some p))) (hP : RdC w.heap.size w p (.int .i64 m :: o :: rest)) (hR : RdF encR 3 w.heap.size w o rs) (hv : VT m rs)
    (hF : FnV w.heap.size w f cap (fun t => 0 ≤ t ∧ t ≤ 60) T) (hcall : ∀ (args : Array Value) (w : World), (callFunc f args).run Try.prog w = .ok (.enter f args) w) (hT : ∀ i : Nat, i < rs.length → ab (T (tm rs i)) ≤ 1000000000) :
    FnV w.heap.size w 67 [.pointer (some q1), .pointer (some q2)] (fun x => 0 ≤ x ∧ x < rs.length) (offT rs T) := fun w' hB hk x hx =>
  c_off1 w' q1 q2 p m o rest rs f cap T x (hc1.agree hB hk) (hc2.agree hB hk) ((hP.agree hk).up hB) ((hR.agree hk).up hB) hv (fun w'' hB' hk' => hF w'' (Nat.le_trans hB hB') (fun k hlt => by rw [hk' k (Nat.lt_of_lt_of_le hlt hB), hk k hlt])) hcall hT hx
theorem offT_ab {rs : List (Int × Int × Int)} {T : Int → Int} (hT : ∀ i : Nat, i < rs.length → ab (T (tm rs i)) ≤ 1000000000) : ∀ i : Nat, i < rs.length → ab (offT rs T i) ≤ 1000000000 := by
  intro i hi
  have := hT i hi
  unfold offT
  rw [Int.toNat_natCast]
  split
  · unfold ab at *; omega
  · exact this
theorem c_off (w : World) (p : Addr) (m : Int) (o : Value) (rs : List (Int × Int × Int)) (f : Nat) (cap : List Value) (T : Int → Int) (hP : RdC w.heap.size w p (sc m o (wTo (wts m rs) rs.length) (wsum m rs rs.length))) (hR : RdF encR 3 w.heap.size w o rs) (hv : VT m rs)
    (hF : FnV w.heap.size w f cap (fun t => 0 ≤ t ∧ t ≤ 60) T) (hcall : ∀ (args : Array Value) (w : World), (callFunc f args).run Try.prog w = .ok (.enter f args) w) (hT : ∀ i : Nat, i < rs.length → ab (T (tm rs i)) ≤ 1000000000) :
    Ret Try.prog 49 [.pointer (some p), .func (.func f) (([] : List Value).toArray) cap.toArray].toArray w (.agg (encP (red (msum m rs (offT rs T) rs.length) (wsum m rs rs.length))).toArray) := by
  refine Ret.of mixed tyTab Try.func49 rfl rfl ?_
  replace hR : RdF encR 3 (fnCx mixed tyTab Try.f49.ntmps w).B (fnCx mixed tyTab Try.f49.ntmps w).w0 o rs := hR
  replace hP : RdC (fnCx mixed tyTab Try.f49.ntmps w).B (fnCx mixed tyTab Try.f49.ntmps w).w0 p (sc m o (wTo (wts m rs) rs.length) (wsum m rs rs.length)) := hP
  replace hF : FnV (fnCx mixed tyTab Try.f49.ntmps w).w0.heap.size (fnCx mixed tyTab Try.f49.ntmps w).w0 f cap (fun t => 0 ≤ t ∧ t ≤ 60) T := hF
  refine W.sreg ?_
  refine WO.box1 rfl (by first | rfl | assumption) rfl (fun b1 hb1 => ?_)
  refine WO.box1 rfl (by first | rfl | assumption) rfl (fun b2 hb2 => ?_)
  refine WO.alloc rfl rfl rfl (fun b3 hb3 => ?_)
  refine WO.nil ?_
  refine W.sreg ?_
  refine WO.load rfl rfl (Cell.own (Pick.tail (Pick.tail (Pick.head))) rfl) rfl (WO.p rfl rfl ?_)
  refine WO.callR rfl Try.call53 (fun L w hi => c_mean w p m o rs _ [.pointer (some ⟨b2, 0, none⟩), .pointer (some ⟨b1, 0, none⟩)] (offT rs T) (hP.later hi) (hR.later hi) hv (fn_off1 (Cap.of (by repeat (first | exact Pick.head | apply Pick.tail)) rfl hi) (Cap.of (by repeat (first | exact Pick.head | apply Pick.tail)) rfl hi) (hP.later hi) (hR.later hi) hv (hF.later rfl hi) hcall hT) Try.call67 (offT_ab hT)) rfl ?_
  refine WO.storeA rfl rfl rfl rfl Pick.head rfl rfl ?_
  refine WO.nil ?_
  refine W.ret ?_
  exact fin.ret (Res.one rfl (RV.cell rfl rfl rfl (Cells.own Pick.head))) rfl
def loT (rs : List (Int × Int × Int)) (x : Int) : Int := (rs.getD x.toNat r0).2.1
def hiT (rs : List (Int × Int × Int)) (x : Int) : Int := (rs.getD x.toNat r0).2.2
theorem loT_ab {m : Int} {rs : List (Int × Int × Int)} (hv : VT m rs) : ∀ i : Nat, i < rs.length → ab (loT rs i) ≤ 1000000000 := fun i hi => by
  have := hv.run hi
  unfold loT ab
  rw [Int.toNat_natCast]; omega
theorem hiT_ab {m : Int} {rs : List (Int × Int × Int)} (hv : VT m rs) : ∀ i : Nat, i < rs.length → ab (hiT rs i) ≤ 1000000000 := fun i hi => by
  have := hv.run hi
  unfold hiT ab
  rw [Int.toNat_natCast]; omega
/-- the mean of what a function tells of each run -/
def meanQ (m : Int) (rs : List (Int × Int × Int)) (g : Int → Int) : Int × Int := red (msum m rs g rs.length) (wsum m rs rs.length)
theorem c_span (w : World) (p : Addr) (m : Int) (o : Value) (rs : List (Int × Int × Int)) (hP : RdC w.heap.size w p (sc m o (wTo (wts m rs) rs.length) (wsum m rs rs.length))) (hR : RdF encR 3 w.heap.size w o rs) (hv : VT m rs) :
    Ret Try.prog 56 [.pointer (some p)].toArray w (.agg (encP (meanQ m rs (loT rs)) ++ encP (meanQ m rs (hiT rs))).toArray) := by
  refine Ret.of mixed tyTab Try.func56 rfl rfl ?_
  replace hR : RdF encR 3 (fnCx mixed tyTab Try.f56.ntmps w).B (fnCx mixed tyTab Try.f56.ntmps w).w0 o rs := hR
  replace hP : RdC (fnCx mixed tyTab Try.f56.ntmps w).B (fnCx mixed tyTab Try.f56.ntmps w).w0 p (sc m o (wTo (wts m rs) rs.length) (wsum m rs rs.length)) := hP
  refine W.sreg ?_
  refine WO.box1 rfl (by first | rfl | assumption) rfl (fun b1 hb1 => ?_)
  refine WO.alloc rfl rfl rfl (fun b2 hb2 => ?_)
  refine WO.nil ?_
  refine W.sreg ?_
  refine WO.load rfl rfl (Cell.own (Pick.tail (Pick.head)) rfl) rfl (WO.p rfl rfl (WO.p rfl rfl ?_))
  refine WO.nil ?_
  refine W.sreg ?_
  refine WO.p rfl rfl (WO.p rfl rfl ?_)
  refine WO.callCR (first := [.pointer (some p)]) (captured := []) rfl rfl Try.call53 (fun L w hi => c_mean w p m o rs _ [.pointer (some ⟨b1, 0, none⟩)] (loT rs) (hP.later hi) (hR.later hi) hv (fn_lo (Cap.of (by repeat (first | exact Pick.head | apply Pick.tail)) rfl hi) (hP.later hi) (hR.later hi)) Try.call71 (loT_ab hv)) rfl ?_
  refine WO.p rfl rfl (WO.p rfl rfl ?_)
  refine WO.callCR (first := [.pointer (some p)]) (captured := []) rfl rfl Try.call53 (fun L w hi => c_mean w p m o rs _ [.pointer (some ⟨b1, 0, none⟩)] (hiT rs) (hP.later hi) (hR.later hi) hv (fn_hi (Cap.of (by repeat (first | exact Pick.head | apply Pick.tail)) rfl hi) (hP.later hi) (hR.later hi)) Try.call72 (hiT_ab hv)) rfl ?_
  refine' WO.build (cs := _) rfl rfl rfl ?hf rfl ?_
  case hf => (conv => lhs; simp [-List.getD_eq_getElem?_getD, fillL, vcl, wrl, TTab.pl?.lget']) <;> rfl
  refine WO.storeA rfl rfl rfl rfl Pick.head rfl rfl ?_
  refine WO.nil ?_
  refine W.ret ?_
  exact fin.ret (Res.one rfl (RV.cell rfl rfl rfl (Cells.own Pick.head))) rfl
end Go.Proofs.Ytkiaepcklbidgaa
namespace Go.Proofs.Ytkiaepcklbidgaa
open Go Go.TH
set_option maxRecDepth 10000
theorem offT_0 (rs : List (Int × Int × Int)) (T : Int → Int) : offT rs T ((0 : Nat) : Int) = T (tm rs 0) := rfl
theorem offT_1 (rs : List (Int × Int × Int)) (T : Int → Int) : offT rs T ((1 : Nat) : Int) = -(T (tm rs 1)) := rfl
theorem offT_2 (rs : List (Int × Int × Int)) (T : Int → Int) : offT rs T ((2 : Nat) : Int) = T (tm rs 2) := rfl
theorem offT_3 (rs : List (Int × Int × Int)) (T : Int → Int) : offT rs T ((3 : Nat) : Int) = -(T (tm rs 3)) := rfl
theorem offT_4 (rs : List (Int × Int × Int)) (T : Int → Int) : offT rs T ((4 : Nat) : Int) = T (tm rs 4) := rfl
section
variable (m : Int) (rs : List (Int × Int × Int)) (T : Int → Int)
theorem off_2 : msum m rs (offT rs T) 2 = wts m rs 0 * T (tm rs 0) - wts m rs 1 * T (tm rs 1) := by
  show ((0 + wts m rs 0 * offT rs T ((0 : Nat) : Int)) + wts m rs 1 * offT rs T ((1 : Nat) : Int)) = _
  rw [offT_0, offT_1]
  simp only [Int.mul_neg]
  omega
theorem off_3 : msum m rs (offT rs T) 3 = wts m rs 0 * T (tm rs 0) - wts m rs 1 * T (tm rs 1) + wts m rs 2 * T (tm rs 2) := by
  show (((0 + wts m rs 0 * offT rs T ((0 : Nat) : Int)) + wts m rs 1 * offT rs T ((1 : Nat) : Int)) + wts m rs 2 * offT rs T ((2 : Nat) : Int)) = _
  rw [offT_0, offT_1, offT_2]
  simp only [Int.mul_neg]
  omega
theorem off_4 : msum m rs (offT rs T) 4 = wts m rs 0 * T (tm rs 0) - wts m rs 1 * T (tm rs 1) + wts m rs 2 * T (tm rs 2) - wts m rs 3 * T (tm rs 3) := by
  show ((((0 + wts m rs 0 * offT rs T ((0 : Nat) : Int)) + wts m rs 1 * offT rs T ((1 : Nat) : Int)) + wts m rs 2 * offT rs T ((2 : Nat) : Int)) + wts m rs 3 * offT rs T ((3 : Nat) : Int)) = _
  rw [offT_0, offT_1, offT_2, offT_3]
  simp only [Int.mul_neg]
  omega
theorem off_5 : msum m rs (offT rs T) 5 = wts m rs 0 * T (tm rs 0) - wts m rs 1 * T (tm rs 1) + wts m rs 2 * T (tm rs 2) - wts m rs 3 * T (tm rs 3) + wts m rs 4 * T (tm rs 4) := by
  show (((((0 + wts m rs 0 * offT rs T ((0 : Nat) : Int)) + wts m rs 1 * offT rs T ((1 : Nat) : Int)) + wts m rs 2 * offT rs T ((2 : Nat) : Int)) + wts m rs 3 * offT rs T ((3 : Nat) : Int)) + wts m rs 4 * offT rs T ((4 : Nat) : Int)) = _
  rw [offT_0, offT_1, offT_2, offT_3, offT_4]
  simp only [Int.mul_neg]
  omega
end
theorem all2 (w0 w1 a b : Int) : w0*((a-b)) = 0 + (1)*(w0*(1*a) - w1*(1*b)) - (b)*(w0*(1) - w1*(1)) := by grind
theorem all3 (w0 w1 w2 a b c : Int) : w0*((a-b)*(a-c)) = 0 + (1)*(w0*(1*a*a) - w1*(1*b*b) + w2*(1*c*c)) - (b+c)*(w0*(1*a) - w1*(1*b) + w2*(1*c)) + (b*c)*(w0*(1) - w1*(1) + w2*(1)) := by grind
theorem all4 (w0 w1 w2 w3 a b c d : Int) : w0*((a-b)*(a-c)*(a-d)) = 0 + (1)*(w0*(1*a*a*a) - w1*(1*b*b*b) + w2*(1*c*c*c) - w3*(1*d*d*d)) - (b+c+d)*(w0*(1*a*a) - w1*(1*b*b) + w2*(1*c*c) - w3*(1*d*d)) + (b*c+b*d+c*d)*(w0*(1*a) - w1*(1*b) + w2*(1*c) - w3*(1*d)) - (b*c*d)*(w0*(1) - w1*(1) + w2*(1) - w3*(1)) := by grind
theorem all5 (w0 w1 w2 w3 w4 a b c d e : Int) : w0*((a-b)*(a-c)*(a-d)*(a-e)) = 0 + (1)*(w0*(1*a*a*a*a) - w1*(1*b*b*b*b) + w2*(1*c*c*c*c) - w3*(1*d*d*d*d) + w4*(1*e*e*e*e)) - (b+c+d+e)*(w0*(1*a*a*a) - w1*(1*b*b*b) + w2*(1*c*c*c) - w3*(1*d*d*d) + w4*(1*e*e*e)) + (b*c+b*d+b*e+c*d+c*e+d*e)*(w0*(1*a*a) - w1*(1*b*b) + w2*(1*c*c) - w3*(1*d*d) + w4*(1*e*e)) - (b*c*d+b*c*e+b*d*e+c*d*e)*(w0*(1*a) - w1*(1*b) + w2*(1*c) - w3*(1*d) + w4*(1*e)) + (b*c*d*e)*(w0*(1) - w1*(1) + w2*(1) - w3*(1) + w4*(1)) := by grind
section
variable {m : Int} {rs : List (Int × Int × Int)}
theorem ne_mul {a b : Int} (ha : a ≠ 0) (hb : b ≠ 0) : a * b ≠ 0 := Int.mul_ne_zero ha hb
theorem off_some (hv : VT m rs) : ∃ d, d < rs.length ∧ msum m rs (offT rs (fun t => pw t d)) rs.length ≠ 0 := by
  have hn := hv.n
  have hl := fun k (h0 : 0 < k) (hk : k < rs.length) => (hv.lt (j := 0) h0 hk).1
  have hw := (wts_lt hv (i := 0) (by omega)).1
  refine Decidable.byContradiction fun hc => ?_
  have h0 : ∀ d, d < rs.length → msum m rs (offT rs (fun t => pw t d)) rs.length = 0 := fun d hd => Decidable.byContradiction fun h => hc ⟨d, hd, h⟩
  clear hc
  obtain h | h | h | h : rs.length = 2 ∨ rs.length = 3 ∨ rs.length = 4 ∨ rs.length = 5 := by omega
  · rw [h] at h0 hl
    have s0 := h0 0 (by omega)
    have s1 := h0 1 (by omega)
    rw [off_2] at s0
    rw [off_2] at s1
    simp only [pw] at s0 s1
    have l1 := hl 1 (by omega) (by omega)
    have e := all2 (wts m rs 0) (wts m rs 1) (tm rs 0) (tm rs 1)
    rw [s1, s0] at e
    simp only [Int.mul_zero, Int.add_zero, Int.sub_zero] at e
    exact ne_mul (show wts m rs 0 ≠ 0 by omega) (show tm rs 0 - tm rs 1 ≠ 0 by omega) e
  · rw [h] at h0 hl
    have s0 := h0 0 (by omega)
    have s1 := h0 1 (by omega)
    have s2 := h0 2 (by omega)
    rw [off_3] at s0
    rw [off_3] at s1
    rw [off_3] at s2
    simp only [pw] at s0 s1 s2
    have l1 := hl 1 (by omega) (by omega)
    have l2 := hl 2 (by omega) (by omega)
    have e := all3 (wts m rs 0) (wts m rs 1) (wts m rs 2) (tm rs 0) (tm rs 1) (tm rs 2)
    rw [s2, s1, s0] at e
    simp only [Int.mul_zero, Int.add_zero, Int.sub_zero] at e
    exact ne_mul (show wts m rs 0 ≠ 0 by omega) (ne_mul (show tm rs 0 - tm rs 1 ≠ 0 by omega) (show tm rs 0 - tm rs 2 ≠ 0 by omega)) e
  · rw [h] at h0 hl
    have s0 := h0 0 (by omega)
    have s1 := h0 1 (by omega)
    have s2 := h0 2 (by omega)
    have s3 := h0 3 (by omega)
    rw [off_4] at s0
    rw [off_4] at s1
    rw [off_4] at s2
    rw [off_4] at s3
    simp only [pw] at s0 s1 s2 s3
    have l1 := hl 1 (by omega) (by omega)
    have l2 := hl 2 (by omega) (by omega)
    have l3 := hl 3 (by omega) (by omega)
    have e := all4 (wts m rs 0) (wts m rs 1) (wts m rs 2) (wts m rs 3) (tm rs 0) (tm rs 1) (tm rs 2) (tm rs 3)
    rw [s3, s2, s1, s0] at e
    simp only [Int.mul_zero, Int.add_zero, Int.sub_zero] at e
    exact ne_mul (show wts m rs 0 ≠ 0 by omega) (ne_mul (ne_mul (show tm rs 0 - tm rs 1 ≠ 0 by omega) (show tm rs 0 - tm rs 2 ≠ 0 by omega)) (show tm rs 0 - tm rs 3 ≠ 0 by omega)) e
  · rw [h] at h0 hl
    have s0 := h0 0 (by omega)
    have s1 := h0 1 (by omega)
    have s2 := h0 2 (by omega)
    have s3 := h0 3 (by omega)
    have s4 := h0 4 (by omega)
    rw [off_5] at s0
    rw [off_5] at s1
    rw [off_5] at s2
    rw [off_5] at s3
    rw [off_5] at s4
    simp only [pw] at s0 s1 s2 s3 s4
    have l1 := hl 1 (by omega) (by omega)
    have l2 := hl 2 (by omega) (by omega)
    have l3 := hl 3 (by omega) (by omega)
    have l4 := hl 4 (by omega) (by omega)
    have e := all5 (wts m rs 0) (wts m rs 1) (wts m rs 2) (wts m rs 3) (wts m rs 4) (tm rs 0) (tm rs 1) (tm rs 2) (tm rs 3) (tm rs 4)
    rw [s4, s3, s2, s1, s0] at e
    simp only [Int.mul_zero, Int.add_zero, Int.sub_zero] at e
    exact ne_mul (show wts m rs 0 ≠ 0 by omega) (ne_mul (ne_mul (ne_mul (show tm rs 0 - tm rs 1 ≠ 0 by omega) (show tm rs 0 - tm rs 2 ≠ 0 by omega)) (show tm rs 0 - tm rs 3 ≠ 0 by omega)) (show tm rs 0 - tm rs 4 ≠ 0 by omega)) e
end
end Go.Proofs.Ytkiaepcklbidgaa
namespace Go.Proofs.Ytkiaepcklbidgaa
open Go Go.TH
attribute [local irreducible] W WO pt
set_option maxRecDepth 10000
set_option maxHeartbeats 1000000
/-- what Span answers -/
def spanV (m : Int) (rs : List (Int × Int × Int)) (g : Int → Int) : Int × Int := if chkT m rs = 0 then meanQ m rs g else (0, 0)
def spanR (m : Int) (rs : List (Int × Int × Int)) : Value := .tuple #[.agg (encP (spanV m rs (loT rs)) ++ encP (spanV m rs (hiT rs))).toArray, .int .i64 (chkT m rs)]
theorem spanR_0 {m : Int} {rs : List (Int × Int × Int)} (h : chkT m rs = 0) : .tuple #[.agg (encP (meanQ m rs (loT rs)) ++ encP (meanQ m rs (hiT rs))).toArray, .int .i64 0] = spanR m rs := by
  unfold spanR spanV; rw [if_pos h, if_pos h, h]
theorem spanR_1 {m : Int} {rs : List (Int × Int × Int)} (h : chkT m rs ≠ 0) : .tuple #[.agg (encP (0, 0) ++ encP (0, 0)).toArray, .int .i64 (chkT m rs)] = spanR m rs := by
  unfold spanR spanV; rw [if_neg h, if_neg h]
/-- what newScales leaves -/
abbrev scP (pv : Value) (m : Int) (o : Value) (rs : List (Int × Int × Int)) : HP := PtrP pv (chkT m rs) (sc m o (wTo (wts m rs) rs.length) (wsum m rs rs.length)) 83
theorem c_Span (w : World) (m : Int) (o : Value) (rs : List (Int × Int × Int)) (hR : RdF encR 3 w.heap.size w o rs) : Ret Try.prog 24 [.agg #[.int .i64 m, o]].toArray w (spanR m rs) := by
  refine Ret.of mixed tyTab Try.func24 rfl rfl ?_
  replace hR : RdF encR 3 (fnCx mixed tyTab Try.f24.ntmps w).B (fnCx mixed tyTab Try.f24.ntmps w).w0 o rs := hR
  refine W.sreg ?_
  refine WO.boxA rfl rfl (fun b1 hb1 => ?_)
  refine WO.alloc rfl rfl rfl (fun b2 hb2 => ?_)
  refine WO.p rfl rfl ?_
  refine WO.nil ?_
  refine W.sreg ?_
  refine WO.loadA rfl rfl (Cells.own (Pick.tail (Pick.head))) rfl rfl ?_
  refine WO.call (Post := fun v Hq => ∃ pv, v = .tuple #[pv, .int .i64 (chkT m rs)] ∧ Hq = [scP pv m o rs]) rfl Try.call45 (fun L w hi => c_newScales w m o rs (hR.later hi)) rfl ?_
  rintro _ _ ⟨pv, rfl, rfl⟩
  refine WO.p rfl rfl (WO.p rfl rfl (WO.p rfl rfl (WO.p rfl rfl (WO.p rfl rfl ?_))))
  refine WO.nil ?_
  refine W.seq ?_
  refine W.sreg ?_
  refine WO.p rfl rfl (WO.p rfl rfl ?_)
  refine WO.nil ?_
  refine W.cond_bl rfl (fun c1 => ?_) (fun c1 => ?_)
  · first
    | (exfalso; omega)
    | (refine W.sreg ?_
       refine' WO.build (cs := _) rfl rfl rfl ?hf rfl ?_
       case hf => (conv => lhs; simp [-List.getD_eq_getElem?_getD, fillL, vcl, wrl, TTab.pl?.lget']) <;> rfl
       refine WO.p rfl rfl (WO.storeA rfl rfl rfl rfl (Pick.tail (Pick.head)) rfl rfl (WO.p rfl rfl ?_))
       refine WO.nil ?_
       refine W.ret ?_
       refine fin.ret (Res.two rfl (RV.cell rfl rfl rfl (Cells.own Pick.head)) (RV.tmp rfl)) ?_
       first | exact spanR_1 (by assumption) | exact spanR_0 hv.to)
  · first
    | (exfalso; omega)
    | (refine W.skip ?_
       have hv : VT m rs := VT.of (by omega)
       refine W.chgE (PtrP.open (by repeat (first | exact Pick.head | apply Pick.tail)) hv.to) ?_
       rintro pb rfl
       refine W.sreg ?_
       refine WO.p rfl rfl ?_
       refine WO.callR rfl Try.call56 (fun L w hi => c_span w _ m o rs (RdC.own (b := pb) (by repeat (first | exact Pick.head | apply Pick.tail)) hi) (hR.later hi) hv) rfl ?_
       refine WO.storeA rfl rfl rfl rfl (Pick.tail (Pick.head)) rfl rfl (WO.p rfl rfl ?_)
       refine WO.nil ?_
       refine W.ret ?_
       refine fin.ret (Res.two rfl (RV.cell rfl rfl rfl (Cells.own Pick.head)) (RV.tmp rfl)) ?_
       first | exact spanR_1 (by assumption) | exact spanR_0 hv.to)
def gX (xs : List Int) (x : Int) : Int := xs.getD x.toNat 0
/-- are the numbers those of true runs? -/
def inTo (rs : List (Int × Int × Int)) (xs : List Int) (n : Nat) : Prop := ∀ i, i < n → (rs.getD i r0).2.1 ≤ xs.getD i 0 ∧ xs.getD i 0 ≤ (rs.getD i r0).2.2
instance (rs : List (Int × Int × Int)) (xs : List Int) (n : Nat) : Decidable (inTo rs xs n) := by unfold inTo; infer_instance
theorem inTo_succ {rs : List (Int × Int × Int)} {xs : List Int} {i : Nat} (h : inTo rs xs i) (h2 : (rs.getD i r0).2.1 ≤ xs.getD i 0 ∧ xs.getD i 0 ≤ (rs.getD i r0).2.2) : inTo rs xs (i + 1) := by
  intro j hj
  by_cases e : j = i
  · subst e; exact h2
  · exact h j (by omega)
/-- what Mean answers -/
def meanE (m : Int) (rs : List (Int × Int × Int)) (xs : List Int) : Int := if chkT m rs ≠ 0 then chkT m rs else if xs.length ≠ rs.length then 15 else if inTo rs xs rs.length then 0 else 3
def meanV (m : Int) (rs : List (Int × Int × Int)) (xs : List Int) : Int × Int := if meanE m rs xs = 0 then meanQ m rs (gX xs) else (0, 0)
def meanR (m : Int) (rs : List (Int × Int × Int)) (xs : List Int) : Value := .tuple #[.agg (encP (meanV m rs xs)).toArray, .int .i64 (meanE m rs xs)]
section
variable {m : Int} {rs : List (Int × Int × Int)} {xs : List Int}
theorem meanR_1 (h : chkT m rs ≠ 0) : .tuple #[.agg (encP (0, 0)).toArray, .int .i64 (chkT m rs)] = meanR m rs xs := by
  have e : meanE m rs xs = chkT m rs := by unfold meanE; rw [if_pos h]
  unfold meanR meanV; rw [e, if_neg h]
theorem meanR_15 (h : ¬ chkT m rs ≠ 0) (hl : xs.length ≠ rs.length) : .tuple #[.agg (encP (0, 0)).toArray, .int .i64 15] = meanR m rs xs := by
  have e : meanE m rs xs = 15 := by unfold meanE; rw [if_neg h, if_pos hl]
  unfold meanR meanV; rw [e, if_neg (by omega)]
theorem meanR_3 (h : ¬ chkT m rs ≠ 0) (hl : ¬ xs.length ≠ rs.length) {i : Nat} (hi : i < rs.length) (hb : ¬ ((rs.getD i r0).2.1 ≤ xs.getD i 0 ∧ xs.getD i 0 ≤ (rs.getD i r0).2.2)) : .tuple #[.agg (encP (0, 0)).toArray, .int .i64 3] = meanR m rs xs := by
  have e : meanE m rs xs = 3 := by unfold meanE; rw [if_neg h, if_neg hl, if_neg (fun hh => hb (hh i hi))]
  unfold meanR meanV; rw [e, if_neg (by omega)]
theorem meanR_0 (h : ¬ chkT m rs ≠ 0) (hl : ¬ xs.length ≠ rs.length) (hin : inTo rs xs rs.length) : .tuple #[.agg (encP (meanQ m rs (gX xs))).toArray, .int .i64 0] = meanR m rs xs := by
  have e : meanE m rs xs = 0 := by unfold meanE; rw [if_neg h, if_neg hl, if_pos hin]
  unfold meanR meanV; rw [e, if_pos rfl]
theorem gX_ab (hv : VT m rs) (hin : inTo rs xs rs.length) : ∀ i : Nat, i < rs.length → ab (gX xs i) ≤ 1000000000 := fun i hi => by
  have h1 := hv.run hi
  have h2 := hin i hi
  unfold gX ab
  rw [Int.toNat_natCast]; omega
end
theorem c_Mean (w : World) (m : Int) (o v : Value) (rs : List (Int × Int × Int)) (xs : List Int) (hR : RdF encR 3 w.heap.size w o rs) (hX : RdF encI 1 w.heap.size w v xs) : Ret Try.prog 22 [.agg #[.int .i64 m, o], v].toArray w (meanR m rs xs) := by
  refine Ret.of mixed tyTab Try.func22 rfl rfl ?_
  replace hR : RdF encR 3 (fnCx mixed tyTab Try.f22.ntmps w).B (fnCx mixed tyTab Try.f22.ntmps w).w0 o rs := hR
  replace hX : RdF encI 1 (fnCx mixed tyTab Try.f22.ntmps w).B (fnCx mixed tyTab Try.f22.ntmps w).w0 v xs := hX
  have ho := hX.sl.oc
  refine W.sreg ?_
  refine WO.boxA rfl rfl (fun b1 hb1 => ?_)
  refine WO.box1 rfl (by first | rfl | assumption) rfl (fun b2 hb2 => ?_)
  refine WO.alloc rfl rfl rfl (fun b3 hb3 => ?_)
  refine WO.p rfl rfl ?_
  refine WO.nil ?_
  refine W.sreg ?_
  refine WO.loadA rfl rfl (Cells.own (Pick.tail (Pick.tail (Pick.head)))) rfl rfl ?_
  refine WO.call (Post := fun v Hq => ∃ pv, v = .tuple #[pv, .int .i64 (chkT m rs)] ∧ Hq = [scP pv m o rs]) rfl Try.call45 (fun L w hi => c_newScales w m o rs (hR.later hi)) rfl ?_
  rintro _ _ ⟨pv, rfl, rfl⟩
  refine WO.p rfl rfl (WO.p rfl rfl (WO.p rfl rfl (WO.p rfl rfl (WO.p rfl rfl ?_))))
  refine WO.nil ?_
  refine W.seq ?_
  refine W.sreg ?_
  refine WO.p rfl rfl (WO.p rfl rfl ?_)
  refine WO.nil ?_
  refine W.cond_bl rfl (fun c1 => ?_) (fun c1 => ?_)
  · first
    | (exfalso; omega)
    | (refine W.sreg ?_
       refine' WO.build (cs := _) rfl rfl rfl ?hf rfl ?_
       case hf => (conv => lhs; simp [-List.getD_eq_getElem?_getD, fillL, vcl, wrl, TTab.pl?.lget']) <;> rfl
       refine WO.p rfl rfl (WO.storeA rfl rfl rfl rfl (Pick.tail (Pick.head)) rfl rfl (WO.p rfl rfl ?_))
       refine WO.nil ?_
       refine W.ret ?_
       refine fin.ret (Res.two rfl (RV.cell rfl rfl rfl (Cells.own Pick.head)) (RV.tmp rfl)) ?_
       first | exact meanR_1 (by assumption) | exact meanR_15 (by assumption) (by omega) | exact meanR_3 (i := i) (by assumption) (by omega) (by omega) (by assumption) | exact meanR_0 (by assumption) (by omega) hin)
  · first
    | (exfalso; omega)
    | (refine W.skip ?_
       refine W.seq ?_
       have hv : VT m rs := VT.of (by omega)
       have hn := hv.n
       refine W.chgE (PtrP.open (by repeat (first | exact Pick.head | apply Pick.tail)) hv.to) ?_
       rintro pb rfl
       refine W.sreg ?_
       refine WO.load rfl rfl (Cell.own (Pick.tail (Pick.tail (Pick.head))) rfl) rfl ?_
       refine' WO.len (n := _) rfl rfl ?hs rfl ?_
       case hs => (first | exact hR.sl | exact hX.sl)
       refine WO.fieldL rfl rfl rfl (WO.load rfl rfl (Cell.own (Pick.tail (Pick.tail (Pick.tail (Pick.head)))) rfl) rfl ?_)
       refine' WO.len (n := _) rfl rfl ?hs rfl ?_
       case hs => (first | exact hR.sl | exact hX.sl)
       refine WO.p rfl rfl ?_
       refine WO.nil ?_
       refine W.cond_bl rfl (fun c2 => ?_) (fun c2 => ?_)
       · first
         | (exfalso; omega)
         | (refine W.sreg ?_
            refine' WO.build (cs := _) rfl rfl rfl ?hf rfl ?_
            case hf => (conv => lhs; simp [-List.getD_eq_getElem?_getD, fillL, vcl, wrl, TTab.pl?.lget']) <;> rfl
            refine WO.storeA rfl rfl rfl rfl (Pick.tail (Pick.head)) rfl rfl (WO.p rfl rfl ?_)
            refine WO.nil ?_
            refine W.ret ?_
            refine fin.ret (Res.two rfl (RV.cell rfl rfl rfl (Cells.own Pick.head)) (RV.tmp rfl)) ?_
            first | exact meanR_1 (by assumption) | exact meanR_15 (by assumption) (by omega) | exact meanR_3 (i := i) (by assumption) (by omega) (by omega) (by assumption) | exact meanR_0 (by assumption) (by omega) hin)
       · first
         | (exfalso; omega)
         | (refine W.skip ?_
            refine W.seq ?_
            refine W.sreg ?_
            refine WO.fieldL rfl rfl rfl (WO.load rfl rfl (Cell.own (Pick.tail (Pick.tail (Pick.tail (Pick.head)))) rfl) rfl ?_)
            refine' WO.len (n := _) rfl rfl ?hs rfl ?_
            case hs => (first | exact hR.sl | exact hX.sl)
            refine WO.p rfl rfl ?_
            refine WO.nil ?_
            refine W.block ?_
            refine W.loop (fun (i : Nat) => i ≤ rs.length ∧ inTo rs xs i)
              (fun (i : Nat) => [(29, .int .i64 (i : Int)), (28, .int .i64 (rs.length : Int)), (27, o), (6, .pointer (some ⟨pb, 0, none⟩)), (4, .pointer (some ⟨b3, 0, none⟩)), (3, .pointer (some ⟨b2, 0, none⟩))])
              (fun (i : Nat) => [pt b2 (.cells #[v] 26 (0, 0)), pt b3 (.cells #[.int .i64 0, .int .i64 0] 36 (0, 0)), pt pb (.cells (sc m o (wTo (wts m rs) rs.length) (wsum m rs rs.length)).toArray 83 (0, 0))])
              (fun (i : Nat) => rs.length - i) 0
              (by exact ⟨by omega, fun j hj => by omega⟩) ⟨rfl, rfl, rfl, rfl, rfl, rfl, trivial⟩ (by repeat (first | exact Sub.nil | refine Sub.cons (by repeat (first | exact Pick.head | apply Pick.tail)) ?_)) ?_
            rintro i ⟨hi, hin⟩
            refine W.sreg ?_
            refine WO.p rfl rfl ?_
            refine WO.nil ?_
            refine W.seq ?_
            refine W.cond_bl rfl (fun c3 => ?_) (fun c3 => ?_)
            · first
              | (exfalso; omega)
              | (refine W.skip ?_
                 refine W.seq ?_
                 refine W.block ?_
                 refine W.sreg ?_
                 refine WO.p rfl rfl ?_
                 refine' WO.indexAddr (n := _) (i := _) rfl rfl rfl ?hs ?h1 rfl ?_
                 case hs => (first | exact hR.sl | exact hX.sl)
                 case h1 => (first | omega | (simp; omega))
                 refine' WO.loadA (vs := _) rfl rfl ?hc ?hl rfl ?_
                 case hc => (first | (refine hR.cells ?_ r0; omega))
                 case hl => rfl
                 refine WO.alloc rfl rfl rfl (fun b4 hb4 => ?_)
                 refine WO.p rfl rfl (WO.storeA rfl rfl rfl rfl Pick.head rfl rfl ?_)
                 refine WO.nil ?_
                 refine W.seq ?_
                 refine W.drawD 11 [.r 0 [], .r 1 [], .b 2 [], .r 3 [], .r 4 [], .b 5 [], .b 6 [], .r 7 [], .r 8 [], .b 9 [], .c 10 []] [] (A0 := []) (Sub.refl _) (by kernel_rfl) ?_ ?_
                 · exact (ALok.r (ALok.r (ALok.b (ALok.r (ALok.r (ALok.b (ALok.b (ALok.r (ALok.r (ALok.b (ALok.c ALok.nil)))))))))))
                 refine' DT.r rfl rfl rfl ?hq ?_
                 case hq =>
                   refine WO.fieldL rfl rfl rfl ?_
                   exact WO.nil ⟨rfl, rfl⟩
                 refine' DT.r rfl rfl rfl ?hq ?_
                 case hq =>
                   refine WO.field0 rfl rfl rfl ?_
                   exact WO.nil ⟨rfl, rfl⟩
                 refine' DT.b rfl rfl rfl ?hq ?_
                 case hq =>
                   refine WO.load rfl rfl (Cell.own Pick.head rfl) rfl ?_
                   exact WO.nil ⟨rfl, rfl⟩
                 refine' DT.r rfl rfl rfl ?hq ?_
                 case hq =>
                   refine WO.fieldL rfl rfl rfl ?_
                   exact WO.nil ⟨rfl, rfl⟩
                 refine' DT.r rfl rfl rfl ?hq ?_
                 case hq =>
                   refine WO.fieldL rfl rfl rfl ?_
                   exact WO.nil ⟨rfl, rfl⟩
                 refine' DT.b rfl rfl rfl ?hq ?_
                 case hq =>
                   refine WO.load rfl rfl (Cell.own Pick.head rfl) rfl ?_
                   exact WO.nil ⟨rfl, rfl⟩
                 refine' DT.b rfl rfl rfl ?hq ?_
                 case hq =>
                   refine WO.load rfl rfl (Cell.own (Pick.tail (Pick.head)) rfl) rfl ?_
                   exact WO.nil ⟨rfl, rfl⟩
                 refine' DT.r rfl rfl rfl ?hq ?_
                 case hq =>
                   refine WO.p rfl rfl ?_
                   exact WO.nil ⟨rfl, rfl⟩
                 refine' DT.r rfl rfl rfl ?hq ?_
                 case hq =>
                   refine' WO.indexAddr (n := _) (i := _) rfl rfl rfl ?hs ?h1 rfl ?_
                   case hs => (first | exact hR.sl | exact hX.sl)
                   case h1 => (first | omega | (simp; omega))
                   exact WO.nil ⟨rfl, rfl⟩
                 refine' DT.b rfl rfl rfl ?hq ?_
                 case hq =>
                   refine' WO.load (v := _) rfl rfl ?hc rfl ?_
                   case hc => (first | (refine hX.cell0 ?_ 0 ?_ <;> first | rfl | omega))
                   exact WO.nil ⟨rfl, rfl⟩
                 refine DT.c [_, _, _, _] rfl rfl rfl rfl ?_
                 refine' WO.buildSl (cs := _) rfl rfl rfl rfl ?hf rfl rfl ?hl rfl (fun v5 => ?_)
                 case hf => (conv => lhs; simp [-List.getD_eq_getElem?_getD, fillL, vcl, wrl, TTab.pl?.lget']) <;> rfl
                 case hl => rfl
                 refine WO.nil ⟨_, [_], rfl, rfl, (Keep.b (Keep.r (Keep.r (Keep.b (Keep.b (Keep.r (Keep.r (Keep.b (Keep.r (Keep.r Keep.nil)))))))))), ?_⟩
                 refine DT.nil [_, _, _, _, _] rfl ?_
                 refine WO.callR (r := .bool (bl ((rs.getD i r0).2.1 ≤ xs.getD i 0 ∧ xs.getD i 0 ≤ (rs.getD i r0).2.2))) rfl Try.call51 (fun L w hi => by rw [← btw1]; exact c_within w _ _ _ [xs.getD i 0] (RdF.of_ow (e := 2) encI_ok (by repeat (first | exact Pick.head | apply Pick.tail)) hi) (by simp)) rfl ?_
                 refine WO.p rfl rfl ?_
                 refine WO.nil ?_
                 refine W.cond_nbl rfl (fun c4 => ?_) (fun c4 => ?_)
                 · first
                   | (exfalso; omega)
                   | (refine W.sreg ?_
                      refine' WO.build (cs := _) rfl rfl rfl ?hf rfl ?_
                      case hf => (conv => lhs; simp [-List.getD_eq_getElem?_getD, fillL, vcl, wrl, TTab.pl?.lget']) <;> rfl
                      refine WO.storeA rfl rfl rfl rfl (Pick.tail (Pick.tail (Pick.tail (Pick.head)))) rfl rfl (WO.p rfl rfl ?_)
                      refine WO.nil ?_
                      refine W.ret ?_
                      refine fin.ret (Res.two rfl (RV.cell rfl rfl rfl (Cells.own Pick.head)) (RV.tmp rfl)) ?_
                      first | exact meanR_1 (by assumption) | exact meanR_15 (by assumption) (by omega) | exact meanR_3 (i := i) (by assumption) (by omega) (by omega) (by assumption) | exact meanR_0 (by assumption) (by omega) hin)
                 · first
                   | (exfalso; omega)
                   | (refine W.skip ?_
                      refine W.region ?_
                      refine WO.ar rfl rfl rfl (by (first | (unfold in64; omega) | (unfold in64; omega))) rfl (WO.p rfl rfl ?_)
                      refine WO.nil ?_
                      refine' ⟨i + 1, ?hp, ?hmu, ⟨rfl, rfl, rfl, rfl, rfl, rfl, trivial⟩, ?hS⟩
                      case hS => repeat (first | exact Sub.nil | refine Sub.cons (by repeat (first | exact Pick.head | apply Pick.tail)) ?_)
                      case hp => exact ⟨by omega, inTo_succ hin (by omega)⟩
                      case hmu => omega))
            · first
              | (exfalso; omega)
              | (refine W.exit (blk_same ?_)
                 obtain rfl : i = rs.length := by omega
                 have hxl : xs.length = rs.length := by omega
                 refine W.sreg ?_
                 refine WO.p rfl rfl (WO.p rfl rfl ?_)
                 refine WO.callR rfl Try.call53 (fun L w hi => c_mean w _ m o rs _ [.pointer (some ⟨b2, 0, none⟩)] (gX xs) (RdC.own (b := pb) (by repeat (first | exact Pick.head | apply Pick.tail)) hi) (hR.later hi) hv (by rw [← hxl]; exact fn_ground (Cap.of (by repeat (first | exact Pick.head | apply Pick.tail)) rfl hi) (hX.later hi)) Try.call54 (gX_ab hv hin)) rfl ?_
                 refine WO.storeA rfl rfl rfl rfl (Pick.tail (Pick.head)) rfl rfl (WO.p rfl rfl ?_)
                 refine WO.nil ?_
                 refine W.ret ?_
                 refine fin.ret (Res.two rfl (RV.cell rfl rfl rfl (Cells.own Pick.head)) (RV.tmp rfl)) ?_
                 first | exact meanR_1 (by assumption) | exact meanR_15 (by assumption) (by omega) | exact meanR_3 (i := i) (by assumption) (by omega) (by omega) (by assumption) | exact meanR_0 (by assumption) (by omega) hin)))
end Go.Proofs.Ytkiaepcklbidgaa
namespace Go.Proofs.Ytkiaepcklbidgaa
open Go Go.TH
attribute [local irreducible] W WO pt
set_option maxRecDepth 10000
set_option maxHeartbeats 1000000
def allIn (xs : List Int) : Prop := ∀ x ∈ xs, -20 ≤ x ∧ x ≤ 20
instance (xs : List Int) : Decidable (allIn xs) := by unfold allIn; infer_instance
/-- what Off answers -/
def offE (m : Int) (rs : List (Int × Int × Int)) (xs : List Int) : Int := if chkT m rs ≠ 0 then chkT m rs else if 5 < xs.length then 6 else if allIn xs then 0 else 3
def offV (m : Int) (rs : List (Int × Int × Int)) (xs : List Int) : Int × Int := if offE m rs xs = 0 then meanQ m rs (offT rs (tideV xs)) else (0, 0)
def offR (m : Int) (rs : List (Int × Int × Int)) (xs : List Int) : Value := .tuple #[.agg (encP (offV m rs xs)).toArray, .int .i64 (offE m rs xs)]
section
variable {m : Int} {rs : List (Int × Int × Int)} {xs : List Int}
theorem offR_1 (h : chkT m rs ≠ 0) : .tuple #[.agg (encP (0, 0)).toArray, .int .i64 (chkT m rs)] = offR m rs xs := by
  have e : offE m rs xs = chkT m rs := by unfold offE; rw [if_pos h]
  unfold offR offV; rw [e, if_neg h]
theorem offR_6 (h : ¬ chkT m rs ≠ 0) (hl : 5 < xs.length) : .tuple #[.agg (encP (0, 0)).toArray, .int .i64 6] = offR m rs xs := by
  have e : offE m rs xs = 6 := by unfold offE; rw [if_neg h, if_pos hl]
  unfold offR offV; rw [e, if_neg (by omega)]
theorem offR_3 (h : ¬ chkT m rs ≠ 0) (hl : ¬ 5 < xs.length) (hb : ¬ allIn xs) : .tuple #[.agg (encP (0, 0)).toArray, .int .i64 3] = offR m rs xs := by
  have e : offE m rs xs = 3 := by unfold offE; rw [if_neg h, if_neg hl, if_neg hb]
  unfold offR offV; rw [e, if_neg (by omega)]
theorem offR_0 (h : ¬ chkT m rs ≠ 0) (hl : ¬ 5 < xs.length) (hb : allIn xs) : .tuple #[.agg (encP (meanQ m rs (offT rs (tideV xs)))).toArray, .int .i64 0] = offR m rs xs := by
  have e : offE m rs xs = 0 := by unfold offE; rw [if_neg h, if_neg hl, if_pos hb]
  unfold offR offV; rw [e, if_pos rfl]
theorem tide_ab (hv : VT m rs) (hx : Tidal xs) : ∀ i : Nat, i < rs.length → ab (tideV xs (tm rs i)) ≤ 1000000000 := fun i hi => by
  have h1 := hv.run hi
  have h2 := hB_B hx (t := tm rs i) ⟨h1.1, h1.2.1⟩ (Nat.le_refl _)
  unfold tideV ab; omega
theorem pw_ab (hv : VT m rs) {d : Nat} (hd : d ≤ 5) : ∀ i : Nat, i < rs.length → ab (pw (tm rs i) d) ≤ 1000000000 := fun i hi => by
  have h1 := hv.run hi
  have h2 := pw_B (t := tm rs i) ⟨h1.1, h1.2.1⟩ hd
  unfold ab; omega
theorem foldl_min_le : ∀ (l : List Int) (x : Int), l.foldl min x ≤ x ∧ ∀ y ∈ l, l.foldl min x ≤ y
  | [], x => ⟨Int.le_refl _, fun y hy => by simp at hy⟩
  | z :: l, x => by
    have ih := foldl_min_le l (min x z)
    refine ⟨by show l.foldl min (min x z) ≤ x; omega, fun y hy => ?_⟩
    show l.foldl min (min x z) ≤ y
    rcases List.mem_cons.1 hy with rfl | hy
    · omega
    · exact ih.2 y hy
theorem foldl_max_ge : ∀ (l : List Int) (x : Int), x ≤ l.foldl max x ∧ ∀ y ∈ l, y ≤ l.foldl max x
  | [], x => ⟨Int.le_refl _, fun y hy => by simp at hy⟩
  | z :: l, x => by
    have ih := foldl_max_ge l (max x z)
    refine ⟨by show x ≤ l.foldl max (max x z); omega, fun y hy => ?_⟩
    show y ≤ l.foldl max (max x z)
    rcases List.mem_cons.1 hy with rfl | hy
    · omega
    · exact ih.2 y hy
theorem foldl_min_in : ∀ (l : List Int) (x : Int), l.foldl min x = x ∨ l.foldl min x ∈ l
  | [], x => .inl rfl
  | z :: l, x => by
    show l.foldl min (min x z) = x ∨ l.foldl min (min x z) ∈ z :: l
    rcases foldl_min_in l (min x z) with h | h
    · rw [h]
      rcases Int.le_total x z with h2 | h2
      · left; omega
      · right; rw [show min x z = z by omega]; simp
    · right; simp [h]
theorem foldl_max_in : ∀ (l : List Int) (x : Int), l.foldl max x = x ∨ l.foldl max x ∈ l
  | [], x => .inl rfl
  | z :: l, x => by
    show l.foldl max (max x z) = x ∨ l.foldl max (max x z) ∈ z :: l
    rcases foldl_max_in l (max x z) with h | h
    · rw [h]
      rcases Int.le_total x z with h2 | h2
      · right; rw [show max x z = z by omega]; simp
      · left; omega
    · right; simp [h]
theorem btw_all {lo hi : Int} (h : 0 < xs.length) : btw lo hi xs = bl (∀ x ∈ xs, lo ≤ x ∧ x ≤ hi) := by
  unfold btw
  rw [bl_eq, bl_eq, bl_eq, ← Bool.decide_and, decide_eq_decide]
  match xs, h with
  | x :: r, _ =>
    have h1 := foldl_min_le r x
    have h2 := foldl_max_ge r x
    show (lo ≤ r.foldl min x ∧ r.foldl max x ≤ hi) ↔ _
    constructor
    · rintro ⟨a, b⟩ y hy
      rcases List.mem_cons.1 hy with rfl | hy
      · omega
      · have := h1.2 y hy; have := h2.2 y hy; omega
    · intro ha
      constructor
      · rcases foldl_min_in r x with e | e
        · rw [e]; exact (ha x (by simp)).1
        · exact (ha _ (by simp [e])).1
      · rcases foldl_max_in r x with e | e
        · rw [e]; exact (ha x (by simp)).2
        · exact (ha _ (by simp [e])).2
end
theorem c_Off (w : World) (m : Int) (o v : Value) (rs : List (Int × Int × Int)) (xs : List Int) (hR : RdF encR 3 w.heap.size w o rs) (hX : RdF encI 1 w.heap.size w v xs) : Ret Try.prog 26 [.agg #[.int .i64 m, o], v].toArray w (offR m rs xs) := by
  refine Ret.of mixed tyTab Try.func26 rfl rfl ?_
  replace hR : RdF encR 3 (fnCx mixed tyTab Try.f26.ntmps w).B (fnCx mixed tyTab Try.f26.ntmps w).w0 o rs := hR
  replace hX : RdF encI 1 (fnCx mixed tyTab Try.f26.ntmps w).B (fnCx mixed tyTab Try.f26.ntmps w).w0 v xs := hX
  have ho := hX.sl.oc
  refine W.sreg ?_
  refine WO.boxA rfl rfl (fun b1 hb1 => ?_)
  refine WO.box1 rfl (by first | rfl | assumption) rfl (fun b2 hb2 => ?_)
  refine WO.alloc rfl rfl rfl (fun b3 hb3 => ?_)
  refine WO.p rfl rfl ?_
  refine WO.nil ?_
  refine W.sreg ?_
  refine WO.loadA rfl rfl (Cells.own (Pick.tail (Pick.tail (Pick.head)))) rfl rfl ?_
  refine WO.call (Post := fun v Hq => ∃ pv, v = .tuple #[pv, .int .i64 (chkT m rs)] ∧ Hq = [scP pv m o rs]) rfl Try.call45 (fun L w hi => c_newScales w m o rs (hR.later hi)) rfl ?_
  rintro _ _ ⟨pv, rfl, rfl⟩
  refine WO.p rfl rfl (WO.p rfl rfl (WO.p rfl rfl (WO.p rfl rfl (WO.p rfl rfl ?_))))
  refine WO.nil ?_
  refine W.seq ?_
  refine W.block ?_
  refine W.sreg ?_
  refine WO.p rfl rfl (WO.p rfl rfl (WO.p rfl rfl ?_))
  refine WO.nil ?_
  refine W.cond_bl rfl (fun c1 => ?_) (fun c1 => ?_)
  · first
    | (exfalso; omega)
    | (refine W.sreg ?_
       refine' WO.build (cs := _) rfl rfl rfl ?hf rfl ?_
       case hf => (conv => lhs; simp [-List.getD_eq_getElem?_getD, fillL, vcl, wrl, TTab.pl?.lget']) <;> rfl
       refine WO.p rfl rfl (WO.storeA rfl rfl rfl rfl (Pick.tail (Pick.head)) rfl rfl (WO.p rfl rfl ?_))
       refine WO.nil ?_
       refine W.ret ?_
       refine fin.ret (Res.two rfl (RV.cell rfl rfl rfl (Cells.own Pick.head)) (RV.tmp rfl)) ?_
       first | exact offR_1 (by assumption) | exact offR_6 (by assumption) (by omega) | exact offR_3 (by assumption) (by omega) (by assumption) | exact offR_0 (by assumption) (by omega) hal)
  · first
    | (exfalso; omega)
    | (refine W.sreg ?_
       refine WO.load rfl rfl (Cell.own (Pick.tail (Pick.tail (Pick.head))) rfl) rfl ?_
       refine' WO.len (n := _) rfl rfl ?hs rfl ?_
       case hs => (first | exact hR.sl | exact hX.sl)
       refine WO.p rfl rfl (WO.p rfl rfl ?_)
       refine WO.nil ?_
       refine W.cond_bl rfl (fun c2 => ?_) (fun c2 => ?_)
       · first
         | (exfalso; omega)
         | (refine W.sreg ?_
            refine' WO.build (cs := _) rfl rfl rfl ?hf rfl ?_
            case hf => (conv => lhs; simp [-List.getD_eq_getElem?_getD, fillL, vcl, wrl, TTab.pl?.lget']) <;> rfl
            refine WO.storeA rfl rfl rfl rfl (Pick.tail (Pick.head)) rfl rfl (WO.p rfl rfl ?_)
            refine WO.nil ?_
            refine W.ret ?_
            refine fin.ret (Res.two rfl (RV.cell rfl rfl rfl (Cells.own Pick.head)) (RV.tmp rfl)) ?_
            first | exact offR_1 (by assumption) | exact offR_6 (by assumption) (by omega) | exact offR_3 (by assumption) (by omega) (by assumption) | exact offR_0 (by assumption) (by omega) hal)
       · first
         | (exfalso; omega)
         | (refine W.sreg ?_
            refine WO.load rfl rfl (Cell.own (Pick.tail (Pick.tail (Pick.head))) rfl) rfl ?_
            refine' WO.len (n := _) rfl rfl ?hs rfl ?_
            case hs => (first | exact hR.sl | exact hX.sl)
            refine WO.p rfl rfl (WO.p rfl rfl ?_)
            refine WO.guard_bl rfl rfl (fun c3 => ?_) (fun c3 => ?_)
            · first
              | (exfalso; omega)
              | (refine WO.go' rfl (WO.load rfl rfl (Cell.own (Pick.tail (Pick.tail (Pick.head))) rfl) rfl (WO.go' rfl ?_))
                 refine WO.callR (r := .bool (bl (allIn xs))) rfl Try.call51 (fun L w hi => by have h := c_within w (-20) 20 v xs (hX.later hi) (by omega); rw [btw_all (by omega)] at h; exact h) rfl ?_
                 refine WO.pg rfl rfl rfl (WO.p rfl rfl (WO.p rfl rfl ?_))
                 refine WO.nil ?_
                 refine W.cond_nbl rfl (fun c4 => ?_) (fun c4 => ?_)
                 · first
                   | (exfalso; omega)
                   | (refine W.sreg ?_
                      refine' WO.build (cs := _) rfl rfl rfl ?hf rfl ?_
                      case hf => (conv => lhs; simp [-List.getD_eq_getElem?_getD, fillL, vcl, wrl, TTab.pl?.lget']) <;> rfl
                      refine WO.storeA rfl rfl rfl rfl (Pick.tail (Pick.head)) rfl rfl (WO.p rfl rfl ?_)
                      refine WO.nil ?_
                      refine W.ret ?_
                      refine fin.ret (Res.two rfl (RV.cell rfl rfl rfl (Cells.own Pick.head)) (RV.tmp rfl)) ?_
                      first | exact offR_1 (by assumption) | exact offR_6 (by assumption) (by omega) | exact offR_3 (by assumption) (by omega) (by assumption) | exact offR_0 (by assumption) (by omega) hal)
                 · first
                   | (exfalso; omega)
                   | (refine W.skip ?_
                      have hv : VT m rs := VT.of (by omega)
                      have hal : allIn xs := by first | assumption | (have h0 : xs = [] := List.eq_nil_of_length_eq_zero (by omega); subst h0; intro x hx; simp at hx)
                      have htd : Tidal xs := ⟨by omega, hal⟩
                      refine W.chgE (PtrP.open (by repeat (first | exact Pick.head | apply Pick.tail)) hv.to) ?_
                      rintro pb rfl
                      refine W.sreg ?_
                      refine WO.p rfl rfl (WO.p rfl rfl ?_)
                      refine WO.callR rfl Try.call49 (fun L w hi => c_off w _ m o rs _ [.pointer (some ⟨b2, 0, none⟩)] (tideV xs) (RdC.own (b := pb) (by repeat (first | exact Pick.head | apply Pick.tail)) hi) (hR.later hi) hv (fn_tide (Cap.of (by repeat (first | exact Pick.head | apply Pick.tail)) rfl hi) (hX.later hi) htd) Try.call57 (tide_ab hv htd)) rfl ?_
                      refine WO.storeA rfl rfl rfl rfl (Pick.tail (Pick.head)) rfl rfl (WO.p rfl rfl ?_)
                      refine WO.nil ?_
                      refine W.ret ?_
                      refine fin.ret (Res.two rfl (RV.cell rfl rfl rfl (Cells.own Pick.head)) (RV.tmp rfl)) ?_
                      first | exact offR_1 (by assumption) | exact offR_6 (by assumption) (by omega) | exact offR_3 (by assumption) (by omega) (by assumption) | exact offR_0 (by assumption) (by omega) hal))
            · first
              | (exfalso; omega)
              | (refine WO.no rfl rfl (WO.no rfl rfl (WO.no rfl rfl (WO.p rfl rfl (WO.p rfl rfl ?_))))
                 refine WO.nil ?_
                 refine W.cond_f rfl ?_
                 refine W.skip ?_
                 have hv : VT m rs := VT.of (by omega)
                 have hal : allIn xs := by first | assumption | (have h0 : xs = [] := List.eq_nil_of_length_eq_zero (by omega); subst h0; intro x hx; simp at hx)
                 have htd : Tidal xs := ⟨by omega, hal⟩
                 refine W.chgE (PtrP.open (by repeat (first | exact Pick.head | apply Pick.tail)) hv.to) ?_
                 rintro pb rfl
                 refine W.sreg ?_
                 refine WO.p rfl rfl (WO.p rfl rfl ?_)
                 refine WO.callR rfl Try.call49 (fun L w hi => c_off w _ m o rs _ [.pointer (some ⟨b2, 0, none⟩)] (tideV xs) (RdC.own (b := pb) (by repeat (first | exact Pick.head | apply Pick.tail)) hi) (hR.later hi) hv (fn_tide (Cap.of (by repeat (first | exact Pick.head | apply Pick.tail)) rfl hi) (hX.later hi) htd) Try.call57 (tide_ab hv htd)) rfl ?_
                 refine WO.storeA rfl rfl rfl rfl (Pick.tail (Pick.head)) rfl rfl (WO.p rfl rfl ?_)
                 refine WO.nil ?_
                 refine W.ret ?_
                 refine fin.ret (Res.two rfl (RV.cell rfl rfl rfl (Cells.own Pick.head)) (RV.tmp rfl)) ?_
                 first | exact offR_1 (by assumption) | exact offR_6 (by assumption) (by omega) | exact offR_3 (by assumption) (by omega) (by assumption) | exact offR_0 (by assumption) (by omega) hal)))
/-- the least number below 5 of which p is true -/
def fst5 (p : Nat → Bool) : Nat := if p 0 = true then 0 else if p 1 = true then 1 else if p 2 = true then 2 else if p 3 = true then 3 else if p 4 = true then 4 else 5
theorem fst5_eq {p : Nat → Bool} {d : Nat} (hd : d < 5) (h : p d = true) (hb : ∀ k, k < d → p k = false) : fst5 p = d := by
  unfold fst5
  match d, hd with
  | 0, _ => rw [if_pos h]
  | 1, _ => rw [if_neg (by rw [hb 0 (by omega)]; simp), if_pos h]
  | 2, _ => rw [if_neg (by rw [hb 0 (by omega)]; simp), if_neg (by rw [hb 1 (by omega)]; simp), if_pos h]
  | 3, _ => rw [if_neg (by rw [hb 0 (by omega)]; simp), if_neg (by rw [hb 1 (by omega)]; simp), if_neg (by rw [hb 2 (by omega)]; simp), if_pos h]
  | 4, _ => rw [if_neg (by rw [hb 0 (by omega)]; simp), if_neg (by rw [hb 1 (by omega)]; simp), if_neg (by rw [hb 2 (by omega)]; simp), if_neg (by rw [hb 3 (by omega)]; simp), if_pos h]
/-- is the mean off in the tide that is a power? -/
def offP (m : Int) (rs : List (Int × Int × Int)) (d : Nat) : Bool := decide ((meanQ m rs (offT rs (fun t => pw t d))).1 ≠ 0)
/-- what Cancels answers -/
def canV (m : Int) (rs : List (Int × Int × Int)) : Int := if chkT m rs = 0 then (fst5 (offP m rs) : Int) - 1 else 0
theorem red_num {n d : Int} (hd : 0 < d) : (red n d).1 = 0 ↔ n = 0 := by
  have hg := gcd2_pos (ab_nn n) hd
  have hdv : gcd2 (ab n) d ∣ n := by
    have h1 := gcd2_dvdL (ab n) d (ab_nn n)
    unfold ab at h1 ⊢
    rcases Int.le_total 0 n with h | h
    · rwa [show max n (-n) = n by omega] at h1 ⊢
    · rw [show max n (-n) = -n by omega] at h1 ⊢
      exact Int.dvd_neg.1 h1
  constructor
  · intro h
    have h2 := Int.tdiv_mul_cancel hdv
    have h3 : n.tdiv (gcd2 (ab n) d) = 0 := h
    rw [h3, Int.zero_mul] at h2
    exact h2.symm
  · intro h; subst h; unfold red; simp
theorem offP_some {m : Int} {rs : List (Int × Int × Int)} (hv : VT m rs) : ∃ d, d < rs.length ∧ offP m rs d = true := by
  obtain ⟨d, hd, h⟩ := off_some hv
  have hw := wsum_lt hv (i := rs.length) (Nat.le_refl _)
  have hn := hv.n
  refine ⟨d, hd, ?_⟩
  unfold offP meanQ
  rw [decide_eq_true_eq]
  exact fun e => h ((red_num (by omega)).1 e)
theorem canR_1 {m : Int} {rs : List (Int × Int × Int)} (h : chkT m rs ≠ 0) : Value.tuple #[.int .i64 0, .int .i64 (chkT m rs)] = .tuple #[.int .i64 (canV m rs), .int .i64 (chkT m rs)] := by unfold canV; rw [if_neg h]
theorem canR_0 {m : Int} {rs : List (Int × Int × Int)} (hv : VT m rs) {d : Nat} {z : Int} (hd : d < 5) (h : offP m rs d = true) (hb : ∀ k, k < d → offP m rs k = false) (hz : z = (d : Int) - 1) : Value.tuple #[.int .i64 z, .int .i64 0] = .tuple #[.int .i64 (canV m rs), .int .i64 (chkT m rs)] := by
  unfold canV; rw [if_pos hv.to, fst5_eq hd h hb, hz, hv.to]
theorem c_Cancels (w : World) (m : Int) (o : Value) (rs : List (Int × Int × Int)) (hR : RdF encR 3 w.heap.size w o rs) : Ret Try.prog 15 [.agg #[.int .i64 m, o]].toArray w (.tuple #[.int .i64 (canV m rs), .int .i64 (chkT m rs)]) := by
  refine Ret.of mixed tyTab Try.func15 rfl rfl ?_
  replace hR : RdF encR 3 (fnCx mixed tyTab Try.f15.ntmps w).B (fnCx mixed tyTab Try.f15.ntmps w).w0 o rs := hR
  have ho := hR.sl.oc
  refine W.sreg ?_
  refine WO.boxA rfl rfl (fun b1 hb1 => ?_)
  refine WO.p rfl rfl (WO.p rfl rfl ?_)
  refine WO.nil ?_
  refine W.scope ?_
  refine W.sreg ?_
  refine WO.loadA rfl rfl (Cells.own Pick.head) rfl rfl ?_
  refine WO.call (Post := fun v Hq => ∃ pv, v = .tuple #[pv, .int .i64 (chkT m rs)] ∧ Hq = [scP pv m o rs]) rfl Try.call45 (fun L w hi => c_newScales w m o rs (hR.later hi)) rfl ?_
  rintro _ _ ⟨pv, rfl, rfl⟩
  refine WO.p rfl rfl (WO.p rfl rfl (WO.p rfl rfl (WO.p rfl rfl (WO.p rfl rfl ?_))))
  refine WO.nil ?_
  refine W.seq ?_
  refine W.sreg ?_
  refine WO.p rfl rfl (WO.p rfl rfl ?_)
  refine WO.nil ?_
  refine W.cond_bl rfl (fun c1 => ?_) (fun c1 => ?_)
  · first
    | (exfalso; omega)
    | (refine W.sreg ?_
       refine WO.p rfl rfl (WO.p rfl rfl (WO.p rfl rfl ?_))
       refine WO.nil ?_
       refine W.ret ?_
       refine fin.ret (Res.two rfl (RV.tmp rfl) (RV.tmp rfl)) ?_
       first | exact canR_1 (by assumption) | exact canR_0 hv (by omega) (by rw [hqp]; simpa using ‹_›) hal hz | (exfalso; rw [hal dx (by omega)] at hdp; cases hdp))
  · first
    | (exfalso; omega)
    | (refine W.skip ?_
       have hv : VT m rs := VT.of (by omega)
       have hn := hv.n
       obtain ⟨dx, hdx, hdp⟩ := offP_some hv
       refine W.chgE (PtrP.open (by repeat (first | exact Pick.head | apply Pick.tail)) hv.to) ?_
       rintro pb rfl
       refine W.sreg ?_
       refine WO.p rfl rfl ?_
       refine WO.nil ?_
       refine W.seq ?_
       refine W.label ?_
       refine W.seq ?_
       refine W.sreg ?_
       refine WO.fieldL rfl rfl rfl (WO.load rfl rfl (Cell.own (Pick.tail (Pick.head)) rfl) rfl ?_)
       refine' WO.len (n := _) rfl rfl ?hs rfl ?_
       case hs => (first | exact hR.sl)
       refine WO.p rfl rfl ?_
       refine WO.nil ?_
       refine W.block ?_
       refine W.loop2 (fun (d : Nat) (z : Int) => d ≤ rs.length ∧ z = (d : Int) - 1 ∧ ∀ k, k < d → offP m rs k = false)
         (fun (d : Nat) (z : Int) => [(20, .int .i64 (d : Int)), (19, .int .i64 (rs.length : Int)), (6, .int .i64 z), (4, .pointer (some ⟨pb, 0, none⟩))])
         (fun (d : Nat) (z : Int) => [pt pb (.cells (sc m o (wTo (wts m rs) rs.length) (wsum m rs rs.length)).toArray 83 (0, 0))])
         (fun (d : Nat) (z : Int) => rs.length - d) 0 (-1)
         (by exact ⟨by omega, by omega, fun k hk => by omega⟩) ⟨rfl, rfl, rfl, rfl, trivial⟩ (by repeat (first | exact Sub.nil | refine Sub.cons (by repeat (first | exact Pick.head | apply Pick.tail)) ?_)) ?_
       rintro d z ⟨hd, hz, hal⟩
       refine W.sreg ?_
       refine WO.p rfl rfl ?_
       refine WO.nil ?_
       refine W.seq ?_
       refine W.cond_bl rfl (fun c2 => ?_) (fun c2 => ?_)
       · first
         | (exfalso; omega)
         | (refine W.skip ?_
            refine W.seq ?_
            refine W.block ?_
            refine W.sreg ?_
            refine WO.p rfl rfl ?_
            refine WO.alloc rfl rfl rfl (fun b2 hb2 => ?_)
            refine WO.store1 rfl rfl rfl (by first | rfl | assumption) Pick.head rfl ?_
            refine WO.nil ?_
            refine W.sreg ?_
            refine WO.p rfl rfl (WO.p rfl rfl ?_)
            refine WO.nil ?_
            refine W.seq ?_
            obtain ⟨qn, qd, hq⟩ : ∃ a b, meanQ m rs (offT rs (fun t => pw t d)) = (a, b) := ⟨_, _, rfl⟩
            have hqp : offP m rs d = decide (qn ≠ 0) := by unfold offP; rw [hq]
            refine W.sreg ?_
            refine WO.p rfl rfl (WO.p rfl rfl ?_)
            refine WO.callR (r := .agg #[.int .i64 qn, .int .i64 qd]) rfl Try.call49 (fun L w hi => by have h := c_off w _ m o rs _ [.pointer (some ⟨b2, 0, none⟩)] (fun t => pw t d) (RdC.own (b := pb) (by repeat (first | exact Pick.head | apply Pick.tail)) hi) (hR.later hi) hv (fn_power (Cap.of (by repeat (first | exact Pick.head | apply Pick.tail)) rfl hi) (by omega)) Try.call48 (pw_ab hv (by omega)); unfold meanQ at hq; rw [hq] at h; exact h) rfl ?_
            refine WO.field1 rfl rfl rfl rfl rfl ?_
            refine WO.p rfl rfl ?_
            refine WO.nil ?_
            refine W.cond_bl rfl (fun c3 => ?_) (fun c3 => ?_)
            · first
              | (exfalso; omega)
              | (refine W.exit (blk_other rfl (blk_same ?_))
                 refine W.sreg ?_
                 refine WO.p rfl rfl (WO.p rfl rfl (WO.p rfl rfl ?_))
                 refine WO.nil ?_
                 refine W.ret ?_
                 refine fin.ret (Res.two rfl (RV.tmp rfl) (RV.tmp rfl)) ?_
                 first | exact canR_1 (by assumption) | exact canR_0 hv (by omega) (by rw [hqp]; simpa using ‹_›) hal hz | (exfalso; rw [hal dx (by omega)] at hdp; cases hdp))
            · first
              | (exfalso; omega)
              | (refine W.skip ?_
                 refine W.region ?_
                 refine WO.load rfl rfl (Cell.own Pick.head rfl) rfl (WO.p rfl rfl ?_)
                 refine WO.nil ?_
                 refine W.region ?_
                 refine WO.ar rfl rfl rfl (by (first | (unfold in64; omega) | (unfold in64; omega))) rfl (WO.p rfl rfl ?_)
                 refine WO.nil ?_
                 refine' ⟨d + 1, _, ?hp, ?hmu, ⟨rfl, rfl, rfl, rfl, trivial⟩, ?hS⟩
                 case hS => repeat (first | exact Sub.nil | refine Sub.cons (by repeat (first | exact Pick.head | apply Pick.tail)) ?_)
                 case hp => exact ⟨by omega, by omega, fun k hk => by (rcases Nat.lt_or_ge k d with h | h; exact hal k h; obtain rfl : k = d := (by omega); rw [hqp, show qn = 0 from Decidable.not_not.1 (by assumption)]; rfl)⟩
                 case hmu => omega))
       · first
         | (exfalso; omega)
         | (refine W.exit (blk_same ?_)
            refine W.sreg ?_
            refine WO.p rfl rfl (WO.p rfl rfl (WO.p rfl rfl ?_))
            refine WO.nil ?_
            refine W.ret ?_
            refine fin.ret (Res.two rfl (RV.tmp rfl) (RV.tmp rfl)) ?_
            first | exact canR_1 (by assumption) | exact canR_0 hv (by omega) (by rw [hqp]; simpa using ‹_›) hal hz | (exfalso; rw [hal dx (by omega)] at hdp; cases hdp)))
end Go.Proofs.Ytkiaepcklbidgaa
namespace Go.Proofs.Ytkiaepcklbidgaa
open Go Go.TH
attribute [local irreducible] W WO pt
set_option maxRecDepth 10000
set_option maxHeartbeats 1000000
/-- a polynomial's value -/
def evP (t : Int) : List Int → Int
  | [] => 0
  | a :: r => a + evP t r * t
theorem drop_getD {xs : List Int} {k : Nat} (h : k < xs.length) : xs.drop k = xs.getD k 0 :: xs.drop (k + 1) := by
  rw [List.drop_eq_getElem_cons h]; simp [h]
theorem hB_ev (xs : List Int) (t : Int) : ∀ q, q ≤ xs.length → hB xs t q = evP t (xs.drop (xs.length - q))
  | 0, _ => by rw [Nat.sub_zero, List.drop_length]; rfl
  | q + 1, h => by
    have ih := hB_ev xs t q (by omega)
    rw [drop_getD (k := xs.length - (q + 1)) (by omega)]
    show hB xs t q * t + xs.getD ((xs.length : Int) - 1 - q).toNat 0 = xs.getD (xs.length - (q + 1)) 0 + evP t (xs.drop (xs.length - (q + 1) + 1)) * t
    rw [ih, show xs.length - (q + 1) + 1 = xs.length - q by omega, show ((xs.length : Int) - 1 - q).toNat = xs.length - (q + 1) by omega]
    omega
theorem tideV_ev (xs : List Int) (t : Int) : tideV xs t = evP t xs := by
  unfold tideV; rw [hB_ev xs t _ (Nat.le_refl _), Nat.sub_self]; rfl
/-- a tide's number, from the least power up -/
def fS (xs : List Int) (t : Int) : Nat → Int
  | 0 => 0
  | k + 1 => fS xs t k + xs.getD k 0 * pw t k
theorem fS_ev (xs : List Int) (t : Int) : ∀ k, k ≤ xs.length → fS xs t k + pw t k * evP t (xs.drop k) = evP t xs
  | 0, _ => by show 0 + 1 * evP t xs = _; omega
  | k + 1, h => by
    have ih := fS_ev xs t k (by omega)
    rw [drop_getD (k := k) (by omega)] at ih
    have e1 : fS xs t (k + 1) = fS xs t k + xs.getD k 0 * pw t k := rfl
    have e2 : pw t (k + 1) = pw t k * t := rfl
    have e3 : evP t (xs.getD k 0 :: xs.drop (k + 1)) = xs.getD k 0 + evP t (xs.drop (k + 1)) * t := rfl
    rw [e3] at ih
    rw [e1, e2]
    grind
theorem fS_all (xs : List Int) (t : Int) : fS xs t xs.length = tideV xs t := by
  have := fS_ev xs t xs.length (Nat.le_refl _)
  rw [List.drop_length] at this
  rw [tideV_ev]
  have e : evP t ([] : List Int) = 0 := rfl
  rw [e, Int.mul_zero] at this
  omega
theorem pw4 {t : Int} (h : 0 ≤ t ∧ t ≤ 60) {d : Nat} (hd : d ≤ 4) : 0 ≤ pw t d ∧ pw t d ≤ 12960000 := by
  have h1 := pw_in h d
  have h2 := (by decide : ∀ d : Nat, d ≤ 4 → (60 : Int) ^ d ≤ 12960000) d hd
  omega
theorem mul20 {a p : Int} (ha : -20 ≤ a ∧ a ≤ 20) (hp : 0 ≤ p ∧ p ≤ 12960000) : -259200000 ≤ a * p ∧ a * p ≤ 259200000 := by
  have := abs_mul (w := p) (g := a) (W := 12960000) (G := 20) hp (by unfold ab; omega)
  rw [Int.mul_comm p a] at this
  omega
theorem fS_in {xs : List Int} (hx : Tidal xs) {t : Int} (ht : 0 ≤ t ∧ t ≤ 60) : ∀ {k : Nat}, k ≤ xs.length → -(259200000 * k) ≤ fS xs t k ∧ fS xs t k ≤ 259200000 * k
  | 0, _ => by simp [fS]
  | k + 1, h => by
    have ih := fS_in hx ht (k := k) (by omega)
    have h1 := mul20 (hx.2 _ (getD_mem (l := xs) (i := k) (by omega) 0)) (pw4 ht (d := k) (by have := hx.1; omega))
    have e1 : fS xs t (k + 1) = fS xs t k + xs.getD k 0 * pw t k := rfl
    rw [e1]; omega
theorem ref_Tide (w : World) (v : Value) (xs : List Int) (t : Int) (hX : RdF encI 1 w.heap.size w v xs) (hx : Tidal xs) (ht : 0 ≤ t ∧ t ≤ 60) : Ret Try.prog 62 [v, .int .i64 t].toArray w (.int .i64 (tideV xs t)) := by
  refine Ret.of mixed tyTab Try.func62 rfl rfl ?_
  replace hX : RdF encI 1 (fnCx mixed tyTab Try.f62.ntmps w).B (fnCx mixed tyTab Try.f62.ntmps w).w0 v xs := hX
  have hl := hx.1
  refine W.sreg ?_
  refine WO.p rfl rfl ?_
  refine WO.nil ?_
  refine W.sreg ?_
  refine WO.p rfl rfl (WO.p rfl rfl ?_)
  refine WO.nil ?_
  refine W.seq ?_
  refine W.sreg ?_
  refine WO.p rfl rfl ?_
  refine WO.nil ?_
  refine W.block ?_
  refine W.loop3 (fun (k : Nat) (s : Int) (p : Int) => k ≤ xs.length ∧ s = fS xs t k ∧ p = pw t k)
    (fun (k : Nat) (s : Int) (p : Int) => [(7, .int .i64 (k : Int)), (6, .int .i64 p), (5, .int .i64 s), (0, v), (1, .int .i64 t)])
    (fun (k : Nat) (s : Int) (p : Int) => [])
    (fun (k : Nat) (s : Int) (p : Int) => xs.length - k) 0 0 1
    (by exact ⟨by omega, rfl, rfl⟩) ⟨rfl, rfl, rfl, rfl, rfl, trivial⟩ (by repeat (first | exact Sub.nil | refine Sub.cons (by repeat (first | exact Pick.head | apply Pick.tail)) ?_)) ?_
  rintro k s p ⟨hk, hs, hp⟩
  have h1 := fS_in hx ht (k := k) hk
  have h2 : k < xs.length → -259200000 ≤ xs.getD k 0 * pw t k ∧ xs.getD k 0 * pw t k ≤ 259200000 := fun h => mul20 (hx.2 _ (getD_mem h 0)) (pw4 ht (by omega))
  have h3 := pw_B ht (d := k) (by omega)
  have h4 : k < xs.length → 0 ≤ pw t k * t ∧ pw t k * t ≤ 777600000 := fun h => pw_B ht (d := k + 1) (by omega)
  subst hs
  subst hp
  refine W.seq ?_
  refine W.sreg ?_
  refine WO.p rfl rfl (WO.p rfl rfl ?_)
  refine' WO.len (n := _) rfl rfl ?hs rfl ?_
  case hs => (first | exact hX.sl)
  refine WO.p rfl rfl ?_
  refine WO.nil ?_
  refine W.cond_bl rfl (fun c1 => ?_) (fun c1 => ?_)
  · first
    | (exfalso; omega)
    | (refine W.skip ?_
       refine W.seq ?_
       refine W.block ?_
       refine W.sreg ?_
       refine WO.p rfl rfl (WO.p rfl rfl (WO.p rfl rfl ?_))
       refine' WO.indexAddr (n := _) (i := _) rfl rfl rfl ?hs ?h1 rfl ?_
       case hs => (first | exact hX.sl)
       case h1 => (first | omega | (simp; omega))
       refine' WO.load (v := _) rfl rfl ?hc rfl ?_
       case hc => (first | (refine hX.cell0 ?_ 0 ?_ <;> first | rfl | omega))
       refine WO.p rfl rfl (WO.ar rfl rfl rfl (by (first | (unfold in64; omega) | (unfold in64; omega))) rfl (WO.ar rfl rfl rfl (by (first | (unfold in64; omega) | (unfold in64; omega))) rfl (WO.p rfl rfl ?_)))
       refine WO.nil ?_
       refine W.region ?_
       refine WO.p rfl rfl (WO.p rfl rfl (WO.ar rfl rfl rfl (by (first | (unfold in64; omega) | (unfold in64; omega))) rfl (WO.p rfl rfl ?_)))
       refine WO.nil ?_
       refine W.region ?_
       refine WO.p rfl rfl (WO.ar rfl rfl rfl (by (first | (unfold in64; omega) | (unfold in64; omega))) rfl (WO.p rfl rfl ?_))
       refine WO.nil ?_
       refine' ⟨k + 1, _, _, ?hp, ?hmu, ⟨rfl, rfl, rfl, rfl, rfl, trivial⟩, ?hS⟩
       case hS => repeat (first | exact Sub.nil | refine Sub.cons (by repeat (first | exact Pick.head | apply Pick.tail)) ?_)
       case hp => exact ⟨by omega, rfl, rfl⟩
       case hmu => omega)
  · first
    | (exfalso; omega)
    | (refine W.exit (blk_same ?_)
       refine W.sreg ?_
       refine WO.p rfl rfl (WO.p rfl rfl ?_)
       refine WO.nil ?_
       refine W.ret ?_
       obtain rfl : k = xs.length := by omega
       exact fin.ret (Res.one rfl (RV.tmp rfl)) (congrArg (Value.int .i64) (fS_all xs t)))
/-- with the other sign for the runs down -/
def turnG (xs : List Int) (i : Nat) : Int := if i % 2 = 1 then -(xs.getD i 0) else xs.getD i 0
def turnL (xs : List Int) : List Int := (List.range xs.length).map (turnG xs)
theorem turnL_len (xs : List Int) : (turnL xs).length = xs.length := by unfold turnL; simp
theorem ref_Turned (w : World) (v : Value) (xs : List Int) (hX : RdF encI 1 w.heap.size w v xs) (hl : xs.length ≤ 1000) (hx : ∀ x ∈ xs, ab x ≤ 1000000000) : Ct Try.prog 63 [v].toArray w fun r w' => ∃ Hq, (Hq = [OwE encI 2 1 r (turnL xs)]) ∧ Inv w [] Hq w' := by
  refine Ct.of mixed tyTab Try.func63 rfl rfl ?_
  replace hX : RdF encI 1 (fnCx mixed tyTab Try.f63.ntmps w).B (fnCx mixed tyTab Try.f63.ntmps w).w0 v xs := hX
  refine W.sreg ?_
  refine WO.p rfl rfl ?_
  refine WO.nil ?_
  refine W.sreg ?_
  refine WO.p rfl rfl ?_
  refine WO.nil ?_
  refine W.seq ?_
  refine W.sreg ?_
  refine WO.p rfl rfl ?_
  refine WO.nil ?_
  refine W.block ?_
  refine W.chg (owNil (enc := encI) (e := 2) (sz := 1)) ?_
  refine W.loop2 (fun (i : Nat) (r : Value) => i ≤ xs.length)
    (fun (i : Nat) (r : Value) => [(4, .int .i64 (i : Int)), (3, r), (0, v)])
    (fun (i : Nat) (r : Value) => [OwE encI 2 1 r ((turnL xs).take i)])
    (fun (i : Nat) (r : Value) => xs.length - i) 0 (.slice none 0 0)
    (by omega) ⟨rfl, rfl, rfl, trivial⟩ (by repeat (first | exact Sub.nil | refine Sub.cons (by repeat (first | exact Pick.head | apply Pick.tail)) ?_)) ?_
  rintro i r hi
  refine W.seq ?_
  refine W.sreg ?_
  refine WO.p rfl rfl (WO.p rfl rfl ?_)
  refine' WO.len (n := _) rfl rfl ?hs rfl ?_
  case hs => (first | exact hX.sl)
  refine WO.p rfl rfl ?_
  refine WO.nil ?_
  refine W.cond_bl rfl (fun c1 => ?_) (fun c1 => ?_)
  · first
    | (exfalso; omega)
    | (refine W.skip ?_
       refine W.seq ?_
       refine W.block ?_
       have hxi := hx _ (getD_mem (l := xs) (i := i) (by omega) 0)
       unfold ab at hxi
       have hmod : ((i : Int).tmod 2) = ((i % 2 : Nat) : Int) := by rw [Int.tmod_eq_emod_of_nonneg (by omega)]; omega
       refine W.sreg ?_
       refine WO.p rfl rfl (WO.rem rfl rfl (by first | omega | assumption) rfl (WO.p rfl rfl ?_))
       refine WO.nil ?_
       refine W.cond_bl rfl (fun c2 => ?_) (fun c2 => ?_)
       · first
         | (exfalso; omega)
         | (refine W.region ?_
            refine WO.p rfl rfl (WO.p rfl rfl (WO.p rfl rfl ?_))
            refine' WO.indexAddr (n := _) (i := _) rfl rfl rfl ?hs ?h1 rfl ?_
            case hs => (first | exact hX.sl)
            case h1 => (first | omega | (simp; omega))
            refine' WO.load (v := _) rfl rfl ?hc rfl ?_
            case hc => (first | (refine hX.cell0 ?_ 0 ?_ <;> first | rfl | omega))
            refine WO.neg rfl (by (first | (unfold in64; omega) | (unfold in64; omega))) rfl ?_
            refine' WO.buildSl (cs := _) rfl rfl rfl rfl ?hf rfl rfl ?hl rfl (fun v1 => ?_)
            case hf => (conv => lhs; simp [-List.getD_eq_getElem?_getD, fillL, vcl, wrl, TTab.pl?.lget']) <;> rfl
            case hl => rfl
            refine' WO.appendE (enc := encI) (m := 1) (ys := [turnG xs i]) encI_ok rfl rfl rfl rfl rfl (by repeat (first | exact Pick.head | apply Pick.tail)) (isSl_lit (by omega) (fun _ => ⟨_, _, rfl⟩)) (by omega) rfl (by rw [show ([turnG xs i].flatMap encI) = [.int .i64 (turnG xs i)] from rfl]; unfold turnG; first | (rw [if_pos (by omega)]; exact OwC.cells .head) | (rw [if_neg (by omega)]; exact OwC.cells .head)) (by rw [List.length_take, turnL_len]; omega) (by rw [List.length_take, turnL_len]; omega) rfl (fun g c => ?_)
            rw [show (turnL xs).take i ++ [turnG xs i] = (turnL xs).take (i + 1) from range_take (by omega)]
            refine WO.p rfl rfl ?_
            refine WO.nil ?_
            refine W.region ?_
            refine WO.p rfl rfl (WO.ar rfl rfl rfl (by (first | (unfold in64; omega) | (unfold in64; omega))) rfl (WO.p rfl rfl ?_))
            refine WO.nil ?_
            refine' ⟨i + 1, _, ?hp, ?hmu, ⟨rfl, rfl, rfl, trivial⟩, ?hS⟩
            case hS => repeat (first | exact Sub.nil | refine Sub.cons (by repeat (first | exact Pick.head | apply Pick.tail)) ?_)
            case hp => omega
            case hmu => omega)
       · first
         | (exfalso; omega)
         | (refine W.region ?_
            refine WO.p rfl rfl (WO.p rfl rfl (WO.p rfl rfl ?_))
            refine' WO.indexAddr (n := _) (i := _) rfl rfl rfl ?hs ?h1 rfl ?_
            case hs => (first | exact hX.sl)
            case h1 => (first | omega | (simp; omega))
            refine' WO.load (v := _) rfl rfl ?hc rfl ?_
            case hc => (first | (refine hX.cell0 ?_ 0 ?_ <;> first | rfl | omega))
            refine' WO.buildSl (cs := _) rfl rfl rfl rfl ?hf rfl rfl ?hl rfl (fun v2 => ?_)
            case hf => (conv => lhs; simp [-List.getD_eq_getElem?_getD, fillL, vcl, wrl, TTab.pl?.lget']) <;> rfl
            case hl => rfl
            refine' WO.appendE (enc := encI) (m := 1) (ys := [turnG xs i]) encI_ok rfl rfl rfl rfl rfl (by repeat (first | exact Pick.head | apply Pick.tail)) (isSl_lit (by omega) (fun _ => ⟨_, _, rfl⟩)) (by omega) rfl (by rw [show ([turnG xs i].flatMap encI) = [.int .i64 (turnG xs i)] from rfl]; unfold turnG; first | (rw [if_pos (by omega)]; exact OwC.cells .head) | (rw [if_neg (by omega)]; exact OwC.cells .head)) (by rw [List.length_take, turnL_len]; omega) (by rw [List.length_take, turnL_len]; omega) rfl (fun g c => ?_)
            rw [show (turnL xs).take i ++ [turnG xs i] = (turnL xs).take (i + 1) from range_take (by omega)]
            refine WO.p rfl rfl ?_
            refine WO.nil ?_
            refine W.region ?_
            refine WO.p rfl rfl (WO.ar rfl rfl rfl (by (first | (unfold in64; omega) | (unfold in64; omega))) rfl (WO.p rfl rfl ?_))
            refine WO.nil ?_
            refine' ⟨i + 1, _, ?hp, ?hmu, ⟨rfl, rfl, rfl, trivial⟩, ?hS⟩
            case hS => repeat (first | exact Sub.nil | refine Sub.cons (by repeat (first | exact Pick.head | apply Pick.tail)) ?_)
            case hp => omega
            case hmu => omega))
  · first
    | (exfalso; omega)
    | (refine W.exit (blk_same ?_)
       refine W.sreg ?_
       refine WO.p rfl rfl (WO.p rfl rfl ?_)
       refine WO.nil ?_
       refine W.ret ?_
       obtain rfl : i = xs.length := by omega
       rw [show (turnL xs).take xs.length = turnL xs by rw [← turnL_len xs, List.take_length]]
       exact fin.ret (Res.one rfl (RV.tmp rfl)) rfl)
theorem owE_cellS {C : Cx Try.prog} {H : List HP} {e : Nat} {v : Value} {xs : List Int} {i : Nat} {x : Int} (s : Sub H [OwE encI e 1 v xs]) (hi : i < xs.length) (hx : xs.getD i 0 = x) : Cell C H (elt v i 1) (.int .i64 x) := by
  cases s with
  | cons p _ => exact OwE.cell0 encI_ok p hi 0 (by rw [hx]; rfl)
theorem msum_congr {m : Int} {rs : List (Int × Int × Int)} {g g' : Int → Int} : ∀ {i : Nat}, (∀ j : Nat, j < i → g j = g' j) → msum m rs g i = msum m rs g' i
  | 0, _ => rfl
  | i + 1, h => by
    have ih := msum_congr (m := m) (rs := rs) (i := i) (fun j hj => h j (by omega))
    show msum m rs g i + wts m rs i * g (i : Int) = msum m rs g' i + wts m rs i * g' (i : Int)
    rw [ih, h i (by omega)]
theorem meanQ_congr {m : Int} {rs : List (Int × Int × Int)} {g g' : Int → Int} (h : ∀ j : Nat, j < rs.length → g j = g' j) : meanQ m rs g = meanQ m rs g' := by
  unfold meanQ; rw [msum_congr h]
theorem gX_at (xs : List Int) (j : Nat) : gX xs (j : Int) = xs.getD j 0 := by unfold gX; rw [Int.toNat_natCast]
theorem ref_mean (w : World) (m : Int) (o v : Value) (rs : List (Int × Int × Int)) (xs : List Int) (hR : RdF encR 3 w.heap.size w o rs) (hX : RdF encI 1 w.heap.size w v xs) (hv : VT m rs) (hl : xs.length = rs.length) (hx : ∀ i, i < rs.length → ab (gX xs i) ≤ 1000000000) : Ret Try.prog 55 [.agg #[.int .i64 m, o], v].toArray w (.agg (encP (meanQ m rs (gX xs))).toArray) := by
  refine Ret.of mixed tyTab Try.func55 rfl rfl ?_
  replace hR : RdF encR 3 (fnCx mixed tyTab Try.f55.ntmps w).B (fnCx mixed tyTab Try.f55.ntmps w).w0 o rs := hR
  replace hX : RdF encI 1 (fnCx mixed tyTab Try.f55.ntmps w).B (fnCx mixed tyTab Try.f55.ntmps w).w0 v xs := hX
  have hn := hv.n
  have hwl := wL_len m rs
  have hws := wsum_lt hv (i := rs.length) (Nat.le_refl _)
  refine W.sreg ?_
  refine WO.boxA rfl rfl (fun b1 hb1 => ?_)
  refine WO.alloc rfl rfl rfl (fun b2 hb2 => ?_)
  refine WO.nil ?_
  refine W.sreg ?_
  refine WO.loadA rfl rfl (Cells.own (Pick.tail (Pick.head))) rfl rfl ?_
  refine WO.call (Post := fun r Hq => ∃ x : Value, r = .tuple #[x, .int .i64 0] ∧ Hq = [OwE encI 2 1 x (wL m rs)]) rfl Try.call14 (fun L w hi => by have h := ref_Weights w m o rs (hR.later hi); rw [hv.to, show wA m rs = wL m rs by unfold wA; rw [if_pos hv.to]] at h; exact h) rfl ?_
  rintro _ _ ⟨wv, rfl, rfl⟩
  refine WO.p rfl rfl (WO.p rfl rfl (WO.p rfl rfl (WO.p rfl rfl (WO.p rfl rfl ?_))))
  refine WO.nil ?_
  refine W.fact (OwE.sl (enc := encI) (e := 2) (sz := 1) (by repeat (first | exact Pick.head | apply Pick.tail))) (fun hws2 => ?_)
  rw [hwl] at hws2
  refine W.sreg ?_
  refine WO.p rfl rfl (WO.p rfl rfl ?_)
  refine WO.nil ?_
  refine W.seq ?_
  refine W.sreg ?_
  refine WO.p rfl rfl ?_
  refine WO.nil ?_
  refine W.block ?_
  refine W.loop3 (fun (i : Nat) (s : Int) (a : Int) => i ≤ rs.length ∧ s = msum m rs (gX xs) i ∧ a = wsum m rs i)
    (fun (i : Nat) (s : Int) (a : Int) => [(9, .int .i64 (i : Int)), (8, .int .i64 a), (7, .int .i64 s), (5, wv), (4, .pointer (some ⟨b2, 0, none⟩)), (1, v)])
    (fun (i : Nat) (s : Int) (a : Int) => [pt b2 (.cells #[.int .i64 0, .int .i64 0] 36 (0, 0)), OwE encI 2 1 wv (wL m rs)])
    (fun (i : Nat) (s : Int) (a : Int) => rs.length - i) 0 0 0
    (by exact ⟨by omega, rfl, rfl⟩) ⟨rfl, rfl, rfl, rfl, rfl, rfl, trivial⟩ (by repeat (first | exact Sub.nil | refine Sub.cons (by repeat (first | exact Pick.head | apply Pick.tail)) ?_)) ?_
  rintro i s a ⟨hi, hs, ha⟩
  have hmi1 := msum_in hv hx (i := i) hi
  have hws1 := wsum_lt hv (i := i) hi
  unfold ab at hmi1
  subst hs
  subst ha
  refine W.seq ?_
  refine W.sreg ?_
  refine WO.p rfl rfl (WO.p rfl rfl ?_)
  refine' WO.len (n := _) rfl rfl ?hs rfl ?_
  case hs => (first | exact hX.sl | exact hws2)
  refine WO.p rfl rfl ?_
  refine WO.nil ?_
  refine W.cond_bl rfl (fun c1 => ?_) (fun c1 => ?_)
  · first
    | (exfalso; omega)
    | (refine W.skip ?_
       refine W.seq ?_
       refine W.block ?_
       refine W.seq ?_
       have hwi := wts_lt hv (i := i) (by omega)
       have hxi := hx i (by omega)
       have hmul := abs_mul (W := 1670880000) (w := wts m rs i) ⟨by omega, hwi.2⟩ hxi
       have hmi2 := msum_in hv hx (i := i + 1) (by omega)
       have hms : msum m rs (gX xs) (i + 1) = msum m rs (gX xs) i + wts m rs i * gX xs (i : Int) := rfl
       rw [hms] at hmi2
       rw [gX_at] at hmi2 hmul hms
       have hwe : wsum m rs (i + 1) = wsum m rs i + wts m rs i := rfl
       have hws3 := wsum_lt hv (i := i + 1) (by omega)
       unfold ab at hmi2
       refine W.drawD 10 [.r 0 [], .r 1 [], .r 2 [], .r 3 [], .b 4 [], .r 5 [], .r 6 [], .r 7 [], .b 8 [], .r 9 []] [] (A0 := []) (Sub.refl _) (by kernel_rfl) ?_ ?_
       · exact (ALok.r (ALok.r (ALok.r (ALok.r (ALok.b (ALok.r (ALok.r (ALok.r (ALok.b (ALok.r ALok.nil))))))))))
       refine' DT.r rfl rfl rfl ?hq ?_
       case hq =>
         refine WO.p rfl rfl ?_
         exact WO.nil ⟨rfl, rfl⟩
       refine' DT.r rfl rfl rfl ?hq ?_
       case hq =>
         refine WO.p rfl rfl ?_
         exact WO.nil ⟨rfl, rfl⟩
       refine' DT.r rfl rfl rfl ?hq ?_
       case hq =>
         refine WO.p rfl rfl ?_
         exact WO.nil ⟨rfl, rfl⟩
       refine' DT.r rfl rfl rfl ?hq ?_
       case hq =>
         refine' WO.indexAddr (n := _) (i := _) rfl rfl rfl ?hs ?h1 rfl ?_
         case hs => (first | exact hX.sl | exact hws2)
         case h1 => (first | omega | (simp; omega))
         exact WO.nil ⟨rfl, rfl⟩
       refine' DT.b rfl rfl rfl ?hq ?_
       case hq =>
         refine' WO.load (v := _) rfl rfl ?hc rfl ?_
         case hc => (first | (refine owE_cellS (e := 2) (i := i) (xs := wL m rs) ?_ ?_ (wL_at (i := i) (by omega)); (repeat (first | exact Sub.nil | refine Sub.cons (by repeat (first | exact Pick.head | apply Pick.tail)) ?_)); omega))
         exact WO.nil ⟨rfl, rfl⟩
       refine' DT.r rfl rfl rfl ?hq ?_
       case hq =>
         refine WO.p rfl rfl ?_
         exact WO.nil ⟨rfl, rfl⟩
       refine' DT.r rfl rfl rfl ?hq ?_
       case hq =>
         refine WO.p rfl rfl ?_
         exact WO.nil ⟨rfl, rfl⟩
       refine' DT.r rfl rfl rfl ?hq ?_
       case hq =>
         refine' WO.indexAddr (n := _) (i := _) rfl rfl rfl ?hs ?h1 rfl ?_
         case hs => (first | exact hX.sl | exact hws2)
         case h1 => (first | omega | (simp; omega))
         exact WO.nil ⟨rfl, rfl⟩
       refine' DT.b rfl rfl rfl ?hq ?_
       case hq =>
         refine' WO.load (v := _) rfl rfl ?hc rfl ?_
         case hc => (first | (refine hX.cell0 ?_ 0 ?_ <;> first | rfl | omega))
         exact WO.nil ⟨rfl, rfl⟩
       refine' DT.r rfl rfl rfl ?hq ?_
       case hq =>
         refine WO.ar rfl rfl rfl (by (first | (unfold in64; omega) | (unfold in64; omega))) rfl ?_
         exact WO.nil ⟨rfl, rfl⟩
       refine DT.nil [_, _] rfl ?_
       refine WO.ar rfl rfl rfl (by (first | (unfold in64; omega) | (unfold in64; omega))) rfl (WO.p rfl rfl ?_)
       refine WO.nil ?_
       refine W.region ?_
       refine WO.p rfl rfl (WO.p rfl rfl (WO.p rfl rfl ?_))
       refine' WO.indexAddr (n := _) (i := _) rfl rfl rfl ?hs ?h1 rfl ?_
       case hs => (first | exact hX.sl | exact hws2)
       case h1 => (first | omega | (simp; omega))
       refine' WO.load (v := _) rfl rfl ?hc rfl ?_
       case hc => (first | (refine owE_cellS (e := 2) (i := i) (xs := wL m rs) ?_ ?_ (wL_at (i := i) (by omega)); (repeat (first | exact Sub.nil | refine Sub.cons (by repeat (first | exact Pick.head | apply Pick.tail)) ?_)); omega))
       refine WO.ar rfl rfl rfl (by (first | (unfold in64; omega) | (unfold in64; omega))) rfl (WO.p rfl rfl ?_)
       refine WO.nil ?_
       refine W.region ?_
       refine WO.p rfl rfl (WO.ar rfl rfl rfl (by (first | (unfold in64; omega) | (unfold in64; omega))) rfl (WO.p rfl rfl ?_))
       refine WO.nil ?_
       refine' ⟨i + 1, _, _, ?hp, ?hmu, ⟨rfl, rfl, rfl, rfl, rfl, rfl, trivial⟩, ?hS⟩
       case hS => repeat (first | exact Sub.nil | refine Sub.cons (by repeat (first | exact Pick.head | apply Pick.tail)) ?_)
       case hp => exact ⟨by omega, hms.symm, hwe.symm⟩
       case hmu => omega)
  · first
    | (exfalso; omega)
    | (refine W.exit (blk_same ?_)
       obtain rfl : i = rs.length := by omega
       have hmi2 := msum_in hv hx (i := rs.length) (by omega)
       refine W.sreg ?_
       refine WO.p rfl rfl (WO.p rfl rfl ?_)
       refine WO.callR rfl Try.call42 (fun L w hi => ref_Fraction w _ _ (by omega) (by omega) (by unfold in64; omega)) rfl ?_
       refine WO.storeA rfl rfl rfl rfl Pick.head rfl rfl ?_
       refine WO.nil ?_
       refine W.ret ?_
       exact fin.ret (Res.one rfl (RV.cell rfl rfl rfl (Cells.own Pick.head))) rfl)
end Go.Proofs.Ytkiaepcklbidgaa
