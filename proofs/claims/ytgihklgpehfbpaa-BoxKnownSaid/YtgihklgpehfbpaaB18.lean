/-
  What is proved here: the program's terms, volume and value. Conditions: none; each contract states its own.
-/
import Derived.Test.YtgihklgpehfbpaaB17
namespace Go.Proofs.Ytgihklgpehfbpaa
open Go Go.TH
attribute [local irreducible] W WO pt
set_option maxRecDepth 10000
set_option maxHeartbeats 1000000
section
variable {what sp st : Int} {n m i k : Nat} {y : Int}
theorem tm0 (h : what = 0) : (.tuple #[.int .i64 (sp * i * (wgt i n * wgt k m * y)), .int .i64 (wgt i n * wgt k m * y)] : Value) = .tuple #[.int .i64 (tA what sp st n m i k y), .int .i64 (tB what st n m i k y)] := by
  subst h; simp [tA, tB, Int.mul_assoc]
theorem tm1 (h : what = 1) : (.tuple #[.int .i64 (st * k * (wgt i n * wgt k m * y)), .int .i64 (wgt i n * wgt k m * y)] : Value) = .tuple #[.int .i64 (tA what sp st n m i k y), .int .i64 (tB what st n m i k y)] := by
  subst h; simp [tA, tB, Int.mul_assoc]
theorem tm2 (h : what = 2) (hk : (k : Int) = (m : Int) - 1) : (.tuple #[.int .i64 (3 * st * st * k * (wgt i n * wgt k m * y) + 2 * wgt i n * y * y * y), .int .i64 (3 * st * (wgt i n * wgt k m * y))] : Value) = .tuple #[.int .i64 (tA what sp st n m i k y), .int .i64 (tB what st n m i k y)] := by
  have hk' : k + 1 = m := by omega
  subst h; simp [tA, tB, Int.mul_assoc, hk']
theorem tm3 (h : what = 2) (hk : ¬ (k : Int) = (m : Int) - 1) : (.tuple #[.int .i64 (3 * st * st * k * (wgt i n * wgt k m * y)), .int .i64 (3 * st * (wgt i n * wgt k m * y))] : Value) = .tuple #[.int .i64 (tA what sp st n m i k y), .int .i64 (tB what st n m i k y)] := by
  have hk' : ¬ k + 1 = m := by omega
  subst h; simp [tA, tB, Int.mul_assoc, hk']
end
theorem c_terms (w : World) (p : Addr) (sp st what : Int) (o : Value) (n m i k : Nat) (y : Int) (hP : RdC w.heap.size w p [.int .i64 sp, .int .i64 st, o, .int .i64 what]) (hw : 0 ≤ what ∧ what ≤ 2) (tf : TF sp st 0 0 n m i k y) (hy : 0 ≤ st) (hst : st ≤ 100) :
    Ret Try.prog 58 [.pointer (some p), placeV n m i k, .int .i64 y].toArray w (.tuple #[.int .i64 (tA what sp st n m i k y), .int .i64 (tB what st n m i k y)]) := by
  refine Ret.of mixed tyTab Try.func58 rfl rfl ?_
  replace hP : RdC (fnCx mixed tyTab Try.f58.ntmps w).B (fnCx mixed tyTab Try.f58.ntmps w).w0 p [.int .i64 sp, .int .i64 st, o, .int .i64 what] := hP
  refine W.sreg ?_
  refine WO.boxA rfl rfl (fun b1 hb1 => ?_)
  refine WO.p rfl rfl (WO.p rfl rfl ?_)
  refine WO.nil ?_
  refine W.sreg ?_
  refine WO.fieldL rfl rfl rfl (WO.load rfl rfl (Cell.own Pick.head rfl) rfl (WO.p rfl rfl (WO.ar rfl rfl rfl (by (first | exact in64B tf.b1 (by decide))) rfl (WO.p rfl rfl ?_))))
  refine WO.nil ?_
  refine W.seq ?_
  refine W.sreg ?_
  refine WO.p rfl rfl (WO.p rfl rfl (WO.field rfl rfl rfl ?_))
  refine' WO.load (v := _) rfl rfl ?hc rfl ?_
  case hc => (first | (refine hP.cell0 ?_ <;> rfl) | (refine hP.cellAt ?_ <;> rfl))
  refine WO.nil ?_
  refine W.block ?_
  refine W.sreg ?_
  refine WO.p rfl rfl (WO.p rfl rfl ?_)
  refine WO.nil ?_
  refine W.cond_bl rfl (fun c1 => ?_) (fun c1 => ?_)
  · first
    | (exfalso; omega)
    | (refine W.seq ?_
       refine W.drawD 12 [.r 0 [], .r 1 [], .r 2 [], .r 3 [], .b 4 [], .r 5 [], .b 6 [], .r 7 [], .r 8 [], .r 9 [], .r 10 [6], .r 11 [6]] [6] (A0 := []) (Sub.refl _) (by kernel_rfl) ?_ ?_
       · exact (ALok.r (ALok.r (ALok.r (ALok.r (ALok.b (ALok.r (ALok.b (ALok.r (ALok.r (ALok.r (ALok.r (ALok.r ALok.nil))))))))))))
       refine' DT.r rfl rfl rfl ?hq ?_
       case hq =>
         refine WO.p rfl rfl ?_
         exact WO.nil ⟨rfl, rfl⟩
       refine' DT.r rfl rfl rfl ?hq ?_
       case hq =>
         refine WO.p rfl rfl ?_
         exact WO.nil ⟨rfl, rfl⟩
       refine' DT.r rfl rfl rfl ?hq ?_
       case hq =>
         refine WO.field0 rfl rfl rfl ?_
         exact WO.nil ⟨rfl, rfl⟩
       refine' DT.r rfl rfl rfl ?hq ?_
       case hq =>
         refine WO.field0 rfl rfl rfl ?_
         exact WO.nil ⟨rfl, rfl⟩
       refine' DT.b rfl rfl rfl ?hq ?_
       case hq =>
         refine' WO.load (v := _) rfl rfl ?hc rfl ?_
         case hc => (first | (refine hP.cell0 ?_ <;> rfl) | (refine hP.cellAt ?_ <;> rfl))
         exact WO.nil ⟨rfl, rfl⟩
       refine' DT.r rfl rfl rfl ?hq ?_
       case hq =>
         refine WO.field0 rfl rfl rfl ?_
         exact WO.nil ⟨rfl, rfl⟩
       refine' DT.b rfl rfl rfl ?hq ?_
       case hq =>
         refine WO.load rfl rfl (Cell.own Pick.head rfl) rfl ?_
         exact WO.nil ⟨rfl, rfl⟩
       refine' DT.r rfl rfl rfl ?hq ?_
       case hq =>
         refine WO.ar rfl rfl rfl (by (first | exact in64B tf.a1 (by decide))) rfl ?_
         exact WO.nil ⟨rfl, rfl⟩
       refine' DT.r rfl rfl rfl ?hq ?_
       case hq =>
         refine WO.p rfl rfl ?_
         exact WO.nil ⟨rfl, rfl⟩
       refine' DT.r rfl rfl rfl ?hq ?_
       case hq =>
         refine WO.ar rfl rfl rfl (by (first | rw [← Int.mul_assoc]; exact in64B tf.a3 (by decide))) rfl ?_
         exact WO.nil ⟨rfl, rfl⟩
       refine' DT.r rfl rfl rfl ?hq ?_
       case hq =>
         refine WO.p rfl rfl ?_
         exact WO.nil ⟨rfl, rfl⟩
       refine' DT.r rfl rfl rfl ?hq ?_
       case hq =>
         refine WO.p rfl rfl ?_
         exact WO.nil ⟨rfl, rfl⟩
       refine DT.nil [_] rfl ?_
       refine WO.p rfl rfl ?_
       refine WO.nil ?_
       refine W.ret ?_
       refine fin.ret (Res.two rfl (RV.tmp rfl) (RV.tmp rfl)) ?_
       first | with_reducible exact tm0 (by assumption) | with_reducible exact tm1 (by assumption) | with_reducible exact tm2 (by omega) (by assumption) | with_reducible exact tm3 (by omega) (by assumption))
  · first
    | (exfalso; omega)
    | (refine W.sreg ?_
       refine WO.p rfl rfl (WO.p rfl rfl ?_)
       refine WO.nil ?_
       refine W.cond_bl rfl (fun c2 => ?_) (fun c2 => ?_)
       · first
         | (exfalso; omega)
         | (refine W.seq ?_
            refine W.drawD 12 [.r 0 [], .r 1 [], .r 2 [], .r 3 [], .b 4 [], .r 5 [], .b 6 [], .r 7 [], .r 8 [], .r 9 [], .r 10 [6], .r 11 [6]] [6] (A0 := []) (Sub.refl _) (by kernel_rfl) ?_ ?_
            · exact (ALok.r (ALok.r (ALok.r (ALok.r (ALok.b (ALok.r (ALok.b (ALok.r (ALok.r (ALok.r (ALok.r (ALok.r ALok.nil))))))))))))
            refine' DT.r rfl rfl rfl ?hq ?_
            case hq =>
              refine WO.p rfl rfl ?_
              exact WO.nil ⟨rfl, rfl⟩
            refine' DT.r rfl rfl rfl ?hq ?_
            case hq =>
              refine WO.p rfl rfl ?_
              exact WO.nil ⟨rfl, rfl⟩
            refine' DT.r rfl rfl rfl ?hq ?_
            case hq =>
              refine WO.field0 rfl rfl rfl ?_
              exact WO.nil ⟨rfl, rfl⟩
            refine' DT.r rfl rfl rfl ?hq ?_
            case hq =>
              refine WO.field rfl rfl rfl ?_
              exact WO.nil ⟨rfl, rfl⟩
            refine' DT.b rfl rfl rfl ?hq ?_
            case hq =>
              refine' WO.load (v := _) rfl rfl ?hc rfl ?_
              case hc => (first | (refine hP.cell0 ?_ <;> rfl) | (refine hP.cellAt ?_ <;> rfl))
              exact WO.nil ⟨rfl, rfl⟩
            refine' DT.r rfl rfl rfl ?hq ?_
            case hq =>
              refine WO.fieldL rfl rfl rfl ?_
              exact WO.nil ⟨rfl, rfl⟩
            refine' DT.b rfl rfl rfl ?hq ?_
            case hq =>
              refine WO.load rfl rfl (Cell.own Pick.head rfl) rfl ?_
              exact WO.nil ⟨rfl, rfl⟩
            refine' DT.r rfl rfl rfl ?hq ?_
            case hq =>
              refine WO.ar rfl rfl rfl (by (first | exact in64B tf.c1 (by decide))) rfl ?_
              exact WO.nil ⟨rfl, rfl⟩
            refine' DT.r rfl rfl rfl ?hq ?_
            case hq =>
              refine WO.p rfl rfl ?_
              exact WO.nil ⟨rfl, rfl⟩
            refine' DT.r rfl rfl rfl ?hq ?_
            case hq =>
              refine WO.ar rfl rfl rfl (by (first | rw [← Int.mul_assoc]; exact in64B tf.c3 (by decide))) rfl ?_
              exact WO.nil ⟨rfl, rfl⟩
            refine' DT.r rfl rfl rfl ?hq ?_
            case hq =>
              refine WO.p rfl rfl ?_
              exact WO.nil ⟨rfl, rfl⟩
            refine' DT.r rfl rfl rfl ?hq ?_
            case hq =>
              refine WO.p rfl rfl ?_
              exact WO.nil ⟨rfl, rfl⟩
            refine DT.nil [_] rfl ?_
            refine WO.p rfl rfl ?_
            refine WO.nil ?_
            refine W.ret ?_
            refine fin.ret (Res.two rfl (RV.tmp rfl) (RV.tmp rfl)) ?_
            first | with_reducible exact tm0 (by assumption) | with_reducible exact tm1 (by assumption) | with_reducible exact tm2 (by omega) (by assumption) | with_reducible exact tm3 (by omega) (by assumption))
       · first
         | (exfalso; omega)
         | (refine W.skip ?_
            refine W.seq ?_
            refine W.drawD 16 [.r 0 [], .r 1 [], .r 2 [], .r 3 [], .b 4 [], .r 5 [], .r 6 [], .r 7 [], .r 8 [], .r 9 [], .b 10 [], .r 11 [], .r 12 [], .b 13 [], .r 14 [], .r 15 []] [] (A0 := []) (Sub.refl _) (by kernel_rfl) ?_ ?_
            · exact (ALok.r (ALok.r (ALok.r (ALok.r (ALok.b (ALok.r (ALok.r (ALok.r (ALok.r (ALok.r (ALok.b (ALok.r (ALok.r (ALok.b (ALok.r (ALok.r ALok.nil))))))))))))))))
            refine' DT.r rfl rfl rfl ?hq ?_
            case hq =>
              refine WO.p rfl rfl ?_
              exact WO.nil ⟨rfl, rfl⟩
            refine' DT.r rfl rfl rfl ?hq ?_
            case hq =>
              refine WO.p rfl rfl ?_
              exact WO.nil ⟨rfl, rfl⟩
            refine' DT.r rfl rfl rfl ?hq ?_
            case hq =>
              refine WO.field0 rfl rfl rfl ?_
              exact WO.nil ⟨rfl, rfl⟩
            refine' DT.r rfl rfl rfl ?hq ?_
            case hq =>
              refine WO.field rfl rfl rfl ?_
              exact WO.nil ⟨rfl, rfl⟩
            refine' DT.b rfl rfl rfl ?hq ?_
            case hq =>
              refine' WO.load (v := _) rfl rfl ?hc rfl ?_
              case hc => (first | (refine hP.cell0 ?_ <;> rfl) | (refine hP.cellAt ?_ <;> rfl))
              exact WO.nil ⟨rfl, rfl⟩
            refine' DT.r rfl rfl rfl ?hq ?_
            case hq =>
              refine WO.ar rfl rfl rfl (by (first | (unfold in64; omega) | (unfold in64; omega))) rfl ?_
              exact WO.nil ⟨rfl, rfl⟩
            refine' DT.r rfl rfl rfl ?hq ?_
            case hq =>
              refine WO.p rfl rfl ?_
              exact WO.nil ⟨rfl, rfl⟩
            refine' DT.r rfl rfl rfl ?hq ?_
            case hq =>
              refine WO.p rfl rfl ?_
              exact WO.nil ⟨rfl, rfl⟩
            refine' DT.r rfl rfl rfl ?hq ?_
            case hq =>
              refine WO.field0 rfl rfl rfl ?_
              exact WO.nil ⟨rfl, rfl⟩
            refine' DT.r rfl rfl rfl ?hq ?_
            case hq =>
              refine WO.field rfl rfl rfl ?_
              exact WO.nil ⟨rfl, rfl⟩
            refine' DT.b rfl rfl rfl ?hq ?_
            case hq =>
              refine' WO.load (v := _) rfl rfl ?hc rfl ?_
              case hc => (first | (refine hP.cell0 ?_ <;> rfl) | (refine hP.cellAt ?_ <;> rfl))
              exact WO.nil ⟨rfl, rfl⟩
            refine' DT.r rfl rfl rfl ?hq ?_
            case hq =>
              refine WO.ar rfl rfl rfl (by (first | exact in64B tf.d1 (by decide))) rfl ?_
              exact WO.nil ⟨rfl, rfl⟩
            refine' DT.r rfl rfl rfl ?hq ?_
            case hq =>
              refine WO.fieldL rfl rfl rfl ?_
              exact WO.nil ⟨rfl, rfl⟩
            refine' DT.b rfl rfl rfl ?hq ?_
            case hq =>
              refine WO.load rfl rfl (Cell.own Pick.head rfl) rfl ?_
              exact WO.nil ⟨rfl, rfl⟩
            refine' DT.r rfl rfl rfl ?hq ?_
            case hq =>
              refine WO.ar rfl rfl rfl (by (first | exact in64B tf.d2 (by decide))) rfl ?_
              exact WO.nil ⟨rfl, rfl⟩
            refine' DT.r rfl rfl rfl ?hq ?_
            case hq =>
              refine WO.p rfl rfl ?_
              exact WO.nil ⟨rfl, rfl⟩
            refine DT.nil [_] rfl ?_
            refine WO.ar rfl rfl rfl (by (first | rw [← Int.mul_assoc]; exact in64B tf.d4 (by decide))) rfl (WO.p rfl rfl ?_)
            refine WO.nil ?_
            refine W.seq ?_
            refine W.sreg ?_
            refine WO.fieldL rfl rfl rfl (WO.load rfl rfl (Cell.own Pick.head rfl) rfl ?_)
            refine WO.nil ?_
            refine W.cond_bl rfl (fun c3 => ?_) (fun c3 => ?_)
            · first
              | (exfalso; omega)
              | (refine W.region ?_
                 refine WO.p rfl rfl (WO.fieldL rfl rfl rfl (WO.load rfl rfl (Cell.own Pick.head rfl) rfl (WO.ar rfl rfl rfl (by (first | have h := tf.w2; unfold in64; omega)) rfl (WO.p rfl rfl (WO.ar rfl rfl rfl (by (first | exact in64B tf.g1 (by decide))) rfl (WO.p rfl rfl (WO.ar rfl rfl rfl (by (first | exact in64B tf.g2 (by decide))) rfl (WO.p rfl rfl (WO.ar rfl rfl rfl (by (first | exact in64B tf.g3 (by decide))) rfl (WO.ar rfl rfl rfl (by (first | rw [← Int.mul_assoc]; exact in64B (addB tf.d4 tf.g3) (by decide))) rfl (WO.p rfl rfl ?_)))))))))))
                 refine WO.nil ?_
                 refine W.seq ?_
                 refine W.drawD 10 [.r 0 [], .r 1 [6], .r 2 [6], .r 3 [6], .r 4 [6], .b 5 [6], .r 6 [6], .r 7 [6], .r 8 [6], .r 9 [6]] [6] (A0 := []) (Sub.refl _) (by kernel_rfl) ?_ ?_
                 · exact (ALok.r (ALok.r (ALok.r (ALok.r (ALok.r (ALok.b (ALok.r (ALok.r (ALok.r (ALok.r ALok.nil))))))))))
                 refine' DT.r rfl rfl rfl ?hq ?_
                 case hq =>
                   refine WO.p rfl rfl ?_
                   exact WO.nil ⟨rfl, rfl⟩
                 refine' DT.r rfl rfl rfl ?hq ?_
                 case hq =>
                   refine WO.p rfl rfl ?_
                   exact WO.nil ⟨rfl, rfl⟩
                 refine' DT.r rfl rfl rfl ?hq ?_
                 case hq =>
                   refine WO.p rfl rfl ?_
                   exact WO.nil ⟨rfl, rfl⟩
                 refine' DT.r rfl rfl rfl ?hq ?_
                 case hq =>
                   refine WO.field0 rfl rfl rfl ?_
                   exact WO.nil ⟨rfl, rfl⟩
                 refine' DT.r rfl rfl rfl ?hq ?_
                 case hq =>
                   refine WO.field rfl rfl rfl ?_
                   exact WO.nil ⟨rfl, rfl⟩
                 refine' DT.b rfl rfl rfl ?hq ?_
                 case hq =>
                   refine' WO.load (v := _) rfl rfl ?hc rfl ?_
                   case hc => (first | (refine hP.cell0 ?_ <;> rfl) | (refine hP.cellAt ?_ <;> rfl))
                   exact WO.nil ⟨rfl, rfl⟩
                 refine' DT.r rfl rfl rfl ?hq ?_
                 case hq =>
                   refine WO.ar rfl rfl rfl (by (first | (unfold in64; omega) | (unfold in64; omega))) rfl ?_
                   exact WO.nil ⟨rfl, rfl⟩
                 refine' DT.r rfl rfl rfl ?hq ?_
                 case hq =>
                   refine WO.p rfl rfl ?_
                   exact WO.nil ⟨rfl, rfl⟩
                 refine' DT.r rfl rfl rfl ?hq ?_
                 case hq =>
                   refine WO.ar rfl rfl rfl (by (first | rw [← Int.mul_assoc]; exact in64B tf.e2 (by decide))) rfl ?_
                   exact WO.nil ⟨rfl, rfl⟩
                 refine' DT.r rfl rfl rfl ?hq ?_
                 case hq =>
                   refine WO.p rfl rfl ?_
                   exact WO.nil ⟨rfl, rfl⟩
                 refine DT.nil [_] rfl ?_
                 refine WO.p rfl rfl ?_
                 refine WO.nil ?_
                 refine W.ret ?_
                 refine fin.ret (Res.two rfl (RV.tmp rfl) (RV.tmp rfl)) ?_
                 first | with_reducible exact tm0 (by assumption) | with_reducible exact tm1 (by assumption) | with_reducible exact tm2 (by omega) (by assumption) | with_reducible exact tm3 (by omega) (by assumption))
            · first
              | (exfalso; omega)
              | (refine W.skip ?_
                 refine W.seq ?_
                 refine W.drawD 10 [.r 0 [], .r 1 [6], .r 2 [6], .r 3 [6], .r 4 [6], .b 5 [6], .r 6 [6], .r 7 [6], .r 8 [6], .r 9 [6]] [6] (A0 := []) (Sub.refl _) (by kernel_rfl) ?_ ?_
                 · exact (ALok.r (ALok.r (ALok.r (ALok.r (ALok.r (ALok.b (ALok.r (ALok.r (ALok.r (ALok.r ALok.nil))))))))))
                 refine' DT.r rfl rfl rfl ?hq ?_
                 case hq =>
                   refine WO.p rfl rfl ?_
                   exact WO.nil ⟨rfl, rfl⟩
                 refine' DT.r rfl rfl rfl ?hq ?_
                 case hq =>
                   refine WO.p rfl rfl ?_
                   exact WO.nil ⟨rfl, rfl⟩
                 refine' DT.r rfl rfl rfl ?hq ?_
                 case hq =>
                   refine WO.p rfl rfl ?_
                   exact WO.nil ⟨rfl, rfl⟩
                 refine' DT.r rfl rfl rfl ?hq ?_
                 case hq =>
                   refine WO.field0 rfl rfl rfl ?_
                   exact WO.nil ⟨rfl, rfl⟩
                 refine' DT.r rfl rfl rfl ?hq ?_
                 case hq =>
                   refine WO.field rfl rfl rfl ?_
                   exact WO.nil ⟨rfl, rfl⟩
                 refine' DT.b rfl rfl rfl ?hq ?_
                 case hq =>
                   refine' WO.load (v := _) rfl rfl ?hc rfl ?_
                   case hc => (first | (refine hP.cell0 ?_ <;> rfl) | (refine hP.cellAt ?_ <;> rfl))
                   exact WO.nil ⟨rfl, rfl⟩
                 refine' DT.r rfl rfl rfl ?hq ?_
                 case hq =>
                   refine WO.ar rfl rfl rfl (by (first | (unfold in64; omega) | (unfold in64; omega))) rfl ?_
                   exact WO.nil ⟨rfl, rfl⟩
                 refine' DT.r rfl rfl rfl ?hq ?_
                 case hq =>
                   refine WO.p rfl rfl ?_
                   exact WO.nil ⟨rfl, rfl⟩
                 refine' DT.r rfl rfl rfl ?hq ?_
                 case hq =>
                   refine WO.ar rfl rfl rfl (by (first | rw [← Int.mul_assoc]; exact in64B tf.e2 (by decide))) rfl ?_
                   exact WO.nil ⟨rfl, rfl⟩
                 refine' DT.r rfl rfl rfl ?hq ?_
                 case hq =>
                   refine WO.p rfl rfl ?_
                   exact WO.nil ⟨rfl, rfl⟩
                 refine DT.nil [_] rfl ?_
                 refine WO.p rfl rfl ?_
                 refine WO.nil ?_
                 refine W.ret ?_
                 refine fin.ret (Res.two rfl (RV.tmp rfl) (RV.tmp rfl)) ?_
                 first | with_reducible exact tm0 (by assumption) | with_reducible exact tm1 (by assumption) | with_reducible exact tm2 (by omega) (by assumption) | with_reducible exact tm3 (by omega) (by assumption))))
/-- a sum over places -/
def pSum (f : Nat × Nat → Int) (l : List (Nat × Nat)) : Int := l.foldl (fun s q => s + f q) 0
theorem pSum_app (f : Nat × Nat → Int) (l r : List (Nat × Nat)) : pSum f (l ++ r) = pSum f l + pSum f r := by
  have key : ∀ (r : List (Nat × Nat)) (a : Int), r.foldl (fun s q => s + f q) a = a + pSum f r := by
    intro r
    induction r with
    | nil => intro a; simp [pSum]
    | cons x r ih => intro a; simp only [pSum, List.foldl_cons]; rw [ih, ih (0 + f x)]; omega
  unfold pSum; rw [List.foldl_append, key]; rfl
theorem pSum_range (f : Nat × Nat → Int) (i : Nat) : ∀ k, pSum f ((List.range k).map fun k => (i, k)) = ps (fun k => f (i, k)) k
  | 0 => rfl
  | k + 1 => by rw [List.range_succ, List.map_append, pSum_app, pSum_range f i k]; simp [pSum, ps]
theorem pSum_plc (f : Nat × Nat → Int) (rows : List (List (Int × Int))) : ∀ i, pSum f (plcTo rows i) = ps (fun i => ps (fun k => f (i, k)) (rows.getD i []).length) i
  | 0 => rfl
  | i + 1 => by rw [plcTo_succ, pSum_app, pSum_plc f rows i, pSum_range]; rfl
theorem pSum_take {f : Nat × Nat → Int} {l : List (Nat × Nat)} {q : Nat} {x : Nat × Nat} (h : l[q]? = some x) : pSum f (l.take (q + 1)) = pSum f (l.take q) + f x := by
  have hl := (List.getElem?_eq_some_iff.1 h)
  rw [List.take_succ_eq_append_getElem hl.1, pSum_app, hl.2]; simp [pSum]
theorem pSum_bound {f : Nat × Nat → Int} {A B : Int} : ∀ {l : List (Nat × Nat)}, (∀ x ∈ l, -A ≤ f x ∧ f x ≤ B) → -(l.length * A) ≤ pSum f l ∧ pSum f l ≤ l.length * B
  | [], _ => by simp [pSum]
  | x :: l, h => by
    have h1 := pSum_bound (l := l) (fun y hy => h y (by simp [hy]))
    have h2 := h x (by simp)
    have e : pSum f (x :: l) = f x + pSum f l := by rw [show x :: l = [x] ++ l from rfl, pSum_app]; simp [pSum]
    rw [e]
    simp only [List.length_cons]
    have e1 : ((l.length + 1 : Nat) : Int) * B = l.length * B + B := by rw [Int.natCast_add, Int.add_mul]; simp
    have e2 : ((l.length + 1 : Nat) : Int) * A = l.length * A + A := by rw [Int.natCast_add, Int.add_mul]; simp
    omega
theorem plc_mem {rows : List (List (Int × Int))} {x : Nat × Nat} (h : x ∈ plc rows) : x.1 < rows.length ∧ x.2 < (rows.getD x.1 []).length := by
  unfold plc plcTo at h
  obtain ⟨i, hi, h2⟩ := List.mem_flatMap.1 h
  obtain ⟨k, hk, rfl⟩ := List.mem_map.1 h2
  exact ⟨by simpa using hi, by simpa using hk⟩
theorem plc_len {sp st : Int} {rows : List (List (Int × Int))} (hv : HV sp st rows) : (plc rows).length ≤ 60 := by
  have key : ∀ i, i ≤ rows.length → (plcTo rows i).length ≤ i * 6 := by
    intro i
    induction i with
    | zero => intro _; simp [plcTo]
    | succ i ih => intro h; rw [plcTo_len, hv.eq i (by omega)]; have := ih (by omega); have := hv.m; omega
  have := key rows.length (Nat.le_refl _)
  have := hv.n
  unfold plc; omega
theorem plcV_some {rows : List (List (Int × Int))} {q : Nat} {x : Value} (h : (plcV rows)[q]? = some x) : ∃ i k, (plc rows)[q]? = some (i, k) ∧ i < rows.length ∧ k < (rows.getD i []).length ∧ x = placeV rows.length (rows.getD i []).length i k := by
  unfold plcV at h
  rw [List.getElem?_map] at h
  cases hq : (plc rows)[q]? with
  | none => simp [hq] at h
  | some y =>
    simp [hq] at h
    have := plc_mem (List.mem_of_getElem? hq)
    exact ⟨y.1, y.2, rfl, this.1, this.2, by simpa using h.symm⟩
end Go.Proofs.Ytgihklgpehfbpaa

