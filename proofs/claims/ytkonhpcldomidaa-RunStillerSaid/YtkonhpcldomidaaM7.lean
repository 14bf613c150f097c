/-
  What is proved here: the table of times. Conditions: none; each contract states its own.
  What is proved here: plain: the table holds the least of all orders. Conditions: none; each theorem states its own.
  What is proved here: the reference's table. Conditions: none; each contract states its own.
  What is proved here: loops over maps. Conditions: none; each rule states its own.
  What is proved here: the least and the greatest number, the number of bits. Conditions: none; each contract states its own.
  What is proved here: plain: what a table of times must keep. Conditions: none; each theorem states its own.
  What is proved here: a table of times is checked. Conditions: none; each contract states its own.
-/
import Derived.Test.YtkonhpcldomidaaM6
import Derived.Maps.RangeRun
set_option linter.unusedVariables false
set_option linter.unusedSimpArgs false
namespace Go.Proofs.Ytkonhpcldomidaa
open Go Go.TH
attribute [local irreducible] W WO pt
set_option maxRecDepth 10000
set_option maxHeartbeats 1000000
section
variable (b : Int) (l : List Rn)
def stepM (f : Sk → Option Int) (set i : Nat) : Sk → Option Int := if hasB set i ∧ fow b l f set i < nev then updM f (set, i) (fow b l f set i) else f
def rowM (f : Sk → Option Int) (set : Nat) : Nat → Sk → Option Int
  | 0 => f
  | i + 1 => stepM b l (rowM f set i) set i
def tabM : Nat → Sk → Option Int
  | 0 => fun _ => none
  | s + 1 => rowM b l (tabM s) s l.length
/-- the table as a list -/
def tbT (f : Sk → Option Int) (c : Nat) : List Int := (List.range c).map fun x => atM f (x / l.length, x % l.length)
end
theorem foldmin_ge : ∀ (xs : List Int) (g : Int), 0 ≤ g → (∀ x ∈ xs, 0 ≤ x) → 0 ≤ xs.foldl min g
  | [], g, h, _ => h
  | x :: xs, g, h, hx => by
    rw [List.foldl_cons]
    exact foldmin_ge xs _ (by have := hx x (by simp); omega) (fun y hy => hx y (by simp [hy]))
theorem putL_nn {a b : Int} {l : List Rn} (hd : OkD a b l) {bf ov : Int} {k : Nat} (hk : k < l.length) : ∀ x ∈ putL b l bf ov k, 0 ≤ x := fun x hx => by
  unfold putL at hx
  split at hx
  · rw [List.mem_singleton.1 hx]
    have h1 := bgA_fr b l bf ov k
    have h2 := hd.at_ hk
    unfold OkR at h2
    omega
  simp at hx
theorem fow_nn {a b : Int} {l : List Rn} (hd : OkD a b l) (f : Sk → Option Int) (set : Nat) {k : Nat} (hk : k < l.length) : 0 ≤ fow b l f set k := by
  refine foldmin_ge _ _ (by decide) fun x hx => ?_
  unfold foT at hx
  rcases List.mem_append.1 hx with h | h
  · unfold foA at h
    split at h
    · exact putL_nn hd hk x h
    simp at h
  obtain ⟨j, _, h⟩ := List.mem_flatMap.1 h
  unfold fo1 at h
  split at h
  · exact putL_nn hd hk x h
  simp at h
theorem atM_upd (f : Sk → Option Int) (k : Sk) (v : Int) (k' : Sk) : atM (updM f k v) k' = if k' = k then v else atM f k' := by
  unfold atM updM
  split <;> rfl
theorem rowM_nn {a b : Int} {l : List Rn} (hd : OkD a b l) {f : Sk → Option Int} (h : ∀ s, 0 ≤ atM f s) (set : Nat) : ∀ {i : Nat}, i ≤ l.length → ∀ s, 0 ≤ atM (rowM b l f set i) s
  | 0, _, s => h s
  | i + 1, hi, s => by
    have ih := rowM_nn hd h set (show i ≤ l.length by omega)
    show 0 ≤ atM (stepM b l (rowM b l f set i) set i) s
    unfold stepM
    split
    · rw [atM_upd]
      split
      · exact fow_nn hd _ _ (by omega)
      exact ih s
    exact ih s
theorem tabM_nn {a b : Int} {l : List Rn} (hd : OkD a b l) : ∀ s k, 0 ≤ atM (tabM b l s) k
  | 0, k => by show 0 ≤ nev; decide
  | s + 1, k => rowM_nn hd (tabM_nn hd s) s (Nat.le_refl _) k
theorem tbT_len (l : List Rn) (f : Sk → Option Int) (c : Nat) : (tbT l f c).length = c := by simp [tbT]
theorem tbT_succ (l : List Rn) (f : Sk → Option Int) (c : Nat) : tbT l f (c + 1) = tbT l f c ++ [atM f (c / l.length, c % l.length)] := by unfold tbT; rw [List.range_succ, List.map_append]; rfl
theorem shl8 {n : Nat} (h : n ≤ 8) : 1 <<< n = 2 ^ n ∧ 2 ^ n ≤ 256 := ⟨by rw [Nat.shiftLeft_eq, Nat.one_mul], Nat.pow_le_pow_right (n := 2) (by omega) h⟩
theorem c_table {a b : Int} {v : Value} {l : List Rn} (hd : OkD a b l) (h8 : l.length ≤ 8) (w : World) (p : Addr) (hP : PlR w.heap.size w p a b v l) :
    Ct Try.prog 49 [.pointer (some p)].toArray w fun r w' => ∃ Hq, (∃ m : Nat, r = .map (some m) ∧ Hq = [MapP m (tabM b l (2 ^ l.length))]) ∧ Inv w [] Hq w' := by
  refine Ct.ofI (X := Nat) (p := fun m r => r = .map (some m)) (Hx := fun m => [MapP m (tabM b l (2 ^ l.length))]) mixed tyTab Try.func49 rfl rfl ?_
  have hP' : PlR (fnCx mixed tyTab Try.f49.ntmps w).B (fnCx mixed tyTab Try.f49.ntmps w).w0 p a b v l := hP
  have hsh := shl8 h8
  have hnv : nev = 1048576 := rfl
  generalize hN : 2 ^ l.length = N at hsh ⊢
  refine W.sreg ?_
  refine WO.p rfl rfl ?_
  refine WO.nil ?_
  refine W.sreg ?_
  refine WO.makeMap rfl (fun m => ?_)
  refine WO.chg (MapP.start .head) ?_
  refine WO.p rfl rfl ?_
  refine WO.nil ?_
  refine W.seq ?_
  refine W.sreg ?_
  refine WO.p rfl rfl (WO.p rfl rfl (WO.field0 rfl rfl rfl (WO.field rfl rfl rfl ?_)))
  refine' WO.load (v := _) rfl rfl ?hc rfl ?_
  case hc => (first | (refine hP'.c.cellAt (u := v) ?_; rfl))
  refine' WO.len (n := _) rfl rfl ?hs rfl ?_
  case hs => (first | exact hP'.r.sl)
  refine WO.shlN (a := 1) (s := l.length) rfl rfl (by show l.length ≤ 64; omega) (fit (by omega)) rfl ?_
  rw [hsh.1]
  refine WO.p rfl rfl ?_
  refine WO.nil ?_
  refine W.block ?_
  refine W.loop (fun (s : Nat) => s ≤ N)
    (fun (s : Nat) => [(0, .pointer (some p)), (3, .map (some m)), (15, .int .i64 (N : Int)), (16, .int .i64 (s : Int))])
    (fun (s : Nat) => [MapP m (tabM b l s)])
    (fun (s : Nat) => N - s) 0
    (by omega) ⟨rfl, rfl, rfl, rfl, trivial⟩ (by repeat (first | exact Sub.nil | refine Sub.cons (by repeat (first | exact Pick.head | apply Pick.tail)) ?_)) ?_
  rintro s hs
  refine W.sreg ?_
  refine WO.p rfl rfl ?_
  refine WO.nil ?_
  refine W.seq ?_
  refine W.cond_bl rfl (fun c1 => ?_) (fun c1 => ?_)
  · first
    | (exfalso; omega)
    | (refine W.skip ?_
       refine W.seq ?_
       refine W.block ?_
       refine W.sreg ?_
       refine WO.p rfl rfl (WO.p rfl rfl ?_)
       refine WO.nil ?_
       refine W.sreg ?_
       refine WO.p rfl rfl (WO.p rfl rfl (WO.field0 rfl rfl rfl (WO.field rfl rfl rfl ?_)))
       refine' WO.load (v := _) rfl rfl ?hc rfl ?_
       case hc => (first | (refine hP'.c.cellAt (u := v) ?_; rfl))
       refine' WO.len (n := _) rfl rfl ?hs rfl ?_
       case hs => (first | exact hP'.r.sl)
       refine WO.p rfl rfl ?_
       refine WO.nil ?_
       refine W.block ?_
       refine W.loop (fun (i : Nat) => i ≤ l.length)
         (fun (i : Nat) => [(0, .pointer (some p)), (3, .map (some m)), (4, .int .i64 (s : Int)), (15, .int .i64 (N : Int)), (16, .int .i64 (s : Int)), (24, .int .i64 (l.length : Int)), (25, .int .i64 (i : Int))])
         (fun (i : Nat) => [MapP m (rowM b l (tabM b l s) s i)])
         (fun (i : Nat) => l.length - i) 0
         (by omega) ⟨rfl, rfl, rfl, rfl, rfl, rfl, rfl, trivial⟩ (by repeat (first | exact Sub.nil | refine Sub.cons (by repeat (first | exact Pick.head | apply Pick.tail)) ?_)) ?_
       rintro i hi
       refine W.sreg ?_
       refine WO.p rfl rfl ?_
       refine WO.nil ?_
       refine W.seq ?_
       refine W.cond_bl rfl (fun c2 => ?_) (fun c2 => ?_)
       · first
         | (exfalso; omega)
         | (refine W.skip ?_
            refine W.seq ?_
            refine W.block ?_
            refine W.sreg ?_
            refine WO.p rfl rfl (WO.p rfl rfl ?_)
            refine WO.nil ?_
            refine W.sreg ?_
            refine WO.p rfl rfl (WO.p rfl rfl ?_)
            refine' WO.build (cs := _) rfl rfl rfl ?hf rfl ?_
            case hf => (conv => lhs; simp [-List.getD_eq_getElem?_getD, fillL, vcl, wrl, TTab.pl?.lget']) <;> rfl
            refine WO.alloc rfl rfl rfl (fun b1 hb1 => ?_)
            refine WO.storeA rfl rfl rfl rfl Pick.head rfl rfl ?_
            refine WO.nil ?_
            refine W.seq ?_
            have hil : i < l.length := by omega
            have hand := and1_le (s >>> i)
            have hs256 : s < 256 := by omega
            refine W.sreg ?_
            refine WO.p rfl rfl (WO.p rfl rfl ?_)
            refine WO.shrN rfl rfl (by show i ≤ 64; omega) rfl ?_
            refine WO.andN (b := 1) rfl rfl (Fits.shr (fit (by omega))) (fit (by omega)) rfl ?_
            refine WO.p rfl rfl ?_
            refine WO.nil ?_
            refine W.cond_bl rfl (fun c3 => ?_) (fun c3 => ?_)
            · first
              | (exfalso; omega)
              | (refine W.exit (blk_same ?_)
                 first | rw [show updM (rowM b l (tabM b l s) s i) (s, i) (fow b l (rowM b l (tabM b l s) s i) s i) = rowM b l (tabM b l s) s (i + 1) from (if_pos ⟨by unfold hasB; omega, by omega⟩).symm] | rw [show rowM b l (tabM b l s) s i = rowM b l (tabM b l s) s (i + 1) from (if_neg (fun h => by have h1 := h.1; have h2 := h.2; unfold hasB at h1; omega)).symm]
                 refine W.region ?_
                 refine WO.ar rfl rfl rfl (by (first | (unfold in64; omega) | (unfold in64; omega))) rfl (WO.p rfl rfl ?_)
                 refine WO.nil ?_
                 refine' ⟨i + 1, ?hp, ?hmu, ⟨rfl, rfl, rfl, rfl, rfl, rfl, rfl, trivial⟩, ?hS⟩
                 case hS => repeat (first | exact Sub.nil | refine Sub.cons (by repeat (first | exact Pick.head | apply Pick.tail)) ?_)
                 case hp => omega
                 case hmu => omega)
            first
            | (exfalso; omega)
            | (refine W.skip ?_
               refine W.sreg ?_
               refine WO.p rfl rfl (WO.p rfl rfl (WO.loadA rfl rfl (Cells.own Pick.head) rfl rfl ?_))
               refine WO.callR rfl Try.call53 (fun L w hi => c_follows hd h8 w p m (rowM b l (tabM b l s) s i) s i (hP'.later hi) (RdM.own (by repeat (first | exact Pick.head | apply Pick.tail)) hi) (rowM_nn hd (tabM_nn hd s) s (by omega)) hs256 hil) rfl ?_
               refine WO.p rfl rfl ?_
               refine WO.nil ?_
               refine W.sreg ?_
               refine WO.p rfl rfl (WO.p rfl rfl ?_)
               refine WO.nil ?_
               refine W.cond_bl rfl (fun c4 => ?_) (fun c4 => ?_)
               · first
                 | (exfalso; omega)
                 | (refine W.region ?_
                    refine WO.p rfl rfl (WO.loadA rfl rfl (Cells.own Pick.head) rfl rfl (WO.p rfl rfl ?_))
                    refine WO.mapUpd (k := (s, i)) rfl rfl rfl rfl rfl (by repeat (first | exact Pick.head | apply Pick.tail)) ?_
                    refine WO.nil ?_
                    first | rw [show updM (rowM b l (tabM b l s) s i) (s, i) (fow b l (rowM b l (tabM b l s) s i) s i) = rowM b l (tabM b l s) s (i + 1) from (if_pos ⟨by unfold hasB; omega, by omega⟩).symm] | rw [show rowM b l (tabM b l s) s i = rowM b l (tabM b l s) s (i + 1) from (if_neg (fun h => by have h1 := h.1; have h2 := h.2; unfold hasB at h1; omega)).symm]
                    refine W.region ?_
                    refine WO.ar rfl rfl rfl (by (first | (unfold in64; omega) | (unfold in64; omega))) rfl (WO.p rfl rfl ?_)
                    refine WO.nil ?_
                    refine' ⟨i + 1, ?hp, ?hmu, ⟨rfl, rfl, rfl, rfl, rfl, rfl, rfl, trivial⟩, ?hS⟩
                    case hS => repeat (first | exact Sub.nil | refine Sub.cons (by repeat (first | exact Pick.head | apply Pick.tail)) ?_)
                    case hp => omega
                    case hmu => omega)
               first
               | (exfalso; omega)
               | (refine W.skip ?_
                  first | rw [show updM (rowM b l (tabM b l s) s i) (s, i) (fow b l (rowM b l (tabM b l s) s i) s i) = rowM b l (tabM b l s) s (i + 1) from (if_pos ⟨by unfold hasB; omega, by omega⟩).symm] | rw [show rowM b l (tabM b l s) s i = rowM b l (tabM b l s) s (i + 1) from (if_neg (fun h => by have h1 := h.1; have h2 := h.2; unfold hasB at h1; omega)).symm]
                  refine W.region ?_
                  refine WO.ar rfl rfl rfl (by (first | (unfold in64; omega) | (unfold in64; omega))) rfl (WO.p rfl rfl ?_)
                  refine WO.nil ?_
                  refine' ⟨i + 1, ?hp, ?hmu, ⟨rfl, rfl, rfl, rfl, rfl, rfl, rfl, trivial⟩, ?hS⟩
                  case hS => repeat (first | exact Sub.nil | refine Sub.cons (by repeat (first | exact Pick.head | apply Pick.tail)) ?_)
                  case hp => omega
                  case hmu => omega)))
       first
       | (exfalso; omega)
       | (refine W.exit (blk_same ?_)
          rw [show rowM b l (tabM b l s) s i = tabM b l (s + 1) by rw [show i = l.length by omega]; rfl]
          refine W.region ?_
          refine WO.ar rfl rfl rfl (by (first | (unfold in64; omega) | (unfold in64; omega))) rfl (WO.p rfl rfl ?_)
          refine WO.nil ?_
          refine' ⟨s + 1, ?hp, ?hmu, ⟨rfl, rfl, rfl, rfl, trivial⟩, ?hS⟩
          case hS => repeat (first | exact Sub.nil | refine Sub.cons (by repeat (first | exact Pick.head | apply Pick.tail)) ?_)
          case hp => omega
          case hmu => omega))
  first
  | (exfalso; omega)
  | (refine W.exit (blk_same ?_)
     refine W.sreg ?_
     refine WO.p rfl rfl (WO.p rfl rfl ?_)
     refine WO.nil ?_
     refine W.ret ?_
     rw [show s = N by omega]
     exact fin.ret (Res.one rfl (RV.tmp rfl)) ⟨m, rfl, fun h hs => Sub.sat (by repeat (first | exact Sub.nil | refine Sub.cons (by repeat (first | exact Pick.head | apply Pick.tail)) ?_)) hs⟩)
/-- what Table answers -/
def TbL (a b : Int) (l : List Rn) : List Int := if chkD a b l ≠ 0 then [] else tbT l (tabM b l (2 ^ l.length)) (2 ^ l.length * l.length)
theorem c_Table (w : World) (v : Value) (a b : Int) (l : List Rn) (hR : RdF encR 6 w.heap.size w v l) : Ct Try.prog 21 [dayV a b v].toArray w fun r w' => ∃ Hq, (∃ x : Value, r = .tuple #[x, .int .i64 (chkD a b l)] ∧ Hq = [OwE encI 2 1 x (TbL a b l)]) ∧ Inv w [] Hq w' := by
  refine Ct.ofI (X := Value) (p := fun x r => r = .tuple #[x, .int .i64 (chkD a b l)]) (Hx := fun x => [OwE encI 2 1 x (TbL a b l)]) mixed tyTab Try.func21 rfl rfl ?_
  replace hR : RdF encR 6 (fnCx mixed tyTab Try.f21.ntmps w).B (fnCx mixed tyTab Try.f21.ntmps w).w0 v l := hR
  have ho := hR.sl.oc
  refine W.sreg ?_
  refine WO.boxA rfl rfl (fun b1 hb1 => ?_)
  refine WO.p rfl rfl (WO.p rfl rfl ?_)
  refine WO.nil ?_
  refine W.sreg ?_
  refine WO.loadA rfl rfl (Cells.own Pick.head) rfl rfl ?_
  refine WO.call rfl Try.call45 (fun L w hi => c_newPlanner w v a b l (hR.later hi)) rfl ?_
  rintro _ _ ⟨pv, rfl, rfl⟩
  refine WO.p rfl rfl (WO.p rfl rfl (WO.p rfl rfl (WO.p rfl rfl (WO.p rfl rfl ?_))))
  refine WO.nil ?_
  refine W.seq ?_
  refine W.sreg ?_
  refine WO.p rfl rfl (WO.p rfl rfl ?_)
  refine WO.nil ?_
  refine W.cond_bl rfl (fun c1 => ?_) (fun c1 => ?_)
  · first
    | (exfalso; omega)
    | (refine W.sreg ?_
       refine WO.p rfl rfl (WO.p rfl rfl (WO.p rfl rfl ?_))
       refine WO.nil ?_
       refine W.ret ?_
       first | (have e1 : TbL a b l = [] := if_pos (by assumption); rw [e1]; exact fin.ret (Res.two rfl (RV.tmp rfl) (RV.tmp rfl)) ⟨_, rfl, fun h hs => Sub.sat (.cons .head .nil) (owNil (enc := encI) (e := 2) (sz := 1) h hs)⟩) | (have e0 : chkD a b l = 0 := (by omega); have e1 : TbL a b l = tbT l (tabM b l N) (N * l.length) := (by unfold TbL; rw [if_neg (by omega), hN]); rw [e1, e0, show N = s by omega]; exact fin.ret (Res.two rfl (RV.tmp rfl) (RV.tmp rfl)) ⟨_, rfl, fun h hs => Sub.sat (by repeat (first | exact Sub.nil | refine Sub.cons (by repeat (first | exact Pick.head | apply Pick.tail)) ?_)) hs⟩))
  first
  | (exfalso; omega)
  | (refine W.skip ?_
     obtain ⟨hln, hd⟩ := chkD0.1 (show chkD a b l = 0 by omega)
     have hsh := shl8 hln.2
     have hn0 : 0 < l.length := by omega
     refine W.chgE (PtrP.open (by repeat (first | exact Pick.head | apply Pick.tail)) (show chkD a b l = 0 by omega)) ?_
     rintro q rfl
     refine W.sreg ?_
     refine WO.p rfl rfl ?_
     refine WO.call rfl Try.call49 (fun L w hi => c_table hd hln.2 w ⟨q, 0, none⟩ (PlR.own (by repeat (first | exact Pick.head | apply Pick.tail)) hR hi)) rfl ?_
     rintro _ _ ⟨m, rfl, rfl⟩
     refine WO.p rfl rfl ?_
     refine WO.nil ?_
     refine W.sreg ?_
     refine WO.p rfl rfl ?_
     refine WO.nil ?_
     refine W.seq ?_
     refine W.sreg ?_
     refine WO.p rfl rfl (WO.p rfl rfl (WO.field0 rfl rfl rfl (WO.field rfl rfl rfl ?_)))
     refine' WO.load (v := _) rfl rfl ?hc rfl ?_
     case hc => (first | (refine ownP (q := q) (cs := plC a b v (gW b l)) (t := 75) (fr := (0, 0)) (k := 2) (v := v) ?_ rfl; exact (by repeat (first | exact Sub.nil | refine Sub.cons (by repeat (first | exact Pick.head | apply Pick.tail)) ?_))))
     refine' WO.len (n := _) rfl rfl ?hs rfl ?_
     case hs => (first | exact hR.sl)
     refine WO.shlN (a := 1) (s := l.length) rfl rfl (by show l.length ≤ 64; omega) (fit (by omega)) rfl ?_
     rw [hsh.1]
     generalize hN : 2 ^ l.length = N at hsh
     refine WO.p rfl rfl ?_
     refine WO.nil ?_
     refine W.block ?_
     refine W.chg (owNil (enc := encI) (e := 2) (sz := 1)) ?_
     rw [show OwE encI 2 1 (.slice none 0 0) ([] : List Int) = OwE encI 2 1 (.slice none 0 0) (tbT l (tabM b l N) (0 * l.length)) by rw [Nat.zero_mul]; rfl]
     refine W.loop2 (fun (s : Nat) (out : Value) => s ≤ N)
       (fun (s : Nat) (out : Value) => [(4, .pointer (some ⟨q, 0, none⟩)), (6, .map (some m)), (7, out), (26, .int .i64 (N : Int)), (27, .int .i64 (s : Int))])
       (fun (s : Nat) (out : Value) => [pt q (.cells (plC a b v (gW b l)).toArray 75 (0, 0)), MapP m (tabM b l N), OwE encI 2 1 out (tbT l (tabM b l N) (s * l.length))])
       (fun (s : Nat) (out : Value) => N - s) 0 (.slice none 0 0)
       (by omega) ⟨rfl, rfl, rfl, rfl, rfl, trivial⟩ (by repeat (first | exact Sub.nil | refine Sub.cons (by repeat (first | exact Pick.head | apply Pick.tail)) ?_)) ?_
     rintro s out hs
     refine W.sreg ?_
     refine WO.p rfl rfl ?_
     refine WO.nil ?_
     refine W.seq ?_
     refine W.cond_bl rfl (fun c2 => ?_) (fun c2 => ?_)
     · first
       | (exfalso; omega)
       | (refine W.skip ?_
          refine W.seq ?_
          refine W.block ?_
          refine W.sreg ?_
          refine WO.p rfl rfl (WO.p rfl rfl ?_)
          refine WO.nil ?_
          refine W.sreg ?_
          refine WO.p rfl rfl (WO.p rfl rfl (WO.field0 rfl rfl rfl (WO.fieldL rfl rfl rfl (WO.load rfl rfl (Cell.own Pick.head rfl) rfl ?_))))
          refine' WO.len (n := _) rfl rfl ?hs rfl ?_
          case hs => (first | exact hR.sl)
          refine WO.p rfl rfl ?_
          refine WO.nil ?_
          refine W.block ?_
          refine W.loop2 (fun (i : Nat) (out : Value) => i ≤ l.length)
            (fun (i : Nat) (out : Value) => [(4, .pointer (some ⟨q, 0, none⟩)), (6, .map (some m)), (7, out), (8, .int .i64 (s : Int)), (26, .int .i64 (N : Int)), (27, .int .i64 (s : Int)), (35, .int .i64 (l.length : Int)), (36, .int .i64 (i : Int))])
            (fun (i : Nat) (out : Value) => [pt q (.cells (plC a b v (gW b l)).toArray 75 (0, 0)), MapP m (tabM b l N), OwE encI 2 1 out (tbT l (tabM b l N) (s * l.length + i))])
            (fun (i : Nat) (out : Value) => l.length - i) 0 _
            (by omega) ⟨rfl, rfl, rfl, rfl, rfl, rfl, rfl, rfl, trivial⟩ (by repeat (first | exact Sub.nil | refine Sub.cons (by repeat (first | exact Pick.head | apply Pick.tail)) ?_)) ?_
          rintro i out hi
          refine W.sreg ?_
          refine WO.p rfl rfl ?_
          refine WO.nil ?_
          refine W.seq ?_
          refine W.cond_bl rfl (fun c3 => ?_) (fun c3 => ?_)
          · first
            | (exfalso; omega)
            | (refine W.skip ?_
               refine W.seq ?_
               refine W.block ?_
               refine W.sreg ?_
               refine WO.p rfl rfl (WO.p rfl rfl ?_)
               refine WO.nil ?_
               have hil : i < l.length := by omega
               have hdm : (s * l.length + i) / l.length = s ∧ (s * l.length + i) % l.length = i := by rw [Nat.mul_comm, Nat.mul_add_div hn0, Nat.mul_add_mod, Nat.div_eq_of_lt hil, Nat.mod_eq_of_lt hil]; exact ⟨rfl, rfl⟩
               have htl : s * l.length ≤ 256 * 8 := Nat.mul_le_mul (by omega) hln.2
               refine W.region ?_
               refine WO.p rfl rfl (WO.p rfl rfl (WO.p rfl rfl (WO.p rfl rfl ?_)))
               refine' WO.build (cs := _) rfl rfl rfl ?hf rfl ?_
               case hf => (conv => lhs; simp [-List.getD_eq_getElem?_getD, fillL, vcl, wrl, TTab.pl?.lget']) <;> rfl
               refine WO.callR rfl Try.call50 (fun L w hi => c_at w m (tabM b l N) (s, i) (RdM.own (by repeat (first | exact Pick.head | apply Pick.tail)) hi)) rfl ?_
               refine' WO.buildSl (cs := _) rfl rfl rfl rfl ?hf rfl rfl ?hl rfl (fun v2 => ?_)
               case hf => (conv => lhs; simp [-List.getD_eq_getElem?_getD, fillL, vcl, wrl, TTab.pl?.lget']) <;> rfl
               case hl => rfl
               refine' WO.appendE (enc := encI) (m := 1) (xs := tbT l (tabM b l N) (s * l.length + i)) (ys := [atM (tabM b l N) (s, i)]) encI_ok rfl rfl rfl rfl rfl (by repeat (first | exact Pick.head | apply Pick.tail)) (isSl_lit (by omega) (fun _ => ⟨_, _, rfl⟩)) (by omega) rfl (OwC.cells .head) (by rw [tbT_len]; omega) (by rw [tbT_len]; omega) rfl (fun g c => ?_)
               rw [show tbT l (tabM b l N) (s * l.length + i) ++ [atM (tabM b l N) (s, i)] = tbT l (tabM b l N) (s * l.length + (i + 1)) by rw [show s * l.length + (i + 1) = (s * l.length + i) + 1 from rfl, tbT_succ, hdm.1, hdm.2]]
               refine WO.p rfl rfl ?_
               refine WO.nil ?_
               refine W.region ?_
               refine WO.ar rfl rfl rfl (by (first | (unfold in64; omega) | (unfold in64; omega))) rfl (WO.p rfl rfl ?_)
               refine WO.nil ?_
               refine' ⟨i + 1, _, ?hp, ?hmu, ⟨rfl, rfl, rfl, rfl, rfl, rfl, rfl, rfl, trivial⟩, ?hS⟩
               case hS => repeat (first | exact Sub.nil | refine Sub.cons (by repeat (first | exact Pick.head | apply Pick.tail)) ?_)
               case hp => omega
               case hmu => omega)
          first
          | (exfalso; omega)
          | (refine W.exit (blk_same ?_)
             rw [show s * l.length + i = (s + 1) * l.length by rw [Nat.add_mul]; omega]
             refine W.region ?_
             refine WO.ar rfl rfl rfl (by (first | (unfold in64; omega) | (unfold in64; omega))) rfl (WO.p rfl rfl ?_)
             refine WO.nil ?_
             refine' ⟨s + 1, _, ?hp, ?hmu, ⟨rfl, rfl, rfl, rfl, rfl, trivial⟩, ?hS⟩
             case hS => repeat (first | exact Sub.nil | refine Sub.cons (by repeat (first | exact Pick.head | apply Pick.tail)) ?_)
             case hp => omega
             case hmu => omega))
     first
     | (exfalso; omega)
     | (refine W.exit (blk_same ?_)
        refine W.sreg ?_
        refine WO.p rfl rfl (WO.p rfl rfl (WO.p rfl rfl ?_))
        refine WO.nil ?_
        refine W.ret ?_
        first | (have e1 : TbL a b l = [] := if_pos (by assumption); rw [e1]; exact fin.ret (Res.two rfl (RV.tmp rfl) (RV.tmp rfl)) ⟨_, rfl, fun h hs => Sub.sat (.cons .head .nil) (owNil (enc := encI) (e := 2) (sz := 1) h hs)⟩) | (have e0 : chkD a b l = 0 := (by omega); have e1 : TbL a b l = tbT l (tabM b l N) (N * l.length) := (by unfold TbL; rw [if_neg (by omega), hN]); rw [e1, e0, show N = s by omega]; exact fin.ret (Res.two rfl (RV.tmp rfl) (RV.tmp rfl)) ⟨_, rfl, fun h hs => Sub.sat (by repeat (first | exact Sub.nil | refine Sub.cons (by repeat (first | exact Pick.head | apply Pick.tail)) ?_)) hs⟩)))
end Go.Proofs.Ytkonhpcldomidaa
namespace Go.Proofs.Ytkonhpcldomidaa
open Go Go.TH
set_option maxRecDepth 10000
set_option maxHeartbeats 1000000
theorem foldmin_mem : ∀ (xs : List Int) (g : Int), xs.foldl min g ≤ g ∧ (∀ x ∈ xs, xs.foldl min g ≤ x) ∧ (xs.foldl min g = g ∨ xs.foldl min g ∈ xs)
  | [], g => ⟨Int.le_refl _, fun x h => by simp at h, .inl rfl⟩
  | x :: xs, g => by
    rw [List.foldl_cons]
    obtain ⟨h1, h2, h3⟩ := foldmin_mem xs (min g x)
    refine ⟨by omega, fun y hy => ?_, ?_⟩
    · rcases List.mem_cons.1 hy with rfl | hy
      · omega
      exact h2 y hy
    rcases h3 with h | h
    · rcases Int.le_total g x with g1 | g1
      · exact .inl (by omega)
      exact .inr (by rw [h, Int.min_eq_right g1]; simp)
    exact .inr (List.mem_cons_of_mem _ h)
/-- a set's bits -/
theorem hasB_tb {s i : Nat} : hasB s i ↔ s.testBit i = true := by
  unfold hasB
  rw [Nat.testBit_eq_decide_div_mod_eq, Nat.shiftRight_eq_div_pow, Nat.and_one_is_mod]
  simp
theorem one_tb {i j : Nat} : (1 <<< i).testBit j = decide (i = j) := by rw [Nat.one_shiftLeft, Nat.testBit_two_pow]
theorem wo_tb (s k j : Nat) : (wo s k).testBit j = (s.testBit j && !decide (k = j)) := by
  unfold wo
  rw [Nat.testBit_xor, Nat.testBit_and, one_tb]
  cases s.testBit j <;> cases decide (k = j) <;> rfl
theorem wo_less {s k : Nat} (h : hasB s k) : wo s k < s := by
  have h1 : wo s k &&& s = wo s k := Nat.eq_of_testBit_eq fun j => by
    rw [Nat.testBit_and, wo_tb]
    cases s.testBit j <;> simp
  have h2 : wo s k ≤ s := h1 ▸ Nat.and_le_right
  have h3 : wo s k ≠ s := fun e => by
    have h4 := wo_tb s k k
    rw [e, hasB_tb.1 h] at h4
    simp at h4
  omega
theorem wo_not {s k : Nat} : ¬ hasB (wo s k) k := by rw [hasB_tb, wo_tb]; simp
theorem wo_or {s k : Nat} (h : hasB s k) : wo s k ||| 1 <<< k = s := by
  refine Nat.eq_of_testBit_eq fun j => ?_
  rw [Nat.testBit_or, wo_tb, one_tb]
  by_cases e : k = j
  · subst e; rw [hasB_tb.1 h]; simp
  simp [e]
theorem or_wo {s k : Nat} (h : ¬ hasB s k) : wo (s ||| 1 <<< k) k = s := by
  refine Nat.eq_of_testBit_eq fun j => ?_
  rw [wo_tb, Nat.testBit_or, one_tb]
  by_cases e : k = j
  · subst e
    have : s.testBit k = false := by
      cases hb : s.testBit k with
      | false => rfl
      | true => exact absurd (hasB_tb.2 hb) h
    rw [this]; simp
  simp [e]
theorem or_has {s k : Nat} : hasB (s ||| 1 <<< k) k := by rw [hasB_tb, Nat.testBit_or, one_tb]; simp
/-- the set of an order's runs -/
def bsO (o : List Int) : Nat := o.foldl (fun s x => s ||| (1 <<< x.toNat)) 0
theorem bsO_snoc (o : List Int) (x : Int) : bsO (o ++ [x]) = bsO o ||| 1 <<< x.toNat := by unfold bsO; rw [List.foldl_append]; rfl
theorem bsO_tb {l : List Rn} {o : List Int} (h : ∀ x ∈ o, In l x) (j : Nat) : hasB (bsO o) j ↔ (j : Int) ∈ o := by
  rw [hasB_tb]
  have gen : ∀ (o : List Int) (s : Nat), (∀ x ∈ o, In l x) → ((o.foldl (fun s x => s ||| (1 <<< x.toNat)) s).testBit j = true ↔ s.testBit j = true ∨ (j : Int) ∈ o) := by
    intro o
    induction o with
    | nil => intro s _; simp
    | cons x o ih =>
      intro s hx
      have h1 := hx x (by simp)
      unfold In at h1
      rw [List.foldl_cons, ih _ (fun y hy => hx y (by simp [hy])), Nat.testBit_or, one_tb, List.mem_cons]
      simp only [Bool.or_eq_true, decide_eq_true_eq]
      constructor
      · rintro ((h | h) | h)
        · exact .inl h
        · exact .inr (.inl (by omega))
        exact .inr (.inr h)
      rintro (h | h | h)
      · exact .inl (.inl h)
      · exact .inl (.inr (by omega))
      exact .inr h
  unfold bsO
  rw [gen o 0 h]
  simp
theorem bsO_lt {l : List Rn} {o : List Int} (h : ∀ x ∈ o, In l x) : bsO o < 2 ^ l.length := by
  refine Nat.lt_pow_two_of_testBit _ fun i hi => ?_
  cases hb : (bsO o).testBit i with
  | false => rfl
  | true =>
    have h1 := h _ ((bsO_tb h i).1 (hasB_tb.2 hb))
    unfold In at h1
    omega
section
variable {b : Int} {l : List Rn}
theorem fow_congr {f f' : Sk → Option Int} {s i : Nat} (h : ∀ j, f (wo s i, j) = f' (wo s i, j)) : fow b l f s i = fow b l f' s i := by
  have h1 : ∀ j, fo1 b l f s i j = fo1 b l f' s i j := fun j => by unfold fo1 atM; rw [h j]
  have h2 : fo1 b l f s i = fo1 b l f' s i := funext h1
  unfold fow foT
  rw [h2]
theorem stepM_o (f : Sk → Option Int) (s i : Nat) {k : Sk} (h : k ≠ (s, i)) : stepM b l f s i k = f k := by
  unfold stepM; split
  · unfold updM; exact if_neg h
  rfl
theorem rowM_o (f : Sk → Option Int) (s : Nat) {k : Sk} (h : k.1 ≠ s) : ∀ i, rowM b l f s i k = f k
  | 0 => rfl
  | i + 1 => by
    show stepM b l (rowM b l f s i) s i k = f k
    rw [stepM_o _ _ _ (fun e => h (by rw [e])), rowM_o f s h i]
theorem rowM_hi (f : Sk → Option Int) (s : Nat) {j : Nat} : ∀ i, i ≤ j → rowM b l f s i (s, j) = f (s, j)
  | 0, _ => rfl
  | i + 1, h => by
    show stepM b l (rowM b l f s i) s i (s, j) = f (s, j)
    rw [stepM_o _ _ _ (fun e => by have := congrArg Prod.snd e; simp at this; omega), rowM_hi f s i (by omega)]
theorem rowM_lo (f : Sk → Option Int) (s : Nat) {j : Nat} : ∀ i, j < i → rowM b l f s i (s, j) = rowM b l f s (j + 1) (s, j)
  | 0, h => by omega
  | i + 1, h => by
    rcases Nat.lt_or_ge j i with g | g
    · show stepM b l (rowM b l f s i) s i (s, j) = _
      rw [stepM_o _ _ _ (fun e => by have := congrArg Prod.snd e; simp at this; omega), rowM_lo f s i g]
    rw [show i = j by omega]
theorem tabM_hi {s : Nat} {k : Sk} : ∀ n, n ≤ k.1 → tabM b l n k = none
  | 0, _ => rfl
  | n + 1, h => by
    show rowM b l (tabM b l n) n l.length k = none
    rw [rowM_o _ _ (by omega), tabM_hi (s := s) n (by omega)]
theorem tabM_lo {k : Sk} : ∀ n, k.1 < n → tabM b l n k = tabM b l (k.1 + 1) k
  | 0, h => by omega
  | n + 1, h => by
    rcases Nat.lt_or_ge k.1 n with g | g
    · show rowM b l (tabM b l n) n l.length k = _
      rw [rowM_o _ _ (by omega), tabM_lo n g]
    rw [show n = k.1 by omega]
/-- the table is made of itself -/
theorem tabM_eq {N s i : Nat} (hs : s < N) (hi : i < l.length) : tabM b l N (s, i) = if hasB s i ∧ fow b l (tabM b l N) s i < nev then some (fow b l (tabM b l N) s i) else none := by
  rw [tabM_lo (k := (s, i)) N hs]
  show rowM b l (tabM b l s) s l.length (s, i) = _
  rw [rowM_lo _ _ _ hi]
  show stepM b l (rowM b l (tabM b l s) s i) s i (s, i) = _
  unfold stepM
  by_cases hh : hasB s i
  · have hw := wo_less hh
    have hc : fow b l (rowM b l (tabM b l s) s i) s i = fow b l (tabM b l N) s i := fow_congr fun j => by
      rw [rowM_o _ _ (by show wo s i ≠ s; omega), tabM_lo (k := (wo s i, j)) s hw, tabM_lo (k := (wo s i, j)) N (by show wo s i < N; omega)]
    rw [hc]
    by_cases h2 : fow b l (tabM b l N) s i < nev
    · rw [if_pos ⟨hh, h2⟩, if_pos ⟨hh, h2⟩]
      unfold updM; rw [if_pos rfl]
    rw [if_neg (fun h => h2 h.2), if_neg (fun h => h2 h.2), rowM_hi _ _ _ (Nat.le_refl _), tabM_hi (s := s) s (Nat.le_refl _)]
  rw [if_neg (fun h => hh h.1), if_neg (fun h => hh h.1), rowM_hi _ _ _ (Nat.le_refl _), tabM_hi (s := s) s (Nat.le_refl _)]
theorem atM_tab {N s i : Nat} (hs : s < N) (hi : i < l.length) : atM (tabM b l N) (s, i) = if hasB s i then min (fow b l (tabM b l N) s i) nev else nev := by
  have hf : fow b l (tabM b l N) s i ≤ nev := (foldmin_mem _ _).1
  have e : ∀ f : Sk → Option Int, atM f (s, i) = (f (s, i)).getD nev := fun _ => rfl
  rw [e, tabM_eq hs hi]
  by_cases hh : hasB s i
  · rw [if_pos hh]
    by_cases h2 : fow b l (tabM b l N) s i < nev
    · rw [if_pos ⟨hh, h2⟩]; show fow b l (tabM b l N) s i = _; omega
    rw [if_neg (fun h => h2 h.2)]; show nev = _; omega
  rw [if_neg hh, if_neg (fun h => hh h.1)]; rfl
theorem bgE_mono {bf ov ov' : Int} {k : Nat} (h : ov' ≤ ov) (e : bgE b l bf ov k = 0) : bgE b l bf ov' k = 0 ∧ bgA b l bf ov' k ≤ bgA b l bf ov k := by
  have h1 : bgA b l bf ov' k ≤ bgA b l bf ov k := by unfold bgA; split <;> omega
  refine ⟨?_, h1⟩
  unfold bgE at e ⊢
  split at e
  · omega
  rename_i h2
  rw [if_neg h2]
  split at e
  · omega
  rw [if_neg (by omega)]
theorem VO.front {o : List Int} {i : Nat} (h : VO b l (o ++ [(i : Int)])) : VO b l o ∧ i < l.length ∧ extP b l o i := by
  have hi := h.1 (i : Int) (by simp)
  unfold In at hi
  have ht := (tmE_snoc o i).1 h.2.2
  have hn := List.nodup_append.1 h.2.1
  exact ⟨⟨fun x hx => h.1 x (by simp [hx]), hn.1, ht.1⟩, by omega, fun hm => hn.2.2 _ hm (i : Int) (by simp) rfl, ht.2⟩
theorem stK_last (o : List Int) (j : Int) : (stK b l (o ++ [j]) (o ++ [j]).length).1 = j := by
  rw [List.length_append, List.length_singleton]
  show (o ++ [j]).getD o.length 0 = j
  exact getD_app_e o j
theorem VO.snoc' {o : List Int} (h : VO b l o) (hne : o ≠ []) : ∃ (o' : List Int) (j : Nat), o = o' ++ [(j : Int)] := by
  obtain ⟨o', x, rfl⟩ : ∃ o' x, o = o' ++ [x] := ⟨o.dropLast, o.getLast hne, (List.dropLast_concat_getLast hne).symm⟩
  obtain ⟨j, rfl, _⟩ := in_nat (h.1 x (by simp))
  exact ⟨o', j, rfl⟩
/-- no order is over sooner than the table says -/
theorem tab_le {a : Int} (hd : OkD a b l) {N : Nat} (hN : N = 2 ^ l.length) : ∀ (n : Nat) (o : List Int) (i : Nat), o.length = n → VO b l (o ++ [(i : Int)]) → atM (tabM b l N) (bsO (o ++ [(i : Int)]), i) ≤ ovF b l (o ++ [(i : Int)]) := by
  intro n
  induction n with
  | zero =>
    intro o i ho hv
    obtain ⟨rfl⟩ : o = [] := List.length_eq_zero_iff.1 ho
    obtain ⟨h1, hi, hx⟩ := hv.front
    have hs : bsO ([] ++ [(i : Int)]) < N := hN ▸ bsO_lt hv.1
    rw [atM_tab hs hi]
    have hb : hasB (bsO ([] ++ [(i : Int)])) i := (bsO_tb hv.1 i).2 (by simp)
    rw [if_pos hb]
    have hw : wo (bsO ([] ++ [(i : Int)])) i = 0 := by
      rw [bsO_snoc, Int.toNat_natCast]
      exact or_wo (fun h => by have := (bsO_tb (l := l) (o := []) (fun x hx => by simp at hx) i).1 h; simp at this)
    have h3 := (foldmin_mem (foT b l (tabM b l N) (bsO ([] ++ [(i : Int)])) i l.length) nev).2.1 (ovF b l ([] ++ [(i : Int)])) (by
      unfold foT foA
      rw [if_pos hw]
      refine List.mem_append.2 (.inl ?_)
      unfold putL
      have h2 : bgE b l (-1) 0 i = 0 := hx.2
      rw [if_pos h2, ovF_snoc]
      exact List.mem_singleton.2 rfl)
    have h4 : fow b l (tabM b l N) (bsO ([] ++ [(i : Int)])) i = (foT b l (tabM b l N) (bsO ([] ++ [(i : Int)])) i l.length).foldl min nev := rfl
    omega
  | succ n ih =>
    intro o i ho hv
    obtain ⟨h1, hi, hx⟩ := hv.front
    obtain ⟨o', j, rfl⟩ := h1.snoc' (fun e => by rw [e] at ho; simp at ho)
    have ih1 := ih o' j (by simpa using ho) h1
    obtain ⟨_, hj, _⟩ := h1.front
    have hs : bsO (o' ++ [(j : Int)] ++ [(i : Int)]) < N := hN ▸ bsO_lt hv.1
    have hb : hasB (bsO (o' ++ [(j : Int)] ++ [(i : Int)])) i := (bsO_tb hv.1 i).2 (by simp)
    rw [atM_tab hs hi, if_pos hb]
    have hw : wo (bsO (o' ++ [(j : Int)] ++ [(i : Int)])) i = bsO (o' ++ [(j : Int)]) := by
      rw [bsO_snoc (o' ++ [(j : Int)]), Int.toNat_natCast]
      exact or_wo (fun h => hx.1 ((bsO_tb h1.1 i).1 h))
    have hbd := ovF_bd hd h1
    have hnv : nev = 1048576 := rfl
    have he : bgE b l (j : Int) (ovF b l (o' ++ [(j : Int)])) i = 0 := by
      have := hx.2
      rw [stK_last] at this
      exact this
    obtain ⟨hm1, hm2⟩ := bgE_mono ih1 he
    have h3 := (foldmin_mem (foT b l (tabM b l N) (bsO (o' ++ [(j : Int)] ++ [(i : Int)])) i l.length) nev).2.1 (bgA b l (j : Int) (atM (tabM b l N) (bsO (o' ++ [(j : Int)]), j)) i + (l.getD i rn0).mi) (by
      unfold foT
      refine List.mem_append.2 (.inr (List.mem_flatMap.2 ⟨j, List.mem_range.2 hj, ?_⟩))
      unfold fo1
      rw [hw, if_pos ⟨(bsO_tb h1.1 j).2 (by simp), by omega⟩]
      unfold putL
      rw [if_pos hm1]
      exact List.mem_singleton.2 rfl)
    have h4 : fow b l (tabM b l N) (bsO (o' ++ [(j : Int)] ++ [(i : Int)])) i = (foT b l (tabM b l N) (bsO (o' ++ [(j : Int)] ++ [(i : Int)])) i l.length).foldl min nev := rfl
    have h5 := ovF_snoc (b := b) (l := l) (o' ++ [(j : Int)]) i
    rw [stK_last] at h5
    omega
/-- what the table says, an order keeps -/
theorem tab_ex {N : Nat} (hN : N = 2 ^ l.length) : ∀ (s : Nat), s < N → ∀ i, i < l.length → atM (tabM b l N) (s, i) < nev → ∃ o, VO b l (o ++ [(i : Int)]) ∧ bsO (o ++ [(i : Int)]) = s ∧ ovF b l (o ++ [(i : Int)]) = atM (tabM b l N) (s, i) := by
  intro s
  induction s using Nat.strongRecOn with
  | _ s ih =>
    intro hs i hi hlt
    rw [atM_tab hs hi] at hlt ⊢
    by_cases hb : hasB s i
    · rw [if_pos hb] at hlt ⊢
      have hlt : fow b l (tabM b l N) s i < nev := by omega
      rw [show min (fow b l (tabM b l N) s i) nev = fow b l (tabM b l N) s i by omega]
      rcases (foldmin_mem (foT b l (tabM b l N) s i l.length) nev).2.2 with h | h
      · have h4 : fow b l (tabM b l N) s i = nev := h
        omega
      have h : fow b l (tabM b l N) s i ∈ foT b l (tabM b l N) s i l.length := h
      generalize fow b l (tabM b l N) s i = z at h ⊢
      unfold foT at h
      rcases List.mem_append.1 h with h | h
      · unfold foA at h
        split at h
        · rename_i hw
          unfold putL at h
          split at h
          · rename_i he
            rw [List.mem_singleton.1 h]
            refine ⟨[], VO.nil.snoc hi ⟨by simp, he⟩, ?_, ?_⟩
            · rw [bsO_snoc, Int.toNat_natCast, show bsO [] = wo s i from hw.symm]; exact wo_or hb
            rw [ovF_snoc]; rfl
          simp at h
        simp at h
      obtain ⟨j, hj, h⟩ := List.mem_flatMap.1 h
      have hj := List.mem_range.1 hj
      unfold fo1 at h
      split at h
      · rename_i hw
        have hws := wo_less hb
        obtain ⟨o, h1, h2, h3⟩ := ih (wo s i) hws (by omega) j hj hw.2
        unfold putL at h
        split at h
        · rename_i he
          rw [List.mem_singleton.1 h]
          have hni : (i : Int) ∉ o ++ [(j : Int)] := fun hm => by
            have := (bsO_tb h1.1 i).2 hm
            rw [h2] at this
            exact wo_not this
          refine ⟨o ++ [(j : Int)], h1.snoc hi ⟨hni, ?_⟩, ?_, ?_⟩
          · rw [stK_last]
            show bgE b l (j : Int) (ovF b l (o ++ [(j : Int)])) i = 0
            rw [h3]; exact he
          · rw [bsO_snoc, Int.toNat_natCast, h2]; exact wo_or hb
          rw [ovF_snoc, stK_last, h3]
        simp at h
      simp at h
    rw [if_neg hb] at hlt
    omega
end
section
variable (b : Int) (l : List Rn)
/-- an order's place in the table -/
def kyO (o : List Int) : Nat := bsO o * l.length + (o.getD (o.length - 1) 0).toNat
/-- the least at a place, after some orders -/
def at1 (v : Int) (o : List Int) (x : Nat) : Int := if o ≠ [] ∧ kyO l o = x then min v (ovF b l o) else v
def atR (os : List (List Int)) (x : Nat) : Int := os.foldl (fun v o => at1 b l v o x) nev
/-- the reference's table after some orders -/
def rfT (os : List (List Int)) : List Int := (List.range (2 ^ l.length * l.length)).map (atR b l os)
end
theorem atR_mem (b : Int) (l : List Rn) (x : Nat) : ∀ (os : List (List Int)) (g : Int), let r := os.foldl (fun v o => at1 b l v o x) g; r ≤ g ∧ (∀ o ∈ os, o ≠ [] → kyO l o = x → r ≤ ovF b l o) ∧ (r = g ∨ ∃ o ∈ os, o ≠ [] ∧ kyO l o = x ∧ r = ovF b l o)
  | [], g => ⟨Int.le_refl _, fun x h => by simp at h, .inl rfl⟩
  | y :: os, g => by
    intro r
    have hr : r = os.foldl (fun v o => at1 b l v o x) (at1 b l g y x) := rfl
    obtain ⟨h1, h2, h3⟩ := atR_mem b l x os (at1 b l g y x)
    rw [← hr] at h1 h2 h3
    have ha : at1 b l g y x ≤ g ∧ (y ≠ [] → kyO l y = x → at1 b l g y x ≤ ovF b l y) ∧ (at1 b l g y x = g ∨ (y ≠ [] ∧ kyO l y = x ∧ at1 b l g y x = ovF b l y)) := by
      unfold at1
      split
      · rename_i h
        exact ⟨by omega, fun _ _ => by omega, by rcases Int.le_total g (ovF b l y) with q | q; exact .inl (by omega); exact .inr ⟨h.1, h.2, by omega⟩⟩
      rename_i h
      exact ⟨by omega, fun p q => absurd ⟨p, q⟩ h, .inl rfl⟩
    refine ⟨by omega, fun o ho p q => ?_, ?_⟩
    · rcases List.mem_cons.1 ho with rfl | ho
      · have := ha.2.1 p q; omega
      exact h2 o ho p q
    rcases h3 with h | ⟨o, ho, h⟩
    · rcases ha.2.2 with h4 | ⟨p, q, h4⟩
      · exact .inl (by omega)
      exact .inr ⟨y, by simp, p, q, by omega⟩
    exact .inr ⟨o, by simp [ho], h⟩
theorem kyO_eq {l : List Rn} {o : List Int} {i s j : Nat} (hi : i < l.length) (hj : j < l.length) (h : kyO l (o ++ [(i : Int)]) = s * l.length + j) : bsO (o ++ [(i : Int)]) = s ∧ i = j := by
  unfold kyO at h
  rw [show (o ++ [(i : Int)]).length - 1 = o.length by simp, getD_app_e, Int.toNat_natCast] at h
  have h0 : 0 < l.length := by omega
  have h1 := congrArg (· / l.length) h
  have h2 := congrArg (· % l.length) h
  rw [Nat.mul_comm, Nat.mul_add_div h0, Nat.mul_comm s, Nat.mul_add_div h0, Nat.div_eq_of_lt hi, Nat.div_eq_of_lt hj] at h1
  rw [Nat.mul_comm, Nat.mul_add_mod, Nat.mul_comm s, Nat.mul_add_mod, Nat.mod_eq_of_lt hi, Nat.mod_eq_of_lt hj] at h2
  exact ⟨by omega, h2⟩
theorem kyO_of {l : List Rn} {o : List Int} {i : Nat} : kyO l (o ++ [(i : Int)]) = bsO (o ++ [(i : Int)]) * l.length + i := by
  unfold kyO
  rw [show (o ++ [(i : Int)]).length - 1 = o.length by simp, getD_app_e, Int.toNat_natCast]
/-- both tables say the same -/
theorem tab_rf {a b : Int} {l : List Rn} (hd : OkD a b l) : tbT l (tabM b l (2 ^ l.length)) (2 ^ l.length * l.length) = rfT b l (ords b l l.length []) := by
  unfold tbT rfT
  refine List.map_congr_left fun x hx => ?_
  have hx := List.mem_range.1 hx
  have h0 : 0 < l.length := Nat.pos_of_ne_zero (fun e => by rw [e, Nat.mul_zero] at hx; omega)
  obtain ⟨s, i, hs, hi, rfl⟩ : ∃ s i, s < 2 ^ l.length ∧ i < l.length ∧ x = s * l.length + i := ⟨x / l.length, x % l.length, Nat.div_lt_of_lt_mul (by rw [Nat.mul_comm]; exact hx), Nat.mod_lt _ h0, by rw [Nat.mul_comm]; exact (Nat.div_add_mod x l.length).symm⟩
  rw [show (s * l.length + i) / l.length = s by rw [Nat.mul_comm, Nat.mul_add_div h0, Nat.div_eq_of_lt hi]; rfl, show (s * l.length + i) % l.length = i by rw [Nat.mul_comm, Nat.mul_add_mod, Nat.mod_eq_of_lt hi]]
  obtain ⟨r1, r2, r3⟩ := atR_mem b l (s * l.length + i) (ords b l l.length []) nev
  show _ = atR b l (ords b l l.length []) (s * l.length + i)
  have hR : atR b l (ords b l l.length []) (s * l.length + i) = (ords b l l.length []).foldl (fun v o => at1 b l v o (s * l.length + i)) nev := rfl
  rw [← hR] at r1 r2 r3
  have hT : atM (tabM b l (2 ^ l.length)) (s, i) ≤ nev := by
    rw [atM_tab hs hi]; split <;> omega
  refine Int.le_antisymm ?_ ?_
  · rcases r3 with h | ⟨o, ho, hne, hk, he⟩
    · omega
    have hv := (ords_mem VO.nil ho).1
    obtain ⟨o', j, rfl⟩ := hv.snoc' hne
    have hj := hv.front.2.1
    obtain ⟨q1, q2⟩ := kyO_eq hj hi hk
    subst q2
    have := tab_le hd rfl _ o' j rfl hv
    rw [q1] at this
    omega
  rcases Int.lt_or_le (atM (tabM b l (2 ^ l.length)) (s, i)) nev with h | h
  · obtain ⟨o, hv, q1, q2⟩ := tab_ex rfl s hs i hi h
    have hm := ords_all (b := b) (l := l) (f := l.length) (o := []) (o ++ [(i : Int)]) (by simpa using hv) (by have := hv.len; simpa using this)
    rw [List.nil_append] at hm
    have := r2 _ hm (by simp) (by rw [kyO_of, q1])
    omega
  omega
end Go.Proofs.Ytkonhpcldomidaa
namespace Go.Proofs.Ytkonhpcldomidaa
open Go Go.TH
attribute [local irreducible] W WO pt
set_option maxRecDepth 10000
set_option maxHeartbeats 1000000
def filL (c s : Nat) : List Int := List.replicate s nev ++ List.replicate (c - s) 0
theorem filL_len {c s : Nat} (h : s ≤ c) : (filL c s).length = c := by unfold filL; rw [List.length_append, List.length_replicate, List.length_replicate]; omega
theorem filL_set {c s : Nat} (h : s < c) : (filL c s).set s nev = filL c (s + 1) := by
  unfold filL
  obtain ⟨d, hd⟩ : ∃ d, c - s = d + 1 := ⟨c - s - 1, by omega⟩
  rw [hd, show c - (s + 1) = d by omega]
  refine List.ext_getElem? fun i => ?_
  rw [List.getElem?_set, List.getElem?_append, List.getElem?_append, List.length_append, List.length_replicate, List.length_replicate, List.length_replicate]
  simp only [List.getElem?_replicate]
  repeat' split
  all_goals first | rfl | (exfalso; omega)
theorem rfT_len (b : Int) (l : List Rn) (os : List (List Int)) : (rfT b l os).length = 2 ^ l.length * l.length := by unfold rfT; simp
theorem filL_all {b : Int} {l : List Rn} : filL (2 ^ l.length * l.length) (2 ^ l.length * l.length) = rfT b l [] := by
  unfold filL rfT
  rw [Nat.sub_self, List.replicate_zero, List.append_nil]
  refine List.ext_getElem (by simp) fun i h1 h2 => ?_
  simp [atR]
theorem rfT_get (b : Int) (l : List Rn) (os : List (List Int)) (i : Nat) : (rfT b l os)[i]? = if i < 2 ^ l.length * l.length then some (atR b l os i) else none := by
  unfold rfT
  rw [List.getElem?_map]
  by_cases h : i < 2 ^ l.length * l.length
  · rw [List.getElem?_range h, if_pos h]; rfl
  rw [List.getElem?_eq_none (by rw [List.length_range]; omega), if_neg h]; rfl
theorem rfT_snoc {b : Int} {l : List Rn} {os : List (List Int)} {o : List Int} (h : o ≠ []) (hk : kyO l o < 2 ^ l.length * l.length) : rfT b l (os ++ [o]) = (rfT b l os).set (kyO l o) (min ((rfT b l os).getD (kyO l o) 0) (ovF b l o)) := by
  refine List.ext_getElem? fun i => ?_
  have e3 : atR b l (os ++ [o]) i = at1 b l (atR b l os i) o i := by unfold atR; rw [List.foldl_append]; rfl
  rw [List.getElem?_set, List.getD_eq_getElem?_getD, rfT_get, rfT_get, rfT_get, rfT_len, e3]
  by_cases e : kyO l o = i
  · subst e
    rw [if_pos hk, if_pos hk, if_pos rfl, if_pos hk]
    unfold at1; rw [if_pos ⟨h, rfl⟩]; rfl
  rw [if_neg e, show at1 b l (atR b l os i) o i = atR b l os i from if_neg (fun q => e q.2)]
theorem rfT_same {b : Int} {l : List Rn} {os : List (List Int)} {o : List Int} (h : o = []) : rfT b l (os ++ [o]) = rfT b l os := by
  have e3 : ∀ i, atR b l (os ++ [o]) i = atR b l os i := fun i => by unfold atR; rw [List.foldl_append]; exact if_neg (fun q => q.1 h)
  unfold rfT
  exact List.map_congr_left fun i _ => e3 i
theorem kyO_lt {b : Int} {l : List Rn} {o : List Int} (hv : VO b l o) (hne : o ≠ []) : kyO l o < 2 ^ l.length * l.length := by
  obtain ⟨o', j, rfl⟩ := hv.snoc' hne
  have hj := hv.front.2.1
  rw [kyO_of]
  have h1 := bsO_lt hv.1
  have h2 : (bsO (o' ++ [(j : Int)]) + 1) * l.length ≤ 2 ^ l.length * l.length := Nat.mul_le_mul_right _ h1
  rw [Nat.add_mul] at h2
  omega
theorem rfT_o {b : Int} {l : List Rn} {os : List (List Int)} {i : Nat} (h : i < os.length) : rfT b l (os.take (i + 1)) = rfT b l (os.take i ++ [os.getD i []]) := by
  rw [List.take_add_one, List.getElem?_eq_getElem h, List.getD_eq_getElem?_getD, List.getElem?_eq_getElem h]; rfl
theorem bsO_take {o : List Int} {k : Nat} (h : k < o.length) : bsO (o.take (k + 1)) = bsO (o.take k) ||| 1 <<< (o.getD k 0).toNat := by
  rw [List.take_add_one, List.getElem?_eq_getElem h, List.getD_eq_getElem?_getD, List.getElem?_eq_getElem h]
  exact bsO_snoc _ _
theorem bsO_256 {l : List Rn} {o : List Int} (h : ∀ x ∈ o, In l x) (h8 : l.length ≤ 8) (k : Nat) : bsO (o.take k) < 256 :=
  Nat.lt_of_lt_of_le (bsO_lt (fun x hx => h x (List.mem_of_mem_take hx))) (shl8 h8).2
theorem TbL_ne {a b : Int} {l : List Rn} (h : chkD a b l ≠ 0) : TbL a b l = [] := if_pos h
theorem TbL_ok {a b : Int} {l : List Rn} (h : chkD a b l = 0) : TbL a b l = rfT b l (ords b l l.length []) := by
  unfold TbL; rw [if_neg (by omega)]; exact tab_rf (chkD0.1 h).2
theorem rowsC {C : Cx Try.prog} {H : List HP} {rv : List Value} {xss : List (List Int)} {o : List Int} {i k z : Nat} (s : Sub H [RowsE encI 3 1 rv xss]) (hi : i < xss.length) (ho : o = xss.getD i []) (hk : k < o.length) (hz : o.getD k 0 = (z : Int)) : Cell C H (elt (rv.getD i undef) k 1) (.int .i64 (z : Int)) := by
  subst ho
  cases s with
  | cons p _ => exact RowsE.cell0 encI_ok p hi hk 0 (by rw [hz]; rfl)
theorem ref_Table (w : World) (v : Value) (a b : Int) (l : List Rn) (hR : RdF encR 6 w.heap.size w v l) : Ct Try.prog 22 [dayV a b v].toArray w fun r w' => ∃ Hq, (∃ x : Value, r = .tuple #[x, .int .i64 (chkD a b l)] ∧ Hq = [OwE encI 2 1 x (TbL a b l)]) ∧ Inv w [] Hq w' := by
  refine Ct.ofI (X := Value) (p := fun x r => r = .tuple #[x, .int .i64 (chkD a b l)]) (Hx := fun x => [OwE encI 2 1 x (TbL a b l)]) mixed tyTab Try.func22 rfl rfl ?_
  replace hR : RdF encR 6 (fnCx mixed tyTab Try.f22.ntmps w).B (fnCx mixed tyTab Try.f22.ntmps w).w0 v l := hR
  have ho := hR.sl.oc
  refine W.sreg ?_
  refine WO.boxA rfl rfl (fun b1 hb1 => ?_)
  refine WO.p rfl rfl (WO.p rfl rfl ?_)
  refine WO.nil ?_
  refine W.seq ?_
  refine W.sreg ?_
  refine WO.loadA rfl rfl (Cells.own Pick.head) rfl rfl ?_
  refine WO.callR rfl Try.call35 (fun L w hi => ref_CheckDay w v a b l (hR.later hi)) rfl ?_
  refine WO.p rfl rfl ?_
  refine WO.nil ?_
  refine W.cond_bl rfl (fun c1 => ?_) (fun c1 => ?_)
  · first
    | (exfalso; omega)
    | (refine W.sreg ?_
       refine WO.loadA rfl rfl (Cells.own Pick.head) rfl rfl ?_
       refine WO.callR rfl Try.call35 (fun L w hi => ref_CheckDay w v a b l (hR.later hi)) rfl ?_
       refine WO.p rfl rfl (WO.p rfl rfl ?_)
       refine WO.nil ?_
       refine W.ret ?_
       first | (rw [TbL_ne (by assumption)]; exact fin.ret (Res.two rfl (RV.tmp rfl) (RV.tmp rfl)) ⟨_, rfl, fun h hs => Sub.sat (.cons .head .nil) (owNil (enc := encI) (e := 2) (sz := 1) h hs)⟩) | (rw [List.take_of_length_le (by omega), hall, hc]; exact fin.ret (Res.two rfl (RV.tmp rfl) (RV.tmp rfl)) ⟨_, rfl, fun h hs => Sub.sat (by repeat (first | exact Sub.nil | refine Sub.cons (by repeat (first | exact Pick.head | apply Pick.tail)) ?_)) hs⟩))
  first
  | (exfalso; omega)
  | (refine W.skip ?_
     have hc : chkD a b l = 0 := by omega
     have hcd := chkD0.1 hc
     obtain ⟨hln, hd⟩ := hcd
     have hsh := shl8 hln.2
     have hcb : 2 ^ l.length * l.length ≤ 256 * 8 := Nat.mul_le_mul hsh.2 hln.2
     obtain ⟨c, hcc⟩ : ∃ c, c = 2 ^ l.length * l.length := ⟨_, rfl⟩
     refine W.sreg ?_
     refine WO.fieldL rfl rfl rfl (WO.load rfl rfl (Cell.own Pick.head rfl) rfl ?_)
     refine' WO.len (n := _) rfl rfl ?hs rfl ?_
     case hs => (first | exact hR.sl)
     refine WO.p rfl rfl ?_
     refine WO.nil ?_
     refine W.sreg ?_
     refine WO.p rfl rfl (WO.p rfl rfl ?_)
     refine WO.shlN (a := l.length) (s := l.length) rfl rfl (by show l.length ≤ 64; omega) (fit (by rw [Nat.shiftLeft_eq, Nat.mul_comm]; omega)) rfl ?_
     rw [show l.length <<< l.length = c by rw [Nat.shiftLeft_eq, Nat.mul_comm]; exact hcc.symm]
     refine WO.makeI (n := c) rfl rfl rfl rfl (by omega) (by omega) rfl (fun ob => ?_)
     rw [show List.replicate c (0 : Int) = filL c 0 from rfl]
     refine WO.p rfl rfl ?_
     refine WO.nil ?_
     refine W.seq ?_
     refine W.sreg ?_
     refine WO.p rfl rfl ?_
     refine WO.nil ?_
     refine W.block ?_
     refine W.loop (fun (s : Nat) => s ≤ c)
       (fun (s : Nat) => [(1, .pointer (some ⟨b1, 0, none⟩)), (4, .int .i64 (l.length : Int)), (5, .slice (some ⟨ob, 0, none⟩) c c), (6, .int .i64 (s : Int))])
       (fun (s : Nat) => [pt b1 (.cells #[.int .i64 a, .int .i64 b, v] 26 (0, 0)), OwE encI 2 1 (.slice (some ⟨ob, 0, none⟩) c c) (filL c s)])
       (fun (s : Nat) => c - s) 0
       (by omega) ⟨rfl, rfl, rfl, rfl, trivial⟩ (by repeat (first | exact Sub.nil | refine Sub.cons (by repeat (first | exact Pick.head | apply Pick.tail)) ?_)) ?_
     rintro s hs
     refine W.seq ?_
     refine W.sreg ?_
     refine WO.p rfl rfl (WO.p rfl rfl ?_)
     refine' WO.len (n := _) rfl rfl ?hs rfl ?_
     case hs => (first | exact isSl_lit (n := c) (c := c) (by omega) (fun _ => ⟨_, _, rfl⟩))
     refine WO.p rfl rfl ?_
     refine WO.nil ?_
     refine W.cond_bl rfl (fun c2 => ?_) (fun c2 => ?_)
     · first
       | (exfalso; omega)
       | (refine W.skip ?_
          refine W.seq ?_
          refine W.block ?_
          refine W.region ?_
          refine WO.p rfl rfl (WO.p rfl rfl ?_)
          refine' WO.indexAddr (n := _) (i := _) rfl rfl rfl ?hs ?h1 rfl ?_
          case hs => (first | exact isSl_lit (n := c) (c := c) (by omega) (fun _ => ⟨_, _, rfl⟩))
          case h1 => (first | omega | (simp; omega))
          refine WO.storeE (n := nev) (i := s) (xs := filL c s) encI_ok rfl rfl rfl rfl (by repeat (first | exact Pick.head | apply Pick.tail)) (by rw [filL_len hs]; omega) ?_
          rw [filL_set (by omega)]
          refine WO.nil ?_
          refine W.region ?_
          refine WO.p rfl rfl (WO.ar rfl rfl rfl (by (first | (unfold in64; omega) | (unfold in64; omega))) rfl (WO.p rfl rfl ?_))
          refine WO.nil ?_
          refine' ⟨s + 1, ?hp, ?hmu, ⟨rfl, rfl, rfl, rfl, trivial⟩, ?hS⟩
          case hS => repeat (first | exact Sub.nil | refine Sub.cons (by repeat (first | exact Pick.head | apply Pick.tail)) ?_)
          case hp => omega
          case hmu => omega)
     first
     | (exfalso; omega)
     | (refine W.exit (blk_same ?_)
        rw [show filL c s = rfT b l [] by rw [show s = c by omega, hcc]; exact filL_all]
        refine W.chg (owNil (enc := encI) (e := 3) (sz := 1)) ?_
        refine W.sreg ?_
        refine WO.loadA rfl rfl (Cells.own (Pick.tail (Pick.head))) rfl rfl ?_
        refine WO.callH1 (A := OwE encI 3 1 (.slice none 0 0) []) rfl Try.call47 (by repeat (first | exact Pick.head | apply Pick.tail)) (fun L w' hi hB2 => ref_orders hc l.length [] _ w' _ hB2 VO.nil (by simp) (by omega) (hR.agree hi.keepB)) rfl ?_
        rintro x _ ⟨⟨x', rv⟩, rfl, rfl⟩
        refine WO.p rfl rfl ?_
        refine WO.nil ?_
        refine W.seq ?_
        rw [TbL_ok hc]
        obtain ⟨all, hall⟩ : ∃ all, all = ords b l l.length [] := ⟨_, rfl⟩
        have hvr : ∀ {v xs}, RowOr rv all v xs → VO b l xs := fun h => by rw [hall] at h; exact VO_row h
        unfold OrdP
        rw [← hall]
        refine W.fact (OwC.sl (e := 27) (sz := 1) (n := all.length) (v := x) (cs := rv) Pick.head) (fun hxs => ?_)
        refine W.fact (RowsE.ocF (enc := encI) (e := 3) (sz := 1) (rv := rv) (xss := all) (.tail .head)) (fun hrv => ?_)
        have hlen := hxs.le
        refine W.sreg ?_
        refine WO.p rfl rfl ?_
        refine WO.nil ?_
        refine W.block ?_
        refine W.loop (fun (i : Nat) => i ≤ all.length)
          (fun (i : Nat) => [(1, .pointer (some ⟨b1, 0, none⟩)), (4, .int .i64 (l.length : Int)), (5, .slice (some ⟨ob, 0, none⟩) c c), (7, x), (8, .int .i64 (i : Int))])
          (fun (i : Nat) => [pt b1 (.cells #[.int .i64 a, .int .i64 b, v] 26 (0, 0)), OwE encI 2 1 (.slice (some ⟨ob, 0, none⟩) c c) (rfT b l (all.take i)), OwC 27 1 x all.length rv, RowsE encI 3 1 rv all])
          (fun (i : Nat) => all.length - i) 0
          (by omega) ⟨rfl, rfl, rfl, rfl, rfl, trivial⟩ (by repeat (first | exact Sub.nil | refine Sub.cons (by repeat (first | exact Pick.head | apply Pick.tail)) ?_)) ?_
        rintro i hi
        refine W.seq ?_
        refine W.sreg ?_
        refine WO.p rfl rfl (WO.p rfl rfl ?_)
        refine' WO.len (n := _) rfl rfl ?hs rfl ?_
        case hs => (first | exact hxs)
        refine WO.p rfl rfl ?_
        refine WO.nil ?_
        refine W.cond_bl rfl (fun c3 => ?_) (fun c3 => ?_)
        · first
          | (exfalso; omega)
          | (refine W.skip ?_
             refine W.seq ?_
             refine W.block ?_
             refine W.seq ?_
             obtain ⟨o, hoo⟩ : ∃ o, o = all.getD i [] := ⟨_, rfl⟩
             have hroi : RowOr rv all (rv.getD i undef) o := .inr ⟨i, by omega, rfl, hoo⟩
             refine W.fact (fun L w hi => (RowOr.rd (x := x) (n := all.length) hroi (by repeat (first | exact Sub.nil | refine Sub.cons (by repeat (first | exact Pick.head | apply Pick.tail)) ?_)) hi).sl) (fun hos => ?_)
             have hvo := hvr hroi
             have hol := hvo.len
             refine W.sreg ?_
             refine WO.p rfl rfl (WO.p rfl rfl ?_)
             refine' WO.indexAddr (n := _) (i := _) rfl rfl rfl ?hs ?h1 rfl ?_
             case hs => (first | exact hxs)
             case h1 => (first | omega | (simp; omega))
             refine' WO.load (v := _) rfl rfl ?hc rfl ?_
             case hc => (first | (refine OwC.cell1s (e := 27) (n := all.length) (v := x) (cs := rv) (i := i) ?_ (by omega); exact (by repeat (first | exact Sub.nil | refine Sub.cons (by repeat (first | exact Pick.head | apply Pick.tail)) ?_))))
             refine' WO.len (n := _) rfl rfl ?hs rfl ?_
             case hs => (first | exact hos)
             refine WO.p rfl rfl ?_
             refine WO.nil ?_
             refine W.cond_bl rfl (fun c4 => ?_) (fun c4 => ?_)
             · first
               | (exfalso; omega)
               | (refine W.exit (blk_same ?_)
                  first | rw [show (rfT b l (all.take i)).set (kyO l o) (min ((rfT b l (all.take i)).getD (kyO l o) 0) (ovF b l o)) = rfT b l (all.take (i + 1)) by rw [rfT_o (by omega), ← hoo]; exact (rfT_snoc hne hky).symm] | rw [show rfT b l (all.take i) = rfT b l (all.take (i + 1)) by rw [rfT_o (by omega), ← hoo]; exact (rfT_same (List.eq_nil_of_length_eq_zero (by omega))).symm]
                  refine W.region ?_
                  refine WO.p rfl rfl (WO.ar rfl rfl rfl (by (first | (unfold in64; omega) | (unfold in64; omega))) rfl (WO.p rfl rfl ?_))
                  refine WO.nil ?_
                  refine' ⟨i + 1, ?hp, ?hmu, ⟨rfl, rfl, rfl, rfl, rfl, trivial⟩, ?hS⟩
                  case hS => repeat (first | exact Sub.nil | refine Sub.cons (by repeat (first | exact Pick.head | apply Pick.tail)) ?_)
                  case hp => omega
                  case hmu => omega)
             first
             | (exfalso; omega)
             | (refine W.skip ?_
                have hne : o ≠ [] := fun e => by have e0 : o.length = 0 := (by rw [e]; rfl); omega
                refine W.sreg ?_
                refine WO.p rfl rfl ?_
                refine WO.nil ?_
                refine W.seq ?_
                refine W.sreg ?_
                refine WO.p rfl rfl ?_
                refine WO.nil ?_
                refine W.block ?_
                refine W.loop (fun (k : Nat) => k ≤ o.length)
                  (fun (k : Nat) => [(1, .pointer (some ⟨b1, 0, none⟩)), (4, .int .i64 (l.length : Int)), (5, .slice (some ⟨ob, 0, none⟩) c c), (7, x), (8, .int .i64 (i : Int)), (9, .int .i64 (bsO (o.take k) : Int)), (10, .int .i64 (k : Int))])
                  (fun (k : Nat) => [pt b1 (.cells #[.int .i64 a, .int .i64 b, v] 26 (0, 0)), OwE encI 2 1 (.slice (some ⟨ob, 0, none⟩) c c) (rfT b l (all.take i)), OwC 27 1 x all.length rv, RowsE encI 3 1 rv all])
                  (fun (k : Nat) => o.length - k) 0
                  (by omega) ⟨rfl, rfl, rfl, rfl, rfl, rfl, rfl, trivial⟩ (by repeat (first | exact Sub.nil | refine Sub.cons (by repeat (first | exact Pick.head | apply Pick.tail)) ?_)) ?_
                rintro k hk
                refine W.seq ?_
                refine W.sreg ?_
                refine WO.p rfl rfl (WO.p rfl rfl (WO.p rfl rfl ?_))
                refine' WO.indexAddr (n := _) (i := _) rfl rfl rfl ?hs ?h1 rfl ?_
                case hs => (first | exact hxs)
                case h1 => (first | omega | (simp; omega))
                refine' WO.load (v := _) rfl rfl ?hc rfl ?_
                case hc => (first | (refine OwC.cell1s (e := 27) (n := all.length) (v := x) (cs := rv) (i := i) ?_ (by omega); exact (by repeat (first | exact Sub.nil | refine Sub.cons (by repeat (first | exact Pick.head | apply Pick.tail)) ?_))))
                refine' WO.len (n := _) rfl rfl ?hs rfl ?_
                case hs => (first | exact hos)
                refine WO.p rfl rfl ?_
                refine WO.nil ?_
                refine W.cond_bl rfl (fun c5 => ?_) (fun c5 => ?_)
                · first
                  | (exfalso; omega)
                  | (refine W.skip ?_
                     refine W.seq ?_
                     refine W.block ?_
                     obtain ⟨z, hz, hzl⟩ := in_nat (hvo.1 _ (getD_mem (show k < o.length by omega) 0))
                     have hb2 := bsO_256 hvo.1 hln.2 k
                     have hb1 := shl1 (show z ≤ 8 by omega)
                     refine W.region ?_
                     refine WO.p rfl rfl (WO.p rfl rfl (WO.p rfl rfl ?_))
                     refine' WO.indexAddr (n := _) (i := _) rfl rfl rfl ?hs ?h1 rfl ?_
                     case hs => (first | exact hxs)
                     case h1 => (first | omega | (simp; omega))
                     refine' WO.load (v := _) rfl rfl ?hc rfl ?_
                     case hc => (first | (refine OwC.cell1s (e := 27) (n := all.length) (v := x) (cs := rv) (i := i) ?_ (by omega); exact (by repeat (first | exact Sub.nil | refine Sub.cons (by repeat (first | exact Pick.head | apply Pick.tail)) ?_))))
                     refine WO.p rfl rfl ?_
                     refine' WO.indexAddr (n := _) (i := _) rfl rfl rfl ?hs ?h1 rfl ?_
                     case hs => (first | exact hos)
                     case h1 => (first | omega | (simp; omega))
                     refine' WO.load (v := _) rfl rfl ?hc rfl ?_
                     case hc => (first | (refine rowsC (xss := all) (i := i) ?_ (by omega) hoo (show k < o.length by omega) hz; exact (by repeat (first | exact Sub.nil | refine Sub.cons (by repeat (first | exact Pick.head | apply Pick.tail)) ?_))))
                     refine WO.shlN (a := 1) (s := z) rfl rfl (by show z ≤ 64; omega) (fit (by omega)) rfl ?_
                     refine WO.orN (a := bsO (o.take k)) (b := 1 <<< z) rfl rfl (fit (by omega)) (fit (by omega)) rfl ?_
                     rw [show bsO (o.take k) ||| 1 <<< z = bsO (o.take (k + 1)) by rw [bsO_take (by omega), hz, Int.toNat_natCast]]
                     refine WO.p rfl rfl ?_
                     refine WO.nil ?_
                     refine W.region ?_
                     refine WO.p rfl rfl (WO.ar rfl rfl rfl (by (first | (unfold in64; omega) | (unfold in64; omega))) rfl (WO.p rfl rfl ?_))
                     refine WO.nil ?_
                     refine' ⟨k + 1, ?hp, ?hmu, ⟨rfl, rfl, rfl, rfl, rfl, rfl, rfl, trivial⟩, ?hS⟩
                     case hS => repeat (first | exact Sub.nil | refine Sub.cons (by repeat (first | exact Pick.head | apply Pick.tail)) ?_)
                     case hp => omega
                     case hmu => omega)
                first
                | (exfalso; omega)
                | (refine W.exit (blk_same ?_)
                   refine W.seq ?_
                   obtain ⟨j, hj⟩ : ∃ j, o.length = j + 1 := ⟨o.length - 1, by omega⟩
                   obtain ⟨z, hz, hzl⟩ := in_nat (hvo.1 _ (getD_mem (show j < o.length by omega) 0))
                   have hky := kyO_lt hvo hne
                   have hkd : kyO l o = bsO o * l.length + z := by unfold kyO; rw [hj, Nat.add_sub_cancel, hz, Int.toNat_natCast]
                   rw [List.take_of_length_le (show o.length ≤ k by omega)]
                   have hbd := ovF_bd hd hvo
                   refine W.drawD 15 [.r 0 [], .r 1 [], .r 2 [], .r 3 [], .r 4 [], .r 5 [], .b 6 [], .r 7 [], .r 8 [], .r 9 [], .b 10 [], .r 11 [], .r 12 [], .r 13 [], .b 14 []] [] (A0 := []) (Sub.refl _) (by kernel_rfl) ?_ ?_
                   · exact (ALok.r (ALok.r (ALok.r (ALok.r (ALok.r (ALok.r (ALok.b (ALok.r (ALok.r (ALok.r (ALok.b (ALok.r (ALok.r (ALok.r (ALok.b ALok.nil)))))))))))))))
                   refine' DT.r rfl rfl rfl ?hq ?_
                   case hq =>
                     refine WO.p rfl rfl ?_
                     exact WO.nil ⟨rfl, rfl⟩
                   refine' DT.r rfl rfl rfl ?hq ?_
                   case hq =>
                     refine WO.p rfl rfl ?_
                     exact WO.nil ⟨rfl, rfl⟩
                   refine' DT.r rfl rfl rfl ?hq ?_
                   case hq =>
                     refine WO.mul rfl rfl (by rw [← Int.natCast_mul]; unfold in64; omega) rfl ?_
                     rw [← Int.natCast_mul]
                     exact WO.nil ⟨rfl, rfl⟩
                   refine' DT.r rfl rfl rfl ?hq ?_
                   case hq =>
                     refine WO.p rfl rfl ?_
                     exact WO.nil ⟨rfl, rfl⟩
                   refine' DT.r rfl rfl rfl ?hq ?_
                   case hq =>
                     refine WO.p rfl rfl ?_
                     exact WO.nil ⟨rfl, rfl⟩
                   refine' DT.r rfl rfl rfl ?hq ?_
                   case hq =>
                     refine' WO.indexAddr (n := _) (i := _) rfl rfl rfl ?hs ?h1 rfl ?_
                     case hs => (first | exact hxs)
                     case h1 => (first | omega | (simp; omega))
                     exact WO.nil ⟨rfl, rfl⟩
                   refine' DT.b rfl rfl rfl ?hq ?_
                   case hq =>
                     refine' WO.load (v := _) rfl rfl ?hc rfl ?_
                     case hc => (first | (refine OwC.cell1s (e := 27) (n := all.length) (v := x) (cs := rv) (i := i) ?_ (by omega); exact (by repeat (first | exact Sub.nil | refine Sub.cons (by repeat (first | exact Pick.head | apply Pick.tail)) ?_))))
                     exact WO.nil ⟨rfl, rfl⟩
                   refine' DT.r rfl rfl rfl ?hq ?_
                   case hq =>
                     refine WO.p rfl rfl ?_
                     exact WO.nil ⟨rfl, rfl⟩
                   refine' DT.r rfl rfl rfl ?hq ?_
                   case hq =>
                     refine WO.p rfl rfl ?_
                     exact WO.nil ⟨rfl, rfl⟩
                   refine' DT.r rfl rfl rfl ?hq ?_
                   case hq =>
                     refine' WO.indexAddr (n := _) (i := _) rfl rfl rfl ?hs ?h1 rfl ?_
                     case hs => (first | exact hxs)
                     case h1 => (first | omega | (simp; omega))
                     exact WO.nil ⟨rfl, rfl⟩
                   refine' DT.b rfl rfl rfl ?hq ?_
                   case hq =>
                     refine' WO.load (v := _) rfl rfl ?hc rfl ?_
                     case hc => (first | (refine OwC.cell1s (e := 27) (n := all.length) (v := x) (cs := rv) (i := i) ?_ (by omega); exact (by repeat (first | exact Sub.nil | refine Sub.cons (by repeat (first | exact Pick.head | apply Pick.tail)) ?_))))
                     exact WO.nil ⟨rfl, rfl⟩
                   refine' DT.r rfl rfl rfl ?hq ?_
                   case hq =>
                     refine' WO.len (n := _) rfl rfl ?hs rfl ?_
                     case hs => (first | exact hos)
                     exact WO.nil ⟨rfl, rfl⟩
                   refine' DT.r rfl rfl rfl ?hq ?_
                   case hq =>
                     refine WO.sub rfl rfl (by unfold in64; omega) rfl ?_
                     rw [show (o.length : Int) - 1 = (j : Int) by omega]
                     exact WO.nil ⟨rfl, rfl⟩
                   refine' DT.r rfl rfl rfl ?hq ?_
                   case hq =>
                     refine' WO.indexAddr (n := _) (i := _) rfl rfl rfl ?hs ?h1 rfl ?_
                     case hs => (first | exact hos)
                     case h1 => (first | omega | (simp; omega))
                     exact WO.nil ⟨rfl, rfl⟩
                   refine' DT.b rfl rfl rfl ?hq ?_
                   case hq =>
                     refine' WO.load (v := _) rfl rfl ?hc rfl ?_
                     case hc => (first | (refine rowsC (xss := all) (i := i) ?_ (by omega) hoo (show j < o.length by omega) hz; exact (by repeat (first | exact Sub.nil | refine Sub.cons (by repeat (first | exact Pick.head | apply Pick.tail)) ?_))))
                     exact WO.nil ⟨rfl, rfl⟩
                   refine DT.nil [_, _, _, _] rfl ?_
                   refine WO.add rfl rfl (by unfold in64; omega) rfl ?_
                   rw [show ((bsO o * l.length : Nat) : Int) + (z : Int) = ((kyO l o : Nat) : Int) by omega]
                   refine WO.p rfl rfl ?_
                   refine WO.nil ?_
                   refine W.drawD 13 [.r 0 [], .r 1 [], .r 2 [], .r 3 [], .r 4 [], .b 5 [], .b 6 [], .r 7 [], .r 8 [], .r 9 [], .b 10 [], .b 11 [], .r 12 []] [] (A0 := []) (Sub.refl _) (by kernel_rfl) ?_ ?_
                   · exact (ALok.r (ALok.r (ALok.r (ALok.r (ALok.r (ALok.b (ALok.b (ALok.r (ALok.r (ALok.r (ALok.b (ALok.b (ALok.r ALok.nil)))))))))))))
                   refine' DT.r rfl rfl rfl ?hq ?_
                   case hq =>
                     refine WO.p rfl rfl ?_
                     exact WO.nil ⟨rfl, rfl⟩
                   refine' DT.r rfl rfl rfl ?hq ?_
                   case hq =>
                     refine WO.p rfl rfl ?_
                     exact WO.nil ⟨rfl, rfl⟩
                   refine' DT.r rfl rfl rfl ?hq ?_
                   case hq =>
                     refine WO.p rfl rfl ?_
                     exact WO.nil ⟨rfl, rfl⟩
                   refine' DT.r rfl rfl rfl ?hq ?_
                   case hq =>
                     refine WO.p rfl rfl ?_
                     exact WO.nil ⟨rfl, rfl⟩
                   refine' DT.r rfl rfl rfl ?hq ?_
                   case hq =>
                     refine' WO.indexAddr (n := _) (i := _) rfl rfl rfl ?hs ?h1 rfl ?_
                     case hs => (first | exact isSl_lit (n := c) (c := c) (by omega) (fun _ => ⟨_, _, rfl⟩))
                     case h1 => (first | omega | (simp; omega))
                     exact WO.nil ⟨rfl, rfl⟩
                   refine' DT.b rfl rfl rfl ?hq ?_
                   case hq =>
                     refine' WO.load (v := _) rfl rfl ?hc rfl ?_
                     case hc => (first | (refine owE_cellS (e := 2) (xs := rfT b l (all.take i)) (x := (rfT b l (all.take i)).getD (kyO l o) 0) (i := kyO l o) ?_ (by rw [rfT_len]; omega) rfl rfl; exact (by repeat (first | exact Sub.nil | refine Sub.cons (by repeat (first | exact Pick.head | apply Pick.tail)) ?_))))
                     exact WO.nil ⟨rfl, rfl⟩
                   refine' DT.b rfl rfl rfl ?hq ?_
                   case hq =>
                     refine WO.loadA rfl rfl (Cells.own Pick.head) rfl rfl ?_
                     exact WO.nil ⟨rfl, rfl⟩
                   refine' DT.r rfl rfl rfl ?hq ?_
                   case hq =>
                     refine WO.p rfl rfl ?_
                     exact WO.nil ⟨rfl, rfl⟩
                   refine' DT.r rfl rfl rfl ?hq ?_
                   case hq =>
                     refine WO.p rfl rfl ?_
                     exact WO.nil ⟨rfl, rfl⟩
                   refine' DT.r rfl rfl rfl ?hq ?_
                   case hq =>
                     refine' WO.indexAddr (n := _) (i := _) rfl rfl rfl ?hs ?h1 rfl ?_
                     case hs => (first | exact hxs)
                     case h1 => (first | omega | (simp; omega))
                     exact WO.nil ⟨rfl, rfl⟩
                   refine' DT.b rfl rfl rfl ?hq ?_
                   case hq =>
                     refine' WO.load (v := _) rfl rfl ?hc rfl ?_
                     case hc => (first | (refine OwC.cell1s (e := 27) (n := all.length) (v := x) (cs := rv) (i := i) ?_ (by omega); exact (by repeat (first | exact Sub.nil | refine Sub.cons (by repeat (first | exact Pick.head | apply Pick.tail)) ?_))))
                     exact WO.nil ⟨rfl, rfl⟩
                   refine' DT.b rfl rfl rfl ?hq ?_
                   case hq =>
                     refine WO.callR rfl Try.call48 (fun L w hi => ref_over w v _ a b l o (hR.later hi) (RowOr.rd (x := x) (n := all.length) hroi (by repeat (first | exact Sub.nil | refine Sub.cons (by repeat (first | exact Pick.head | apply Pick.tail)) ?_)) hi) hd (by omega) hvo) rfl ?_
                     exact WO.nil ⟨rfl, rfl⟩
                   refine' DT.r rfl rfl rfl ?hq ?_
                   case hq =>
                     refine WO.min2 rfl rfl rfl ?_
                     exact WO.nil ⟨rfl, rfl⟩
                   refine DT.nil [_, _, _, _] rfl ?_
                   refine' WO.indexAddr (n := _) (i := _) rfl rfl rfl ?hs ?h1 rfl ?_
                   case hs => (first | exact isSl_lit (n := c) (c := c) (by omega) (fun _ => ⟨_, _, rfl⟩))
                   case h1 => (first | omega | (simp; omega))
                   refine WO.storeE (n := min ((rfT b l (all.take i)).getD (kyO l o) 0) (ovF b l o)) (i := kyO l o) (xs := rfT b l (all.take i)) encI_ok rfl rfl rfl rfl (by repeat (first | exact Pick.head | apply Pick.tail)) (by rw [rfT_len]; omega) ?_
                   refine WO.nil ?_
                   first | rw [show (rfT b l (all.take i)).set (kyO l o) (min ((rfT b l (all.take i)).getD (kyO l o) 0) (ovF b l o)) = rfT b l (all.take (i + 1)) by rw [rfT_o (by omega), ← hoo]; exact (rfT_snoc hne hky).symm] | rw [show rfT b l (all.take i) = rfT b l (all.take (i + 1)) by rw [rfT_o (by omega), ← hoo]; exact (rfT_same (List.eq_nil_of_length_eq_zero (by omega))).symm]
                   refine W.region ?_
                   refine WO.p rfl rfl (WO.ar rfl rfl rfl (by (first | (unfold in64; omega) | (unfold in64; omega))) rfl (WO.p rfl rfl ?_))
                   refine WO.nil ?_
                   refine' ⟨i + 1, ?hp, ?hmu, ⟨rfl, rfl, rfl, rfl, rfl, trivial⟩, ?hS⟩
                   case hS => repeat (first | exact Sub.nil | refine Sub.cons (by repeat (first | exact Pick.head | apply Pick.tail)) ?_)
                   case hp => omega
                   case hmu => omega)))
        first
        | (exfalso; omega)
        | (refine W.exit (blk_same ?_)
           refine W.sreg ?_
           refine WO.p rfl rfl (WO.p rfl rfl (WO.p rfl rfl ?_))
           refine WO.nil ?_
           refine W.ret ?_
           first | (rw [TbL_ne (by assumption)]; exact fin.ret (Res.two rfl (RV.tmp rfl) (RV.tmp rfl)) ⟨_, rfl, fun h hs => Sub.sat (.cons .head .nil) (owNil (enc := encI) (e := 2) (sz := 1) h hs)⟩) | (rw [List.take_of_length_le (by omega), hall, hc]; exact fin.ret (Res.two rfl (RV.tmp rfl) (RV.tmp rfl)) ⟨_, rfl, fun h hs => Sub.sat (by repeat (first | exact Sub.nil | refine Sub.cons (by repeat (first | exact Pick.head | apply Pick.tail)) ?_)) hs⟩))))
end Go.Proofs.Ytkonhpcldomidaa
namespace Go.Proofs.Ytkonhpcldomidaa
open Go Go.TH
attribute [local irreducible] W WO pt
set_option maxRecDepth 10000
set_option maxHeartbeats 1000000
/-- what the loop is told -/
def nv : Option MapEntry → Value
  | none => .tuple #[.bool false]
  | some e => .tuple #[.bool true, e.key, e.val]
/-- what has been handed out -/
def sn (seen : Array Nat) : Option MapEntry → Array Nat
  | none => seen
  | some e => seen.push e.born
def Nx (es : Array MapEntry) (seen : Array Nat) : Option MapEntry → Prop
  | none => (leftOf es seen).size = 0
  | some e => e ∈ (leftOf es seen).toList
/-- a loop's iterator -/
def itO (m clk : Nat) (seen : Array Nat) : Obj := .mapIter (some m) clk seen clk
theorem MapP.openE {H H' : List HP} {b : Nat} {f : Sk → Option Int} (p : Pick (MapP b f) H H') : ∀ h, sat H h → ∃ y : Array MapEntry × Nat, (Rep y.1.toList f ∧ Reg y.1.toList y.2) ∧ sat (pt b (.map y.1 y.2) :: H') h := fun h hs => by
  obtain ⟨h1, h2, s, ⟨es, clk, e, e', q⟩, hr⟩ := sat_perm p.perm hs
  exact ⟨(es, clk), ⟨e, e'⟩, h1, h2, s, q, hr⟩
theorem RdM.ownC {C : Cx Try.prog} {H H' L : List HP} {w : World} {m clk : Nat} {es : Array MapEntry} {f : Sk → Option Int} (p : Pick (pt m (.map es clk)) H H') (e : Rep es.toList f) (hi : TH.Inv C.w0 C.M (L ++ H) w) : RdM w.heap.size w m f := by
  have hl := (((hi.pickL p).perm List.perm_middle).look .head).1
  exact ⟨(Array.getElem?_eq_some_iff.1 hl).1, es, clk, e, hl⟩
theorem Rep.of {es : List MapEntry} {f : Sk → Option Int} (h : Rep es f) {e : MapEntry} (he : e ∈ es) : ∃ k v, e.key = kv k ∧ e.val = .int .i64 v ∧ f k = some v := by
  obtain ⟨kvs, h1, h2, h3⟩ := h
  have h4 : (e.key, e.val) ∈ es.map (fun e => (e.key, e.val)) := List.mem_map.2 ⟨e, he, rfl⟩
  rw [show es.map (fun e => (e.key, e.val)) = kvs.map (fun p => (kv p.1, Value.int .i64 p.2)) from h1] at h4
  obtain ⟨p, h5, h6⟩ := List.mem_map.1 h4
  injection h6 with h7 h8
  exact ⟨p.1, p.2, h7.symm, h8.symm, by rw [h3]; exact lk_of h2 h5⟩
theorem Rep.has {es : List MapEntry} {f : Sk → Option Int} (h : Rep es f) {k : Sk} {v : Int} (hf : f k = some v) : ∃ e ∈ es, e.key = kv k := by
  obtain ⟨kvs, h1, h2, h3⟩ := h
  rw [h3] at hf
  have h4 : (kv k, Value.int .i64 v) ∈ kvs.map (fun p => (kv p.1, Value.int .i64 p.2)) := List.mem_map.2 ⟨(k, v), lk_in hf, rfl⟩
  rw [← show es.map (fun e => (e.key, e.val)) = kvs.map (fun p => (kv p.1, Value.int .i64 p.2)) from h1] at h4
  obtain ⟨e, h5, h6⟩ := List.mem_map.1 h4
  injection h6 with h7 h8
  exact ⟨e, h5, h7⟩
/-- a key that has been handed out -/
def Dn (es : Array MapEntry) (seen : Array Nat) (k : Sk) : Prop := ∃ e ∈ es.toList, e.key = kv k ∧ seen.contains e.born = true
theorem kv_inj {k k' : Sk} (h : kv k = kv k') : k = k' := by
  unfold kv at h
  obtain ⟨a, b⟩ := k
  obtain ⟨c, d⟩ := k'
  simp at h
  obtain ⟨h1, h2⟩ := h
  exact Prod.ext (by show a = c; omega) (by show b = d; omega)
theorem Dn.none (es : Array MapEntry) (k : Sk) : ¬ Dn es #[] k := by
  rintro ⟨e, _, _, h⟩
  simp at h
theorem Dn.step {es : Array MapEntry} {clk : Nat} {seen : Array Nat} {e : MapEntry} {k k' : Sk} (hr : Reg es.toList clk) (he : e ∈ (leftOf es seen).toList) (hk : e.key = kv k) (h : Dn es (seen.push e.born) k') : Dn es seen k' ∨ k' = k := by
  obtain ⟨e', h1, h2, h3⟩ := h
  rw [contains_push] at h3
  cases hc : seen.contains e'.born with
  | true => exact .inl ⟨e', h1, h2, hc⟩
  | false =>
    rw [hc, Bool.false_or] at h3
    have h4 : e'.born = e.born := beq_iff_eq.1 h3
    have h5 : e' = e := by
      have f1 := find_born e' es.toList hr.1 h1
      have f2 := find_born e es.toList hr.1 (mem_left he).1
      rw [h4] at f1
      rw [f1] at f2
      injection f2
    subst h5
    rw [hk] at h2
    exact .inr (kv_inj h2).symm
theorem Dn.all {es : Array MapEntry} {seen : Array Nat} {f : Sk → Option Int} (hr : Rep es.toList f) (h0 : (leftOf es seen).size = 0) {k : Sk} {v : Int} (hf : f k = some v) : Dn es seen k := by
  obtain ⟨e, h1, h2⟩ := hr.has hf
  refine ⟨e, h1, h2, ?_⟩
  have h3 : leftOf es seen = #[] := Array.eq_empty_of_size_eq_zero h0
  unfold leftOf at h3
  rw [Array.filter_eq_empty_iff] at h3
  have h4 := h3 e (Array.mem_toList_iff.1 h1)
  cases hc : seen.contains e.born with
  | true => rfl
  | false => rw [hc] at h4; exact absurd rfl h4
section
variable {C : Cx Try.prog} {E : Env} {H H' H2 : List HP}
variable {ops : Array Oper} {K : KP} {rest : List Oper} {d : Nat} {ty : TypeId} {pos : String} {af : Array Edge} {x y z : Operand} {T : TypeId}
variable {r m clk : Nat} {es : Array MapEntry} {seen : Array Nat}
theorem WO.rangeM {k e : TypeId} (hT : Try.prog.underlying T = some (.map k e)) (hx : ev E x = some (.map (some m))) (p : Pick (pt m (.map es clk)) H H') (hN : Nat.blt d C.N = true)
    (h : ∀ r, WO C ops rest K ((d, .pointer (some ⟨r, 0, none⟩)) :: E) (pt r (itO m clk #[]) :: H)) : WO C ops (⟨some d, .range T x, ty, pos, af, none⟩ :: rest) K E H := by
  refine WO.step rfl rfl hN (XO.run (by simp) fun L a w hfr hi => ?_)
  have hl := (((hi.pickL p).perm List.perm_middle).look .head).1
  refine ⟨.pointer (some ⟨w.heap.size, 0, none⟩), w.alloc (itO m clk #[]), _, .inl ?_, h _, hi.alloc' _⟩
  have hr := run_range_map (P := Try.prog) w T k e m es clk hT hl
  simp only [execOp, hfr.eval hx]
  simp [hr, itO]
theorem WO.nextM (hx : ev E x = some (.pointer (some ⟨r, 0, none⟩))) (p : Pick (pt r (itO m clk seen)) H H') (q : Pick (pt m (.map es clk)) H H2) (hreg : Reg es.toList clk) (hN : Nat.blt d C.N = true)
    (h : ∀ o, Nx es seen o → WO C ops rest K ((d, nv o) :: E) (pt r (itO m clk (sn seen o)) :: H')) : WO C ops (⟨some d, .next x false, ty, pos, af, none⟩ :: rest) K E H := by
  refine WO.step rfl rfl hN (XO.run (by simp) fun L a w hfr hi => ?_)
  have hl := (((hi.pickL q).perm List.perm_middle).look .head).1
  have hi1 := (hi.pickL p).perm List.perm_middle
  have hr0 := (hi1.look .head).1
  have hr : w.heap[r]? = some (.mapIter (some m) clk seen clk) := hr0
  rcases run_next_at (P := Try.prog) w ty r m clk clk seen es clk hr hl hreg.2 (Nat.le_refl _) with ⟨h0, he⟩ | ⟨e, hm, w1, hw, he⟩
  · refine ⟨nv none, w, _, .inl ?_, h none h0, hi1.perm List.perm_middle.symm⟩
    simp only [execOp, hfr.eval hx]
    simp [he, nv]
  refine ⟨nv (some e), ChangeMaps.setBlock w1 r (itO m clk (seen.push e.born)), _, .inl ?_, h (some e) hm, ?_⟩
  · simp only [execOp, hfr.eval hx]
    simp [he, nv, itO]
  have hlt : r < w.heap.size := (Array.getElem?_eq_some_iff.1 hr).1
  have hi2 : TH.Inv C.w0 C.M (pt r (itO m clk seen) :: (L ++ H')) w1 := by
    rcases hw with rfl | rfl
    · exact hi1
    exact hi1.drawn
  have hlt1 : r < w1.heap.size := by rcases hw with rfl | rfl <;> exact hlt
  have hs := hi2.set (o' := itO m clk (seen.push e.born)) .head (w' := ChangeMaps.setBlock w1 r (itO m clk (seen.push e.born))) rfl rfl rfl (by simp [ChangeMaps.setBlock]) (by simp [ChangeMaps.setBlock, hlt1]) (fun k hk => by simp [ChangeMaps.setBlock, Array.getElem?_setIfInBounds_ne (Ne.symm hk)])
  exact hs.perm List.perm_middle.symm
theorem WO.extractN {o : Option MapEntry} (hx : ev E x = some (nv o)) (hN : Nat.blt d C.N = true) (h : WO C ops rest K ((d, .bool (bl (o.isSome = true))) :: E) H) : WO C ops (⟨some d, .extract x 0, ty, pos, af, none⟩ :: rest) K E H := by
  cases o with
  | none => exact WO.extract (vs := [.bool false]) hx (by simp [bl_eq]) hN h
  | some e => exact WO.extract (vs := [.bool true, e.key, e.val]) hx (by simp [bl_eq]) hN h
theorem WO.entryM {e : MapEntry} {k : Sk} {v : Int} (hx : ev E x = some (.pointer (some ⟨r, 0, none⟩))) (p : Pick (pt r (itO m clk (seen.push e.born))) H H') (q : Pick (pt m (.map es clk)) H H2) (hreg : Reg es.toList clk) (he : e ∈ es.toList) (hk : e.key = kv k) (hv : e.val = .int .i64 v) (hN : Nat.blt d C.N = true)
    (h : WO C ops rest K ((d, .tuple #[kv k, .int .i64 v]) :: E) H) : WO C ops (⟨some d, .entry x, ty, pos, af, none⟩ :: rest) K E H := by
  refine WO.pure _ (by simp) (fun L a w hfr hi => ?_) hN h
  have hl := (((hi.pickL q).perm List.perm_middle).look .head).1
  have hr0 := (((hi.pickL p).perm List.perm_middle).look .head).1
  have hr : w.heap[r]? = some (.mapIter (some m) clk (seen.push e.born) clk) := hr0
  have hrun := run_entry_at (P := Try.prog) w r m clk seen es clk e hr hl he hreg.1
  simp only [execOp, hfr.eval hx]
  simp [hrun, hk, hv]
end
end Go.Proofs.Ytkonhpcldomidaa
namespace Go.Proofs.Ytkonhpcldomidaa
open Go Go.TH
attribute [local irreducible] W WO pt
set_option maxRecDepth 10000
set_option maxHeartbeats 1000000
theorem WO.addN {C : Cx Try.prog} {E : Env} {H : List HP} {ops : Array Oper} {K : KP} {rest : List Oper} {d : Nat} {ty : TypeId} {pos : String} {af : Array Edge} {x y : Operand} {T T' : TypeId} {k : IntKind} {a b : Nat} (hx : ev E x = some (.int k (a : Int))) (hy : ev E y = some (.int k (b : Int))) (hr : Fits k (a + b)) (hN : Nat.blt d C.N = true) (h : WO C ops rest K ((d, .int k ((a + b : Nat) : Int)) :: E) H) : WO C ops (⟨some d, .binOp .add T x y T', ty, pos, af, none⟩ :: rest) K E H :=
  WO.pure _ (by simp) (fun L c w hf _ => by
    have hw := wrap_nat hr
    simp only [execOp, hf.eval hx, hf.eval hy]
    simp [binOp_add, eqGuard_add, Op.intArith]
    simpa using hw) hN h
def mnL (xs : List Int) (i : Nat) : Int := (xs.take i).foldl min (xs.getD 0 0)
def mxL (xs : List Int) (i : Nat) : Int := (xs.take i).foldl max (xs.getD 0 0)
theorem mnL_succ {xs : List Int} {i : Nat} (h : i < xs.length) : mnL xs (i + 1) = min (mnL xs i) (xs.getD i 0) := by unfold mnL; exact fold_take _ _ _ h
theorem mxL_succ {xs : List Int} {i : Nat} (h : i < xs.length) : mxL xs (i + 1) = max (mxL xs i) (xs.getD i 0) := by unfold mxL; exact fold_take _ _ _ h
theorem mnL_1 {xs : List Int} (h : 0 < xs.length) : mnL xs 1 = xs.getD 0 0 := by rw [mnL_succ h]; unfold mnL; simp
theorem mxL_1 {xs : List Int} (h : 0 < xs.length) : mxL xs 1 = xs.getD 0 0 := by rw [mxL_succ h]; unfold mxL; simp
theorem c_Min (w : World) (v : Value) (xs : List Int) (hX : RdF encI 1 w.heap.size w v xs) (h0 : 0 < xs.length) : Ret Try.prog 51 [v].toArray w (.int .i64 (mnL xs xs.length)) := by
  refine Ret.of mixed tyTab Try.func51 rfl rfl ?_
  replace hX : RdF encI 1 (fnCx mixed tyTab Try.f51.ntmps w).B (fnCx mixed tyTab Try.f51.ntmps w).w0 v xs := hX
  have hle := hX.sl.le
  refine W.sreg ?_
  refine WO.p rfl rfl ?_
  refine WO.nil ?_
  refine W.seq ?_
  refine W.sreg ?_
  refine WO.p rfl rfl ?_
  refine' WO.len (n := _) rfl rfl ?hs rfl ?_
  case hs => (first | exact hX.sl)
  refine WO.lssF rfl rfl (by omega) rfl ?_
  refine WO.nil ?_
  refine W.cond_f rfl ?_
  refine W.skip ?_
  refine W.sreg ?_
  refine WO.p rfl rfl ?_
  refine' WO.indexAddr (n := _) (i := 0) rfl rfl rfl ?hs ?h1 rfl ?_
  case hs => (first | exact hX.sl)
  case h1 => (first | omega | (simp; omega))
  refine' WO.load (v := _) rfl rfl ?hc rfl ?_
  case hc => (first | (refine hX.cell0 (i := 0) (by omega) 0 ?_; rfl))
  refine WO.p rfl rfl ?_
  refine WO.nil ?_
  refine W.seq ?_
  refine W.sreg ?_
  refine WO.p rfl rfl ?_
  refine WO.nil ?_
  refine W.block ?_
  rw [← mnL_1 h0]
  refine W.loop (fun (i : Nat) => 1 ≤ i ∧ i ≤ xs.length)
    (fun (i : Nat) => [(0, v), (3, .int .i64 (mnL xs i)), (4, .int .i64 (i : Int))])
    (fun (i : Nat) => [])
    (fun (i : Nat) => xs.length - i) 1
    (by omega) ⟨rfl, rfl, rfl, trivial⟩ (by repeat (first | exact Sub.nil | refine Sub.cons (by repeat (first | exact Pick.head | apply Pick.tail)) ?_)) ?_
  rintro i hi
  refine W.seq ?_
  refine W.sreg ?_
  refine WO.p rfl rfl (WO.p rfl rfl ?_)
  refine' WO.len (n := _) rfl rfl ?hs rfl ?_
  case hs => (first | exact hX.sl)
  refine WO.p rfl rfl ?_
  refine WO.nil ?_
  refine W.cond_bl rfl (fun c1 => ?_) (fun c1 => ?_)
  · first
    | (exfalso; omega)
    | (refine W.skip ?_
       refine W.seq ?_
       refine W.block ?_
       refine W.region ?_
       refine WO.p rfl rfl (WO.p rfl rfl (WO.p rfl rfl ?_))
       refine' WO.indexAddr (n := _) (i := _) rfl rfl rfl ?hs ?h1 rfl ?_
       case hs => (first | exact hX.sl)
       case h1 => (first | omega | (simp; omega))
       refine' WO.load (v := _) rfl rfl ?hc rfl ?_
       case hc => (first | (refine hX.cell0 (i := i) (by omega) 0 ?_; rfl))
       refine WO.min2 rfl rfl rfl ?_
       rw [← mnL_succ (show i < xs.length by omega)]
       refine WO.p rfl rfl ?_
       refine WO.nil ?_
       refine W.region ?_
       refine WO.p rfl rfl (WO.ar rfl rfl rfl (by (first | (unfold in64; omega) | (unfold in64; omega))) rfl (WO.p rfl rfl ?_))
       refine WO.nil ?_
       refine' ⟨i + 1, ?hp, ?hmu, ⟨rfl, rfl, rfl, trivial⟩, ?hS⟩
       case hS => repeat (first | exact Sub.nil | refine Sub.cons (by repeat (first | exact Pick.head | apply Pick.tail)) ?_)
       case hp => omega
       case hmu => omega)
  first
  | (exfalso; omega)
  | (refine W.exit (blk_same ?_)
     refine W.sreg ?_
     refine WO.p rfl rfl (WO.p rfl rfl ?_)
     refine WO.nil ?_
     refine W.ret ?_
     refine fin.ret (Res.one rfl (RV.tmp rfl)) (congrArg (Value.int .i64) ?_)
     rw [show i = xs.length by omega])
theorem c_Max (w : World) (v : Value) (xs : List Int) (hX : RdF encI 1 w.heap.size w v xs) (h0 : 0 < xs.length) : Ret Try.prog 52 [v].toArray w (.int .i64 (mxL xs xs.length)) := by
  refine Ret.of mixed tyTab Try.func52 rfl rfl ?_
  replace hX : RdF encI 1 (fnCx mixed tyTab Try.f52.ntmps w).B (fnCx mixed tyTab Try.f52.ntmps w).w0 v xs := hX
  have hle := hX.sl.le
  refine W.sreg ?_
  refine WO.p rfl rfl ?_
  refine WO.nil ?_
  refine W.seq ?_
  refine W.sreg ?_
  refine WO.p rfl rfl ?_
  refine' WO.len (n := _) rfl rfl ?hs rfl ?_
  case hs => (first | exact hX.sl)
  refine WO.lssF rfl rfl (by omega) rfl ?_
  refine WO.nil ?_
  refine W.cond_f rfl ?_
  refine W.skip ?_
  refine W.sreg ?_
  refine WO.p rfl rfl ?_
  refine' WO.indexAddr (n := _) (i := 0) rfl rfl rfl ?hs ?h1 rfl ?_
  case hs => (first | exact hX.sl)
  case h1 => (first | omega | (simp; omega))
  refine' WO.load (v := _) rfl rfl ?hc rfl ?_
  case hc => (first | (refine hX.cell0 (i := 0) (by omega) 0 ?_; rfl))
  refine WO.p rfl rfl ?_
  refine WO.nil ?_
  refine W.seq ?_
  refine W.sreg ?_
  refine WO.p rfl rfl ?_
  refine WO.nil ?_
  refine W.block ?_
  rw [← mxL_1 h0]
  refine W.loop (fun (i : Nat) => 1 ≤ i ∧ i ≤ xs.length)
    (fun (i : Nat) => [(0, v), (3, .int .i64 (mxL xs i)), (4, .int .i64 (i : Int))])
    (fun (i : Nat) => [])
    (fun (i : Nat) => xs.length - i) 1
    (by omega) ⟨rfl, rfl, rfl, trivial⟩ (by repeat (first | exact Sub.nil | refine Sub.cons (by repeat (first | exact Pick.head | apply Pick.tail)) ?_)) ?_
  rintro i hi
  refine W.seq ?_
  refine W.sreg ?_
  refine WO.p rfl rfl (WO.p rfl rfl ?_)
  refine' WO.len (n := _) rfl rfl ?hs rfl ?_
  case hs => (first | exact hX.sl)
  refine WO.p rfl rfl ?_
  refine WO.nil ?_
  refine W.cond_bl rfl (fun c1 => ?_) (fun c1 => ?_)
  · first
    | (exfalso; omega)
    | (refine W.skip ?_
       refine W.seq ?_
       refine W.block ?_
       refine W.region ?_
       refine WO.p rfl rfl (WO.p rfl rfl (WO.p rfl rfl ?_))
       refine' WO.indexAddr (n := _) (i := _) rfl rfl rfl ?hs ?h1 rfl ?_
       case hs => (first | exact hX.sl)
       case h1 => (first | omega | (simp; omega))
       refine' WO.load (v := _) rfl rfl ?hc rfl ?_
       case hc => (first | (refine hX.cell0 (i := i) (by omega) 0 ?_; rfl))
       refine WO.max2 rfl rfl rfl ?_
       rw [← mxL_succ (show i < xs.length by omega)]
       refine WO.p rfl rfl ?_
       refine WO.nil ?_
       refine W.region ?_
       refine WO.p rfl rfl (WO.ar rfl rfl rfl (by (first | (unfold in64; omega) | (unfold in64; omega))) rfl (WO.p rfl rfl ?_))
       refine WO.nil ?_
       refine' ⟨i + 1, ?hp, ?hmu, ⟨rfl, rfl, rfl, trivial⟩, ?hS⟩
       case hS => repeat (first | exact Sub.nil | refine Sub.cons (by repeat (first | exact Pick.head | apply Pick.tail)) ?_)
       case hp => omega
       case hmu => omega)
  first
  | (exfalso; omega)
  | (refine W.exit (blk_same ?_)
     refine W.sreg ?_
     refine WO.p rfl rfl (WO.p rfl rfl ?_)
     refine WO.nil ?_
     refine W.ret ?_
     refine fin.ret (Res.one rfl (RV.tmp rfl)) (congrArg (Value.int .i64) ?_)
     rw [show i = xs.length by omega])
/-- the number of a set's runs -/
def cntN (s k : Nat) : Nat := ((List.range k).filter (fun i => decide (hasB s i))).length
def o1 (n : Nat) : Nat := ((n >>> 1) &&& 6148914691236517205) + (n &&& 6148914691236517205)
def o2 (n : Nat) : Nat := ((n >>> 2) &&& 3689348814741910323) + (n &&& 3689348814741910323)
def o3 (n : Nat) : Nat := ((n >>> 4) + n) &&& 1085102592571150095
def o4 (n : Nat) : Nat := n + (n >>> 8)
def o5 (n : Nat) : Nat := n + (n >>> 16)
def o6 (n : Nat) : Nat := n + (n >>> 32)
def oAll (n : Nat) : Bool := decide (o1 n < 256) && decide (o2 (o1 n) < 256) && decide (o3 (o2 (o1 n)) < 256) && decide (o4 (o3 (o2 (o1 n))) < 256) && decide (o5 (o4 (o3 (o2 (o1 n)))) < 256) && decide (o6 (o5 (o4 (o3 (o2 (o1 n))))) < 256) && decide (o6 (o5 (o4 (o3 (o2 (o1 n))))) &&& 127 = cntN n 8) && decide ((o2 (o1 n)) >>> 4 + o2 (o1 n) < 256)
theorem o_all : (List.range 256).all oAll = true := by decide +kernel
theorem o_of {n : Nat} (h : n < 256) : (o1 n < 256 ∧ o2 (o1 n) < 256 ∧ o3 (o2 (o1 n)) < 256 ∧ o4 (o3 (o2 (o1 n))) < 256 ∧ o5 (o4 (o3 (o2 (o1 n)))) < 256 ∧ o6 (o5 (o4 (o3 (o2 (o1 n))))) < 256) ∧ o6 (o5 (o4 (o3 (o2 (o1 n))))) &&& 127 = cntN n 8 ∧ (o2 (o1 n)) >>> 4 + o2 (o1 n) < 256 := by
  have h1 := List.all_eq_true.1 o_all n (List.mem_range.2 h)
  unfold oAll at h1
  simp only [Bool.and_eq_true, decide_eq_true_eq] at h1
  obtain ⟨⟨⟨⟨⟨⟨⟨a, b⟩, c⟩, d⟩, e⟩, f⟩, g⟩, i⟩ := h1
  exact ⟨⟨a, b, c, d, e, f⟩, g, i⟩
theorem fitU {a : Nat} (h : a < 18446744073709551616) : Fits .u64 a := h
theorem c_Ones64 (w : World) (n : Nat) (h : n < 256) : Ret Try.prog 67 [.int .u64 (n : Int)].toArray w (.int .i64 (cntN n 8 : Int)) := by
  refine Ret.of mixed tyTab Try.func67 rfl rfl ?_
  obtain ⟨⟨h1, h2, h3, h4, h5, h6⟩, h7, h8⟩ := o_of h
  have hs : ∀ a k : Nat, a >>> k ≤ a := fun a k => by rw [Nat.shiftRight_eq_div_pow]; exact Nat.div_le_self _ _
  have hs1 := hs n 1
  have hs2 := hs (o1 n) 2
  have hs3 := hs (o2 (o1 n)) 4
  refine W.sreg ?_
  refine WO.p rfl rfl ?_
  refine WO.nil ?_
  refine W.sreg ?_
  refine WO.p rfl rfl ?_
  refine WO.shrN (a := n) (s := 1) rfl rfl (by decide) rfl ?_
  refine WO.andN (a := n >>> 1) (b := 6148914691236517205) rfl rfl (fitU (by omega)) (fitU (by omega)) rfl ?_
  refine WO.p rfl rfl ?_
  refine WO.andN (a := n) (b := 6148914691236517205) rfl rfl (fitU (by omega)) (fitU (by omega)) rfl ?_
  refine WO.addN (a := (n >>> 1) &&& 6148914691236517205) (b := n &&& 6148914691236517205) rfl rfl (fitU (by show o1 n < _; omega)) rfl ?_
  rw [show ((n >>> 1) &&& 6148914691236517205) + (n &&& 6148914691236517205) = o1 n from rfl]
  refine WO.p rfl rfl ?_
  refine WO.nil ?_
  refine W.sreg ?_
  refine WO.p rfl rfl ?_
  refine WO.shrN (a := o1 n) (s := 2) rfl rfl (by decide) rfl ?_
  refine WO.andN (a := o1 n >>> 2) (b := 3689348814741910323) rfl rfl (fitU (by omega)) (fitU (by omega)) rfl ?_
  refine WO.p rfl rfl ?_
  refine WO.andN (a := o1 n) (b := 3689348814741910323) rfl rfl (fitU (by omega)) (fitU (by omega)) rfl ?_
  refine WO.addN (a := (o1 n >>> 2) &&& 3689348814741910323) (b := o1 n &&& 3689348814741910323) rfl rfl (fitU (by show o2 (o1 n) < _; omega)) rfl ?_
  rw [show ((o1 n >>> 2) &&& 3689348814741910323) + (o1 n &&& 3689348814741910323) = o2 (o1 n) from rfl]
  refine WO.p rfl rfl ?_
  refine WO.nil ?_
  refine W.sreg ?_
  refine WO.p rfl rfl ?_
  refine WO.shrN (a := o2 (o1 n)) (s := 4) rfl rfl (by decide) rfl ?_
  refine WO.p rfl rfl ?_
  refine WO.addN (a := o2 (o1 n) >>> 4) (b := o2 (o1 n)) rfl rfl (fitU (by omega)) rfl ?_
  refine WO.andN (a := o2 (o1 n) >>> 4 + o2 (o1 n)) (b := 1085102592571150095) rfl rfl (fitU (by omega)) (fitU (by omega)) rfl ?_
  rw [show (o2 (o1 n) >>> 4 + o2 (o1 n)) &&& 1085102592571150095 = o3 (o2 (o1 n)) from rfl]
  refine WO.p rfl rfl ?_
  refine WO.nil ?_
  refine W.sreg ?_
  refine WO.p rfl rfl (WO.p rfl rfl ?_)
  refine WO.shrN (a := o3 (o2 (o1 n))) (s := 8) rfl rfl (by decide) rfl ?_
  refine WO.addN (a := o3 (o2 (o1 n))) (b := o3 (o2 (o1 n)) >>> 8) rfl rfl (fitU (by show o4 (o3 (o2 (o1 n))) < _; omega)) rfl ?_
  rw [show o3 (o2 (o1 n)) + (o3 (o2 (o1 n)) >>> 8) = o4 (o3 (o2 (o1 n))) from rfl]
  refine WO.p rfl rfl ?_
  refine WO.nil ?_
  refine W.sreg ?_
  refine WO.p rfl rfl (WO.p rfl rfl ?_)
  refine WO.shrN (a := o4 (o3 (o2 (o1 n)))) (s := 16) rfl rfl (by decide) rfl ?_
  refine WO.addN (a := o4 (o3 (o2 (o1 n)))) (b := o4 (o3 (o2 (o1 n))) >>> 16) rfl rfl (fitU (by show o5 (o4 (o3 (o2 (o1 n)))) < _; omega)) rfl ?_
  rw [show o4 (o3 (o2 (o1 n))) + (o4 (o3 (o2 (o1 n))) >>> 16) = o5 (o4 (o3 (o2 (o1 n)))) from rfl]
  refine WO.p rfl rfl ?_
  refine WO.nil ?_
  refine W.sreg ?_
  refine WO.p rfl rfl (WO.p rfl rfl ?_)
  refine WO.shrN (a := o5 (o4 (o3 (o2 (o1 n))))) (s := 32) rfl rfl (by decide) rfl ?_
  refine WO.addN (a := o5 (o4 (o3 (o2 (o1 n))))) (b := o5 (o4 (o3 (o2 (o1 n)))) >>> 32) rfl rfl (fitU (by show o6 (o5 (o4 (o3 (o2 (o1 n))))) < _; omega)) rfl ?_
  rw [show o5 (o4 (o3 (o2 (o1 n)))) + (o5 (o4 (o3 (o2 (o1 n)))) >>> 32) = o6 (o5 (o4 (o3 (o2 (o1 n))))) from rfl]
  refine WO.p rfl rfl ?_
  refine WO.nil ?_
  refine W.sreg ?_
  refine WO.p rfl rfl ?_
  refine WO.convI (b := ((o6 (o5 (o4 (o3 (o2 (o1 n))))) : Nat) : Int)) rfl rfl rfl (wrap_nat (fit (by omega))) rfl ?_
  refine WO.andN (a := o6 (o5 (o4 (o3 (o2 (o1 n)))))) (b := 127) rfl rfl (fit (by omega)) (fit (by omega)) rfl ?_
  rw [h7]
  refine WO.p rfl rfl ?_
  refine WO.nil ?_
  refine W.ret ?_
  exact fin.ret (Res.one rfl (RV.tmp rfl)) rfl
theorem c_Ones (w : World) (n : Nat) (h : n < 256) : Ret Try.prog 54 [.int .u64 (n : Int)].toArray w (.int .i64 (cntN n 8 : Int)) := by
  refine Ret.of mixed tyTab Try.func54 rfl rfl ?_
  refine W.sreg ?_
  refine WO.p rfl rfl ?_
  refine WO.nil ?_
  refine W.seq ?_
  refine W.cond_f rfl ?_
  refine W.skip ?_
  refine W.sreg ?_
  refine WO.p rfl rfl ?_
  refine WO.callR rfl Try.call67 (fun L w hi => c_Ones64 w n h) rfl ?_
  refine WO.p rfl rfl ?_
  refine WO.nil ?_
  refine W.ret ?_
  exact fin.ret (Res.one rfl (RV.tmp rfl)) rfl
end Go.Proofs.Ytkonhpcldomidaa
namespace Go.Proofs.Ytkonhpcldomidaa
open Go Go.TH
set_option maxRecDepth 10000
set_option maxHeartbeats 1000000
section
variable (b : Int) (l : List Rn) (xs : List Int)
/-- a list as a table -/
def fT (c : Nat) : Sk → Option Int := fun k => if k.2 < l.length ∧ k.1 * l.length + k.2 < c then some (xs.getD (k.1 * l.length + k.2) 0) else none
/-- an entry that does not keep the law -/
def wrK (f : Sk → Option Int) (s i : Nat) (v : Int) : Prop := (¬ hasB s i ∧ v ≠ nev) ∨ (hasB s i ∧ fow b l f s i < v)
instance (f : Sk → Option Int) (s i : Nat) (v : Int) : Decidable (wrK b l f s i v) := by unfold wrK; infer_instance
def wrX (x : Nat) : Prop := wrK b l (fT l xs xs.length) (x / l.length) (x % l.length) (xs.getD x 0)
instance (x : Nat) : Decidable (wrX b l xs x) := by unfold wrX; infer_instance
/-- an entry that counts -/
def cnX (x : Nat) : Prop := hasB (x / l.length) (x % l.length) ∧ xs.getD x 0 < nev
instance (x : Nat) : Decidable (cnX l xs x) := by unfold cnX; infer_instance
def bad3 : Prop := ∃ x ∈ xs, x < 0 ∨ nev < x
instance : Decidable (bad3 xs) := by unfold bad3; infer_instance
def bad14 : Prop := ∃ x ∈ List.range xs.length, wrX b l xs x
instance : Decidable (bad14 b l xs) := by unfold bad14; infer_instance
def mostF : Nat := (List.range xs.length).foldl (fun g x => if cnX l xs x then max g (cntN (x / l.length) 8) else g) 0
def ctE (a : Int) : Int := if chkD a b l ≠ 0 then chkD a b l else if xs.length ≠ 2 ^ l.length * l.length then 15 else if bad3 xs then 3 else if bad14 b l xs then 14 else 0
def ctM (a : Int) : Int := if ctE b l xs a = 0 then (mostF l xs : Int) else 0
def ctV (a : Int) : Value := .tuple #[.int .i64 (ctM b l xs a), .int .i64 (ctE b l xs a)]
end
theorem ctV_bad {a b : Int} {l : List Rn} {xs : List Int} {e : Int} (h : ctE b l xs a = e) (h0 : e ≠ 0) : ctV b l xs a = .tuple #[.int .i64 0, .int .i64 e] := by
  unfold ctV ctM; rw [h, if_neg h0]
theorem ctE_1 {a b : Int} {l : List Rn} {xs : List Int} (h : chkD a b l ≠ 0) : ctE b l xs a = chkD a b l := if_pos h
theorem ctE_15 {a b : Int} {l : List Rn} {xs : List Int} (h : ¬ chkD a b l ≠ 0) (h1 : xs.length ≠ 2 ^ l.length * l.length) : ctE b l xs a = 15 := by unfold ctE; rw [if_neg h, if_pos h1]
theorem ctE_3 {a b : Int} {l : List Rn} {xs : List Int} (h : ¬ chkD a b l ≠ 0) (h1 : xs.length = 2 ^ l.length * l.length) (h2 : bad3 xs) : ctE b l xs a = 3 := by unfold ctE; rw [if_neg h, if_neg (by omega), if_pos h2]
theorem ctE_14 {a b : Int} {l : List Rn} {xs : List Int} (h : ¬ chkD a b l ≠ 0) (h1 : xs.length = 2 ^ l.length * l.length) (h2 : ¬ bad3 xs) (h3 : bad14 b l xs) : ctE b l xs a = 14 := by unfold ctE; rw [if_neg h, if_neg (by omega), if_neg h2, if_pos h3]
theorem ctE_0 {a b : Int} {l : List Rn} {xs : List Int} (h : ¬ chkD a b l ≠ 0) (h1 : xs.length = 2 ^ l.length * l.length) (h2 : ¬ bad3 xs) (h3 : ¬ bad14 b l xs) : ctE b l xs a = 0 := by unfold ctE; rw [if_neg h, if_neg (by omega), if_neg h2, if_neg h3]
theorem foldmost (p : Nat → Prop) [DecidablePred p] (c : Nat → Nat) : ∀ (xs : List Nat) (g : Nat), let r := xs.foldl (fun g x => if p x then max g (c x) else g) g; g ≤ r ∧ (∀ x ∈ xs, p x → c x ≤ r) ∧ (r = g ∨ ∃ x ∈ xs, p x ∧ r = c x)
  | [], g => ⟨Nat.le_refl _, fun x h => by simp at h, .inl rfl⟩
  | x :: xs, g => by
    intro r
    have hr : r = xs.foldl (fun g x => if p x then max g (c x) else g) (if p x then max g (c x) else g) := rfl
    obtain ⟨h1, h2, h3⟩ := foldmost p c xs (if p x then max g (c x) else g)
    rw [← hr] at h1 h2 h3
    by_cases hp : p x
    · rw [if_pos hp] at h1 h3
      refine ⟨by omega, fun y hy hpy => ?_, ?_⟩
      · rcases List.mem_cons.1 hy with rfl | hy
        · omega
        exact h2 y hy hpy
      rcases h3 with h | ⟨y, hy, h⟩
      · rcases Nat.le_total g (c x) with q | q
        · exact .inr ⟨x, by simp, hp, by omega⟩
        exact .inl (by omega)
      exact .inr ⟨y, by simp [hy], h⟩
    rw [if_neg hp] at h1 h3
    refine ⟨h1, fun y hy hpy => ?_, ?_⟩
    · rcases List.mem_cons.1 hy with rfl | hy
      · exact absurd hpy hp
      exact h2 y hy hpy
    rcases h3 with h | ⟨y, hy, h⟩
    · exact .inl h
    exact .inr ⟨y, by simp [hy], h⟩
theorem mostF_eq {l : List Rn} {xs : List Int} {m : Nat} (h1 : ∀ x, x < xs.length → cnX l xs x → cntN (x / l.length) 8 ≤ m) (h2 : m = 0 ∨ ∃ x, x < xs.length ∧ cnX l xs x ∧ m = cntN (x / l.length) 8) : mostF l xs = m := by
  obtain ⟨q1, q2, q3⟩ := foldmost (cnX l xs) (fun x => cntN (x / l.length) 8) (List.range xs.length) 0
  have hr : mostF l xs = (List.range xs.length).foldl (fun g x => if cnX l xs x then max g ((fun x => cntN (x / l.length) 8) x) else g) 0 := rfl
  rw [← hr] at q1 q2 q3
  have h3 : mostF l xs ≤ m := by
    rcases q3 with h | ⟨x, hx, hc, h⟩
    · omega
    have := h1 x (List.mem_range.1 hx) hc; omega
  have h4 : m ≤ mostF l xs := by
    rcases h2 with h | ⟨x, hx, hc, h⟩
    · omega
    have := q2 x (List.mem_range.2 hx) hc; omega
  omega
theorem at_dm {n s i : Nat} (hi : i < n) : (s * n + i) / n = s ∧ (s * n + i) % n = i := by
  have h0 : 0 < n := by omega
  rw [Nat.mul_comm, Nat.mul_add_div h0, Nat.mul_add_mod, Nat.div_eq_of_lt hi, Nat.mod_eq_of_lt hi]
  exact ⟨rfl, rfl⟩
theorem fT_0 (l : List Rn) (xs : List Int) : fT l xs 0 = fun _ => none := by funext k; unfold fT; rw [if_neg (by omega)]
theorem fT_succ {l : List Rn} {xs : List Int} {c : Nat} (h0 : 0 < l.length) : updM (fT l xs c) (c / l.length, c % l.length) (xs.getD c 0) = fT l xs (c + 1) := by
  funext k
  obtain ⟨s, i⟩ := k
  have hdm := Nat.div_add_mod c l.length
  have hm := Nat.mod_lt c h0
  unfold updM fT
  by_cases e : (s, i) = (c / l.length, c % l.length)
  · rw [if_pos e]
    injection e with e1 e2
    subst e1 e2
    have e3 : c / l.length * l.length + c % l.length = c := by rw [Nat.mul_comm]; exact hdm
    simp only [e3]
    rw [if_pos ⟨hm, by omega⟩]
  rw [if_neg e]
  by_cases q : i < l.length ∧ s * l.length + i < c + 1
  · have h2 : s * l.length + i ≠ c := fun h => by
      have h3 := at_dm (n := l.length) (s := s) (i := i) q.1
      rw [h] at h3
      exact e (by rw [h3.1, h3.2])
    rw [if_pos ⟨q.1, by show s * l.length + i < c; omega⟩, if_pos q]
  rw [if_neg (fun h => q ⟨h.1, by have := h.2; simp only at this; omega⟩), if_neg q]
theorem fT_at {l : List Rn} {xs : List Int} {c s i : Nat} {v : Int} (h : fT l xs c (s, i) = some v) : i < l.length ∧ s * l.length + i < c ∧ v = xs.getD (s * l.length + i) 0 := by
  unfold fT at h
  split at h
  · rename_i q
    injection h with h
    exact ⟨q.1, q.2, h.symm⟩
  cases h
theorem fT_of {l : List Rn} {xs : List Int} {c x : Nat} (h0 : 0 < l.length) (h : x < c) : fT l xs c (x / l.length, x % l.length) = some (xs.getD x 0) := by
  have e3 : x / l.length * l.length + x % l.length = x := by rw [Nat.mul_comm]; exact Nat.div_add_mod x l.length
  unfold fT
  simp only [e3]
  rw [if_pos ⟨Nat.mod_lt _ h0, h⟩]
theorem fT_nn {l : List Rn} {xs : List Int} (h : ¬ bad3 xs) {c : Nat} (hc : c ≤ xs.length) : ∀ s, 0 ≤ atM (fT l xs c) s := fun k => by
  obtain ⟨s, i⟩ := k
  unfold atM
  cases hq : fT l xs c (s, i) with
  | none => show 0 ≤ nev; decide
  | some v =>
    obtain ⟨h1, h2, rfl⟩ := fT_at hq
    show 0 ≤ xs.getD (s * l.length + i) 0
    rcases Int.lt_or_le (xs.getD (s * l.length + i) 0) 0 with g | g
    · exact absurd ⟨_, getD_mem (show s * l.length + i < xs.length by omega) 0, .inl g⟩ h
    exact g
theorem not3 {xs : List Int} (h : ¬ bad3 xs) {x : Nat} (hx : x < xs.length) : 0 ≤ xs.getD x 0 ∧ xs.getD x 0 ≤ nev := by
  constructor
  · rcases Int.lt_or_le (xs.getD x 0) 0 with g | g
    · exact absurd ⟨_, getD_mem hx 0, .inl g⟩ h
    exact g
  rcases Int.lt_or_le nev (xs.getD x 0) with g | g
  · exact absurd ⟨_, getD_mem hx 0, .inr g⟩ h
  exact g
theorem mn_neg {xs : List Int} (h0 : 0 < xs.length) (h : mnL xs xs.length < 0) : bad3 xs := by
  unfold mnL at h
  rw [List.take_of_length_le (Nat.le_refl _)] at h
  rcases (foldmin_mem xs (xs.getD 0 0)).2.2 with q | q
  · exact ⟨xs.getD 0 0, getD_mem h0 0, .inl (by omega)⟩
  exact ⟨_, q, .inl h⟩
theorem foldmax_mem : ∀ (xs : List Int) (g : Int), g ≤ xs.foldl max g ∧ (∀ x ∈ xs, x ≤ xs.foldl max g) ∧ (xs.foldl max g = g ∨ xs.foldl max g ∈ xs)
  | [], g => ⟨Int.le_refl _, fun x h => by simp at h, .inl rfl⟩
  | x :: xs, g => by
    rw [List.foldl_cons]
    obtain ⟨h1, h2, h3⟩ := foldmax_mem xs (max g x)
    refine ⟨by omega, fun y hy => ?_, ?_⟩
    · rcases List.mem_cons.1 hy with rfl | hy
      · omega
      exact h2 y hy
    rcases h3 with h | h
    · rcases Int.le_total x g with g1 | g1
      · exact .inl (by omega)
      exact .inr (by rw [h, Int.max_eq_right g1]; simp)
    exact .inr (List.mem_cons_of_mem _ h)
theorem mx_big {xs : List Int} (h0 : 0 < xs.length) (h : nev < mxL xs xs.length) : bad3 xs := by
  unfold mxL at h
  rw [List.take_of_length_le (Nat.le_refl _)] at h
  rcases (foldmax_mem xs (xs.getD 0 0)).2.2 with q | q
  · exact ⟨xs.getD 0 0, getD_mem h0 0, .inr (by omega)⟩
  exact ⟨_, q, .inr h⟩
theorem mm_ok {xs : List Int} (h1 : ¬ mnL xs xs.length < 0) (h2 : ¬ nev < mxL xs xs.length) : ¬ bad3 xs := by
  rintro ⟨x, hx, h⟩
  unfold mnL at h1
  unfold mxL at h2
  rw [List.take_of_length_le (Nat.le_refl _)] at h1 h2
  have q1 := (foldmin_mem xs (xs.getD 0 0)).2.1 x hx
  have q2 := (foldmax_mem xs (xs.getD 0 0)).2.1 x hx
  omega
/-- no entry is wrong -/
theorem no14 {b : Int} {l : List Rn} {xs : List Int} (h0 : 0 < l.length) (h : ∀ s i v, fT l xs xs.length (s, i) = some v → ¬ wrK b l (fT l xs xs.length) s i v) : ¬ bad14 b l xs := by
  rintro ⟨x, hx, hw⟩
  exact h _ _ _ (fT_of h0 (List.mem_range.1 hx)) hw
theorem is14 {b : Int} {l : List Rn} {xs : List Int} {s i : Nat} {v : Int} (hf : fT l xs xs.length (s, i) = some v) (h : wrK b l (fT l xs xs.length) s i v) : bad14 b l xs := by
  obtain ⟨h1, h2, rfl⟩ := fT_at hf
  refine ⟨s * l.length + i, List.mem_range.2 h2, ?_⟩
  unfold wrX
  rw [(at_dm h1).1, (at_dm h1).2]; exact h
theorem mostT {l : List Rn} {xs : List Int} {m : Nat} (h0 : 0 < l.length) (h1 : ∀ s i v, fT l xs xs.length (s, i) = some v → hasB s i → v < nev → cntN s 8 ≤ m) (h2 : m = 0 ∨ ∃ s i v, fT l xs xs.length (s, i) = some v ∧ hasB s i ∧ v < nev ∧ m = cntN s 8) : mostF l xs = m := by
  refine mostF_eq (fun x hx hc => h1 _ _ _ (fT_of h0 hx) hc.1 hc.2) ?_
  rcases h2 with h | ⟨s, i, v, hf, q1, q2, q3⟩
  · exact .inl h
  obtain ⟨h3, h4, rfl⟩ := fT_at hf
  refine .inr ⟨s * l.length + i, h4, ?_, ?_⟩
  · unfold cnX; rw [(at_dm h3).1, (at_dm h3).2]; exact ⟨q1, q2⟩
  rw [(at_dm h3).1]; exact q3
end Go.Proofs.Ytkonhpcldomidaa
namespace Go.Proofs.Ytkonhpcldomidaa
open Go Go.TH
attribute [local irreducible] W WO pt
set_option maxRecDepth 10000
set_option maxHeartbeats 1000000
theorem neq93 (a b c d : Int) : EqT Try.prog .neq 93 (.agg #[.int .i64 a, .int .i64 b]) (.agg #[.int .i64 c, .int .i64 d]) (.bool (bl (¬ (a = c ∧ b = d)))) := by
  intro x y w
  simp [go_sem, Try.eqGuardType93, Try.underlying93]
  by_cases h1 : a = c
  · by_cases h2 : b = d
    · subst h1 h2; simp [bl_eq]
    subst h1; simp [bl_eq, h2]
  simp [bl_eq, h1]
def CtI (b : Int) (l : List Rn) (xs : List Int) (es : Array MapEntry) (seen : Array Nat) (g : Nat) : Prop := (∀ s i tv, Dn es seen (s, i) → fT l xs xs.length (s, i) = some tv → ¬ wrK b l (fT l xs xs.length) s i tv ∧ (hasB s i → tv < nev → cntN s 8 ≤ g)) ∧ (g = 0 ∨ ∃ s i tv, fT l xs xs.length (s, i) = some tv ∧ hasB s i ∧ tv < nev ∧ g = cntN s 8)
theorem CtI.none (b : Int) (l : List Rn) (xs : List Int) (es : Array MapEntry) : CtI b l xs es #[] 0 := ⟨fun s i tv hd _ => absurd hd (Dn.none es _), .inl rfl⟩
theorem CtI.step {b : Int} {l : List Rn} {xs : List Int} {es : Array MapEntry} {clk : Nat} {seen : Array Nat} {e : MapEntry} {s i g g2 : Nat} {tv : Int} (h : CtI b l xs es seen g) (hr : Reg es.toList clk) (he : e ∈ (leftOf es seen).toList) (hk : e.key = kv (s, i)) (hf : fT l xs xs.length (s, i) = some tv) (hw : ¬ wrK b l (fT l xs xs.length) s i tv) (hg : (hasB s i ∧ tv < nev ∧ g2 = max g (cntN s 8)) ∨ (¬ (hasB s i ∧ tv < nev) ∧ g2 = g)) : CtI b l xs es (seen.push e.born) g2 := by
  obtain ⟨h1, h2⟩ := h
  refine ⟨fun s' i' tv' hd hf' => ?_, ?_⟩
  · rcases hd.step hr he hk with q | q
    · have h3 := h1 s' i' tv' q hf'
      refine ⟨h3.1, fun a c => ?_⟩
      have h4 := h3.2 a c
      rcases hg with ⟨_, _, e⟩ | ⟨_, e⟩ <;> omega
    injection q with q1 q2
    subst q1 q2
    rw [hf] at hf'
    injection hf' with e1
    subst e1
    refine ⟨hw, fun a c => ?_⟩
    rcases hg with ⟨_, _, e⟩ | ⟨n, e⟩
    · omega
    exact absurd ⟨a, c⟩ n
  rcases hg with ⟨a, c, e⟩ | ⟨n, e⟩
  · rcases Nat.le_total g (cntN s 8) with q | q
    · exact .inr ⟨s, i, tv, hf, a, c, by omega⟩
    rcases h2 with h2 | h2
    · exact .inl (by omega)
    rw [show g2 = g by omega]; exact .inr h2
  rw [e]; exact h2
theorem CtI.end {b : Int} {l : List Rn} {xs : List Int} {es : Array MapEntry} {seen : Array Nat} {g : Nat} (h : CtI b l xs es seen g) (h0 : 0 < l.length) (hr : Rep es.toList (fT l xs xs.length)) (hz : (leftOf es seen).size = 0) : ¬ bad14 b l xs ∧ mostF l xs = g :=
  ⟨no14 h0 fun s i v hf => (h.1 s i v (Dn.all hr hz hf) hf).1, mostT h0 (fun s i v hf => (h.1 s i v (Dn.all hr hz hf) hf).2) h.2⟩
theorem left0 {es : Array MapEntry} {seen : Array Nat} {o : Option MapEntry} (h : Nx es seen o) (h2 : ¬ o.isSome = true) : (leftOf es seen).size = 0 := by
  cases o with
  | none => exact h
  | some e => exact absurd rfl h2
theorem c_CheckTable (w : World) (v u : Value) (a b : Int) (l : List Rn) (xs : List Int) (hR : RdF encR 6 w.heap.size w v l) (hX : RdF encI 1 w.heap.size w u xs) : Ret Try.prog 24 [dayV a b v, u].toArray w (ctV b l xs a) := by
  refine Ret.of mixed tyTab Try.func24 rfl rfl ?_
  replace hR : RdF encR 6 (fnCx mixed tyTab Try.f24.ntmps w).B (fnCx mixed tyTab Try.f24.ntmps w).w0 v l := hR
  replace hX : RdF encI 1 (fnCx mixed tyTab Try.f24.ntmps w).B (fnCx mixed tyTab Try.f24.ntmps w).w0 u xs := hX
  have ho := hR.sl.oc
  have hxle := hX.sl.le
  have hnv : nev = 1048576 := rfl
  refine W.sreg ?_
  refine WO.boxA rfl rfl (fun b1 hb1 => ?_)
  refine WO.p rfl rfl (WO.p rfl rfl ?_)
  refine WO.nil ?_
  refine W.scope ?_
  refine W.sreg ?_
  refine WO.loadA rfl rfl (Cells.own Pick.head) rfl rfl ?_
  refine WO.call rfl Try.call45 (fun L w hi => c_newPlanner w v a b l (hR.later hi)) rfl ?_
  rintro _ _ ⟨pv, rfl, rfl⟩
  refine WO.p rfl rfl (WO.p rfl rfl (WO.p rfl rfl (WO.p rfl rfl (WO.p rfl rfl ?_))))
  refine WO.nil ?_
  refine W.sreg ?_
  refine WO.fieldL rfl rfl rfl (WO.load rfl rfl (Cell.own (Pick.tail (Pick.head)) rfl) rfl ?_)
  refine' WO.len (n := _) rfl rfl ?hs rfl ?_
  case hs => (first | exact hR.sl)
  refine WO.p rfl rfl ?_
  refine WO.nil ?_
  refine W.seq ?_
  refine W.block ?_
  refine W.sreg ?_
  refine WO.p rfl rfl (WO.p rfl rfl (WO.p rfl rfl ?_))
  refine WO.nil ?_
  refine W.cond_bl rfl (fun c1 => ?_) (fun c1 => ?_)
  · first
    | (exfalso; omega)
    | (refine W.sreg ?_
       refine WO.p rfl rfl (WO.p rfl rfl (WO.p rfl rfl ?_))
       refine WO.nil ?_
       refine W.ret ?_
       first | (rw [ctV_bad (ctE_1 (by assumption)) (by assumption)]; exact fin.ret (Res.two rfl (RV.tmp rfl) (RV.tmp rfl)) rfl) | (rw [ctV_bad (ctE_15 (by omega) (by omega)) (by decide)]; exact fin.ret (Res.two rfl (RV.tmp rfl) (RV.tmp rfl)) rfl) | (rw [ctV_bad (ctE_3 (by omega) hxl (by first | exact mn_neg (by omega) (by assumption) | exact mx_big (by omega) (by omega))) (by decide)]; exact fin.ret (Res.two rfl (RV.tmp rfl) (RV.tmp rfl)) rfl) | (rw [ctV_bad (ctE_14 (by omega) hxl hn3 (is14 hft (by unfold wrK hasB; omega))) (by decide)]; exact fin.ret (Res.two rfl (RV.tmp rfl) (RV.tmp rfl)) rfl) | (obtain ⟨q1, q2⟩ := hI.end hn0 hrep (left0 hox (by assumption)); have e0 : ctE b l xs a = 0 := ctE_0 (by omega) hxl hn3 q1; unfold ctV ctM; rw [e0, if_pos rfl, q2]; exact fin.ret (Res.two rfl (RV.tmp rfl) (RV.tmp rfl)) rfl))
  first
  | (exfalso; omega)
  | (have hc : chkD a b l = 0 := by omega
     obtain ⟨hln, hd⟩ := chkD0.1 hc
     have hsh := shl8 hln.2
     have hn0 : 0 < l.length := by omega
     have hcb : 2 ^ l.length * l.length ≤ 256 * 8 := Nat.mul_le_mul hsh.2 hln.2
     have hc0 : 0 < 2 ^ l.length * l.length := Nat.mul_pos (Nat.pow_pos (by omega)) hn0
     refine W.chgE (PtrP.open (by repeat (first | exact Pick.head | apply Pick.tail)) hc) ?_
     rintro q rfl
     refine W.sreg ?_
     refine WO.p rfl rfl ?_
     refine' WO.len (n := _) rfl rfl ?hs rfl ?_
     case hs => (first | exact hX.sl)
     refine WO.p rfl rfl (WO.p rfl rfl ?_)
     refine WO.shlN (a := l.length) (s := l.length) rfl rfl (by show l.length ≤ 64; omega) (fit (by rw [Nat.shiftLeft_eq, Nat.mul_comm]; omega)) rfl ?_
     rw [show l.length <<< l.length = 2 ^ l.length * l.length by rw [Nat.shiftLeft_eq, Nat.mul_comm]]
     refine WO.p rfl rfl (WO.p rfl rfl ?_)
     refine WO.nil ?_
     refine W.cond_bl rfl (fun c2 => ?_) (fun c2 => ?_)
     · first
       | (exfalso; omega)
       | (refine W.sreg ?_
          refine WO.p rfl rfl (WO.p rfl rfl ?_)
          refine WO.nil ?_
          refine W.ret ?_
          first | (rw [ctV_bad (ctE_1 (by assumption)) (by assumption)]; exact fin.ret (Res.two rfl (RV.tmp rfl) (RV.tmp rfl)) rfl) | (rw [ctV_bad (ctE_15 (by omega) (by omega)) (by decide)]; exact fin.ret (Res.two rfl (RV.tmp rfl) (RV.tmp rfl)) rfl) | (rw [ctV_bad (ctE_3 (by omega) hxl (by first | exact mn_neg (by omega) (by assumption) | exact mx_big (by omega) (by omega))) (by decide)]; exact fin.ret (Res.two rfl (RV.tmp rfl) (RV.tmp rfl)) rfl) | (rw [ctV_bad (ctE_14 (by omega) hxl hn3 (is14 hft (by unfold wrK hasB; omega))) (by decide)]; exact fin.ret (Res.two rfl (RV.tmp rfl) (RV.tmp rfl)) rfl) | (obtain ⟨q1, q2⟩ := hI.end hn0 hrep (left0 hox (by assumption)); have e0 : ctE b l xs a = 0 := ctE_0 (by omega) hxl hn3 q1; unfold ctV ctM; rw [e0, if_pos rfl, q2]; exact fin.ret (Res.two rfl (RV.tmp rfl) (RV.tmp rfl)) rfl))
     first
     | (exfalso; omega)
     | (have hxl : xs.length = 2 ^ l.length * l.length := by omega
        refine W.sreg ?_
        refine WO.p rfl rfl ?_
        refine WO.callR rfl Try.call51 (fun L w hi => c_Min w _ xs (hX.later hi) (by omega)) rfl ?_
        refine WO.p rfl rfl (WO.p rfl rfl ?_)
        refine WO.guard_bl rfl rfl (fun c3 => ?_) (fun c3 => ?_)
        · first
          | (exfalso; omega)
          | (refine WO.no rfl rfl (WO.no rfl rfl (WO.no rfl rfl (WO.p rfl rfl (WO.p rfl rfl ?_))))
             refine WO.nil ?_
             refine W.cond_t rfl ?_
             refine W.sreg ?_
             refine WO.p rfl rfl (WO.p rfl rfl ?_)
             refine WO.nil ?_
             refine W.ret ?_
             first | (rw [ctV_bad (ctE_1 (by assumption)) (by assumption)]; exact fin.ret (Res.two rfl (RV.tmp rfl) (RV.tmp rfl)) rfl) | (rw [ctV_bad (ctE_15 (by omega) (by omega)) (by decide)]; exact fin.ret (Res.two rfl (RV.tmp rfl) (RV.tmp rfl)) rfl) | (rw [ctV_bad (ctE_3 (by omega) hxl (by first | exact mn_neg (by omega) (by assumption) | exact mx_big (by omega) (by omega))) (by decide)]; exact fin.ret (Res.two rfl (RV.tmp rfl) (RV.tmp rfl)) rfl) | (rw [ctV_bad (ctE_14 (by omega) hxl hn3 (is14 hft (by unfold wrK hasB; omega))) (by decide)]; exact fin.ret (Res.two rfl (RV.tmp rfl) (RV.tmp rfl)) rfl) | (obtain ⟨q1, q2⟩ := hI.end hn0 hrep (left0 hox (by assumption)); have e0 : ctE b l xs a = 0 := ctE_0 (by omega) hxl hn3 q1; unfold ctV ctM; rw [e0, if_pos rfl, q2]; exact fin.ret (Res.two rfl (RV.tmp rfl) (RV.tmp rfl)) rfl))
        first
        | (exfalso; omega)
        | (refine WO.pg rfl rfl rfl (WO.go' rfl ?_)
           refine WO.callR rfl Try.call52 (fun L w hi => c_Max w _ xs (hX.later hi) (by omega)) rfl ?_
           refine WO.pg rfl rfl rfl (WO.p rfl rfl (WO.p rfl rfl ?_))
           refine WO.nil ?_
           refine W.cond_bl rfl (fun c4 => ?_) (fun c4 => ?_)
           · first
             | (exfalso; omega)
             | (refine W.sreg ?_
                refine WO.p rfl rfl (WO.p rfl rfl ?_)
                refine WO.nil ?_
                refine W.ret ?_
                first | (rw [ctV_bad (ctE_1 (by assumption)) (by assumption)]; exact fin.ret (Res.two rfl (RV.tmp rfl) (RV.tmp rfl)) rfl) | (rw [ctV_bad (ctE_15 (by omega) (by omega)) (by decide)]; exact fin.ret (Res.two rfl (RV.tmp rfl) (RV.tmp rfl)) rfl) | (rw [ctV_bad (ctE_3 (by omega) hxl (by first | exact mn_neg (by omega) (by assumption) | exact mx_big (by omega) (by omega))) (by decide)]; exact fin.ret (Res.two rfl (RV.tmp rfl) (RV.tmp rfl)) rfl) | (rw [ctV_bad (ctE_14 (by omega) hxl hn3 (is14 hft (by unfold wrK hasB; omega))) (by decide)]; exact fin.ret (Res.two rfl (RV.tmp rfl) (RV.tmp rfl)) rfl) | (obtain ⟨q1, q2⟩ := hI.end hn0 hrep (left0 hox (by assumption)); have e0 : ctE b l xs a = 0 := ctE_0 (by omega) hxl hn3 q1; unfold ctV ctM; rw [e0, if_pos rfl, q2]; exact fin.ret (Res.two rfl (RV.tmp rfl) (RV.tmp rfl)) rfl))
           first
           | (exfalso; omega)
           | (refine W.skip ?_
              have hn3 : ¬ bad3 xs := mm_ok (by omega) (by omega)
              have hnn := fT_nn (l := l) hn3 (Nat.le_refl xs.length)
              refine W.sreg ?_
              refine WO.makeMap rfl (fun m => ?_)
              refine WO.chg (MapP.start .head) ?_
              rw [← fT_0 l xs]
              refine WO.p rfl rfl ?_
              refine WO.nil ?_
              refine W.seq ?_
              refine W.sreg ?_
              refine WO.p rfl rfl ?_
              refine' WO.len (n := _) rfl rfl ?hs rfl ?_
              case hs => (first | exact hX.sl)
              refine WO.p rfl rfl ?_
              refine WO.nil ?_
              refine W.block ?_
              refine W.loop (fun (c : Nat) => c ≤ xs.length)
                (fun (c : Nat) => [(6, .pointer (some ⟨q, 0, none⟩)), (8, .int .i64 (l.length : Int)), (9, .map (some m)), (47, u), (48, .int .i64 (xs.length : Int)), (49, .int .i64 (c : Int))])
                (fun (c : Nat) => [pt b1 (.cells #[.int .i64 a, .int .i64 b, v] 26 (0, 0)), pt q (.cells (plC a b v (gW b l)).toArray 75 (0, 0)), MapP m (fT l xs c)])
                (fun (c : Nat) => xs.length - c) 0
                (by omega) ⟨rfl, rfl, rfl, rfl, rfl, rfl, trivial⟩ (by repeat (first | exact Sub.nil | refine Sub.cons (by repeat (first | exact Pick.head | apply Pick.tail)) ?_)) ?_
              rintro c hcx
              refine W.sreg ?_
              refine WO.p rfl rfl ?_
              refine WO.nil ?_
              refine W.seq ?_
              refine W.cond_bl rfl (fun c5 => ?_) (fun c5 => ?_)
              · first
                | (exfalso; omega)
                | (refine W.skip ?_
                   refine W.seq ?_
                   refine W.block ?_
                   refine W.sreg ?_
                   refine WO.p rfl rfl ?_
                   refine' WO.indexAddr (n := _) (i := _) rfl rfl rfl ?hs ?h1 rfl ?_
                   case hs => (first | exact hX.sl)
                   case h1 => (first | omega | (simp; omega))
                   refine' WO.load (v := _) rfl rfl ?hc rfl ?_
                   case hc => (first | (refine hX.cell0 (i := c) (by omega) 0 ?_; rfl))
                   refine WO.p rfl rfl (WO.p rfl rfl ?_)
                   refine WO.nil ?_
                   refine W.drawD 9 [.r 0 [], .r 1 [], .r 2 [], .r 3 [], .r 4 [], .r 5 [], .r 6 [], .r 7 [], .r 8 []] [] (A0 := []) (Sub.refl _) (by kernel_rfl) ?_ ?_
                   · exact (ALok.r (ALok.r (ALok.r (ALok.r (ALok.r (ALok.r (ALok.r (ALok.r (ALok.r ALok.nil)))))))))
                   refine' DT.r rfl rfl rfl ?hq ?_
                   case hq =>
                     refine WO.p rfl rfl ?_
                     exact WO.nil ⟨rfl, rfl⟩
                   refine' DT.r rfl rfl rfl ?hq ?_
                   case hq =>
                     refine WO.p rfl rfl ?_
                     exact WO.nil ⟨rfl, rfl⟩
                   refine' DT.r rfl rfl rfl ?hq ?_
                   case hq =>
                     refine WO.p rfl rfl ?_
                     exact WO.nil ⟨rfl, rfl⟩
                   refine' DT.r rfl rfl rfl ?hq ?_
                   case hq =>
                     refine WO.quo rfl rfl (by omega) (by rw [← Int.ofNat_tdiv]; have h1 := Nat.div_le_self c l.length; generalize c / l.length = z at h1 ⊢; unfold in64; omega) rfl ?_
                     rw [← Int.ofNat_tdiv]
                     exact WO.nil ⟨rfl, rfl⟩
                   refine' DT.r rfl rfl rfl ?hq ?_
                   case hq =>
                     refine WO.p rfl rfl ?_
                     exact WO.nil ⟨rfl, rfl⟩
                   refine' DT.r rfl rfl rfl ?hq ?_
                   case hq =>
                     refine WO.p rfl rfl ?_
                     exact WO.nil ⟨rfl, rfl⟩
                   refine' DT.r rfl rfl rfl ?hq ?_
                   case hq =>
                     refine WO.rem rfl rfl (by omega) rfl ?_
                     rw [← Int.ofNat_tmod]
                     exact WO.nil ⟨rfl, rfl⟩
                   refine' DT.r rfl rfl rfl ?hq ?_
                   case hq =>
                     refine' WO.build (cs := _) rfl rfl rfl ?hf rfl ?_
                     case hf => (conv => lhs; simp [-List.getD_eq_getElem?_getD, fillL, vcl, wrl, TTab.pl?.lget']) <;> rfl
                     exact WO.nil ⟨rfl, rfl⟩
                   refine' DT.r rfl rfl rfl ?hq ?_
                   case hq =>
                     refine WO.p rfl rfl ?_
                     exact WO.nil ⟨rfl, rfl⟩
                   refine DT.nil [_, _, _] rfl ?_
                   refine WO.mapUpd (k := (c / l.length, c % l.length)) rfl rfl rfl rfl rfl (by repeat (first | exact Pick.head | apply Pick.tail)) ?_
                   rw [fT_succ hn0]
                   refine WO.nil ?_
                   refine W.region ?_
                   refine WO.ar rfl rfl rfl (by (first | (unfold in64; omega) | (unfold in64; omega))) rfl (WO.p rfl rfl ?_)
                   refine WO.nil ?_
                   refine' ⟨c + 1, ?hp, ?hmu, ⟨rfl, rfl, rfl, rfl, rfl, rfl, trivial⟩, ?hS⟩
                   case hS => repeat (first | exact Sub.nil | refine Sub.cons (by repeat (first | exact Pick.head | apply Pick.tail)) ?_)
                   case hp => omega
                   case hmu => omega)
              first
              | (exfalso; omega)
              | (refine W.exit (blk_same ?_)
                 rw [show c = xs.length by omega]
                 refine W.sreg ?_
                 refine WO.p rfl rfl ?_
                 refine WO.nil ?_
                 refine W.sreg ?_
                 refine' WO.build (cs := _) rfl rfl rfl ?hf rfl ?_
                 case hf => (conv => lhs; simp [-List.getD_eq_getElem?_getD, fillL, vcl, wrl, TTab.pl?.lget']) <;> rfl
                 refine WO.alloc rfl rfl rfl (fun b2 hb2 => ?_)
                 refine WO.storeA rfl rfl rfl rfl Pick.head rfl rfl ?_
                 refine WO.nil ?_
                 refine W.sreg ?_
                 refine WO.loadA rfl rfl (Cells.own Pick.head) rfl rfl ?_
                 refine WO.alloc rfl rfl rfl (fun b3 hb3 => ?_)
                 refine WO.storeA rfl rfl rfl rfl Pick.head rfl rfl ?_
                 refine WO.nil ?_
                 refine W.seq ?_
                 refine W.label ?_
                 refine W.seq ?_
                 refine W.chgE (MapP.openE (by repeat (first | exact Pick.head | apply Pick.tail))) ?_
                 rintro ⟨es, clk⟩ ⟨hrep, hreg⟩
                 dsimp only at hrep hreg ⊢
                 refine W.sreg ?_
                 refine WO.p rfl rfl ?_
                 refine WO.rangeM rfl rfl (by repeat (first | exact Pick.head | apply Pick.tail)) rfl (fun r => ?_)
                 refine WO.nil ?_
                 refine W.block ?_
                 refine W.loop2 (fun (seen : Array Nat) (g : Nat) => CtI b l xs es seen g)
                   (fun (seen : Array Nat) (g : Nat) => [(6, .pointer (some ⟨q, 0, none⟩)), (9, .map (some m)), (12, .int .i64 (g : Int)), (13, .pointer (some ⟨b2, 0, none⟩)), (14, .pointer (some ⟨b3, 0, none⟩)), (67, .pointer (some ⟨r, 0, none⟩))])
                   (fun (seen : Array Nat) (g : Nat) => [pt b1 (.cells #[.int .i64 a, .int .i64 b, v] 26 (0, 0)), pt b2 (.cells #[.int .i64 0, .int .i64 0] 93 (0, 0)), pt b3 (.cells #[.int .i64 0, .int .i64 0] 93 (0, 0)), pt q (.cells (plC a b v (gW b l)).toArray 75 (0, 0)), pt m (.map es clk), pt r (itO m clk seen)])
                   (fun (seen : Array Nat) (g : Nat) => (leftOf es seen).size) #[] 0
                   (by exact CtI.none b l xs es) ⟨rfl, rfl, rfl, rfl, rfl, rfl, trivial⟩ (by repeat (first | exact Sub.nil | refine Sub.cons (by repeat (first | exact Pick.head | apply Pick.tail)) ?_)) ?_
                 rintro seen g hI
                 refine W.sreg ?_
                 refine WO.nextM rfl (by repeat (first | exact Pick.head | apply Pick.tail)) (by repeat (first | exact Pick.head | apply Pick.tail)) hreg rfl (fun o hox => ?_)
                 refine WO.extractN rfl rfl ?_
                 refine WO.nil ?_
                 refine W.seq ?_
                 refine W.cond_bl rfl (fun c6 => ?_) (fun c6 => ?_)
                 · first
                   | (exfalso; omega)
                   | (refine W.skip ?_
                      refine W.block ?_
                      obtain ⟨e, rfl⟩ := Option.isSome_iff_exists.1 (show o.isSome = true by assumption)
                      have he : e ∈ (leftOf es seen).toList := hox
                      obtain ⟨⟨s, i⟩, tv, hek, hev, hft⟩ := hrep.of (mem_left he).1
                      obtain ⟨hil, hsx, htv⟩ := fT_at hft
                      have hs256 : s < 256 := Nat.lt_of_mul_lt_mul_right (a := l.length) (by have : 2 ^ l.length * l.length ≤ 256 * l.length := Nat.mul_le_mul_right _ hsh.2; omega)
                      have hand := and1_le (s >>> i)
                      have htb := not3 hn3 hsx
                      rw [← htv] at htb
                      refine W.sreg ?_
                      refine WO.entryM (k := (s, i)) (v := tv) rfl (by repeat (first | exact Pick.head | apply Pick.tail)) (by repeat (first | exact Pick.head | apply Pick.tail)) hreg (mem_left he).1 hek hev rfl ?_
                      unfold kv
                      dsimp only
                      refine WO.p rfl rfl (WO.p rfl rfl ?_)
                      refine WO.alloc rfl rfl rfl (fun b4 hb4 => ?_)
                      refine WO.storeA rfl rfl rfl rfl Pick.head rfl rfl (WO.p rfl rfl ?_)
                      refine WO.nil ?_
                      refine W.sreg ?_
                      refine WO.field0 rfl rfl rfl (WO.load rfl rfl (Cell.own Pick.head rfl) rfl (WO.fieldL rfl rfl rfl (WO.load rfl rfl (Cell.own Pick.head rfl) rfl ?_)))
                      refine WO.shrN (a := s) (s := i) rfl rfl (by show i ≤ 64; omega) rfl ?_
                      refine WO.andN (a := s >>> i) (b := 1) rfl rfl (Fits.shr (fit (by omega))) (fit (by omega)) rfl ?_
                      refine WO.p rfl rfl (WO.p rfl rfl ?_)
                      refine WO.nil ?_
                      refine W.block ?_
                      refine W.sreg ?_
                      refine WO.p rfl rfl (WO.p rfl rfl (WO.p rfl rfl ?_))
                      refine WO.guard_nbl rfl rfl (fun c7 => ?_) (fun c7 => ?_)
                      · first
                        | (exfalso; omega)
                        | (refine WO.pg rfl rfl rfl (WO.pg rfl rfl rfl (WO.p rfl rfl (WO.p rfl rfl ?_)))
                           refine WO.guard_bl rfl rfl (fun c8 => ?_) (fun c8 => ?_)
                           · first
                             | (exfalso; omega)
                             | (refine WO.no rfl rfl (WO.no rfl rfl (WO.no rfl rfl (WO.no rfl rfl (WO.no rfl rfl (WO.no rfl rfl (WO.no rfl rfl (WO.no rfl rfl (WO.no rfl rfl (WO.p rfl rfl (WO.p rfl rfl ?_))))))))))
                                refine WO.nil ?_
                                refine W.cond_t rfl ?_
                                refine W.sreg ?_
                                refine WO.field0 rfl rfl rfl (WO.load rfl rfl (Cell.own Pick.head rfl) rfl (WO.fieldL rfl rfl rfl (WO.load rfl rfl (Cell.own Pick.head rfl) rfl (WO.ar rfl rfl rfl (by (first | (unfold in64; omega) | (unfold in64; omega))) rfl ?_))))
                                refine' WO.build (cs := _) rfl rfl rfl ?hf rfl ?_
                                case hf => (conv => lhs; simp [-List.getD_eq_getElem?_getD, fillL, vcl, wrl, TTab.pl?.lget']) <;> rfl
                                refine WO.storeA rfl rfl rfl rfl (Pick.tail (Pick.tail (Pick.tail (Pick.tail (Pick.head))))) rfl rfl ?_
                                refine WO.nil ?_
                                refine W.exit (blk_other rfl (blk_other rfl (blk_same ?_)))
                                refine W.seq ?_
                                skip
                                refine W.sreg ?_
                                refine WO.loadA rfl rfl (Cells.own Pick.head) rfl rfl (WO.loadA rfl rfl (Cells.own (Pick.tail (Pick.tail (Pick.tail (Pick.tail (Pick.head)))))) rfl rfl ?_)
                                refine WO.eqT rfl rfl (neq93 _ _ _ _) rfl ?_
                                refine WO.nil ?_
                                refine W.cond_bl rfl (fun c9 => ?_) (fun c9 => ?_)
                                · first
                                  | (exfalso; omega)
                                  | (refine W.sreg ?_
                                     refine WO.p rfl rfl (WO.p rfl rfl ?_)
                                     refine WO.nil ?_
                                     refine W.ret ?_
                                     first | (rw [ctV_bad (ctE_1 (by assumption)) (by assumption)]; exact fin.ret (Res.two rfl (RV.tmp rfl) (RV.tmp rfl)) rfl) | (rw [ctV_bad (ctE_15 (by omega) (by omega)) (by decide)]; exact fin.ret (Res.two rfl (RV.tmp rfl) (RV.tmp rfl)) rfl) | (rw [ctV_bad (ctE_3 (by omega) hxl (by first | exact mn_neg (by omega) (by assumption) | exact mx_big (by omega) (by omega))) (by decide)]; exact fin.ret (Res.two rfl (RV.tmp rfl) (RV.tmp rfl)) rfl) | (rw [ctV_bad (ctE_14 (by omega) hxl hn3 (is14 hft (by unfold wrK hasB; omega))) (by decide)]; exact fin.ret (Res.two rfl (RV.tmp rfl) (RV.tmp rfl)) rfl) | (obtain ⟨q1, q2⟩ := hI.end hn0 hrep (left0 hox (by assumption)); have e0 : ctE b l xs a = 0 := ctE_0 (by omega) hxl hn3 q1; unfold ctV ctM; rw [e0, if_pos rfl, q2]; exact fin.ret (Res.two rfl (RV.tmp rfl) (RV.tmp rfl)) rfl))
                                first
                                | (exfalso; omega)
                                | (refine W.skip ?_
                                   refine W.sreg ?_
                                   refine WO.p rfl rfl (WO.p rfl rfl (WO.p rfl rfl ?_))
                                   refine WO.nil ?_
                                   refine W.ret ?_
                                   first | (rw [ctV_bad (ctE_1 (by assumption)) (by assumption)]; exact fin.ret (Res.two rfl (RV.tmp rfl) (RV.tmp rfl)) rfl) | (rw [ctV_bad (ctE_15 (by omega) (by omega)) (by decide)]; exact fin.ret (Res.two rfl (RV.tmp rfl) (RV.tmp rfl)) rfl) | (rw [ctV_bad (ctE_3 (by omega) hxl (by first | exact mn_neg (by omega) (by assumption) | exact mx_big (by omega) (by omega))) (by decide)]; exact fin.ret (Res.two rfl (RV.tmp rfl) (RV.tmp rfl)) rfl) | (rw [ctV_bad (ctE_14 (by omega) hxl hn3 (is14 hft (by unfold wrK hasB; omega))) (by decide)]; exact fin.ret (Res.two rfl (RV.tmp rfl) (RV.tmp rfl)) rfl) | (obtain ⟨q1, q2⟩ := hI.end hn0 hrep (left0 hox (by assumption)); have e0 : ctE b l xs a = 0 := ctE_0 (by omega) hxl hn3 q1; unfold ctV ctM; rw [e0, if_pos rfl, q2]; exact fin.ret (Res.two rfl (RV.tmp rfl) (RV.tmp rfl)) rfl)))
                           first
                           | (exfalso; omega)
                           | (refine WO.pg rfl rfl rfl (WO.pg rfl rfl rfl ?_)
                              refine WO.guard_bl rfl rfl (fun c9 => ?_) (fun c9 => ?_)
                              · first
                                | (exfalso; omega)
                                | (refine WO.pg rfl rfl rfl (WO.pg rfl rfl rfl (WO.pg rfl rfl rfl (WO.go' rfl (WO.loadA rfl rfl (Cells.own Pick.head) rfl rfl (WO.go' rfl ?_)))))
                                   refine WO.callR rfl Try.call53 (fun L w hi => c_follows hd hln.2 w ⟨q, 0, none⟩ m (fT l xs xs.length) s i (PlR.own (by repeat (first | exact Pick.head | apply Pick.tail)) hR hi) (RdM.ownC (by repeat (first | exact Pick.head | apply Pick.tail)) hrep hi) hnn hs256 hil) rfl ?_
                                   refine WO.pg rfl rfl rfl (WO.pg rfl rfl rfl (WO.p rfl rfl (WO.p rfl rfl ?_)))
                                   refine WO.nil ?_
                                   refine W.cond_bl rfl (fun c10 => ?_) (fun c10 => ?_)
                                   · first
                                     | (exfalso; omega)
                                     | (refine W.sreg ?_
                                        refine WO.field0 rfl rfl rfl (WO.load rfl rfl (Cell.own Pick.head rfl) rfl (WO.fieldL rfl rfl rfl (WO.load rfl rfl (Cell.own Pick.head rfl) rfl (WO.ar rfl rfl rfl (by (first | (unfold in64; omega) | (unfold in64; omega))) rfl ?_))))
                                        refine' WO.build (cs := _) rfl rfl rfl ?hf rfl ?_
                                        case hf => (conv => lhs; simp [-List.getD_eq_getElem?_getD, fillL, vcl, wrl, TTab.pl?.lget']) <;> rfl
                                        refine WO.storeA rfl rfl rfl rfl (Pick.tail (Pick.tail (Pick.tail (Pick.tail (Pick.head))))) rfl rfl ?_
                                        refine WO.nil ?_
                                        refine W.exit (blk_other rfl (blk_other rfl (blk_same ?_)))
                                        refine W.seq ?_
                                        skip
                                        refine W.sreg ?_
                                        refine WO.loadA rfl rfl (Cells.own Pick.head) rfl rfl (WO.loadA rfl rfl (Cells.own (Pick.tail (Pick.tail (Pick.tail (Pick.tail (Pick.head)))))) rfl rfl ?_)
                                        refine WO.eqT rfl rfl (neq93 _ _ _ _) rfl ?_
                                        refine WO.nil ?_
                                        refine W.cond_bl rfl (fun c11 => ?_) (fun c11 => ?_)
                                        · first
                                          | (exfalso; omega)
                                          | (refine W.sreg ?_
                                             refine WO.p rfl rfl (WO.p rfl rfl ?_)
                                             refine WO.nil ?_
                                             refine W.ret ?_
                                             first | (rw [ctV_bad (ctE_1 (by assumption)) (by assumption)]; exact fin.ret (Res.two rfl (RV.tmp rfl) (RV.tmp rfl)) rfl) | (rw [ctV_bad (ctE_15 (by omega) (by omega)) (by decide)]; exact fin.ret (Res.two rfl (RV.tmp rfl) (RV.tmp rfl)) rfl) | (rw [ctV_bad (ctE_3 (by omega) hxl (by first | exact mn_neg (by omega) (by assumption) | exact mx_big (by omega) (by omega))) (by decide)]; exact fin.ret (Res.two rfl (RV.tmp rfl) (RV.tmp rfl)) rfl) | (rw [ctV_bad (ctE_14 (by omega) hxl hn3 (is14 hft (by unfold wrK hasB; omega))) (by decide)]; exact fin.ret (Res.two rfl (RV.tmp rfl) (RV.tmp rfl)) rfl) | (obtain ⟨q1, q2⟩ := hI.end hn0 hrep (left0 hox (by assumption)); have e0 : ctE b l xs a = 0 := ctE_0 (by omega) hxl hn3 q1; unfold ctV ctM; rw [e0, if_pos rfl, q2]; exact fin.ret (Res.two rfl (RV.tmp rfl) (RV.tmp rfl)) rfl))
                                        first
                                        | (exfalso; omega)
                                        | (refine W.skip ?_
                                           refine W.sreg ?_
                                           refine WO.p rfl rfl (WO.p rfl rfl (WO.p rfl rfl ?_))
                                           refine WO.nil ?_
                                           refine W.ret ?_
                                           first | (rw [ctV_bad (ctE_1 (by assumption)) (by assumption)]; exact fin.ret (Res.two rfl (RV.tmp rfl) (RV.tmp rfl)) rfl) | (rw [ctV_bad (ctE_15 (by omega) (by omega)) (by decide)]; exact fin.ret (Res.two rfl (RV.tmp rfl) (RV.tmp rfl)) rfl) | (rw [ctV_bad (ctE_3 (by omega) hxl (by first | exact mn_neg (by omega) (by assumption) | exact mx_big (by omega) (by omega))) (by decide)]; exact fin.ret (Res.two rfl (RV.tmp rfl) (RV.tmp rfl)) rfl) | (rw [ctV_bad (ctE_14 (by omega) hxl hn3 (is14 hft (by unfold wrK hasB; omega))) (by decide)]; exact fin.ret (Res.two rfl (RV.tmp rfl) (RV.tmp rfl)) rfl) | (obtain ⟨q1, q2⟩ := hI.end hn0 hrep (left0 hox (by assumption)); have e0 : ctE b l xs a = 0 := ctE_0 (by omega) hxl hn3 q1; unfold ctV ctM; rw [e0, if_pos rfl, q2]; exact fin.ret (Res.two rfl (RV.tmp rfl) (RV.tmp rfl)) rfl)))
                                   first
                                   | (exfalso; omega)
                                   | (refine W.sreg ?_
                                      refine WO.p rfl rfl (WO.p rfl rfl ?_)
                                      refine WO.guard_bl rfl rfl (fun c11 => ?_) (fun c11 => ?_)
                                      · first
                                        | (exfalso; omega)
                                        | (refine WO.pg rfl rfl rfl (WO.pg rfl rfl rfl (WO.p rfl rfl (WO.p rfl rfl ?_)))
                                           refine WO.nil ?_
                                           refine W.cond_bl rfl (fun c12 => ?_) (fun c12 => ?_)
                                           · first
                                             | (exfalso; omega)
                                             | (refine W.region ?_
                                                refine WO.p rfl rfl (WO.field0 rfl rfl rfl (WO.load rfl rfl (Cell.own Pick.head rfl) rfl ?_))
                                                refine WO.convI (b := (s : Int)) rfl rfl rfl (wrap_nat (fitU (by omega))) rfl ?_
                                                refine WO.callR rfl Try.call54 (fun L w hi => c_Ones w s hs256) rfl ?_
                                                refine WO.max2 rfl rfl rfl ?_
                                                rw [show max (g : Int) (cntN s 8 : Int) = ((max g (cntN s 8) : Nat) : Int) by omega]
                                                refine WO.p rfl rfl ?_
                                                refine WO.nil ?_
                                                refine' ⟨seen.push e.born, _, ?hp, ?hmu, ⟨rfl, rfl, rfl, rfl, rfl, rfl, trivial⟩, ?hS⟩
                                                case hS => repeat (first | exact Sub.nil | refine Sub.cons (by repeat (first | exact Pick.head | apply Pick.tail)) ?_)
                                                case hp => exact hI.step hreg he hek hft (by unfold wrK hasB; omega) (by first | exact .inl ⟨by unfold hasB; omega, by omega, rfl⟩ | exact .inr ⟨by unfold hasB; omega, rfl⟩)
                                                case hmu => exact left_shrinks es seen e he)
                                           first
                                           | (exfalso; omega)
                                           | (refine W.skip ?_
                                              refine' ⟨seen.push e.born, _, ?hp, ?hmu, ⟨rfl, rfl, rfl, rfl, rfl, rfl, trivial⟩, ?hS⟩
                                              case hS => repeat (first | exact Sub.nil | refine Sub.cons (by repeat (first | exact Pick.head | apply Pick.tail)) ?_)
                                              case hp => exact hI.step hreg he hek hft (by unfold wrK hasB; omega) (by first | exact .inl ⟨by unfold hasB; omega, by omega, rfl⟩ | exact .inr ⟨by unfold hasB; omega, rfl⟩)
                                              case hmu => exact left_shrinks es seen e he))
                                      first
                                      | (exfalso; omega)
                                      | (refine WO.no rfl rfl (WO.no rfl rfl (WO.p rfl rfl (WO.p rfl rfl ?_)))
                                         refine WO.nil ?_
                                         refine W.cond_f rfl ?_
                                         refine W.skip ?_
                                         refine' ⟨seen.push e.born, _, ?hp, ?hmu, ⟨rfl, rfl, rfl, rfl, rfl, rfl, trivial⟩, ?hS⟩
                                         case hS => repeat (first | exact Sub.nil | refine Sub.cons (by repeat (first | exact Pick.head | apply Pick.tail)) ?_)
                                         case hp => exact hI.step hreg he hek hft (by unfold wrK hasB; omega) (by first | exact .inl ⟨by unfold hasB; omega, by omega, rfl⟩ | exact .inr ⟨by unfold hasB; omega, rfl⟩)
                                         case hmu => exact left_shrinks es seen e he)))
                              first
                              | (exfalso; omega)
                              | (refine WO.no rfl rfl (WO.no rfl rfl (WO.no rfl rfl (WO.no rfl rfl (WO.no rfl rfl (WO.no rfl rfl (WO.pg rfl rfl rfl (WO.p rfl rfl (WO.p rfl rfl ?_))))))))
                                 refine WO.nil ?_
                                 refine W.cond_f rfl ?_
                                 refine W.sreg ?_
                                 refine WO.p rfl rfl (WO.p rfl rfl ?_)
                                 refine WO.guard_bl rfl rfl (fun c10 => ?_) (fun c10 => ?_)
                                 · first
                                   | (exfalso; omega)
                                   | (refine WO.pg rfl rfl rfl (WO.pg rfl rfl rfl (WO.p rfl rfl (WO.p rfl rfl ?_)))
                                      refine WO.nil ?_
                                      refine W.cond_bl rfl (fun c11 => ?_) (fun c11 => ?_)
                                      · first
                                        | (exfalso; omega)
                                        | (refine W.region ?_
                                           refine WO.p rfl rfl (WO.field0 rfl rfl rfl (WO.load rfl rfl (Cell.own Pick.head rfl) rfl ?_))
                                           refine WO.convI (b := (s : Int)) rfl rfl rfl (wrap_nat (fitU (by omega))) rfl ?_
                                           refine WO.callR rfl Try.call54 (fun L w hi => c_Ones w s hs256) rfl ?_
                                           refine WO.max2 rfl rfl rfl ?_
                                           rw [show max (g : Int) (cntN s 8 : Int) = ((max g (cntN s 8) : Nat) : Int) by omega]
                                           refine WO.p rfl rfl ?_
                                           refine WO.nil ?_
                                           refine' ⟨seen.push e.born, _, ?hp, ?hmu, ⟨rfl, rfl, rfl, rfl, rfl, rfl, trivial⟩, ?hS⟩
                                           case hS => repeat (first | exact Sub.nil | refine Sub.cons (by repeat (first | exact Pick.head | apply Pick.tail)) ?_)
                                           case hp => exact hI.step hreg he hek hft (by unfold wrK hasB; omega) (by first | exact .inl ⟨by unfold hasB; omega, by omega, rfl⟩ | exact .inr ⟨by unfold hasB; omega, rfl⟩)
                                           case hmu => exact left_shrinks es seen e he)
                                      first
                                      | (exfalso; omega)
                                      | (refine W.skip ?_
                                         refine' ⟨seen.push e.born, _, ?hp, ?hmu, ⟨rfl, rfl, rfl, rfl, rfl, rfl, trivial⟩, ?hS⟩
                                         case hS => repeat (first | exact Sub.nil | refine Sub.cons (by repeat (first | exact Pick.head | apply Pick.tail)) ?_)
                                         case hp => exact hI.step hreg he hek hft (by unfold wrK hasB; omega) (by first | exact .inl ⟨by unfold hasB; omega, by omega, rfl⟩ | exact .inr ⟨by unfold hasB; omega, rfl⟩)
                                         case hmu => exact left_shrinks es seen e he))
                                 first
                                 | (exfalso; omega)
                                 | (refine WO.no rfl rfl (WO.no rfl rfl (WO.p rfl rfl (WO.p rfl rfl ?_)))
                                    refine WO.nil ?_
                                    refine W.cond_f rfl ?_
                                    refine W.skip ?_
                                    refine' ⟨seen.push e.born, _, ?hp, ?hmu, ⟨rfl, rfl, rfl, rfl, rfl, rfl, trivial⟩, ?hS⟩
                                    case hS => repeat (first | exact Sub.nil | refine Sub.cons (by repeat (first | exact Pick.head | apply Pick.tail)) ?_)
                                    case hp => exact hI.step hreg he hek hft (by unfold wrK hasB; omega) (by first | exact .inl ⟨by unfold hasB; omega, by omega, rfl⟩ | exact .inr ⟨by unfold hasB; omega, rfl⟩)
                                    case hmu => exact left_shrinks es seen e he))))
                      first
                      | (exfalso; omega)
                      | (refine WO.no rfl rfl (WO.no rfl rfl (WO.p rfl rfl (WO.p rfl rfl (WO.pg rfl rfl rfl (WO.pg rfl rfl rfl ?_)))))
                         refine WO.guard_bl rfl rfl (fun c8 => ?_) (fun c8 => ?_)
                         · first
                           | (exfalso; omega)
                           | (refine WO.pg rfl rfl rfl (WO.pg rfl rfl rfl (WO.pg rfl rfl rfl (WO.go' rfl (WO.loadA rfl rfl (Cells.own Pick.head) rfl rfl (WO.go' rfl ?_)))))
                              refine WO.callR rfl Try.call53 (fun L w hi => c_follows hd hln.2 w ⟨q, 0, none⟩ m (fT l xs xs.length) s i (PlR.own (by repeat (first | exact Pick.head | apply Pick.tail)) hR hi) (RdM.ownC (by repeat (first | exact Pick.head | apply Pick.tail)) hrep hi) hnn hs256 hil) rfl ?_
                              refine WO.pg rfl rfl rfl (WO.pg rfl rfl rfl (WO.p rfl rfl (WO.p rfl rfl ?_)))
                              refine WO.nil ?_
                              refine W.cond_bl rfl (fun c9 => ?_) (fun c9 => ?_)
                              · first
                                | (exfalso; omega)
                                | (refine W.sreg ?_
                                   refine WO.field0 rfl rfl rfl (WO.load rfl rfl (Cell.own Pick.head rfl) rfl (WO.fieldL rfl rfl rfl (WO.load rfl rfl (Cell.own Pick.head rfl) rfl (WO.ar rfl rfl rfl (by (first | (unfold in64; omega) | (unfold in64; omega))) rfl ?_))))
                                   refine' WO.build (cs := _) rfl rfl rfl ?hf rfl ?_
                                   case hf => (conv => lhs; simp [-List.getD_eq_getElem?_getD, fillL, vcl, wrl, TTab.pl?.lget']) <;> rfl
                                   refine WO.storeA rfl rfl rfl rfl (Pick.tail (Pick.tail (Pick.tail (Pick.tail (Pick.head))))) rfl rfl ?_
                                   refine WO.nil ?_
                                   refine W.exit (blk_other rfl (blk_other rfl (blk_same ?_)))
                                   refine W.seq ?_
                                   skip
                                   refine W.sreg ?_
                                   refine WO.loadA rfl rfl (Cells.own Pick.head) rfl rfl (WO.loadA rfl rfl (Cells.own (Pick.tail (Pick.tail (Pick.tail (Pick.tail (Pick.head)))))) rfl rfl ?_)
                                   refine WO.eqT rfl rfl (neq93 _ _ _ _) rfl ?_
                                   refine WO.nil ?_
                                   refine W.cond_bl rfl (fun c10 => ?_) (fun c10 => ?_)
                                   · first
                                     | (exfalso; omega)
                                     | (refine W.sreg ?_
                                        refine WO.p rfl rfl (WO.p rfl rfl ?_)
                                        refine WO.nil ?_
                                        refine W.ret ?_
                                        first | (rw [ctV_bad (ctE_1 (by assumption)) (by assumption)]; exact fin.ret (Res.two rfl (RV.tmp rfl) (RV.tmp rfl)) rfl) | (rw [ctV_bad (ctE_15 (by omega) (by omega)) (by decide)]; exact fin.ret (Res.two rfl (RV.tmp rfl) (RV.tmp rfl)) rfl) | (rw [ctV_bad (ctE_3 (by omega) hxl (by first | exact mn_neg (by omega) (by assumption) | exact mx_big (by omega) (by omega))) (by decide)]; exact fin.ret (Res.two rfl (RV.tmp rfl) (RV.tmp rfl)) rfl) | (rw [ctV_bad (ctE_14 (by omega) hxl hn3 (is14 hft (by unfold wrK hasB; omega))) (by decide)]; exact fin.ret (Res.two rfl (RV.tmp rfl) (RV.tmp rfl)) rfl) | (obtain ⟨q1, q2⟩ := hI.end hn0 hrep (left0 hox (by assumption)); have e0 : ctE b l xs a = 0 := ctE_0 (by omega) hxl hn3 q1; unfold ctV ctM; rw [e0, if_pos rfl, q2]; exact fin.ret (Res.two rfl (RV.tmp rfl) (RV.tmp rfl)) rfl))
                                   first
                                   | (exfalso; omega)
                                   | (refine W.skip ?_
                                      refine W.sreg ?_
                                      refine WO.p rfl rfl (WO.p rfl rfl (WO.p rfl rfl ?_))
                                      refine WO.nil ?_
                                      refine W.ret ?_
                                      first | (rw [ctV_bad (ctE_1 (by assumption)) (by assumption)]; exact fin.ret (Res.two rfl (RV.tmp rfl) (RV.tmp rfl)) rfl) | (rw [ctV_bad (ctE_15 (by omega) (by omega)) (by decide)]; exact fin.ret (Res.two rfl (RV.tmp rfl) (RV.tmp rfl)) rfl) | (rw [ctV_bad (ctE_3 (by omega) hxl (by first | exact mn_neg (by omega) (by assumption) | exact mx_big (by omega) (by omega))) (by decide)]; exact fin.ret (Res.two rfl (RV.tmp rfl) (RV.tmp rfl)) rfl) | (rw [ctV_bad (ctE_14 (by omega) hxl hn3 (is14 hft (by unfold wrK hasB; omega))) (by decide)]; exact fin.ret (Res.two rfl (RV.tmp rfl) (RV.tmp rfl)) rfl) | (obtain ⟨q1, q2⟩ := hI.end hn0 hrep (left0 hox (by assumption)); have e0 : ctE b l xs a = 0 := ctE_0 (by omega) hxl hn3 q1; unfold ctV ctM; rw [e0, if_pos rfl, q2]; exact fin.ret (Res.two rfl (RV.tmp rfl) (RV.tmp rfl)) rfl)))
                              first
                              | (exfalso; omega)
                              | (refine W.sreg ?_
                                 refine WO.p rfl rfl (WO.p rfl rfl ?_)
                                 refine WO.guard_bl rfl rfl (fun c10 => ?_) (fun c10 => ?_)
                                 · first
                                   | (exfalso; omega)
                                   | (refine WO.pg rfl rfl rfl (WO.pg rfl rfl rfl (WO.p rfl rfl (WO.p rfl rfl ?_)))
                                      refine WO.nil ?_
                                      refine W.cond_bl rfl (fun c11 => ?_) (fun c11 => ?_)
                                      · first
                                        | (exfalso; omega)
                                        | (refine W.region ?_
                                           refine WO.p rfl rfl (WO.field0 rfl rfl rfl (WO.load rfl rfl (Cell.own Pick.head rfl) rfl ?_))
                                           refine WO.convI (b := (s : Int)) rfl rfl rfl (wrap_nat (fitU (by omega))) rfl ?_
                                           refine WO.callR rfl Try.call54 (fun L w hi => c_Ones w s hs256) rfl ?_
                                           refine WO.max2 rfl rfl rfl ?_
                                           rw [show max (g : Int) (cntN s 8 : Int) = ((max g (cntN s 8) : Nat) : Int) by omega]
                                           refine WO.p rfl rfl ?_
                                           refine WO.nil ?_
                                           refine' ⟨seen.push e.born, _, ?hp, ?hmu, ⟨rfl, rfl, rfl, rfl, rfl, rfl, trivial⟩, ?hS⟩
                                           case hS => repeat (first | exact Sub.nil | refine Sub.cons (by repeat (first | exact Pick.head | apply Pick.tail)) ?_)
                                           case hp => exact hI.step hreg he hek hft (by unfold wrK hasB; omega) (by first | exact .inl ⟨by unfold hasB; omega, by omega, rfl⟩ | exact .inr ⟨by unfold hasB; omega, rfl⟩)
                                           case hmu => exact left_shrinks es seen e he)
                                      first
                                      | (exfalso; omega)
                                      | (refine W.skip ?_
                                         refine' ⟨seen.push e.born, _, ?hp, ?hmu, ⟨rfl, rfl, rfl, rfl, rfl, rfl, trivial⟩, ?hS⟩
                                         case hS => repeat (first | exact Sub.nil | refine Sub.cons (by repeat (first | exact Pick.head | apply Pick.tail)) ?_)
                                         case hp => exact hI.step hreg he hek hft (by unfold wrK hasB; omega) (by first | exact .inl ⟨by unfold hasB; omega, by omega, rfl⟩ | exact .inr ⟨by unfold hasB; omega, rfl⟩)
                                         case hmu => exact left_shrinks es seen e he))
                                 first
                                 | (exfalso; omega)
                                 | (refine WO.no rfl rfl (WO.no rfl rfl (WO.p rfl rfl (WO.p rfl rfl ?_)))
                                    refine WO.nil ?_
                                    refine W.cond_f rfl ?_
                                    refine W.skip ?_
                                    refine' ⟨seen.push e.born, _, ?hp, ?hmu, ⟨rfl, rfl, rfl, rfl, rfl, rfl, trivial⟩, ?hS⟩
                                    case hS => repeat (first | exact Sub.nil | refine Sub.cons (by repeat (first | exact Pick.head | apply Pick.tail)) ?_)
                                    case hp => exact hI.step hreg he hek hft (by unfold wrK hasB; omega) (by first | exact .inl ⟨by unfold hasB; omega, by omega, rfl⟩ | exact .inr ⟨by unfold hasB; omega, rfl⟩)
                                    case hmu => exact left_shrinks es seen e he)))
                         first
                         | (exfalso; omega)
                         | (refine WO.no rfl rfl (WO.no rfl rfl (WO.no rfl rfl (WO.no rfl rfl (WO.no rfl rfl (WO.no rfl rfl (WO.pg rfl rfl rfl (WO.p rfl rfl (WO.p rfl rfl ?_))))))))
                            refine WO.nil ?_
                            refine W.cond_f rfl ?_
                            refine W.sreg ?_
                            refine WO.p rfl rfl (WO.p rfl rfl ?_)
                            refine WO.guard_bl rfl rfl (fun c9 => ?_) (fun c9 => ?_)
                            · first
                              | (exfalso; omega)
                              | (refine WO.pg rfl rfl rfl (WO.pg rfl rfl rfl (WO.p rfl rfl (WO.p rfl rfl ?_)))
                                 refine WO.nil ?_
                                 refine W.cond_bl rfl (fun c10 => ?_) (fun c10 => ?_)
                                 · first
                                   | (exfalso; omega)
                                   | (refine W.region ?_
                                      refine WO.p rfl rfl (WO.field0 rfl rfl rfl (WO.load rfl rfl (Cell.own Pick.head rfl) rfl ?_))
                                      refine WO.convI (b := (s : Int)) rfl rfl rfl (wrap_nat (fitU (by omega))) rfl ?_
                                      refine WO.callR rfl Try.call54 (fun L w hi => c_Ones w s hs256) rfl ?_
                                      refine WO.max2 rfl rfl rfl ?_
                                      rw [show max (g : Int) (cntN s 8 : Int) = ((max g (cntN s 8) : Nat) : Int) by omega]
                                      refine WO.p rfl rfl ?_
                                      refine WO.nil ?_
                                      refine' ⟨seen.push e.born, _, ?hp, ?hmu, ⟨rfl, rfl, rfl, rfl, rfl, rfl, trivial⟩, ?hS⟩
                                      case hS => repeat (first | exact Sub.nil | refine Sub.cons (by repeat (first | exact Pick.head | apply Pick.tail)) ?_)
                                      case hp => exact hI.step hreg he hek hft (by unfold wrK hasB; omega) (by first | exact .inl ⟨by unfold hasB; omega, by omega, rfl⟩ | exact .inr ⟨by unfold hasB; omega, rfl⟩)
                                      case hmu => exact left_shrinks es seen e he)
                                 first
                                 | (exfalso; omega)
                                 | (refine W.skip ?_
                                    refine' ⟨seen.push e.born, _, ?hp, ?hmu, ⟨rfl, rfl, rfl, rfl, rfl, rfl, trivial⟩, ?hS⟩
                                    case hS => repeat (first | exact Sub.nil | refine Sub.cons (by repeat (first | exact Pick.head | apply Pick.tail)) ?_)
                                    case hp => exact hI.step hreg he hek hft (by unfold wrK hasB; omega) (by first | exact .inl ⟨by unfold hasB; omega, by omega, rfl⟩ | exact .inr ⟨by unfold hasB; omega, rfl⟩)
                                    case hmu => exact left_shrinks es seen e he))
                            first
                            | (exfalso; omega)
                            | (refine WO.no rfl rfl (WO.no rfl rfl (WO.p rfl rfl (WO.p rfl rfl ?_)))
                               refine WO.nil ?_
                               refine W.cond_f rfl ?_
                               refine W.skip ?_
                               refine' ⟨seen.push e.born, _, ?hp, ?hmu, ⟨rfl, rfl, rfl, rfl, rfl, rfl, trivial⟩, ?hS⟩
                               case hS => repeat (first | exact Sub.nil | refine Sub.cons (by repeat (first | exact Pick.head | apply Pick.tail)) ?_)
                               case hp => exact hI.step hreg he hek hft (by unfold wrK hasB; omega) (by first | exact .inl ⟨by unfold hasB; omega, by omega, rfl⟩ | exact .inr ⟨by unfold hasB; omega, rfl⟩)
                               case hmu => exact left_shrinks es seen e he))))
                 first
                 | (exfalso; omega)
                 | (refine W.exit (blk_same ?_)
                    refine W.seq ?_
                    skip
                    refine W.sreg ?_
                    refine WO.loadA rfl rfl (Cells.own (Pick.tail (Pick.tail (Pick.tail (Pick.head))))) rfl rfl (WO.loadA rfl rfl (Cells.own (Pick.tail (Pick.tail (Pick.head)))) rfl rfl ?_)
                    refine WO.eqT rfl rfl (neq93 _ _ _ _) rfl ?_
                    refine WO.nil ?_
                    refine W.cond_bl rfl (fun c7 => ?_) (fun c7 => ?_)
                    · first
                      | (exfalso; omega)
                      | (refine W.sreg ?_
                         refine WO.p rfl rfl (WO.p rfl rfl ?_)
                         refine WO.nil ?_
                         refine W.ret ?_
                         first | (rw [ctV_bad (ctE_1 (by assumption)) (by assumption)]; exact fin.ret (Res.two rfl (RV.tmp rfl) (RV.tmp rfl)) rfl) | (rw [ctV_bad (ctE_15 (by omega) (by omega)) (by decide)]; exact fin.ret (Res.two rfl (RV.tmp rfl) (RV.tmp rfl)) rfl) | (rw [ctV_bad (ctE_3 (by omega) hxl (by first | exact mn_neg (by omega) (by assumption) | exact mx_big (by omega) (by omega))) (by decide)]; exact fin.ret (Res.two rfl (RV.tmp rfl) (RV.tmp rfl)) rfl) | (rw [ctV_bad (ctE_14 (by omega) hxl hn3 (is14 hft (by unfold wrK hasB; omega))) (by decide)]; exact fin.ret (Res.two rfl (RV.tmp rfl) (RV.tmp rfl)) rfl) | (obtain ⟨q1, q2⟩ := hI.end hn0 hrep (left0 hox (by assumption)); have e0 : ctE b l xs a = 0 := ctE_0 (by omega) hxl hn3 q1; unfold ctV ctM; rw [e0, if_pos rfl, q2]; exact fin.ret (Res.two rfl (RV.tmp rfl) (RV.tmp rfl)) rfl))
                    first
                    | (exfalso; omega)
                    | (refine W.skip ?_
                       refine W.sreg ?_
                       refine WO.p rfl rfl (WO.p rfl rfl (WO.p rfl rfl ?_))
                       refine WO.nil ?_
                       refine W.ret ?_
                       first | (rw [ctV_bad (ctE_1 (by assumption)) (by assumption)]; exact fin.ret (Res.two rfl (RV.tmp rfl) (RV.tmp rfl)) rfl) | (rw [ctV_bad (ctE_15 (by omega) (by omega)) (by decide)]; exact fin.ret (Res.two rfl (RV.tmp rfl) (RV.tmp rfl)) rfl) | (rw [ctV_bad (ctE_3 (by omega) hxl (by first | exact mn_neg (by omega) (by assumption) | exact mx_big (by omega) (by omega))) (by decide)]; exact fin.ret (Res.two rfl (RV.tmp rfl) (RV.tmp rfl)) rfl) | (rw [ctV_bad (ctE_14 (by omega) hxl hn3 (is14 hft (by unfold wrK hasB; omega))) (by decide)]; exact fin.ret (Res.two rfl (RV.tmp rfl) (RV.tmp rfl)) rfl) | (obtain ⟨q1, q2⟩ := hI.end hn0 hrep (left0 hox (by assumption)); have e0 : ctE b l xs a = 0 := ctE_0 (by omega) hxl hn3 q1; unfold ctV ctM; rw [e0, if_pos rfl, q2]; exact fin.ret (Res.two rfl (RV.tmp rfl) (RV.tmp rfl)) rfl))))))))
end Go.Proofs.Ytkonhpcldomidaa
