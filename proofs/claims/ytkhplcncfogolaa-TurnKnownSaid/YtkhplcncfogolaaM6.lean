/-
  What is proved here: rims: the lists, and the function that yields them. Conditions: none; each contract states its own.
  What is proved here: the circle that a rim proves: what goes through parts of it. Conditions: none; each contract states its own.
  What is proved here: the circle that a rim proves. Conditions: none; each contract states its own.
  What is proved here: the circle that a rim proves. Conditions: none; each contract states its own.
  What is proved here: which rims prove which circles. Conditions: none; each contract states its own.
-/
import Derived.Test.YtkhplcncfogolaaM5
namespace Go.Proofs.Ytkhplcncfogolaa
open Go Go.TH
attribute [local irreducible] W WO pt
set_option maxRecDepth 10000
set_option maxHeartbeats 1000000
/-- lists, one after the other -/
def seg {β : Type} (lo hi : Nat) (g : Nat → List β) : List β := (List.range (hi - lo)).flatMap fun t => g (lo + t)
theorem seg_none {β : Type} (lo : Nat) (g : Nat → List β) : seg lo lo g = [] := by unfold seg; simp
theorem seg_succ {β : Type} {lo hi : Nat} (h : lo ≤ hi) (g : Nat → List β) : seg lo (hi + 1) g = seg lo hi g ++ g hi := by
  unfold seg; rw [show hi + 1 - lo = (hi - lo) + 1 by omega, List.range_succ, List.flatMap_append]; simp [show lo + (hi - lo) = hi by omega]
theorem seg_get {β : Type} {lo i t : Nat} {g : Nat → List β} {x : β} (h1 : lo ≤ i) (ht : (g i)[t]? = some x) : ∀ {hi : Nat}, i < hi → (seg lo hi g)[(seg lo i g).length + t]? = some x
  | 0, h => by omega
  | hi + 1, h => by
    rw [seg_succ (by omega)]
    rcases Nat.lt_or_ge i hi with g1 | g1
    · have := seg_get (lo := lo) h1 ht (hi := hi) g1
      rw [List.getElem?_append_left (List.getElem?_eq_some_iff.1 this).1]; exact this
    · obtain rfl : i = hi := by omega
      rw [List.getElem?_append_right (by omega), Nat.add_sub_cancel_left]; exact ht
theorem seg_one {β : Type} (lo : Nat) (g : Nat → β) : ∀ {hi : Nat}, lo ≤ hi → (seg lo hi fun i => [g i]).length = hi - lo
  | 0, h => by obtain rfl : lo = 0 := (by omega); rw [seg_none]; rfl
  | hi + 1, h => by
    rcases Nat.lt_or_ge hi lo with g1 | g1
    · obtain rfl : lo = hi + 1 := (by omega); rw [seg_none]; simp
    · rw [seg_succ g1, List.length_append, seg_one lo g g1]; simp; omega
theorem mem_seg {β : Type} {lo hi : Nat} {g : Nat → List β} {x : β} : x ∈ seg lo hi g ↔ ∃ i, lo ≤ i ∧ i < hi ∧ x ∈ g i := by
  unfold seg
  simp only [List.mem_flatMap, List.mem_range]
  constructor
  · rintro ⟨t, ht, hx⟩; exact ⟨lo + t, by omega, by omega, hx⟩
  · rintro ⟨i, h1, h2, hx⟩; exact ⟨i - lo, by omega, by rw [show lo + (i - lo) = i by omega]; exact hx⟩
def nxt (bs : List Int) : Nat := (bs.getLast?.getD (-1) + 1).toNat
/-- all lists of so many increasing indexes below a number that go on from a beginning -/
def rimsL : Nat → Nat → List Int → List (List Int)
  | 0, _, bs => [bs]
  | m + 1, n, bs => seg (nxt bs) n fun i => rimsL m n (bs ++ [(i : Int)])
theorem nxt_snoc (bs : List Int) (i : Nat) : nxt (bs ++ [(i : Int)]) = i + 1 := by unfold nxt; simp
theorem rims1 (n : Nat) (bs : List Int) : rimsL 1 n bs = seg (nxt bs) n fun i => [bs ++ [(i : Int)]] := rfl
theorem rims1_a (n a : Nat) : rimsL 1 n [(a : Int)] = seg (a + 1) n fun b => [[(a : Int), (b : Int)]] := rfl
theorem rims1_ab (n a b : Nat) : rimsL 1 n [(a : Int), (b : Int)] = seg (b + 1) n fun c => [[(a : Int), (b : Int), (c : Int)]] := rfl
theorem rims2_a (n a : Nat) : rimsL 2 n [(a : Int)] = seg (a + 1) n fun b => rimsL 1 n [(a : Int), (b : Int)] := rfl
theorem rimsT1 (n : Nat) : rimsL 1 n [] = seg 0 n fun a => [[(a : Int)]] := rfl
theorem rimsT2 (n : Nat) : rimsL 2 n [] = seg 0 n fun a => rimsL 1 n [(a : Int)] := rfl
theorem rimsT3 (n : Nat) : rimsL 3 n [] = seg 0 n fun a => rimsL 2 n [(a : Int)] := rfl
/-- how many come before -/
def q1 (a : Nat) : Nat := a
def q2 (n a : Nat) : Nat := (seg 0 a fun a => rimsL 1 n [(a : Int)]).length
def q3 (n a : Nat) : Nat := (seg 0 a fun a => rimsL 2 n [(a : Int)]).length
def q4 (n a b : Nat) : Nat := (seg (a + 1) b fun b => rimsL 1 n [(a : Int), (b : Int)]).length
theorem q1_get {n a : Nat} (h : a < n) : (rimsL 1 n [])[q1 a]? = some [(a : Int)] := by
  rw [rimsT1]
  have := seg_get (lo := 0) (i := a) (t := 0) (g := fun a => [[(a : Int)]]) (x := [(a : Int)]) (by omega) rfl (hi := n) h
  rw [seg_one (lo := 0) (fun a : Nat => [(a : Int)]) (by omega)] at this
  simpa [q1] using this
theorem q2_succ {n a : Nat} (h : a < n) : q2 n (a + 1) = q2 n a + (n - (a + 1)) := by
  unfold q2; rw [seg_succ (by omega), List.length_append, rims1_a, seg_one (a + 1) (fun b : Nat => [(a : Int), (b : Int)]) (by omega)]
theorem q2_get {n a b : Nat} (ha : a < n) (h1 : a + 1 ≤ b) (h2 : b < n) : (rimsL 2 n [])[q2 n a + (b - (a + 1))]? = some [(a : Int), (b : Int)] := by
  rw [rimsT2]
  refine seg_get (by omega) ?_ ha
  rw [rims1_a]
  have := seg_get (lo := a + 1) (i := b) (t := 0) (g := fun b : Nat => [[(a : Int), (b : Int)]]) (x := [(a : Int), (b : Int)]) h1 rfl (hi := n) h2
  rw [seg_one (a + 1) (fun b : Nat => [(a : Int), (b : Int)]) (by omega)] at this
  exact this
theorem q4_succ {n a b : Nat} (h1 : a + 1 ≤ b) (h : b < n) : q4 n a (b + 1) = q4 n a b + (n - (b + 1)) := by
  unfold q4; rw [seg_succ (by omega), List.length_append, rims1_ab, seg_one (b + 1) (fun c : Nat => [(a : Int), (b : Int), (c : Int)]) (by omega)]
theorem q3_succ {n a : Nat} : q3 n (a + 1) = q3 n a + q4 n a n := by
  unfold q3 q4; rw [seg_succ (by omega), List.length_append, rims2_a]
theorem q4_0 (n a : Nat) : q4 n a (a + 1) = 0 := by unfold q4; rw [seg_none]; rfl
theorem q3_get {n a b c : Nat} (ha : a < n) (h1 : a + 1 ≤ b) (h2 : b < n) (h3 : b + 1 ≤ c) (h4 : c < n) : (rimsL 3 n [])[q3 n a + (q4 n a b + (c - (b + 1)))]? = some [(a : Int), (b : Int), (c : Int)] := by
  rw [rimsT3]
  refine seg_get (by omega) ?_ ha
  rw [rims2_a]
  refine seg_get h1 ?_ h2
  rw [rims1_ab]
  have := seg_get (lo := b + 1) (i := c) (t := 0) (g := fun c : Nat => [[(a : Int), (b : Int), (c : Int)]]) (x := [(a : Int), (b : Int), (c : Int)]) h3 rfl (hi := n) h4
  rw [seg_one (b + 1) (fun c : Nat => [(a : Int), (b : Int), (c : Int)]) (by omega)] at this
  exact this
theorem rims1_len (n : Nat) : (rimsL 1 n []).length = q1 n := by rw [rimsT1, seg_one 0 (fun a : Nat => [(a : Int)]) (by omega)]; rfl
theorem rims2_len (n : Nat) : (rimsL 2 n []).length = q2 n n := rfl
theorem rims3_len (n : Nat) : (rimsL 3 n []).length = q3 n n := rfl
theorem c_rims (w : World) (n m : Int) : Ct Try.prog 52 [.int .i64 n, .int .i64 m].toArray w fun v w' => ∃ Hq, (∃ b1 b2, v = .func (.func 70) #[] #[.pointer (some ⟨b1, 0, none⟩), .pointer (some ⟨b2, 0, none⟩)] ∧
    Hq = [pt b2 (.cells #[.int .i64 m] 3 (0, 0)), pt b1 (.cells #[.int .i64 n] 3 (0, 0))]) ∧ Inv w [] Hq w' := by
  refine Ct.of mixed tyTab Try.func52 rfl rfl ?_
  refine W.sreg ?_
  refine WO.box1 rfl (by first | rfl | assumption) rfl (fun b1 hb1 => ?_)
  refine WO.box1 rfl (by first | rfl | assumption) rfl (fun b2 hb2 => ?_)
  refine WO.p rfl rfl ?_
  refine WO.nil ?_
  refine W.sreg ?_
  refine WO.p rfl rfl (WO.p rfl rfl ?_)
  refine WO.nil ?_
  refine W.ret ?_
  exact fin.ret (Res.one rfl (RV.tmp rfl)) ⟨b1, b2, rfl, rfl⟩
theorem c_rims1_1 (B : Nat) (wr : World) (n : Nat) (hn : n ≤ 1000) (last : Nat) (l : Nat) (Hc : Nat → List HP) (hy : ∀ k x v, (rimsL 1 n [])[k]? = some x → k ≤ last → YieldB Try.prog B wr l #[v] (bl (k < last)) (OwE encI 3 1 v x :: Hc k) (Hc (k + 1))) (b1 b2 : Nat) (w : World) (M' : List Nat) (hB : B ≤ w.heap.size) (hk : ∀ k, k < B → w.heap[k]? = wr.heap[k]?) (hM : ∀ b ∈ M', B ≤ b)
    (hi : Inv w M' ([pt b2 (.cells #[.int .i64 1] 3 (0, 0)), pt b1 (.cells #[.int .i64 (n : Int)] 3 (0, 0))] ++ Hc 0) w) :
    Ct Try.prog 70 ([.func (.yield l) #[] #[], .pointer (some ⟨b1, 0, none⟩), .pointer (some ⟨b2, 0, none⟩)] : List Value).toArray w fun _ w' => Inv w M' ([pt b2 (.cells #[.int .i64 1] 3 (0, 0)), pt b1 (.cells #[.int .i64 (n : Int)] 3 (0, 0))] ++ Hc (min (rimsL 1 n []).length (last + 1))) w' := by
  refine Iter.of mixed tyTab hB hM Try.func70 rfl rfl hi ?_
  refine W.sreg ?_
  refine WO.load rfl rfl (Cell.own (Pick.tail (Pick.head)) rfl) rfl (WO.p rfl rfl ?_)
  refine WO.nil ?_
  refine W.block ?_
  rw [show Hc 0 = Hc (q1 0) by rw [show q1 0 = 0 from rfl]]
  refine W.loop (fun (a : Nat) => a ≤ n ∧ q1 a ≤ last)
    (fun (a : Nat) => [(8, .int .i64 (a : Int)), (7, .int .i64 (n : Int)), (0, .func (.yield l) #[] #[]), (1, .pointer (some ⟨b1, 0, none⟩)), (2, .pointer (some ⟨b2, 0, none⟩))])
    (fun (a : Nat) => [pt b1 (.cells #[.int .i64 (n : Int)] 3 (0, 0)), pt b2 (.cells #[.int .i64 1] 3 (0, 0)), sat (Hc (q1 a))])
    (fun (a : Nat) => n - a) 0
    (by exact ⟨by omega, by show q1 0 ≤ last; exact Nat.zero_le _⟩) ⟨rfl, rfl, rfl, rfl, rfl, trivial⟩ (by repeat (first | exact Sub.nil | refine Sub.cons (by repeat (first | exact Pick.head | apply Pick.tail)) ?_)) ?_
  rintro a ⟨ha, hal⟩
  refine W.sreg ?_
  refine WO.p rfl rfl ?_
  refine WO.nil ?_
  refine W.seq ?_
  refine W.cond_bl rfl (fun c1 => ?_) (fun c1 => ?_)
  · first
    | (exfalso; omega)
    | (refine W.skip ?_
       refine W.seq ?_
       refine W.block ?_
       refine W.sreg ?_
       refine WO.p rfl rfl (WO.p rfl rfl ?_)
       refine WO.nil ?_
       refine W.seq ?_
       refine W.sreg ?_
       refine WO.load rfl rfl (Cell.own (Pick.tail (Pick.head)) rfl) rfl (WO.p rfl rfl (WO.p rfl rfl ?_))
       refine WO.guard_bl rfl rfl (fun c2 => ?_) (fun c2 => ?_)
       · first
         | (exfalso; omega)
         | (refine WO.pg rfl rfl rfl (WO.pg rfl rfl rfl (WO.go' rfl ?_))
            refine' WO.buildSl (cs := _) rfl rfl rfl rfl ?hf rfl rfl ?hl rfl (fun v1 => ?_)
            case hf => (conv => lhs; simp [-List.getD_eq_getElem?_getD, fillL, vcl, wrl, TTab.pl?.lget']) <;> rfl
            case hl => rfl
            refine WO.go' rfl ?_
            refine WO.yieldB (go := bl (q1 a < last)) rfl rfl (by repeat (first | exact Pick.head | apply Pick.tail)) (by repeat (first | exact Pick.head | apply Pick.tail)) (((hy _ _ _ (q1_get (by omega)) (by omega)).one).agree hk) rfl ?_
            have hget := (List.getElem?_eq_some_iff.1 (q1_get (by omega) : (rimsL 1 n [])[q1 a]? = some _)).1
            refine WO.pg rfl rfl rfl (WO.p rfl rfl ?_)
            refine WO.nil ?_
            refine W.cond_nbl rfl (fun c3 => ?_) (fun c3 => ?_)
            · first
              | (exfalso; omega)
              | (refine W.ret ?_
                 refine fin.ret (Res.none rfl) ?_
                 rw [show min (rimsL 1 n []).length (last + 1) = q1 a + 1 by omega]
                 repeat (first | exact Sub.nil | refine Sub.cons (by repeat (first | exact Pick.head | apply Pick.tail)) ?_))
            · first
              | (exfalso; omega)
              | (refine W.skip ?_
                 refine W.sreg ?_
                 refine WO.p rfl rfl (WO.ar rfl rfl rfl (by (first | (unfold in64; omega) | (unfold in64; omega))) rfl (WO.p rfl rfl ?_))
                 refine WO.nil ?_
                 refine W.block ?_
                 refine W.loop (fun (b : Nat) => a + 1 ≤ b ∧ b ≤ n ∧ b = a + 1 ∧ q1 (a + 1) ≤ last)
                   (fun (b : Nat) => [(8, .int .i64 (a : Int)), (7, .int .i64 (n : Int)), (4, .int .i64 (a : Int)), (5, .int .i64 (b : Int)), (0, .func (.yield l) #[] #[]), (1, .pointer (some ⟨b1, 0, none⟩)), (2, .pointer (some ⟨b2, 0, none⟩))])
                   (fun (b : Nat) => [pt b1 (.cells #[.int .i64 (n : Int)] 3 (0, 0)), pt b2 (.cells #[.int .i64 1] 3 (0, 0)), sat (Hc (q1 (a + 1)))])
                   (fun (b : Nat) => n - b) (a + 1)
                   (by exact ⟨by omega, by omega, rfl, by show a + 1 ≤ last; have : a < last := (by assumption); omega⟩) ⟨rfl, rfl, rfl, rfl, rfl, rfl, rfl, trivial⟩ (by repeat (first | exact Sub.nil | refine Sub.cons (by repeat (first | exact Pick.head | apply Pick.tail)) ?_)) ?_
                 rintro b ⟨hb1, hb2, hb3, hbl⟩
                 refine W.seq ?_
                 refine W.sreg ?_
                 refine WO.p rfl rfl (WO.load rfl rfl (Cell.own Pick.head rfl) rfl (WO.p rfl rfl (WO.p rfl rfl ?_)))
                 refine WO.guard_bl rfl rfl (fun c4 => ?_) (fun c4 => ?_)
                 · first
                   | (exfalso; omega)
                   | (refine WO.go' rfl (WO.load rfl rfl (Cell.own (Pick.tail (Pick.head)) rfl) rfl (WO.pg rfl rfl rfl (WO.p rfl rfl ?_)))
                      refine WO.nil ?_
                      refine W.cond_bl rfl (fun c5 => ?_) (fun c5 => ?_)
                      · first
                        | (exfalso; omega)
                        | (refine W.skip ?_
                           refine W.seq ?_
                           refine W.block ?_
                           refine W.seq ?_
                           refine W.sreg ?_
                           refine WO.load rfl rfl (Cell.own (Pick.tail (Pick.head)) rfl) rfl (WO.p rfl rfl (WO.p rfl rfl ?_))
                           refine WO.guard_bl rfl rfl (fun c6 => ?_) (fun c6 => ?_)
                           · first
                             | (exfalso; omega)
                             | (refine WO.pg rfl rfl rfl (WO.pg rfl rfl rfl (WO.pg rfl rfl rfl (WO.go' rfl ?_)))
                                refine' WO.buildSl (cs := _) rfl rfl rfl rfl ?hf rfl rfl ?hl rfl (fun v2 => ?_)
                                case hf => (conv => lhs; simp [-List.getD_eq_getElem?_getD, fillL, vcl, wrl, TTab.pl?.lget']) <;> rfl
                                case hl => rfl
                                refine WO.go' rfl ?_
                                (exfalso; omega))
                           · first
                             | (exfalso; omega)
                             | (refine WO.no rfl rfl (WO.no rfl rfl (WO.no rfl rfl (WO.no rfl rfl (WO.no rfl rfl (WO.no rfl rfl (WO.p rfl rfl ?_))))))
                                refine WO.nil ?_
                                refine W.cond_f rfl ?_
                                refine W.skip ?_
                                refine W.sreg ?_
                                refine WO.p rfl rfl (WO.ar rfl rfl rfl (by (first | (unfold in64; omega) | (unfold in64; omega))) rfl (WO.p rfl rfl ?_))
                                refine WO.nil ?_
                                refine W.block ?_
                                refine W.loop (fun (c : Nat) => b + 1 ≤ c ∧ c ≤ n ∧ q1 (a + 1) ≤ last)
                                  (fun (c : Nat) => [(8, .int .i64 (a : Int)), (7, .int .i64 (n : Int)), (4, .int .i64 (a : Int)), (5, .int .i64 (b : Int)), (6, .int .i64 (c : Int)), (0, .func (.yield l) #[] #[]), (1, .pointer (some ⟨b1, 0, none⟩)), (2, .pointer (some ⟨b2, 0, none⟩))])
                                  (fun (c : Nat) => [pt b1 (.cells #[.int .i64 (n : Int)] 3 (0, 0)), pt b2 (.cells #[.int .i64 1] 3 (0, 0)), sat (Hc (q1 (a + 1)))])
                                  (fun (c : Nat) => n - c) (b + 1)
                                  (by exact ⟨by omega, by omega, by omega⟩) ⟨rfl, rfl, rfl, rfl, rfl, rfl, rfl, rfl, trivial⟩ (by repeat (first | exact Sub.nil | refine Sub.cons (by repeat (first | exact Pick.head | apply Pick.tail)) ?_)) ?_
                                rintro c ⟨hc1, hc2, hcl⟩
                                refine W.seq ?_
                                refine W.sreg ?_
                                refine WO.p rfl rfl (WO.load rfl rfl (Cell.own Pick.head rfl) rfl (WO.p rfl rfl (WO.p rfl rfl ?_)))
                                refine WO.guard_bl rfl rfl (fun c7 => ?_) (fun c7 => ?_)
                                · first
                                  | (exfalso; omega)
                                  | (refine WO.go' rfl (WO.load rfl rfl (Cell.own (Pick.tail (Pick.head)) rfl) rfl (WO.pg rfl rfl rfl (WO.p rfl rfl ?_)))
                                     refine WO.nil ?_
                                     refine W.cond_bl rfl (fun c8 => ?_) (fun c8 => ?_)
                                     · first
                                       | (exfalso; omega)
                                       | (refine W.skip ?_
                                          refine W.seq ?_
                                          refine W.block ?_
                                          refine W.sreg ?_
                                          refine WO.p rfl rfl (WO.p rfl rfl (WO.p rfl rfl (WO.p rfl rfl ?_)))
                                          refine' WO.buildSl (cs := _) rfl rfl rfl rfl ?hf rfl rfl ?hl rfl (fun v3 => ?_)
                                          case hf => (conv => lhs; simp [-List.getD_eq_getElem?_getD, fillL, vcl, wrl, TTab.pl?.lget']) <;> rfl
                                          case hl => rfl
                                          (exfalso; omega))
                                     · first
                                       | (exfalso; omega)
                                       | (refine W.exit (blk_same ?_)
                                          have hnx2 : True := trivial
                                          refine W.region ?_
                                          refine WO.p rfl rfl (WO.ar rfl rfl rfl (by (first | (unfold in64; omega) | (unfold in64; omega))) rfl (WO.p rfl rfl ?_))
                                          refine WO.nil ?_
                                          refine' ⟨b + 1, ?hp, ?hmu, ⟨rfl, rfl, rfl, rfl, rfl, rfl, rfl, trivial⟩, ?hS⟩
                                          case hS => repeat (first | exact Sub.nil | refine Sub.cons (by repeat (first | exact Pick.head | apply Pick.tail)) ?_)
                                          case hp => exact ⟨by omega, by omega, by omega, hnx2⟩
                                          case hmu => omega))
                                · first
                                  | (exfalso; omega)
                                  | (refine WO.no rfl rfl (WO.no rfl rfl (WO.p rfl rfl ?_))
                                     refine WO.nil ?_
                                     refine W.cond_f rfl ?_
                                     refine W.exit (blk_same ?_)
                                     have hnx2 : True := trivial
                                     refine W.region ?_
                                     refine WO.p rfl rfl (WO.ar rfl rfl rfl (by (first | (unfold in64; omega) | (unfold in64; omega))) rfl (WO.p rfl rfl ?_))
                                     refine WO.nil ?_
                                     refine' ⟨b + 1, ?hp, ?hmu, ⟨rfl, rfl, rfl, rfl, rfl, rfl, rfl, trivial⟩, ?hS⟩
                                     case hS => repeat (first | exact Sub.nil | refine Sub.cons (by repeat (first | exact Pick.head | apply Pick.tail)) ?_)
                                     case hp => exact ⟨by omega, by omega, by omega, hnx2⟩
                                     case hmu => omega)))
                      · first
                        | (exfalso; omega)
                        | (refine W.exit (blk_same ?_)
                           have hnx : q1 (a + 1) ≤ last := hbl
                           refine W.region ?_
                           refine WO.ar rfl rfl rfl (by (first | (unfold in64; omega) | (unfold in64; omega))) rfl (WO.p rfl rfl ?_)
                           refine WO.nil ?_
                           refine' ⟨a + 1, ?hp, ?hmu, ⟨rfl, rfl, rfl, rfl, rfl, trivial⟩, ?hS⟩
                           case hS => repeat (first | exact Sub.nil | refine Sub.cons (by repeat (first | exact Pick.head | apply Pick.tail)) ?_)
                           case hp => exact ⟨by omega, hnx⟩
                           case hmu => omega))
                 · first
                   | (exfalso; omega)
                   | (refine WO.no rfl rfl (WO.no rfl rfl (WO.p rfl rfl ?_))
                      refine WO.nil ?_
                      refine W.cond_f rfl ?_
                      refine W.exit (blk_same ?_)
                      have hnx : q1 (a + 1) ≤ last := hbl
                      refine W.region ?_
                      refine WO.ar rfl rfl rfl (by (first | (unfold in64; omega) | (unfold in64; omega))) rfl (WO.p rfl rfl ?_)
                      refine WO.nil ?_
                      refine' ⟨a + 1, ?hp, ?hmu, ⟨rfl, rfl, rfl, rfl, rfl, trivial⟩, ?hS⟩
                      case hS => repeat (first | exact Sub.nil | refine Sub.cons (by repeat (first | exact Pick.head | apply Pick.tail)) ?_)
                      case hp => exact ⟨by omega, hnx⟩
                      case hmu => omega)))
       · first
         | (exfalso; omega)
         | (refine WO.no rfl rfl (WO.no rfl rfl (WO.no rfl rfl (WO.no rfl rfl (WO.no rfl rfl (WO.p rfl rfl ?_)))))
            refine WO.nil ?_
            refine W.cond_f rfl ?_
            refine W.skip ?_
            refine W.sreg ?_
            refine WO.p rfl rfl (WO.ar rfl rfl rfl (by (first | (unfold in64; omega) | (unfold in64; omega))) rfl (WO.p rfl rfl ?_))
            refine WO.nil ?_
            refine W.block ?_
            refine W.loop (fun (b : Nat) => a + 1 ≤ b ∧ b ≤ n ∧ b = a + 1 ∧ q1 (a + 1) ≤ last)
              (fun (b : Nat) => [(8, .int .i64 (a : Int)), (7, .int .i64 (n : Int)), (4, .int .i64 (a : Int)), (5, .int .i64 (b : Int)), (0, .func (.yield l) #[] #[]), (1, .pointer (some ⟨b1, 0, none⟩)), (2, .pointer (some ⟨b2, 0, none⟩))])
              (fun (b : Nat) => [pt b1 (.cells #[.int .i64 (n : Int)] 3 (0, 0)), pt b2 (.cells #[.int .i64 1] 3 (0, 0)), sat (Hc (q1 (a + 1)))])
              (fun (b : Nat) => n - b) (a + 1)
              (by exact ⟨by omega, by omega, rfl, by show a + 1 ≤ last; have : a < last := (by assumption); omega⟩) ⟨rfl, rfl, rfl, rfl, rfl, rfl, rfl, trivial⟩ (by repeat (first | exact Sub.nil | refine Sub.cons (by repeat (first | exact Pick.head | apply Pick.tail)) ?_)) ?_
            rintro b ⟨hb1, hb2, hb3, hbl⟩
            refine W.seq ?_
            refine W.sreg ?_
            refine WO.p rfl rfl (WO.load rfl rfl (Cell.own Pick.head rfl) rfl (WO.p rfl rfl (WO.p rfl rfl ?_)))
            refine WO.guard_bl rfl rfl (fun c9 => ?_) (fun c9 => ?_)
            · first
              | (exfalso; omega)
              | (refine WO.go' rfl (WO.load rfl rfl (Cell.own (Pick.tail (Pick.head)) rfl) rfl (WO.pg rfl rfl rfl (WO.p rfl rfl ?_)))
                 refine WO.nil ?_
                 refine W.cond_bl rfl (fun c10 => ?_) (fun c10 => ?_)
                 · first
                   | (exfalso; omega)
                   | (refine W.skip ?_
                      refine W.seq ?_
                      refine W.block ?_
                      refine W.seq ?_
                      refine W.sreg ?_
                      refine WO.load rfl rfl (Cell.own (Pick.tail (Pick.head)) rfl) rfl (WO.p rfl rfl (WO.p rfl rfl ?_))
                      refine WO.guard_bl rfl rfl (fun c11 => ?_) (fun c11 => ?_)
                      · first
                        | (exfalso; omega)
                        | (refine WO.pg rfl rfl rfl (WO.pg rfl rfl rfl (WO.pg rfl rfl rfl (WO.go' rfl ?_)))
                           refine' WO.buildSl (cs := _) rfl rfl rfl rfl ?hf rfl rfl ?hl rfl (fun v4 => ?_)
                           case hf => (conv => lhs; simp [-List.getD_eq_getElem?_getD, fillL, vcl, wrl, TTab.pl?.lget']) <;> rfl
                           case hl => rfl
                           refine WO.go' rfl ?_
                           (exfalso; omega))
                      · first
                        | (exfalso; omega)
                        | (refine WO.no rfl rfl (WO.no rfl rfl (WO.no rfl rfl (WO.no rfl rfl (WO.no rfl rfl (WO.no rfl rfl (WO.p rfl rfl ?_))))))
                           refine WO.nil ?_
                           refine W.cond_f rfl ?_
                           refine W.skip ?_
                           refine W.sreg ?_
                           refine WO.p rfl rfl (WO.ar rfl rfl rfl (by (first | (unfold in64; omega) | (unfold in64; omega))) rfl (WO.p rfl rfl ?_))
                           refine WO.nil ?_
                           refine W.block ?_
                           refine W.loop (fun (c : Nat) => b + 1 ≤ c ∧ c ≤ n ∧ q1 (a + 1) ≤ last)
                             (fun (c : Nat) => [(8, .int .i64 (a : Int)), (7, .int .i64 (n : Int)), (4, .int .i64 (a : Int)), (5, .int .i64 (b : Int)), (6, .int .i64 (c : Int)), (0, .func (.yield l) #[] #[]), (1, .pointer (some ⟨b1, 0, none⟩)), (2, .pointer (some ⟨b2, 0, none⟩))])
                             (fun (c : Nat) => [pt b1 (.cells #[.int .i64 (n : Int)] 3 (0, 0)), pt b2 (.cells #[.int .i64 1] 3 (0, 0)), sat (Hc (q1 (a + 1)))])
                             (fun (c : Nat) => n - c) (b + 1)
                             (by exact ⟨by omega, by omega, by omega⟩) ⟨rfl, rfl, rfl, rfl, rfl, rfl, rfl, rfl, trivial⟩ (by repeat (first | exact Sub.nil | refine Sub.cons (by repeat (first | exact Pick.head | apply Pick.tail)) ?_)) ?_
                           rintro c ⟨hc1, hc2, hcl⟩
                           refine W.seq ?_
                           refine W.sreg ?_
                           refine WO.p rfl rfl (WO.load rfl rfl (Cell.own Pick.head rfl) rfl (WO.p rfl rfl (WO.p rfl rfl ?_)))
                           refine WO.guard_bl rfl rfl (fun c12 => ?_) (fun c12 => ?_)
                           · first
                             | (exfalso; omega)
                             | (refine WO.go' rfl (WO.load rfl rfl (Cell.own (Pick.tail (Pick.head)) rfl) rfl (WO.pg rfl rfl rfl (WO.p rfl rfl ?_)))
                                refine WO.nil ?_
                                refine W.cond_bl rfl (fun c13 => ?_) (fun c13 => ?_)
                                · first
                                  | (exfalso; omega)
                                  | (refine W.skip ?_
                                     refine W.seq ?_
                                     refine W.block ?_
                                     refine W.sreg ?_
                                     refine WO.p rfl rfl (WO.p rfl rfl (WO.p rfl rfl (WO.p rfl rfl ?_)))
                                     refine' WO.buildSl (cs := _) rfl rfl rfl rfl ?hf rfl rfl ?hl rfl (fun v5 => ?_)
                                     case hf => (conv => lhs; simp [-List.getD_eq_getElem?_getD, fillL, vcl, wrl, TTab.pl?.lget']) <;> rfl
                                     case hl => rfl
                                     (exfalso; omega))
                                · first
                                  | (exfalso; omega)
                                  | (refine W.exit (blk_same ?_)
                                     have hnx2 : True := trivial
                                     refine W.region ?_
                                     refine WO.p rfl rfl (WO.ar rfl rfl rfl (by (first | (unfold in64; omega) | (unfold in64; omega))) rfl (WO.p rfl rfl ?_))
                                     refine WO.nil ?_
                                     refine' ⟨b + 1, ?hp, ?hmu, ⟨rfl, rfl, rfl, rfl, rfl, rfl, rfl, trivial⟩, ?hS⟩
                                     case hS => repeat (first | exact Sub.nil | refine Sub.cons (by repeat (first | exact Pick.head | apply Pick.tail)) ?_)
                                     case hp => exact ⟨by omega, by omega, by omega, hnx2⟩
                                     case hmu => omega))
                           · first
                             | (exfalso; omega)
                             | (refine WO.no rfl rfl (WO.no rfl rfl (WO.p rfl rfl ?_))
                                refine WO.nil ?_
                                refine W.cond_f rfl ?_
                                refine W.exit (blk_same ?_)
                                have hnx2 : True := trivial
                                refine W.region ?_
                                refine WO.p rfl rfl (WO.ar rfl rfl rfl (by (first | (unfold in64; omega) | (unfold in64; omega))) rfl (WO.p rfl rfl ?_))
                                refine WO.nil ?_
                                refine' ⟨b + 1, ?hp, ?hmu, ⟨rfl, rfl, rfl, rfl, rfl, rfl, rfl, trivial⟩, ?hS⟩
                                case hS => repeat (first | exact Sub.nil | refine Sub.cons (by repeat (first | exact Pick.head | apply Pick.tail)) ?_)
                                case hp => exact ⟨by omega, by omega, by omega, hnx2⟩
                                case hmu => omega)))
                 · first
                   | (exfalso; omega)
                   | (refine W.exit (blk_same ?_)
                      have hnx : q1 (a + 1) ≤ last := hbl
                      refine W.region ?_
                      refine WO.ar rfl rfl rfl (by (first | (unfold in64; omega) | (unfold in64; omega))) rfl (WO.p rfl rfl ?_)
                      refine WO.nil ?_
                      refine' ⟨a + 1, ?hp, ?hmu, ⟨rfl, rfl, rfl, rfl, rfl, trivial⟩, ?hS⟩
                      case hS => repeat (first | exact Sub.nil | refine Sub.cons (by repeat (first | exact Pick.head | apply Pick.tail)) ?_)
                      case hp => exact ⟨by omega, hnx⟩
                      case hmu => omega))
            · first
              | (exfalso; omega)
              | (refine WO.no rfl rfl (WO.no rfl rfl (WO.p rfl rfl ?_))
                 refine WO.nil ?_
                 refine W.cond_f rfl ?_
                 refine W.exit (blk_same ?_)
                 have hnx : q1 (a + 1) ≤ last := hbl
                 refine W.region ?_
                 refine WO.ar rfl rfl rfl (by (first | (unfold in64; omega) | (unfold in64; omega))) rfl (WO.p rfl rfl ?_)
                 refine WO.nil ?_
                 refine' ⟨a + 1, ?hp, ?hmu, ⟨rfl, rfl, rfl, rfl, rfl, trivial⟩, ?hS⟩
                 case hS => repeat (first | exact Sub.nil | refine Sub.cons (by repeat (first | exact Pick.head | apply Pick.tail)) ?_)
                 case hp => exact ⟨by omega, hnx⟩
                 case hmu => omega)))
  · first
    | (exfalso; omega)
    | (refine W.exit (blk_same ?_)
       obtain rfl : n = a := by omega
       refine fin.normal (Res.none rfl) ?_
       rw [rims1_len, show min (q1 n) (last + 1) = q1 n by omega]
       repeat (first | exact Sub.nil | refine Sub.cons (by repeat (first | exact Pick.head | apply Pick.tail)) ?_))
theorem c_rims1_2 (B : Nat) (wr : World) (n : Nat) (hn : n ≤ 1000) (last : Nat) (l : Nat) (Hc : Nat → List HP) (hy : ∀ k x v, (rimsL 2 n [])[k]? = some x → k ≤ last → YieldB Try.prog B wr l #[v] (bl (k < last)) (OwE encI 3 1 v x :: Hc k) (Hc (k + 1))) (b1 b2 : Nat) (w : World) (M' : List Nat) (hB : B ≤ w.heap.size) (hk : ∀ k, k < B → w.heap[k]? = wr.heap[k]?) (hM : ∀ b ∈ M', B ≤ b)
    (hi : Inv w M' ([pt b2 (.cells #[.int .i64 2] 3 (0, 0)), pt b1 (.cells #[.int .i64 (n : Int)] 3 (0, 0))] ++ Hc 0) w) :
    Ct Try.prog 70 ([.func (.yield l) #[] #[], .pointer (some ⟨b1, 0, none⟩), .pointer (some ⟨b2, 0, none⟩)] : List Value).toArray w fun _ w' => Inv w M' ([pt b2 (.cells #[.int .i64 2] 3 (0, 0)), pt b1 (.cells #[.int .i64 (n : Int)] 3 (0, 0))] ++ Hc (min (rimsL 2 n []).length (last + 1))) w' := by
  refine Iter.of mixed tyTab hB hM Try.func70 rfl rfl hi ?_
  refine W.sreg ?_
  refine WO.load rfl rfl (Cell.own (Pick.tail (Pick.head)) rfl) rfl (WO.p rfl rfl ?_)
  refine WO.nil ?_
  refine W.block ?_
  rw [show Hc 0 = Hc (q2 n 0) by rw [show q2 n 0 = 0 from rfl]]
  refine W.loop (fun (a : Nat) => a ≤ n ∧ q2 n a ≤ last)
    (fun (a : Nat) => [(8, .int .i64 (a : Int)), (7, .int .i64 (n : Int)), (0, .func (.yield l) #[] #[]), (1, .pointer (some ⟨b1, 0, none⟩)), (2, .pointer (some ⟨b2, 0, none⟩))])
    (fun (a : Nat) => [pt b1 (.cells #[.int .i64 (n : Int)] 3 (0, 0)), pt b2 (.cells #[.int .i64 2] 3 (0, 0)), sat (Hc (q2 n a))])
    (fun (a : Nat) => n - a) 0
    (by exact ⟨by omega, by show q2 n 0 ≤ last; exact Nat.zero_le _⟩) ⟨rfl, rfl, rfl, rfl, rfl, trivial⟩ (by repeat (first | exact Sub.nil | refine Sub.cons (by repeat (first | exact Pick.head | apply Pick.tail)) ?_)) ?_
  rintro a ⟨ha, hal⟩
  refine W.sreg ?_
  refine WO.p rfl rfl ?_
  refine WO.nil ?_
  refine W.seq ?_
  refine W.cond_bl rfl (fun c1 => ?_) (fun c1 => ?_)
  · first
    | (exfalso; omega)
    | (refine W.skip ?_
       refine W.seq ?_
       refine W.block ?_
       refine W.sreg ?_
       refine WO.p rfl rfl (WO.p rfl rfl ?_)
       refine WO.nil ?_
       refine W.seq ?_
       refine W.sreg ?_
       refine WO.load rfl rfl (Cell.own (Pick.tail (Pick.head)) rfl) rfl (WO.p rfl rfl (WO.p rfl rfl ?_))
       refine WO.guard_bl rfl rfl (fun c2 => ?_) (fun c2 => ?_)
       · first
         | (exfalso; omega)
         | (refine WO.pg rfl rfl rfl (WO.pg rfl rfl rfl (WO.go' rfl ?_))
            refine' WO.buildSl (cs := _) rfl rfl rfl rfl ?hf rfl rfl ?hl rfl (fun v1 => ?_)
            case hf => (conv => lhs; simp [-List.getD_eq_getElem?_getD, fillL, vcl, wrl, TTab.pl?.lget']) <;> rfl
            case hl => rfl
            refine WO.go' rfl ?_
            (exfalso; omega))
       · first
         | (exfalso; omega)
         | (refine WO.no rfl rfl (WO.no rfl rfl (WO.no rfl rfl (WO.no rfl rfl (WO.no rfl rfl (WO.p rfl rfl ?_)))))
            refine WO.nil ?_
            refine W.cond_f rfl ?_
            refine W.skip ?_
            refine W.sreg ?_
            refine WO.p rfl rfl (WO.ar rfl rfl rfl (by (first | (unfold in64; omega) | (unfold in64; omega))) rfl (WO.p rfl rfl ?_))
            refine WO.nil ?_
            refine W.block ?_
            rw [show q2 n a = q2 n a + (a + 1 - (a + 1)) by omega]
            refine W.loop (fun (b : Nat) => a + 1 ≤ b ∧ b ≤ n ∧ q2 n a + (b - (a + 1)) ≤ last)
              (fun (b : Nat) => [(8, .int .i64 (a : Int)), (7, .int .i64 (n : Int)), (4, .int .i64 (a : Int)), (5, .int .i64 (b : Int)), (0, .func (.yield l) #[] #[]), (1, .pointer (some ⟨b1, 0, none⟩)), (2, .pointer (some ⟨b2, 0, none⟩))])
              (fun (b : Nat) => [pt b1 (.cells #[.int .i64 (n : Int)] 3 (0, 0)), pt b2 (.cells #[.int .i64 2] 3 (0, 0)), sat (Hc (q2 n a + (b - (a + 1))))])
              (fun (b : Nat) => n - b) (a + 1)
              (by exact ⟨by omega, by omega, by omega⟩) ⟨rfl, rfl, rfl, rfl, rfl, rfl, rfl, trivial⟩ (by repeat (first | exact Sub.nil | refine Sub.cons (by repeat (first | exact Pick.head | apply Pick.tail)) ?_)) ?_
            rintro b ⟨hb1, hb2, hbl⟩
            refine W.seq ?_
            refine W.sreg ?_
            refine WO.p rfl rfl (WO.load rfl rfl (Cell.own Pick.head rfl) rfl (WO.p rfl rfl (WO.p rfl rfl ?_)))
            refine WO.guard_bl rfl rfl (fun c3 => ?_) (fun c3 => ?_)
            · first
              | (exfalso; omega)
              | (refine WO.go' rfl (WO.load rfl rfl (Cell.own (Pick.tail (Pick.head)) rfl) rfl (WO.pg rfl rfl rfl (WO.p rfl rfl ?_)))
                 refine WO.nil ?_
                 refine W.cond_bl rfl (fun c4 => ?_) (fun c4 => ?_)
                 · first
                   | (exfalso; omega)
                   | (refine W.skip ?_
                      refine W.seq ?_
                      refine W.block ?_
                      refine W.seq ?_
                      refine W.sreg ?_
                      refine WO.load rfl rfl (Cell.own (Pick.tail (Pick.head)) rfl) rfl (WO.p rfl rfl (WO.p rfl rfl ?_))
                      refine WO.guard_bl rfl rfl (fun c5 => ?_) (fun c5 => ?_)
                      · first
                        | (exfalso; omega)
                        | (refine WO.pg rfl rfl rfl (WO.pg rfl rfl rfl (WO.pg rfl rfl rfl (WO.go' rfl ?_)))
                           refine' WO.buildSl (cs := _) rfl rfl rfl rfl ?hf rfl rfl ?hl rfl (fun v2 => ?_)
                           case hf => (conv => lhs; simp [-List.getD_eq_getElem?_getD, fillL, vcl, wrl, TTab.pl?.lget']) <;> rfl
                           case hl => rfl
                           refine WO.go' rfl ?_
                           refine WO.yieldB (go := bl (q2 n a + (b - (a + 1)) < last)) rfl rfl (by repeat (first | exact Pick.head | apply Pick.tail)) (by repeat (first | exact Pick.head | apply Pick.tail)) (((hy _ _ _ (q2_get (by omega) (by omega) (by omega)) (by omega)).one).agree hk) rfl ?_
                           have hget := (List.getElem?_eq_some_iff.1 (q2_get (by omega) (by omega) (by omega) : (rimsL 2 n [])[q2 n a + (b - (a + 1))]? = some _)).1
                           refine WO.pg rfl rfl rfl (WO.p rfl rfl ?_)
                           refine WO.nil ?_
                           refine W.cond_nbl rfl (fun c6 => ?_) (fun c6 => ?_)
                           · first
                             | (exfalso; omega)
                             | (refine W.ret ?_
                                refine fin.ret (Res.none rfl) ?_
                                rw [show min (rimsL 2 n []).length (last + 1) = q2 n a + (b - (a + 1)) + 1 by omega]
                                repeat (first | exact Sub.nil | refine Sub.cons (by repeat (first | exact Pick.head | apply Pick.tail)) ?_))
                           · first
                             | (exfalso; omega)
                             | (refine W.skip ?_
                                refine W.sreg ?_
                                refine WO.p rfl rfl (WO.ar rfl rfl rfl (by (first | (unfold in64; omega) | (unfold in64; omega))) rfl (WO.p rfl rfl ?_))
                                refine WO.nil ?_
                                refine W.block ?_
                                rw [show q2 n a + (b - (a + 1)) + 1 = q2 n a + (b + 1 - (a + 1)) by omega]
                                refine W.loop (fun (c : Nat) => b + 1 ≤ c ∧ c ≤ n ∧ c = b + 1 ∧ q2 n a + ((b + 1) - (a + 1)) ≤ last)
                                  (fun (c : Nat) => [(8, .int .i64 (a : Int)), (7, .int .i64 (n : Int)), (4, .int .i64 (a : Int)), (5, .int .i64 (b : Int)), (6, .int .i64 (c : Int)), (0, .func (.yield l) #[] #[]), (1, .pointer (some ⟨b1, 0, none⟩)), (2, .pointer (some ⟨b2, 0, none⟩))])
                                  (fun (c : Nat) => [pt b1 (.cells #[.int .i64 (n : Int)] 3 (0, 0)), pt b2 (.cells #[.int .i64 2] 3 (0, 0)), sat (Hc (q2 n a + ((b + 1) - (a + 1))))])
                                  (fun (c : Nat) => n - c) (b + 1)
                                  (by exact ⟨by omega, by omega, rfl, by omega⟩) ⟨rfl, rfl, rfl, rfl, rfl, rfl, rfl, rfl, trivial⟩ (by repeat (first | exact Sub.nil | refine Sub.cons (by repeat (first | exact Pick.head | apply Pick.tail)) ?_)) ?_
                                rintro c ⟨hc1, hc2, hc3, hcl⟩
                                refine W.seq ?_
                                refine W.sreg ?_
                                refine WO.p rfl rfl (WO.load rfl rfl (Cell.own Pick.head rfl) rfl (WO.p rfl rfl (WO.p rfl rfl ?_)))
                                refine WO.guard_bl rfl rfl (fun c7 => ?_) (fun c7 => ?_)
                                · first
                                  | (exfalso; omega)
                                  | (refine WO.go' rfl (WO.load rfl rfl (Cell.own (Pick.tail (Pick.head)) rfl) rfl (WO.pg rfl rfl rfl (WO.p rfl rfl ?_)))
                                     refine WO.nil ?_
                                     refine W.cond_bl rfl (fun c8 => ?_) (fun c8 => ?_)
                                     · first
                                       | (exfalso; omega)
                                       | (refine W.skip ?_
                                          refine W.seq ?_
                                          refine W.block ?_
                                          refine W.sreg ?_
                                          refine WO.p rfl rfl (WO.p rfl rfl (WO.p rfl rfl (WO.p rfl rfl ?_)))
                                          refine' WO.buildSl (cs := _) rfl rfl rfl rfl ?hf rfl rfl ?hl rfl (fun v3 => ?_)
                                          case hf => (conv => lhs; simp [-List.getD_eq_getElem?_getD, fillL, vcl, wrl, TTab.pl?.lget']) <;> rfl
                                          case hl => rfl
                                          (exfalso; omega))
                                     · first
                                       | (exfalso; omega)
                                       | (refine W.exit (blk_same ?_)
                                          have hnx2 := hcl
                                          refine W.region ?_
                                          refine WO.p rfl rfl (WO.ar rfl rfl rfl (by (first | (unfold in64; omega) | (unfold in64; omega))) rfl (WO.p rfl rfl ?_))
                                          refine WO.nil ?_
                                          refine' ⟨b + 1, ?hp, ?hmu, ⟨rfl, rfl, rfl, rfl, rfl, rfl, rfl, trivial⟩, ?hS⟩
                                          case hS => repeat (first | exact Sub.nil | refine Sub.cons (by repeat (first | exact Pick.head | apply Pick.tail)) ?_)
                                          case hp => exact ⟨by omega, by omega, hnx2⟩
                                          case hmu => omega))
                                · first
                                  | (exfalso; omega)
                                  | (refine WO.no rfl rfl (WO.no rfl rfl (WO.p rfl rfl ?_))
                                     refine WO.nil ?_
                                     refine W.cond_f rfl ?_
                                     refine W.exit (blk_same ?_)
                                     have hnx2 := hcl
                                     refine W.region ?_
                                     refine WO.p rfl rfl (WO.ar rfl rfl rfl (by (first | (unfold in64; omega) | (unfold in64; omega))) rfl (WO.p rfl rfl ?_))
                                     refine WO.nil ?_
                                     refine' ⟨b + 1, ?hp, ?hmu, ⟨rfl, rfl, rfl, rfl, rfl, rfl, rfl, trivial⟩, ?hS⟩
                                     case hS => repeat (first | exact Sub.nil | refine Sub.cons (by repeat (first | exact Pick.head | apply Pick.tail)) ?_)
                                     case hp => exact ⟨by omega, by omega, hnx2⟩
                                     case hmu => omega)))
                      · first
                        | (exfalso; omega)
                        | (refine WO.no rfl rfl (WO.no rfl rfl (WO.no rfl rfl (WO.no rfl rfl (WO.no rfl rfl (WO.no rfl rfl (WO.p rfl rfl ?_))))))
                           refine WO.nil ?_
                           refine W.cond_f rfl ?_
                           refine W.skip ?_
                           refine W.sreg ?_
                           refine WO.p rfl rfl (WO.ar rfl rfl rfl (by (first | (unfold in64; omega) | (unfold in64; omega))) rfl (WO.p rfl rfl ?_))
                           refine WO.nil ?_
                           refine W.block ?_
                           rw [show q2 n a + (b - (a + 1)) + 1 = q2 n a + (b + 1 - (a + 1)) by omega]
                           refine W.loop (fun (c : Nat) => b + 1 ≤ c ∧ c ≤ n ∧ c = b + 1 ∧ q2 n a + ((b + 1) - (a + 1)) ≤ last)
                             (fun (c : Nat) => [(8, .int .i64 (a : Int)), (7, .int .i64 (n : Int)), (4, .int .i64 (a : Int)), (5, .int .i64 (b : Int)), (6, .int .i64 (c : Int)), (0, .func (.yield l) #[] #[]), (1, .pointer (some ⟨b1, 0, none⟩)), (2, .pointer (some ⟨b2, 0, none⟩))])
                             (fun (c : Nat) => [pt b1 (.cells #[.int .i64 (n : Int)] 3 (0, 0)), pt b2 (.cells #[.int .i64 2] 3 (0, 0)), sat (Hc (q2 n a + ((b + 1) - (a + 1))))])
                             (fun (c : Nat) => n - c) (b + 1)
                             (by exact ⟨by omega, by omega, rfl, by omega⟩) ⟨rfl, rfl, rfl, rfl, rfl, rfl, rfl, rfl, trivial⟩ (by repeat (first | exact Sub.nil | refine Sub.cons (by repeat (first | exact Pick.head | apply Pick.tail)) ?_)) ?_
                           rintro c ⟨hc1, hc2, hc3, hcl⟩
                           refine W.seq ?_
                           refine W.sreg ?_
                           refine WO.p rfl rfl (WO.load rfl rfl (Cell.own Pick.head rfl) rfl (WO.p rfl rfl (WO.p rfl rfl ?_)))
                           refine WO.guard_bl rfl rfl (fun c9 => ?_) (fun c9 => ?_)
                           · first
                             | (exfalso; omega)
                             | (refine WO.go' rfl (WO.load rfl rfl (Cell.own (Pick.tail (Pick.head)) rfl) rfl (WO.pg rfl rfl rfl (WO.p rfl rfl ?_)))
                                refine WO.nil ?_
                                refine W.cond_bl rfl (fun c10 => ?_) (fun c10 => ?_)
                                · first
                                  | (exfalso; omega)
                                  | (refine W.skip ?_
                                     refine W.seq ?_
                                     refine W.block ?_
                                     refine W.sreg ?_
                                     refine WO.p rfl rfl (WO.p rfl rfl (WO.p rfl rfl (WO.p rfl rfl ?_)))
                                     refine' WO.buildSl (cs := _) rfl rfl rfl rfl ?hf rfl rfl ?hl rfl (fun v4 => ?_)
                                     case hf => (conv => lhs; simp [-List.getD_eq_getElem?_getD, fillL, vcl, wrl, TTab.pl?.lget']) <;> rfl
                                     case hl => rfl
                                     (exfalso; omega))
                                · first
                                  | (exfalso; omega)
                                  | (refine W.exit (blk_same ?_)
                                     have hnx2 := hcl
                                     refine W.region ?_
                                     refine WO.p rfl rfl (WO.ar rfl rfl rfl (by (first | (unfold in64; omega) | (unfold in64; omega))) rfl (WO.p rfl rfl ?_))
                                     refine WO.nil ?_
                                     refine' ⟨b + 1, ?hp, ?hmu, ⟨rfl, rfl, rfl, rfl, rfl, rfl, rfl, trivial⟩, ?hS⟩
                                     case hS => repeat (first | exact Sub.nil | refine Sub.cons (by repeat (first | exact Pick.head | apply Pick.tail)) ?_)
                                     case hp => exact ⟨by omega, by omega, hnx2⟩
                                     case hmu => omega))
                           · first
                             | (exfalso; omega)
                             | (refine WO.no rfl rfl (WO.no rfl rfl (WO.p rfl rfl ?_))
                                refine WO.nil ?_
                                refine W.cond_f rfl ?_
                                refine W.exit (blk_same ?_)
                                have hnx2 := hcl
                                refine W.region ?_
                                refine WO.p rfl rfl (WO.ar rfl rfl rfl (by (first | (unfold in64; omega) | (unfold in64; omega))) rfl (WO.p rfl rfl ?_))
                                refine WO.nil ?_
                                refine' ⟨b + 1, ?hp, ?hmu, ⟨rfl, rfl, rfl, rfl, rfl, rfl, rfl, trivial⟩, ?hS⟩
                                case hS => repeat (first | exact Sub.nil | refine Sub.cons (by repeat (first | exact Pick.head | apply Pick.tail)) ?_)
                                case hp => exact ⟨by omega, by omega, hnx2⟩
                                case hmu => omega)))
                 · first
                   | (exfalso; omega)
                   | (refine W.exit (blk_same ?_)
                      obtain rfl : n = b := by omega
                      rw [show q2 n a + (n - (a + 1)) = q2 n (a + 1) from (q2_succ (by omega)).symm] at hbl ⊢
                      have hnx := hbl
                      refine W.region ?_
                      refine WO.ar rfl rfl rfl (by (first | (unfold in64; omega) | (unfold in64; omega))) rfl (WO.p rfl rfl ?_)
                      refine WO.nil ?_
                      refine' ⟨a + 1, ?hp, ?hmu, ⟨rfl, rfl, rfl, rfl, rfl, trivial⟩, ?hS⟩
                      case hS => repeat (first | exact Sub.nil | refine Sub.cons (by repeat (first | exact Pick.head | apply Pick.tail)) ?_)
                      case hp => exact ⟨by omega, hnx⟩
                      case hmu => omega))
            · first
              | (exfalso; omega)
              | (refine WO.no rfl rfl (WO.no rfl rfl (WO.p rfl rfl ?_))
                 refine WO.nil ?_
                 refine W.cond_f rfl ?_
                 refine W.exit (blk_same ?_)
                 obtain rfl : n = b := by omega
                 rw [show q2 n a + (n - (a + 1)) = q2 n (a + 1) from (q2_succ (by omega)).symm] at hbl ⊢
                 have hnx := hbl
                 refine W.region ?_
                 refine WO.ar rfl rfl rfl (by (first | (unfold in64; omega) | (unfold in64; omega))) rfl (WO.p rfl rfl ?_)
                 refine WO.nil ?_
                 refine' ⟨a + 1, ?hp, ?hmu, ⟨rfl, rfl, rfl, rfl, rfl, trivial⟩, ?hS⟩
                 case hS => repeat (first | exact Sub.nil | refine Sub.cons (by repeat (first | exact Pick.head | apply Pick.tail)) ?_)
                 case hp => exact ⟨by omega, hnx⟩
                 case hmu => omega)))
  · first
    | (exfalso; omega)
    | (refine W.exit (blk_same ?_)
       obtain rfl : n = a := by omega
       refine fin.normal (Res.none rfl) ?_
       rw [rims2_len, show min (q2 n n) (last + 1) = q2 n n by omega]
       repeat (first | exact Sub.nil | refine Sub.cons (by repeat (first | exact Pick.head | apply Pick.tail)) ?_))
theorem c_rims1_3 (B : Nat) (wr : World) (n : Nat) (hn : n ≤ 1000) (last : Nat) (l : Nat) (Hc : Nat → List HP) (hy : ∀ k x v, (rimsL 3 n [])[k]? = some x → k ≤ last → YieldB Try.prog B wr l #[v] (bl (k < last)) (OwE encI 3 1 v x :: Hc k) (Hc (k + 1))) (b1 b2 : Nat) (w : World) (M' : List Nat) (hB : B ≤ w.heap.size) (hk : ∀ k, k < B → w.heap[k]? = wr.heap[k]?) (hM : ∀ b ∈ M', B ≤ b)
    (hi : Inv w M' ([pt b2 (.cells #[.int .i64 3] 3 (0, 0)), pt b1 (.cells #[.int .i64 (n : Int)] 3 (0, 0))] ++ Hc 0) w) :
    Ct Try.prog 70 ([.func (.yield l) #[] #[], .pointer (some ⟨b1, 0, none⟩), .pointer (some ⟨b2, 0, none⟩)] : List Value).toArray w fun _ w' => Inv w M' ([pt b2 (.cells #[.int .i64 3] 3 (0, 0)), pt b1 (.cells #[.int .i64 (n : Int)] 3 (0, 0))] ++ Hc (min (rimsL 3 n []).length (last + 1))) w' := by
  refine Iter.of mixed tyTab hB hM Try.func70 rfl rfl hi ?_
  refine W.sreg ?_
  refine WO.load rfl rfl (Cell.own (Pick.tail (Pick.head)) rfl) rfl (WO.p rfl rfl ?_)
  refine WO.nil ?_
  refine W.block ?_
  rw [show Hc 0 = Hc (q3 n 0) by rw [show q3 n 0 = 0 from rfl]]
  refine W.loop (fun (a : Nat) => a ≤ n ∧ q3 n a ≤ last)
    (fun (a : Nat) => [(8, .int .i64 (a : Int)), (7, .int .i64 (n : Int)), (0, .func (.yield l) #[] #[]), (1, .pointer (some ⟨b1, 0, none⟩)), (2, .pointer (some ⟨b2, 0, none⟩))])
    (fun (a : Nat) => [pt b1 (.cells #[.int .i64 (n : Int)] 3 (0, 0)), pt b2 (.cells #[.int .i64 3] 3 (0, 0)), sat (Hc (q3 n a))])
    (fun (a : Nat) => n - a) 0
    (by exact ⟨by omega, by show q3 n 0 ≤ last; exact Nat.zero_le _⟩) ⟨rfl, rfl, rfl, rfl, rfl, trivial⟩ (by repeat (first | exact Sub.nil | refine Sub.cons (by repeat (first | exact Pick.head | apply Pick.tail)) ?_)) ?_
  rintro a ⟨ha, hal⟩
  refine W.sreg ?_
  refine WO.p rfl rfl ?_
  refine WO.nil ?_
  refine W.seq ?_
  refine W.cond_bl rfl (fun c1 => ?_) (fun c1 => ?_)
  · first
    | (exfalso; omega)
    | (refine W.skip ?_
       refine W.seq ?_
       refine W.block ?_
       refine W.sreg ?_
       refine WO.p rfl rfl (WO.p rfl rfl ?_)
       refine WO.nil ?_
       refine W.seq ?_
       refine W.sreg ?_
       refine WO.load rfl rfl (Cell.own (Pick.tail (Pick.head)) rfl) rfl (WO.p rfl rfl (WO.p rfl rfl ?_))
       refine WO.guard_bl rfl rfl (fun c2 => ?_) (fun c2 => ?_)
       · first
         | (exfalso; omega)
         | (refine WO.pg rfl rfl rfl (WO.pg rfl rfl rfl (WO.go' rfl ?_))
            refine' WO.buildSl (cs := _) rfl rfl rfl rfl ?hf rfl rfl ?hl rfl (fun v1 => ?_)
            case hf => (conv => lhs; simp [-List.getD_eq_getElem?_getD, fillL, vcl, wrl, TTab.pl?.lget']) <;> rfl
            case hl => rfl
            refine WO.go' rfl ?_
            (exfalso; omega))
       · first
         | (exfalso; omega)
         | (refine WO.no rfl rfl (WO.no rfl rfl (WO.no rfl rfl (WO.no rfl rfl (WO.no rfl rfl (WO.p rfl rfl ?_)))))
            refine WO.nil ?_
            refine W.cond_f rfl ?_
            refine W.skip ?_
            refine W.sreg ?_
            refine WO.p rfl rfl (WO.ar rfl rfl rfl (by (first | (unfold in64; omega) | (unfold in64; omega))) rfl (WO.p rfl rfl ?_))
            refine WO.nil ?_
            refine W.block ?_
            rw [show q3 n a = q3 n a + q4 n a (a + 1) by rw [q4_0]; rfl]
            refine W.loop (fun (b : Nat) => a + 1 ≤ b ∧ b ≤ n ∧ q3 n a + q4 n a b ≤ last)
              (fun (b : Nat) => [(8, .int .i64 (a : Int)), (7, .int .i64 (n : Int)), (4, .int .i64 (a : Int)), (5, .int .i64 (b : Int)), (0, .func (.yield l) #[] #[]), (1, .pointer (some ⟨b1, 0, none⟩)), (2, .pointer (some ⟨b2, 0, none⟩))])
              (fun (b : Nat) => [pt b1 (.cells #[.int .i64 (n : Int)] 3 (0, 0)), pt b2 (.cells #[.int .i64 3] 3 (0, 0)), sat (Hc (q3 n a + q4 n a b))])
              (fun (b : Nat) => n - b) (a + 1)
              (by exact ⟨by omega, by omega, by rw [q4_0]; exact hal⟩) ⟨rfl, rfl, rfl, rfl, rfl, rfl, rfl, trivial⟩ (by repeat (first | exact Sub.nil | refine Sub.cons (by repeat (first | exact Pick.head | apply Pick.tail)) ?_)) ?_
            rintro b ⟨hb1, hb2, hbl⟩
            refine W.seq ?_
            refine W.sreg ?_
            refine WO.p rfl rfl (WO.load rfl rfl (Cell.own Pick.head rfl) rfl (WO.p rfl rfl (WO.p rfl rfl ?_)))
            refine WO.guard_bl rfl rfl (fun c3 => ?_) (fun c3 => ?_)
            · first
              | (exfalso; omega)
              | (refine WO.go' rfl (WO.load rfl rfl (Cell.own (Pick.tail (Pick.head)) rfl) rfl (WO.pg rfl rfl rfl (WO.p rfl rfl ?_)))
                 refine WO.nil ?_
                 refine W.cond_bl rfl (fun c4 => ?_) (fun c4 => ?_)
                 · first
                   | (exfalso; omega)
                   | (refine W.skip ?_
                      refine W.seq ?_
                      refine W.block ?_
                      refine W.seq ?_
                      refine W.sreg ?_
                      refine WO.load rfl rfl (Cell.own (Pick.tail (Pick.head)) rfl) rfl (WO.p rfl rfl (WO.p rfl rfl ?_))
                      refine WO.guard_bl rfl rfl (fun c5 => ?_) (fun c5 => ?_)
                      · first
                        | (exfalso; omega)
                        | (refine WO.pg rfl rfl rfl (WO.pg rfl rfl rfl (WO.pg rfl rfl rfl (WO.go' rfl ?_)))
                           refine' WO.buildSl (cs := _) rfl rfl rfl rfl ?hf rfl rfl ?hl rfl (fun v2 => ?_)
                           case hf => (conv => lhs; simp [-List.getD_eq_getElem?_getD, fillL, vcl, wrl, TTab.pl?.lget']) <;> rfl
                           case hl => rfl
                           refine WO.go' rfl ?_
                           (exfalso; omega))
                      · first
                        | (exfalso; omega)
                        | (refine WO.no rfl rfl (WO.no rfl rfl (WO.no rfl rfl (WO.no rfl rfl (WO.no rfl rfl (WO.no rfl rfl (WO.p rfl rfl ?_))))))
                           refine WO.nil ?_
                           refine W.cond_f rfl ?_
                           refine W.skip ?_
                           refine W.sreg ?_
                           refine WO.p rfl rfl (WO.ar rfl rfl rfl (by (first | (unfold in64; omega) | (unfold in64; omega))) rfl (WO.p rfl rfl ?_))
                           refine WO.nil ?_
                           refine W.block ?_
                           rw [show q3 n a + q4 n a b = q3 n a + (q4 n a b + (b + 1 - (b + 1))) by omega]
                           refine W.loop (fun (c : Nat) => b + 1 ≤ c ∧ c ≤ n ∧ q3 n a + (q4 n a b + (c - (b + 1))) ≤ last)
                             (fun (c : Nat) => [(8, .int .i64 (a : Int)), (7, .int .i64 (n : Int)), (4, .int .i64 (a : Int)), (5, .int .i64 (b : Int)), (6, .int .i64 (c : Int)), (0, .func (.yield l) #[] #[]), (1, .pointer (some ⟨b1, 0, none⟩)), (2, .pointer (some ⟨b2, 0, none⟩))])
                             (fun (c : Nat) => [pt b1 (.cells #[.int .i64 (n : Int)] 3 (0, 0)), pt b2 (.cells #[.int .i64 3] 3 (0, 0)), sat (Hc (q3 n a + (q4 n a b + (c - (b + 1)))))])
                             (fun (c : Nat) => n - c) (b + 1)
                             (by exact ⟨by omega, by omega, by omega⟩) ⟨rfl, rfl, rfl, rfl, rfl, rfl, rfl, rfl, trivial⟩ (by repeat (first | exact Sub.nil | refine Sub.cons (by repeat (first | exact Pick.head | apply Pick.tail)) ?_)) ?_
                           rintro c ⟨hc1, hc2, hcl⟩
                           refine W.seq ?_
                           refine W.sreg ?_
                           refine WO.p rfl rfl (WO.load rfl rfl (Cell.own Pick.head rfl) rfl (WO.p rfl rfl (WO.p rfl rfl ?_)))
                           refine WO.guard_bl rfl rfl (fun c6 => ?_) (fun c6 => ?_)
                           · first
                             | (exfalso; omega)
                             | (refine WO.go' rfl (WO.load rfl rfl (Cell.own (Pick.tail (Pick.head)) rfl) rfl (WO.pg rfl rfl rfl (WO.p rfl rfl ?_)))
                                refine WO.nil ?_
                                refine W.cond_bl rfl (fun c7 => ?_) (fun c7 => ?_)
                                · first
                                  | (exfalso; omega)
                                  | (refine W.skip ?_
                                     refine W.seq ?_
                                     refine W.block ?_
                                     refine W.sreg ?_
                                     refine WO.p rfl rfl (WO.p rfl rfl (WO.p rfl rfl (WO.p rfl rfl ?_)))
                                     refine' WO.buildSl (cs := _) rfl rfl rfl rfl ?hf rfl rfl ?hl rfl (fun v3 => ?_)
                                     case hf => (conv => lhs; simp [-List.getD_eq_getElem?_getD, fillL, vcl, wrl, TTab.pl?.lget']) <;> rfl
                                     case hl => rfl
                                     refine WO.yieldB (go := bl (q3 n a + (q4 n a b + (c - (b + 1))) < last)) rfl rfl (by repeat (first | exact Pick.head | apply Pick.tail)) (by repeat (first | exact Pick.head | apply Pick.tail)) (((hy _ _ _ (q3_get (by omega) (by omega) (by omega) (by omega) (by omega)) (by omega)).one).agree hk) rfl ?_
                                     have hget := (List.getElem?_eq_some_iff.1 (q3_get (by omega) (by omega) (by omega) (by omega) (by omega) : (rimsL 3 n [])[q3 n a + (q4 n a b + (c - (b + 1)))]? = some _)).1
                                     refine WO.p rfl rfl ?_
                                     refine WO.nil ?_
                                     refine W.cond_nbl rfl (fun c8 => ?_) (fun c8 => ?_)
                                     · first
                                       | (exfalso; omega)
                                       | (refine W.ret ?_
                                          refine fin.ret (Res.none rfl) ?_
                                          rw [show min (rimsL 3 n []).length (last + 1) = q3 n a + (q4 n a b + (c - (b + 1))) + 1 by omega]
                                          repeat (first | exact Sub.nil | refine Sub.cons (by repeat (first | exact Pick.head | apply Pick.tail)) ?_))
                                     · first
                                       | (exfalso; omega)
                                       | (refine W.skip ?_
                                          have e3 : q3 n a + (q4 n a b + (c - (b + 1))) + 1 = q3 n a + (q4 n a b + (c + 1 - (b + 1))) := by omega
                                          rw [e3]
                                          have hnx3 : q3 n a + (q4 n a b + (c + 1 - (b + 1))) ≤ last := by omega
                                          refine W.region ?_
                                          refine WO.p rfl rfl (WO.ar rfl rfl rfl (by (first | (unfold in64; omega) | (unfold in64; omega))) rfl (WO.p rfl rfl ?_))
                                          refine WO.nil ?_
                                          refine' ⟨c + 1, ?hp, ?hmu, ⟨rfl, rfl, rfl, rfl, rfl, rfl, rfl, rfl, trivial⟩, ?hS⟩
                                          case hS => repeat (first | exact Sub.nil | refine Sub.cons (by repeat (first | exact Pick.head | apply Pick.tail)) ?_)
                                          case hp => exact ⟨by omega, by omega, hnx3⟩
                                          case hmu => omega))
                                · first
                                  | (exfalso; omega)
                                  | (refine W.exit (blk_same ?_)
                                     obtain rfl : n = c := by omega
                                     rw [← q4_succ (by omega) (by omega)] at hcl ⊢
                                     have hnx2 := hcl
                                     refine W.region ?_
                                     refine WO.p rfl rfl (WO.ar rfl rfl rfl (by (first | (unfold in64; omega) | (unfold in64; omega))) rfl (WO.p rfl rfl ?_))
                                     refine WO.nil ?_
                                     refine' ⟨b + 1, ?hp, ?hmu, ⟨rfl, rfl, rfl, rfl, rfl, rfl, rfl, trivial⟩, ?hS⟩
                                     case hS => repeat (first | exact Sub.nil | refine Sub.cons (by repeat (first | exact Pick.head | apply Pick.tail)) ?_)
                                     case hp => exact ⟨by omega, by omega, hnx2⟩
                                     case hmu => omega))
                           · first
                             | (exfalso; omega)
                             | (refine WO.no rfl rfl (WO.no rfl rfl (WO.p rfl rfl ?_))
                                refine WO.nil ?_
                                refine W.cond_f rfl ?_
                                refine W.exit (blk_same ?_)
                                obtain rfl : n = c := by omega
                                rw [← q4_succ (by omega) (by omega)] at hcl ⊢
                                have hnx2 := hcl
                                refine W.region ?_
                                refine WO.p rfl rfl (WO.ar rfl rfl rfl (by (first | (unfold in64; omega) | (unfold in64; omega))) rfl (WO.p rfl rfl ?_))
                                refine WO.nil ?_
                                refine' ⟨b + 1, ?hp, ?hmu, ⟨rfl, rfl, rfl, rfl, rfl, rfl, rfl, trivial⟩, ?hS⟩
                                case hS => repeat (first | exact Sub.nil | refine Sub.cons (by repeat (first | exact Pick.head | apply Pick.tail)) ?_)
                                case hp => exact ⟨by omega, by omega, hnx2⟩
                                case hmu => omega)))
                 · first
                   | (exfalso; omega)
                   | (refine W.exit (blk_same ?_)
                      obtain rfl : n = b := by omega
                      rw [← q3_succ] at hbl ⊢
                      have hnx := hbl
                      refine W.region ?_
                      refine WO.ar rfl rfl rfl (by (first | (unfold in64; omega) | (unfold in64; omega))) rfl (WO.p rfl rfl ?_)
                      refine WO.nil ?_
                      refine' ⟨a + 1, ?hp, ?hmu, ⟨rfl, rfl, rfl, rfl, rfl, trivial⟩, ?hS⟩
                      case hS => repeat (first | exact Sub.nil | refine Sub.cons (by repeat (first | exact Pick.head | apply Pick.tail)) ?_)
                      case hp => exact ⟨by omega, hnx⟩
                      case hmu => omega))
            · first
              | (exfalso; omega)
              | (refine WO.no rfl rfl (WO.no rfl rfl (WO.p rfl rfl ?_))
                 refine WO.nil ?_
                 refine W.cond_f rfl ?_
                 refine W.exit (blk_same ?_)
                 obtain rfl : n = b := by omega
                 rw [← q3_succ] at hbl ⊢
                 have hnx := hbl
                 refine W.region ?_
                 refine WO.ar rfl rfl rfl (by (first | (unfold in64; omega) | (unfold in64; omega))) rfl (WO.p rfl rfl ?_)
                 refine WO.nil ?_
                 refine' ⟨a + 1, ?hp, ?hmu, ⟨rfl, rfl, rfl, rfl, rfl, trivial⟩, ?hS⟩
                 case hS => repeat (first | exact Sub.nil | refine Sub.cons (by repeat (first | exact Pick.head | apply Pick.tail)) ?_)
                 case hp => exact ⟨by omega, hnx⟩
                 case hmu => omega)))
  · first
    | (exfalso; omega)
    | (refine W.exit (blk_same ?_)
       obtain rfl : n = a := by omega
       refine fin.normal (Res.none rfl) ?_
       rw [rims3_len, show min (q3 n n) (last + 1) = q3 n n by omega]
       repeat (first | exact Sub.nil | refine Sub.cons (by repeat (first | exact Pick.head | apply Pick.tail)) ?_))
end Go.Proofs.Ytkhplcncfogolaa
namespace Go.Proofs.Ytkhplcncfogolaa
open Go Go.TH
attribute [local irreducible] W WO pt
set_option maxRecDepth 10000
set_option maxHeartbeats 1000000
def encG (x : Cir × Option Addr × Nat × Nat) : List Value := [.int .i64 x.1.x, .int .i64 x.1.y, .int .i64 x.1.den, .int .i64 x.1.n, .int .i64 x.1.d, .slice x.2.1 x.2.2.1 x.2.2.2]
theorem encG_ok : EncOk encG 6 := ⟨fun _ => rfl, fun x u hu => by simp [encG] at hu; rcases hu with rfl | rfl | rfl | rfl | rfl | rfl <;> rfl, by omega⟩
/-- the circle through a part, if there is one -/
def arL (l : Pts) : List Int → List Cir
  | [a] => [aloneC (l.at a.toNat)]
  | [a, b] => [betwC (l.at a.toNat) (l.at b.toNat)]
  | [a, b, c] => if cross (l.at a.toNat) (l.at b.toNat) (l.at c.toNat) = 0 then [] else [thrC (l.at a.toNat) (l.at b.toNat) (l.at c.toNat)]
  | _ => []
def goodL (l : Pts) (rim : List Int) : List Cir := (arL l rim).filter fun c => decide (holdL c l)
def goodTo (l : Pts) (k : Nat) : List Cir := (List.range k).flatMap fun m => (rimsL (m + 1) l.length []).flatMap (goodL l)
theorem goodTo_succ (l : Pts) (k : Nat) : goodTo l (k + 1) = goodTo l k ++ (rimsL (k + 1) l.length []).flatMap (goodL l) := by
  unfold goodTo; rw [List.range_succ, List.flatMap_append]; simp
/-- a rim -/
structure Rm (n : Nat) (rim : List Int) : Prop where
  len : 1 ≤ rim.length ∧ rim.length ≤ 3
  rng : ∀ x ∈ rim, 0 ≤ x ∧ x < n
theorem mem_rims1 {n : Nat} {r : List Int} (h : r ∈ rimsL 1 n []) : ∃ a : Nat, a < n ∧ r = [(a : Int)] := by
  rw [rimsT1] at h
  obtain ⟨a, h1, h2, h3⟩ := mem_seg.1 h
  exact ⟨a, h2, by simpa using h3⟩
theorem mem_rims2 {n : Nat} {r : List Int} : r ∈ rimsL 2 n [] ↔ ∃ a b : Nat, a < b ∧ b < n ∧ r = [(a : Int), (b : Int)] := by
  rw [rimsT2]
  constructor
  · intro h
    obtain ⟨a, h1, h2, h3⟩ := mem_seg.1 h
    rw [rims1_a] at h3
    obtain ⟨b, h4, h5, h6⟩ := mem_seg.1 h3
    exact ⟨a, b, by omega, h5, by simpa using h6⟩
  · rintro ⟨a, b, h1, h2, rfl⟩
    exact mem_seg.2 ⟨a, by omega, by omega, by rw [rims1_a]; exact mem_seg.2 ⟨b, by omega, h2, by simp⟩⟩
theorem mem_rims3 {n : Nat} {r : List Int} : r ∈ rimsL 3 n [] ↔ ∃ a b c : Nat, a < b ∧ b < c ∧ c < n ∧ r = [(a : Int), (b : Int), (c : Int)] := by
  rw [rimsT3]
  constructor
  · intro h
    obtain ⟨a, h1, h2, h3⟩ := mem_seg.1 h
    rw [rims2_a] at h3
    obtain ⟨b, h4, h5, h6⟩ := mem_seg.1 h3
    rw [rims1_ab] at h6
    obtain ⟨c, h7, h8, h9⟩ := mem_seg.1 h6
    exact ⟨a, b, c, by omega, by omega, h8, by simpa using h9⟩
  · rintro ⟨a, b, c, h1, h2, h3, rfl⟩
    exact mem_seg.2 ⟨a, by omega, by omega, by rw [rims2_a]; exact mem_seg.2 ⟨b, by omega, by omega, by rw [rims1_ab]; exact mem_seg.2 ⟨c, by omega, h3, by simp⟩⟩⟩
theorem rims_rm {n m : Nat} (hm : m < 3) {r : List Int} (h : r ∈ rimsL (m + 1) n []) : Rm n r ∧ r.length = m + 1 := by
  match m, hm, h with
  | 0, _, h => obtain ⟨a, h1, rfl⟩ := mem_rims1 h; exact ⟨⟨by simp, by simp; omega⟩, rfl⟩
  | 1, _, h => obtain ⟨a, b, h1, h2, rfl⟩ := mem_rims2.1 h; exact ⟨⟨by simp, by simp; omega⟩, rfl⟩
  | 2, _, h => obtain ⟨a, b, c, h1, h2, h3, rfl⟩ := mem_rims3.1 h; exact ⟨⟨by simp, by simp; omega⟩, rfl⟩
/-- what around answers -/
def AroR (l : Pts) (rim : List Int) (r : Value) : Prop := ∃ (c' : Cir) (x : Option Addr) (n k : Nat), r = .tuple #[ringV c' (.slice x n k), .bool (bl (arL l rim ≠ []))] ∧ (arL l rim ≠ [] → arL l rim = [c'])
theorem at_okZ {l : Pts} {a : Int} (hl : OkL l) (h : 0 ≤ a ∧ a < l.length) : OkP (l.at a.toNat) := at_ok hl (by omega)
theorem arL_ok {l : Pts} {rim : List Int} (hl : OkL l) (hr : ∀ x ∈ rim, 0 ≤ x ∧ x < l.length) : ∀ c ∈ arL l rim, OkC c := by
  intro c hc
  match rim, hr, hc with
  | [], _, hc => simp [arL] at hc
  | [a], hr, hc =>
    have ha := at_okZ hl (hr a (by simp))
    have : c = aloneC (l.at a.toNat) := by simpa [arL] using hc
    subst this; exact ⟨mkR_can _ (by omega), aloneC_ok ha⟩
  | [a, b], hr, hc =>
    have ha := at_okZ hl (hr a (by simp))
    have hb := at_okZ hl (hr b (by simp))
    have : c = betwC (l.at a.toNat) (l.at b.toNat) := by simpa [arL] using hc
    subst this; exact ⟨mkR_can _ (by omega), betwC_ok ha hb⟩
  | [a, b, d], hr, hc =>
    have ha := at_okZ hl (hr a (by simp))
    have hb := at_okZ hl (hr b (by simp))
    have hd := at_okZ hl (hr d (by simp))
    replace hc : c ∈ (if cross (l.at a.toNat) (l.at b.toNat) (l.at d.toNat) = 0 then [] else [thrC (l.at a.toNat) (l.at b.toNat) (l.at d.toNat)]) := hc
    split at hc
    · simp at hc
    · rename_i hx
      have : c = thrC (l.at a.toNat) (l.at b.toNat) (l.at d.toNat) := by simpa using hc
      subst this; exact ⟨mkR_can _ (by omega), thrC_ok ha hb hd hx⟩
  | _ :: _ :: _ :: _ :: _, _, hc => simp [arL] at hc
theorem goodL_ok {l : Pts} {rim : List Int} (hl : OkL l) (hr : ∀ x ∈ rim, 0 ≤ x ∧ x < l.length) : ∀ c ∈ goodL l rim, OkC c := fun c hc => arL_ok hl hr c (List.mem_filter.1 hc).1
theorem goodTo_ok {l : Pts} {k : Nat} (hl : OkL l) (hk : k ≤ 3) : ∀ c ∈ goodTo l k, OkC c := fun c hc => by
  unfold goodTo at hc
  obtain ⟨m, hm, h2⟩ := List.mem_flatMap.1 hc
  obtain ⟨r, hr, h3⟩ := List.mem_flatMap.1 h2
  exact goodL_ok hl (rims_rm (by have := List.mem_range.1 hm; omega) hr).1.rng c h3
theorem goodTo_hold {l : Pts} {k : Nat} : ∀ c ∈ goodTo l k, holdL c l := fun c hc => by
  unfold goodTo at hc
  obtain ⟨m, hm, h2⟩ := List.mem_flatMap.1 hc
  obtain ⟨r, hr, h3⟩ := List.mem_flatMap.1 h2
  simpa using (List.mem_filter.1 h3).2
theorem good_of {l : Pts} {m : Nat} {r : List Int} {c : Cir} {k : Nat} (hm : m < k) (hr : r ∈ rimsL (m + 1) l.length []) (hc : c ∈ arL l r) (hh : holdL c l) : c ∈ goodTo l k := by
  unfold goodTo
  exact List.mem_flatMap.2 ⟨m, List.mem_range.2 hm, List.mem_flatMap.2 ⟨r, hr, List.mem_filter.2 ⟨hc, by simpa using hh⟩⟩⟩
/-- what proves the smallest circle is among them -/
theorem good_sm {l : Pts} (hl : OkL l) (h0 : l ≠ []) (h3 : l.length ≤ 3) : ∃ c ∈ goodTo l l.length, Sm l [] c := by
  obtain ⟨c, hc, hs⟩ := sm_cand hl h0
  refine ⟨c, ?_, hs⟩
  obtain ⟨i, hi, rfl | ⟨k, hk, rfl | ⟨m, hm, hx, rfl⟩⟩⟩ := mem_candI.1 hc
  · refine good_of (m := 0) (r := [(i : Int)]) (by omega) ?_ (by simp [arL]) hs.hold
    rw [rimsT1]; exact mem_seg.2 ⟨i, by omega, hi, by simp⟩
  · exact good_of (m := 1) (r := [(k : Int), (i : Int)]) (by omega) (mem_rims2.2 ⟨k, i, hk, hi, rfl⟩) (by simp only [arL, Int.toNat_natCast, List.mem_singleton]; exact betwC_comm) hs.hold
  · refine good_of (m := 2) (r := [(m : Int), (k : Int), (i : Int)]) (by omega) (mem_rims3.2 ⟨m, k, i, hm, hk, hi, rfl⟩) ?_ hs.hold
    have hx' : cross (l.at m) (l.at k) (l.at i) ≠ 0 := by rw [(cross_perm (l.at i) (l.at k) (l.at m)).2.2.2.2]; omega
    simp only [arL, Int.toNat_natCast, if_neg hx', List.mem_singleton]
    exact thrC_perm hx hx' (by simp)
theorem len1 {r : List Int} (h : r.length = 1) : r = [r.getD 0 0] := by
  match r, h with
  | [a], _ => rfl
theorem len2 {r : List Int} (h : r.length = 2) : r = [r.getD 0 0, r.getD 1 0] := by
  match r, h with
  | [a, b], _ => rfl
theorem len3 {r : List Int} (h : r.length = 3) : r = [r.getD 0 0, r.getD 1 0, r.getD 2 0] := by
  match r, h with
  | [a, b, c], _ => rfl
theorem aro_1 {l : Pts} {r : List Int} {x : Option Addr} {n k : Nat} (h : r.length = 1) : AroR l r (.tuple #[ringV (aloneC (l.at (r.getD 0 0).toNat)) (.slice x n k), .bool true]) := by
  have e : arL l r = [aloneC (l.at (r.getD 0 0).toNat)] := by rw [len1 h]; rfl
  exact ⟨_, _, _, _, by rw [bl_t.2 (by rw [e]; simp)], fun _ => e⟩
theorem aro_2 {l : Pts} {r : List Int} {x : Option Addr} {n k : Nat} (h : r.length = 2) : AroR l r (.tuple #[ringV (betwC (l.at (r.getD 0 0).toNat) (l.at (r.getD 1 0).toNat)) (.slice x n k), .bool true]) := by
  have e : arL l r = [betwC (l.at (r.getD 0 0).toNat) (l.at (r.getD 1 0).toNat)] := by rw [len2 h]; rfl
  exact ⟨_, _, _, _, by rw [bl_t.2 (by rw [e]; simp)], fun _ => e⟩
theorem aro_3 {l : Pts} {r : List Int} {c' : Cir} {x : Option Addr} {n k : Nat} (h : r.length = 3) (hc : cross (l.at (r.getD 0 0).toNat) (l.at (r.getD 1 0).toNat) (l.at (r.getD 2 0).toNat) ≠ 0 → c' = thrC (l.at (r.getD 0 0).toNat) (l.at (r.getD 1 0).toNat) (l.at (r.getD 2 0).toNat)) :
    AroR l r (.tuple #[ringV c' (.slice x n k), .bool (bl (cross (l.at (r.getD 0 0).toNat) (l.at (r.getD 1 0).toNat) (l.at (r.getD 2 0).toNat) ≠ 0))]) := by
  have e : arL l r = if cross (l.at (r.getD 0 0).toNat) (l.at (r.getD 1 0).toNat) (l.at (r.getD 2 0).toNat) = 0 then [] else [thrC (l.at (r.getD 0 0).toNat) (l.at (r.getD 1 0).toNat) (l.at (r.getD 2 0).toNat)] := by
    conv => lhs; rw [len3 h]
    rfl
  rcases Decidable.em (cross (l.at (r.getD 0 0).toNat) (l.at (r.getD 1 0).toNat) (l.at (r.getD 2 0).toNat) = 0) with h0 | h0
  · rw [if_pos h0] at e
    exact ⟨_, _, _, _, by rw [bl_f.2 (fun g => g h0), bl_f.2 (fun g => g e)], fun g => absurd e g⟩
  · rw [if_neg h0] at e
    exact ⟨_, _, _, _, by rw [bl_t.2 h0, bl_t.2 (by rw [e]; simp)], fun _ => by rw [e, hc h0]⟩
theorem c_around (w : World) (v o : Value) (l : Pts) (rim : List Int) (hR : RdF encP 2 w.heap.size w v l) (hI : RdF encI 1 w.heap.size w o rim) (hl : OkL l) (hr : Rm l.length rim) :
    RetE Try.prog 71 [v, o].toArray w (AroR l rim) := by
  refine RetE.of mixed tyTab Try.func71 rfl rfl ?_
  replace hR : RdF encP 2 (fnCx mixed tyTab Try.f71.ntmps w).B (fnCx mixed tyTab Try.f71.ntmps w).w0 v l := hR
  replace hI : RdF encI 1 (fnCx mixed tyTab Try.f71.ntmps w).B (fnCx mixed tyTab Try.f71.ntmps w).w0 o rim := hI
  have hle := hR.sl.le
  have hle2 := hI.sl.le
  have hln := hr.len
  have r0 : 0 ≤ rim.getD 0 0 ∧ rim.getD 0 0 < l.length := hr.rng _ (getD_mem (by omega) 0)
  have r1 : 2 ≤ rim.length → 0 ≤ rim.getD 1 0 ∧ rim.getD 1 0 < l.length := fun h => hr.rng _ (getD_mem (by omega) 0)
  have r2 : 3 ≤ rim.length → 0 ≤ rim.getD 2 0 ∧ rim.getD 2 0 < l.length := fun h => hr.rng _ (getD_mem (by omega) 0)
  refine W.sreg ?_
  refine WO.alloc rfl rfl rfl (fun b1 hb1 => ?_)
  refine WO.p rfl rfl ?_
  refine WO.nil ?_
  refine W.seq ?_
  refine W.sreg ?_
  refine WO.p rfl rfl ?_
  refine' WO.len (n := _) rfl rfl ?hs rfl ?_
  case hs => (first | exact hI.sl)
  refine WO.nil ?_
  refine W.block ?_
  refine W.sreg ?_
  refine WO.p rfl rfl (WO.p rfl rfl ?_)
  refine WO.nil ?_
  refine W.cond_bl rfl (fun c1 => ?_) (fun c1 => ?_)
  · first
    | (exfalso; omega)
    | (refine W.sreg ?_
       refine WO.p rfl rfl (WO.p rfl rfl ?_)
       refine' WO.indexAddr (n := _) (i := 0) rfl rfl rfl ?hs ?h1 rfl ?_
       case hs => (first | exact hI.sl)
       case h1 => (first | omega | (simp; omega))
       refine' WO.load (v := _) rfl rfl ?hc rfl ?_
       case hc => (first | (refine hI.cell0 (i := 0) ?_ 0 ?_ <;> first | rfl | omega))
       refine' WO.indexAddrZ (n := _) rfl rfl rfl ?hs ?h00 ?h1 rfl ?_
       case hs => (first | exact hR.sl)
       case h00 => omega
       case h1 => (first | omega | (simp; omega))
       refine' WO.loadA (vs := _) rfl rfl ?hc ?hl rfl ?_
       case hc => (first | exact RdF.cells2 hR (i := (rim.getD 0 0).toNat) (by omega))
       case hl => rfl
       refine WO.callE rfl Try.call65 (fun L w hi => c_alone w (l.at (rim.getD 0 0).toNat) (at_okZ hl r0)) rfl ?_
       rintro _ ⟨a, n, k, rfl⟩
       refine WO.storeA rfl rfl rfl rfl Pick.head rfl rfl (WO.p rfl rfl ?_)
       refine WO.nil ?_
       refine W.ret ?_
       refine fin.ret (Res.two rfl (RV.cell rfl rfl rfl (Cells.own (by repeat (first | exact Pick.head | apply Pick.tail)))) (RV.tmp rfl)) ?_
       first | exact aro_1 (by omega) | exact aro_2 (by omega) | exact aro_3 (by omega) hcx)
  · first
    | (exfalso; omega)
    | (refine W.sreg ?_
       refine WO.p rfl rfl (WO.p rfl rfl ?_)
       refine WO.nil ?_
       refine W.cond_bl rfl (fun c2 => ?_) (fun c2 => ?_)
       · first
         | (exfalso; omega)
         | (refine W.seq ?_
            have r1' := r1 (by omega)
            refine W.drawD 12 [.r 0 [], .r 1 [], .r 2 [], .b 3 [], .r 4 [], .b 5 [], .r 6 [], .r 7 [], .r 8 [], .b 9 [], .r 10 [], .b 11 []] [] (A0 := [_]) (H0 := []) (.cons .head .nil) (by kernel_rfl) ?_ ?_
            · exact (ALok.r (ALok.r (ALok.r (ALok.b (ALok.r (ALok.b (ALok.r (ALok.r (ALok.r (ALok.b (ALok.r (ALok.b ALok.nil))))))))))))
            refine' DT.r rfl rfl rfl ?hq ?_
            case hq =>
              refine WO.p rfl rfl ?_
              exact WO.nil ⟨rfl, rfl⟩
            refine' DT.r rfl rfl rfl ?hq ?_
            case hq =>
              refine WO.p rfl rfl ?_
              exact WO.nil ⟨rfl, rfl⟩
            refine' DT.r rfl rfl rfl ?hq ?_
            case hq =>
              refine' WO.indexAddr (n := _) (i := 0) rfl rfl rfl ?hs ?h1 rfl ?_
              case hs => (first | exact hI.sl)
              case h1 => (first | omega | (simp; omega))
              exact WO.nil ⟨rfl, rfl⟩
            refine' DT.b rfl rfl rfl ?hq ?_
            case hq =>
              refine' WO.load (v := _) rfl rfl ?hc rfl ?_
              case hc => (first | (refine hI.cell0 (i := 0) ?_ 0 ?_ <;> first | rfl | omega))
              exact WO.nil ⟨rfl, rfl⟩
            refine' DT.r rfl rfl rfl ?hq ?_
            case hq =>
              refine' WO.indexAddrZ (n := _) rfl rfl rfl ?hs ?h00 ?h1 rfl ?_
              case hs => (first | exact hR.sl)
              case h00 => omega
              case h1 => (first | omega | (simp; omega))
              exact WO.nil ⟨rfl, rfl⟩
            refine' DT.b rfl rfl rfl ?hq ?_
            case hq =>
              refine' WO.loadA (vs := _) rfl rfl ?hc ?hl rfl ?_
              case hc => (first | exact RdF.cells2 hR (i := (rim.getD 0 0).toNat) (by omega))
              case hl => rfl
              exact WO.nil ⟨rfl, rfl⟩
            refine' DT.r rfl rfl rfl ?hq ?_
            case hq =>
              refine WO.p rfl rfl ?_
              exact WO.nil ⟨rfl, rfl⟩
            refine' DT.r rfl rfl rfl ?hq ?_
            case hq =>
              refine WO.p rfl rfl ?_
              exact WO.nil ⟨rfl, rfl⟩
            refine' DT.r rfl rfl rfl ?hq ?_
            case hq =>
              refine' WO.indexAddr (n := _) (i := 1) rfl rfl rfl ?hs ?h1 rfl ?_
              case hs => (first | exact hI.sl)
              case h1 => (first | omega | (simp; omega))
              exact WO.nil ⟨rfl, rfl⟩
            refine' DT.b rfl rfl rfl ?hq ?_
            case hq =>
              refine' WO.load (v := _) rfl rfl ?hc rfl ?_
              case hc => (first | (refine hI.cell0 (i := 1) ?_ 0 ?_ <;> first | rfl | omega))
              exact WO.nil ⟨rfl, rfl⟩
            refine' DT.r rfl rfl rfl ?hq ?_
            case hq =>
              refine' WO.indexAddrZ (n := _) rfl rfl rfl ?hs ?h00 ?h1 rfl ?_
              case hs => (first | exact hR.sl)
              case h00 => omega
              case h1 => (first | omega | (simp; omega))
              exact WO.nil ⟨rfl, rfl⟩
            refine' DT.b rfl rfl rfl ?hq ?_
            case hq =>
              refine' WO.loadA (vs := _) rfl rfl ?hc ?hl rfl ?_
              case hc => (first | exact RdF.cells2 hR (i := (rim.getD 1 0).toNat) (by omega))
              case hl => rfl
              exact WO.nil ⟨rfl, rfl⟩
            refine DT.nil [_] rfl ?_
            refine WO.callE rfl Try.call81 (fun L w hi => c_between w (l.at (rim.getD 0 0).toNat) (l.at (rim.getD 1 0).toNat) (at_okZ hl r0) (at_okZ hl r1')) rfl ?_
            rintro _ ⟨a, n, k, rfl⟩
            refine WO.storeA rfl rfl rfl rfl Pick.head rfl rfl (WO.p rfl rfl ?_)
            refine WO.nil ?_
            refine W.ret ?_
            refine fin.ret (Res.two rfl (RV.cell rfl rfl rfl (Cells.own (by repeat (first | exact Pick.head | apply Pick.tail)))) (RV.tmp rfl)) ?_
            first | exact aro_1 (by omega) | exact aro_2 (by omega) | exact aro_3 (by omega) hcx)
       · first
         | (exfalso; omega)
         | (refine W.skip ?_
            refine W.seq ?_
            have r1' := r1 (by omega)
            have r2' := r2 (by omega)
            refine W.drawD 21 [.r 0 [], .r 1 [], .r 2 [], .b 3 [], .r 4 [], .b 5 [], .r 6 [], .r 7 [], .r 8 [], .b 9 [], .r 10 [], .b 11 [], .r 12 [], .r 13 [], .r 14 [], .b 15 [], .r 16 [], .b 17 [], .c 18 [], .r 19 [], .r 20 []] [] (A0 := [_]) (H0 := []) (.cons .head .nil) (by kernel_rfl) ?_ ?_
            · exact (ALok.r (ALok.r (ALok.r (ALok.b (ALok.r (ALok.b (ALok.r (ALok.r (ALok.r (ALok.b (ALok.r (ALok.b (ALok.r (ALok.r (ALok.r (ALok.b (ALok.r (ALok.b (ALok.c (ALok.r (ALok.r ALok.nil)))))))))))))))))))))
            refine' DT.r rfl rfl rfl ?hq ?_
            case hq =>
              refine WO.p rfl rfl ?_
              exact WO.nil ⟨rfl, rfl⟩
            refine' DT.r rfl rfl rfl ?hq ?_
            case hq =>
              refine WO.p rfl rfl ?_
              exact WO.nil ⟨rfl, rfl⟩
            refine' DT.r rfl rfl rfl ?hq ?_
            case hq =>
              refine' WO.indexAddr (n := _) (i := 0) rfl rfl rfl ?hs ?h1 rfl ?_
              case hs => (first | exact hI.sl)
              case h1 => (first | omega | (simp; omega))
              exact WO.nil ⟨rfl, rfl⟩
            refine' DT.b rfl rfl rfl ?hq ?_
            case hq =>
              refine' WO.load (v := _) rfl rfl ?hc rfl ?_
              case hc => (first | (refine hI.cell0 (i := 0) ?_ 0 ?_ <;> first | rfl | omega))
              exact WO.nil ⟨rfl, rfl⟩
            refine' DT.r rfl rfl rfl ?hq ?_
            case hq =>
              refine' WO.indexAddrZ (n := _) rfl rfl rfl ?hs ?h00 ?h1 rfl ?_
              case hs => (first | exact hR.sl)
              case h00 => omega
              case h1 => (first | omega | (simp; omega))
              exact WO.nil ⟨rfl, rfl⟩
            refine' DT.b rfl rfl rfl ?hq ?_
            case hq =>
              refine' WO.loadA (vs := _) rfl rfl ?hc ?hl rfl ?_
              case hc => (first | exact RdF.cells2 hR (i := (rim.getD 0 0).toNat) (by omega))
              case hl => rfl
              exact WO.nil ⟨rfl, rfl⟩
            refine' DT.r rfl rfl rfl ?hq ?_
            case hq =>
              refine WO.p rfl rfl ?_
              exact WO.nil ⟨rfl, rfl⟩
            refine' DT.r rfl rfl rfl ?hq ?_
            case hq =>
              refine WO.p rfl rfl ?_
              exact WO.nil ⟨rfl, rfl⟩
            refine' DT.r rfl rfl rfl ?hq ?_
            case hq =>
              refine' WO.indexAddr (n := _) (i := 1) rfl rfl rfl ?hs ?h1 rfl ?_
              case hs => (first | exact hI.sl)
              case h1 => (first | omega | (simp; omega))
              exact WO.nil ⟨rfl, rfl⟩
            refine' DT.b rfl rfl rfl ?hq ?_
            case hq =>
              refine' WO.load (v := _) rfl rfl ?hc rfl ?_
              case hc => (first | (refine hI.cell0 (i := 1) ?_ 0 ?_ <;> first | rfl | omega))
              exact WO.nil ⟨rfl, rfl⟩
            refine' DT.r rfl rfl rfl ?hq ?_
            case hq =>
              refine' WO.indexAddrZ (n := _) rfl rfl rfl ?hs ?h00 ?h1 rfl ?_
              case hs => (first | exact hR.sl)
              case h00 => omega
              case h1 => (first | omega | (simp; omega))
              exact WO.nil ⟨rfl, rfl⟩
            refine' DT.b rfl rfl rfl ?hq ?_
            case hq =>
              refine' WO.loadA (vs := _) rfl rfl ?hc ?hl rfl ?_
              case hc => (first | exact RdF.cells2 hR (i := (rim.getD 1 0).toNat) (by omega))
              case hl => rfl
              exact WO.nil ⟨rfl, rfl⟩
            refine' DT.r rfl rfl rfl ?hq ?_
            case hq =>
              refine WO.p rfl rfl ?_
              exact WO.nil ⟨rfl, rfl⟩
            refine' DT.r rfl rfl rfl ?hq ?_
            case hq =>
              refine WO.p rfl rfl ?_
              exact WO.nil ⟨rfl, rfl⟩
            refine' DT.r rfl rfl rfl ?hq ?_
            case hq =>
              refine' WO.indexAddr (n := _) (i := 2) rfl rfl rfl ?hs ?h1 rfl ?_
              case hs => (first | exact hI.sl)
              case h1 => (first | omega | (simp; omega))
              exact WO.nil ⟨rfl, rfl⟩
            refine' DT.b rfl rfl rfl ?hq ?_
            case hq =>
              refine' WO.load (v := _) rfl rfl ?hc rfl ?_
              case hc => (first | (refine hI.cell0 (i := 2) ?_ 0 ?_ <;> first | rfl | omega))
              exact WO.nil ⟨rfl, rfl⟩
            refine' DT.r rfl rfl rfl ?hq ?_
            case hq =>
              refine' WO.indexAddrZ (n := _) rfl rfl rfl ?hs ?h00 ?h1 rfl ?_
              case hs => (first | exact hR.sl)
              case h00 => omega
              case h1 => (first | omega | (simp; omega))
              exact WO.nil ⟨rfl, rfl⟩
            refine' DT.b rfl rfl rfl ?hq ?_
            case hq =>
              refine' WO.loadA (vs := _) rfl rfl ?hc ?hl rfl ?_
              case hc => (first | exact RdF.cells2 hR (i := (rim.getD 2 0).toNat) (by omega))
              case hl => rfl
              exact WO.nil ⟨rfl, rfl⟩
            refine DT.c [_] rfl rfl rfl rfl ?_
            refine WO.callE rfl Try.call54 (fun L w hi => c_through w (l.at (rim.getD 0 0).toNat) (l.at (rim.getD 1 0).toNat) (l.at (rim.getD 2 0).toNat) (at_okZ hl r0) (at_okZ hl r1') (at_okZ hl r2')) rfl ?_
            rintro _ ⟨c', a, n, k, rfl, hcx⟩
            refine WO.nil ⟨_, [_], rfl, rfl, (Keep.b (Keep.r (Keep.b (Keep.r (Keep.r (Keep.r (Keep.b (Keep.r (Keep.b (Keep.r (Keep.r (Keep.r (Keep.b (Keep.r (Keep.b (Keep.r (Keep.r (Keep.r Keep.nil)))))))))))))))))), ?_⟩
            refine' DT.r rfl rfl rfl ?hq ?_
            case hq =>
              refine WO.p rfl rfl ?_
              exact WO.nil ⟨rfl, rfl⟩
            refine' DT.r rfl rfl rfl ?hq ?_
            case hq =>
              refine WO.p rfl rfl ?_
              exact WO.nil ⟨rfl, rfl⟩
            refine DT.nil [_] rfl ?_
            refine WO.storeA rfl rfl rfl rfl Pick.head rfl rfl (WO.p rfl rfl ?_)
            refine WO.nil ?_
            refine W.ret ?_
            refine fin.ret (Res.two rfl (RV.cell rfl rfl rfl (Cells.own (by repeat (first | exact Pick.head | apply Pick.tail)))) (RV.tmp rfl)) ?_
            first | exact aro_1 (by omega) | exact aro_2 (by omega) | exact aro_3 (by omega) hcx))
end Go.Proofs.Ytkhplcncfogolaa
namespace Go.Proofs.Ytkhplcncfogolaa
open Go Go.TH
attribute [local irreducible] W WO pt
set_option maxRecDepth 10000
set_option maxHeartbeats 1000000
abbrev Rng := Cir × Option Addr × Nat × Nat
abbrev Rings := List Rng
abbrev Rings.at (xs : Rings) (i : Nat) : Cir × Option Addr × Nat × Nat := xs.getD i (c00, none, 0, 0)
theorem RdF.cellsG {C : Cx Try.prog} {H : List HP} {o : Value} {xs : Rings} (h : RdF encG 6 C.B C.w0 o xs) {i : Nat} (h1 : i < xs.length) : Cells C H (elt o i 6) [.int .i64 (xs.at i).1.x, .int .i64 (xs.at i).1.y, .int .i64 (xs.at i).1.den, .int .i64 (xs.at i).1.n, .int .i64 (xs.at i).1.d, .slice (xs.at i).2.1 (xs.at i).2.2.1 (xs.at i).2.2.2] := RdF.cells h h1 _
theorem tail_at {xs : Rings} {i : Nat} {n : Nat} (h : n = xs.length) : Rings.at ((xs.drop 1).take (n - 1)) i = xs.at (i + 1) ∨ xs.length ≤ i + 1 := by
  subst h
  rcases Nat.lt_or_ge (i + 1) xs.length with g | g
  · refine .inl ?_
    simp only [Rings.at, List.getD_eq_getElem?_getD]
    rw [List.getElem?_take_of_lt (by omega), List.getElem?_drop, Nat.add_comm]
  · exact .inr g
/-- the first one of the smallest -/
structure FirstI (xs : Rings) (n : Nat) (x : Cir × Option Addr × Nat × Nat) : Prop where
  mem : x ∈ xs
  min : ∀ j, j < n → j < xs.length → ¬ lessC (xs.at j).1 x.1
theorem first_no {xs : Rings} {i : Nat} {x : Cir × Option Addr × Nat × Nat} (h : FirstI xs (i + 1) x) (hn : ¬ lessC (xs.at (i + 1)).1 x.1) : FirstI xs (i + 1 + 1) x :=
  ⟨h.mem, fun j hj hl => by
    rcases Nat.lt_or_ge j (i + 1) with g | g
    · exact h.min j g hl
    · obtain rfl : j = i + 1 := by omega
      exact hn⟩
theorem first_yes {xs : Rings} {i : Nat} {x : Cir × Option Addr × Nat × Nat} (h : FirstI xs (i + 1) x) (hk : ∀ x ∈ xs, OkC x.1) (hi : i + 1 < xs.length) (hn : lessC (xs.at (i + 1)).1 x.1) : FirstI xs (i + 1 + 1) (xs.at (i + 1)) :=
  ⟨getD_mem hi _, fun j hj hl => by
    rcases Nat.lt_or_ge j (i + 1) with g | g
    · have := h.min j g hl
      have k1 := (hk _ h.mem).can.d
      have k2 := (hk _ (getD_mem hi (c00, none, 0, 0))).can.d
      have k3 := (hk _ (getD_mem hl (c00, none, 0, 0))).can.d
      unfold lessC at this hn ⊢
      rw [cmp_neg] at this hn ⊢
      exact cmp_trans k2 k1 k3 hn this
    · obtain rfl : j = i + 1 := by omega
      unfold lessC; rw [cmp_neg]; omega⟩
theorem c_first (w : World) (a : Option Addr) (c : Nat) (xs : Rings) (hR : RdF encG 6 w.heap.size w (.slice a xs.length c) xs) (hcap : xs.length ≤ c) (h0 : 0 < xs.length) (hk : ∀ x ∈ xs, OkC x.1) :
    RetE Try.prog 72 [.slice a xs.length c, .func (.func 73) #[] #[]].toArray w (fun r => ∃ x, FirstI xs xs.length x ∧ r = .agg (encG x).toArray) := by
  refine RetE.of mixed tyTab Try.func72 rfl rfl ?_
  replace hR : RdF encG 6 (fnCx mixed tyTab Try.f72.ntmps w).B (fnCx mixed tyTab Try.f72.ntmps w).w0 (.slice a xs.length c) xs := hR
  have hle := hR.sl.le
  have hT := hR.sub (lo := 1) (hi := xs.length) (mx := c) (by omega) hcap (Nat.le_refl _)
  generalize hsv : (Value.slice (if c = 1 then a else ofs a (1 * 6)) (xs.length - 1) (c - 1)) = sv at hT
  have hTl : ((xs.drop 1).take (xs.length - 1)).length = xs.length - 1 := by rw [List.length_take, List.length_drop]; omega
  have hTs : IsSl sv (xs.length - 1) := hTl ▸ hT.sl
  refine W.sreg ?_
  refine WO.alloc rfl rfl rfl (fun b1 hb1 => ?_)
  refine WO.nil ?_
  refine W.sreg ?_
  refine WO.p rfl rfl ?_
  refine' WO.indexAddr (n := _) (i := 0) rfl rfl rfl ?hs ?h1 rfl ?_
  case hs => (first | exact hR.sl)
  case h1 => (first | omega | (simp; omega))
  refine' WO.loadA (vs := _) rfl rfl ?hc ?hl rfl ?_
  case hc => (first | exact RdF.cellsG hR (i := 0) h0)
  case hl => rfl
  refine WO.alloc rfl rfl rfl (fun b2 hb2 => ?_)
  refine WO.storeA rfl rfl rfl rfl Pick.head rfl rfl ?_
  refine WO.nil ?_
  refine W.seq ?_
  refine W.sreg ?_
  refine WO.p rfl rfl ?_
  refine WO.slSl (lo := 1) (hi := xs.length) (mx := c) rfl rfl (bnd.at (n := 1) rfl) bnd.no bnd.no (fun h => (by cases h)) (by omega) hcap (Nat.le_refl _) rfl ?_
  rw [hsv]
  refine' WO.len (n := _) rfl rfl ?hs rfl ?_
  case hs => (first | exact hTs)
  refine WO.p rfl rfl ?_
  refine WO.nil ?_
  refine W.block ?_
  refine W.loop2 (fun (i : Nat) (x : Rng) => i ≤ xs.length - 1 ∧ FirstI xs (i + 1) x)
    (fun (i : Nat) (x : Rng) => [(14, .int .i64 (i : Int)), (13, .int .i64 ((xs.length - 1 : Nat) : Int)), (12, sv), (5, .pointer (some ⟨b2, 0, none⟩)), (4, .pointer (some ⟨b1, 0, none⟩)), (1, .func (.func 73) #[] #[])])
    (fun (i : Nat) (x : Rng) => [pt b2 (.cells #[.int .i64 x.1.x, .int .i64 x.1.y, .int .i64 x.1.den, .int .i64 x.1.n, .int .i64 x.1.d, .slice x.2.1 x.2.2.1 x.2.2.2] 66 (0, 0)), pt b1 (.cells #[.int .i64 0, .int .i64 0, .int .i64 0, .int .i64 0, .int .i64 0, .slice none 0 0] 66 (0, 0))])
    (fun (i : Nat) (x : Rng) => xs.length - 1 - i) 0 (xs.at 0)
    (by exact ⟨by omega, getD_mem h0 _, fun j hj _ => by obtain rfl : j = 0 := (by omega); unfold lessC; rw [cmp_neg]; omega⟩) ⟨rfl, rfl, rfl, rfl, rfl, rfl, trivial⟩ (by repeat (first | exact Sub.nil | refine Sub.cons (by repeat (first | exact Pick.head | apply Pick.tail)) ?_)) ?_
  rintro i x ⟨hi0, hF⟩
  refine W.sreg ?_
  refine WO.p rfl rfl ?_
  refine WO.nil ?_
  refine W.seq ?_
  refine W.cond_bl rfl (fun c1 => ?_) (fun c1 => ?_)
  · first
    | (exfalso; omega)
    | (refine W.skip ?_
       refine W.seq ?_
       refine W.block ?_
       have ht := (tail_at (xs := xs) (i := i) rfl).resolve_right (by omega)
       refine W.sreg ?_
       refine' WO.indexAddr (n := _) (i := _) rfl rfl rfl ?hs ?h1 rfl ?_
       case hs => (first | exact hTs)
       case h1 => (first | omega | (simp; omega))
       refine' WO.loadA (vs := _) rfl rfl ?hc ?hl rfl ?_
       case hc => (first | exact RdF.cellsG hT (i := i) (by omega))
       case hl => rfl
       refine WO.alloc rfl rfl rfl (fun b3 hb3 => ?_)
       refine WO.storeA rfl rfl rfl rfl Pick.head rfl rfl ?_
       refine WO.nil ?_
       refine W.sreg ?_
       refine WO.p rfl rfl (WO.loadA rfl rfl (Cells.own Pick.head) rfl rfl (WO.loadA rfl rfl (Cells.own (Pick.tail (Pick.head))) rfl rfl ?_))
       refine WO.callCR (first := []) (captured := []) rfl rfl Try.call73 (fun L w hi' => by rw [ht]; exact c_smaller w (xs.at (i + 1)).1 x.1 _ _ rfl rfl (hk _ (getD_mem (by omega) _)).ok (hk _ hF.mem).ok) rfl ?_
       refine WO.nil ?_
       refine W.cond_bl rfl (fun c2 => ?_) (fun c2 => ?_)
       · first
         | (exfalso; omega)
         | (refine W.region ?_
            refine WO.loadA rfl rfl (Cells.own Pick.head) rfl rfl (WO.storeA rfl rfl rfl rfl (Pick.tail (Pick.head)) rfl rfl ?_)
            refine WO.nil ?_
            refine W.region ?_
            refine WO.ar rfl rfl rfl (by (first | (unfold in64; omega) | (unfold in64; omega))) rfl (WO.p rfl rfl ?_)
            refine WO.nil ?_
            refine' ⟨i + 1, _, ?hp, ?hmu, ⟨rfl, rfl, rfl, rfl, rfl, rfl, trivial⟩, ?hS⟩
            case hS => repeat (first | exact Sub.nil | refine Sub.cons (by repeat (first | exact Pick.head | apply Pick.tail)) ?_)
            case hp => first | exact ⟨by omega, first_no hF (by assumption)⟩ | exact ⟨by omega, by rw [ht]; exact first_yes hF hk (by omega) (by assumption)⟩
            case hmu => omega)
       · first
         | (exfalso; omega)
         | (refine W.skip ?_
            refine W.region ?_
            refine WO.ar rfl rfl rfl (by (first | (unfold in64; omega) | (unfold in64; omega))) rfl (WO.p rfl rfl ?_)
            refine WO.nil ?_
            refine' ⟨i + 1, _, ?hp, ?hmu, ⟨rfl, rfl, rfl, rfl, rfl, rfl, trivial⟩, ?hS⟩
            case hS => repeat (first | exact Sub.nil | refine Sub.cons (by repeat (first | exact Pick.head | apply Pick.tail)) ?_)
            case hp => first | exact ⟨by omega, first_no hF (by assumption)⟩ | exact ⟨by omega, by rw [ht]; exact first_yes hF hk (by omega) (by assumption)⟩
            case hmu => omega))
  · first
    | (exfalso; omega)
    | (refine W.exit (blk_same ?_)
       refine W.sreg ?_
       refine WO.loadA rfl rfl (Cells.own Pick.head) rfl rfl (WO.storeA rfl rfl rfl rfl (Pick.tail (Pick.head)) rfl rfl ?_)
       refine WO.nil ?_
       refine W.ret ?_
       obtain rfl : i = xs.length - 1 := by omega
       refine fin.ret (Res.one rfl (RV.cell rfl rfl rfl (Cells.own (by repeat (first | exact Pick.head | apply Pick.tail))))) ⟨x, ?_, rfl⟩
       rw [show xs.length - 1 + 1 = xs.length by omega] at hF; exact hF)
/-- the points of a rim -/
def ofL (l : Pts) (rim : List Int) : Pts := rim.map fun i => l.at i.toNat
theorem ofL_take (l : Pts) (rim : List Int) {i : Nat} (h : i < rim.length) : ofL l (rim.take (i + 1)) = ofL l (rim.take i) ++ [l.at (rim.getD i 0).toNat] := by
  unfold ofL; rw [take_succ_getD h 0, List.map_append]; rfl
theorem ofL_ok {l : Pts} {rim : List Int} (hl : OkL l) (hr : ∀ x ∈ rim, 0 ≤ x ∧ x < l.length) : OkL (ofL l rim) := fun p hp => by
  obtain ⟨x, hx, rfl⟩ := List.mem_map.1 hp
  exact at_okZ hl (hr x hx)
theorem ofL_len (l : Pts) (rim : List Int) : (ofL l rim).length = rim.length := by unfold ofL; simp
/-- rings of some circles, in a variable -/
def GoodP (b : Nat) (cs : List Cir) : HP := fun h => ∃ (gv : Value) (xs : Rings), xs.map (·.1) = cs ∧ sat [pt b (.cells #[gv] 98 (0, 0)), OwE encG 66 6 gv xs] h
theorem good_open {b : Nat} {cs : List Cir} {H H' : List HP} (p : Pick (GoodP b cs) H H') : ∀ h, sat H h → ∃ x : Value × Rings, x.2.map (·.1) = cs ∧ sat (pt b (.cells #[x.1] 98 (0, 0)) :: OwE encG 66 6 x.1 x.2 :: H') h := fun h hs => by
  obtain ⟨h1, h2, s, ⟨gv, xs, e, hp⟩, hr⟩ := p.sat hs
  exact ⟨(gv, xs), e, sat_join (H1 := [_, _]) s hp hr⟩
theorem good_pack {b : Nat} {gv : Value} {xs : Rings} {cs : List Cir} {H Hr : List HP} (s : Sub H (pt b (.cells #[gv] 98 (0, 0)) :: OwE encG 66 6 gv xs :: Hr)) (e : xs.map (·.1) = cs) : ∀ h, sat H h → sat (GoodP b cs :: Hr) h := fun h hs => by
  obtain ⟨h1, h2, s2, hp, hr⟩ := sat_app (H1 := [_, _]) (s.sat hs)
  exact ⟨h1, h2, s2, ⟨gv, xs, e, hp⟩, hr⟩
theorem good_nil {b : Nat} {H : List HP} : ∀ h, sat (pt b (.cells #[.slice none 0 0] 98 (0, 0)) :: H) h → sat (GoodP b [] :: H) h := fun h hs =>
  good_pack (xs := []) (.cons (.tail .head) (.cons .head (Sub.refl _))) rfl h (owNil (enc := encG) (e := 66) (sz := 6) h hs)
theorem c_rims1 (m : Nat) (hm : 1 ≤ m ∧ m ≤ 3) (B : Nat) (wr : World) (n : Nat) (hn : n ≤ 1000) (last : Nat) (l : Nat) (Hc : Nat → List HP) (hy : ∀ k x v, (rimsL m n [])[k]? = some x → k ≤ last → YieldB Try.prog B wr l #[v] (bl (k < last)) (OwE encI 3 1 v x :: Hc k) (Hc (k + 1))) (b1 b2 : Nat) (w : World) (M' : List Nat) (hB : B ≤ w.heap.size) (hk : ∀ k, k < B → w.heap[k]? = wr.heap[k]?) (hM : ∀ b ∈ M', B ≤ b)
    (hi : Inv w M' ([pt b2 (.cells #[.int .i64 (m : Int)] 3 (0, 0)), pt b1 (.cells #[.int .i64 (n : Int)] 3 (0, 0))] ++ Hc 0) w) :
    Ct Try.prog 70 ([.func (.yield l) #[] #[], .pointer (some ⟨b1, 0, none⟩), .pointer (some ⟨b2, 0, none⟩)] : List Value).toArray w fun _ w' => Inv w M' ([pt b2 (.cells #[.int .i64 (m : Int)] 3 (0, 0)), pt b1 (.cells #[.int .i64 (n : Int)] 3 (0, 0))] ++ Hc (min (rimsL m n []).length (last + 1))) w' := by
  obtain ⟨h1, h2⟩ := hm
  match m, h1, h2 with
  | 1, _, _ => exact c_rims1_1 B wr n hn last l Hc hy b1 b2 w M' hB hk hM hi
  | 2, _, _ => exact c_rims1_2 B wr n hn last l Hc hy b1 b2 w M' hB hk hM hi
  | 3, _, _ => exact c_rims1_3 B wr n hn last l Hc hy b1 b2 w M' hB hk hM hi
theorem flatMap_take {α β : Type} {l : List α} {f : α → List β} {i : Nat} {x : α} (h : l[i]? = some x) : (l.take (i + 1)).flatMap f = (l.take i).flatMap f ++ f x := by
  rw [List.take_add_one, h, List.flatMap_append]; simp
end Go.Proofs.Ytkhplcncfogolaa
namespace Go.Proofs.Ytkhplcncfogolaa
open Go Go.TH
attribute [local irreducible] W WO pt
set_option maxRecDepth 10000
set_option maxHeartbeats 1000000
theorem goodL_no {l : Pts} {r : List Int} {c : Cir} (h : arL l r ≠ [] → arL l r = [c]) (hn : arL l r = [] ∨ ¬ holdL c l) : goodL l r = [] := by
  unfold goodL
  rcases Decidable.em (arL l r = []) with e | e
  · rw [e]; rfl
  · rw [h e]; simp [hn.resolve_left e]
theorem goodL_yes {l : Pts} {r : List Int} {c : Cir} (h : arL l r = [c]) (hh : holdL c l) : goodL l r = [c] := by
  unfold goodL; rw [h]; simp [hh]
theorem goodL_len (l : Pts) (r : List Int) : (goodL l r).length ≤ 1 := by
  have h : (arL l r).length ≤ 1 := by
    match r with
    | [] => simp [arL]
    | [a] => simp [arL]
    | [a, b] => simp [arL]
    | [a, b, c] =>
      show (if cross (l.at a.toNat) (l.at b.toNat) (l.at c.toNat) = 0 then [] else [thrC (l.at a.toNat) (l.at b.toNat) (l.at c.toNat)]).length ≤ 1
      split <;> simp
    | _ :: _ :: _ :: _ :: _ => simp [arL]
  have := List.length_filter_le (fun c => decide (holdL c l)) (arL l r)
  unfold goodL; omega
theorem flat_len1 {α β : Type} {f : α → List β} (h : ∀ x, (f x).length ≤ 1) : ∀ l : List α, (l.flatMap f).length ≤ l.length
  | [] => by simp
  | x :: l => by have := flat_len1 h l; have := h x; rw [List.flatMap_cons, List.length_append, List.length_cons]; omega
theorem rims_len {n m : Nat} (hn : n ≤ 3) (hm : m < 3) : (rimsL (m + 1) n []).length ≤ 4 := by
  match n, m, hn, hm with
  | 0, 0, _, _ => decide
  | 1, 0, _, _ => decide
  | 2, 0, _, _ => decide
  | 3, 0, _, _ => decide
  | 0, 1, _, _ => decide
  | 1, 1, _, _ => decide
  | 2, 1, _, _ => decide
  | 3, 1, _, _ => decide
  | 0, 2, _, _ => decide
  | 1, 2, _, _ => decide
  | 2, 2, _, _ => decide
  | 3, 2, _, _ => decide
theorem goodTo_len {l : Pts} (hl : l.length ≤ 3) : ∀ k, k ≤ 3 → (goodTo l k).length ≤ k * 4
  | 0, _ => by simp [goodTo]
  | k + 1, h => by
    have := goodTo_len hl k (by omega)
    have h2 := flat_len1 (goodL_len l) (rimsL (k + 1) l.length [])
    have h3 := rims_len hl (show k < 3 by omega)
    rw [goodTo_succ, List.length_append]; omega
/-- where a walk through rims is -/
def goodAt (l : Pts) (k t : Nat) : List Cir := goodTo l k ++ ((rimsL (k + 1) l.length []).take t).flatMap (goodL l)
theorem goodAt_0 (l : Pts) (k : Nat) : goodAt l k 0 = goodTo l k := by unfold goodAt; simp
theorem goodAt_end (l : Pts) (k : Nat) : goodAt l k (rimsL (k + 1) l.length []).length = goodTo l (k + 1) := by unfold goodAt; rw [List.take_length, goodTo_succ]
theorem goodAt_succ {l : Pts} {k t : Nat} {r : List Int} (h : (rimsL (k + 1) l.length [])[t]? = some r) : goodAt l k (t + 1) = goodAt l k t ++ goodL l r := by
  unfold goodAt; rw [flatMap_take h, List.append_assoc]
theorem goodAt_len {l : Pts} (hl : l.length ≤ 3) {k : Nat} (hk : k < 3) (t : Nat) : (goodAt l k t).length ≤ 16 := by
  have := goodTo_len hl k (by omega)
  have h2 := flat_len1 (goodL_len l) ((rimsL (k + 1) l.length []).take t)
  have h3 := rims_len hl hk
  have : ((rimsL (k + 1) l.length []).take t).length ≤ (rimsL (k + 1) l.length []).length := by rw [List.length_take]; omega
  unfold goodAt; rw [List.length_append]; omega
theorem OwE.formCap {α : Type} {P : Program} {C : Cx P} {H H' : List HP} {enc : α → List Value} {e sz : Nat} {v : Value} {xs : List α} (p : Pick (OwE enc e sz v xs) H H') : ∀ (L : List HP) w, Inv C.w0 C.M (L ++ H) w → ∃ a c, v = .slice a xs.length c ∧ xs.length ≤ c := fun L w hi => by
  obtain ⟨_, hcase⟩ := OwC.open (hi.pickL p)
  rcases hcase with ⟨h1, h2, _⟩ | ⟨g, cap, cur, rfl, q1, _⟩
  · exact ⟨none, 0, by rw [h1, h2], by omega⟩
  · exact ⟨_, _, rfl, q1⟩
theorem first_lst {l : Pts} {xs : Rings} {x : Rng} (hl : OkL l) (h0 : l ≠ []) (h3 : l.length ≤ 3) (e : xs.map (·.1) = goodTo l l.length) (h : FirstI xs xs.length x) : x.1 = lst l := by
  obtain ⟨c0, hc0, hs⟩ := good_sm hl h0 h3
  have hm : x.1 ∈ goodTo l l.length := by rw [← e]; exact List.mem_map_of_mem h.mem
  have hp : Pick1 l (goodTo l l.length) x.1 := ⟨hm, goodTo_hold _ hm, fun c' hc' _ => by
    rw [← e] at hc'
    obtain ⟨y, hy, rfl⟩ := List.mem_map.1 hc'
    obtain ⟨j, hj, ej⟩ := List.getElem_of_mem hy
    have := h.min j hj hj
    rw [show xs.at j = y by simp [Rings.at, hj, ej]] at this
    exact this⟩
  exact (hp.sm (goodTo_ok hl h3) hc0 hs).lst hl h0
theorem c_proved (w : World) (v o : Value) (l : Pts) (rim : List Int) (hR : RdF encP 2 w.heap.size w v l) (hI : RdF encI 1 w.heap.size w o rim) (hl : OkL l) (hr : Rm l.length rim) :
    RetE Try.prog 53 [v, o].toArray w (RingR (lst (ofL l rim))) := by
  refine RetE.of mixed tyTab Try.func53 rfl rfl ?_
  replace hR : RdF encP 2 (fnCx mixed tyTab Try.f53.ntmps w).B (fnCx mixed tyTab Try.f53.ntmps w).w0 v l := hR
  replace hI : RdF encI 1 (fnCx mixed tyTab Try.f53.ntmps w).B (fnCx mixed tyTab Try.f53.ntmps w).w0 o rim := hI
  have hle := hR.sl.le
  have hln := hr.len
  have hSl := ofL_len l rim
  have hSok := ofL_ok hl hr.rng
  have hS0 : ofL l rim ≠ [] := List.length_pos_iff.1 (by omega)
  refine W.sreg ?_
  refine WO.alloc rfl rfl rfl (fun b1 hb1 => ?_)
  refine WO.nil ?_
  refine W.sreg ?_
  refine WO.alloc rfl rfl rfl (fun b2 hb2 => ?_)
  refine WO.nil ?_
  refine W.seq ?_
  refine W.sreg ?_
  refine WO.p rfl rfl ?_
  refine' WO.len (n := _) rfl rfl ?hs rfl ?_
  case hs => (first | exact hI.sl)
  refine WO.p rfl rfl ?_
  refine WO.nil ?_
  refine W.block ?_
  refine W.chg (owNil (enc := encP) (e := 74) (sz := 2)) ?_
  refine W.loop2 (fun (i : Nat) (x : Value) => i ≤ rim.length)
    (fun (i : Nat) (x : Value) => [(15, .int .i64 (i : Int)), (14, .int .i64 (rim.length : Int)), (13, o), (5, .pointer (some ⟨b2, 0, none⟩)), (4, .pointer (some ⟨b1, 0, none⟩)), (0, v)])
    (fun (i : Nat) (x : Value) => [pt b2 (.cells #[x] 64 (0, 0)), OwE encP 74 2 x (ofL l (rim.take i)), pt b1 (.cells #[.int .i64 0, .int .i64 0, .int .i64 0, .int .i64 0, .int .i64 0, .slice none 0 0] 66 (0, 0))])
    (fun (i : Nat) (x : Value) => rim.length - i) 0 (.slice none 0 0)
    (by omega) ⟨rfl, rfl, rfl, rfl, rfl, rfl, trivial⟩ (by repeat (first | exact Sub.nil | refine Sub.cons (by repeat (first | exact Pick.head | apply Pick.tail)) ?_)) ?_
  rintro i x hi0
  refine W.sreg ?_
  refine WO.p rfl rfl ?_
  refine WO.nil ?_
  refine W.seq ?_
  refine W.cond_bl rfl (fun c1 => ?_) (fun c1 => ?_)
  · first
    | (exfalso; omega)
    | (refine W.skip ?_
       refine W.seq ?_
       refine W.block ?_
       refine W.sreg ?_
       refine' WO.indexAddr (n := _) (i := _) rfl rfl rfl ?hs ?h1 rfl ?_
       case hs => (first | exact hI.sl)
       case h1 => (first | omega | (simp; omega))
       refine' WO.load (v := _) rfl rfl ?hc rfl ?_
       case hc => (first | (refine hI.cell0 (i := i) ?_ 0 ?_ <;> first | rfl | omega))
       refine WO.p rfl rfl ?_
       refine WO.nil ?_
       have hri := hr.rng _ (getD_mem (show i < rim.length by omega) 0)
       refine W.drawD 6 [.g 0 [] (pt b2 (.cells #[x] 64 (0, 0))), .r 1 [], .r 2 [], .r 3 [], .b 4 [], .c 5 []] [] (A0 := [_, _]) (H0 := [_]) (.cons .head (.cons .head (.cons .head .nil))) (by kernel_rfl) ?_ ?_
       · exact (ALok.g (ALok.r (ALok.r (ALok.r (ALok.b (ALok.c ALok.nil))))))
       refine' DT.g (by repeat (first | exact Pick.head | apply Pick.tail)) rfl rfl rfl ?hq ?_
       case hq =>
         refine WO.load rfl rfl (Cell.own Pick.head rfl) rfl ?_
         exact WO.nil ⟨rfl, rfl⟩
       refine' DT.r rfl rfl rfl ?hq ?_
       case hq =>
         refine WO.p rfl rfl ?_
         exact WO.nil ⟨rfl, rfl⟩
       refine' DT.r rfl rfl rfl ?hq ?_
       case hq =>
         refine WO.p rfl rfl ?_
         exact WO.nil ⟨rfl, rfl⟩
       refine' DT.r rfl rfl rfl ?hq ?_
       case hq =>
         refine' WO.indexAddrZ (n := _) rfl rfl rfl ?hs ?h00 ?h1 rfl ?_
         case hs => (first | exact hR.sl)
         case h00 => omega
         case h1 => (first | omega | (simp; omega))
         exact WO.nil ⟨rfl, rfl⟩
       refine' DT.b rfl rfl rfl ?hq ?_
       case hq =>
         refine' WO.loadA (vs := _) rfl rfl ?hc ?hl rfl ?_
         case hc => (first | exact RdF.cells2 hR (i := (rim.getD i 0).toNat) (by omega))
         case hl => rfl
         exact WO.nil ⟨rfl, rfl⟩
       refine DT.c [_, _, _] rfl rfl rfl rfl ?_
       refine' WO.buildSl (cs := _) rfl rfl rfl rfl ?hf rfl rfl ?hl rfl (fun v3 => ?_)
       case hf => (conv => lhs; simp [-List.getD_eq_getElem?_getD, fillL, vcl, wrl, TTab.pl?.lget']) <;> rfl
       case hl => rfl
       refine WO.nil ⟨_, [_, _, _], rfl, rfl, (Keep.b (Keep.r (Keep.r (Keep.r (Keep.g (.inr ⟨_, by repeat (first | exact Pick.head | apply Pick.tail)⟩) Keep.nil))))), ?_⟩
       refine DT.nil [_, _, _, _] rfl ?_
       refine' WO.appendE (enc := encP) (m := 1) (ys := [l.at (rim.getD i 0).toNat]) encP_ok rfl rfl rfl rfl rfl (by repeat (first | exact Pick.head | apply Pick.tail)) (isSl_lit (by omega) (fun _ => ⟨_, _, rfl⟩)) (by omega) rfl (OwC.cells .head) (by rw [ofL_len, List.length_take]; omega) (by rw [ofL_len, List.length_take]; omega) rfl (fun g c => ?_)
       rw [← ofL_take l rim (by omega)]
       refine WO.store1 rfl rfl rfl (by first | rfl | assumption) (Pick.tail (Pick.tail (Pick.head))) rfl ?_
       refine WO.nil ?_
       refine W.region ?_
       refine WO.ar rfl rfl rfl (by (first | (unfold in64; omega) | (unfold in64; omega))) rfl (WO.p rfl rfl ?_)
       refine WO.nil ?_
       refine' ⟨i + 1, _, ?hp, ?hmu, ⟨rfl, rfl, rfl, rfl, rfl, rfl, trivial⟩, ?hS⟩
       case hS => repeat (first | exact Sub.nil | refine Sub.cons (by repeat (first | exact Pick.head | apply Pick.tail)) ?_)
       case hp => omega
       case hmu => omega)
  · first
    | (exfalso; omega)
    | (refine W.exit (blk_same ?_)
       obtain rfl : rim.length = i := by omega
       rw [List.take_length]
       refine W.fact (OwE.sl (enc := encP) (e := 74) (sz := 2) (v := x) (xs := ofL l rim) (by repeat (first | exact Pick.head | apply Pick.tail))) (fun hss => ?_)
       refine W.sreg ?_
       refine WO.alloc rfl rfl rfl (fun b4 hb4 => ?_)
       refine WO.nil ?_
       refine W.seq ?_
       refine W.sreg ?_
       refine WO.p rfl rfl ?_
       refine WO.nil ?_
       refine W.block ?_
       refine W.chg good_nil ?_
       refine W.loop (fun (k : Nat) => k ≤ rim.length)
         (fun (k : Nat) => [(9, .int .i64 ((k : Int) + 1)), (8, .pointer (some ⟨b4, 0, none⟩)), (5, .pointer (some ⟨b2, 0, none⟩)), (4, .pointer (some ⟨b1, 0, none⟩))])
         (fun (k : Nat) => [GoodP b4 (goodAt (ofL l rim) k 0), OwE encP 74 2 x (ofL l rim), pt b2 (.cells #[x] 64 (0, 0)), pt b1 (.cells #[.int .i64 0, .int .i64 0, .int .i64 0, .int .i64 0, .int .i64 0, .slice none 0 0] 66 (0, 0))])
         (fun (k : Nat) => rim.length - k) 0
         (by omega) ⟨rfl, rfl, rfl, rfl, trivial⟩ (by repeat (first | exact Sub.nil | refine Sub.cons (by repeat (first | exact Pick.head | apply Pick.tail)) ?_)) ?_
       rintro k hk0
       refine W.seq ?_
       refine W.sreg ?_
       refine WO.p rfl rfl (WO.load rfl rfl (Cell.own (Pick.tail (Pick.tail (Pick.head))) rfl) rfl ?_)
       refine' WO.len (n := _) rfl rfl ?hs rfl ?_
       case hs => (first | exact hss)
       refine WO.p rfl rfl ?_
       refine WO.nil ?_
       refine W.cond_bl rfl (fun c2 => ?_) (fun c2 => ?_)
       · first
         | (exfalso; omega)
         | (refine W.skip ?_
            refine W.seq ?_
            refine W.block ?_
            refine W.sreg ?_
            refine WO.load rfl rfl (Cell.own (Pick.tail (Pick.tail (Pick.head))) rfl) rfl ?_
            refine' WO.len (n := _) rfl rfl ?hs rfl ?_
            case hs => (first | exact hss)
            refine WO.p rfl rfl ?_
            refine WO.call (Post := fun v Hq => ∃ b1 b2, v = .func (.func 70) #[] #[.pointer (some ⟨b1, 0, none⟩), .pointer (some ⟨b2, 0, none⟩)] ∧ Hq = [pt b2 (.cells #[.int .i64 ((k : Int) + 1)] 3 (0, 0)), pt b1 (.cells #[.int .i64 ((ofL l rim).length : Int)] 3 (0, 0))]) rfl Try.call52 (fun L w hi => c_rims w _ _) rfl ?_
            rintro _ _ ⟨b5, b6, rfl, rfl⟩
            refine WO.nil ?_
            refine W.block ?_
            refine W.rangeFuncB (Jmp.ret) [pt b6 (.cells #[.int .i64 ((k + 1 : Nat) : Int)] 3 (0, 0)), pt b5 (.cells #[.int .i64 ((ofL l rim).length : Int)] 3 (0, 0))] (fun t => [GoodP b4 (goodAt (ofL l rim) k t), OwE encP 74 2 x (ofL l rim), pt b2 (.cells #[x] 64 (0, 0)), pt b1 (.cells #[.int .i64 0, .int .i64 0, .int .i64 0, .int .i64 0, .int .i64 0, .slice none 0 0] 66 (0, 0))]) (rimsL (k + 1) (ofL l rim).length []) (fun rim1 v1 => OwE encI 3 1 v1 rim1) ((rimsL (k + 1) (ofL l rim).length []).length) rfl rfl rfl Try.call70 (by repeat (first | exact Sub.nil | refine Sub.cons (by repeat (first | exact Pick.head | apply Pick.tail)) ?_)) ?_ ?_ ?_ ?_
            · intro ll Hc hy w1 M1 hB1 hk1 hM1 hi1
              exact c_rims1 (k + 1) (by omega) _ _ (ofL l rim).length (by omega) _ ll Hc hy b5 b6 w1 M1 hB1 hk1 hM1 hi1
            · intro ll w1 M1 hB1 hM1 hk1 t rim1 v1 hx hle1
              have hlt := (List.getElem?_eq_some_iff.1 hx).1
              have hrm := (rims_rm (m := k) (by omega) (List.mem_of_getElem? hx)).1
              refine W.region ?_
              refine WO.p rfl rfl ?_
              refine WO.nil ?_
              refine W.block ?_
              refine W.sreg ?_
              refine WO.load rfl rfl (Cell.own (Pick.tail (Pick.tail (Pick.tail (Pick.head)))) rfl) rfl (WO.p rfl rfl ?_)
              refine WO.callE rfl Try.call71 (fun L w hi => c_around w x v1 (ofL l rim) rim1 (RdF.of_ow (e := 74) encP_ok (by repeat (first | exact Pick.head | apply Pick.tail)) hi) (RdF.of_ow (e := 3) encI_ok (by repeat (first | exact Pick.head | apply Pick.tail)) hi) hSok hrm) rfl ?_
              rintro _ ⟨c', xa, xn, xk, rfl, hac⟩
              refine WO.p rfl rfl (WO.p rfl rfl (WO.p rfl rfl ?_))
              refine WO.alloc rfl rfl rfl (fun b5 hb5 => ?_)
              refine WO.storeA rfl rfl rfl rfl Pick.head rfl rfl (WO.p rfl rfl ?_)
              refine WO.nil ?_
              refine W.sreg ?_
              refine WO.p rfl rfl (WO.p rfl rfl ?_)
              refine WO.guard_bl rfl rfl (fun c3 => ?_) (fun c3 => ?_)
              · first
                | (exfalso; omega)
                | (refine WO.go' rfl (WO.loadA rfl rfl (Cells.own Pick.head) rfl rfl (WO.go' rfl (WO.load rfl rfl (Cell.own (Pick.tail (Pick.tail (Pick.tail (Pick.tail (Pick.head))))) rfl) rfl (WO.go' rfl ?_))))
                   refine WO.callE rfl Try.call62 (fun L w hi => c_missed w c' _ rfl x (ofL l rim) (RdF.of_ow (e := 74) encP_ok (by repeat (first | exact Pick.head | apply Pick.tail)) hi) (arL_ok hSok hrm.rng c' (by rw [hac (by assumption)]; simp)).ok hSok) rfl ?_
                   rintro _ ⟨n, rfl, hn⟩
                   refine WO.pg rfl rfl rfl (WO.p rfl rfl ?_)
                   refine WO.nil ?_
                   refine W.cond_bl rfl (fun c4 => ?_) (fun c4 => ?_)
                   · first
                     | (exfalso; omega)
                     | (refine W.chgE (good_open (b := b4) (cs := goodAt (ofL l rim) k t) (by repeat (first | exact Pick.head | apply Pick.tail))) ?_
                        rintro ⟨gv, gxs⟩ hgx
                        have hgl : gxs.length ≤ 16 := by rw [← List.length_map (f := fun x : Rng => x.1), hgx]; exact goodAt_len (by omega) (by omega) t
                        refine W.region ?_
                        refine WO.load rfl rfl (Cell.own Pick.head rfl) rfl (WO.loadA rfl rfl (Cells.own (Pick.tail (Pick.tail (Pick.head)))) rfl rfl ?_)
                        refine' WO.buildSl (cs := _) rfl rfl rfl rfl ?hf rfl rfl ?hl rfl (fun v6 => ?_)
                        case hf => (conv => lhs; simp [-List.getD_eq_getElem?_getD, fillL, vcl, wrl, TTab.pl?.lget']) <;> rfl
                        case hl => rfl
                        refine' WO.appendE (enc := encG) (m := 1) (xs := gxs) (ys := [(c', xa, xn, xk)]) encG_ok rfl rfl rfl rfl rfl (by repeat (first | exact Pick.head | apply Pick.tail)) (isSl_lit (by omega) (fun _ => ⟨_, _, rfl⟩)) (by omega) rfl (OwC.cells .head) (by omega) (by omega) rfl (fun g c => ?_)
                        refine WO.store1 rfl rfl rfl (by first | rfl | assumption) (Pick.tail (Pick.tail (Pick.head))) rfl ?_
                        refine WO.nil ?_
                        refine endR.go (bl_t.2 hlt) ?_
                        first
                        | (rw [goodAt_succ hx, goodL_no hac (.inl (Decidable.not_not.1 (by assumption))), List.append_nil]; exact fun h hs => Sub.sat (by repeat (first | exact Sub.nil | refine Sub.cons (by repeat (first | exact Pick.head | apply Pick.tail)) ?_)) hs)
                        | (rw [goodAt_succ hx, goodL_no hac (.inr (hn.neg.1 (by omega))), List.append_nil]; exact fun h hs => Sub.sat (by repeat (first | exact Sub.nil | refine Sub.cons (by repeat (first | exact Pick.head | apply Pick.tail)) ?_)) hs)
                        | (rw [goodAt_succ hx, goodL_yes (hac (by assumption)) (Decidable.not_not.1 (fun q => absurd (hn.neg.2 q) (by omega)))]; exact good_pack (gv := .slice (some ⟨g, 0, none⟩) (gxs.length + 1) c) (xs := gxs ++ [(c', xa, xn, xk)]) (by repeat (first | exact Sub.nil | refine Sub.cons (by repeat (first | exact Pick.head | apply Pick.tail)) ?_)) (by rw [List.map_append, hgx]; rfl)))
                   · first
                     | (exfalso; omega)
                     | (refine W.skip ?_
                        refine endR.go (bl_t.2 hlt) ?_
                        first
                        | (rw [goodAt_succ hx, goodL_no hac (.inl (Decidable.not_not.1 (by assumption))), List.append_nil]; exact fun h hs => Sub.sat (by repeat (first | exact Sub.nil | refine Sub.cons (by repeat (first | exact Pick.head | apply Pick.tail)) ?_)) hs)
                        | (rw [goodAt_succ hx, goodL_no hac (.inr (hn.neg.1 (by omega))), List.append_nil]; exact fun h hs => Sub.sat (by repeat (first | exact Sub.nil | refine Sub.cons (by repeat (first | exact Pick.head | apply Pick.tail)) ?_)) hs)
                        | (rw [goodAt_succ hx, goodL_yes (hac (by assumption)) (Decidable.not_not.1 (fun q => absurd (hn.neg.2 q) (by omega)))]; exact good_pack (gv := .slice (some ⟨g, 0, none⟩) (gxs.length + 1) c) (xs := gxs ++ [(c', xa, xn, xk)]) (by repeat (first | exact Sub.nil | refine Sub.cons (by repeat (first | exact Pick.head | apply Pick.tail)) ?_)) (by rw [List.map_append, hgx]; rfl))))
              · first
                | (exfalso; omega)
                | (refine WO.no rfl rfl (WO.no rfl rfl (WO.no rfl rfl (WO.no rfl rfl (WO.p rfl rfl ?_))))
                   refine WO.nil ?_
                   refine W.cond_f rfl ?_
                   refine W.skip ?_
                   refine endR.go (bl_t.2 hlt) ?_
                   first
                   | (rw [goodAt_succ hx, goodL_no hac (.inl (Decidable.not_not.1 (by assumption))), List.append_nil]; exact fun h hs => Sub.sat (by repeat (first | exact Sub.nil | refine Sub.cons (by repeat (first | exact Pick.head | apply Pick.tail)) ?_)) hs)
                   | (rw [goodAt_succ hx, goodL_no hac (.inr (hn.neg.1 (by omega))), List.append_nil]; exact fun h hs => Sub.sat (by repeat (first | exact Sub.nil | refine Sub.cons (by repeat (first | exact Pick.head | apply Pick.tail)) ?_)) hs)
                   | (rw [goodAt_succ hx, goodL_yes (hac (by assumption)) (Decidable.not_not.1 (fun q => absurd (hn.neg.2 q) (by omega)))]; exact good_pack (gv := .slice (some ⟨g, 0, none⟩) (gxs.length + 1) c) (xs := gxs ++ [(c', xa, xn, xk)]) (by repeat (first | exact Sub.nil | refine Sub.cons (by repeat (first | exact Pick.head | apply Pick.tail)) ?_)) (by rw [List.map_append, hgx]; rfl)))
            · intro hAll
              rw [goodAt_end, ← goodAt_0 (ofL l rim) (k + 1)]
              refine W.region ?_
              refine WO.p rfl rfl (WO.ar rfl rfl rfl (by (first | (unfold in64; omega) | (unfold in64; omega))) rfl (WO.p rfl rfl ?_))
              refine WO.nil ?_
              refine' ⟨k + 1, ?hp, ?hmu, ⟨rfl, rfl, rfl, rfl, trivial⟩, ?hS⟩
              case hS => repeat (first | exact Sub.nil | refine Sub.cons (by repeat (first | exact Pick.head | apply Pick.tail)) ?_)
              case hp => omega
              case hmu => omega
            · intro hStop
              exfalso; omega)
       · first
         | (exfalso; omega)
         | (refine W.exit (blk_same ?_)
            obtain rfl : rim.length = k := by omega
            rw [goodAt_0]
            refine W.chgE (good_open (b := b4) (cs := goodTo (ofL l rim) rim.length) (by repeat (first | exact Pick.head | apply Pick.tail))) ?_
            rintro ⟨gv, gxs⟩ hgx
            refine W.fact (OwE.formCap (enc := encG) (e := 66) (sz := 6) (v := gv) (xs := gxs) (by repeat (first | exact Pick.head | apply Pick.tail))) (fun hfc => ?_)
            obtain ⟨ga, gc, rfl, hgc⟩ := hfc
            rw [← hSl] at hgx
            have hg0 : 0 < gxs.length := by obtain ⟨c0, hc0, _⟩ := good_sm hSok hS0 (by omega); rw [← List.length_map (f := fun x : Rng => x.1), hgx]; exact List.length_pos_of_mem hc0
            have hgk : ∀ y ∈ gxs, OkC y.1 := fun y hy => goodTo_ok hSok (by omega) _ (hgx ▸ List.mem_map_of_mem hy)
            refine W.sreg ?_
            refine WO.load rfl rfl (Cell.own Pick.head rfl) rfl ?_
            refine WO.callE rfl Try.call72 (fun L w hi => c_first w ga gc gxs (RdF.of_ow (e := 66) encG_ok (by repeat (first | exact Pick.head | apply Pick.tail)) hi) hgc hg0 hgk) rfl ?_
            rintro _ ⟨y, hy, rfl⟩
            refine WO.storeA rfl rfl rfl rfl (Pick.tail (Pick.tail (Pick.tail (Pick.tail (Pick.head))))) rfl rfl ?_
            refine WO.nil ?_
            refine W.ret ?_
            refine fin.ret (Res.one rfl (RV.cell rfl rfl rfl (Cells.own (by repeat (first | exact Pick.head | apply Pick.tail))))) ?_
            rw [← first_lst hSok hS0 (by omega) hgx hy]; exact ⟨_, _, _, rfl⟩))
end Go.Proofs.Ytkhplcncfogolaa
namespace Go.Proofs.Ytkhplcncfogolaa
open Go Go.TH
attribute [local irreducible] W WO pt
set_option maxRecDepth 10000
set_option maxHeartbeats 1000000
/-- the index is below the number, and above the one before it -/
def okI (n : Nat) (rim : List Int) (i : Nat) : Prop := 0 ≤ rim.getD i 0 ∧ rim.getD i 0 < n ∧ (0 < i → rim.getD (i - 1) 0 < rim.getD i 0)
instance (n : Nat) (rim : List Int) (i : Nat) : Decidable (okI n rim i) := by unfold okI; infer_instance
def OkRim (n : Nat) (rim : List Int) : Prop := ∀ i, i < rim.length → okI n rim i
instance (n : Nat) (rim : List Int) : Decidable (OkRim n rim) := by unfold OkRim; infer_instance
/-- what CheckRim answers -/
def crE (l : Pts) (rim : List Int) : Int := if chkL l = 0 then (if rim.length < 1 ∨ 3 < rim.length then 6 else if OkRim l.length rim then 0 else 3) else chkL l
def crC (l : Pts) (rim : List Int) : Cir := if crE l rim = 0 then lst (ofL l rim) else c00
def crV (l : Pts) (rim : List Int) : Value := .tuple #[cirV (crC l rim), .int .i64 (crE l rim)]
theorem crV_c {l : Pts} {rim : List Int} (h : chkL l ≠ 0) : crV l rim = .tuple #[cirV c00, .int .i64 (chkL l)] := by
  have e : crE l rim = chkL l := by unfold crE; rw [if_neg h]
  unfold crV crC; rw [e, if_neg h]
theorem crV_6 {l : Pts} {rim : List Int} (h : chkL l = 0) (hl : rim.length < 1 ∨ 3 < rim.length) : crV l rim = .tuple #[cirV c00, .int .i64 6] := by
  have e : crE l rim = 6 := by unfold crE; rw [if_pos h, if_pos hl]
  unfold crV crC; rw [e]; rfl
theorem crV_3 {l : Pts} {rim : List Int} (h : chkL l = 0) (hl : ¬ (rim.length < 1 ∨ 3 < rim.length)) {i : Nat} (hi : i < rim.length) (hn : ¬ okI l.length rim i) : crV l rim = .tuple #[cirV c00, .int .i64 3] := by
  have e : crE l rim = 3 := by unfold crE; rw [if_pos h, if_neg hl, if_neg (fun g => hn (g i hi))]
  unfold crV crC; rw [e]; rfl
theorem crV_0 {l : Pts} {rim : List Int} (h : chkL l = 0) (hl : ¬ (rim.length < 1 ∨ 3 < rim.length)) (ho : OkRim l.length rim) : crV l rim = .tuple #[cirV (lst (ofL l rim)), .int .i64 0] := by
  have e : crE l rim = 0 := by unfold crE; rw [if_pos h, if_neg hl, if_pos ho]
  unfold crV crC; rw [e]; rfl
theorem OkRim.rm {n : Nat} {rim : List Int} (h : OkRim n rim) (hl : ¬ (rim.length < 1 ∨ 3 < rim.length)) : Rm n rim := ⟨by omega, fun x hx => by
  obtain ⟨i, hi, rfl⟩ := List.getElem_of_mem hx
  have := h i hi
  unfold okI at this
  rw [show rim.getD i 0 = rim[i] by simp [hi]] at this
  exact ⟨this.1, this.2.1⟩⟩
def last1 (rim : List Int) (i : Nat) : Int := if i = 0 then -1 else rim.getD (i - 1) 0
theorem last1_succ (rim : List Int) (i : Nat) : last1 rim (i + 1) = rim.getD i 0 := by unfold last1; rw [if_neg (by omega), Nat.add_sub_cancel]
theorem okI_iff {n : Nat} {rim : List Int} {i : Nat} (hp : ∀ j, j < i → okI n rim j) : okI n rim i ↔ last1 rim i < rim.getD i 0 ∧ rim.getD i 0 < n := by
  unfold okI last1
  split
  · rename_i h; subst h; omega
  · rename_i h
    have := (hp (i - 1) (by omega)).1
    omega
theorem okI_succ {n : Nat} {rim : List Int} {i : Nat} (hp : ∀ j, j < i → okI n rim j) (h : okI n rim i) : ∀ j, j < i + 1 → okI n rim j := fun j hj => by
  rcases Nat.lt_or_ge j i with g | g
  · exact hp j g
  · obtain rfl : j = i := by omega
    exact h
theorem c_CheckRim (w : World) (v o : Value) (l : Pts) (rim : List Int) (hR : RdF encP 2 w.heap.size w v l) (hI : RdF encI 1 w.heap.size w o rim) : Ret Try.prog 40 [v, o].toArray w (crV l rim) := by
  refine Ret.of mixed tyTab Try.func40 rfl rfl ?_
  replace hR : RdF encP 2 (fnCx mixed tyTab Try.f40.ntmps w).B (fnCx mixed tyTab Try.f40.ntmps w).w0 v l := hR
  replace hI : RdF encI 1 (fnCx mixed tyTab Try.f40.ntmps w).B (fnCx mixed tyTab Try.f40.ntmps w).w0 o rim := hI
  have hle := hR.sl.le
  have hle2 := hI.sl.le
  refine W.sreg ?_
  refine WO.alloc rfl rfl rfl (fun b1 hb1 => ?_)
  refine WO.p rfl rfl ?_
  refine WO.nil ?_
  refine W.seq ?_
  refine W.sreg ?_
  refine WO.p rfl rfl ?_
  refine WO.callR rfl Try.call34 (fun L w hi => c_CheckTrack w v l (hR.later hi)) rfl ?_
  refine WO.p rfl rfl ?_
  refine WO.nil ?_
  refine W.sreg ?_
  refine WO.p rfl rfl (WO.p rfl rfl ?_)
  refine WO.nil ?_
  refine W.cond_bl rfl (fun c1 => ?_) (fun c1 => ?_)
  · first
    | (exfalso; omega)
    | (refine W.sreg ?_
       refine' WO.build (cs := _) rfl rfl rfl ?hf rfl ?_
       case hf => (conv => lhs; simp [-List.getD_eq_getElem?_getD, fillL, vcl, wrl, TTab.pl?.lget']) <;> rfl
       refine WO.p rfl rfl (WO.storeA rfl rfl rfl rfl Pick.head rfl rfl (WO.p rfl rfl ?_))
       refine WO.nil ?_
       refine W.ret ?_
       refine fin.ret (Res.two rfl (RV.cell rfl rfl rfl (Cells.own (by repeat (first | exact Pick.head | apply Pick.tail)))) (RV.tmp rfl)) ?_
       first | exact (crV_c (by assumption)).symm | exact (crV_6 (by omega) (by omega)).symm | exact (crV_3 (i := i) (by omega) (by omega) (by omega) (fun g => by have := hoi.1 g; omega)).symm | exact (crV_0 (by omega) (by omega) hal).symm)
  · first
    | (exfalso; omega)
    | (refine W.skip ?_
       refine W.seq ?_
       refine W.sreg ?_
       refine WO.p rfl rfl ?_
       refine' WO.len (n := _) rfl rfl ?hs rfl ?_
       case hs => (first | exact hI.sl)
       refine WO.p rfl rfl (WO.p rfl rfl ?_)
       refine WO.guard_bl rfl rfl (fun c2 => ?_) (fun c2 => ?_)
       · first
         | (exfalso; omega)
         | (refine WO.no rfl rfl (WO.no rfl rfl (WO.no rfl rfl (WO.p rfl rfl ?_)))
            refine WO.nil ?_
            refine W.cond_t rfl ?_
            refine W.sreg ?_
            refine' WO.build (cs := _) rfl rfl rfl ?hf rfl ?_
            case hf => (conv => lhs; simp [-List.getD_eq_getElem?_getD, fillL, vcl, wrl, TTab.pl?.lget']) <;> rfl
            refine WO.storeA rfl rfl rfl rfl Pick.head rfl rfl (WO.p rfl rfl ?_)
            refine WO.nil ?_
            refine W.ret ?_
            refine fin.ret (Res.two rfl (RV.cell rfl rfl rfl (Cells.own (by repeat (first | exact Pick.head | apply Pick.tail)))) (RV.tmp rfl)) ?_
            first | exact (crV_c (by assumption)).symm | exact (crV_6 (by omega) (by omega)).symm | exact (crV_3 (i := i) (by omega) (by omega) (by omega) (fun g => by have := hoi.1 g; omega)).symm | exact (crV_0 (by omega) (by omega) hal).symm)
       · first
         | (exfalso; omega)
         | (refine WO.pg rfl rfl rfl (WO.go' rfl ?_)
            refine' WO.len (n := _) rfl rfl ?hs rfl ?_
            case hs => (first | exact hI.sl)
            refine WO.pg rfl rfl rfl (WO.p rfl rfl ?_)
            refine WO.nil ?_
            refine W.cond_bl rfl (fun c3 => ?_) (fun c3 => ?_)
            · first
              | (exfalso; omega)
              | (refine W.sreg ?_
                 refine' WO.build (cs := _) rfl rfl rfl ?hf rfl ?_
                 case hf => (conv => lhs; simp [-List.getD_eq_getElem?_getD, fillL, vcl, wrl, TTab.pl?.lget']) <;> rfl
                 refine WO.storeA rfl rfl rfl rfl Pick.head rfl rfl (WO.p rfl rfl ?_)
                 refine WO.nil ?_
                 refine W.ret ?_
                 refine fin.ret (Res.two rfl (RV.cell rfl rfl rfl (Cells.own (by repeat (first | exact Pick.head | apply Pick.tail)))) (RV.tmp rfl)) ?_
                 first | exact (crV_c (by assumption)).symm | exact (crV_6 (by omega) (by omega)).symm | exact (crV_3 (i := i) (by omega) (by omega) (by omega) (fun g => by have := hoi.1 g; omega)).symm | exact (crV_0 (by omega) (by omega) hal).symm)
            · first
              | (exfalso; omega)
              | (refine W.skip ?_
                 refine W.sreg ?_
                 refine WO.p rfl rfl ?_
                 refine WO.nil ?_
                 refine W.seq ?_
                 refine W.sreg ?_
                 refine WO.p rfl rfl ?_
                 refine' WO.len (n := _) rfl rfl ?hs rfl ?_
                 case hs => (first | exact hI.sl)
                 refine WO.p rfl rfl ?_
                 refine WO.nil ?_
                 refine W.block ?_
                 refine W.loop (fun (i : Nat) => i ≤ rim.length ∧ ∀ j, j < i → okI l.length rim j)
                   (fun (i : Nat) => [(27, .int .i64 (i : Int)), (26, .int .i64 (rim.length : Int)), (25, o), (7, .int .i64 (last1 rim i)), (4, .pointer (some ⟨b1, 0, none⟩)), (1, o), (0, v)])
                   (fun (i : Nat) => [pt b1 (.cells #[.int .i64 0, .int .i64 0, .int .i64 0, .int .i64 0, .int .i64 0] 27 (0, 0))])
                   (fun (i : Nat) => rim.length - i) 0
                   (by exact ⟨by omega, fun j hj => by omega⟩) ⟨rfl, rfl, rfl, rfl, rfl, rfl, rfl, trivial⟩ (by repeat (first | exact Sub.nil | refine Sub.cons (by repeat (first | exact Pick.head | apply Pick.tail)) ?_)) ?_
                 rintro i ⟨hi0, hal⟩
                 have hoi := okI_iff hal
                 have hls := last1_succ rim i
                 have hok := chkL0.1 (show chkL l = 0 by omega)
                 refine W.sreg ?_
                 refine WO.p rfl rfl ?_
                 refine WO.nil ?_
                 refine W.seq ?_
                 refine W.cond_bl rfl (fun c4 => ?_) (fun c4 => ?_)
                 · first
                   | (exfalso; omega)
                   | (refine W.skip ?_
                      refine W.seq ?_
                      refine W.block ?_
                      refine W.sreg ?_
                      refine' WO.indexAddr (n := _) (i := _) rfl rfl rfl ?hs ?h1 rfl ?_
                      case hs => (first | exact hI.sl)
                      case h1 => (first | omega | (simp; omega))
                      refine' WO.load (v := _) rfl rfl ?hc rfl ?_
                      case hc => (first | (refine hI.cell0 (i := i) ?_ 0 ?_ <;> first | rfl | omega))
                      refine WO.p rfl rfl ?_
                      refine WO.nil ?_
                      refine W.seq ?_
                      refine W.sreg ?_
                      refine WO.p rfl rfl (WO.p rfl rfl (WO.p rfl rfl (WO.p rfl rfl ?_)))
                      refine WO.guard_bl rfl rfl (fun c5 => ?_) (fun c5 => ?_)
                      · first
                        | (exfalso; omega)
                        | (refine WO.no rfl rfl (WO.no rfl rfl (WO.no rfl rfl (WO.no rfl rfl (WO.p rfl rfl ?_))))
                           refine WO.nil ?_
                           refine W.cond_t rfl ?_
                           refine W.sreg ?_
                           refine' WO.build (cs := _) rfl rfl rfl ?hf rfl ?_
                           case hf => (conv => lhs; simp [-List.getD_eq_getElem?_getD, fillL, vcl, wrl, TTab.pl?.lget']) <;> rfl
                           refine WO.storeA rfl rfl rfl rfl Pick.head rfl rfl (WO.p rfl rfl ?_)
                           refine WO.nil ?_
                           refine W.ret ?_
                           refine fin.ret (Res.two rfl (RV.cell rfl rfl rfl (Cells.own (by repeat (first | exact Pick.head | apply Pick.tail)))) (RV.tmp rfl)) ?_
                           first | exact (crV_c (by assumption)).symm | exact (crV_6 (by omega) (by omega)).symm | exact (crV_3 (i := i) (by omega) (by omega) (by omega) (fun g => by have := hoi.1 g; omega)).symm | exact (crV_0 (by omega) (by omega) hal).symm)
                      · first
                        | (exfalso; omega)
                        | (refine WO.pg rfl rfl rfl (WO.pg rfl rfl rfl (WO.go' rfl ?_))
                           refine' WO.len (n := _) rfl rfl ?hs rfl ?_
                           case hs => (first | exact hR.sl)
                           refine WO.pg rfl rfl rfl (WO.p rfl rfl ?_)
                           refine WO.nil ?_
                           refine W.cond_bl rfl (fun c6 => ?_) (fun c6 => ?_)
                           · first
                             | (exfalso; omega)
                             | (refine W.sreg ?_
                                refine' WO.build (cs := _) rfl rfl rfl ?hf rfl ?_
                                case hf => (conv => lhs; simp [-List.getD_eq_getElem?_getD, fillL, vcl, wrl, TTab.pl?.lget']) <;> rfl
                                refine WO.storeA rfl rfl rfl rfl Pick.head rfl rfl (WO.p rfl rfl ?_)
                                refine WO.nil ?_
                                refine W.ret ?_
                                refine fin.ret (Res.two rfl (RV.cell rfl rfl rfl (Cells.own (by repeat (first | exact Pick.head | apply Pick.tail)))) (RV.tmp rfl)) ?_
                                first | exact (crV_c (by assumption)).symm | exact (crV_6 (by omega) (by omega)).symm | exact (crV_3 (i := i) (by omega) (by omega) (by omega) (fun g => by have := hoi.1 g; omega)).symm | exact (crV_0 (by omega) (by omega) hal).symm)
                           · first
                             | (exfalso; omega)
                             | (refine W.skip ?_
                                rw [← hls]
                                refine W.region ?_
                                refine WO.p rfl rfl (WO.p rfl rfl ?_)
                                refine WO.nil ?_
                                refine W.region ?_
                                refine WO.ar rfl rfl rfl (by (first | (unfold in64; omega) | (unfold in64; omega))) rfl (WO.p rfl rfl ?_)
                                refine WO.nil ?_
                                refine' ⟨i + 1, ?hp, ?hmu, ⟨rfl, rfl, rfl, rfl, rfl, rfl, rfl, trivial⟩, ?hS⟩
                                case hS => repeat (first | exact Sub.nil | refine Sub.cons (by repeat (first | exact Pick.head | apply Pick.tail)) ?_)
                                case hp => exact ⟨by omega, okI_succ hal (hoi.2 ⟨by omega, by omega⟩)⟩
                                case hmu => omega)))
                 · first
                   | (exfalso; omega)
                   | (refine W.exit (blk_same ?_)
                      obtain rfl : rim.length = i := by omega
                      refine W.sreg ?_
                      refine WO.p rfl rfl ?_
                      refine WO.call (Post := fun r Hq => Hq = [OwE encP 74 2 r l]) rfl Try.call46 (fun L w hi => c_points w v l (hR.later hi) (by omega)) rfl ?_
                      rintro pv _ rfl
                      refine WO.p rfl rfl ?_
                      refine WO.callE rfl Try.call53 (fun L w hi => c_proved w pv o l rim (RdF.of_ow (e := 74) encP_ok (by repeat (first | exact Pick.head | apply Pick.tail)) hi) (hI.later hi) hok.2 (OkRim.rm hal (by omega))) rfl ?_
                      rintro _ ⟨a, n, k, rfl⟩
                      refine WO.fieldN rfl rfl rfl rfl rfl ?_
                      refine WO.storeA rfl rfl rfl rfl (Pick.tail (Pick.head)) rfl rfl (WO.p rfl rfl ?_)
                      refine WO.nil ?_
                      refine W.ret ?_
                      refine fin.ret (Res.two rfl (RV.cell rfl rfl rfl (Cells.own (by repeat (first | exact Pick.head | apply Pick.tail)))) (RV.tmp rfl)) ?_
                      first | exact (crV_c (by assumption)).symm | exact (crV_6 (by omega) (by omega)).symm | exact (crV_3 (i := i) (by omega) (by omega) (by omega) (fun g => by have := hoi.1 g; omega)).symm | exact (crV_0 (by omega) (by omega) hal).symm))))
theorem ref_Of (w : World) (v o : Value) (l : Pts) (rim : List Int) (hR : RdF encP 2 w.heap.size w v l) (hI : RdF encI 1 w.heap.size w o rim) (hr : ∀ x ∈ rim, 0 ≤ x ∧ x < l.length) (h3 : rim.length ≤ 1000) : Ct Try.prog 56 [v, o].toArray w fun r w' => ∃ Hq, (Hq = [OwE encP 39 2 r (ofL l rim)]) ∧ Inv w [] Hq w' := by
  refine Ct.of mixed tyTab Try.func56 rfl rfl ?_
  replace hR : RdF encP 2 (fnCx mixed tyTab Try.f56.ntmps w).B (fnCx mixed tyTab Try.f56.ntmps w).w0 v l := hR
  replace hI : RdF encI 1 (fnCx mixed tyTab Try.f56.ntmps w).B (fnCx mixed tyTab Try.f56.ntmps w).w0 o rim := hI
  have hle := hR.sl.le
  refine W.sreg ?_
  refine WO.p rfl rfl ?_
  refine WO.nil ?_
  refine W.sreg ?_
  refine WO.p rfl rfl ?_
  refine WO.nil ?_
  refine W.seq ?_
  refine W.sreg ?_
  refine WO.p rfl rfl ?_
  refine WO.nil ?_
  refine W.block ?_
  refine W.chg (owNil (enc := encP) (e := 39) (sz := 2)) ?_
  refine W.loop2 (fun (i : Nat) (x : Value) => i ≤ rim.length)
    (fun (i : Nat) (x : Value) => [(6, .int .i64 (i : Int)), (5, x), (1, o), (0, v)])
    (fun (i : Nat) (x : Value) => [OwE encP 39 2 x (ofL l (rim.take i))])
    (fun (i : Nat) (x : Value) => rim.length - i) 0 (.slice none 0 0)
    (by omega) ⟨rfl, rfl, rfl, rfl, trivial⟩ (by repeat (first | exact Sub.nil | refine Sub.cons (by repeat (first | exact Pick.head | apply Pick.tail)) ?_)) ?_
  rintro i x hi0
  refine W.seq ?_
  refine W.sreg ?_
  refine WO.p rfl rfl (WO.p rfl rfl ?_)
  refine' WO.len (n := _) rfl rfl ?hs rfl ?_
  case hs => (first | exact hI.sl)
  refine WO.p rfl rfl ?_
  refine WO.nil ?_
  refine W.cond_bl rfl (fun c1 => ?_) (fun c1 => ?_)
  · first
    | (exfalso; omega)
    | (refine W.skip ?_
       refine W.seq ?_
       refine W.block ?_
       have hri := hr _ (getD_mem (show i < rim.length by omega) 0)
       refine W.region ?_
       refine WO.p rfl rfl (WO.p rfl rfl (WO.p rfl rfl (WO.p rfl rfl ?_)))
       refine' WO.indexAddr (n := _) (i := _) rfl rfl rfl ?hs ?h1 rfl ?_
       case hs => (first | exact hI.sl)
       case h1 => (first | omega | (simp; omega))
       refine' WO.load (v := _) rfl rfl ?hc rfl ?_
       case hc => (first | (refine hI.cell0 (i := i) ?_ 0 ?_ <;> first | rfl | omega))
       refine' WO.indexAddrZ (n := _) rfl rfl rfl ?hs ?h00 ?h1 rfl ?_
       case hs => (first | exact hR.sl)
       case h00 => omega
       case h1 => (first | omega | (simp; omega))
       refine' WO.loadA (vs := _) rfl rfl ?hc ?hl rfl ?_
       case hc => (first | exact RdF.cells2 hR (i := (rim.getD i 0).toNat) (by omega))
       case hl => rfl
       refine' WO.buildSl (cs := _) rfl rfl rfl rfl ?hf rfl rfl ?hl rfl (fun v1 => ?_)
       case hf => (conv => lhs; simp [-List.getD_eq_getElem?_getD, fillL, vcl, wrl, TTab.pl?.lget']) <;> rfl
       case hl => rfl
       refine' WO.appendE (enc := encP) (m := 1) (ys := [l.at (rim.getD i 0).toNat]) encP_ok rfl rfl rfl rfl rfl (by repeat (first | exact Pick.head | apply Pick.tail)) (isSl_lit (by omega) (fun _ => ⟨_, _, rfl⟩)) (by omega) rfl (OwC.cells .head) (by rw [ofL_len, List.length_take]; omega) (by rw [ofL_len, List.length_take]; omega) rfl (fun g c => ?_)
       rw [← ofL_take l rim (by omega)]
       refine WO.p rfl rfl ?_
       refine WO.nil ?_
       refine W.region ?_
       refine WO.p rfl rfl (WO.ar rfl rfl rfl (by (first | (unfold in64; omega) | (unfold in64; omega))) rfl (WO.p rfl rfl ?_))
       refine WO.nil ?_
       refine' ⟨i + 1, _, ?hp, ?hmu, ⟨rfl, rfl, rfl, rfl, trivial⟩, ?hS⟩
       case hS => repeat (first | exact Sub.nil | refine Sub.cons (by repeat (first | exact Pick.head | apply Pick.tail)) ?_)
       case hp => omega
       case hmu => omega)
  · first
    | (exfalso; omega)
    | (refine W.exit (blk_same ?_)
       obtain rfl : rim.length = i := by omega
       rw [List.take_length]
       refine W.sreg ?_
       refine WO.p rfl rfl (WO.p rfl rfl ?_)
       refine WO.nil ?_
       refine W.ret ?_
       exact fin.ret (Res.one rfl (RV.tmp rfl)) rfl)
theorem ref_CheckRim (w : World) (v o : Value) (l : Pts) (rim : List Int) (hR : RdF encP 2 w.heap.size w v l) (hI : RdF encI 1 w.heap.size w o rim) : Ret Try.prog 31 [v, o].toArray w (crV l rim) := by
  refine Ret.of mixed tyTab Try.func31 rfl rfl ?_
  replace hR : RdF encP 2 (fnCx mixed tyTab Try.f31.ntmps w).B (fnCx mixed tyTab Try.f31.ntmps w).w0 v l := hR
  replace hI : RdF encI 1 (fnCx mixed tyTab Try.f31.ntmps w).B (fnCx mixed tyTab Try.f31.ntmps w).w0 o rim := hI
  have hle := hR.sl.le
  have hle2 := hI.sl.le
  refine W.sreg ?_
  refine WO.alloc rfl rfl rfl (fun b1 hb1 => ?_)
  refine WO.p rfl rfl ?_
  refine WO.nil ?_
  refine W.seq ?_
  refine W.sreg ?_
  refine WO.p rfl rfl ?_
  refine WO.callR rfl Try.call35 (fun L w hi => ref_CheckTrack w v l (hR.later hi)) rfl ?_
  refine WO.p rfl rfl ?_
  refine WO.nil ?_
  refine W.cond_bl rfl (fun c1 => ?_) (fun c1 => ?_)
  · first
    | (exfalso; omega)
    | (refine W.sreg ?_
       refine' WO.build (cs := _) rfl rfl rfl ?hf rfl ?_
       case hf => (conv => lhs; simp [-List.getD_eq_getElem?_getD, fillL, vcl, wrl, TTab.pl?.lget']) <;> rfl
       refine WO.p rfl rfl ?_
       refine WO.callR rfl Try.call35 (fun L w hi => ref_CheckTrack w v l (hR.later hi)) rfl ?_
       refine WO.storeA rfl rfl rfl rfl Pick.head rfl rfl (WO.p rfl rfl ?_)
       refine WO.nil ?_
       refine W.ret ?_
       refine fin.ret (Res.two rfl (RV.cell rfl rfl rfl (Cells.own (by repeat (first | exact Pick.head | apply Pick.tail)))) (RV.tmp rfl)) ?_
       first | exact (crV_c (by assumption)).symm | exact (crV_6 (by omega) (by omega)).symm | exact (crV_3 (i := i) (by omega) (by omega) (by omega) (fun g => by unfold okI at g; first | omega | (have g3 := g.2.2 (by omega); rw [← e1] at g3; omega))).symm | exact (crV_0 (by omega) (by omega) hal).symm)
  · first
    | (exfalso; omega)
    | (refine W.skip ?_
       refine W.seq ?_
       refine W.sreg ?_
       refine WO.p rfl rfl ?_
       refine' WO.len (n := _) rfl rfl ?hs rfl ?_
       case hs => (first | exact hI.sl)
       refine WO.p rfl rfl (WO.p rfl rfl ?_)
       refine WO.guard_bl rfl rfl (fun c2 => ?_) (fun c2 => ?_)
       · first
         | (exfalso; omega)
         | (refine WO.no rfl rfl (WO.no rfl rfl (WO.no rfl rfl (WO.p rfl rfl ?_)))
            refine WO.nil ?_
            refine W.cond_t rfl ?_
            refine W.sreg ?_
            refine' WO.build (cs := _) rfl rfl rfl ?hf rfl ?_
            case hf => (conv => lhs; simp [-List.getD_eq_getElem?_getD, fillL, vcl, wrl, TTab.pl?.lget']) <;> rfl
            refine WO.storeA rfl rfl rfl rfl Pick.head rfl rfl (WO.p rfl rfl ?_)
            refine WO.nil ?_
            refine W.ret ?_
            refine fin.ret (Res.two rfl (RV.cell rfl rfl rfl (Cells.own (by repeat (first | exact Pick.head | apply Pick.tail)))) (RV.tmp rfl)) ?_
            first | exact (crV_c (by assumption)).symm | exact (crV_6 (by omega) (by omega)).symm | exact (crV_3 (i := i) (by omega) (by omega) (by omega) (fun g => by unfold okI at g; first | omega | (have g3 := g.2.2 (by omega); rw [← e1] at g3; omega))).symm | exact (crV_0 (by omega) (by omega) hal).symm)
       · first
         | (exfalso; omega)
         | (refine WO.pg rfl rfl rfl (WO.go' rfl ?_)
            refine' WO.len (n := _) rfl rfl ?hs rfl ?_
            case hs => (first | exact hI.sl)
            refine WO.pg rfl rfl rfl (WO.p rfl rfl ?_)
            refine WO.nil ?_
            refine W.cond_bl rfl (fun c3 => ?_) (fun c3 => ?_)
            · first
              | (exfalso; omega)
              | (refine W.sreg ?_
                 refine' WO.build (cs := _) rfl rfl rfl ?hf rfl ?_
                 case hf => (conv => lhs; simp [-List.getD_eq_getElem?_getD, fillL, vcl, wrl, TTab.pl?.lget']) <;> rfl
                 refine WO.storeA rfl rfl rfl rfl Pick.head rfl rfl (WO.p rfl rfl ?_)
                 refine WO.nil ?_
                 refine W.ret ?_
                 refine fin.ret (Res.two rfl (RV.cell rfl rfl rfl (Cells.own (by repeat (first | exact Pick.head | apply Pick.tail)))) (RV.tmp rfl)) ?_
                 first | exact (crV_c (by assumption)).symm | exact (crV_6 (by omega) (by omega)).symm | exact (crV_3 (i := i) (by omega) (by omega) (by omega) (fun g => by unfold okI at g; first | omega | (have g3 := g.2.2 (by omega); rw [← e1] at g3; omega))).symm | exact (crV_0 (by omega) (by omega) hal).symm)
            · first
              | (exfalso; omega)
              | (refine W.skip ?_
                 refine W.seq ?_
                 refine W.sreg ?_
                 refine WO.p rfl rfl ?_
                 refine WO.nil ?_
                 refine W.block ?_
                 refine W.loop (fun (i : Nat) => i ≤ rim.length ∧ ∀ j, j < i → okI l.length rim j)
                   (fun (i : Nat) => [(6, .int .i64 (i : Int)), (4, .pointer (some ⟨b1, 0, none⟩)), (1, o), (0, v)])
                   (fun (i : Nat) => [pt b1 (.cells #[.int .i64 0, .int .i64 0, .int .i64 0, .int .i64 0, .int .i64 0] 27 (0, 0))])
                   (fun (i : Nat) => rim.length - i) 0
                   (by exact ⟨by omega, fun j hj => by omega⟩) ⟨rfl, rfl, rfl, rfl, trivial⟩ (by repeat (first | exact Sub.nil | refine Sub.cons (by repeat (first | exact Pick.head | apply Pick.tail)) ?_)) ?_
                 rintro i ⟨hi0, hal⟩
                 have e1 : ((i : Int) - 1).toNat = i - 1 := by omega
                 refine W.seq ?_
                 have hok := chkL0.1 (show chkL l = 0 by omega)
                 refine W.sreg ?_
                 refine WO.p rfl rfl (WO.p rfl rfl ?_)
                 refine' WO.len (n := _) rfl rfl ?hs rfl ?_
                 case hs => (first | exact hI.sl)
                 refine WO.p rfl rfl ?_
                 refine WO.nil ?_
                 refine W.cond_bl rfl (fun c4 => ?_) (fun c4 => ?_)
                 · first
                   | (exfalso; omega)
                   | (refine W.skip ?_
                      refine W.seq ?_
                      refine W.block ?_
                      refine W.seq ?_
                      refine W.drawD 27 [.r 0 [], .r 1 [], .r 2 [], .b 3 [], .r 4 [], .r 5 [], .r 6 [], .r 7 [], .r 8 [], .b 9 [], .r 10 [], .r 11 [], .r 12 [], .r 13 [], .r 14 [], .r 15 [], .r 16 [], .r 17 [], .r 18 [], .r 19 [], .r 20 [], .b 21 [], .r 22 [], .r 23 [], .r 24 [], .r 25 [], .b 26 []] [] (A0 := []) (Sub.refl _) (by kernel_rfl) ?_ ?_
                      · exact (ALok.r (ALok.r (ALok.r (ALok.b (ALok.r (ALok.r (ALok.r (ALok.r (ALok.r (ALok.b (ALok.r (ALok.r (ALok.r (ALok.r (ALok.r (ALok.r (ALok.r (ALok.r (ALok.r (ALok.r (ALok.r (ALok.b (ALok.r (ALok.r (ALok.r (ALok.r (ALok.b ALok.nil)))))))))))))))))))))))))))
                      refine' DT.r rfl rfl rfl ?hq ?_
                      case hq =>
                        refine WO.p rfl rfl ?_
                        exact WO.nil ⟨rfl, rfl⟩
                      refine' DT.r rfl rfl rfl ?hq ?_
                      case hq =>
                        refine WO.p rfl rfl ?_
                        exact WO.nil ⟨rfl, rfl⟩
                      refine' DT.r rfl rfl rfl ?hq ?_
                      case hq =>
                        refine' WO.indexAddr (n := _) (i := _) rfl rfl rfl ?hs ?h1 rfl ?_
                        case hs => (first | exact hI.sl)
                        case h1 => (first | omega | (simp; omega))
                        exact WO.nil ⟨rfl, rfl⟩
                      refine' DT.b rfl rfl rfl ?hq ?_
                      case hq =>
                        refine' WO.load (v := _) rfl rfl ?hc rfl ?_
                        case hc => (first | (refine hI.cell0 (i := i) ?_ 0 ?_ <;> first | rfl | omega))
                        exact WO.nil ⟨rfl, rfl⟩
                      refine' DT.r rfl rfl rfl ?hq ?_
                      case hq =>
                        refine WO.p rfl rfl ?_
                        exact WO.nil ⟨rfl, rfl⟩
                      refine' DT.rB rfl rfl rfl ?hq (fun c5 => ?_) (fun c5 => ?_)
                      case hq =>
                        refine WO.p rfl rfl ?_
                        exact WO.nil ⟨rfl, rfl⟩
                      · first
                        | (exfalso; omega)
                        | (refine' DT.r rfl rfl rfl ?hq ?_
                           case hq =>
                             refine WO.no rfl rfl ?_
                             exact WO.nil ⟨rfl, rfl⟩
                           refine' DT.r rfl rfl rfl ?hq ?_
                           case hq =>
                             refine WO.no rfl rfl ?_
                             exact WO.nil ⟨rfl, rfl⟩
                           refine' DT.r rfl rfl rfl ?hq ?_
                           case hq =>
                             refine WO.no rfl rfl ?_
                             exact WO.nil ⟨rfl, rfl⟩
                           refine' DT.b rfl rfl rfl ?hq ?_
                           case hq =>
                             refine WO.no rfl rfl ?_
                             exact WO.nil ⟨rfl, rfl⟩
                           refine' DT.r rfl rfl rfl ?hq ?_
                           case hq =>
                             refine WO.no rfl rfl ?_
                             exact WO.nil ⟨rfl, rfl⟩
                           refine' DT.r rfl rfl rfl ?hq ?_
                           case hq =>
                             refine WO.no rfl rfl ?_
                             exact WO.nil ⟨rfl, rfl⟩
                           refine' DT.r rfl rfl rfl ?hq ?_
                           case hq =>
                             refine WO.no rfl rfl ?_
                             exact WO.nil ⟨rfl, rfl⟩
                           refine' DT.r rfl rfl rfl ?hq ?_
                           case hq =>
                             refine WO.p rfl rfl ?_
                             exact WO.nil ⟨rfl, rfl⟩
                           refine' DT.r rfl rfl rfl ?hq ?_
                           case hq =>
                             refine WO.p rfl rfl ?_
                             exact WO.nil ⟨rfl, rfl⟩
                           refine' DT.r rfl rfl rfl ?hq ?_
                           case hq =>
                             refine WO.no rfl rfl ?_
                             exact WO.nil ⟨rfl, rfl⟩
                           refine' DT.r rfl rfl rfl ?hq ?_
                           case hq =>
                             refine WO.no rfl rfl ?_
                             exact WO.nil ⟨rfl, rfl⟩
                           refine' DT.r rfl rfl rfl ?hq ?_
                           case hq =>
                             refine WO.no rfl rfl ?_
                             exact WO.nil ⟨rfl, rfl⟩
                           refine' DT.r rfl rfl rfl ?hq ?_
                           case hq =>
                             refine WO.no rfl rfl ?_
                             exact WO.nil ⟨rfl, rfl⟩
                           refine' DT.r rfl rfl rfl ?hq ?_
                           case hq =>
                             refine WO.no rfl rfl ?_
                             exact WO.nil ⟨rfl, rfl⟩
                           refine' DT.r rfl rfl rfl ?hq ?_
                           case hq =>
                             refine WO.no rfl rfl ?_
                             exact WO.nil ⟨rfl, rfl⟩
                           refine' DT.b rfl rfl rfl ?hq ?_
                           case hq =>
                             refine WO.no rfl rfl ?_
                             exact WO.nil ⟨rfl, rfl⟩
                           refine' DT.r rfl rfl rfl ?hq ?_
                           case hq =>
                             refine WO.no rfl rfl ?_
                             exact WO.nil ⟨rfl, rfl⟩
                           refine' DT.r rfl rfl rfl ?hq ?_
                           case hq =>
                             refine WO.no rfl rfl ?_
                             exact WO.nil ⟨rfl, rfl⟩
                           refine' DT.r rfl rfl rfl ?hq ?_
                           case hq =>
                             refine WO.no rfl rfl ?_
                             exact WO.nil ⟨rfl, rfl⟩
                           refine' DT.r rfl rfl rfl ?hq ?_
                           case hq =>
                             refine WO.no rfl rfl ?_
                             exact WO.nil ⟨rfl, rfl⟩
                           refine' DT.b rfl rfl rfl ?hq ?_
                           case hq =>
                             refine WO.no rfl rfl ?_
                             exact WO.nil ⟨rfl, rfl⟩
                           refine DT.nil [_] rfl ?_
                           refine WO.no rfl rfl (WO.no rfl rfl (WO.p rfl rfl ?_))
                           refine WO.nil ?_
                           refine W.cond_t rfl ?_
                           refine W.sreg ?_
                           refine' WO.build (cs := _) rfl rfl rfl ?hf rfl ?_
                           case hf => (conv => lhs; simp [-List.getD_eq_getElem?_getD, fillL, vcl, wrl, TTab.pl?.lget']) <;> rfl
                           refine WO.storeA rfl rfl rfl rfl Pick.head rfl rfl (WO.p rfl rfl ?_)
                           refine WO.nil ?_
                           refine W.ret ?_
                           refine fin.ret (Res.two rfl (RV.cell rfl rfl rfl (Cells.own (by repeat (first | exact Pick.head | apply Pick.tail)))) (RV.tmp rfl)) ?_
                           first | exact (crV_c (by assumption)).symm | exact (crV_6 (by omega) (by omega)).symm | exact (crV_3 (i := i) (by omega) (by omega) (by omega) (fun g => by unfold okI at g; first | omega | (have g3 := g.2.2 (by omega); rw [← e1] at g3; omega))).symm | exact (crV_0 (by omega) (by omega) hal).symm)
                      · first
                        | (exfalso; omega)
                        | (refine' DT.r rfl rfl rfl ?hq ?_
                           case hq =>
                             refine WO.pg rfl rfl rfl ?_
                             exact WO.nil ⟨rfl, rfl⟩
                           refine' DT.r rfl rfl rfl ?hq ?_
                           case hq =>
                             refine WO.pg rfl rfl rfl ?_
                             exact WO.nil ⟨rfl, rfl⟩
                           refine' DT.r rfl rfl rfl ?hq ?_
                           case hq =>
                             refine WO.go' rfl ?_
                             refine' WO.indexAddr (n := _) (i := _) rfl rfl rfl ?hs ?h1 rfl ?_
                             case hs => (first | exact hI.sl)
                             case h1 => (first | omega | (simp; omega))
                             exact WO.nil ⟨rfl, rfl⟩
                           refine' DT.b rfl rfl rfl ?hq ?_
                           case hq =>
                             refine WO.go' rfl ?_
                             refine' WO.load (v := _) rfl rfl ?hc rfl ?_
                             case hc => (first | (refine hI.cell0 (i := i) ?_ 0 ?_ <;> first | rfl | omega))
                             exact WO.nil ⟨rfl, rfl⟩
                           refine' DT.r rfl rfl rfl ?hq ?_
                           case hq =>
                             refine WO.pg rfl rfl rfl ?_
                             exact WO.nil ⟨rfl, rfl⟩
                           refine' DT.r rfl rfl rfl ?hq ?_
                           case hq =>
                             refine WO.go' rfl ?_
                             refine' WO.len (n := _) rfl rfl ?hs rfl ?_
                             case hs => (first | exact hR.sl)
                             exact WO.nil ⟨rfl, rfl⟩
                           refine' DT.r rfl rfl rfl ?hq ?_
                           case hq =>
                             refine WO.pg rfl rfl rfl ?_
                             exact WO.nil ⟨rfl, rfl⟩
                           refine' DT.r rfl rfl rfl ?hq ?_
                           case hq =>
                             refine WO.p rfl rfl ?_
                             exact WO.nil ⟨rfl, rfl⟩
                           refine' DT.rB rfl rfl rfl ?hq (fun c6 => ?_) (fun c6 => ?_)
                           case hq =>
                             refine WO.p rfl rfl ?_
                             exact WO.nil ⟨rfl, rfl⟩
                           · first
                             | (exfalso; omega)
                             | (refine' DT.r rfl rfl rfl ?hq ?_
                                case hq =>
                                  refine WO.no rfl rfl ?_
                                  exact WO.nil ⟨rfl, rfl⟩
                                refine' DT.r rfl rfl rfl ?hq ?_
                                case hq =>
                                  refine WO.no rfl rfl ?_
                                  exact WO.nil ⟨rfl, rfl⟩
                                refine' DT.r rfl rfl rfl ?hq ?_
                                case hq =>
                                  refine WO.no rfl rfl ?_
                                  exact WO.nil ⟨rfl, rfl⟩
                                refine' DT.r rfl rfl rfl ?hq ?_
                                case hq =>
                                  refine WO.no rfl rfl ?_
                                  exact WO.nil ⟨rfl, rfl⟩
                                refine' DT.r rfl rfl rfl ?hq ?_
                                case hq =>
                                  refine WO.no rfl rfl ?_
                                  exact WO.nil ⟨rfl, rfl⟩
                                refine' DT.r rfl rfl rfl ?hq ?_
                                case hq =>
                                  refine WO.no rfl rfl ?_
                                  exact WO.nil ⟨rfl, rfl⟩
                                refine' DT.b rfl rfl rfl ?hq ?_
                                case hq =>
                                  refine WO.no rfl rfl ?_
                                  exact WO.nil ⟨rfl, rfl⟩
                                refine' DT.r rfl rfl rfl ?hq ?_
                                case hq =>
                                  refine WO.no rfl rfl ?_
                                  exact WO.nil ⟨rfl, rfl⟩
                                refine' DT.r rfl rfl rfl ?hq ?_
                                case hq =>
                                  refine WO.no rfl rfl ?_
                                  exact WO.nil ⟨rfl, rfl⟩
                                refine' DT.r rfl rfl rfl ?hq ?_
                                case hq =>
                                  refine WO.no rfl rfl ?_
                                  exact WO.nil ⟨rfl, rfl⟩
                                refine' DT.r rfl rfl rfl ?hq ?_
                                case hq =>
                                  refine WO.no rfl rfl ?_
                                  exact WO.nil ⟨rfl, rfl⟩
                                refine' DT.b rfl rfl rfl ?hq ?_
                                case hq =>
                                  refine WO.no rfl rfl ?_
                                  exact WO.nil ⟨rfl, rfl⟩
                                refine DT.nil [_] rfl ?_
                                refine WO.no rfl rfl (WO.no rfl rfl (WO.p rfl rfl ?_))
                                refine WO.nil ?_
                                refine W.cond_t rfl ?_
                                refine W.sreg ?_
                                refine' WO.build (cs := _) rfl rfl rfl ?hf rfl ?_
                                case hf => (conv => lhs; simp [-List.getD_eq_getElem?_getD, fillL, vcl, wrl, TTab.pl?.lget']) <;> rfl
                                refine WO.storeA rfl rfl rfl rfl Pick.head rfl rfl (WO.p rfl rfl ?_)
                                refine WO.nil ?_
                                refine W.ret ?_
                                refine fin.ret (Res.two rfl (RV.cell rfl rfl rfl (Cells.own (by repeat (first | exact Pick.head | apply Pick.tail)))) (RV.tmp rfl)) ?_
                                first | exact (crV_c (by assumption)).symm | exact (crV_6 (by omega) (by omega)).symm | exact (crV_3 (i := i) (by omega) (by omega) (by omega) (fun g => by unfold okI at g; first | omega | (have g3 := g.2.2 (by omega); rw [← e1] at g3; omega))).symm | exact (crV_0 (by omega) (by omega) hal).symm)
                           · first
                             | (exfalso; omega)
                             | (refine' DT.r rfl rfl rfl ?hq ?_
                                case hq =>
                                  refine WO.pg rfl rfl rfl ?_
                                  exact WO.nil ⟨rfl, rfl⟩
                                refine' DT.r rfl rfl rfl ?hq ?_
                                case hq =>
                                  refine WO.pg rfl rfl rfl ?_
                                  exact WO.nil ⟨rfl, rfl⟩
                                refine' DT.rB rfl rfl rfl ?hq (fun c7 => ?_) (fun c7 => ?_)
                                case hq =>
                                  refine WO.pg rfl rfl rfl ?_
                                  exact WO.nil ⟨rfl, rfl⟩
                                · first
                                  | (exfalso; omega)
                                  | (refine' DT.r rfl rfl rfl ?hq ?_
                                     case hq =>
                                       refine WO.pg rfl rfl rfl ?_
                                       exact WO.nil ⟨rfl, rfl⟩
                                     refine' DT.r rfl rfl rfl ?hq ?_
                                     case hq =>
                                       refine WO.pg rfl rfl rfl ?_
                                       exact WO.nil ⟨rfl, rfl⟩
                                     refine' DT.r rfl rfl rfl ?hq ?_
                                     case hq =>
                                       refine WO.go' rfl ?_
                                       refine' WO.indexAddr (n := _) (i := _) rfl rfl rfl ?hs ?h1 rfl ?_
                                       case hs => (first | exact hI.sl)
                                       case h1 => (first | omega | (simp; omega))
                                       exact WO.nil ⟨rfl, rfl⟩
                                     refine' DT.b rfl rfl rfl ?hq ?_
                                     case hq =>
                                       refine WO.go' rfl ?_
                                       refine' WO.load (v := _) rfl rfl ?hc rfl ?_
                                       case hc => (first | (refine hI.cell0 (i := i) ?_ 0 ?_ <;> first | rfl | omega))
                                       exact WO.nil ⟨rfl, rfl⟩
                                     refine' DT.r rfl rfl rfl ?hq ?_
                                     case hq =>
                                       refine WO.pg rfl rfl rfl ?_
                                       exact WO.nil ⟨rfl, rfl⟩
                                     refine' DT.r rfl rfl rfl ?hq ?_
                                     case hq =>
                                       refine WO.pg rfl rfl rfl ?_
                                       exact WO.nil ⟨rfl, rfl⟩
                                     refine' DT.r rfl rfl rfl ?hq ?_
                                     case hq =>
                                       refine WO.go' rfl (WO.ar rfl rfl rfl (by (first | (unfold in64; omega) | (unfold in64; omega))) rfl ?_)
                                       exact WO.nil ⟨rfl, rfl⟩
                                     refine' DT.r rfl rfl rfl ?hq ?_
                                     case hq =>
                                       refine WO.go' rfl ?_
                                       refine' WO.indexAddrZ (n := _) rfl rfl rfl ?hs ?h00 ?h1 rfl ?_
                                       case hs => (first | exact hI.sl)
                                       case h00 => omega
                                       case h1 => (first | omega | (simp; omega))
                                       exact WO.nil ⟨rfl, rfl⟩
                                     refine' DT.b rfl rfl rfl ?hq ?_
                                     case hq =>
                                       refine WO.go' rfl ?_
                                       refine' WO.load (v := _) rfl rfl ?hc rfl ?_
                                       case hc => (first | (refine hI.cell0 (i := ((i : Int) - 1).toNat) ?_ 0 ?_ <;> first | rfl | omega))
                                       exact WO.nil ⟨rfl, rfl⟩
                                     refine DT.nil [_] rfl ?_
                                     refine WO.pg rfl rfl rfl (WO.pg rfl rfl rfl (WO.p rfl rfl ?_))
                                     refine WO.nil ?_
                                     refine W.cond_bl rfl (fun c8 => ?_) (fun c8 => ?_)
                                     · first
                                       | (exfalso; omega)
                                       | (refine W.sreg ?_
                                          refine' WO.build (cs := _) rfl rfl rfl ?hf rfl ?_
                                          case hf => (conv => lhs; simp [-List.getD_eq_getElem?_getD, fillL, vcl, wrl, TTab.pl?.lget']) <;> rfl
                                          refine WO.storeA rfl rfl rfl rfl Pick.head rfl rfl (WO.p rfl rfl ?_)
                                          refine WO.nil ?_
                                          refine W.ret ?_
                                          refine fin.ret (Res.two rfl (RV.cell rfl rfl rfl (Cells.own (by repeat (first | exact Pick.head | apply Pick.tail)))) (RV.tmp rfl)) ?_
                                          first | exact (crV_c (by assumption)).symm | exact (crV_6 (by omega) (by omega)).symm | exact (crV_3 (i := i) (by omega) (by omega) (by omega) (fun g => by unfold okI at g; first | omega | (have g3 := g.2.2 (by omega); rw [← e1] at g3; omega))).symm | exact (crV_0 (by omega) (by omega) hal).symm)
                                     · first
                                       | (exfalso; omega)
                                       | (refine W.skip ?_
                                          refine W.region ?_
                                          refine WO.p rfl rfl (WO.ar rfl rfl rfl (by (first | (unfold in64; omega) | (unfold in64; omega))) rfl (WO.p rfl rfl ?_))
                                          refine WO.nil ?_
                                          refine' ⟨i + 1, ?hp, ?hmu, ⟨rfl, rfl, rfl, rfl, trivial⟩, ?hS⟩
                                          case hS => repeat (first | exact Sub.nil | refine Sub.cons (by repeat (first | exact Pick.head | apply Pick.tail)) ?_)
                                          case hp => exact ⟨by omega, okI_succ hal ⟨by omega, by omega, fun g => by first | (exfalso; omega) | (rw [← e1]; omega)⟩⟩
                                          case hmu => omega))
                                · first
                                  | (exfalso; omega)
                                  | (refine' DT.r rfl rfl rfl ?hq ?_
                                     case hq =>
                                       refine WO.no rfl rfl ?_
                                       exact WO.nil ⟨rfl, rfl⟩
                                     refine' DT.r rfl rfl rfl ?hq ?_
                                     case hq =>
                                       refine WO.no rfl rfl ?_
                                       exact WO.nil ⟨rfl, rfl⟩
                                     refine' DT.r rfl rfl rfl ?hq ?_
                                     case hq =>
                                       refine WO.no rfl rfl ?_
                                       exact WO.nil ⟨rfl, rfl⟩
                                     refine' DT.b rfl rfl rfl ?hq ?_
                                     case hq =>
                                       refine WO.no rfl rfl ?_
                                       exact WO.nil ⟨rfl, rfl⟩
                                     refine' DT.r rfl rfl rfl ?hq ?_
                                     case hq =>
                                       refine WO.no rfl rfl ?_
                                       exact WO.nil ⟨rfl, rfl⟩
                                     refine' DT.r rfl rfl rfl ?hq ?_
                                     case hq =>
                                       refine WO.no rfl rfl ?_
                                       exact WO.nil ⟨rfl, rfl⟩
                                     refine' DT.r rfl rfl rfl ?hq ?_
                                     case hq =>
                                       refine WO.no rfl rfl ?_
                                       exact WO.nil ⟨rfl, rfl⟩
                                     refine' DT.r rfl rfl rfl ?hq ?_
                                     case hq =>
                                       refine WO.no rfl rfl ?_
                                       exact WO.nil ⟨rfl, rfl⟩
                                     refine' DT.b rfl rfl rfl ?hq ?_
                                     case hq =>
                                       refine WO.no rfl rfl ?_
                                       exact WO.nil ⟨rfl, rfl⟩
                                     refine DT.nil [_] rfl ?_
                                     refine WO.no rfl rfl (WO.pg rfl rfl rfl (WO.p rfl rfl ?_))
                                     refine WO.nil ?_
                                     refine W.cond_f rfl ?_
                                     refine W.skip ?_
                                     refine W.region ?_
                                     refine WO.p rfl rfl (WO.ar rfl rfl rfl (by (first | (unfold in64; omega) | (unfold in64; omega))) rfl (WO.p rfl rfl ?_))
                                     refine WO.nil ?_
                                     refine' ⟨i + 1, ?hp, ?hmu, ⟨rfl, rfl, rfl, rfl, trivial⟩, ?hS⟩
                                     case hS => repeat (first | exact Sub.nil | refine Sub.cons (by repeat (first | exact Pick.head | apply Pick.tail)) ?_)
                                     case hp => exact ⟨by omega, okI_succ hal ⟨by omega, by omega, fun g => by first | (exfalso; omega) | (rw [← e1]; omega)⟩⟩
                                     case hmu => omega))))
                 · first
                   | (exfalso; omega)
                   | (refine W.exit (blk_same ?_)
                      obtain rfl : rim.length = i := by omega
                      have hrm := OkRim.rm hal (by omega)
                      have hln := hrm.len
                      refine W.sreg ?_
                      refine WO.p rfl rfl (WO.p rfl rfl ?_)
                      refine WO.call (Post := fun r Hq => Hq = [OwE encP 39 2 r (ofL l rim)]) rfl Try.call56 (fun L w hi => ref_Of w v o l rim (hR.later hi) (hI.later hi) hrm.rng (by omega)) rfl ?_
                      rintro pv _ rfl
                      refine WO.callR rfl Try.call47 (fun L w hi => ref_Least w pv (ofL l rim) (RdF.of_ow (e := 39) encP_ok (by repeat (first | exact Pick.head | apply Pick.tail)) hi) (ofL_ok hok.2 hrm.rng) (by rw [ofL_len]; omega) (by rw [ofL_len]; omega)) rfl ?_
                      refine WO.storeA rfl rfl rfl rfl (Pick.tail (Pick.head)) rfl rfl (WO.p rfl rfl ?_)
                      refine WO.nil ?_
                      refine W.ret ?_
                      refine fin.ret (Res.two rfl (RV.cell rfl rfl rfl (Cells.own (by repeat (first | exact Pick.head | apply Pick.tail)))) (RV.tmp rfl)) ?_
                      first | exact (crV_c (by assumption)).symm | exact (crV_6 (by omega) (by omega)).symm | exact (crV_3 (i := i) (by omega) (by omega) (by omega) (fun g => by unfold okI at g; first | omega | (have g3 := g.2.2 (by omega); rw [← e1] at g3; omega))).symm | exact (crV_0 (by omega) (by omega) hal).symm))))
theorem ref_Smallest (w : World) (v : Value) (l : Pts) (hR : RdF encP 2 w.heap.size w v l) : Ret Try.prog 16 [v].toArray w (.tuple #[cirV (if chkL l = 0 then lst l else ⟨0, 0, 0, 0, 0⟩), .int .i64 (chkL l)]) := by
  refine Ret.of mixed tyTab Try.func16 rfl rfl ?_
  replace hR : RdF encP 2 (fnCx mixed tyTab Try.f16.ntmps w).B (fnCx mixed tyTab Try.f16.ntmps w).w0 v l := hR
  refine W.sreg ?_
  refine WO.alloc rfl rfl rfl (fun b1 hb1 => ?_)
  refine WO.p rfl rfl ?_
  refine WO.nil ?_
  refine W.seq ?_
  refine W.sreg ?_
  refine WO.p rfl rfl ?_
  refine WO.callR rfl Try.call35 (fun L w hi => ref_CheckTrack w v l (hR.later hi)) rfl ?_
  refine WO.p rfl rfl ?_
  refine WO.nil ?_
  refine W.cond_bl rfl (fun c1 => ?_) (fun c1 => ?_)
  · first
    | (exfalso; omega)
    | (refine W.sreg ?_
       refine' WO.build (cs := _) rfl rfl rfl ?hf rfl ?_
       case hf => (conv => lhs; simp [-List.getD_eq_getElem?_getD, fillL, vcl, wrl, TTab.pl?.lget']) <;> rfl
       refine WO.p rfl rfl ?_
       refine WO.callR rfl Try.call35 (fun L w hi => ref_CheckTrack w v l (hR.later hi)) rfl ?_
       refine WO.storeA rfl rfl rfl rfl Pick.head rfl rfl (WO.p rfl rfl ?_)
       refine WO.nil ?_
       refine W.ret ?_
       refine fin.ret (Res.two rfl (RV.cell rfl rfl rfl (Cells.own (by repeat (first | exact Pick.head | apply Pick.tail)))) (RV.tmp rfl)) ?_
       first | (rw [if_neg (by assumption)]; done) | (have e : chkL l = 0 := (by omega); rw [if_pos e, e]; done))
  · first
    | (exfalso; omega)
    | (refine W.skip ?_
       refine W.sreg ?_
       refine WO.p rfl rfl ?_
       have hok := chkL0.1 (show chkL l = 0 by omega)
       refine WO.callR rfl Try.call47 (fun L w hi => ref_Least w v l (hR.later hi) hok.2 (by omega) (by omega)) rfl ?_
       refine WO.storeA rfl rfl rfl rfl Pick.head rfl rfl (WO.p rfl rfl ?_)
       refine WO.nil ?_
       refine W.ret ?_
       refine fin.ret (Res.two rfl (RV.cell rfl rfl rfl (Cells.own (by repeat (first | exact Pick.head | apply Pick.tail)))) (RV.tmp rfl)) ?_
       first | (rw [if_neg (by assumption)]; done) | (have e : chkL l = 0 := (by omega); rw [if_pos e, e]; done))
end Go.Proofs.Ytkhplcncfogolaa
