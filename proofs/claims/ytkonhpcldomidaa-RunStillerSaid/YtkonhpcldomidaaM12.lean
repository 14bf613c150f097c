/-
  What is proved here: an order drawn from bytes. Conditions: none; each contract states its own.
  What is proved here: plain: parts of orders. Conditions: none; each contract states its own.
-/
import Derived.Test.YtkonhpcldomidaaM8
set_option linter.unusedVariables false
set_option linter.unusedSimpArgs false
namespace Go.Proofs.Ytkonhpcldomidaa
open Go Go.TH
attribute [local irreducible] W WO pt
set_option maxRecDepth 10000
set_option maxHeartbeats 1000000
theorem encU_ok : EncOk encU 1 := by
  refine ⟨fun _ => rfl, fun x u hu => ?_, by omega⟩
  simp [encU] at hu
  subst hu; rfl
theorem OwE.subCells {C : Cx Try.prog} {H H' : List HP} {e n c lo hi mx : Nat} {a : Option Addr} {xs : List Int} (p : Pick (OwE encI e 1 (.slice a n c) xs) H H') (h1 : lo ≤ hi) (h2 : hi ≤ mx) (h3 : hi ≤ xs.length) : Cells C H (base (.slice (if mx = lo then a else ofs a (lo * 1)) (hi - lo) (mx - lo))) (((xs.drop lo).take (hi - lo)).flatMap encI) := by
  intro j v hv L w hi'
  have hR := RdF.of_ow (e := e) encI_ok p hi'
  have hn : n = xs.length := by
    obtain ⟨_, a', c', he, _⟩ := hR.sl
    injection he
  have hS := hR.sub (lo := lo) (hi := hi) (mx := mx) h1 h2 (by omega)
  have hj : j < ((xs.drop lo).take (hi - lo)).length := by
    have := (List.getElem?_eq_some_iff.1 hv).1
    rw [encI_ok.flat_len] at this
    omega
  obtain ⟨x, hx⟩ : ∃ x, ((xs.drop lo).take (hi - lo))[j]? = some x := ⟨_, List.getElem?_eq_getElem hj⟩
  have h4 := hS.cell j x hx 0 (.int .i64 x) rfl
  have h5 : v = .int .i64 x := by
    have h6 : (((xs.drop lo).take (hi - lo)).flatMap encI)[j]? = some (.int .i64 x) := by
      rw [show ((xs.drop lo).take (hi - lo)).flatMap encI = ((xs.drop lo).take (hi - lo)).map (fun z => Value.int .i64 z) from by unfold encI; exact (List.map_eq_flatMap ..).symm, List.getElem?_map, hx]; rfl
    rw [hv] at h6
    injection h6
  rw [h5]
  simpa [Addr.add] using h4
def iota (n : Nat) : List Int := (List.range n).map fun i : Nat => (i : Int)
theorem iota_succ (n : Nat) : iota (n + 1) = iota n ++ [(n : Int)] := by unfold iota; rw [List.range_succ, List.map_append]; rfl
theorem iota_len (n : Nat) : (iota n).length = n := by simp [iota]
def odK (left : List Int) (x : Int) : Nat := (x.tmod left.length).toNat
def od1 (s : List Int × List Int) (x : Int) : List Int × List Int := if s.1 = [] then s else (s.1.eraseIdx (odK s.1 x), s.2 ++ [s.1.getD (odK s.1 x) 0])
def odI (n : Nat) (bs : List Int) (i : Nat) : List Int × List Int := (bs.take i).foldl od1 (iota n, [])
/-- the order that some bytes draw -/
def odL (n : Nat) (bs : List Int) : List Int := (odI n bs bs.length).2
theorem odI_succ {n : Nat} {bs : List Int} {i : Nat} (h : i < bs.length) : odI n bs (i + 1) = od1 (odI n bs i) (bs.getD i 0) := by unfold odI; exact fold_take _ _ _ h
theorem odI_stop {n : Nat} {bs : List Int} {i : Nat} (h : (odI n bs i).1 = []) : ∀ j, i ≤ j → odI n bs j = odI n bs i
  | 0, hj => by rw [show i = 0 by omega]
  | j + 1, hj => by
    rcases Nat.lt_or_ge i (j + 1) with g | g
    · have ih := odI_stop h j (by omega)
      rcases Nat.lt_or_ge j bs.length with q | q
      · rw [odI_succ q, ih]; exact if_pos h
      rw [← ih]; unfold odI; rw [List.take_of_length_le q, List.take_of_length_le (by omega)]
    rw [show i = j + 1 by omega]
theorem tmod_at {x : Int} {n : Nat} (h0 : 0 ≤ x) (hn : 0 < n) : x.tmod (n : Int) = ((x.tmod (n : Int)).toNat : Int) ∧ (x.tmod (n : Int)).toNat < n := by
  have h1 := Int.tmod_nonneg (n : Int) h0
  have h2 := Int.tmod_lt_of_pos x (show (0 : Int) < n by omega)
  omega
theorem erase_perm : ∀ {xs : List Int} {k : Nat}, k < xs.length → (xs.getD k 0 :: xs.eraseIdx k).Perm xs
  | [], _, h => by simp at h
  | x :: r, 0, _ => List.Perm.refl _
  | x :: r, k + 1, h => by
    have ih := erase_perm (xs := r) (k := k) (by simpa using h)
    exact (List.Perm.swap _ _ _).trans (ih.cons x)
/-- what is left and what was taken, together -/
theorem od1_perm {s : List Int × List Int} {x : Int} (hx : 0 ≤ x) : ((od1 s x).2 ++ (od1 s x).1).Perm (s.2 ++ s.1) := by
  unfold od1
  split
  · exact List.Perm.refl _
  rename_i h
  have hl : 0 < s.1.length := List.length_pos_iff.2 h
  have hk := (tmod_at hx hl).2
  show ((s.2 ++ [s.1.getD (odK s.1 x) 0]) ++ s.1.eraseIdx (odK s.1 x)).Perm (s.2 ++ s.1)
  rw [List.append_assoc]
  exact List.Perm.append_left _ (erase_perm hk)
theorem odI_perm {n : Nat} {bs : List Int} (hb : ∀ x ∈ bs, 0 ≤ x ∧ x ≤ 255) : ∀ i, ((odI n bs i).2 ++ (odI n bs i).1).Perm (iota n)
  | 0 => by unfold odI; exact List.Perm.refl _
  | i + 1 => by
    have ih := odI_perm (n := n) hb i
    rcases Nat.lt_or_ge i bs.length with q | q
    · rw [odI_succ q]
      exact (od1_perm (hb _ (getD_mem q 0)).1).trans ih
    have e : odI n bs (i + 1) = odI n bs i := by unfold odI; rw [List.take_of_length_le q, List.take_of_length_le (by omega)]
    rw [e]; exact ih
theorem odL_ok {l : List Rn} {bs : List Int} (hb : ∀ x ∈ bs, 0 ≤ x ∧ x ≤ 255) : (∀ x ∈ odL l.length bs, In l x) ∧ (odL l.length bs).Nodup := by
  have h := odI_perm (n := l.length) hb bs.length
  constructor
  · intro x hx
    have h1 : x ∈ iota l.length := h.mem_iff.1 (List.mem_append_left _ hx)
    obtain ⟨i, hi, rfl⟩ := List.mem_map.1 h1
    have := List.mem_range.1 hi
    unfold In; omega
  have h2 : (iota l.length).Nodup := by
    unfold iota
    exact List.Pairwise.map _ (fun a b (q : a ≠ b) => by show (a : Int) ≠ (b : Int); omega) List.nodup_range
  exact (List.nodup_append.1 (h.nodup_iff.2 h2)).1
theorem erase_eq {xs : List Int} {k : Nat} : [] ++ (xs.drop 0).take (k - 0) ++ (xs.drop (k + 1)).take (xs.length - (k + 1)) = xs.eraseIdx k := by
  rw [List.eraseIdx_eq_take_drop_succ, List.drop_zero, Nat.sub_zero, List.nil_append, List.take_of_length_le (l := xs.drop (k + 1)) (by rw [List.length_drop]; omega)]
theorem isSl_sub {la : Option Addr} {n lc lo d mx : Nat} (h : d ≤ n - lo) (hs : IsSl (.slice la n lc) n) : IsSl (.slice (if mx = lo then la else ofs la (lo * 1)) d (mx - lo)) d := by
  obtain ⟨hle, a', c', he, hb⟩ := hs
  injection he with e1 e2 e3
  subst e1
  refine ⟨by omega, _, _, rfl, fun h0 => ?_⟩
  obtain ⟨b, o, rfl⟩ := hb (by omega)
  split
  · exact ⟨b, o, rfl⟩
  exact ⟨b, o + lo * 1, by simp [ofs, Addr.add]⟩
theorem law_Order (w : World) (v u : Value) (a b : Int) (l : List Rn) (bs : List Int) (hR : RdF encR 6 w.heap.size w v l) (hX : RdF encU 1 w.heap.size w u bs) (hb : ∀ x ∈ bs, 0 ≤ x ∧ x ≤ 255) (h12 : l.length ≤ 12) : Ct Try.prog 27 [dayV a b v, u].toArray w fun r w' => ∃ Hq, (∃ x : Value, r = x ∧ Hq = [OwE encI 3 1 x (odL l.length bs)]) ∧ Inv w [] Hq w' := by
  refine Ct.ofI (X := Value) (p := fun x r => r = x) (Hx := fun x => [OwE encI 3 1 x (odL l.length bs)]) mixed tyTab Try.func27 rfl rfl ?_
  replace hR : RdF encR 6 (fnCx mixed tyTab Try.f27.ntmps w).B (fnCx mixed tyTab Try.f27.ntmps w).w0 v l := hR
  replace hX : RdF encU 1 (fnCx mixed tyTab Try.f27.ntmps w).B (fnCx mixed tyTab Try.f27.ntmps w).w0 u bs := hX
  have ho := hR.sl.oc
  have hxle := hX.sl.le
  refine W.sreg ?_
  refine WO.boxA rfl rfl (fun b1 hb1 => ?_)
  refine WO.p rfl rfl ?_
  refine WO.nil ?_
  refine W.sreg ?_
  refine WO.p rfl rfl (WO.p rfl rfl ?_)
  refine WO.nil ?_
  refine W.seq ?_
  refine W.sreg ?_
  refine WO.p rfl rfl ?_
  refine WO.nil ?_
  refine W.block ?_
  refine W.chg (owNil (enc := encI) (e := 3) (sz := 1)) ?_
  rw [show OwE encI 3 1 (.slice none 0 0) ([] : List Int) = OwE encI 3 1 (.slice none 0 0) (iota 0) from rfl]
  refine W.loop2 (fun (k : Nat) (lv : Value) => k ≤ l.length)
    (fun (k : Nat) (lv : Value) => [(1, u), (2, .pointer (some ⟨b1, 0, none⟩)), (5, lv), (6, .slice none 0 0), (7, .int .i64 (k : Int))])
    (fun (k : Nat) (lv : Value) => [pt b1 (.cells #[.int .i64 a, .int .i64 b, v] 26 (0, 0)), OwE encI 3 1 lv (iota k)])
    (fun (k : Nat) (lv : Value) => l.length - k) 0 _
    (by omega) ⟨rfl, rfl, rfl, rfl, rfl, trivial⟩ (by repeat (first | exact Sub.nil | refine Sub.cons (by repeat (first | exact Pick.head | apply Pick.tail)) ?_)) ?_
  rintro k lv hk
  refine W.seq ?_
  refine W.sreg ?_
  refine WO.p rfl rfl (WO.fieldL rfl rfl rfl (WO.load rfl rfl (Cell.own Pick.head rfl) rfl ?_))
  refine' WO.len (n := _) rfl rfl ?hs rfl ?_
  case hs => (first | exact hR.sl)
  refine WO.p rfl rfl ?_
  refine WO.nil ?_
  refine W.cond_bl rfl (fun c1 => ?_) (fun c1 => ?_)
  · first
    | (exfalso; omega)
    | (refine W.skip ?_
       refine W.seq ?_
       refine W.block ?_
       refine W.region ?_
       refine WO.p rfl rfl (WO.p rfl rfl ?_)
       refine' WO.buildSl (cs := _) rfl rfl rfl rfl ?hf rfl rfl ?hl rfl (fun v2 => ?_)
       case hf => (conv => lhs; simp [-List.getD_eq_getElem?_getD, fillL, vcl, wrl, TTab.pl?.lget']) <;> rfl
       case hl => rfl
       refine' WO.appendE (enc := encI) (m := 1) (xs := iota k) (ys := [(k : Int)]) encI_ok rfl rfl rfl rfl rfl (by repeat (first | exact Pick.head | apply Pick.tail)) (isSl_lit (by omega) (fun _ => ⟨_, _, rfl⟩)) (by omega) rfl (OwC.cells .head) (by rw [iota_len]; omega) (by rw [iota_len]; omega) rfl (fun g c => ?_)
       rw [← iota_succ]
       refine WO.p rfl rfl ?_
       refine WO.nil ?_
       refine W.region ?_
       refine WO.p rfl rfl (WO.ar rfl rfl rfl (by (first | (unfold in64; omega) | (unfold in64; omega))) rfl (WO.p rfl rfl ?_))
       refine WO.nil ?_
       refine' ⟨k + 1, _, ?hp, ?hmu, ⟨rfl, rfl, rfl, rfl, rfl, trivial⟩, ?hS⟩
       case hS => repeat (first | exact Sub.nil | refine Sub.cons (by repeat (first | exact Pick.head | apply Pick.tail)) ?_)
       case hp => omega
       case hmu => omega)
  first
  | (exfalso; omega)
  | (refine W.exit (blk_same ?_)
     refine W.seq ?_
     rw [show iota k = (odI l.length bs 0).1 by rw [show k = l.length by omega]; rfl]
     refine W.chg (owNil (enc := encI) (e := 3) (sz := 1)) ?_
     rw [show OwE encI 3 1 (.slice none 0 0) ([] : List Int) = OwE encI 3 1 (.slice none 0 0) (odI l.length bs 0).2 from rfl]
     refine W.sreg ?_
     refine WO.p rfl rfl ?_
     refine WO.nil ?_
     refine W.block ?_
     refine W.loop3 (fun (i : Nat) (lv : Value) (ov : Value) => i ≤ bs.length)
       (fun (i : Nat) (lv : Value) (ov : Value) => [(1, u), (2, .pointer (some ⟨b1, 0, none⟩)), (5, lv), (6, ov), (8, .int .i64 (i : Int))])
       (fun (i : Nat) (lv : Value) (ov : Value) => [pt b1 (.cells #[.int .i64 a, .int .i64 b, v] 26 (0, 0)), OwE encI 3 1 lv (odI l.length bs i).1, OwE encI 3 1 ov (odI l.length bs i).2])
       (fun (i : Nat) (lv : Value) (ov : Value) => bs.length - i) 0 _ _
       (by omega) ⟨rfl, rfl, rfl, rfl, rfl, trivial⟩ (by repeat (first | exact Sub.nil | refine Sub.cons (by repeat (first | exact Pick.head | apply Pick.tail)) ?_)) ?_
     rintro i lv ov hi
     refine W.seq ?_
     obtain ⟨left, hleft⟩ : ∃ left, (odI l.length bs i).1 = left := ⟨_, rfl⟩
     obtain ⟨out, hout⟩ : ∃ out, (odI l.length bs i).2 = out := ⟨_, rfl⟩
     rw [hleft, hout]
     refine W.fact (OwE.formCap (enc := encI) (e := 3) (sz := 1) (v := lv) (xs := left) (by repeat (first | exact Pick.head | apply Pick.tail))) (fun hlv => ?_)
     obtain ⟨la, lc, rfl, hlc, _, hls⟩ := hlv
     refine W.sreg ?_
     refine WO.p rfl rfl (WO.p rfl rfl ?_)
     refine' WO.len (n := _) rfl rfl ?hs rfl ?_
     case hs => (first | exact hX.sl)
     refine WO.p rfl rfl (WO.p rfl rfl ?_)
     refine WO.guard_bl rfl rfl (fun c2 => ?_) (fun c2 => ?_)
     · first
       | (exfalso; omega)
       | (refine WO.pg rfl rfl rfl (WO.go' rfl ?_)
          refine' WO.len (n := _) rfl rfl ?hs rfl ?_
          case hs => (first | exact hls)
          refine WO.pg rfl rfl rfl (WO.p rfl rfl ?_)
          refine WO.nil ?_
          refine W.cond_bl rfl (fun c3 => ?_) (fun c3 => ?_)
          · first
            | (exfalso; omega)
            | (refine W.skip ?_
               refine W.seq ?_
               refine W.block ?_
               have hpm := (odI_perm (n := l.length) hb i).length_eq
               rw [List.length_append, iota_len, hleft, hout] at hpm
               have hst := odI_succ (n := l.length) (bs := bs) (i := i) (by omega)
               rw [show odI l.length bs i = (left, out) from Prod.ext hleft hout] at hst
               have hxb := hb _ (getD_mem (show i < bs.length by omega) 0)
               have hk := tmod_at (n := left.length) hxb.1 (by omega)
               obtain ⟨k, hkk⟩ : ∃ k, k = odK left (bs.getD i 0) := ⟨_, rfl⟩
               have hk2 : k < left.length := by rw [hkk]; exact hk.2
               have hk1 : (bs.getD i 0).tmod (left.length : Int) = (k : Int) := by rw [hkk]; exact hk.1
               have hst2 : od1 (left, out) (bs.getD i 0) = (left.eraseIdx k, out ++ [left.getD k 0]) := by rw [hkk]; exact if_neg (fun e => by have e' : left = [] := e; rw [e'] at hk2; simp at hk2)
               refine W.sreg ?_
               refine WO.p rfl rfl (WO.p rfl rfl ?_)
               refine' WO.indexAddr (n := _) (i := _) rfl rfl rfl ?hs ?h1 rfl ?_
               case hs => (first | exact hX.sl)
               case h1 => (first | omega | (simp; omega))
               refine' WO.load (v := _) rfl rfl ?hc rfl ?_
               case hc => (first | (refine hX.cell0 (i := i) (by omega) 0 ?_; rfl))
               refine WO.conv64 rfl rfl rfl (by (first | (unfold in64; omega) | (unfold in64; omega))) rfl (WO.p rfl rfl ?_)
               refine' WO.len (n := _) rfl rfl ?hs rfl ?_
               case hs => (first | exact hls)
               refine WO.rem (b := (left.length : Int)) rfl rfl (by omega) rfl ?_
               rw [hk1]
               refine WO.p rfl rfl ?_
               refine WO.nil ?_
               refine W.sreg ?_
               refine WO.p rfl rfl (WO.p rfl rfl (WO.p rfl rfl ?_))
               refine' WO.indexAddr (n := _) (i := _) rfl rfl rfl ?hs ?h1 rfl ?_
               case hs => (first | exact hls)
               case h1 => (first | omega | (simp; omega))
               refine' WO.load (v := _) rfl rfl ?hc rfl ?_
               case hc => (first | (refine owE_cellS (e := 3) (xs := left) (x := left.getD k 0) (i := k) ?_ (by omega) rfl rfl; exact (by repeat (first | exact Sub.nil | refine Sub.cons (by repeat (first | exact Pick.head | apply Pick.tail)) ?_))))
               refine' WO.buildSl (cs := _) rfl rfl rfl rfl ?hf rfl rfl ?hl rfl (fun v2 => ?_)
               case hf => (conv => lhs; simp [-List.getD_eq_getElem?_getD, fillL, vcl, wrl, TTab.pl?.lget']) <;> rfl
               case hl => rfl
               refine' WO.appendE (enc := encI) (m := 1) (xs := out) (ys := [left.getD k 0]) encI_ok rfl rfl rfl rfl rfl (by repeat (first | exact Pick.head | apply Pick.tail)) (isSl_lit (by omega) (fun _ => ⟨_, _, rfl⟩)) (by omega) rfl (OwC.cells .head) (by omega) (by omega) rfl (fun g c => ?_)
               refine WO.p rfl rfl ?_
               refine WO.nil ?_
               refine W.drawD 9 [.r 1 [], .r 2 [], .r 3 [], .r 5 [], .r 6 [], .r 7 [], .r 8 [], .c 0 [], .c 4 []] [] (A0 := []) (Sub.refl _) (by kernel_rfl) ?_ ?_
               · exact (ALok.r (ALok.r (ALok.r (ALok.r (ALok.r (ALok.r (ALok.r (ALok.c (ALok.c ALok.nil)))))))))
               refine' DT.r rfl rfl rfl ?hq ?_
               case hq =>
                 refine WO.p rfl rfl ?_
                 exact WO.nil ⟨rfl, rfl⟩
               refine' DT.r rfl rfl rfl ?hq ?_
               case hq =>
                 refine WO.p rfl rfl ?_
                 exact WO.nil ⟨rfl, rfl⟩
               refine' DT.r rfl rfl rfl ?hq ?_
               case hq =>
                 refine WO.slSl (lo := 0) (hi := k) (mx := lc) rfl rfl bnd.no (bnd.at rfl) bnd.no (by simp) (by omega) (by omega) (by omega) rfl ?_
                 exact WO.nil ⟨rfl, rfl⟩
               refine' DT.r rfl rfl rfl ?hq ?_
               case hq =>
                 refine WO.p rfl rfl ?_
                 exact WO.nil ⟨rfl, rfl⟩
               refine' DT.r rfl rfl rfl ?hq ?_
               case hq =>
                 refine WO.p rfl rfl ?_
                 exact WO.nil ⟨rfl, rfl⟩
               refine' DT.r rfl rfl rfl ?hq ?_
               case hq =>
                 refine WO.ar rfl rfl rfl (by (first | (unfold in64; omega) | (unfold in64; omega))) rfl ?_
                 exact WO.nil ⟨rfl, rfl⟩
               refine' DT.r rfl rfl rfl ?hq ?_
               case hq =>
                 refine WO.slSl (lo := k + 1) (hi := left.length) (mx := lc) rfl rfl (bnd.atZ rfl (by omega)) bnd.no bnd.no (by simp) (by omega) (by omega) (by omega) rfl ?_
                 exact WO.nil ⟨rfl, rfl⟩
               refine DT.c [_, _, _, _] rfl rfl rfl rfl ?_
               refine WO.buildSl0 rfl rfl (fun b0 => ?_)
               refine WO.nil ⟨_, [_], rfl, rfl, (Keep.r (Keep.r (Keep.r (Keep.r (Keep.r (Keep.r (Keep.r Keep.nil))))))), ?_⟩
               refine DT.c [_, _, _, _, _] rfl rfl rfl rfl ?_
               refine WO.appendEZ (enc := encI) (m := k - 0) (xs := []) (ys := (left.drop 0).take (k - 0)) encI_ok rfl rfl rfl rfl rfl (by repeat (first | exact Pick.head | apply Pick.tail)) (isSl_sub (la := la) (lo := 0) (by omega) hls) (by rw [List.length_take, List.length_drop]; omega) (OwE.subCells (xs := left) (by repeat (first | exact Pick.head | apply Pick.tail)) (by omega) (by omega) (by omega)) (by simp only [List.length_nil, List.length_take, List.length_drop]; omega) (by simp only [List.length_nil, List.length_take, List.length_drop]; omega) rfl (fun v1 => ?_)
               refine WO.nil ⟨_, [_], rfl, rfl, (Keep.c (Keep.r (Keep.r (Keep.r (Keep.r (Keep.r (Keep.r (Keep.r Keep.nil)))))))), ?_⟩
               refine DT.nil [_, _, _, _, _] rfl ?_
               refine WO.appendEZ (enc := encI) (m := left.length - (k + 1)) (xs := [] ++ (left.drop 0).take (k - 0)) (ys := (left.drop (k + 1)).take (left.length - (k + 1))) encI_ok rfl rfl rfl rfl rfl (by repeat (first | exact Pick.head | apply Pick.tail)) (isSl_sub (la := la) (lo := k + 1) (by omega) hls) (by rw [List.length_take, List.length_drop]; omega) (OwE.subCells (xs := left) (by repeat (first | exact Pick.head | apply Pick.tail)) (by omega) (by omega) (by omega)) (by simp only [List.nil_append, List.length_take, List.length_drop]; omega) (by simp only [List.nil_append, List.length_take, List.length_drop]; omega) rfl (fun v2 => ?_)
               rw [erase_eq]
               rw [show left.eraseIdx k = (odI l.length bs (i + 1)).1 by rw [hst, hst2]]
               rw [show out ++ [left.getD k 0] = (odI l.length bs (i + 1)).2 by rw [hst, hst2]]
               refine WO.p rfl rfl ?_
               refine WO.nil ?_
               refine W.region ?_
               refine WO.p rfl rfl (WO.ar rfl rfl rfl (by (first | (unfold in64; omega) | (unfold in64; omega))) rfl (WO.p rfl rfl ?_))
               refine WO.nil ?_
               refine' ⟨i + 1, _, _, ?hp, ?hmu, ⟨rfl, rfl, rfl, rfl, rfl, trivial⟩, ?hS⟩
               case hS => repeat (first | exact Sub.nil | refine Sub.cons (by repeat (first | exact Pick.head | apply Pick.tail)) ?_)
               case hp => omega
               case hmu => omega)
          first
          | (exfalso; omega)
          | (refine W.exit (blk_same ?_)
             refine W.sreg ?_
             refine WO.p rfl rfl (WO.p rfl rfl ?_)
             refine WO.nil ?_
             refine W.ret ?_
             first | (have e : out = odL l.length bs := (by unfold odL; rw [show bs.length = i by omega]; exact hout.symm); rw [← e]; exact fin.ret (Res.one rfl (RV.tmp rfl)) ⟨_, rfl, fun h hs => Sub.sat (by repeat (first | exact Sub.nil | refine Sub.cons (by repeat (first | exact Pick.head | apply Pick.tail)) ?_)) hs⟩) | (have e : out = odL l.length bs := (by unfold odL; rw [odI_stop (hleft.trans (List.eq_nil_of_length_eq_zero (by omega))) bs.length (by omega)]; exact hout.symm); rw [← e]; exact fin.ret (Res.one rfl (RV.tmp rfl)) ⟨_, rfl, fun h hs => Sub.sat (by repeat (first | exact Sub.nil | refine Sub.cons (by repeat (first | exact Pick.head | apply Pick.tail)) ?_)) hs⟩)))
     first
     | (exfalso; omega)
     | (refine WO.no rfl rfl (WO.no rfl rfl (WO.no rfl rfl (WO.p rfl rfl ?_)))
        refine WO.nil ?_
        refine W.cond_f rfl ?_
        refine W.exit (blk_same ?_)
        refine W.sreg ?_
        refine WO.p rfl rfl (WO.p rfl rfl ?_)
        refine WO.nil ?_
        refine W.ret ?_
        first | (have e : out = odL l.length bs := (by unfold odL; rw [show bs.length = i by omega]; exact hout.symm); rw [← e]; exact fin.ret (Res.one rfl (RV.tmp rfl)) ⟨_, rfl, fun h hs => Sub.sat (by repeat (first | exact Sub.nil | refine Sub.cons (by repeat (first | exact Pick.head | apply Pick.tail)) ?_)) hs⟩) | (have e : out = odL l.length bs := (by unfold odL; rw [odI_stop (hleft.trans (List.eq_nil_of_length_eq_zero (by omega))) bs.length (by omega)]; exact hout.symm); rw [← e]; exact fin.ret (Res.one rfl (RV.tmp rfl)) ⟨_, rfl, fun h hs => Sub.sat (by repeat (first | exact Sub.nil | refine Sub.cons (by repeat (first | exact Pick.head | apply Pick.tail)) ?_)) hs⟩)))
end Go.Proofs.Ytkonhpcldomidaa
namespace Go.Proofs.Ytkonhpcldomidaa
open Go Go.TH
attribute [local irreducible] W WO pt
set_option maxRecDepth 10000
set_option maxHeartbeats 1000000
section
variable {a b : Int} {l : List Rn} {o : List Int}
theorem erK_kinds (b : Int) (l : List Rn) (o : List Int) (k : Nat) : erK b l o k = 0 ∨ erK b l o k = 12 ∨ erK b l o k = 18 := by
  unfold erK bgE
  split
  · exact .inr (.inr rfl)
  split
  · exact .inr (.inl rfl)
  exact .inl rfl
theorem tmE_kinds (b : Int) (l : List Rn) (o : List Int) : tmE b l o = 0 ∨ tmE b l o = 12 ∨ tmE b l o = 18 := by
  unfold tmE
  split
  · exact erK_kinds b l o _
  exact .inl rfl
theorem Tm_fine (hc : chkD a b l = 0) (h : (∀ x ∈ o, In l x) ∧ o.Nodup) : TmE a b l o = tmE b l o ∧ TmL a b l o = tmL b l o ∧ o.length ≤ l.length := by
  have hl := in_le h.1 h.2
  have h0 : noE a b l o = 0 := noE0.2 ⟨⟨hc, chkD0.1 hc⟩, hl, h.1, h.2⟩
  exact ⟨TmE_ok (by omega), TmL_ok (by omega), hl⟩
theorem VO.take (h : VO b l o) (m : Nat) : VO b l (o.take m) := by
  refine ⟨fun x hx => h.1 x (List.mem_of_mem_take hx), h.2.1.sublist (List.take_sublist m o), tmE_0.2 fun j hj => ?_⟩
  rw [← erK_app (r := o.drop m) hj, List.take_append_drop]
  rw [List.length_take] at hj
  exact tmE_0.1 h.2.2 j (by omega)
theorem tmA_take {m : Nat} (hm : m ≤ o.length) : tmA b l (o.take m) (o.take m).length = (tmA b l o o.length).take m := by
  have hl : (o.take m).length = m := by rw [List.length_take]; omega
  refine list_eqD (by rw [tmA_len, hl, List.length_take, tmA_len]; omega) fun j hj => ?_
  rw [tmA_len] at hj
  rw [tmA_get hj, List.getD_eq_getElem?_getD, List.getElem?_take_of_lt (by omega), ← List.getD_eq_getElem?_getD, tmA_get (by omega), ← atK_app (r := o.drop m) hj, List.take_append_drop]
theorem ovF_take {j z : Nat} (hj : j < o.length) (hz : o.getD j 0 = (z : Int)) : ovF b l (o.take (j + 1)) = atK b l o j + (l.getD z rn0).mi := by
  have e : o.take (j + 1) = o.take j ++ [(z : Int)] := by
    rw [List.take_add_one, List.getElem?_eq_getElem hj]
    rw [List.getD_eq_getElem?_getD, List.getElem?_eq_getElem hj] at hz
    rw [← hz]; rfl
  have hl : (o.take j).length = j := by rw [List.length_take]; omega
  have e2 : stK b l (o.take j) (o.take j).length = stK b l o j := by
    rw [hl, ← stK_app (o.take j) (o.drop j) (by omega), List.take_append_drop]
  rw [e, ovF_snoc]
  unfold ovF
  rw [e2]
  unfold atK
  rw [hz, Int.toNat_natCast]
theorem kyO_take {j z : Nat} (hj : j < o.length) (hz : o.getD j 0 = (z : Int)) : kyO l (o.take (j + 1)) = bsO (o.take (j + 1)) * l.length + z := by
  have e : o.take (j + 1) = o.take j ++ [(z : Int)] := by
    rw [List.take_add_one, List.getElem?_eq_getElem hj]
    rw [List.getD_eq_getElem?_getD, List.getElem?_eq_getElem hj] at hz
    rw [← hz]; rfl
  rw [e, kyO_of]
/-- the table knows no later time than an order's own -/
theorem tb_le (hc : chkD a b l = 0) (h : VO b l o) (hne : o ≠ []) : (TbL a b l).getD (kyO l o) 0 ≤ ovF b l o := by
  have hk := kyO_lt h hne
  rw [TbL_ok hc, List.getD_eq_getElem?_getD, rfT_get, if_pos hk]
  have hm := ords_all (b := b) (l := l) (f := l.length) (o := []) o (by simpa using h) (by simpa using h.len)
  rw [List.nil_append] at hm
  exact (atR_mem b l (kyO l o) (ords b l l.length []) nev).2.1 o hm hne rfl
theorem TbL_len (hc : chkD a b l = 0) : (TbL a b l).length = 2 ^ l.length * l.length := by rw [TbL_ok hc, rfT_len]
end
end Go.Proofs.Ytkonhpcldomidaa
