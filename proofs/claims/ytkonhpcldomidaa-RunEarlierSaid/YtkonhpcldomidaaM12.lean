/-
  What is proved here: an order drawn from bytes. Conditions: none; each contract states its own.
  What is proved here: the law of a part of an order. Conditions: none; each contract states its own.
-/
import Derived.Test.YtkonhpcldomidaaM8
set_option linter.unusedVariables false
set_option linter.unusedSimpArgs false
namespace Go.Proofs.Ytkonhpcldomidaa
open Go Go.TH
attribute [local irreducible] W WO pt
set_option maxRecDepth 10000
set_option maxHeartbeats 1000000
theorem encU_ok : EncOk encU 1 := by
  refine ⟨fun _ => rfl, fun x u hu => ?_, by omega⟩
  simp [encU] at hu
  subst hu; rfl
theorem OwE.subCells {C : Cx Try.prog} {H H' : List HP} {e n c lo hi mx : Nat} {a : Option Addr} {xs : List Int} (p : Pick (OwE encI e 1 (.slice a n c) xs) H H') (h1 : lo ≤ hi) (h2 : hi ≤ mx) (h3 : hi ≤ xs.length) : Cells C H (base (.slice (if mx = lo then a else ofs a (lo * 1)) (hi - lo) (mx - lo))) (((xs.drop lo).take (hi - lo)).flatMap encI) := by
  intro j v hv L w hi'
  have hR := RdF.of_ow (e := e) encI_ok p hi'
  have hn : n = xs.length := by
    obtain ⟨_, a', c', he, _⟩ := hR.sl
    injection he
  have hS := hR.sub (lo := lo) (hi := hi) (mx := mx) h1 h2 (by omega)
  have hj : j < ((xs.drop lo).take (hi - lo)).length := by
    have := (List.getElem?_eq_some_iff.1 hv).1
    rw [encI_ok.flat_len] at this
    omega
  obtain ⟨x, hx⟩ : ∃ x, ((xs.drop lo).take (hi - lo))[j]? = some x := ⟨_, List.getElem?_eq_getElem hj⟩
  have h4 := hS.cell j x hx 0 (.int .i64 x) rfl
  have h5 : v = .int .i64 x := by
    have h6 : (((xs.drop lo).take (hi - lo)).flatMap encI)[j]? = some (.int .i64 x) := by
      rw [show ((xs.drop lo).take (hi - lo)).flatMap encI = ((xs.drop lo).take (hi - lo)).map (fun z => Value.int .i64 z) from by unfold encI; exact (List.map_eq_flatMap ..).symm, List.getElem?_map, hx]; rfl
    rw [hv] at h6
    injection h6
  rw [h5]
  simpa [Addr.add] using h4
def iota (n : Nat) : List Int := (List.range n).map fun i : Nat => (i : Int)
theorem iota_succ (n : Nat) : iota (n + 1) = iota n ++ [(n : Int)] := by unfold iota; rw [List.range_succ, List.map_append]; rfl
theorem iota_len (n : Nat) : (iota n).length = n := by simp [iota]
def odK (left : List Int) (x : Int) : Nat := (x.tmod left.length).toNat
def od1 (s : List Int × List Int) (x : Int) : List Int × List Int := if s.1 = [] then s else (s.1.eraseIdx (odK s.1 x), s.2 ++ [s.1.getD (odK s.1 x) 0])
def odI (n : Nat) (bs : List Int) (i : Nat) : List Int × List Int := (bs.take i).foldl od1 (iota n, [])
/-- the order that some bytes draw -/
def odL (n : Nat) (bs : List Int) : List Int := (odI n bs bs.length).2
theorem odI_succ {n : Nat} {bs : List Int} {i : Nat} (h : i < bs.length) : odI n bs (i + 1) = od1 (odI n bs i) (bs.getD i 0) := by unfold odI; exact fold_take _ _ _ h
theorem odI_stop {n : Nat} {bs : List Int} {i : Nat} (h : (odI n bs i).1 = []) : ∀ j, i ≤ j → odI n bs j = odI n bs i
  | 0, hj => by rw [show i = 0 by omega]
  | j + 1, hj => by
    rcases Nat.lt_or_ge i (j + 1) with g | g
    · have ih := odI_stop h j (by omega)
      rcases Nat.lt_or_ge j bs.length with q | q
      · rw [odI_succ q, ih]; exact if_pos h
      rw [← ih]; unfold odI; rw [List.take_of_length_le q, List.take_of_length_le (by omega)]
    rw [show i = j + 1 by omega]
theorem tmod_at {x : Int} {n : Nat} (h0 : 0 ≤ x) (hn : 0 < n) : x.tmod (n : Int) = ((x.tmod (n : Int)).toNat : Int) ∧ (x.tmod (n : Int)).toNat < n := by
  have h1 := Int.tmod_nonneg (n : Int) h0
  have h2 := Int.tmod_lt_of_pos x (show (0 : Int) < n by omega)
  omega
theorem erase_perm : ∀ {xs : List Int} {k : Nat}, k < xs.length → (xs.getD k 0 :: xs.eraseIdx k).Perm xs
  | [], _, h => by simp at h
  | x :: r, 0, _ => List.Perm.refl _
  | x :: r, k + 1, h => by
    have ih := erase_perm (xs := r) (k := k) (by simpa using h)
    exact (List.Perm.swap _ _ _).trans (ih.cons x)
/-- what is left and what was taken, together -/
theorem od1_perm {s : List Int × List Int} {x : Int} (hx : 0 ≤ x) : ((od1 s x).2 ++ (od1 s x).1).Perm (s.2 ++ s.1) := by
  unfold od1
  split
  · exact List.Perm.refl _
  rename_i h
  have hl : 0 < s.1.length := List.length_pos_iff.2 h
  have hk := (tmod_at hx hl).2
  show ((s.2 ++ [s.1.getD (odK s.1 x) 0]) ++ s.1.eraseIdx (odK s.1 x)).Perm (s.2 ++ s.1)
  rw [List.append_assoc]
  exact List.Perm.append_left _ (erase_perm hk)
theorem odI_perm {n : Nat} {bs : List Int} (hb : ∀ x ∈ bs, 0 ≤ x ∧ x ≤ 255) : ∀ i, ((odI n bs i).2 ++ (odI n bs i).1).Perm (iota n)
  | 0 => by unfold odI; exact List.Perm.refl _
  | i + 1 => by
    have ih := odI_perm (n := n) hb i
    rcases Nat.lt_or_ge i bs.length with q | q
    · rw [odI_succ q]
      exact (od1_perm (hb _ (getD_mem q 0)).1).trans ih
    have e : odI n bs (i + 1) = odI n bs i := by unfold odI; rw [List.take_of_length_le q, List.take_of_length_le (by omega)]
    rw [e]; exact ih
theorem odL_ok {l : List Rn} {bs : List Int} (hb : ∀ x ∈ bs, 0 ≤ x ∧ x ≤ 255) : (∀ x ∈ odL l.length bs, In l x) ∧ (odL l.length bs).Nodup := by
  have h := odI_perm (n := l.length) hb bs.length
  constructor
  · intro x hx
    have h1 : x ∈ iota l.length := h.mem_iff.1 (List.mem_append_left _ hx)
    obtain ⟨i, hi, rfl⟩ := List.mem_map.1 h1
    have := List.mem_range.1 hi
    unfold In; omega
  have h2 : (iota l.length).Nodup := by
    unfold iota
    exact List.Pairwise.map _ (fun a b (q : a ≠ b) => by show (a : Int) ≠ (b : Int); omega) List.nodup_range
  exact (List.nodup_append.1 (h.nodup_iff.2 h2)).1
theorem erase_eq {xs : List Int} {k : Nat} : [] ++ (xs.drop 0).take (k - 0) ++ (xs.drop (k + 1)).take (xs.length - (k + 1)) = xs.eraseIdx k := by
  rw [List.eraseIdx_eq_take_drop_succ, List.drop_zero, Nat.sub_zero, List.nil_append, List.take_of_length_le (l := xs.drop (k + 1)) (by rw [List.length_drop]; omega)]
theorem isSl_sub {la : Option Addr} {n lc lo d mx : Nat} (h : d ≤ n - lo) (hs : IsSl (.slice la n lc) n) : IsSl (.slice (if mx = lo then la else ofs la (lo * 1)) d (mx - lo)) d := by
  obtain ⟨hle, a', c', he, hb⟩ := hs
  injection he with e1 e2 e3
  subst e1
  refine ⟨by omega, _, _, rfl, fun h0 => ?_⟩
  obtain ⟨b, o, rfl⟩ := hb (by omega)
  split
  · exact ⟨b, o, rfl⟩
  exact ⟨b, o + lo * 1, by simp [ofs, Addr.add]⟩
theorem law_Order (w : World) (v u : Value) (a b : Int) (l : List Rn) (bs : List Int) (hR : RdF encR 6 w.heap.size w v l) (hX : RdF encU 1 w.heap.size w u bs) (hb : ∀ x ∈ bs, 0 ≤ x ∧ x ≤ 255) (h12 : l.length ≤ 12) : Ct Try.prog 27 [dayV a b v, u].toArray w fun r w' => ∃ Hq, (∃ x : Value, r = x ∧ Hq = [OwE encI 3 1 x (odL l.length bs)]) ∧ Inv w [] Hq w' := by
  refine Ct.ofI (X := Value) (p := fun x r => r = x) (Hx := fun x => [OwE encI 3 1 x (odL l.length bs)]) mixed tyTab Try.func27 rfl rfl ?_
  replace hR : RdF encR 6 (fnCx mixed tyTab Try.f27.ntmps w).B (fnCx mixed tyTab Try.f27.ntmps w).w0 v l := hR
  replace hX : RdF encU 1 (fnCx mixed tyTab Try.f27.ntmps w).B (fnCx mixed tyTab Try.f27.ntmps w).w0 u bs := hX
  have ho := hR.sl.oc
  have hxle := hX.sl.le
  refine W.sreg ?_
  refine WO.boxA rfl rfl (fun b1 hb1 => ?_)
  refine WO.p rfl rfl ?_
  refine WO.nil ?_
  refine W.sreg ?_
  refine WO.p rfl rfl (WO.p rfl rfl ?_)
  refine WO.nil ?_
  refine W.seq ?_
  refine W.sreg ?_
  refine WO.p rfl rfl ?_
  refine WO.nil ?_
  refine W.block ?_
  refine W.chg (owNil (enc := encI) (e := 3) (sz := 1)) ?_
  rw [show OwE encI 3 1 (.slice none 0 0) ([] : List Int) = OwE encI 3 1 (.slice none 0 0) (iota 0) from rfl]
  refine W.loop2 (fun (k : Nat) (lv : Value) => k ≤ l.length)
    (fun (k : Nat) (lv : Value) => [(1, u), (2, .pointer (some ⟨b1, 0, none⟩)), (5, lv), (6, .slice none 0 0), (7, .int .i64 (k : Int))])
    (fun (k : Nat) (lv : Value) => [pt b1 (.cells #[.int .i64 a, .int .i64 b, v] 26 (0, 0)), OwE encI 3 1 lv (iota k)])
    (fun (k : Nat) (lv : Value) => l.length - k) 0 _
    (by omega) ⟨rfl, rfl, rfl, rfl, rfl, trivial⟩ (by repeat (first | exact Sub.nil | refine Sub.cons (by repeat (first | exact Pick.head | apply Pick.tail)) ?_)) ?_
  rintro k lv hk
  refine W.seq ?_
  refine W.sreg ?_
  refine WO.p rfl rfl (WO.fieldL rfl rfl rfl (WO.load rfl rfl (Cell.own Pick.head rfl) rfl ?_))
  refine' WO.len (n := _) rfl rfl ?hs rfl ?_
  case hs => (first | exact hR.sl)
  refine WO.p rfl rfl ?_
  refine WO.nil ?_
  refine W.cond_bl rfl (fun c1 => ?_) (fun c1 => ?_)
  · first
    | (exfalso; omega)
    | (refine W.skip ?_
       refine W.seq ?_
       refine W.block ?_
       refine W.region ?_
       refine WO.p rfl rfl (WO.p rfl rfl ?_)
       refine' WO.buildSl (cs := _) rfl rfl rfl rfl ?hf rfl rfl ?hl rfl (fun v2 => ?_)
       case hf => (conv => lhs; simp [-List.getD_eq_getElem?_getD, fillL, vcl, wrl, TTab.pl?.lget']) <;> rfl
       case hl => rfl
       refine' WO.appendE (enc := encI) (m := 1) (xs := iota k) (ys := [(k : Int)]) encI_ok rfl rfl rfl rfl rfl (by repeat (first | exact Pick.head | apply Pick.tail)) (isSl_lit (by omega) (fun _ => ⟨_, _, rfl⟩)) (by omega) rfl (OwC.cells .head) (by rw [iota_len]; omega) (by rw [iota_len]; omega) rfl (fun g c => ?_)
       rw [← iota_succ]
       refine WO.p rfl rfl ?_
       refine WO.nil ?_
       refine W.region ?_
       refine WO.p rfl rfl (WO.ar rfl rfl rfl (by (first | (unfold in64; omega) | (unfold in64; omega))) rfl (WO.p rfl rfl ?_))
       refine WO.nil ?_
       refine' ⟨k + 1, _, ?hp, ?hmu, ⟨rfl, rfl, rfl, rfl, rfl, trivial⟩, ?hS⟩
       case hS => repeat (first | exact Sub.nil | refine Sub.cons (by repeat (first | exact Pick.head | apply Pick.tail)) ?_)
       case hp => omega
       case hmu => omega)
  first
  | (exfalso; omega)
  | (refine W.exit (blk_same ?_)
     refine W.seq ?_
     rw [show iota k = (odI l.length bs 0).1 by rw [show k = l.length by omega]; rfl]
     refine W.chg (owNil (enc := encI) (e := 3) (sz := 1)) ?_
     rw [show OwE encI 3 1 (.slice none 0 0) ([] : List Int) = OwE encI 3 1 (.slice none 0 0) (odI l.length bs 0).2 from rfl]
     refine W.sreg ?_
     refine WO.p rfl rfl ?_
     refine WO.nil ?_
     refine W.block ?_
     refine W.loop3 (fun (i : Nat) (lv : Value) (ov : Value) => i ≤ bs.length)
       (fun (i : Nat) (lv : Value) (ov : Value) => [(1, u), (2, .pointer (some ⟨b1, 0, none⟩)), (5, lv), (6, ov), (8, .int .i64 (i : Int))])
       (fun (i : Nat) (lv : Value) (ov : Value) => [pt b1 (.cells #[.int .i64 a, .int .i64 b, v] 26 (0, 0)), OwE encI 3 1 lv (odI l.length bs i).1, OwE encI 3 1 ov (odI l.length bs i).2])
       (fun (i : Nat) (lv : Value) (ov : Value) => bs.length - i) 0 _ _
       (by omega) ⟨rfl, rfl, rfl, rfl, rfl, trivial⟩ (by repeat (first | exact Sub.nil | refine Sub.cons (by repeat (first | exact Pick.head | apply Pick.tail)) ?_)) ?_
     rintro i lv ov hi
     refine W.seq ?_
     obtain ⟨left, hleft⟩ : ∃ left, (odI l.length bs i).1 = left := ⟨_, rfl⟩
     obtain ⟨out, hout⟩ : ∃ out, (odI l.length bs i).2 = out := ⟨_, rfl⟩
     rw [hleft, hout]
     refine W.fact (OwE.formCap (enc := encI) (e := 3) (sz := 1) (v := lv) (xs := left) (by repeat (first | exact Pick.head | apply Pick.tail))) (fun hlv => ?_)
     obtain ⟨la, lc, rfl, hlc, _, hls⟩ := hlv
     refine W.sreg ?_
     refine WO.p rfl rfl (WO.p rfl rfl ?_)
     refine' WO.len (n := _) rfl rfl ?hs rfl ?_
     case hs => (first | exact hX.sl)
     refine WO.p rfl rfl (WO.p rfl rfl ?_)
     refine WO.guard_bl rfl rfl (fun c2 => ?_) (fun c2 => ?_)
     · first
       | (exfalso; omega)
       | (refine WO.pg rfl rfl rfl (WO.go' rfl ?_)
          refine' WO.len (n := _) rfl rfl ?hs rfl ?_
          case hs => (first | exact hls)
          refine WO.pg rfl rfl rfl (WO.p rfl rfl ?_)
          refine WO.nil ?_
          refine W.cond_bl rfl (fun c3 => ?_) (fun c3 => ?_)
          · first
            | (exfalso; omega)
            | (refine W.skip ?_
               refine W.seq ?_
               refine W.block ?_
               have hpm := (odI_perm (n := l.length) hb i).length_eq
               rw [List.length_append, iota_len, hleft, hout] at hpm
               have hst := odI_succ (n := l.length) (bs := bs) (i := i) (by omega)
               rw [show odI l.length bs i = (left, out) from Prod.ext hleft hout] at hst
               have hxb := hb _ (getD_mem (show i < bs.length by omega) 0)
               have hk := tmod_at (n := left.length) hxb.1 (by omega)
               obtain ⟨k, hkk⟩ : ∃ k, k = odK left (bs.getD i 0) := ⟨_, rfl⟩
               have hk2 : k < left.length := by rw [hkk]; exact hk.2
               have hk1 : (bs.getD i 0).tmod (left.length : Int) = (k : Int) := by rw [hkk]; exact hk.1
               have hst2 : od1 (left, out) (bs.getD i 0) = (left.eraseIdx k, out ++ [left.getD k 0]) := by rw [hkk]; exact if_neg (fun e => by have e' : left = [] := e; rw [e'] at hk2; simp at hk2)
               refine W.sreg ?_
               refine WO.p rfl rfl (WO.p rfl rfl ?_)
               refine' WO.indexAddr (n := _) (i := _) rfl rfl rfl ?hs ?h1 rfl ?_
               case hs => (first | exact hX.sl)
               case h1 => (first | omega | (simp; omega))
               refine' WO.load (v := _) rfl rfl ?hc rfl ?_
               case hc => (first | (refine hX.cell0 (i := i) (by omega) 0 ?_; rfl))
               refine WO.conv64 rfl rfl rfl (by (first | (unfold in64; omega) | (unfold in64; omega))) rfl (WO.p rfl rfl ?_)
               refine' WO.len (n := _) rfl rfl ?hs rfl ?_
               case hs => (first | exact hls)
               refine WO.rem (b := (left.length : Int)) rfl rfl (by omega) rfl ?_
               rw [hk1]
               refine WO.p rfl rfl ?_
               refine WO.nil ?_
               refine W.sreg ?_
               refine WO.p rfl rfl (WO.p rfl rfl (WO.p rfl rfl ?_))
               refine' WO.indexAddr (n := _) (i := _) rfl rfl rfl ?hs ?h1 rfl ?_
               case hs => (first | exact hls)
               case h1 => (first | omega | (simp; omega))
               refine' WO.load (v := _) rfl rfl ?hc rfl ?_
               case hc => (first | (refine owE_cellS (e := 3) (xs := left) (x := left.getD k 0) (i := k) ?_ (by omega) rfl rfl; exact (by repeat (first | exact Sub.nil | refine Sub.cons (by repeat (first | exact Pick.head | apply Pick.tail)) ?_))))
               refine' WO.buildSl (cs := _) rfl rfl rfl rfl ?hf rfl rfl ?hl rfl (fun v2 => ?_)
               case hf => (conv => lhs; simp [-List.getD_eq_getElem?_getD, fillL, vcl, wrl, TTab.pl?.lget']) <;> rfl
               case hl => rfl
               refine' WO.appendE (enc := encI) (m := 1) (xs := out) (ys := [left.getD k 0]) encI_ok rfl rfl rfl rfl rfl (by repeat (first | exact Pick.head | apply Pick.tail)) (isSl_lit (by omega) (fun _ => ⟨_, _, rfl⟩)) (by omega) rfl (OwC.cells .head) (by omega) (by omega) rfl (fun g c => ?_)
               refine WO.p rfl rfl ?_
               refine WO.nil ?_
               refine W.drawD 9 [.r 1 [], .r 2 [], .r 3 [], .r 5 [], .r 6 [], .r 7 [], .r 8 [], .c 0 [], .c 4 []] [] (A0 := []) (Sub.refl _) (by kernel_rfl) ?_ ?_
               · exact (ALok.r (ALok.r (ALok.r (ALok.r (ALok.r (ALok.r (ALok.r (ALok.c (ALok.c ALok.nil)))))))))
               refine' DT.r rfl rfl rfl ?hq ?_
               case hq =>
                 refine WO.p rfl rfl ?_
                 exact WO.nil ⟨rfl, rfl⟩
               refine' DT.r rfl rfl rfl ?hq ?_
               case hq =>
                 refine WO.p rfl rfl ?_
                 exact WO.nil ⟨rfl, rfl⟩
               refine' DT.r rfl rfl rfl ?hq ?_
               case hq =>
                 refine WO.slSl (lo := 0) (hi := k) (mx := lc) rfl rfl bnd.no (bnd.at rfl) bnd.no (by simp) (by omega) (by omega) (by omega) rfl ?_
                 exact WO.nil ⟨rfl, rfl⟩
               refine' DT.r rfl rfl rfl ?hq ?_
               case hq =>
                 refine WO.p rfl rfl ?_
                 exact WO.nil ⟨rfl, rfl⟩
               refine' DT.r rfl rfl rfl ?hq ?_
               case hq =>
                 refine WO.p rfl rfl ?_
                 exact WO.nil ⟨rfl, rfl⟩
               refine' DT.r rfl rfl rfl ?hq ?_
               case hq =>
                 refine WO.ar rfl rfl rfl (by (first | (unfold in64; omega) | (unfold in64; omega))) rfl ?_
                 exact WO.nil ⟨rfl, rfl⟩
               refine' DT.r rfl rfl rfl ?hq ?_
               case hq =>
                 refine WO.slSl (lo := k + 1) (hi := left.length) (mx := lc) rfl rfl (bnd.atZ rfl (by omega)) bnd.no bnd.no (by simp) (by omega) (by omega) (by omega) rfl ?_
                 exact WO.nil ⟨rfl, rfl⟩
               refine DT.c [_, _, _, _] rfl rfl rfl rfl ?_
               refine WO.buildSl0 rfl rfl (fun b0 => ?_)
               refine WO.nil ⟨_, [_], rfl, rfl, (Keep.r (Keep.r (Keep.r (Keep.r (Keep.r (Keep.r (Keep.r Keep.nil))))))), ?_⟩
               refine DT.c [_, _, _, _, _] rfl rfl rfl rfl ?_
               refine WO.appendEZ (enc := encI) (m := k - 0) (xs := []) (ys := (left.drop 0).take (k - 0)) encI_ok rfl rfl rfl rfl rfl (by repeat (first | exact Pick.head | apply Pick.tail)) (isSl_sub (la := la) (lo := 0) (by omega) hls) (by rw [List.length_take, List.length_drop]; omega) (OwE.subCells (xs := left) (by repeat (first | exact Pick.head | apply Pick.tail)) (by omega) (by omega) (by omega)) (by simp only [List.length_nil, List.length_take, List.length_drop]; omega) (by simp only [List.length_nil, List.length_take, List.length_drop]; omega) rfl (fun v1 => ?_)
               refine WO.nil ⟨_, [_], rfl, rfl, (Keep.c (Keep.r (Keep.r (Keep.r (Keep.r (Keep.r (Keep.r (Keep.r Keep.nil)))))))), ?_⟩
               refine DT.nil [_, _, _, _, _] rfl ?_
               refine WO.appendEZ (enc := encI) (m := left.length - (k + 1)) (xs := [] ++ (left.drop 0).take (k - 0)) (ys := (left.drop (k + 1)).take (left.length - (k + 1))) encI_ok rfl rfl rfl rfl rfl (by repeat (first | exact Pick.head | apply Pick.tail)) (isSl_sub (la := la) (lo := k + 1) (by omega) hls) (by rw [List.length_take, List.length_drop]; omega) (OwE.subCells (xs := left) (by repeat (first | exact Pick.head | apply Pick.tail)) (by omega) (by omega) (by omega)) (by simp only [List.nil_append, List.length_take, List.length_drop]; omega) (by simp only [List.nil_append, List.length_take, List.length_drop]; omega) rfl (fun v2 => ?_)
               rw [erase_eq]
               rw [show left.eraseIdx k = (odI l.length bs (i + 1)).1 by rw [hst, hst2]]
               rw [show out ++ [left.getD k 0] = (odI l.length bs (i + 1)).2 by rw [hst, hst2]]
               refine WO.p rfl rfl ?_
               refine WO.nil ?_
               refine W.region ?_
               refine WO.p rfl rfl (WO.ar rfl rfl rfl (by (first | (unfold in64; omega) | (unfold in64; omega))) rfl (WO.p rfl rfl ?_))
               refine WO.nil ?_
               refine' ⟨i + 1, _, _, ?hp, ?hmu, ⟨rfl, rfl, rfl, rfl, rfl, trivial⟩, ?hS⟩
               case hS => repeat (first | exact Sub.nil | refine Sub.cons (by repeat (first | exact Pick.head | apply Pick.tail)) ?_)
               case hp => omega
               case hmu => omega)
          first
          | (exfalso; omega)
          | (refine W.exit (blk_same ?_)
             refine W.sreg ?_
             refine WO.p rfl rfl (WO.p rfl rfl ?_)
             refine WO.nil ?_
             refine W.ret ?_
             first | (have e : out = odL l.length bs := (by unfold odL; rw [show bs.length = i by omega]; exact hout.symm); rw [← e]; exact fin.ret (Res.one rfl (RV.tmp rfl)) ⟨_, rfl, fun h hs => Sub.sat (by repeat (first | exact Sub.nil | refine Sub.cons (by repeat (first | exact Pick.head | apply Pick.tail)) ?_)) hs⟩) | (have e : out = odL l.length bs := (by unfold odL; rw [odI_stop (hleft.trans (List.eq_nil_of_length_eq_zero (by omega))) bs.length (by omega)]; exact hout.symm); rw [← e]; exact fin.ret (Res.one rfl (RV.tmp rfl)) ⟨_, rfl, fun h hs => Sub.sat (by repeat (first | exact Sub.nil | refine Sub.cons (by repeat (first | exact Pick.head | apply Pick.tail)) ?_)) hs⟩)))
     first
     | (exfalso; omega)
     | (refine WO.no rfl rfl (WO.no rfl rfl (WO.no rfl rfl (WO.p rfl rfl ?_)))
        refine WO.nil ?_
        refine W.cond_f rfl ?_
        refine W.exit (blk_same ?_)
        refine W.sreg ?_
        refine WO.p rfl rfl (WO.p rfl rfl ?_)
        refine WO.nil ?_
        refine W.ret ?_
        first | (have e : out = odL l.length bs := (by unfold odL; rw [show bs.length = i by omega]; exact hout.symm); rw [← e]; exact fin.ret (Res.one rfl (RV.tmp rfl)) ⟨_, rfl, fun h hs => Sub.sat (by repeat (first | exact Sub.nil | refine Sub.cons (by repeat (first | exact Pick.head | apply Pick.tail)) ?_)) hs⟩) | (have e : out = odL l.length bs := (by unfold odL; rw [odI_stop (hleft.trans (List.eq_nil_of_length_eq_zero (by omega))) bs.length (by omega)]; exact hout.symm); rw [← e]; exact fin.ret (Res.one rfl (RV.tmp rfl)) ⟨_, rfl, fun h hs => Sub.sat (by repeat (first | exact Sub.nil | refine Sub.cons (by repeat (first | exact Pick.head | apply Pick.tail)) ?_)) hs⟩)))
end Go.Proofs.Ytkonhpcldomidaa
namespace Go.Proofs.Ytkonhpcldomidaa
open Go Go.TH
attribute [local irreducible] W WO pt
set_option maxRecDepth 10000
set_option maxHeartbeats 1000000
section
variable {a b : Int} {l : List Rn} {o : List Int}
theorem erK_kinds (b : Int) (l : List Rn) (o : List Int) (k : Nat) : erK b l o k = 0 ∨ erK b l o k = 12 ∨ erK b l o k = 18 := by
  unfold erK bgE
  split
  · exact .inr (.inr rfl)
  split
  · exact .inr (.inl rfl)
  exact .inl rfl
theorem tmE_kinds (b : Int) (l : List Rn) (o : List Int) : tmE b l o = 0 ∨ tmE b l o = 12 ∨ tmE b l o = 18 := by
  unfold tmE
  split
  · exact erK_kinds b l o _
  exact .inl rfl
theorem Tm_fine (hc : chkD a b l = 0) (h : (∀ x ∈ o, In l x) ∧ o.Nodup) : TmE a b l o = tmE b l o ∧ TmL a b l o = tmL b l o ∧ o.length ≤ l.length := by
  have hl := in_le h.1 h.2
  have h0 : noE a b l o = 0 := noE0.2 ⟨⟨hc, chkD0.1 hc⟩, hl, h.1, h.2⟩
  exact ⟨TmE_ok (by omega), TmL_ok (by omega), hl⟩
theorem VO.take (h : VO b l o) (m : Nat) : VO b l (o.take m) := by
  refine ⟨fun x hx => h.1 x (List.mem_of_mem_take hx), h.2.1.sublist (List.take_sublist m o), tmE_0.2 fun j hj => ?_⟩
  rw [← erK_app (r := o.drop m) hj, List.take_append_drop]
  rw [List.length_take] at hj
  exact tmE_0.1 h.2.2 j (by omega)
theorem tmA_take {m : Nat} (hm : m ≤ o.length) : tmA b l (o.take m) (o.take m).length = (tmA b l o o.length).take m := by
  have hl : (o.take m).length = m := by rw [List.length_take]; omega
  refine list_eqD (by rw [tmA_len, hl, List.length_take, tmA_len]; omega) fun j hj => ?_
  rw [tmA_len] at hj
  rw [tmA_get hj, List.getD_eq_getElem?_getD, List.getElem?_take_of_lt (by omega), ← List.getD_eq_getElem?_getD, tmA_get (by omega), ← atK_app (r := o.drop m) hj, List.take_append_drop]
theorem ovF_take {j z : Nat} (hj : j < o.length) (hz : o.getD j 0 = (z : Int)) : ovF b l (o.take (j + 1)) = atK b l o j + (l.getD z rn0).mi := by
  have e : o.take (j + 1) = o.take j ++ [(z : Int)] := by
    rw [List.take_add_one, List.getElem?_eq_getElem hj]
    rw [List.getD_eq_getElem?_getD, List.getElem?_eq_getElem hj] at hz
    rw [← hz]; rfl
  have hl : (o.take j).length = j := by rw [List.length_take]; omega
  have e2 : stK b l (o.take j) (o.take j).length = stK b l o j := by
    rw [hl, ← stK_app (o.take j) (o.drop j) (by omega), List.take_append_drop]
  rw [e, ovF_snoc]
  unfold ovF
  rw [e2]
  unfold atK
  rw [hz, Int.toNat_natCast]
theorem kyO_take {j z : Nat} (hj : j < o.length) (hz : o.getD j 0 = (z : Int)) : kyO l (o.take (j + 1)) = bsO (o.take (j + 1)) * l.length + z := by
  have e : o.take (j + 1) = o.take j ++ [(z : Int)] := by
    rw [List.take_add_one, List.getElem?_eq_getElem hj]
    rw [List.getD_eq_getElem?_getD, List.getElem?_eq_getElem hj] at hz
    rw [← hz]; rfl
  rw [e, kyO_of]
/-- the table knows no later time than an order's own -/
theorem tb_le (hc : chkD a b l = 0) (h : VO b l o) (hne : o ≠ []) : (TbL a b l).getD (kyO l o) 0 ≤ ovF b l o := by
  have hk := kyO_lt h hne
  rw [TbL_ok hc, List.getD_eq_getElem?_getD, rfT_get, if_pos hk]
  have hm := ords_all (b := b) (l := l) (f := l.length) (o := []) o (by simpa using h) (by simpa using h.len)
  rw [List.nil_append] at hm
  exact (atR_mem b l (kyO l o) (ords b l l.length []) nev).2.1 o hm hne rfl
theorem TbL_len (hc : chkD a b l = 0) : (TbL a b l).length = 2 ^ l.length * l.length := by rw [TbL_ok hc, rfT_len]
end
theorem law_RunEarlier (w : World) (o u : Value) (a b : Int) (l : List Rn) (bs : List Int) (n : Nat) (hR : RdF encR 6 w.heap.size w o l) (hX : RdF encU 1 w.heap.size w u bs) (hb : ∀ x ∈ bs, 0 ≤ x ∧ x ≤ 255) (hn : n ≤ 255) : Ret Try.prog 8 [dayV a b o, u, .int .u8 (n : Int)].toArray w (.bool true) := by
  refine Ret.of mixed tyTab Try.func8 rfl rfl ?_
  replace hR : RdF encR 6 (fnCx mixed tyTab Try.f8.ntmps w).B (fnCx mixed tyTab Try.f8.ntmps w).w0 o l := hR
  replace hX : RdF encU 1 (fnCx mixed tyTab Try.f8.ntmps w).B (fnCx mixed tyTab Try.f8.ntmps w).w0 u bs := hX
  have hoc := hR.sl.oc
  refine W.sreg ?_
  refine WO.boxA rfl rfl (fun b1 hb1 => ?_)
  refine WO.p rfl rfl ?_
  refine WO.nil ?_
  refine W.seq ?_
  refine W.sreg ?_
  refine WO.loadA rfl rfl (Cells.own Pick.head) rfl rfl ?_
  refine WO.callR rfl Try.call26 (fun L w hi => law_fine w o a b l (hR.later hi)) rfl ?_
  refine WO.p rfl rfl (WO.p rfl rfl ?_)
  refine WO.guard_nbl rfl rfl (fun c1 => ?_) (fun c1 => ?_)
  · first
    | (exfalso; omega)
    | (refine WO.no rfl rfl (WO.no rfl rfl (WO.no rfl rfl (WO.p rfl rfl ?_)))
       refine WO.nil ?_
       refine W.cond_t rfl ?_
       refine W.sreg ?_
       refine WO.callR rfl Try.call12 (fun L w hi => l_Works w) rfl ?_
       refine WO.p rfl rfl ?_
       refine WO.nil ?_
       refine W.ret ?_
       first | exact fin.ret (Res.one rfl (RV.tmp rfl)) rfl)
  first
  | (exfalso; omega)
  | (refine WO.pg rfl rfl rfl (WO.go' rfl ?_)
     refine' WO.len (n := _) rfl rfl ?hs rfl ?_
     case hs => (first | exact hX.sl)
     refine WO.pg rfl rfl rfl (WO.p rfl rfl ?_)
     refine WO.nil ?_
     refine W.cond_bl rfl (fun c2 => ?_) (fun c2 => ?_)
     · first
       | (exfalso; omega)
       | (refine W.sreg ?_
          refine WO.callR rfl Try.call12 (fun L w hi => l_Works w) rfl ?_
          refine WO.p rfl rfl ?_
          refine WO.nil ?_
          refine W.ret ?_
          first | exact fin.ret (Res.one rfl (RV.tmp rfl)) rfl)
     first
     | (exfalso; omega)
     | (refine W.skip ?_
        have hfp : fineP a b l := by assumption
        have hc : chkD a b l = 0 := hfp.2
        obtain ⟨hln, hd⟩ := chkD0.1 hc
        have hod := odL_ok (l := l) (bs := bs) hb
        obtain ⟨od, hodd⟩ : ∃ od, odL l.length bs = od := ⟨_, rfl⟩
        rw [hodd] at hod
        obtain ⟨hte, htl, hol⟩ := Tm_fine hc hod
        have hkd := tmE_kinds b l od
        have hsh := shl8 hln.2
        have hcb : 2 ^ l.length * l.length ≤ 256 * 8 := Nat.mul_le_mul hsh.2 hln.2
        refine W.sreg ?_
        refine WO.loadA rfl rfl (Cells.own Pick.head) rfl rfl (WO.p rfl rfl ?_)
        refine WO.call (Post := fun r Hq => ∃ x : Value, r = x ∧ Hq = [OwE encI 3 1 x od]) rfl Try.call27 (fun L w hi => by have h := law_Order w o u a b l bs (hR.later hi) (hX.later hi) hb (by omega); rw [hodd] at h; exact h) rfl ?_
        rintro xv _ ⟨_, rfl, rfl⟩
        refine WO.fact (OwE.formCap (enc := encI) (e := 3) (sz := 1) (v := xv) (xs := od) Pick.head) (fun hxv => ?_)
        obtain ⟨xa, xc, rfl, hxc, _, hxs⟩ := hxv
        refine WO.p rfl rfl ?_
        refine WO.nil ?_
        refine W.sreg ?_
        refine WO.loadA rfl rfl (Cells.own (Pick.tail (Pick.head))) rfl rfl (WO.p rfl rfl ?_)
        refine WO.call (Post := fun r Hq => ∃ x : Value, r = .tuple #[x, .int .i64 (tmE b l od)] ∧ Hq = [OwE encI 2 1 x (tmL b l od)]) rfl Try.call13 (fun L w hi => by have h := c_Times w o _ a b l od (hR.later hi) (RdF.of_ow (e := 3) encI_ok (by repeat (first | exact Pick.head | apply Pick.tail)) hi); rw [hte, htl] at h; exact h) rfl ?_
        rintro _ _ ⟨tv, rfl, rfl⟩
        refine WO.fact (OwE.formCap (enc := encI) (e := 2) (sz := 1) (v := tv) (xs := tmL b l od) Pick.head) (fun htv => ?_)
        obtain ⟨ta, tc, rfl, htc, _, hts⟩ := htv
        refine WO.p rfl rfl (WO.p rfl rfl (WO.p rfl rfl (WO.p rfl rfl (WO.p rfl rfl ?_))))
        refine WO.nil ?_
        refine W.seq ?_
        refine W.sreg ?_
        refine WO.p rfl rfl (WO.p rfl rfl (WO.p rfl rfl ?_))
        refine WO.guard_bl rfl rfl (fun c3 => ?_) (fun c3 => ?_)
        · first
          | (exfalso; omega)
          | (refine WO.no rfl rfl (WO.no rfl rfl (WO.no rfl rfl (WO.p rfl rfl ?_)))
             refine WO.nil ?_
             refine W.cond_t rfl ?_
             have hq : tmE b l od ≠ 0 ∨ od.length = 0 := by omega
             have hlt : tmE b l od = 0 → (tmL b l od).length = od.length := fun h => by rw [tmL_0 h, tmA_len]
             refine W.sreg ?_
             refine WO.p rfl rfl (WO.p rfl rfl (WO.p rfl rfl ?_))
             refine WO.guard_bl rfl rfl (fun c4 => ?_) (fun c4 => ?_)
             · first
               | (exfalso; omega)
               | (refine WO.pg rfl rfl rfl (WO.go' rfl ?_)
                  refine' WO.len (n := _) rfl rfl ?hs rfl ?_
                  case hs => (first | exact hts)
                  refine WO.pg rfl rfl rfl (WO.p rfl rfl (WO.p rfl rfl ?_))
                  refine WO.guard_bl rfl rfl (fun c5 => ?_) (fun c5 => ?_)
                  · first
                    | (exfalso; omega)
                    | (refine WO.no rfl rfl (WO.no rfl rfl (WO.p rfl rfl (WO.p rfl rfl (WO.no rfl rfl (WO.no rfl rfl (WO.p rfl rfl (WO.p rfl rfl (WO.go' rfl ?_))))))))
                       refine WO.callR rfl Try.call12 (fun L w hi => l_Works w) rfl ?_
                       refine WO.p rfl rfl (WO.p rfl rfl ?_)
                       refine WO.nil ?_
                       refine W.ret ?_
                       first | exact fin.ret (Res.one rfl (RV.tmp rfl)) rfl)
                  first
                  | (exfalso; omega)
                  | (refine WO.pg rfl rfl rfl (WO.pg rfl rfl rfl (WO.p rfl rfl (WO.p rfl rfl ?_)))
                     refine WO.guard_bl rfl rfl (fun c6 => ?_) (fun c6 => ?_)
                     · first
                       | (exfalso; omega)
                       | (refine WO.no rfl rfl (WO.no rfl rfl (WO.p rfl rfl (WO.p rfl rfl (WO.go' rfl ?_))))
                          refine WO.callR rfl Try.call12 (fun L w hi => l_Works w) rfl ?_
                          refine WO.p rfl rfl (WO.p rfl rfl ?_)
                          refine WO.nil ?_
                          refine W.ret ?_
                          first | exact fin.ret (Res.one rfl (RV.tmp rfl)) rfl)
                     first
                     | (exfalso; omega)
                     | (refine WO.pg rfl rfl rfl (WO.pg rfl rfl rfl (WO.p rfl rfl (WO.p rfl rfl ?_)))
                        refine WO.guard_bl rfl rfl (fun c7 => ?_) (fun c7 => ?_)
                        · first
                          | (exfalso; omega)
                          | (refine WO.go' rfl ?_
                             refine WO.callR rfl Try.call12 (fun L w hi => l_Works w) rfl ?_
                             refine WO.p rfl rfl (WO.p rfl rfl ?_)
                             refine WO.nil ?_
                             refine W.ret ?_
                             first | exact fin.ret (Res.one rfl (RV.tmp rfl)) rfl)
                        first
                        | (exfalso; omega)
                        | (refine WO.no rfl rfl (WO.p rfl rfl (WO.p rfl rfl ?_))
                           refine WO.nil ?_
                           refine W.ret ?_
                           first | exact fin.ret (Res.one rfl (RV.tmp rfl)) rfl))))
             first
             | (exfalso; omega)
             | (refine WO.no rfl rfl (WO.no rfl rfl (WO.no rfl rfl (WO.p rfl rfl (WO.p rfl rfl (WO.pg rfl rfl rfl (WO.pg rfl rfl rfl (WO.p rfl rfl (WO.p rfl rfl ?_))))))))
                refine WO.guard_bl rfl rfl (fun c5 => ?_) (fun c5 => ?_)
                · first
                  | (exfalso; omega)
                  | (refine WO.no rfl rfl (WO.no rfl rfl (WO.p rfl rfl (WO.p rfl rfl (WO.go' rfl ?_))))
                     refine WO.callR rfl Try.call12 (fun L w hi => l_Works w) rfl ?_
                     refine WO.p rfl rfl (WO.p rfl rfl ?_)
                     refine WO.nil ?_
                     refine W.ret ?_
                     first | exact fin.ret (Res.one rfl (RV.tmp rfl)) rfl)
                first
                | (exfalso; omega)
                | (refine WO.pg rfl rfl rfl (WO.pg rfl rfl rfl (WO.p rfl rfl (WO.p rfl rfl ?_)))
                   refine WO.guard_bl rfl rfl (fun c6 => ?_) (fun c6 => ?_)
                   · first
                     | (exfalso; omega)
                     | (refine WO.go' rfl ?_
                        refine WO.callR rfl Try.call12 (fun L w hi => l_Works w) rfl ?_
                        refine WO.p rfl rfl (WO.p rfl rfl ?_)
                        refine WO.nil ?_
                        refine W.ret ?_
                        first | exact fin.ret (Res.one rfl (RV.tmp rfl)) rfl)
                   first
                   | (exfalso; omega)
                   | (refine WO.no rfl rfl (WO.p rfl rfl (WO.p rfl rfl ?_))
                      refine WO.nil ?_
                      refine W.ret ?_
                      first | exact fin.ret (Res.one rfl (RV.tmp rfl)) rfl))))
        first
        | (exfalso; omega)
        | (refine WO.pg rfl rfl rfl (WO.go' rfl ?_)
           refine' WO.len (n := _) rfl rfl ?hs rfl ?_
           case hs => (first | exact hxs)
           refine WO.pg rfl rfl rfl (WO.p rfl rfl ?_)
           refine WO.nil ?_
           refine W.cond_bl rfl (fun c4 => ?_) (fun c4 => ?_)
           · first
             | (exfalso; omega)
             | (have hq : tmE b l od ≠ 0 ∨ od.length = 0 := by omega
                have hlt : tmE b l od = 0 → (tmL b l od).length = od.length := fun h => by rw [tmL_0 h, tmA_len]
                refine W.sreg ?_
                refine WO.p rfl rfl (WO.p rfl rfl (WO.p rfl rfl ?_))
                refine WO.guard_bl rfl rfl (fun c5 => ?_) (fun c5 => ?_)
                · first
                  | (exfalso; omega)
                  | (refine WO.pg rfl rfl rfl (WO.go' rfl ?_)
                     refine' WO.len (n := _) rfl rfl ?hs rfl ?_
                     case hs => (first | exact hts)
                     refine WO.pg rfl rfl rfl (WO.p rfl rfl (WO.p rfl rfl ?_))
                     refine WO.guard_bl rfl rfl (fun c6 => ?_) (fun c6 => ?_)
                     · first
                       | (exfalso; omega)
                       | (refine WO.no rfl rfl (WO.no rfl rfl (WO.p rfl rfl (WO.p rfl rfl (WO.no rfl rfl (WO.no rfl rfl (WO.p rfl rfl (WO.p rfl rfl (WO.go' rfl ?_))))))))
                          refine WO.callR rfl Try.call12 (fun L w hi => l_Works w) rfl ?_
                          refine WO.p rfl rfl (WO.p rfl rfl ?_)
                          refine WO.nil ?_
                          refine W.ret ?_
                          first | exact fin.ret (Res.one rfl (RV.tmp rfl)) rfl)
                     first
                     | (exfalso; omega)
                     | (refine WO.pg rfl rfl rfl (WO.pg rfl rfl rfl (WO.p rfl rfl (WO.p rfl rfl ?_)))
                        refine WO.guard_bl rfl rfl (fun c7 => ?_) (fun c7 => ?_)
                        · first
                          | (exfalso; omega)
                          | (refine WO.no rfl rfl (WO.no rfl rfl (WO.p rfl rfl (WO.p rfl rfl (WO.go' rfl ?_))))
                             refine WO.callR rfl Try.call12 (fun L w hi => l_Works w) rfl ?_
                             refine WO.p rfl rfl (WO.p rfl rfl ?_)
                             refine WO.nil ?_
                             refine W.ret ?_
                             first | exact fin.ret (Res.one rfl (RV.tmp rfl)) rfl)
                        first
                        | (exfalso; omega)
                        | (refine WO.pg rfl rfl rfl (WO.pg rfl rfl rfl (WO.p rfl rfl (WO.p rfl rfl ?_)))
                           refine WO.guard_bl rfl rfl (fun c8 => ?_) (fun c8 => ?_)
                           · first
                             | (exfalso; omega)
                             | (refine WO.go' rfl ?_
                                refine WO.callR rfl Try.call12 (fun L w hi => l_Works w) rfl ?_
                                refine WO.p rfl rfl (WO.p rfl rfl ?_)
                                refine WO.nil ?_
                                refine W.ret ?_
                                first | exact fin.ret (Res.one rfl (RV.tmp rfl)) rfl)
                           first
                           | (exfalso; omega)
                           | (refine WO.no rfl rfl (WO.p rfl rfl (WO.p rfl rfl ?_))
                              refine WO.nil ?_
                              refine W.ret ?_
                              first | exact fin.ret (Res.one rfl (RV.tmp rfl)) rfl))))
                first
                | (exfalso; omega)
                | (refine WO.no rfl rfl (WO.no rfl rfl (WO.no rfl rfl (WO.p rfl rfl (WO.p rfl rfl (WO.pg rfl rfl rfl (WO.pg rfl rfl rfl (WO.p rfl rfl (WO.p rfl rfl ?_))))))))
                   refine WO.guard_bl rfl rfl (fun c6 => ?_) (fun c6 => ?_)
                   · first
                     | (exfalso; omega)
                     | (refine WO.no rfl rfl (WO.no rfl rfl (WO.p rfl rfl (WO.p rfl rfl (WO.go' rfl ?_))))
                        refine WO.callR rfl Try.call12 (fun L w hi => l_Works w) rfl ?_
                        refine WO.p rfl rfl (WO.p rfl rfl ?_)
                        refine WO.nil ?_
                        refine W.ret ?_
                        first | exact fin.ret (Res.one rfl (RV.tmp rfl)) rfl)
                   first
                   | (exfalso; omega)
                   | (refine WO.pg rfl rfl rfl (WO.pg rfl rfl rfl (WO.p rfl rfl (WO.p rfl rfl ?_)))
                      refine WO.guard_bl rfl rfl (fun c7 => ?_) (fun c7 => ?_)
                      · first
                        | (exfalso; omega)
                        | (refine WO.go' rfl ?_
                           refine WO.callR rfl Try.call12 (fun L w hi => l_Works w) rfl ?_
                           refine WO.p rfl rfl (WO.p rfl rfl ?_)
                           refine WO.nil ?_
                           refine W.ret ?_
                           first | exact fin.ret (Res.one rfl (RV.tmp rfl)) rfl)
                      first
                      | (exfalso; omega)
                      | (refine WO.no rfl rfl (WO.p rfl rfl (WO.p rfl rfl ?_))
                         refine WO.nil ?_
                         refine W.ret ?_
                         first | exact fin.ret (Res.one rfl (RV.tmp rfl)) rfl))))
           first
           | (exfalso; omega)
           | (refine W.skip ?_
              refine W.seq ?_
              have ht0 : tmE b l od = 0 := by omega
              have hod0 : 0 < od.length := by omega
              have htl0 : tmL b l od = tmA b l od od.length := tmL_0 ht0
              have htll : (tmL b l od).length = od.length := by rw [htl0, tmA_len]
              have hvo : VO b l od := ⟨hod.1, hod.2, ht0⟩
              have hk := tmod_at (n := od.length) (x := (n : Int)) (by omega) hod0
              obtain ⟨j, hj1, hj2⟩ : ∃ j : Nat, (n : Int).tmod (od.length : Int) = (j : Int) ∧ j < od.length := ⟨_, hk.1, hk.2⟩
              obtain ⟨z, hz, hzl⟩ := in_nat (hod.1 _ (getD_mem hj2 0))
              have hvt := hvo.take (j + 1)
              have htk : (od.take (j + 1)).length = j + 1 := by rw [List.length_take]; omega
              have hot := ovF_take (b := b) (l := l) hj2 hz
              have hkt := kyO_take (l := l) hj2 hz
              have htne : od.take (j + 1) ≠ [] := fun e => by rw [e] at htk; simp at htk
              have hkl := kyO_lt hvt htne
              have htb := tb_le hc hvt htne
              have hbl := TbL_len hc
              have hat := atK_bd hd hod.1 hj2 (tmE_0.1 ht0 j hj2)
              have hrz := hd.at_ hzl
              unfold OkR at hrz
              have hnt := Tm_fine (o := od.take (j + 1)) hc ⟨hvt.1, hvt.2.1⟩
              have hbs := bsO_256 hvo.1 hln.2 (j + 1)
              refine W.sreg ?_
              refine WO.p rfl rfl ?_
              refine' WO.len (n := _) rfl rfl ?hs rfl ?_
              case hs => (first | exact hts)
              refine WO.p rfl rfl ?_
              refine' WO.len (n := _) rfl rfl ?hs rfl ?_
              case hs => (first | exact hxs)
              refine WO.neqF rfl rfl (by omega) rfl ?_
              refine WO.nil ?_
              refine W.cond_f rfl ?_
              refine W.skip ?_
              refine W.sreg ?_
              refine WO.p rfl rfl (WO.conv64 rfl rfl rfl (by (first | (unfold in64; omega) | (unfold in64; omega))) rfl (WO.p rfl rfl ?_))
              refine' WO.len (n := _) rfl rfl ?hs rfl ?_
              case hs => (first | exact hxs)
              refine WO.rem (b := (od.length : Int)) rfl rfl (by omega) rfl ?_
              rw [hj1]
              refine WO.ar rfl rfl rfl (by (first | (unfold in64; omega) | (unfold in64; omega))) rfl (WO.p rfl rfl ?_)
              refine WO.nil ?_
              refine W.seq ?_
              refine W.drawD 9 [.b 0 [], .r 1 [], .r 2 [], .r 3 [], .c 4 [], .r 5 [], .r 6 [], .r 7 [], .r 8 []] [] (A0 := []) (Sub.refl _) (by kernel_rfl) ?_ ?_
              · exact (ALok.b (ALok.r (ALok.r (ALok.r (ALok.c (ALok.r (ALok.r (ALok.r (ALok.r ALok.nil)))))))))
              refine' DT.b rfl rfl rfl ?hq ?_
              case hq =>
                refine WO.loadA rfl rfl (Cells.own (Pick.tail (Pick.tail (Pick.head)))) rfl rfl ?_
                exact WO.nil ⟨rfl, rfl⟩
              refine' DT.r rfl rfl rfl ?hq ?_
              case hq =>
                refine WO.p rfl rfl ?_
                exact WO.nil ⟨rfl, rfl⟩
              refine' DT.r rfl rfl rfl ?hq ?_
              case hq =>
                refine WO.p rfl rfl ?_
                exact WO.nil ⟨rfl, rfl⟩
              refine' DT.r rfl rfl rfl ?hq ?_
              case hq =>
                refine WO.slSl (lo := 0) (hi := j + 1) (mx := xc) rfl rfl bnd.no (bnd.atZ rfl (by omega)) bnd.no (by simp) (by omega) (by omega) (by omega) rfl ?_
                exact WO.nil ⟨rfl, rfl⟩
              refine DT.c [_, _, _] rfl rfl rfl rfl ?_
              refine WO.call (Post := fun r Hq => ∃ x : Value, r = .tuple #[x, .int .i64 0] ∧ Hq = [OwE encI 2 1 x ((tmA b l od od.length).take (j + 1))]) rfl Try.call13 (fun L w hi => by have h := c_Times w o _ a b l _ (hR.later hi) ((RdF.of_ow (e := 3) encI_ok (by repeat (first | exact Pick.head | apply Pick.tail)) hi).sub (lo := 0) (hi := j + 1) (mx := xc) (by omega) (by omega) (by omega)); rw [show (od.drop 0).take (j + 1 - 0) = od.take (j + 1) from rfl, hnt.1, hnt.2.1, hvt.2.2, tmL_0 hvt.2.2, tmA_take (by omega)] at h; exact h) rfl ?_
              rintro _ _ ⟨hv, rfl, rfl⟩
              refine WO.nil ⟨_, [_], rfl, rfl, (Keep.r (Keep.r (Keep.r (Keep.b Keep.nil)))), ?_⟩
              refine' DT.r rfl rfl rfl ?hq ?_
              case hq =>
                refine WO.p rfl rfl ?_
                exact WO.nil ⟨rfl, rfl⟩
              refine' DT.r rfl rfl rfl ?hq ?_
              case hq =>
                refine WO.p rfl rfl ?_
                exact WO.nil ⟨rfl, rfl⟩
              refine' DT.r rfl rfl rfl ?hq ?_
              case hq =>
                refine WO.p rfl rfl ?_
                exact WO.nil ⟨rfl, rfl⟩
              refine' DT.r rfl rfl rfl ?hq ?_
              case hq =>
                refine WO.p rfl rfl ?_
                exact WO.nil ⟨rfl, rfl⟩
              refine DT.nil [_, _, _, _] rfl ?_
              refine WO.p rfl rfl ?_
              refine WO.nil ?_
              refine W.seq ?_
              refine W.sreg ?_
              refine WO.p rfl rfl ?_
              refine WO.neqF rfl rfl (by decide) rfl ?_
              refine WO.p rfl rfl (WO.pg rfl rfl rfl (WO.pg rfl rfl rfl (WO.pg rfl rfl rfl (WO.go' rfl ?_))))
              refine WO.slSl (lo := 0) (hi := j + 1) (mx := tc) rfl rfl bnd.no (bnd.atZ rfl (by omega)) bnd.no (by simp) (by omega) (by omega) (by omega) rfl ?_
              refine WO.go' rfl ?_
              refine WO.callR (r := .bool true) rfl Try.call17 (fun L w hi => longs_t (law_longs w hv _ ((tmA b l od od.length).take (j + 1)) (((tmL b l od).drop 0).take (j + 1 - 0)) (RdF.of_ow (e := 2) encI_ok (by repeat (first | exact Pick.head | apply Pick.tail)) hi) ((RdF.of_ow (e := 2) encI_ok (by repeat (first | exact Pick.head | apply Pick.tail)) hi).sub (lo := 0) (hi := j + 1) (mx := tc) (by omega) (by omega) (by omega))) (by rw [htl0]; rfl)) rfl ?_
              refine WO.pg rfl rfl rfl (WO.p rfl rfl ?_)
              refine WO.nil ?_
              refine W.cond_f rfl ?_
              refine W.skip ?_
              refine W.sreg ?_
              refine WO.loadA rfl rfl (Cells.own (Pick.tail (Pick.tail (Pick.tail (Pick.head))))) rfl rfl ?_
              refine WO.call (Post := fun r Hq => ∃ x : Value, r = .tuple #[x, .int .i64 0] ∧ Hq = [OwE encI 2 1 x (TbL a b l)]) rfl Try.call21 (fun L w hi => by have h := c_Table w o a b l (hR.later hi); rw [hc] at h; exact h) rfl ?_
              rintro _ _ ⟨bv, rfl, rfl⟩
              refine WO.fact (OwE.sl (enc := encI) (e := 2) (sz := 1) (v := bv) (xs := TbL a b l) Pick.head) (fun hbsl => ?_)
              rw [hbl] at hbsl
              refine WO.p rfl rfl (WO.p rfl rfl (WO.p rfl rfl (WO.p rfl rfl (WO.p rfl rfl ?_))))
              refine WO.nil ?_
              refine W.sreg ?_
              refine WO.fieldL rfl rfl rfl (WO.load rfl rfl (Cell.own (Pick.tail (Pick.tail (Pick.tail (Pick.tail (Pick.head))))) rfl) rfl ?_)
              refine' WO.len (n := _) rfl rfl ?hs rfl ?_
              case hs => (first | exact hR.sl)
              refine WO.p rfl rfl ?_
              refine WO.nil ?_
              refine W.seq ?_
              refine W.sreg ?_
              refine WO.p rfl rfl ?_
              refine WO.neqF rfl rfl (by decide) rfl ?_
              refine WO.p rfl rfl (WO.pg rfl rfl rfl (WO.go' rfl ?_))
              refine' WO.len (n := _) rfl rfl ?hs rfl ?_
              case hs => (first | exact hbsl)
              refine WO.pg rfl rfl rfl (WO.pg rfl rfl rfl (WO.go' rfl ?_))
              refine WO.shlN (a := l.length) (s := l.length) rfl rfl (by show l.length ≤ 64; omega) (fit (by rw [Nat.shiftLeft_eq, Nat.mul_comm]; omega)) rfl ?_
              rw [show l.length <<< l.length = 2 ^ l.length * l.length by rw [Nat.shiftLeft_eq, Nat.mul_comm]]
              refine WO.go' rfl ?_
              refine WO.neqF rfl rfl (by omega) rfl ?_
              refine WO.p rfl rfl ?_
              refine WO.nil ?_
              refine W.cond_f rfl ?_
              refine W.skip ?_
              refine W.sreg ?_
              refine WO.p rfl rfl ?_
              refine WO.nil ?_
              refine W.seq ?_
              refine W.sreg ?_
              refine WO.p rfl rfl ?_
              refine WO.nil ?_
              refine W.block ?_
              refine W.loop (fun (i : Nat) => i ≤ j + 1)
                (fun (i : Nat) => [(3, .pointer (some ⟨b1, 0, none⟩)), (7, .slice xa od.length xc), (8, .slice ta (tmL b l od).length tc), (10, .int .i64 (1 + (j : Int))), (13, bv), (15, .int .i64 (l.length : Int)), (16, .int .i64 (bsO (od.take i) : Int)), (17, .int .i64 (i : Int))])
                (fun (i : Nat) => [pt b1 (.cells #[.int .i64 a, .int .i64 b, o] 26 (0, 0)), OwE encI 3 1 (.slice xa od.length xc) od, OwE encI 2 1 (.slice ta (tmL b l od).length tc) (tmL b l od), OwE encI 2 1 bv (TbL a b l)])
                (fun (i : Nat) => j + 1 - i) 0
                (by omega) ⟨rfl, rfl, rfl, rfl, rfl, rfl, rfl, rfl, trivial⟩ (by repeat (first | exact Sub.nil | refine Sub.cons (by repeat (first | exact Pick.head | apply Pick.tail)) ?_)) ?_
              rintro i hi
              refine W.seq ?_
              refine W.sreg ?_
              refine WO.p rfl rfl (WO.p rfl rfl (WO.p rfl rfl ?_))
              refine WO.nil ?_
              refine W.cond_bl rfl (fun c5 => ?_) (fun c5 => ?_)
              · first
                | (exfalso; omega)
                | (refine W.skip ?_
                   refine W.seq ?_
                   refine W.block ?_
                   obtain ⟨y, hy, hyl⟩ := in_nat (hod.1 _ (getD_mem (show i < od.length by omega) 0))
                   have hb2 := bsO_256 hod.1 hln.2 i
                   have hb1' := shl1 (show y ≤ 8 by omega)
                   refine W.region ?_
                   refine WO.p rfl rfl (WO.p rfl rfl (WO.p rfl rfl ?_))
                   refine' WO.indexAddr (n := _) (i := _) rfl rfl rfl ?hs ?h1 rfl ?_
                   case hs => (first | exact hxs)
                   case h1 => (first | omega | (simp; omega))
                   refine' WO.load (v := _) rfl rfl ?hc rfl ?_
                   case hc => (first | (refine owE_cellS (e := 3) (xs := od) (x := (y : Int)) (i := i) ?_ (by omega) hy.symm rfl; exact (by repeat (first | exact Sub.nil | refine Sub.cons (by repeat (first | exact Pick.head | apply Pick.tail)) ?_))))
                   refine WO.shlN (a := 1) (s := y) rfl rfl (by show y ≤ 64; omega) (fit (by omega)) rfl ?_
                   refine WO.orN (a := bsO (od.take i)) (b := 1 <<< y) rfl rfl (fit (by omega)) (fit (by omega)) rfl ?_
                   rw [show bsO (od.take i) ||| 1 <<< y = bsO (od.take (i + 1)) by rw [bsO_take (by omega), hy, Int.toNat_natCast]]
                   refine WO.p rfl rfl ?_
                   refine WO.nil ?_
                   refine W.region ?_
                   refine WO.p rfl rfl (WO.ar rfl rfl rfl (by (first | (unfold in64; omega) | (unfold in64; omega))) rfl (WO.p rfl rfl ?_))
                   refine WO.nil ?_
                   refine' ⟨i + 1, ?hp, ?hmu, ⟨rfl, rfl, rfl, rfl, rfl, rfl, rfl, rfl, trivial⟩, ?hS⟩
                   case hS => repeat (first | exact Sub.nil | refine Sub.cons (by repeat (first | exact Pick.head | apply Pick.tail)) ?_)
                   case hp => omega
                   case hmu => omega)
              first
              | (exfalso; omega)
              | (refine W.exit (blk_same ?_)
                 obtain rfl : i = j + 1 := by omega
                 refine W.sreg ?_
                 refine WO.p rfl rfl (WO.p rfl rfl ?_)
                 refine WO.sub rfl rfl (by unfold in64; omega) rfl ?_
                 rw [show 1 + (j : Int) - 1 = (j : Int) by omega]
                 refine' WO.indexAddr (n := _) (i := _) rfl rfl rfl ?hs ?h1 rfl ?_
                 case hs => (first | exact hxs)
                 case h1 => (first | omega | (simp; omega))
                 refine' WO.load (v := _) rfl rfl ?hc rfl ?_
                 case hc => (first | (refine owE_cellS (e := 3) (xs := od) (x := (z : Int)) (i := j) ?_ (by omega) hz.symm rfl; exact (by repeat (first | exact Sub.nil | refine Sub.cons (by repeat (first | exact Pick.head | apply Pick.tail)) ?_))))
                 refine WO.p rfl rfl ?_
                 refine WO.nil ?_
                 refine W.seq ?_
                 refine W.drawD 20 [.r 0 [], .r 1 [], .r 2 [], .r 3 [], .r 4 [], .r 5 [], .r 6 [], .b 7 [], .r 8 [], .r 9 [], .r 10 [], .r 11 [], .b 12 [], .r 13 [], .b 14 [], .r 15 [], .r 16 [], .r 17 [], .b 18 [], .r 19 []] [] (A0 := []) (Sub.refl _) (by kernel_rfl) ?_ ?_
                 · exact (ALok.r (ALok.r (ALok.r (ALok.r (ALok.r (ALok.r (ALok.r (ALok.b (ALok.r (ALok.r (ALok.r (ALok.r (ALok.b (ALok.r (ALok.b (ALok.r (ALok.r (ALok.r (ALok.b (ALok.r ALok.nil))))))))))))))))))))
                 refine' DT.r rfl rfl rfl ?hq ?_
                 case hq =>
                   refine WO.p rfl rfl ?_
                   exact WO.nil ⟨rfl, rfl⟩
                 refine' DT.r rfl rfl rfl ?hq ?_
                 case hq =>
                   refine WO.p rfl rfl ?_
                   exact WO.nil ⟨rfl, rfl⟩
                 refine' DT.r rfl rfl rfl ?hq ?_
                 case hq =>
                   refine WO.p rfl rfl ?_
                   exact WO.nil ⟨rfl, rfl⟩
                 refine' DT.r rfl rfl rfl ?hq ?_
                 case hq =>
                   refine WO.mul rfl rfl (by rw [← Int.natCast_mul]; unfold in64; omega) rfl ?_
                   rw [← Int.natCast_mul]
                   exact WO.nil ⟨rfl, rfl⟩
                 refine' DT.r rfl rfl rfl ?hq ?_
                 case hq =>
                   refine WO.p rfl rfl ?_
                   exact WO.nil ⟨rfl, rfl⟩
                 refine' DT.r rfl rfl rfl ?hq ?_
                 case hq =>
                   refine WO.add rfl rfl (by unfold in64; omega) rfl ?_
                   rw [show ((bsO (od.take (j + 1)) * l.length : Nat) : Int) + (z : Int) = ((kyO l (od.take (j + 1)) : Nat) : Int) by omega]
                   exact WO.nil ⟨rfl, rfl⟩
                 refine' DT.r rfl rfl rfl ?hq ?_
                 case hq =>
                   refine' WO.indexAddr (n := _) (i := _) rfl rfl rfl ?hs ?h1 rfl ?_
                   case hs => (first | exact hbsl)
                   case h1 => (first | omega | (simp; omega))
                   exact WO.nil ⟨rfl, rfl⟩
                 refine' DT.b rfl rfl rfl ?hq ?_
                 case hq =>
                   refine' WO.load (v := _) rfl rfl ?hc rfl ?_
                   case hc => (first | (refine owE_cellS (e := 2) (xs := TbL a b l) (x := (TbL a b l).getD (kyO l (od.take (j + 1))) 0) (i := kyO l (od.take (j + 1))) ?_ (by omega) rfl rfl; exact (by repeat (first | exact Sub.nil | refine Sub.cons (by repeat (first | exact Pick.head | apply Pick.tail)) ?_))))
                   exact WO.nil ⟨rfl, rfl⟩
                 refine' DT.r rfl rfl rfl ?hq ?_
                 case hq =>
                   refine WO.p rfl rfl ?_
                   exact WO.nil ⟨rfl, rfl⟩
                 refine' DT.r rfl rfl rfl ?hq ?_
                 case hq =>
                   refine WO.p rfl rfl ?_
                   exact WO.nil ⟨rfl, rfl⟩
                 refine' DT.r rfl rfl rfl ?hq ?_
                 case hq =>
                   refine WO.sub rfl rfl (by unfold in64; omega) rfl ?_
                   rw [show 1 + (j : Int) - 1 = (j : Int) by omega]
                   exact WO.nil ⟨rfl, rfl⟩
                 refine' DT.r rfl rfl rfl ?hq ?_
                 case hq =>
                   refine' WO.indexAddr (n := _) (i := _) rfl rfl rfl ?hs ?h1 rfl ?_
                   case hs => (first | exact hts)
                   case h1 => (first | omega | (simp; omega))
                   exact WO.nil ⟨rfl, rfl⟩
                 refine' DT.b rfl rfl rfl ?hq ?_
                 case hq =>
                   refine' WO.load (v := _) rfl rfl ?hc rfl ?_
                   case hc => (first | (refine owE_cellS (e := 2) (xs := tmL b l od) (x := atK b l od j) (i := j) ?_ (by omega) (by rw [htl0, tmA_get hj2]) rfl; exact (by repeat (first | exact Sub.nil | refine Sub.cons (by repeat (first | exact Pick.head | apply Pick.tail)) ?_))))
                   exact WO.nil ⟨rfl, rfl⟩
                 refine' DT.r rfl rfl rfl ?hq ?_
                 case hq =>
                   refine WO.fieldL rfl rfl rfl ?_
                   exact WO.nil ⟨rfl, rfl⟩
                 refine' DT.b rfl rfl rfl ?hq ?_
                 case hq =>
                   refine WO.load rfl rfl (Cell.own Pick.head rfl) rfl ?_
                   exact WO.nil ⟨rfl, rfl⟩
                 refine' DT.r rfl rfl rfl ?hq ?_
                 case hq =>
                   refine WO.p rfl rfl ?_
                   exact WO.nil ⟨rfl, rfl⟩
                 refine' DT.r rfl rfl rfl ?hq ?_
                 case hq =>
                   refine' WO.indexAddr (n := _) (i := _) rfl rfl rfl ?hs ?h1 rfl ?_
                   case hs => (first | exact hR.sl)
                   case h1 => (first | omega | (simp; omega))
                   exact WO.nil ⟨rfl, rfl⟩
                 refine' DT.r rfl rfl rfl ?hq ?_
                 case hq =>
                   refine WO.field0 rfl rfl rfl ?_
                   exact WO.nil ⟨rfl, rfl⟩
                 refine' DT.b rfl rfl rfl ?hq ?_
                 case hq =>
                   refine' WO.load (v := _) rfl rfl ?hc rfl ?_
                   case hc => (first | (refine hR.cell0 (i := z) hzl rn0 ?_; rfl))
                   exact WO.nil ⟨rfl, rfl⟩
                 refine' DT.r rfl rfl rfl ?hq ?_
                 case hq =>
                   refine WO.ar rfl rfl rfl (by (first | (unfold in64; omega) | (unfold in64; omega))) rfl ?_
                   exact WO.nil ⟨rfl, rfl⟩
                 refine DT.nil [_, _, _, _] rfl ?_
                 refine WO.leqT rfl rfl (by omega) rfl ?_
                 refine WO.p rfl rfl (WO.go' rfl ?_)
                 refine WO.callR rfl Try.call12 (fun L w hi => l_Works w) rfl ?_
                 refine WO.p rfl rfl (WO.p rfl rfl ?_)
                 refine WO.nil ?_
                 refine W.ret ?_
                 first | exact fin.ret (Res.one rfl (RV.tmp rfl)) rfl)))))
end Go.Proofs.Ytkonhpcldomidaa
