/-
  What is proved here: own slices of encoded elements, and own slices of such slices. Conditions: none; each rule states its own.
-/
import Derived.Test.YthoeeeehfkenkaaGreatM1
import Derived.Great.BuildSlice
import Derived.Laws.IdiomCopy
import Derived.RangeFuncRecord
import Derived.Laws.CopyRow
import Derived.Below
import Derived.ChangeSame
import Derived.ProofKit
import Derived.Deep.Slices
import Derived.Carry
import Derived.Test.YthoeeeehfkenkaaGreatProg
import Derived.KernelRfl
import Derived.DataElems
import Derived.MapKept
import Derived.Deep.Strs
import Derived.OpenShut
set_option linter.unusedVariables false
set_option linter.unusedSimpArgs false
namespace Go.TH
open Go
structure EncOk {α:Type} (enc:α→List Value) (sz:Nat):Prop where
 len:∀ x,(enc x).length=sz
 one:∀ x,∀ u∈enc x,u.oneCell'=true
 pos:0<sz
theorem encI_ok:EncOk encI 1:=⟨fun _=>rfl,fun x u hu=>by simp [encI] at hu;subst hu;rfl,by omega⟩
theorem encP_ok:EncOk encP 2:=⟨fun _=>rfl,fun x u hu=>by simp [encP] at hu;rcases hu with rfl | rfl <;> rfl,by omega⟩
section
variable {α:Type} {enc:α→List Value} {sz:Nat}
theorem EncOk.flat_len (he:EncOk enc sz):∀ (xs:List α),(xs.flatMap enc).length=xs.length*sz
 | []=>by simp
 | x::r=>by simp only [List.flatMap_cons,List.length_append,he.len,he.flat_len r,List.length_cons,Nat.add_mul];omega
theorem EncOk.flat_get (he:EncOk enc sz):∀ (xs:List α) (i j:Nat) (x:α),xs[i]?=some x→j<sz→(xs.flatMap enc)[i*sz+j]?=(enc x)[j]?
 | [],_,_,_,h,_=>by simp at h
 | y::r,0,j,x,h,hj=>by
  simp at h;subst h
  simp only [List.flatMap_cons,Nat.zero_mul,Nat.zero_add]
  rw [List.getElem?_append_left (by rw [he.len];exact hj)]
 | y::r,i+1,j,x,h,hj=>by
  simp at h
  simp only [List.flatMap_cons]
  rw [List.getElem?_append_right (by rw [he.len,Nat.add_mul];omega),he.len]
  have:(i+1)*sz+j-sz=i*sz+j:=by rw [Nat.add_mul];omega
  rw [this]
  exact he.flat_get r i j x h hj
theorem EncOk.flat_set (he:EncOk enc sz):∀ (xs:List α) (i:Nat) (y:α),i<xs.length→(xs.set i y).flatMap enc=wrl (xs.flatMap enc) (i*sz) (enc y):=by
 intro xs i y hi
 have e1:xs.flatMap enc=(xs.take i).flatMap enc++(enc xs[i]++(xs.drop (i+1)).flatMap enc):=by
  rw [← List.flatMap_cons,← List.flatMap_append,List.getElem_cons_drop,List.take_append_drop]
 have e2:(xs.set i y).flatMap enc=(xs.take i).flatMap enc++(enc y++(xs.drop (i+1)).flatMap enc):=by
  rw [List.set_eq_take_append_cons_drop,if_pos hi,List.flatMap_append,List.flatMap_cons]
 have hl:((xs.take i).flatMap enc).length=i*sz:=by rw [he.flat_len,List.length_take];congr 1;omega
 have:=wrl_eq (enc y) ((xs.take i).flatMap enc) (enc xs[i]++(xs.drop (i+1)).flatMap enc) (by simp [he.len])
 rw [hl] at this
 rw [e2,e1,this,List.append_assoc]
 congr 2
 rw [he.len,List.drop_append]
 simp [he.len]
def OwE (enc:α→List Value) (e sz:Nat) (v:Value) (xs:List α):HP:=OwC e sz v xs.length (xs.flatMap enc)
def RowsE (enc:α→List Value) (e sz:Nat):List Value→List (List α)→HP
 | [],[]=>fun _=>True
 | r::rv,xs::xss=>fun h=>∃ h1 h2,Split h h1 h2∧OwE enc e sz r xs h1∧RowsE enc e sz rv xss h2
 | _,_=>fun _=>False
def RowsBut (enc:α→List Value) (e sz:Nat) (i:Nat) (rv:List Value) (xss:List (List α)):HP:=fun h2=>∀ h h1 xs,Split h h1 h2→OwE enc e sz (rv.getD i undef) xs h1→RowsE enc e sz rv (xss.set i xs) h
variable {e:Nat}
theorem RowsE.len:∀ {rv:List Value} {xss:List (List α)} {h:Hp},RowsE enc e sz rv xss h→rv.length=xss.length
 | [],[],_,_=>rfl
 | _::rv,_::xss,_,⟨_,_,_,_,r⟩=>by simp [RowsE.len r]
 | [],_::_,_,h=>h.elim
 | _::_,[],_,h=>h.elim
theorem split_none (h:Hp):Split h (fun _=>none) h:=fun _=>.inl ⟨rfl,rfl⟩
theorem RowsE.part:∀ {rv:List Value} {xss:List (List α)} {i:Nat} {h:Hp},i<xss.length→RowsE enc e sz rv xss h→∃ h1 h2,Split h h1 h2∧OwE enc e sz (rv.getD i undef) (xss.getD i []) h1∧RowsBut enc e sz i rv xss h2
 | r::rv,xs::xss,0,h,_,⟨a,b,s,o,rb⟩=>⟨a,b,s,by simpa using o,fun h' h1 ys t p=>⟨h1,b,t,by simpa using p,rb⟩⟩
 | r::rv,xs::xss,i+1,h,hi,⟨a,b,s,o,rb⟩=>by
  obtain ⟨h1,h2,t,p,q⟩:=RowsE.part (i:=i) (by simpa using hi) rb
  obtain ⟨r',s',t'⟩:=s.swap t
  refine ⟨h1,r',s',by simpa using p,fun h' h1' ys u p'=>?_⟩
  obtain ⟨r2,u1,u2⟩:=u.swap t'
  exact ⟨a,r2,u1,o,q r2 h1' ys u2 (by simpa using p')⟩
 | [],[],i,h,hi,_=>by simp at hi
 | [],_::_,_,_,_,h=>h.elim
 | _::_,[],_,_,_,h=>h.elim
end
section
variable {P:Program} {C:Cx P} {E:Env} {H:List HP} {α:Type} {enc:α→List Value} {sz e:Nat}
theorem OwE.form {v:Value} {xs:List α} {H':List HP} (p:Pick (OwE enc e sz v xs) H H'):∀ (L:List HP) w,Inv C.w0 C.M (L++H) w→∃ a c,v=.slice a xs.length c:=OwC.form p
theorem OwE.sl {v:Value} {xs:List α} {H':List HP} (p:Pick (OwE enc e sz v xs) H H'):∀ (L:List HP) w,Inv C.w0 C.M (L++H) w→IsSl v xs.length:=OwC.sl p
theorem OwE.cellAt (he:EncOk enc sz) {v:Value} {xs:List α} {H':List HP} (p:Pick (OwE enc e sz v xs) H H') {i:Nat} (hi:i<xs.length) (z:α) {j:Nat} {u:Value} (hu:lget (enc (xs.getD i z)) j=some u):Cell C H (prt (elt v i sz) j) u:=by
 rw [prt_eq,elt_eq]
 rw [lget_eq] at hu
 refine OwC.cellAt p ?_
 rw [he.flat_get xs i j _ (getD_some hi z) (by have:=(List.getElem?_eq_some_iff.1 hu).1;rw [he.len] at this;exact this)]
 exact hu
theorem OwE.cell0 (he:EncOk enc sz) {v:Value} {xs:List α} {H':List HP} (p:Pick (OwE enc e sz v xs) H H') {i:Nat} (hi:i<xs.length) (z:α) {u:Value} (hu:lget (enc (xs.getD i z)) 0=some u):Cell C H (elt v i sz) u:=by
 have:=OwE.cellAt (C:=C) he p hi z hu
 rw [prt_eq] at this
 simpa [Addr.add] using this
theorem OwE.cells (he:EncOk enc sz) {v:Value} {xs:List α} {H':List HP} (p:Pick (OwE enc e sz v xs) H H') {i:Nat} (hi:i<xs.length) (z:α):Cells C H (elt v i sz) (enc (xs.getD i z)):=by
 intro j u hu
 have:=OwE.cellAt (C:=C) he p hi z (j:=j) (u:=u) (by rw [lget_eq];exact hu)
 rwa [prt_eq] at this
theorem Pick.rowIn {rv:List Value} {xss:List (List α)} {H':List HP} {i:Nat} (p:Pick (RowsE enc e sz rv xss) H H') (hi:i<xss.length):∀ h,TH.sat H h→TH.sat (OwE enc e sz (rv.getD i undef) (xss.getD i [])::RowsBut enc e sz i rv xss::H') h:=by
 intro h hs
 obtain ⟨a,b,s,ha,hb⟩:=p.sat hs
 obtain ⟨a1,a2,t,q1,q2⟩:=RowsE.part hi ha
 obtain ⟨r',s',t'⟩:=s.comm.swap t
 exact ⟨a1,r',s',q1,a2,b,t'.comm,q2,hb⟩
theorem sat_app_imp {H H':List HP} (hi:∀ h,sat H h→sat H' h) (L:List HP):∀ h,sat (L++H) h→sat (L++H') h:=by
 intro h hs
 obtain ⟨h1,h2,s,x,y⟩:=sat_app hs
 exact sat_join s x (hi _ y)
theorem Inv.chg {w0:World} {M:List Nat} {L H H':List HP} {w:World} (h:Inv w0 M (L++H) w) (hi:∀ h,sat H h→sat H' h):Inv w0 M (L++H') w :=
 ⟨h.os,h.tape,h.output,h.size,h.keep,sat_app_imp hi L _ h.mine⟩
theorem Cell.chg {H':List HP} {p:Addr} {v:Value} (hc:Cell C H' p v) (hi:∀ h,sat H h→sat H' h):Cell C H p v:=fun L w h=>hc L w (h.chg hi)
theorem RowsE.rowsLen {rv:List Value} {xss:List (List α)} {H':List HP} (p:Pick (RowsE enc e sz rv xss) H H'):∀ (L:List HP) w,Inv C.w0 C.M (L++H) w→rv.length=xss.length:=fun _ _ hi =>
 let ⟨_,h⟩:=(hi.pickL p).piece;RowsE.len h
theorem RowsE.cell0 (he:EncOk enc sz) {rv:List Value} {xss:List (List α)} {H':List HP} {i k:Nat} (p:Pick (RowsE enc e sz rv xss) H H') (hi:i<xss.length) (hk:k<(xss.getD i []).length) (z:α) {u:Value} (hu:lget (enc ((xss.getD i []).getD k z)) 0=some u):Cell C H (elt (rv.getD i undef) k sz) u :=
 (OwE.cell0 (C:=C) he .head hk z hu).chg (p.rowIn hi)
theorem RowsE.cellAt (he:EncOk enc sz) {rv:List Value} {xss:List (List α)} {H':List HP} {i k j:Nat} (p:Pick (RowsE enc e sz rv xss) H H') (hi:i<xss.length) (hk:k<(xss.getD i []).length) (z:α) {u:Value} (hu:lget (enc ((xss.getD i []).getD k z)) j=some u):Cell C H (prt (elt (rv.getD i undef) k sz) j) u :=
 (OwE.cellAt (C:=C) he .head hk z hu).chg (p.rowIn hi)
theorem RdF.of_ow (he:EncOk enc sz) {v:Value} {xs:List α} {H':List HP} {L:List HP} {w:World} (p:Pick (OwE enc e sz v xs) H H') (hi:Inv C.w0 C.M (L++H) w):RdF enc sz w.heap.size w v xs:=by
 refine ⟨OwE.sl p L w hi,fun hl=>?_,fun i x hx j u hu=>?_⟩
 ·have h00:lget (enc (xs.getD 0 xs[0])) 0=some ((enc (xs.getD 0 xs[0])).getD 0 undef):=by
   generalize xs.getD 0 xs[0]=q
   have h1:=he.len q
   have h2:=he.pos
   rw [lget_eq]
   cases hq:enc q with
   | nil=>rw [hq] at h1;simp at h1;omega
   | cons a r=>simp
  have h0:=OwE.cell0 (C:=C) he p hl xs[0] h00
  have:=World.block_lt_of_cell? w _ (h0 L w hi)
  rw [elt_eq,addr_add_block] at this
  exact this
 ·have hlt:=(List.getElem?_eq_some_iff.1 hx).1
  have:=OwE.cells (C:=C) he p hlt x j u (by simpa [hx] using hu) L w hi
  rwa [elt_eq] at this
theorem RdR.of_ow (he:EncOk enc sz) {e':Nat} {v:Value} {rv:List Value} {xss:List (List α)} {H1 H2:List HP} {L:List HP} {w:World} {n:Nat} (p:Pick (OwC e' 1 v n rv) H H1) (q:Pick (RowsE enc e sz rv xss) H H2) (hi:Inv C.w0 C.M (L++H) w):RdR enc sz w.heap.size w v rv xss:=by
 have hlen:=RowsE.rowsLen (C:=C) q L w hi
 have hn:rv.length=n:=by have:=(OwC.open (hi.pickL p)).1;omega
 subst hn
 refine ⟨⟨OwC.sl p L w hi,fun hl=>?_,fun i x hx j u hu=>?_⟩,hlen,fun i hl=>?_⟩
 ·have:=World.block_lt_of_cell? w _ (OwC.cell1 (C:=C) p hl L w hi)
  rw [elt_eq,addr_add_block] at this
  exact this
 ·have hlt:=(List.getElem?_eq_some_iff.1 hx).1
  obtain ⟨rfl,rfl⟩:j=0∧u=x:=by
   cases j with
   | zero=>simp [encV] at hu;exact ⟨rfl,hu.symm⟩
   | succ j=>simp [encV] at hu
  have:=OwC.cell1 (C:=C) p hlt L w hi
  rw [elt_eq] at this
  simpa [hx,Addr.add] using this
 ·exact RdF.of_ow (C:=C) he (.head) (hi.chg (q.rowIn hl))
section rules
variable {ops:Array Oper} {K:KP} {rest:List Oper} {d:Nat} {ty:TypeId} {pos:String} {af:Array Edge} {x y z:Operand} {T T':TypeId}
theorem WO.appendE (he:EncOk enc sz) {by' m:Nat} {v u zv:Value} {xs ys:List α} {H':List HP} (hT:C.tt.sl? T=some (e,sz,by')) (hz:C.tt.z? e=some zv) (hzs:Nat.beq zv.cells.size sz=true)
 (hx:ev E x=some v) (hy:ev E y=some u) (p:Pick (OwE enc e sz v xs) H H') (hS:IsSl u m) (hm:0<m) (hl:ys.length=m) (hc:Cells C H (base u) (ys.flatMap enc))
 (hb:(xs.length+m)*by'≤140737488355328) (h63:xs.length+m≤9223372036854775807) (hN:Nat.blt d C.N=true)
 (h:∀ g c,WO C ops rest K ((d,.slice (some ⟨g,0,none⟩) (xs.length+m) c)::E) (OwE enc e sz (.slice (some ⟨g,0,none⟩) (xs.length+m) c) (xs++ys)::H')):WO C ops (⟨some d,.call ⟨.builtin .append,#[x,y],#[T,T]⟩,ty,pos,af,none⟩::rest) K E H:=by
 subst hl
 refine WO.append hT hz hzs hx hy p hS hm hc (he.flat_len ys) (fun u hu=>?_) hb h63 hN fun g c=>?_
 ·obtain ⟨x,_,hx⟩:=List.mem_flatMap.1 hu
  exact he.one x u hx
 ·have:=h g c
  unfold OwE at this
  rw [List.flatMap_append,List.length_append] at this
  exact this
theorem WO.storeE {v:Value} {xs:List α} {n:α} {u:Value} {i:Nat} {H':List HP} (he:EncOk enc 1) (hx:ev E x=some (.pointer (some (elt v i 1)))) (hy:ev E y=some u) (hu:enc n=[u]) (hT:C.tt.one? T=true) (p:Pick (OwE enc e 1 v xs) H H') (hl:i<xs.length)
 (h:WO C ops rest K E (OwE enc e 1 v (xs.set i n)::H')):WO C ops (⟨none,.store T x y,ty,pos,af,none⟩::rest) K E H:=by
 refine WO.storeOw hx hy hT (he.one n u (by simp [hu])) p (by rw [he.flat_len];omega) ?_
 unfold OwE at h
 rw [he.flat_set xs i n hl,hu,List.length_set] at h
 simpa [wrl] using h
end rules
theorem owNil:∀ h,sat H h→sat (OwE enc e sz (.slice none 0 0) []::H) h:=fun h hs=>⟨fun _=>none,h,split_none h,⟨by simp,.inl ⟨rfl,rfl⟩⟩,hs⟩
end
end Go.TH
namespace Go.TH
open Go
def vcl:Value→List Value
 | .agg vs=>vs.toList
 | v=>[v]
theorem vcl_eq (v:Value):v.cells.toList=vcl v:=by cases v <;> rfl
def fillL (place:Nat→Option (Nat × Nat)) (cells:List Value):List (Nat × Value)→Option (List Value)
 | []=>some cells
 |(i,v)::rest=>match place i with
  | none=>none
  | some (off,size)=>bif Nat.beq (vcl v).length size&&Nat.ble (off+(vcl v).length) cells.length then fillL place (wrl cells off (vcl v)) rest else none
theorem foldl_wrl:∀ (vs:List Value) (cs:Array Value) (off k:Nat),(vs.zipIdx k).foldl (fun cs (x:Value × Nat)=>cs.setIfInBounds (off+x.2) x.1) cs=(wrl cs.toList (off+k) vs).toArray
 | [],cs,off,k=>by simp [wrl]
 | v::r,cs,off,k=>by
  simp only [List.zipIdx_cons,List.foldl_cons,wrl]
  rw [foldl_wrl r _ off (k+1)]
  simp [Nat.add_assoc]
theorem fillL_eq (place:Nat→Option (Nat × Nat)):∀ (parts:List (Nat × Value)) (cells:List Value) (cs:List Value),fillL place cells parts=some cs→Instr.fill place cells.toArray parts=some cs.toArray
 | [],cells,cs,h=>by simp [fillL] at h;subst h;rfl
 |(i,v)::rest,cells,cs,h=>by
  simp only [fillL] at h
  simp only [Instr.fill]
  cases hp:place i with
  | none=>simp [hp] at h
  | some q =>
   obtain ⟨off,size⟩:=q
   simp only [hp] at h ⊢
   have hvl:v.cells.size=(vcl v).length:=by rw [← vcl_eq];simp
   cases hb:(Nat.beq (vcl v).length size&&Nat.ble (off+(vcl v).length) cells.length) with
   | false=>simp [hb] at h
   | true =>
    rw [hb] at h
    simp only [cond_true] at h
    simp only [Bool.and_eq_true] at hb
    have e1:=Nat.eq_of_beq_eq_true hb.1
    have e2:=Nat.ble_eq.mp hb.2
    rw [if_neg (by rw [hvl];simp;omega)]
    have:=fillL_eq place rest _ cs h
    rw [← this]
    congr 1
    rw [← Array.foldl_toList]
    have hz:v.cells.zipIdx.toList=(vcl v).zipIdx 0:=by rw [Array.toList_zipIdx,vcl_eq]
    rw [hz]
    have:=foldl_wrl (vcl v) cells.toArray off 0
    simpa using this
section
variable {P:Program} {C:Cx P} {E:Env} {H:List HP}
def evp (E:Env):List (Nat × Operand)→Option (List (Nat × Value))
 | []=>some []
 |(i,x)::r=>match ev E x,evp E r with
  | some v,some vs=>some ((i,v)::vs)
  | _,_=>none
theorem evp_map {N:Nat} {a:Act} (hf:Fr N E a):∀ {xs:List (Nat × Operand)} {vs:List (Nat × Value)},evp E xs=some vs→xs.map (fun (i,x)=>(i,a.eval x))=vs
 | [],vs,h=>by simp [evp] at h;simp [h]
 |(i,x)::r,vs,h=>by
  simp only [evp] at h
  cases hx:ev E x with
  | none=>simp [hx] at h
  | some v =>
   cases hr:evp E r with
   | none=>simp [hx,hr] at h
   | some us =>
    simp [hx,hr] at h
    subst h
    simp [hf.eval hx,evp_map hf hr]
def TTab.pl? (t:TTab P) (T:Nat):Option (Nat→Option (Nat × Nat)) :=
 match (t.get T).kind with
 | .st fs=>bif fs.all (fun f=>t.some? f.2) then some fun i=>(lget' fs i).map fun f=>(f.1,(t.get f.2).n) else none
 | .ar _ _ sz=>some fun i=>some (i*sz,sz)
 | _=>none
where
 lget':List (Nat × Nat)→Nat→Option (Nat × Nat)
 | [],_=>none
 | f::_,0=>some f
 | _::r,n+1=>lget' r n
theorem pl_lget:∀ (fs:List (Nat × Nat)) (i:Nat),TTab.pl?.lget' fs i=fs[i]?
 | [],_=>by simp [TTab.pl?.lget']
 | _::_,0=>by simp [TTab.pl?.lget']
 | _::r,n+1=>by simp [TTab.pl?.lget',pl_lget r n]
theorem some?_size {t:TTab P} {T:Nat} (h:t.some? T=true):szv P T=some (t.get T).n:=by
 refine tiChk_size (t.chk T) fun e=>?_
 simp [TTab.some?,e] at h
theorem built_of {t:TTab P} {T:Nat} {pl:Nat→Option (Nat × Nat)} {z:Value} {parts:List (Nat × Value)} {cs:List Value} (hp:t.pl? T=some pl) (hz:t.z? T=some z) (hf:fillL pl (vcl z) parts=some cs):P.built T parts=some cs.toArray:=by
 have hc:=t.chk T
 have hk:=tiChk_kind hc
 have hzv:=(ZT.of hz).zero
 unfold zv at hzv
 unfold TTab.pl? at hp
 unfold Program.built
 cases hi:P.info? T with
 | none=>simp [hi] at hzv
 | some i =>
  simp only [hi,Option.bind_some] at hzv
  have hz':z.cells=(vcl z).toArray:=by apply Array.ext';simp [vcl_eq]
  cases hkd:(t.get T).kind <;> simp only [hkd] at hp hk <;> try (cases hp;done)
  case st fs =>
   cases hall:fs.all (fun f=>t.some? f.2) with
   | false=>simp [hall] at hp
   | true =>
    rw [hall] at hp
    simp only [cond_true,Option.some.injEq] at hp
    simp only [kindChk] at hk
    split at hk
    ·rename_i fs' hu
     simp only [Bool.and_eq_true,decide_eq_true_eq] at hk
     obtain ⟨hk1,_⟩:=hk
     rw [hu]
     have hm:fs'.toList.mapM (fun f=>(P.info? f.type).map fun i=>(f.offset,i.size))=some (fs.map fun f=>(f.1,(t.get f.2).n)):=by
      rw [← hk1] at hall ⊢
      clear hk1 hp hkd hu
      generalize fs'.toList=l at *
      induction l with
      | nil=>rfl
      | cons f l ih =>
       simp only [List.map_cons,List.all_cons,Bool.and_eq_true] at hall
       have h1:=some?_size hall.1
       unfold szv at h1
       cases hq:P.info? f.type with
       | none=>simp [hq] at h1
       | some q =>
        simp [hq] at h1
        simp only [List.mapM_cons,hq,Option.map_some,ih hall.2]
        simp [h1]
     simp only [hzv,hm]
     have e:(fun i=>((fs.map fun f=>(f.1,(t.get f.2).n)).toArray[i]?:Option (Nat × Nat)))=pl:=by
      rw [← hp]
      funext i
      rw [pl_lget]
      simp
     rw [e,hz']
     exact fillL_eq pl parts _ cs hf
    ·cases hk
  case ar len e' sz =>
   simp only [Option.some.injEq] at hp
   simp only [kindChk] at hk
   split at hk
   ·rename_i len' e'' hu
    simp only [Bool.and_eq_true] at hk
    rw [hu]
    have h2:=Nat.eq_of_beq_eq_true hk.1.2
    subst h2
    have h3:=oeq_eq hk.2
    unfold szv at h3
    cases hq:P.info? e'' with
    | none=>simp [hq] at h3
    | some q =>
     simp [hq] at h3
     simp only [hzv,hq,h3]
     rw [hp,hz']
     exact fillL_eq pl parts _ cs hf
   ·cases hk
section rules
variable {ops:Array Oper} {K:KP} {rest:List Oper} {d:Nat} {ty:TypeId} {pos:String} {af:Array Edge} {x y z:Operand} {T T':TypeId}
theorem WO.build {parts:List (Nat × Operand)} {vs:List (Nat × Value)} {pl:Nat→Option (Nat × Nat)} {zv:Value} {cs:List Value} (hp:C.tt.pl? T=some pl) (hz:C.tt.z? T=some zv) (he:evp E parts=some vs) (hf:fillL pl (vcl zv) vs=some cs) (hN:Nat.blt d C.N=true)
 (h:WO C ops rest K ((d,.agg cs.toArray)::E) H):WO C ops (⟨some d,.build T parts.toArray,ty,pos,af,none⟩::rest) K E H :=
 WO.pure _ (by simp) (fun L a w hfr hi=>by
  have hb:=built_of hp hz hf
  have e1:=evp_map hfr he
  have:=run_build (P:=P) w T vs.toArray cs.toArray (by simpa using hb)
  simp only [execOp,Sem.run_bind]
  have e2:(parts.toArray.map fun (x:Nat × Operand)=>(x.1,a.eval x.2))=vs.toArray:=by rw [← e1];simp
  simp only [e2,this];simp) hN h
theorem WO.buildSl {e sz by' len:Nat} {parts:List (Nat × Operand)} {vs:List (Nat × Value)} {zv:Value} {cs:List Value} (hT:C.tt.sl? T=some (e,sz,by')) (hz:C.tt.z? e=some zv) (hzs:Nat.beq (vcl zv).length sz=true) (he:evp E parts=some vs)
 (hf:fillL (fun i=>some (i*sz,sz)) ((List.replicate len (vcl zv)).flatten) vs=some cs) (hsm:Nat.ble (len*sz) 16777216=true) (hpos:Nat.blt 0 (len*sz)=true) (hlen:Nat.beq cs.length (len*sz)=true) (hN:Nat.blt d C.N=true)
 (h:∀ b,WO C ops rest K ((d,.slice (some ⟨b,0,none⟩) len len)::E) (OwC e sz (.slice (some ⟨b,0,none⟩) len len) len cs::H)):WO C ops (⟨some d,.buildSlice T len parts.toArray,ty,pos,af,none⟩::rest) K E H:=by
 refine WO.step rfl rfl hN (XO.run (by simp) fun L a w hfr hi=>?_)
 obtain ⟨i,hi1,hi2,hi3,hi4⟩:=sl_info hT hz
 subst hi2
 have hzs':=Nat.eq_of_beq_eq_true hzs
 have hsm':=Nat.ble_eq.mp hsm
 have hpos':=Nat.blt_eq.mp hpos
 have hlen':=Nat.eq_of_beq_eq_true hlen
 have ez:((Array.range (len*i.size)).map (zv.cells[· % zv.cells.size]!))=((List.replicate len (vcl zv)).flatten).toArray:=by
  have hzc:zv.cells=(vcl zv).toArray:=by apply Array.ext';simp [vcl_eq]
  rw [hzc]
  generalize vcl zv=zs at hzs'
  apply Array.ext'
  rw [Array.toList_map,Array.toList_range]
  simp only [List.size_toArray]
  rw [hzs']
  clear hf hsm hpos hlen h hlen' hsm'
  have hp0:0<i.size:=Nat.pos_of_mul_pos_left hpos'
  clear hpos'
  induction len with
  | zero=>simp
  | succ n ih =>
   rw [List.replicate_succ',List.flatten_append,← ih,Nat.add_mul,Nat.one_mul,List.range_add,List.map_append]
   congr 1
   simp only [List.map_map,List.flatten_cons,List.flatten_nil,List.append_nil]
   apply List.ext_getElem
   ·simp [hzs']
   ·intro j h1 h2
    simp only [List.length_map,List.length_range] at h1
    have e1:(n*i.size+j)%i.size=j:=by rw [Nat.add_comm,Nat.add_mul_mod_self_right,Nat.mod_eq_of_lt h1]
    simp [e1,hzs',h1]
 have e1:=evp_map hfr he
 have e2:(parts.toArray.map fun (x:Nat × Operand)=>(x.1,a.eval x.2))=vs.toArray:=by rw [← e1];simp
 have hr:=run_buildSlice (P:=P) w T e len vs.toArray cs.toArray i zv (SlT.of hT).u hi1 hi4 (by omega) (by omega) (by rw [ez];exact fillL_eq _ vs _ cs hf)
 refine ⟨.slice (some ⟨w.heap.size,0,none⟩) len len,w.alloc (.cells cs.toArray e),OwC e i.size (.slice (some ⟨w.heap.size,0,none⟩) len len) len cs::H,.inl ?_,h _,?_⟩
 ·simp only [execOp,Sem.run_bind]
  simp only [e2,hr];rfl
 ·have h2:=hi.alloc' (.cells cs.toArray e)
  refine OwC.shut hlen' (Nat.le_refl _) ?_ hlen' (by rw [← hlen',List.take_length]) h2
  have h0:0<i.size:=Nat.pos_of_mul_pos_left hpos'
  have:len≤len*i.size:=Nat.le_mul_of_pos_right len h0
  simp only [maxLen];omega
theorem WO.eqB {bop:BinOp} {a b r:Bool} (hx:ev E x=some (.bool a)) (hy:ev E y=some (.bool b)) (hT:P.underlying T=some .bool) (hr:(match bop with | .eql=>some (a==b) | .neq=>some (!(a==b)) | _=>none)=some r) (hN:Nat.blt d C.N=true)
 (h:WO C ops rest K ((d,.bool r)::E) H):WO C ops (⟨some d,.binOp bop T x y T',ty,pos,af,none⟩::rest) K E H :=
 WO.pure _ (by simp) (fun L c w hf _=>by
  cases bop <;> simp only [Option.some.injEq,reduceCtorEq] at hr <;> subst hr <;> simp only [execOp,hf.eval hx,hf.eval hy] <;> simp [eqGuard,run_eql_bool w T a b hT,run_neq_bool w T a b hT]) hN h
def EqT (P:Program) (bop:BinOp) (T:TypeId) (u v r:Value):Prop:=∀ (x y:Operand) (w:World),(do eqGuard bop T x y u v;binOp bop T u v:Sem Value).run P w=.ok r w
theorem WO.eqT {bop:BinOp} {u v r:Value} (hx:ev E x=some u) (hy:ev E y=some v) (hq:EqT P bop T u v r) (hN:Nat.blt d C.N=true)
 (h:WO C ops rest K ((d,r)::E) H):WO C ops (⟨some d,.binOp bop T x y T',ty,pos,af,none⟩::rest) K E H :=
 WO.pure _ (by simp) (fun L c w hf _=>by
  have:=hq x y w
  simp only [Sem.run_bind] at this
  simp only [execOp,hf.eval hx,hf.eval hy,Sem.run_bind,this];simp) hN h
theorem WO.max2 {k k':IntKind} {a b:Int} {ts:Array TypeId} (hx:ev E x=some (.int k a)) (hy:ev E y=some (.int k' b)) (hN:Nat.blt d C.N=true)
 (h:WO C ops rest K ((d,.int k (max a b))::E) H):WO C ops (⟨some d,.call ⟨.builtin .max,#[x,y],ts⟩,ty,pos,af,none⟩::rest) K E H :=
 WO.pure _ (by simp) (fun L c w hf _=>by
  simp [execOp,resolve,hf.eval hx,hf.eval hy,invoke,builtin,run_max_int2]
  split <;> omega) hN h
theorem WO.min2 {k k':IntKind} {a b:Int} {ts:Array TypeId} (hx:ev E x=some (.int k a)) (hy:ev E y=some (.int k' b)) (hN:Nat.blt d C.N=true)
 (h:WO C ops rest K ((d,.int k (min a b))::E) H):WO C ops (⟨some d,.call ⟨.builtin .min,#[x,y],ts⟩,ty,pos,af,none⟩::rest) K E H :=
 WO.pure _ (by simp) (fun L c w hf _=>by
  simp [execOp,resolve,hf.eval hx,hf.eval hy,invoke,builtin,run_min_int2]
  split <;> omega) hN h
end rules
end
end Go.TH
namespace Go.TH
open Go
section
variable {P:Program}
def YieldOK (P:Program) (B:Nat) (wr:World) (l:Nat) (args:Array Value) (Hp Hq:List HP):Prop :=
 ∀ w M',B≤w.heap.size→(∀ k,k<B→w.heap[k]?=wr.heap[k]?)→(∀ b∈M',B≤b)→Inv w M' Hp w →
  ∃ f tmps assign body,(Instr.yield l args).run P w=.ok (.round l f tmps assign body) w∧RoundIn Fence.wide 0 P l f tmps assign body w (fun e w'=>e=.returned (.bool true)∧Inv w M' Hq w')
theorem roundIn_round {ro:Option Nat} {n:Nat} {l:Nat} {f:FuncId} {tmps:Array Value} {assign body:Code} {w:World} {R:Ending→World→Prop} (h:RoundIn Fence.wide n P l f tmps assign body w R):RoundIn { Fence.wide with round:=ro } n P l f tmps assign body w R:=h
variable {C:Cx P} {E:Env} {H:List HP}
theorem Inv.keepB {w:World} {H:List HP} (hi:Inv C.w0 C.M H w):∀ k,k<C.B→w.heap[k]?=C.w0.heap[k]?:=fun k hk =>
 hi.keep k (Nat.lt_of_lt_of_le hk C.hB) (fun hm=>by have:=C.hM k hm;omega)
theorem uponIn_round_of {F:Fence} {n:Nat} {o:Oper} {a:Act} {K:Act→World→Prop} {Q:Exit→Act→World→Prop} {l:Nat} {f:FuncId} {tmps:Array Value} {assign body:Code} {w:World} {r:Option Nat} {R:Ending→World→Prop} (hF:F={ Fence.wide with round:=r }) (hn:n=0)
 (h:RoundIn Fence.wide 0 P l f tmps assign body w R) (hR:∀ e w',R e w'→∃ v,e=.returned v∧K (a.put o.dst v) w'):o.uponIn F n P a K Q (.ok (.round l f tmps assign body) w):=by
 subst hF;subst hn
 rw [Oper.uponIn_round]
 refine ⟨fun h=>by simp [Fence.wide] at h,RoundIn.mono (roundIn_round (ro:=r) h) ?_⟩
 intro e w' hr
 obtain ⟨v,rfl,hk⟩:=hR e w' hr
 exact hk
theorem XO.yield {X:Value→List HP→Prop} {dst:Option Tmp} {x:Operand} {xs:List Operand} {ats:Array TypeId} {ty:TypeId} {pos:String} {af:Array Edge} {l:Nat} {vs:List Value} {Hp Hr Hq:List HP}
 (hf:ev E x=some (.func (.yield l) #[] #[])) (hxs:evs E xs=some vs) (hH:Sub H (Hp++Hr)) (hy:YieldOK P C.B C.w0 l vs.toArray Hp Hq) (h:X (.bool true) (Hq++Hr)):XO C ⟨dst,.call ⟨.value x,xs.toArray,ats⟩,ty,pos,af,none⟩ X E H:=by
 intro L a w hfr hi
 refine ⟨fun _ _=>trivial,?_⟩
 rw [Oper.semAt_eq _ _ _ (by simp)]
 have hi2:Inv C.w0 C.M (Hp++(L++Hr)) w:=by
  refine hi.sub ?_
  have s1:=hH.app L
  refine Sub.trans s1 ?_
  exact Sub.rot L Hp Hr
 obtain ⟨M',h1,h2,s,pa,pb,hM⟩:=handed hi2
 have hMB:∀ b∈M',C.B≤b:=fun b hb=>by
  rcases (handed_own s hM b hb).1 with h | h
  ·exact Nat.le_trans C.hB h
  ·exact C.hM b h
 obtain ⟨f,tmps,assign,body,hr,hround⟩:=hy w M' (Nat.le_trans C.hB hi.size) hi.keepB hMB (handed_start s pa hM)
 have hev:(execOp a.eval ⟨dst,.call ⟨.value x,xs.toArray,ats⟩,ty,pos,af,none⟩).run P w=.ok (.round l f tmps assign body) w:=by
  have:=evs_map hfr hxs
  simp [execOp,resolve,hfr.eval hf,Deferred.ofValue,invoke,this,hr]
 rw [hev]
 refine uponIn_round_of (r:=C.ro) rfl rfl hround ?_
 rintro e w' ⟨rfl,hi'⟩
 refine ⟨_,rfl,.bool true,Hq++Hr,h,rfl,?_⟩
 have:=handed_back (hi.sub .nil) s pb hM hi'
 exact this.sub (Sub.rot' L Hq Hr)
def rdCx (C:Cx P) (l:Nat) (w:World) (M:List Nat) (hB:C.B≤w.heap.size) (hM:∀ b∈M,C.B≤b):Cx P:=⟨some l,C.N,w,M,C.B,hB,hM,C.mixed,C.tt⟩
theorem putObj_inv {w0:World} {M:List Nat} {L H:List HP} {w:World} {b:Nat} {o o':Obj} (h:Inv w0 M (L++pt b o::H) w):Inv w0 M (L++pt b o'::H) (w.putObj b o'):=by
 have hl:=(h.look (b:=b) (o:=o) ((Pick.head).app L)).1
 have hlt:b<w.heap.size:=(Array.getElem?_eq_some_iff.1 hl).1
 have h2:=h.set (b:=b) (o:=o) (o':=o') (H':=L++H) (w':=w.putObj b o') Pick.mem rfl rfl rfl (by simp) (World.putObj_heap_same hlt) (fun k hk=>World.putObj_heap_other hk)
 exact h2.perm (List.perm_middle (l₁:=L) (l₂:=H)).symm
end
end Go.TH
namespace Go.TH
open Go
section
variable {P:Program} {C:Cx P} {E:Env} {H:List HP} {l:List Oper} {m:Nat} {K:KP} {XT:List Nat} {E0:Env} {H0 A:List HP} {p:List Nd} {pre:List SE} {k d:Nat} {X:List Nat} {o:Oper}
theorem DT.nil {dn:List Nd} (H':List HP) (e:A++H0=H') (h:WO C l.toArray (l.drop m) K (allE (delE XT E0) pre) H'):DT C l m K XT E0 H0 [] dn pre A:=by subst e;exact h
theorem DT.r {dn:List Nd} {v:Value} (ho:l[k]?=some o) (hd:o.dst=some d) (hN:Nat.blt d C.N=true) (h:WO C l.toArray [o] (fun E' H'=>E'=(d,v)::selE (afs o) (delE X E0) pre∧H'=[]) (selE (afs o) (delE X E0) pre) [])
 (r:DT C l m K XT E0 H0 p (.r k X::dn) (⟨k,d,v⟩::pre) A):DT C l m K XT E0 H0 (.r k X::p) dn pre A:=⟨o,d,v,ho,hd,hN,h,r⟩
theorem DT.b {dn:List Nd} {v:Value} (ho:l[k]?=some o) (hd:o.dst=some d) (hN:Nat.blt d C.N=true) (h:WO C l.toArray [o] (fun E' H'=>E'=(d,v)::selE (afs o) (delE X E0) pre∧H'=H0) (selE (afs o) (delE X E0) pre) H0)
 (r:DT C l m K XT E0 H0 p (.b k X::dn) (⟨k,d,v⟩::pre) A):DT C l m K XT E0 H0 (.b k X::p) dn pre A:=⟨o,d,v,ho,hd,hN,h,r⟩
theorem DT.f {dn:List Nd} {v:Value} (H':List HP) (e:A++H0=H') (ho:l[k]?=some o) (hd:o.dst=some d) (hN:Nat.blt d C.N=true) (h:WO C l.toArray [o] (fun E' H1=>E'=(d,v)::selE (afs o) (delE X E0) pre∧H1=H') (selE (afs o) (delE X E0) pre) H')
 (r:DT C l m K XT E0 H0 p (.f k X::dn) (⟨k,d,v⟩::pre) A):DT C l m K XT E0 H0 (.f k X::p) dn pre A:=by subst e;exact ⟨o,d,v,ho,hd,hN,h,r⟩
theorem DT.c {dn:List Nd} (H':List HP) (e:A++H0=H') (ho:l[k]?=some o) (hd:o.dst=some d) (hN:Nat.blt d C.N=true)
 (h:WO C l.toArray [o] (fun E' H1=>∃ v A',E'=(d,v)::selE (afs o) (delE X E0) pre∧H1=A'++H0∧Keep l k (A'++H0) dn∧DT C l m K XT E0 H0 p (.c k X::dn) (⟨k,d,v⟩::pre) A') (selE (afs o) (delE X E0) pre) H'):DT C l m K XT E0 H0 (.c k X::p) dn pre A:=by subst e;exact ⟨o,d,ho,hd,hN,h⟩
theorem DT.s {dn:List Nd} (H':List HP) (e:A++H0=H') (ho:l[k]?=some o) (hd:o.dst=none)
 (h:WO C l.toArray [o] (fun E' H1=>∃ A',E'=selE (afs o) (delE X E0) pre∧H1=A'++H0∧Keep l k (A'++H0) dn∧DT C l m K XT E0 H0 p (.s k X::dn) pre A') (selE (afs o) (delE X E0) pre) H'):DT C l m K XT E0 H0 (.s k X::p) dn pre A:=by subst e;exact ⟨o,ho,hd,h⟩
theorem DT.a {dn:List Nd} {z:Obj} (h:∀ b,DT C l m K XT E0 H0 p (.a k d z::dn) (⟨k,d,.pointer (some ⟨b,0,none⟩)⟩::pre) (pt b z::A)):DT C l m K XT E0 H0 (.a k d z::p) dn pre A:=h
theorem DT.rB {dn:List Nd} {q:Prop} {_inst:Decidable q} (ho:l[k]?=some o) (hd:o.dst=some d) (hN:Nat.blt d C.N=true) (h:WO C l.toArray [o] (fun E' H'=>E'=(d,.bool (bl q))::selE (afs o) (delE X E0) pre∧H'=[]) (selE (afs o) (delE X E0) pre) [])
 (ht:q→DT C l m K XT E0 H0 p (.r k X::dn) (⟨k,d,.bool true⟩::pre) A) (hf:¬ q→DT C l m K XT E0 H0 p (.r k X::dn) (⟨k,d,.bool false⟩::pre) A):DT C l m K XT E0 H0 (.r k X::p) dn pre A:=by
 by_cases hp:q
 ·exact DT.r ho hd hN (by rw [bl_t.2 hp] at h;exact h) (ht hp)
 ·exact DT.r ho hd hN (by rw [bl_f.2 hp] at h;exact h) (hf hp)
theorem DT.rNB {dn:List Nd} {q:Prop} {_inst:Decidable q} (ho:l[k]?=some o) (hd:o.dst=some d) (hN:Nat.blt d C.N=true) (h:WO C l.toArray [o] (fun E' H'=>E'=(d,.bool (!(bl q)))::selE (afs o) (delE X E0) pre∧H'=[]) (selE (afs o) (delE X E0) pre) [])
 (ht:¬ q→DT C l m K XT E0 H0 p (.r k X::dn) (⟨k,d,.bool true⟩::pre) A) (hf:q→DT C l m K XT E0 H0 p (.r k X::dn) (⟨k,d,.bool false⟩::pre) A):DT C l m K XT E0 H0 (.r k X::p) dn pre A:=by
 by_cases hp:q
 ·exact DT.r ho hd hN (by rw [bl_t.2 hp] at h;exact h) (hf hp)
 ·exact DT.r ho hd hN (by rw [bl_f.2 hp] at h;exact h) (ht hp)
theorem Keep.g {dn:List Nd} {j:Nat} {Q:HP} (h:((cloT l).getD k []).elem j=true∨∃ R,Pick Q H R) (r:Keep l k H dn):Keep l k H (.g j X Q::dn):=⟨h,r⟩
theorem Keep.r {dn:List Nd} {j:Nat} (h:Keep l k H dn):Keep l k H (.r j X::dn):=h
theorem Keep.b {dn:List Nd} {j:Nat} (h:Keep l k H dn):Keep l k H (.b j X::dn):=h
theorem Keep.f {dn:List Nd} {j:Nat} (h:Keep l k H dn):Keep l k H (.f j X::dn):=h
theorem Keep.c {dn:List Nd} {j:Nat} (h:Keep l k H dn):Keep l k H (.c j X::dn):=h
theorem Keep.s {dn:List Nd} {j:Nat} (h:Keep l k H dn):Keep l k H (.s j X::dn):=h
theorem Keep.a {dn:List Nd} {j:Nat} {z:Obj} (h:Keep l k H dn):Keep l k H (.a j d z::dn):=h
theorem Keep.nil:Keep l k H []:=trivial
theorem ALok.cons {T:TypeId} {z:Value} {cs:Array Value} {ty:TypeId} {pos:String} {af:Array Edge} {x:Obj} (ho:l[k]?=some ⟨some d,.alloc T,ty,pos,af,none⟩) (hz:C.tt.z? T=some z) (hc:z.cells=cs) (hN:Nat.blt d C.N=true) (hx:x=.cells cs T (0,0)) (r:ALok C l p):ALok C l (.a k d x::p):=by
 subst hx
 exact ⟨⟨_,ho,rfl,hN,WO.alloc hz hc hN fun b _=>WO.nil ⟨b,rfl,rfl⟩⟩,r⟩
theorem ALok.r (h:ALok C l p):ALok C l (.r k X::p):=h
theorem ALok.b (h:ALok C l p):ALok C l (.b k X::p):=h
theorem ALok.f (h:ALok C l p):ALok C l (.f k X::p):=h
theorem ALok.c (h:ALok C l p):ALok C l (.c k X::p):=h
theorem ALok.s (h:ALok C l p):ALok C l (.s k X::p):=h
theorem ALok.g {Q:HP} (h:ALok C l p):ALok C l (.g k X Q::p):=h
theorem ALok.nil:ALok C l []:=trivial
end
end Go.TH
namespace Go.TH
open Go
section
variable {P:Program} {C:Cx P} {E:Env} {H:List HP}
variable {ops:Array Oper} {K:KP} {rest:List Oper} {d:Nat} {ty:TypeId} {pos:String} {af:Array Edge} {x:Operand} {xs:List Operand} {ats:Array TypeId} {f:FuncId} {first captured vs:List Value}
theorem WO.callC {Post:Value→List HP→Prop} (hx:ev E x=some (.func (.func f) first.toArray captured.toArray)) (hxs:evs E xs=some vs) (hcall:∀ (args:Array Value) (w:World),(callFunc f args).run P w=.ok (.enter f args) w)
 (hspec:∀ (L:List HP) w,Inv C.w0 C.M (L++H) w→Ct P f (first++vs++captured).toArray w fun v w'=>∃ Hq,Post v Hq∧Inv w [] Hq w') (hN:Nat.blt d C.N=true)
 (h:∀ v Hq,Post v Hq→WO C ops rest K ((d,v)::E) (Hq++H)):WO C ops (⟨some d,.call ⟨.value x,xs.toArray,ats⟩,ty,pos,af,none⟩::rest) K E H:=by
 refine WO.step rfl rfl hN (XO.callF (Hp:=[]) (Hr:=H) (Post:=Post) (first:=first.toArray) (captured:=captured.toArray) hx hxs hcall (Sub.refl _) (fun L w M' hi _ _=>?_) h)
 have hc:=hspec L w hi
 have e:first.toArray++vs.toArray++captured.toArray=(first++vs++captured).toArray:=by simp
 rw [e]
 refine hc.mono fun v w' ⟨Hq,hp,hi'⟩=>⟨Hq,hp,?_⟩
 exact ⟨hi'.os,hi'.tape,hi'.output,hi'.size,fun k hk _=>hi'.keep k hk (by simp),sat_sub Hq (fun k o ho=>by
  unfold own at ho ⊢
  split at ho
  ·cases ho
  ·rename_i hn
   rw [if_neg (fun hh=>hn ⟨hh.1,by simp⟩)];exact ho) hi'.mine⟩
theorem WO.callCR {r:Value} (hx:ev E x=some (.func (.func f) first.toArray captured.toArray)) (hxs:evs E xs=some vs) (hcall:∀ (args:Array Value) (w:World),(callFunc f args).run P w=.ok (.enter f args) w)
 (hspec:∀ (L:List HP) w,Inv C.w0 C.M (L++H) w→Ret P f (first++vs++captured).toArray w r) (hN:Nat.blt d C.N=true)
 (h:WO C ops rest K ((d,r)::E) H):WO C ops (⟨some d,.call ⟨.value x,xs.toArray,ats⟩,ty,pos,af,none⟩::rest) K E H :=
 WO.callC hx hxs hcall hspec hN fun v Hq ⟨e1,e2⟩=>by subst e1;subst e2;exact h
structure Cap (w:World) (p:Addr) (v:Value):Prop where
 lt:p.block<w.heap.size
 at_:w.cell? p=some v
theorem Cap.of {b off:Nat} {cs:List Value} {t:TypeId} {fr:Nat × Nat} {H' L:List HP} {v:Value} {w:World} (p:Pick (pt b (.cells cs.toArray t fr)) H H') (hv:lget cs off=some v) (hi:Inv C.w0 C.M (L++H) w):Cap w ⟨b,off,none⟩ v :=
 ⟨by have h1:=(hi.look (p.app L)).1;exact (Array.getElem?_eq_some_iff.1 h1).1,Cell.own (C:=C) p hv L w hi⟩
theorem Cap.old {p:Addr} {v:Value} {L:List HP} {w:World} (hB:C.B=C.w0.heap.size) (h:Cap C.w0 p v) (hi:Inv C.w0 C.M (L++H) w):Cap w p v :=
 ⟨by have h1:=h.lt;have h2:=hi.size;omega,Cell.old (C:=C) (H:=H) (by rw [hB];exact h.lt) h.at_ L w hi⟩
theorem Cap.cell {p:Addr} {v:Value} (hB:C.B=C.w0.heap.size) (h:Cap C.w0 p v):Cell C H p v:=Cell.old (by rw [hB];exact h.lt) h.at_
def RetE (P:Program) (f:FuncId) (args:Array Value) (w:World) (Q:Value→Prop):Prop:=Ct P f args w fun v w'=>∃ Hq,(Q v∧Hq=[])∧Inv w [] Hq w'
theorem RetE.of {f:FuncId} {fn:Func} {c:Code} {vs:List Value} {w:World} {Q:Value→Prop} (hm:P.follows .mixedOrders=true) (tt:TTab P)
 (hf:P.funcs[f]?=some fn) (hb:fn.body=some c) (ha:Nat.ble vs.length fn.ntmps=true)
 (h:W (fnCx hm tt fn.ntmps w) c (fin (fnCx hm tt fn.ntmps w) fn (fun v _=>Q v)) (enumE 0 vs) []):RetE P f vs.toArray w Q :=
 (Ct.of hm tt hf hb ha h).mono fun v w' ⟨Hq,q,hi⟩=>⟨[],⟨q,rfl⟩,hi.sub .nil⟩
theorem WO.callE {Q:Value→Prop} (hxs:evs E xs=some vs) (hcall:∀ (args:Array Value) (w:World),(callFunc f args).run P w=.ok (.enter f args) w)
 (hspec:∀ (L:List HP) w,Inv C.w0 C.M (L++H) w→RetE P f vs.toArray w Q) (hN:Nat.blt d C.N=true)
 (h:∀ v,Q v→WO C ops rest K ((d,v)::E) H):WO C ops (⟨some d,.call ⟨.value (.func f),xs.toArray,ats⟩,ty,pos,af,none⟩::rest) K E H :=
 WO.call hxs hcall hspec hN fun v Hq ⟨e1,e2⟩=>by subst e2;exact h v e1
end
end Go.TH
namespace Go.TH
open Go
section
variable {P:Program} {C:Cx P} {E:Env} {H:List HP}
structure RdC (B:Nat) (w:World) (p:Addr) (vs:List Value):Prop where
 lt:p.block<B
 at_:∀ j v,vs[j]?=some v→w.cell? (p.add j)=some v
theorem RdC.cellAt {p:Addr} {vs:List Value} (h:RdC C.B C.w0 p vs) {j:Nat} {u:Value} (hu:lget vs j=some u):Cell C H (prt p j) u:=by
 rw [lget_eq] at hu
 rw [prt_eq]
 exact Cell.old (by rw [addr_add_block];exact h.lt) (h.at_ j u hu)
theorem addr_add_zero (p:Addr):p.add 0=p:=by simp [Addr.add]
theorem RdC.cell0 {p:Addr} {vs:List Value} (h:RdC C.B C.w0 p vs) {u:Value} (hu:lget vs 0=some u):Cell C H p u:=by
 have:=h.cellAt (H:=H) hu
 rw [prt_eq,addr_add_zero] at this
 exact this
theorem RdC.cells {p:Addr} {vs:List Value} (h:RdC C.B C.w0 p vs):Cells C H p vs:=fun j v hv=>Cell.old (by rw [addr_add_block];exact h.lt) (h.at_ j v hv)
theorem RdC.part {B:Nat} {w:World} {p:Addr} {vs us:List Value} (h:RdC B w p vs) (hs:∀ (j:Nat) (v:Value),us[j]?=some v→vs[j]?=some v):RdC B w p us:=⟨h.lt,fun j v hv=>h.at_ j v (hs j v hv)⟩
theorem RdC.later {p:Addr} {vs:List Value} {L:List HP} {w:World} (h:RdC C.B C.w0 p vs) (hi:Inv C.w0 C.M (L++H) w):RdC w.heap.size w p vs :=
 ⟨Nat.lt_of_lt_of_le h.lt (Nat.le_trans C.hB hi.size),fun j v hv=>(h.cells (H:=H)) j v hv L w hi⟩
theorem RdC.own {b:Nat} {cs:List Value} {t:TypeId} {fr:Nat × Nat} {H' L:List HP} {w:World} (p:Pick (pt b (.cells cs.toArray t fr)) H H') (hi:Inv C.w0 C.M (L++H) w):RdC w.heap.size w ⟨b,0,none⟩ cs :=
 ⟨by have h1:=(hi.look (p.app L)).1;exact (Array.getElem?_eq_some_iff.1 h1).1,fun j v hv=>(Cells.own (C:=C) p) j v hv L w hi⟩
theorem cell_agree {B:Nat} {w w':World} (hk:∀ k,k<B→w'.heap[k]?=w.heap[k]?) {p:Addr} (hb:p.block<B):w'.cell? p=w.cell? p:=by
 unfold World.cell?
 rw [hk _ hb]
theorem RdC.agree {B:Nat} {w w':World} {p:Addr} {vs:List Value} (h:RdC B w p vs) (hk:∀ k,k<B→w'.heap[k]?=w.heap[k]?):RdC B w' p vs :=
 ⟨h.lt,fun j v hv=>by rw [cell_agree hk (by rw [addr_add_block];exact h.lt)];exact h.at_ j v hv⟩
theorem RdF.agree {α:Type} {enc:α→List Value} {sz B:Nat} {w w':World} {v:Value} {xs:List α} (h:RdF enc sz B w v xs) (hk:∀ k,k<B→w'.heap[k]?=w.heap[k]?):RdF enc sz B w' v xs :=
 ⟨h.sl,h.blk,fun i x hx j u hu=>by
  rw [cell_agree hk (by rw [addr_add_block,addr_add_block];exact h.blk (by have:=(List.getElem?_eq_some_iff.1 hx).1;omega))];exact h.cell i x hx j u hu⟩
theorem RdR.agree {α:Type} {enc:α→List Value} {sz B:Nat} {w w':World} {v:Value} {rv:List Value} {xss:List (List α)} (h:RdR enc sz B w v rv xss) (hk:∀ k,k<B→w'.heap[k]?=w.heap[k]?):RdR enc sz B w' v rv xss :=
 ⟨h.out.agree hk,h.len,fun i hl=>(h.row' i hl).agree hk⟩
theorem RdC.up {B B':Nat} {w:World} {p:Addr} {vs:List Value} (h:RdC B w p vs) (hB:B≤B'):RdC B' w p vs:=⟨Nat.lt_of_lt_of_le h.lt hB,h.at_⟩
theorem RdF.up {α:Type} {enc:α→List Value} {sz B B':Nat} {w:World} {v:Value} {xs:List α} (h:RdF enc sz B w v xs) (hB:B≤B'):RdF enc sz B' w v xs:=⟨h.sl,fun hl=>Nat.lt_of_lt_of_le (h.blk hl) hB,h.cell⟩
theorem IsSl.oc {v:Value} {n:Nat} (h:IsSl v n):v.oneCell'=true:=by
 obtain ⟨_,a,c,rfl,_⟩:=h
 rfl
theorem sat_one {Hs H:List HP}:∀ h,sat (Hs++H) h→sat (sat Hs::H) h:=fun h hs=>by
 obtain ⟨h1,h2,s,x,y⟩:=sat_app hs
 exact ⟨h1,h2,s,x,y⟩
theorem sat_many {Hs H:List HP}:∀ h,sat (sat Hs::H) h→sat (Hs++H) h:=fun _ ⟨_,_,s,x,y⟩=>sat_join s x y
theorem WO.indexArrL {ops:Array Oper} {K:KP} {rest:List Oper} {d:Nat} {ty:TypeId} {pos:String} {af:Array Edge} {x y:Operand} {T:TypeId} {len e sz b off o':Nat} {k:IntKind} {i:Nat} (hT:C.tt.ar? T=some (len,e,sz)) (hx:ev E x=some (.pointer (some ⟨b,off,none⟩))) (hy:ev E y=some (.int k (i:Int))) (h1:i<len) (ho:off+i*sz=o') (hN:Nat.blt d C.N=true)
 (h:WO C ops rest K ((d,.pointer (some ⟨b,o',none⟩))::E) H):WO C ops (⟨some d,.indexAddr T x y,ty,pos,af,none⟩::rest) K E H:=by
 subst ho
 refine WO.indexArr hT hx hy (by omega) (by omega) hN ?_
 have e:Addr.add ⟨b,off,none⟩ ((i:Int).toNat*sz)=⟨b,off+i*sz,none⟩:=by
  rw [Int.toNat_natCast];unfold Addr.add;split
  ·rename_i h0;simp [h0]
  ·rfl
 rw [e];exact h
variable {ops:Array Oper} {K:KP} {rest:List Oper} {d:Nat} {ty:TypeId} {pos:String} {af:Array Edge} {x:Operand} {xs:List Operand} {ats:Array TypeId} {vs:List Value}
theorem YieldOK.one {B:Nat} {wr:World} {l:Nat} {args:Array Value} {Hp Hq:List HP} (h:YieldOK P B wr l args Hp Hq):YieldOK P B wr l args [sat Hp] [sat Hq]:=fun w M' h1 h2 h3 h4=>by
 have e:∀ (Hx:List HP) (w:World),Inv w M' [sat Hx] w→Inv w M' Hx w:=fun Hx w hi=>by
  have:=Inv.chg (L:=[]) hi (sat_many (Hs:=Hx) (H:=[]))
  simpa using this
 obtain ⟨f,tmps,as9,body,hr,hd⟩:=h w M' h1 h2 h3 (e Hp w h4)
 refine ⟨f,tmps,as9,body,hr,RoundIn.mono hd ?_⟩
 rintro e w' ⟨rfl,hi⟩
 refine ⟨rfl,?_⟩
 have:=Inv.chg (L:=[]) (H:=Hq++[]) (by simpa using hi) (sat_one (Hs:=Hq) (H:=[]))
 simpa using this
theorem YieldOK.agree {B:Nat} {wr w0:World} {l:Nat} {args:Array Value} {Hp Hq:List HP} (h:YieldOK P B wr l args Hp Hq) (hk:∀ k,k<B→w0.heap[k]?=wr.heap[k]?):YieldOK P B w0 l args Hp Hq:=fun w M' h1 h2 h3 h4 =>
 h w M' h1 (fun k hlt=>by rw [h2 k hlt,hk k hlt]) h3 h4
theorem WO.yield {l:Nat} {A A':HP} {H':List HP} (hx:ev E x=some (.func (.yield l) #[] #[])) (hxs:evs E xs=some vs) (p:Pick A H H') (hy:YieldOK P C.B C.w0 l vs.toArray [A] [A']) (hN:Nat.blt d C.N=true)
 (h:WO C ops rest K ((d,.bool true)::E) (A'::H')):WO C ops (⟨some d,.call ⟨.value x,xs.toArray,ats⟩,ty,pos,af,none⟩::rest) K E H :=
 WO.step rfl rfl hN (XO.yield (Hp:=[A]) (Hr:=H') (Hq:=[A']) hx hxs (.cons p (Sub.refl _)) hy h)
def itCx (hm:P.follows .mixedOrders=true) (tt:TTab P) (N:Nat) (w:World) (M:List Nat) (B:Nat) (hB:B≤w.heap.size) (hM:∀ b∈M,B≤b):Cx P:=⟨none,N,w,M,B,hB,hM,hm,tt⟩
theorem Iter.of {f:FuncId} {fn:Func} {c:Code} {vs:List Value} {w:World} {M:List Nat} {B:Nat} {Hit:List HP} {A A':List HP} (hm:P.follows .mixedOrders=true) (tt:TTab P) (hB:B≤w.heap.size) (hM:∀ b∈M,B≤b)
 (hf:P.funcs[f]?=some fn) (hb:fn.body=some c) (ha:Nat.ble vs.length fn.ntmps=true) (hi:Inv w M (Hit++A) w)
 (h:W (itCx hm tt fn.ntmps w M B hB hM) c (fin (itCx hm tt fn.ntmps w M B hB hM) fn (fun _ H=>Sub H (Hit++[sat A']))) (enumE 0 vs) (Hit++[sat A])):Ct P f vs.toArray w fun _ w'=>Inv w M (Hit++A') w':=by
 have h1:Inv w M (Hit++[sat A]) w:=Inv.chg (L:=Hit) (H:=A++[]) (by simpa using hi) sat_one
 refine (Ct.of_W (M:=M) (Hp:=Hit++[sat A]) (itCx hm tt fn.ntmps w M B hB hM) rfl rfl rfl hf hb rfl (by simpa [itCx] using Nat.ble_eq.mp ha) (fun t v hv=>by
  have:=lk_enumE vs 0 t v hv
  simpa using this.2) h h1).mono ?_
 rintro v w' ⟨Hq,s,hi'⟩
 have h2:Inv w M (Hit++(A'++[])) w':=Inv.chg (L:=Hit) (hi'.sub s) sat_many
 simpa using h2
end
end Go.TH
namespace Go.TH
open Go
section
variable {P:Program} {C:Cx P} {E:Env} {H:List HP}
theorem stepR_scope {b:Frame} {a:Act} {k:List Item} {cs:List Frame} {w:World} {c:Code}:step P (lone (b.atR a (.code (.scope c)::k)) cs w)=.next (lone (b.atR a (.code c::.inScope c::k)) cs w) :=
 step_lone_go (by simp [stepG,stepG.exec,Frame.atR])
theorem stepR_inScope {b:Frame} {a:Act} {k:List Item} {cs:List Frame} {w:World} {c:Code}:step P (lone (b.atR a (.inScope c::k)) cs w)=.next (lone (b.atR a k) cs w) :=
 step_lone_go (by simp [stepG,stepG.exec,Frame.atR])
@[reducible] def sco (Q:Post):Post
 | .goto _=>fun _ _=>False
 | e=>Q e
theorem W.scope {c:Code} {Q:Post} (h:W C c (sco Q) E H):W C (.scope c) Q E H:=by
 intro L ds a w hs b k cs hro hb hr
 obtain ⟨e,a₁,w₁,⟨ds',E',H',hq,hs'⟩,harr⟩:=h L ds a w hs b (.inScope c::k) cs hro hb hr
 cases e with
 | normal=>exact ⟨.normal,a₁,w₁,⟨ds',E',H',hq,hs'⟩,.of_steps (.one (fenced_calm hb hr rfl) stepR_scope) (StepsIn.trans harr (.one (fenced_calm hb hr rfl) stepR_inScope))⟩
 | exit id=>exact ⟨.exit id,a₁,w₁,⟨ds',E',H',hq,hs'⟩,.of_steps (.one (fenced_calm hb hr rfl) stepR_scope) ⟨fun k' hk=>harr.1 k' (by simp [exitTo,hk]),fun hr' hk=>harr.2 hr' (by simp [exitTo,hk])⟩⟩
 | goto l=>exact hq.elim
 | ret=>exact ⟨_,a₁,w₁,⟨ds',E',H',hq,hs'⟩,.of_steps (.one (fenced_calm hb hr rfl) stepR_scope) harr⟩
 | panic ch=>exact ⟨_,a₁,w₁,⟨ds',E',H',hq,hs'⟩,.of_steps (.one (fenced_calm hb hr rfl) stepR_scope) harr⟩
 | outgrown=>exact ⟨_,a₁,w₁,⟨ds',E',H',hq,hs'⟩,.of_steps (.one (fenced_calm hb hr rfl) stepR_scope) harr⟩
theorem W.label {l:Nat} {Q:Post} (h:Q .normal E H):W C (.label l) Q E H:=fun _ ds _ _ hs=>wpIn_label ⟨ds,E,H,h,hs⟩
theorem W.chgE {X:Type} {c:Code} {Q:Post} {p:X→Prop} {H':X→List HP} (hi:∀ h,sat H h→∃ x,p x∧sat (H' x) h) (h:∀ x,p x→W C c Q E (H' x)):W C c Q E H:=by
 intro L ds a w hs
 have hv:=hs.inv
 obtain ⟨h1,h2,s,x,y⟩:=sat_app hv.mine
 obtain ⟨u,hu,y'⟩:=hi _ y
 exact h u hu L ds a w ⟨hs.defers,hs.fr,hv.os,hv.tape,hv.output,hv.size,hv.keep,sat_join s x y'⟩
def PtrP (pv:Value) (e:Int) (cs:List Value) (t:TypeId):HP:=fun h=>e=0→∃ b,pv=.pointer (some ⟨b,0,none⟩)∧pt b (.cells cs.toArray t (0,0)) h
theorem PtrP.open {pv:Value} {e:Int} {cs:List Value} {t:TypeId} {H':List HP} (p:Pick (PtrP pv e cs t) H H') (he:e=0):∀ h,sat H h→∃ b,pv=.pointer (some ⟨b,0,none⟩)∧sat (pt b (.cells cs.toArray t (0,0))::H') h:=fun h hs=>by
 obtain ⟨h1,h2,s,hp,hr⟩:=p.sat hs
 obtain ⟨b,e1,e2⟩:=hp he
 exact ⟨b,e1,h1,h2,s,e2,hr⟩
theorem PtrP.no {pv:Value} {e:Int} {cs:List Value} {t:TypeId} (he:e≠0):∀ h,sat H h→sat (PtrP pv e cs t::H) h:=fun h hs=>⟨fun _=>none,h,split_none h,fun e0=>absurd e0 he,hs⟩
theorem PtrP.yes {b:Nat} {e:Int} {cs:List Value} {t:TypeId} {H':List HP} (p:Pick (pt b (.cells cs.toArray t (0,0))) H H'):∀ h,sat H h→sat (PtrP (.pointer (some ⟨b,0,none⟩)) e cs t::H') h:=fun h hs=>by
 obtain ⟨h1,h2,s,hp,hr⟩:=p.sat hs
 exact ⟨h1,h2,s,fun _=>⟨b,rfl,hp⟩,hr⟩
theorem Ct.ofI {X:Type} {p:X→Value→Prop} {Hx:X→List HP} {f:FuncId} {fn:Func} {c:Code} {vs:List Value} {w:World} (hm:P.follows .mixedOrders=true) (tt:TTab P)
 (hf:P.funcs[f]?=some fn) (hb:fn.body=some c) (ha:Nat.ble vs.length fn.ntmps=true)
 (h:W (fnCx hm tt fn.ntmps w) c (fin (fnCx hm tt fn.ntmps w) fn (fun v H=>∃ x,p x v∧∀ h,sat H h→sat (Hx x) h)) (enumE 0 vs) []):Ct P f vs.toArray w fun v w'=>∃ Hq,(∃ x,p x v∧Hq=Hx x)∧Inv w [] Hq w' :=
 (Ct.of hm tt hf hb ha h).mono fun _ _ ⟨_,⟨x,hp,hi⟩,hv⟩=>⟨Hx x,⟨x,hp,rfl⟩,Inv.chg (L:=[]) hv hi⟩
variable {ops:Array Oper} {K:KP} {rest:List Oper} {d:Nat} {ty:TypeId} {pos:String} {af:Array Edge} {x y:Operand} {T:TypeId}
theorem setRow_same {w:World} {g:Nat} {cur cur':List Value} {t:TypeId} {fr:Nat × Nat} (h:w.heap[g]?=some (.cells cur.toArray t fr)):(w.setRow g cur'.toArray).heap[g]?=some (.cells cur'.toArray t fr):=by
 obtain ⟨hlt,hv⟩:=Array.getElem?_eq_some_iff.1 h
 simp [World.setRow,hlt,Array.getElem_modify,hv]
theorem setRow_other {w:World} {g k:Nat} {cur':List Value} (h:k≠g):(w.setRow g cur'.toArray).heap[k]?=w.heap[k]?:=by
 simp [World.setRow,Array.getElem?_modify,Ne.symm h]
end
end Go.TH
namespace Go.TH
open Go Go.RowKit Go.WideShapes Go.ChangeShapes
theorem Inv.below {w w':World} {H:List HP} (h:Inv w [] H w'):Below w.heap.size w w':=⟨h.os,h.tape,h.output,h.size,fun k hk=>h.keep k hk (by simp)⟩
theorem Ret.calls {P:Program} {f:FuncId} {args:Array Value} {w:World} {r:Value} (h:Ret P f args w r):Calls P f args w fun e w'=>e=.returned r∧Below w.heap.size w w' :=
 callsIn_wide.1 (CallsIn.mono h fun e w' ⟨v,he,Hq,⟨hv,_⟩,hi⟩=>⟨by rw [he,hv],hi.below⟩)
theorem post_law {H:Type} {enc:TypeId × Value→H} {P:Program} {f:Func} {s:ChangeSpec} {apart fresh handsOn again:Bool} {W W':World} {args:Array Value} {v:Value} {ds gs:List (DataW H)} {before pa pv:List MemPlace}
 (hW:DataW.Whole enc P f.params.toList s.vars apart W args.toList ds gs before)
 (hres:∀ (b:Nat) (sp:Nat→Bool) (hd:Bool),DataW.TrodAll enc P W' b sp hd f.resultTypes.toList (v.resultList f.resultTypes.size) (s.fn H (ds++gs)).results [])
 (hargs:∀ sp:Nat→Bool,(∀ p∈before,sp p.block=true)→DataW.TrodAll enc P W' 0 sp true f.params.toList args.toList (s.fn H (ds++gs)).args pa)
 (hvars:∀ sp:Nat→Bool,(∀ p∈before,sp p.block=true)→DataW.TrodVars enc P W' sp s.vars (s.fn H (ds++gs)).vars pv)
 (hps:before=pa++pv) (hb:Below W.heap.size W W')
 (hok:∀ (j:Nat) (t:TypeId) (r:Value),f.resultTypes[j]?=some t→(v.resultList f.resultTypes.size)[j]?=some r→Value.okWide P W' .any 0 t r) :
 s.post enc P f apart fresh handsOn again W args v W':=by
 subst hps
 have hin:∀ p∈pa++pv,decide (p.block<W.heap.size)=true:=fun p hp=>decide_eq_true (hW.lt p hp)
 refine ⟨ds,gs,pa++pv,[],pa,pv,hW,hres _ _ _,hargs _ hin,hvars _ hin,World.keptBut_mono (fun p hp=>⟨hp,.inr (List.mem_append.1 hp)⟩) (hb.frame (·∈pa++pv)),fun _=>?_⟩
 obtain ⟨_,_,_,_,_,hz,hn⟩:=hW
 refine ⟨hok,_,_,([]++pa)++pv,⟨[]++pa,pv,trodAll_append (hargs _ fun _ _=>rfl) (hres _ _ _),hvars _ fun _ _=>rfl,rfl,fun b off hp=>?_,fun ha=>hn ha⟩,fun p hp _=>hp⟩
 have hp':MemPlace.cell b off∈pa++pv:=hp
 rw [hb.frozen (of_decide_eq_true (hin _ hp'))]
 exact hz b off hp'
end Go.TH
namespace Go.TH
open Go Go.RowKit Go.WideShapes Go.ChangeShapes
section
variable {H:Type} {enc:TypeId × Value→H} {P:Program} {w:World} {base:Nat} {spare:Nat→Bool} {held:Bool}
theorem mapM_get {α β:Type} {f:α→Option β}:∀ {l:List α} {r:List β},l.mapM f=some r→r.length=l.length∧∀ (i:Nat) (x:α),l[i]?=some x→r[i]?=f x
 | [],r,h=>by simp at h;subst h;exact ⟨rfl,fun i x hx=>by simp at hx⟩
 | a::l,r,h=>by
  rw [List.mapM_cons] at h
  cases ha:f a with
  | none=>simp [ha] at h
  | some b =>
   cases hl:l.mapM f with
   | none=>simp [ha,hl] at h
   | some r' =>
    simp [ha,hl] at h
    subst h
    obtain ⟨h1,h2⟩:=mapM_get hl
    refine ⟨by simp [h1],fun i x hx=>?_⟩
    cases i with
    | zero=>simp at hx;subst hx;simp [ha]
    | succ i=>simp at hx ⊢;exact h2 i x hx
theorem cells_get {a:Addr} {n:Nat} {cs:List Value} (h:w.cells? base a n=some cs):cs.length=n∧∀ j,j<n→w.cell? (a.add j)=cs[j]?:=by
 unfold World.cells? at h
 split at h
 ·obtain ⟨h1,h2⟩:=mapM_get h
  refine ⟨by simpa using h1,fun j hj=>?_⟩
  exact (h2 j j (by simp [hj])).symm
 ·cases h
theorem cell_in {p:Addr} {v:Value} (h:w.cell? p=some v):p.block<w.heap.size∧p.spot=none:=by
 unfold World.cell? at h
 cases hb:w.heap[p.block]? with
 | none=>simp [hb] at h
 | some o =>
  refine ⟨(Array.getElem?_eq_some_iff.1 hb).1,?_⟩
  rw [hb] at h
  cases o <;> simp at h
  cases hs:p.spot with
  | none=>rfl
  | some x=>simp [hs] at h
theorem choose_list {α:Type} {n:Nat} {p:Nat→α→Prop} (h:∀ i,i<n→∃ x,p i x):∃ l:List α,l.length=n∧∀ (i:Nat) (x:α),l[i]?=some x→p i x:=by
 induction n with
 | zero=>exact ⟨[],rfl,fun i x hx=>by simp at hx⟩
 | succ n ih =>
  obtain ⟨l,hl,hp⟩:=ih fun i hi=>h i (by omega)
  obtain ⟨x,hx⟩:=h n (by omega)
  refine ⟨l++[x],by simp [hl],fun i y hy=>?_⟩
  rcases Nat.lt_or_ge i n with hi | hi
  ·rw [List.getElem?_append_left (by omega)] at hy;exact hp i y hy
  ·have hlt:=(List.getElem?_eq_some_iff.1 hy).1
   simp [hl] at hlt
   obtain rfl:i=n:=by omega
   rw [List.getElem?_append_right (by omega)] at hy
   simp [hl] at hy;subst hy;exact hx
theorem open_rd {α:Type} {en:α→List Value} {sz T e fuel:Nat} {cs:List Value} {x:DataW H × List MemPlace} {Q:α→Prop} (ht:P.underlying T=some (.slice e)) (hc:P.cellsOf e=sz) (hsz:0<sz)
 (hx:∀ n c y,c.length=sz→DataW.trod enc P w base spare held n e c=some y→∃ z:α,c=en z∧Q z) (h:DataW.trod enc P w base spare held fuel T cs=some x) :
 ∃ v xs,cs=[v]∧RdF en sz w.heap.size w v xs∧∀ z∈xs,Q z:=by
 rcases Deep.open_slice ht h with ⟨rfl,_⟩ | ⟨a,len,cap,m,n,D,Pl,rfl,hb,hl,hm,hme,_,hel⟩
 ·exact ⟨_,[],rfl,⟨⟨by simp,none,0,rfl,fun h=>by simp at h⟩,fun h=>by simp at h,fun i x h=>by simp at h⟩,by simp⟩
 ·have hlm:len≤m:=by rw [hme];split <;> omega
  have hpt:∀ i,i<len→∃ z:α,(∀ (j:Nat) (u:Value),(en z)[j]?=some u→w.cell? ((a.add (i*sz)).add j)=some u)∧Q z∧(en z).length=sz:=by
   intro i hi
   obtain ⟨c,h1,h2⟩:=hel i (by omega)
   rw [hc] at h1
   obtain ⟨h3,h4⟩:=cells_get h1
   obtain ⟨z,rfl,hz⟩:=hx n c _ h3 h2
   refine ⟨z,fun j u hu=>?_,hz,h3⟩
   have hj:=(List.getElem?_eq_some_iff.1 hu).1
   rw [h4 j (by omega)];exact hu
  obtain ⟨xs,hxl,hxp⟩:=choose_list hpt
  have h0:0<len→a.block<w.heap.size∧a.spot=none:=fun hp=>by
   obtain ⟨z,h1,h2⟩:∃ z,xs[0]?=some z∧True:=by
    obtain ⟨z,hz⟩:∃ z,xs[0]?=some z:=⟨xs[0]'(by omega),by simp⟩
    exact ⟨z,hz,trivial⟩
   obtain ⟨g1,_,g3⟩:=hxp 0 z h1
   have:=cell_in (g1 0 ((en z)[0]'(by omega)) (by simp))
   simpa [Addr.add] using this
  simp only [maxLen] at hm
  refine ⟨_,xs,rfl,⟨⟨by omega,some a,cap,by rw [hxl],fun hp=>?_⟩,fun hp=>(h0 (by omega)).1,fun i z hz j u hu=>(hxp i z hz).1 j u hu⟩,fun z hz=>?_⟩
  ·have:=(h0 (by omega)).2
   exact ⟨a.block,a.off,by cases a;simp_all⟩
  ·obtain ⟨i,hi⟩:=List.mem_iff_getElem?.1 hz
   exact (hxp i z hi).2.1
theorem trod_stay {W W':World} {t:TypeId} {v:Value} {d:DataW H} {ps:List MemPlace} (hl:laidOutB P=true) (hr:P.readableRec t=true) (hrow:t<P.types.size) (h:DataW.Trod enc P W 0 (fun _=>true) true t v d ps) (hb:Below W.heap.size W W') (hlt:∀ x∈ps,x.block<W.heap.size) (sp:Nat→Bool) (hsp:∀ x∈ps,sp x.block=true):DataW.Trod enc P W' 0 sp true t v d ps :=
 WideElems.Trod_stays hl hr hrow h (fun x hx=>hb.same (hlt x hx)) hsp
end
end Go.TH
namespace Go.Proofs.YthoeeeehfkenkaaGreat
open Go Go.TH
def tyList:List TI:=[⟨.none,0,none⟩,
  ⟨.one,1,some (.nilFunc)⟩,
  ⟨.int .i64,1,some (.int .i64 0)⟩,
  ⟨.int .i64,1,some (.int .i64 0)⟩,
  ⟨.one,1,some (.bool false)⟩,
  ⟨.int .u8,1,some (.int .u8 0)⟩,
  ⟨.int .u8,1,some (.int .u8 0)⟩,
  ⟨.st [(0,2),(1,3),(2,4),(3,6)],4,some (.agg #[.int .i64 0,.int .i64 0,.bool false,.int .u8 0])⟩,
  ⟨.st [(0,2),(1,3),(2,4),(3,6)],4,some (.agg #[.int .i64 0,.int .i64 0,.bool false,.int .u8 0])⟩,
  ⟨.none,0,none⟩,
  ⟨.none,0,none⟩,
  ⟨.none,0,none⟩,
  ⟨.int .u64,1,some (.int .u64 0)⟩,
  ⟨.st [(0,9),(1,12)],2,none⟩,
  ⟨.st [(0,9),(1,12)],2,none⟩,
  ⟨.one,1,some (.pointer none)⟩,
  ⟨.one,1,some (.pointer none)⟩,
  ⟨.one,1,some (.pointer none)⟩,
  ⟨.st [(0,17)],1,some (.agg #[.pointer none])⟩,
  ⟨.st [(0,17)],1,some (.agg #[.pointer none])⟩,
  ⟨.one,1,some (.nilIface)⟩,
  ⟨.int .i32,1,some (.int .i32 0)⟩,
  ⟨.sl 32 3 24,1,some (.slice none 0 0)⟩,
  ⟨.st [(0,3),(1,22)],2,some (.agg #[.int .i64 0,.slice none 0 0])⟩,
  ⟨.st [(0,3),(1,22)],2,some (.agg #[.int .i64 0,.slice none 0 0])⟩,
  ⟨.int .i64,1,some (.int .i64 0)⟩,
  ⟨.one,1,some (.nilFunc)⟩,
  ⟨.one,1,some (.nilFunc)⟩,
  ⟨.sl 34 4 32,1,some (.slice none 0 0)⟩,
  ⟨.st [(0,2),(1,2)],2,some (.agg #[.int .i64 0,.int .i64 0])⟩,
  ⟨.st [(0,2),(1,2)],2,some (.agg #[.int .i64 0,.int .i64 0])⟩,
  ⟨.st [(0,2),(1,30)],3,some (.agg #[.int .i64 0,.int .i64 0,.int .i64 0])⟩,
  ⟨.st [(0,2),(1,30)],3,some (.agg #[.int .i64 0,.int .i64 0,.int .i64 0])⟩,
  ⟨.st [(0,2),(1,2),(2,30)],4,some (.agg #[.int .i64 0,.int .i64 0,.int .i64 0,.int .i64 0])⟩,
  ⟨.st [(0,2),(1,2),(2,30)],4,some (.agg #[.int .i64 0,.int .i64 0,.int .i64 0,.int .i64 0])⟩,
  ⟨.one,1,some (.nilFunc)⟩,
  ⟨.none,0,none⟩,
  ⟨.one,1,some (.nilFunc)⟩,
  ⟨.st [(0,2),(1,2)],2,some (.agg #[.int .i64 0,.int .i64 0])⟩,
  ⟨.st [(0,2),(1,2)],2,some (.agg #[.int .i64 0,.int .i64 0])⟩,
  ⟨.st [(0,39),(2,39)],4,some (.agg #[.int .i64 0,.int .i64 0,.int .i64 0,.int .i64 0])⟩,
  ⟨.st [(0,39),(2,39)],4,some (.agg #[.int .i64 0,.int .i64 0,.int .i64 0,.int .i64 0])⟩,
  ⟨.none,0,none⟩,
  ⟨.one,1,some (.nilFunc)⟩,
  ⟨.st [(0,2),(1,2),(2,2)],3,some (.agg #[.int .i64 0,.int .i64 0,.int .i64 0])⟩,
  ⟨.st [(0,2),(1,2),(2,2)],3,some (.agg #[.int .i64 0,.int .i64 0,.int .i64 0])⟩,
  ⟨.none,0,none⟩,
  ⟨.one,1,some (.nilFunc)⟩,
  ⟨.none,0,none⟩,
  ⟨.one,1,some (.nilFunc)⟩,
  ⟨.sl 85 3 24,1,some (.slice none 0 0)⟩,
  ⟨.st [(0,50),(1,2)],2,some (.agg #[.slice none 0 0,.int .i64 0])⟩,
  ⟨.st [(0,50),(1,2)],2,some (.agg #[.slice none 0 0,.int .i64 0])⟩,
  ⟨.none,0,none⟩,
  ⟨.one,1,some (.nilFunc)⟩,
  ⟨.one,1,some (.nilFunc)⟩,
  ⟨.one,1,some (.nilFunc)⟩,
  ⟨.sl 39 2 16,1,some (.slice none 0 0)⟩,
  ⟨.one,1,some (.nilFunc)⟩,
  ⟨.one,1,some (.nilFunc)⟩,
  ⟨.one,1,some (.nilFunc)⟩,
  ⟨.one,1,some (.nilFunc)⟩,
  ⟨.one,1,some (.nilFunc)⟩,
  ⟨.one,1,some (.pointer none)⟩,
  ⟨.none,0,none⟩,
  ⟨.one,1,some (.nilFunc)⟩,
  ⟨.one,1,some (.nilFunc)⟩,
  ⟨.one,1,some (.nilFunc)⟩,
  ⟨.one,1,some (.nilFunc)⟩,
  ⟨.one,1,some (.nilFunc)⟩,
  ⟨.one,1,some (.map none)⟩,
  ⟨.ar 3 2 1,3,some (.agg #[.int .i64 0,.int .i64 0,.int .i64 0])⟩,
  ⟨.ar 3 2 1,3,some (.agg #[.int .i64 0,.int .i64 0,.int .i64 0])⟩,
  ⟨.st [(0,70),(1,72),(4,2)],5,some (.agg #[.map none,.int .i64 0,.int .i64 0,.int .i64 0,.int .i64 0])⟩,
  ⟨.st [(0,70),(1,72),(4,2)],5,some (.agg #[.map none,.int .i64 0,.int .i64 0,.int .i64 0,.int .i64 0])⟩,
  ⟨.none,0,none⟩,
  ⟨.one,1,some (.nilFunc)⟩,
  ⟨.one,1,some (.nilFunc)⟩,
  ⟨.none,0,none⟩,
  ⟨.one,1,some (.pointer none)⟩,
  ⟨.one,1,some (.nilFunc)⟩,
  ⟨.one,1,some (.nilFunc)⟩,
  ⟨.one,1,some (.nilFunc)⟩,
  ⟨.one,1,some (.nilFunc)⟩,
  ⟨.st [(0,3),(1,4),(2,2)],3,some (.agg #[.int .i64 0,.bool false,.int .i64 0])⟩,
  ⟨.st [(0,3),(1,4),(2,2)],3,some (.agg #[.int .i64 0,.bool false,.int .i64 0])⟩,
  ⟨.one,1,some (.nilFunc)⟩,
  ⟨.one,1,some (.nilFunc)⟩,
  ⟨.one,1,some (.nilFunc)⟩,
  ⟨.one,1,some (.nilFunc)⟩,
  ⟨.one,1,some (.nilFunc)⟩,
  ⟨.sl 2 1 8,1,some (.slice none 0 0)⟩,
  ⟨.none,0,none⟩,
  ⟨.one,1,some (.nilFunc)⟩,
  ⟨.one,1,some (.nilFunc)⟩,
  ⟨.none,0,none⟩,
  ⟨.one,1,some (.nilFunc)⟩,
  ⟨.st [(0,2),(1,2),(2,2),(3,2),(4,2),(5,2),(6,2)],7,some (.agg #[.int .i64 0,.int .i64 0,.int .i64 0,.int .i64 0,.int .i64 0,.int .i64 0,.int .i64 0])⟩,
  ⟨.st [(0,2),(1,2),(2,2),(3,2),(4,2),(5,2),(6,2)],7,some (.agg #[.int .i64 0,.int .i64 0,.int .i64 0,.int .i64 0,.int .i64 0,.int .i64 0,.int .i64 0])⟩,
  ⟨.one,1,some (.nilFunc)⟩,
  ⟨.none,0,none⟩,
  ⟨.one,1,some (.nilFunc)⟩,
  ⟨.one,1,some (.nilFunc)⟩,
  ⟨.one,1,some (.nilFunc)⟩,
  ⟨.st [(0,2),(1,2),(2,2),(3,39)],5,some (.agg #[.int .i64 0,.int .i64 0,.int .i64 0,.int .i64 0,.int .i64 0])⟩,
  ⟨.st [(0,2),(1,2),(2,2),(3,39)],5,some (.agg #[.int .i64 0,.int .i64 0,.int .i64 0,.int .i64 0,.int .i64 0])⟩,
  ⟨.none,0,none⟩,
  ⟨.one,1,some (.nilFunc)⟩,
  ⟨.sl 115 2 16,1,some (.slice none 0 0)⟩,
  ⟨.one,1,some (.nilFunc)⟩,
  ⟨.sl 3 1 8,1,some (.slice none 0 0)⟩,
  ⟨.none,0,none⟩,
  ⟨.one,1,some (.nilFunc)⟩,
  ⟨.one,1,some (.nilFunc)⟩,
  ⟨.st [(0,2),(1,2)],2,some (.agg #[.int .i64 0,.int .i64 0])⟩,
  ⟨.st [(0,2),(1,2)],2,some (.agg #[.int .i64 0,.int .i64 0])⟩,
  ⟨.none,0,none⟩,
  ⟨.one,1,some (.nilFunc)⟩,
  ⟨.none,0,none⟩,
  ⟨.one,1,some (.nilFunc)⟩,
  ⟨.one,1,some (.nilFunc)⟩,
  ⟨.one,1,some (.nilFunc)⟩,
  ⟨.one,1,some (.nilFunc)⟩,
  ⟨.ar 5 2 1,5,some (.agg #[.int .i64 0,.int .i64 0,.int .i64 0,.int .i64 0,.int .i64 0])⟩,
  ⟨.ar 5 2 1,5,some (.agg #[.int .i64 0,.int .i64 0,.int .i64 0,.int .i64 0,.int .i64 0])⟩,
  ⟨.st [(0,24),(2,124),(7,2)],8,some (.agg #[.int .i64 0,.slice none 0 0,.int .i64 0,.int .i64 0,.int .i64 0,.int .i64 0,.int .i64 0,.int .i64 0])⟩,
  ⟨.st [(0,24),(2,124),(7,2)],8,some (.agg #[.int .i64 0,.slice none 0 0,.int .i64 0,.int .i64 0,.int .i64 0,.int .i64 0,.int .i64 0,.int .i64 0])⟩,
  ⟨.one,1,some (.nilFunc)⟩,
  ⟨.one,1,some (.nilFunc)⟩,
  ⟨.one,1,some (.map none)⟩,
  ⟨.one,1,some (.nilFunc)⟩,
  ⟨.one,1,some (.nilFunc)⟩,
  ⟨.one,1,some (.nilFunc)⟩,
  ⟨.one,1,some (.nilFunc)⟩,
  ⟨.one,1,some (.nilFunc)⟩,
  ⟨.one,1,some (.nilFunc)⟩,
  ⟨.one,1,some (.nilFunc)⟩,
  ⟨.one,1,some (.nilFunc)⟩,
  ⟨.one,1,some (.nilFunc)⟩,
  ⟨.sl 144 10 80,1,some (.slice none 0 0)⟩,
  ⟨.sl 72 3 24,1,some (.slice none 0 0)⟩,
  ⟨.st [(0,139),(1,140)],2,some (.agg #[.slice none 0 0,.slice none 0 0])⟩,
  ⟨.st [(0,139),(1,140)],2,some (.agg #[.slice none 0 0,.slice none 0 0])⟩,
  ⟨.st [(0,34),(4,72),(7,72)],10,some (.agg #[.int .i64 0,.int .i64 0,.int .i64 0,.int .i64 0,.int .i64 0,.int .i64 0,.int .i64 0,.int .i64 0,.int .i64 0,.int .i64 0])⟩,
  ⟨.st [(0,34),(4,72),(7,72)],10,some (.agg #[.int .i64 0,.int .i64 0,.int .i64 0,.int .i64 0,.int .i64 0,.int .i64 0,.int .i64 0,.int .i64 0,.int .i64 0,.int .i64 0])⟩,
  ⟨.one,1,some (.nilFunc)⟩,
  ⟨.one,1,some (.nilFunc)⟩,
  ⟨.one,1,some (.nilFunc)⟩,
  ⟨.one,1,some (.nilFunc)⟩,
  ⟨.one,1,some (.nilFunc)⟩,
  ⟨.one,1,some (.nilFunc)⟩,
  ⟨.one,1,some (.nilFunc)⟩,
  ⟨.one,1,some (.nilFunc)⟩,
  ⟨.sl 246 1 24,1,some (.slice none 0 0)⟩,
  ⟨.st [(0,91),(1,91),(2,153)],3,some (.agg #[.slice none 0 0,.slice none 0 0,.slice none 0 0])⟩,
  ⟨.st [(0,91),(1,91),(2,153)],3,some (.agg #[.slice none 0 0,.slice none 0 0,.slice none 0 0])⟩,
  ⟨.one,1,some (.nilFunc)⟩,
  ⟨.sl 91 1 24,1,some (.slice none 0 0)⟩,
  ⟨.one,1,some (.nilFunc)⟩,
  ⟨.st [(0,2),(1,2)],2,some (.agg #[.int .i64 0,.int .i64 0])⟩,
  ⟨.st [(0,2),(1,2)],2,some (.agg #[.int .i64 0,.int .i64 0])⟩,
  ⟨.one,1,some (.nilFunc)⟩,
  ⟨.st [(0,39),(2,39)],4,some (.agg #[.int .i64 0,.int .i64 0,.int .i64 0,.int .i64 0])⟩,
  ⟨.none,0,none⟩,
  ⟨.one,1,some (.nilFunc)⟩,
  ⟨.one,1,some (.nilFunc)⟩,
  ⟨.one,1,some (.nilFunc)⟩,
  ⟨.st [(0,2),(1,2)],2,some (.agg #[.int .i64 0,.int .i64 0])⟩,
  ⟨.st [(0,2),(1,2)],2,some (.agg #[.int .i64 0,.int .i64 0])⟩,
  ⟨.one,1,some (.nilFunc)⟩,
  ⟨.none,0,none⟩,
  ⟨.one,1,some (.nilFunc)⟩,
  ⟨.sl 160 2 16,1,some (.slice none 0 0)⟩,
  ⟨.one,1,some (.nilFunc)⟩,
  ⟨.sl 269 4 32,1,some (.slice none 0 0)⟩,
  ⟨.st [(0,3),(1,3),(2,30),(4,174)],5,some (.agg #[.int .i64 0,.int .i64 0,.int .i64 0,.int .i64 0,.slice none 0 0])⟩,
  ⟨.st [(0,3),(1,3),(2,30),(4,174)],5,some (.agg #[.int .i64 0,.int .i64 0,.int .i64 0,.int .i64 0,.slice none 0 0])⟩,
  ⟨.one,1,some (.nilFunc)⟩,
  ⟨.st [(0,91),(1,91)],2,some (.agg #[.slice none 0 0,.slice none 0 0])⟩,
  ⟨.st [(0,91),(1,91)],2,some (.agg #[.slice none 0 0,.slice none 0 0])⟩,
  ⟨.none,0,none⟩,
  ⟨.one,1,some (.nilFunc)⟩,
  ⟨.one,1,some (.nilFunc)⟩,
  ⟨.one,1,some (.nilFunc)⟩,
  ⟨.one,1,some (.nilFunc)⟩,
  ⟨.one,1,some (.nilFunc)⟩,
  ⟨.one,1,some (.nilFunc)⟩,
  ⟨.one,1,some (.nilFunc)⟩,
  ⟨.one,1,some (.nilFunc)⟩,
  ⟨.one,1,some (.nilFunc)⟩,
  ⟨.one,1,some (.nilFunc)⟩,
  ⟨.one,1,some (.nilFunc)⟩,
  ⟨.one,1,some (.nilFunc)⟩,
  ⟨.one,1,some (.nilFunc)⟩,
  ⟨.st [(0,3),(1,2)],2,some (.agg #[.int .i64 0,.int .i64 0])⟩,
  ⟨.st [(0,3),(1,2)],2,some (.agg #[.int .i64 0,.int .i64 0])⟩,
  ⟨.one,1,some (.nilFunc)⟩,
  ⟨.sl 208 2 16,1,some (.slice none 0 0)⟩,
  ⟨.st [(0,105),(5,197)],6,some (.agg #[.int .i64 0,.int .i64 0,.int .i64 0,.int .i64 0,.int .i64 0,.slice none 0 0])⟩,
  ⟨.st [(0,105),(5,197)],6,some (.agg #[.int .i64 0,.int .i64 0,.int .i64 0,.int .i64 0,.int .i64 0,.slice none 0 0])⟩,
  ⟨.one,1,some (.nilFunc)⟩,
  ⟨.one,1,some (.nilFunc)⟩,
  ⟨.one,1,some (.nilFunc)⟩,
  ⟨.one,1,some (.nilFunc)⟩,
  ⟨.one,1,some (.nilFunc)⟩,
  ⟨.none,0,none⟩,
  ⟨.one,1,some (.nilFunc)⟩,
  ⟨.ar 2 2 1,2,some (.agg #[.int .i64 0,.int .i64 0])⟩,
  ⟨.ar 2 2 1,2,some (.agg #[.int .i64 0,.int .i64 0])⟩,
  ⟨.one,1,some (.nilFunc)⟩,
  ⟨.one,1,some (.nilFunc)⟩,
  ⟨.one,1,some (.nilFunc)⟩,
  ⟨.one,1,some (.map none)⟩,
  ⟨.one,1,some (.nilFunc)⟩,
  ⟨.one,1,some (.nilFunc)⟩,
  ⟨.one,1,some (.nilFunc)⟩,
  ⟨.one,1,some (.nilFunc)⟩,
  ⟨.one,1,some (.nilFunc)⟩,
  ⟨.sl 74 5 40,1,some (.slice none 0 0)⟩,
  ⟨.one,1,some (.nilFunc)⟩,
  ⟨.one,1,some (.nilFunc)⟩,
  ⟨.one,1,some (.nilFunc)⟩,
  ⟨.one,1,some (.nilFunc)⟩,
  ⟨.one,1,some (.nilFunc)⟩,
  ⟨.one,1,some (.nilFunc)⟩,
  ⟨.one,1,some (.nilFunc)⟩,
  ⟨.one,1,some (.nilFunc)⟩,
  ⟨.one,1,some (.nilFunc)⟩,
  ⟨.int .u64,1,some (.int .u64 0)⟩,
  ⟨.sl 349 6 48,1,some (.slice none 0 0)⟩,
  ⟨.st [(0,30),(2,229)],3,some (.agg #[.int .i64 0,.int .i64 0,.slice none 0 0])⟩,
  ⟨.st [(0,30),(2,229)],3,some (.agg #[.int .i64 0,.int .i64 0,.slice none 0 0])⟩,
  ⟨.one,1,some (.nilFunc)⟩,
  ⟨.one,1,some (.nilFunc)⟩,
  ⟨.one,1,some (.nilFunc)⟩,
  ⟨.one,1,some (.nilFunc)⟩,
  ⟨.one,1,some (.nilFunc)⟩,
  ⟨.one,1,some (.nilFunc)⟩,
  ⟨.one,1,some (.nilFunc)⟩,
  ⟨.one,1,some (.nilFunc)⟩,
  ⟨.one,1,some (.nilFunc)⟩,
  ⟨.none,0,none⟩,
  ⟨.one,1,some (.nilFunc)⟩,
  ⟨.sl 377 3 40,1,some (.slice none 0 0)⟩,
  ⟨.one,1,some (.nilFunc)⟩,
  ⟨.one,1,some (.nilFunc)⟩,
  ⟨.sl 30 2 16,1,some (.slice none 0 0)⟩,
  ⟨.one,1,some (.nilFunc)⟩,
  ⟨.st [(0,155)],3,some (.agg #[.slice none 0 0,.slice none 0 0,.slice none 0 0])⟩,
  ⟨.st [(0,155)],3,some (.agg #[.slice none 0 0,.slice none 0 0,.slice none 0 0])⟩,
  ⟨.one,1,some (.nilFunc)⟩,
  ⟨.one,1,some (.nilFunc)⟩,
  ⟨.st [(0,3),(1,3)],2,some (.agg #[.int .i64 0,.int .i64 0])⟩,
  ⟨.st [(0,3),(1,3)],2,some (.agg #[.int .i64 0,.int .i64 0])⟩,
  ⟨.one,1,some (.nilFunc)⟩,
  ⟨.none,0,none⟩,
  ⟨.one,1,some (.nilFunc)⟩,
  ⟨.one,1,some (.nilFunc)⟩,
  ⟨.one,1,some (.nilFunc)⟩,
  ⟨.one,1,some (.nilFunc)⟩,
  ⟨.one,1,some (.nilFunc)⟩,
  ⟨.one,1,some (.nilFunc)⟩,
  ⟨.none,0,none⟩,
  ⟨.one,1,some (.nilFunc)⟩,
  ⟨.one,1,some (.nilFunc)⟩,
  ⟨.one,1,some (.nilFunc)⟩,
  ⟨.one,1,some (.nilFunc)⟩,
  ⟨.one,1,some (.nilFunc)⟩,
  ⟨.st [(0,3),(1,3),(2,30)],4,some (.agg #[.int .i64 0,.int .i64 0,.int .i64 0,.int .i64 0])⟩,
  ⟨.st [(0,3),(1,3),(2,30)],4,some (.agg #[.int .i64 0,.int .i64 0,.int .i64 0,.int .i64 0])⟩,
  ⟨.one,1,some (.nilFunc)⟩,
  ⟨.one,1,some (.pointer none)⟩,
  ⟨.none,0,none⟩,
  ⟨.one,1,some (.pointer none)⟩,
  ⟨.one,1,some (.nilFunc)⟩,
  ⟨.one,1,some (.nilFunc)⟩,
  ⟨.one,1,some (.nilFunc)⟩,
  ⟨.none,0,none⟩,
  ⟨.one,1,some (.nilFunc)⟩,
  ⟨.one,1,some (.nilFunc)⟩,
  ⟨.one,1,some (.nilFunc)⟩,
  ⟨.one,1,some (.nilFunc)⟩,
  ⟨.st [(0,4),(1,2)],2,some (.agg #[.bool false,.int .i64 0])⟩,
  ⟨.st [(0,4),(1,2)],2,some (.agg #[.bool false,.int .i64 0])⟩,
  ⟨.ar 13 283 2,26,some (.agg #[.bool false,.int .i64 0,.bool false,.int .i64 0,.bool false,.int .i64 0,.bool false,.int .i64 0,.bool false,.int .i64 0,.bool false,.int .i64 0,.bool false,.int .i64 0,.bool false,.int .i64 0,.bool false,.int .i64 0,.bool false,.int .i64 0,.bool false,.int .i64 0,.bool false,.int .i64 0,.bool false,.int .i64 0])⟩,
  ⟨.ar 13 283 2,26,some (.agg #[.bool false,.int .i64 0,.bool false,.int .i64 0,.bool false,.int .i64 0,.bool false,.int .i64 0,.bool false,.int .i64 0,.bool false,.int .i64 0,.bool false,.int .i64 0,.bool false,.int .i64 0,.bool false,.int .i64 0,.bool false,.int .i64 0,.bool false,.int .i64 0,.bool false,.int .i64 0,.bool false,.int .i64 0])⟩,
  ⟨.ar 13 285 26,338,none⟩,
  ⟨.st [(0,176),(5,3),(6,286)],344,none⟩,
  ⟨.st [(0,176),(5,3),(6,286)],344,none⟩,
  ⟨.one,1,some (.nilFunc)⟩,
  ⟨.one,1,some (.nilFunc)⟩,
  ⟨.one,1,some (.nilFunc)⟩,
  ⟨.one,1,some (.nilFunc)⟩,
  ⟨.one,1,some (.nilFunc)⟩,
  ⟨.one,1,some (.nilFunc)⟩,
  ⟨.one,1,some (.nilFunc)⟩,
  ⟨.one,1,some (.nilFunc)⟩,
  ⟨.one,1,some (.nilFunc)⟩,
  ⟨.one,1,some (.nilFunc)⟩,
  ⟨.one,1,some (.nilFunc)⟩,
  ⟨.one,1,some (.nilFunc)⟩,
  ⟨.sl 199 6 64,1,some (.slice none 0 0)⟩,
  ⟨.one,1,some (.nilFunc)⟩,
  ⟨.one,1,some (.nilFunc)⟩,
  ⟨.one,1,some (.nilFunc)⟩,
  ⟨.one,1,some (.nilFunc)⟩,
  ⟨.one,1,some (.nilFunc)⟩,
  ⟨.one,1,some (.nilFunc)⟩,
  ⟨.one,1,some (.nilFunc)⟩,
  ⟨.one,1,some (.nilFunc)⟩,
  ⟨.int .i64,1,some (.int .i64 0)⟩,
  ⟨.none,0,none⟩,
  ⟨.one,1,some (.nilFunc)⟩,
  ⟨.one,1,some (.nilFunc)⟩,
  ⟨.one,1,some (.nilFunc)⟩,
  ⟨.none,0,none⟩,
  ⟨.one,1,some (.nilFunc)⟩,
  ⟨.one,1,some (.nilFunc)⟩,
  ⟨.int .u32,1,some (.int .u32 0)⟩,
  ⟨.one,1,some (.nilFunc)⟩,
  ⟨.int .u64,1,some (.int .u64 0)⟩,
  ⟨.st [(0,2),(1,2),(2,2),(3,2),(4,30),(6,30),(8,30),(10,30),(12,30),(14,30)],16,some (.agg #[.int .i64 0,.int .i64 0,.int .i64 0,.int .i64 0,.int .i64 0,.int .i64 0,.int .i64 0,.int .i64 0,.int .i64 0,.int .i64 0,.int .i64 0,.int .i64 0,.int .i64 0,.int .i64 0,.int .i64 0,.int .i64 0])⟩,
  ⟨.st [(0,2),(1,2),(2,2),(3,2),(4,30),(6,30),(8,30),(10,30),(12,30),(14,30)],16,some (.agg #[.int .i64 0,.int .i64 0,.int .i64 0,.int .i64 0,.int .i64 0,.int .i64 0,.int .i64 0,.int .i64 0,.int .i64 0,.int .i64 0,.int .i64 0,.int .i64 0,.int .i64 0,.int .i64 0,.int .i64 0,.int .i64 0])⟩,
  ⟨.one,1,some (.nilFunc)⟩,
  ⟨.one,1,some (.nilFunc)⟩,
  ⟨.st [(0,91),(1,91)],2,some (.agg #[.slice none 0 0,.slice none 0 0])⟩,
  ⟨.st [(0,91),(1,91)],2,some (.agg #[.slice none 0 0,.slice none 0 0])⟩,
  ⟨.one,1,some (.nilFunc)⟩,
  ⟨.none,0,none⟩,
  ⟨.one,1,some (.nilFunc)⟩,
  ⟨.one,1,some (.nilFunc)⟩,
  ⟨.st [(0,2),(1,2),(2,2),(3,2),(4,2),(5,2)],6,some (.agg #[.int .i64 0,.int .i64 0,.int .i64 0,.int .i64 0,.int .i64 0,.int .i64 0])⟩,
  ⟨.st [(0,2),(1,2),(2,2),(3,2),(4,2),(5,2)],6,some (.agg #[.int .i64 0,.int .i64 0,.int .i64 0,.int .i64 0,.int .i64 0,.int .i64 0])⟩,
  ⟨.one,1,some (.nilFunc)⟩,
  ⟨.sl 326 2 48,1,some (.slice none 0 0)⟩,
  ⟨.none,0,none⟩,
  ⟨.one,1,some (.nilFunc)⟩,
  ⟨.sl 322 16 128,1,some (.slice none 0 0)⟩,
  ⟨.one,1,some (.nilFunc)⟩,
  ⟨.one,1,some (.nilFunc)⟩,
  ⟨.one,1,some (.nilFunc)⟩,
  ⟨.st [(0,110),(1,3)],2,some (.agg #[.slice none 0 0,.int .i64 0])⟩,
  ⟨.st [(0,110),(1,3)],2,some (.agg #[.slice none 0 0,.int .i64 0])⟩,
  ⟨.one,1,some (.nilFunc)⟩,
  ⟨.sl 110 1 24,1,some (.slice none 0 0)⟩,
  ⟨.none,0,none⟩,
  ⟨.one,1,some (.nilFunc)⟩,
  ⟨.one,1,some (.nilFunc)⟩,
  ⟨.st [(0,2),(1,30),(3,2),(4,2),(5,2)],6,some (.agg #[.int .i64 0,.int .i64 0,.int .i64 0,.int .i64 0,.int .i64 0,.int .i64 0])⟩,
  ⟨.st [(0,2),(1,30),(3,2),(4,2),(5,2)],6,some (.agg #[.int .i64 0,.int .i64 0,.int .i64 0,.int .i64 0,.int .i64 0,.int .i64 0])⟩,
  ⟨.one,1,some (.pointer none)⟩,
  ⟨.none,0,none⟩,
  ⟨.one,1,some (.nilFunc)⟩,
  ⟨.ar 8 2 1,8,some (.agg #[.int .i64 0,.int .i64 0,.int .i64 0,.int .i64 0,.int .i64 0,.int .i64 0,.int .i64 0,.int .i64 0])⟩,
  ⟨.ar 8 353 8,64,some (.agg #[.int .i64 0,.int .i64 0,.int .i64 0,.int .i64 0,.int .i64 0,.int .i64 0,.int .i64 0,.int .i64 0,.int .i64 0,.int .i64 0,.int .i64 0,.int .i64 0,.int .i64 0,.int .i64 0,.int .i64 0,.int .i64 0,.int .i64 0,.int .i64 0,.int .i64 0,.int .i64 0,.int .i64 0,.int .i64 0,.int .i64 0,.int .i64 0,.int .i64 0,.int .i64 0,.int .i64 0,.int .i64 0,.int .i64 0,.int .i64 0,.int .i64 0,.int .i64 0,.int .i64 0,.int .i64 0,.int .i64 0,.int .i64 0,.int .i64 0,.int .i64 0,.int .i64 0,.int .i64 0,.int .i64 0,.int .i64 0,.int .i64 0,.int .i64 0,.int .i64 0,.int .i64 0,.int .i64 0,.int .i64 0,.int .i64 0,.int .i64 0,.int .i64 0,.int .i64 0,.int .i64 0,.int .i64 0,.int .i64 0,.int .i64 0,.int .i64 0,.int .i64 0,.int .i64 0,.int .i64 0,.int .i64 0,.int .i64 0,.int .i64 0,.int .i64 0])⟩,
  ⟨.st [(0,231),(3,354)],67,some (.agg #[.int .i64 0,.int .i64 0,.slice none 0 0,.int .i64 0,.int .i64 0,.int .i64 0,.int .i64 0,.int .i64 0,.int .i64 0,.int .i64 0,.int .i64 0,.int .i64 0,.int .i64 0,.int .i64 0,.int .i64 0,.int .i64 0,.int .i64 0,.int .i64 0,.int .i64 0,.int .i64 0,.int .i64 0,.int .i64 0,.int .i64 0,.int .i64 0,.int .i64 0,.int .i64 0,.int .i64 0,.int .i64 0,.int .i64 0,.int .i64 0,.int .i64 0,.int .i64 0,.int .i64 0,.int .i64 0,.int .i64 0,.int .i64 0,.int .i64 0,.int .i64 0,.int .i64 0,.int .i64 0,.int .i64 0,.int .i64 0,.int .i64 0,.int .i64 0,.int .i64 0,.int .i64 0,.int .i64 0,.int .i64 0,.int .i64 0,.int .i64 0,.int .i64 0,.int .i64 0,.int .i64 0,.int .i64 0,.int .i64 0,.int .i64 0,.int .i64 0,.int .i64 0,.int .i64 0,.int .i64 0,.int .i64 0,.int .i64 0,.int .i64 0,.int .i64 0,.int .i64 0,.int .i64 0,.int .i64 0])⟩,
  ⟨.st [(0,231),(3,354)],67,some (.agg #[.int .i64 0,.int .i64 0,.slice none 0 0,.int .i64 0,.int .i64 0,.int .i64 0,.int .i64 0,.int .i64 0,.int .i64 0,.int .i64 0,.int .i64 0,.int .i64 0,.int .i64 0,.int .i64 0,.int .i64 0,.int .i64 0,.int .i64 0,.int .i64 0,.int .i64 0,.int .i64 0,.int .i64 0,.int .i64 0,.int .i64 0,.int .i64 0,.int .i64 0,.int .i64 0,.int .i64 0,.int .i64 0,.int .i64 0,.int .i64 0,.int .i64 0,.int .i64 0,.int .i64 0,.int .i64 0,.int .i64 0,.int .i64 0,.int .i64 0,.int .i64 0,.int .i64 0,.int .i64 0,.int .i64 0,.int .i64 0,.int .i64 0,.int .i64 0,.int .i64 0,.int .i64 0,.int .i64 0,.int .i64 0,.int .i64 0,.int .i64 0,.int .i64 0,.int .i64 0,.int .i64 0,.int .i64 0,.int .i64 0,.int .i64 0,.int .i64 0,.int .i64 0,.int .i64 0,.int .i64 0,.int .i64 0,.int .i64 0,.int .i64 0,.int .i64 0,.int .i64 0,.int .i64 0,.int .i64 0])⟩,
  ⟨.one,1,some (.nilFunc)⟩,
  ⟨.one,1,some (.nilFunc)⟩,
  ⟨.one,1,some (.pointer none)⟩,
  ⟨.st [(0,350),(1,110),(2,2)],3,some (.agg #[.pointer none,.slice none 0 0,.int .i64 0])⟩,
  ⟨.st [(0,350),(1,110),(2,2)],3,some (.agg #[.pointer none,.slice none 0 0,.int .i64 0])⟩,
  ⟨.one,1,some (.nilFunc)⟩,
  ⟨.one,1,some (.map none)⟩,
  ⟨.one,1,some (.map none)⟩,
  ⟨.one,1,some (.nilFunc)⟩,
  ⟨.one,1,some (.nilFunc)⟩,
  ⟨.st [(0,3),(1,3)],2,some (.agg #[.int .i64 0,.int .i64 0])⟩,
  ⟨.st [(0,3),(1,3)],2,some (.agg #[.int .i64 0,.int .i64 0])⟩,
  ⟨.one,1,some (.nilFunc)⟩,
  ⟨.one,1,some (.nilFunc)⟩,
  ⟨.one,1,some (.nilFunc)⟩,
  ⟨.one,1,some (.nilFunc)⟩,
  ⟨.one,1,some (.nilFunc)⟩,
  ⟨.one,1,some (.nilFunc)⟩,
  ⟨.one,1,some (.nilFunc)⟩,
  ⟨.st [(0,2),(1,2),(2,246)],3,some (.agg #[.int .i64 0,.int .i64 0,.slice none 0 0])⟩,
  ⟨.st [(0,2),(1,2),(2,246)],3,some (.agg #[.int .i64 0,.int .i64 0,.slice none 0 0])⟩,
  ⟨.one,1,some (.nilFunc)⟩,
  ⟨.one,1,some (.map none)⟩,
  ⟨.one,1,some (.nilFunc)⟩,
  ⟨.one,1,some (.nilFunc)⟩,
  ⟨.one,1,some (.nilFunc)⟩,
  ⟨.one,1,some (.nilFunc)⟩,
  ⟨.one,1,some (.nilFunc)⟩,
  ⟨.one,1,some (.nilFunc)⟩,
  ⟨.one,1,some (.nilFunc)⟩,
  ⟨.one,1,some (.nilFunc)⟩,
  ⟨.one,1,some (.map none)⟩,
  ⟨.none,0,none⟩,
  ⟨.one,1,some (.nilFunc)⟩,
  ⟨.one,1,some (.nilFunc)⟩,
  ⟨.one,1,some (.nilFunc)⟩,
  ⟨.one,1,some (.nilFunc)⟩,
  ⟨.one,1,some (.nilFunc)⟩,
  ⟨.one,1,some (.nilFunc)⟩,
  ⟨.one,1,some (.nilFunc)⟩,
  ⟨.one,1,some (.nilFunc)⟩,
  ⟨.one,1,some (.nilFunc)⟩,
  ⟨.one,1,some (.map none)⟩,
  ⟨.st [(0,273),(1,284),(27,399),(28,3)],29,some (.agg #[.pointer none,.bool false,.int .i64 0,.bool false,.int .i64 0,.bool false,.int .i64 0,.bool false,.int .i64 0,.bool false,.int .i64 0,.bool false,.int .i64 0,.bool false,.int .i64 0,.bool false,.int .i64 0,.bool false,.int .i64 0,.bool false,.int .i64 0,.bool false,.int .i64 0,.bool false,.int .i64 0,.bool false,.int .i64 0,.map none,.int .i64 0])⟩,
  ⟨.st [(0,273),(1,284),(27,399),(28,3)],29,some (.agg #[.pointer none,.bool false,.int .i64 0,.bool false,.int .i64 0,.bool false,.int .i64 0,.bool false,.int .i64 0,.bool false,.int .i64 0,.bool false,.int .i64 0,.bool false,.int .i64 0,.bool false,.int .i64 0,.bool false,.int .i64 0,.bool false,.int .i64 0,.bool false,.int .i64 0,.bool false,.int .i64 0,.bool false,.int .i64 0,.map none,.int .i64 0])⟩,
  ⟨.one,1,some (.nilFunc)⟩,
  ⟨.one,1,some (.nilFunc)⟩,
  ⟨.one,1,some (.nilFunc)⟩,
  ⟨.one,1,some (.nilFunc)⟩,
  ⟨.one,1,some (.nilFunc)⟩,
  ⟨.one,1,some (.nilFunc)⟩,
  ⟨.int .u64,1,some (.int .u64 0)⟩,
  ⟨.one,1,some (.nilFunc)⟩,
  ⟨.one,1,some (.nilFunc)⟩,
  ⟨.one,1,some (.nilFunc)⟩,
  ⟨.one,1,some (.pointer none)⟩,
  ⟨.one,1,some (.nilFunc)⟩,
  ⟨.st [(0,246),(1,2)],2,some (.agg #[.slice none 0 0,.int .i64 0])⟩,
  ⟨.st [(0,246),(1,2)],2,some (.agg #[.slice none 0 0,.int .i64 0])⟩,
  ⟨.one,1,some (.nilFunc)⟩,
  ⟨.none,0,none⟩,
  ⟨.one,1,some (.nilFunc)⟩,
  ⟨.one,1,some (.nilFunc)⟩,
  ⟨.none,0,none⟩,
  ⟨.one,1,some (.nilFunc)⟩,
  ⟨.none,0,none⟩,
  ⟨.one,1,some (.nilFunc)⟩,
  ⟨.one,1,some (.nilFunc)⟩,
  ⟨.one,1,some (.nilFunc)⟩,
  ⟨.st [(0,2),(1,2),(2,153)],3,some (.agg #[.int .i64 0,.int .i64 0,.slice none 0 0])⟩,
  ⟨.st [(0,2),(1,2),(2,153)],3,some (.agg #[.int .i64 0,.int .i64 0,.slice none 0 0])⟩,
  ⟨.one,1,some (.nilFunc)⟩,
  ⟨.one,1,some (.nilFunc)⟩,
  ⟨.one,1,some (.nilFunc)⟩,
  ⟨.st [(0,39),(2,39)],4,some (.agg #[.int .i64 0,.int .i64 0,.int .i64 0,.int .i64 0])⟩,
  ⟨.none,0,none⟩,
  ⟨.one,1,some (.nilFunc)⟩,
  ⟨.none,0,none⟩,
  ⟨.one,1,some (.nilFunc)⟩,
  ⟨.one,1,some (.nilFunc)⟩,
  ⟨.one,1,some (.nilFunc)⟩,
  ⟨.st [(0,3),(1,157)],2,some (.agg #[.int .i64 0,.slice none 0 0])⟩,
  ⟨.st [(0,3),(1,157)],2,some (.agg #[.int .i64 0,.slice none 0 0])⟩,
  ⟨.one,1,some (.nilFunc)⟩,
  ⟨.one,1,some (.nilFunc)⟩,
  ⟨.one,1,some (.nilFunc)⟩,
  ⟨.st [(0,91),(1,2)],2,some (.agg #[.slice none 0 0,.int .i64 0])⟩,
  ⟨.st [(0,91),(1,2)],2,some (.agg #[.slice none 0 0,.int .i64 0])⟩,
  ⟨.none,0,none⟩,
  ⟨.one,1,some (.nilFunc)⟩,
  ⟨.one,1,some (.nilFunc)⟩,
  ⟨.one,1,some (.nilFunc)⟩,
  ⟨.one,1,some (.nilFunc)⟩,
  ⟨.one,1,some (.nilFunc)⟩,
  ⟨.one,1,some (.nilFunc)⟩,
  ⟨.st [(0,326)],2,some (.agg #[.slice none 0 0,.slice none 0 0])⟩,
  ⟨.st [(0,326)],2,some (.agg #[.slice none 0 0,.slice none 0 0])⟩,
  ⟨.one,1,some (.nilFunc)⟩,
  ⟨.ar 2 30 2,4,some (.agg #[.int .i64 0,.int .i64 0,.int .i64 0,.int .i64 0])⟩,
  ⟨.st [(0,322)],16,some (.agg #[.int .i64 0,.int .i64 0,.int .i64 0,.int .i64 0,.int .i64 0,.int .i64 0,.int .i64 0,.int .i64 0,.int .i64 0,.int .i64 0,.int .i64 0,.int .i64 0,.int .i64 0,.int .i64 0,.int .i64 0,.int .i64 0])⟩,
  ⟨.st [(0,322)],16,some (.agg #[.int .i64 0,.int .i64 0,.int .i64 0,.int .i64 0,.int .i64 0,.int .i64 0,.int .i64 0,.int .i64 0,.int .i64 0,.int .i64 0,.int .i64 0,.int .i64 0,.int .i64 0,.int .i64 0,.int .i64 0,.int .i64 0])⟩,
  ⟨.one,1,some (.nilFunc)⟩,
  ⟨.one,1,some (.nilFunc)⟩,
  ⟨.one,1,some (.nilFunc)⟩,
  ⟨.one,1,some (.nilFunc)⟩,
  ⟨.one,1,some (.nilFunc)⟩,
  ⟨.st [(0,30),(2,2),(3,2)],4,some (.agg #[.int .i64 0,.int .i64 0,.int .i64 0,.int .i64 0])⟩,
  ⟨.st [(0,30),(2,2),(3,2)],4,some (.agg #[.int .i64 0,.int .i64 0,.int .i64 0,.int .i64 0])⟩,
  ⟨.one,1,some (.nilFunc)⟩,
  ⟨.one,1,some (.nilFunc)⟩,
  ⟨.none,0,none⟩,
  ⟨.one,1,some (.nilFunc)⟩,
  ⟨.st [(0,3),(1,332),(7,2)],8,some (.agg #[.int .i64 0,.int .i64 0,.int .i64 0,.int .i64 0,.int .i64 0,.int .i64 0,.int .i64 0,.int .i64 0])⟩,
  ⟨.st [(0,3),(1,332),(7,2)],8,some (.agg #[.int .i64 0,.int .i64 0,.int .i64 0,.int .i64 0,.int .i64 0,.int .i64 0,.int .i64 0,.int .i64 0])⟩,
  ⟨.one,1,some (.nilFunc)⟩,
  ⟨.one,1,some (.nilFunc)⟩,
  ⟨.one,1,some (.nilFunc)⟩,
  ⟨.one,1,some (.nilFunc)⟩,
  ⟨.one,1,some (.nilFunc)⟩,
  ⟨.one,1,some (.nilFunc)⟩,
  ⟨.one,1,some (.nilFunc)⟩,
  ⟨.one,1,some (.pointer none)⟩,
  ⟨.one,1,some (.nilFunc)⟩,
  ⟨.one,1,some (.nilFunc)⟩,
  ⟨.one,1,some (.nilFunc)⟩,
  ⟨.one,1,some (.pointer none)⟩,
  ⟨.one,1,some (.nilFunc)⟩,
  ⟨.ar 3 320 1,3,some (.agg #[.int .u64 0,.int .u64 0,.int .u64 0])⟩,
  ⟨.ar 3 320 1,3,some (.agg #[.int .u64 0,.int .u64 0,.int .u64 0])⟩,
  ⟨.sl 592 3 40,1,some (.slice none 0 0)⟩,
  ⟨.st [(0,485),(3,3),(4,110),(5,486)],6,some (.agg #[.int .u64 0,.int .u64 0,.int .u64 0,.int .i64 0,.slice none 0 0,.slice none 0 0])⟩,
  ⟨.st [(0,485),(3,3),(4,110),(5,486)],6,some (.agg #[.int .u64 0,.int .u64 0,.int .u64 0,.int .i64 0,.slice none 0 0,.slice none 0 0])⟩,
  ⟨.one,1,some (.nilFunc)⟩,
  ⟨.st [(0,318),(1,3)],2,some (.agg #[.int .u32 0,.int .i64 0])⟩,
  ⟨.st [(0,318),(1,3)],2,some (.agg #[.int .u32 0,.int .i64 0])⟩,
  ⟨.one,1,some (.nilFunc)⟩,
  ⟨.st [(0,318)],1,some (.agg #[.int .u32 0])⟩,
  ⟨.st [(0,318)],1,some (.agg #[.int .u32 0])⟩,
  ⟨.one,1,some (.nilFunc)⟩,
  ⟨.one,1,some (.nilFunc)⟩,
  ⟨.one,1,some (.map none)⟩,
  ⟨.one,1,some (.nilFunc)⟩,
  ⟨.one,1,some (.nilFunc)⟩,
  ⟨.one,1,some (.nilFunc)⟩,
  ⟨.one,1,some (.nilFunc)⟩,
  ⟨.one,1,some (.nilFunc)⟩,
  ⟨.one,1,some (.nilFunc)⟩,
  ⟨.none,0,none⟩,
  ⟨.one,1,some (.nilFunc)⟩,
  ⟨.one,1,some (.nilFunc)⟩,
  ⟨.one,1,some (.nilFunc)⟩,
  ⟨.one,1,some (.nilFunc)⟩,
  ⟨.one,1,some (.nilFunc)⟩,
  ⟨.one,1,some (.nilFunc)⟩,
  ⟨.one,1,some (.nilFunc)⟩,
  ⟨.one,1,some (.nilFunc)⟩,
  ⟨.one,1,some (.nilFunc)⟩,
  ⟨.one,1,some (.nilFunc)⟩,
  ⟨.one,1,some (.nilFunc)⟩,
  ⟨.one,1,some (.nilFunc)⟩,
  ⟨.one,1,some (.nilFunc)⟩,
  ⟨.one,1,some (.nilFunc)⟩,
  ⟨.st [(0,3),(1,3),(2,2)],3,some (.agg #[.int .i64 0,.int .i64 0,.int .i64 0])⟩,
  ⟨.st [(0,3),(1,3),(2,2)],3,some (.agg #[.int .i64 0,.int .i64 0,.int .i64 0])⟩,
  ⟨.one,1,some (.nilFunc)⟩,
  ⟨.one,1,some (.pointer none)⟩,
  ⟨.none,0,none⟩,
  ⟨.one,1,some (.nilFunc)⟩,
  ⟨.none,0,none⟩,
  ⟨.one,1,some (.nilFunc)⟩,
  ⟨.one,1,some (.nilFunc)⟩,
  ⟨.none,0,none⟩,
  ⟨.one,1,some (.pointer none)⟩,
  ⟨.one,1,some (.nilFunc)⟩,
  ⟨.one,1,some (.nilFunc)⟩,
  ⟨.ar 5 4 1,5,some (.agg #[.bool false,.bool false,.bool false,.bool false,.bool false])⟩,
  ⟨.sl 4 1 1,1,some (.slice none 0 0)⟩,
  ⟨.one,1,some (.map none)⟩,
  ⟨.sl 540 4 32,1,some (.slice none 0 0)⟩,
  ⟨.one,1,some (.nilFunc)⟩,
  ⟨.st [(0,3)],1,some (.agg #[.int .i64 0])⟩,
  ⟨.st [(0,3)],1,some (.agg #[.int .i64 0])⟩,
  ⟨.st [(0,3),(1,3),(2,3),(3,538)],4,some (.agg #[.int .i64 0,.int .i64 0,.int .i64 0,.int .i64 0])⟩,
  ⟨.st [(0,3),(1,3),(2,3),(3,538)],4,some (.agg #[.int .i64 0,.int .i64 0,.int .i64 0,.int .i64 0])⟩,
  ⟨.one,1,some (.nilFunc)⟩,
  ⟨.one,1,some (.nilFunc)⟩,
  ⟨.sl 631 75 600,1,some (.slice none 0 0)⟩,
  ⟨.st [(0,415),(2,2),(3,2),(4,543)],5,some (.agg #[.slice none 0 0,.int .i64 0,.int .i64 0,.int .i64 0,.slice none 0 0])⟩,
  ⟨.st [(0,415),(2,2),(3,2),(4,543)],5,some (.agg #[.slice none 0 0,.int .i64 0,.int .i64 0,.int .i64 0,.slice none 0 0])⟩,
  ⟨.one,1,some (.nilFunc)⟩,
  ⟨.one,1,some (.nilFunc)⟩,
  ⟨.one,1,some (.pointer none)⟩,
  ⟨.none,0,none⟩,
  ⟨.one,1,some (.nilFunc)⟩,
  ⟨.one,1,some (.nilFunc)⟩,
  ⟨.none,0,none⟩,
  ⟨.one,1,some (.nilFunc)⟩,
  ⟨.none,0,none⟩,
  ⟨.one,1,some (.nilFunc)⟩,
  ⟨.one,1,some (.nilFunc)⟩,
  ⟨.one,1,some (.nilFunc)⟩,
  ⟨.ar 5 2 1,5,some (.agg #[.int .i64 0,.int .i64 0,.int .i64 0,.int .i64 0,.int .i64 0])⟩,
  ⟨.one,1,some (.nilFunc)⟩,
  ⟨.one,1,some (.pointer none)⟩,
  ⟨.none,0,none⟩,
  ⟨.one,1,some (.nilFunc)⟩,
  ⟨.one,1,some (.map none)⟩,
  ⟨.st [(0,3),(1,563)],2,some (.agg #[.int .i64 0,.map none])⟩,
  ⟨.st [(0,3),(1,563)],2,some (.agg #[.int .i64 0,.map none])⟩,
  ⟨.one,1,some (.nilFunc)⟩,
  ⟨.st [(0,558),(5,2)],6,some (.agg #[.int .i64 0,.int .i64 0,.int .i64 0,.int .i64 0,.int .i64 0,.int .i64 0])⟩,
  ⟨.st [(0,558),(5,2)],6,some (.agg #[.int .i64 0,.int .i64 0,.int .i64 0,.int .i64 0,.int .i64 0,.int .i64 0])⟩,
  ⟨.st [(0,568),(6,353),(14,2)],15,some (.agg #[.int .i64 0,.int .i64 0,.int .i64 0,.int .i64 0,.int .i64 0,.int .i64 0,.int .i64 0,.int .i64 0,.int .i64 0,.int .i64 0,.int .i64 0,.int .i64 0,.int .i64 0,.int .i64 0,.int .i64 0])⟩,
  ⟨.st [(0,568),(6,353),(14,2)],15,some (.agg #[.int .i64 0,.int .i64 0,.int .i64 0,.int .i64 0,.int .i64 0,.int .i64 0,.int .i64 0,.int .i64 0,.int .i64 0,.int .i64 0,.int .i64 0,.int .i64 0,.int .i64 0,.int .i64 0,.int .i64 0])⟩,
  ⟨.one,1,some (.nilFunc)⟩,
  ⟨.one,1,some (.nilFunc)⟩,
  ⟨.one,1,some (.nilFunc)⟩,
  ⟨.one,1,some (.nilFunc)⟩,
  ⟨.one,1,some (.nilFunc)⟩,
  ⟨.one,1,some (.nilFunc)⟩,
  ⟨.one,1,some (.nilFunc)⟩,
  ⟨.one,1,some (.nilFunc)⟩,
  ⟨.one,1,some (.nilFunc)⟩,
  ⟨.one,1,some (.nilFunc)⟩,
  ⟨.sl 464 4 32,1,some (.slice none 0 0)⟩,
  ⟨.one,1,some (.nilFunc)⟩,
  ⟨.one,1,some (.nilFunc)⟩,
  ⟨.one,1,some (.nilFunc)⟩,
  ⟨.one,1,some (.nilFunc)⟩,
  ⟨.ar 2 332 6,12,some (.agg #[.int .i64 0,.int .i64 0,.int .i64 0,.int .i64 0,.int .i64 0,.int .i64 0,.int .i64 0,.int .i64 0,.int .i64 0,.int .i64 0,.int .i64 0,.int .i64 0])⟩,
  ⟨.st [(0,110),(1,110)],2,some (.agg #[.slice none 0 0,.slice none 0 0])⟩,
  ⟨.st [(0,110),(1,110)],2,some (.agg #[.slice none 0 0,.slice none 0 0])⟩,
  ⟨.one,1,some (.nilFunc)⟩,
  ⟨.one,1,some (.nilFunc)⟩,
  ⟨.st [(0,342),(2,3)],3,some (.agg #[.slice none 0 0,.int .i64 0,.int .i64 0])⟩,
  ⟨.st [(0,342),(2,3)],3,some (.agg #[.slice none 0 0,.int .i64 0,.int .i64 0])⟩,
  ⟨.one,1,some (.nilFunc)⟩,
  ⟨.one,1,some (.nilFunc)⟩,
  ⟨.ar 8 3 1,8,some (.agg #[.int .i64 0,.int .i64 0,.int .i64 0,.int .i64 0,.int .i64 0,.int .i64 0,.int .i64 0,.int .i64 0])⟩,
  ⟨.one,1,some (.nilFunc)⟩,
  ⟨.one,1,some (.nilFunc)⟩,
  ⟨.one,1,some (.nilFunc)⟩,
  ⟨.one,1,some (.nilFunc)⟩,
  ⟨.one,1,some (.nilFunc)⟩,
  ⟨.none,0,none⟩,
  ⟨.one,1,some (.nilFunc)⟩,
  ⟨.one,1,some (.nilFunc)⟩,
  ⟨.one,1,some (.nilFunc)⟩,
  ⟨.none,0,none⟩,
  ⟨.one,1,some (.nilFunc)⟩,
  ⟨.one,1,some (.nilFunc)⟩,
  ⟨.one,1,some (.nilFunc)⟩,
  ⟨.one,1,some (.nilFunc)⟩,
  ⟨.one,1,some (.nilFunc)⟩,
  ⟨.st [(0,427),(3,3)],4,some (.agg #[.int .i64 0,.int .i64 0,.slice none 0 0,.int .i64 0])⟩,
  ⟨.st [(0,427),(3,3)],4,some (.agg #[.int .i64 0,.int .i64 0,.slice none 0 0,.int .i64 0])⟩,
  ⟨.one,1,some (.nilFunc)⟩,
  ⟨.one,1,some (.nilFunc)⟩,
  ⟨.one,1,some (.nilFunc)⟩,
  ⟨.st [(0,3),(1,3),(2,2),(3,2),(4,4)],5,some (.agg #[.int .i64 0,.int .i64 0,.int .i64 0,.int .i64 0,.bool false])⟩,
  ⟨.st [(0,3),(1,3),(2,2),(3,2),(4,4)],5,some (.agg #[.int .i64 0,.int .i64 0,.int .i64 0,.int .i64 0,.bool false])⟩,
  ⟨.none,0,none⟩,
  ⟨.one,1,some (.nilFunc)⟩,
  ⟨.one,1,some (.nilFunc)⟩,
  ⟨.one,1,some (.nilFunc)⟩,
  ⟨.one,1,some (.nilFunc)⟩,
  ⟨.one,1,some (.nilFunc)⟩,
  ⟨.one,1,some (.nilFunc)⟩,
  ⟨.none,0,none⟩,
  ⟨.one,1,some (.nilFunc)⟩,
  ⟨.one,1,some (.nilFunc)⟩,
  ⟨.sl 485 3 24,1,some (.slice none 0 0)⟩,
  ⟨.ar 5 71 3,15,some (.agg #[.int .i64 0,.int .i64 0,.int .i64 0,.int .i64 0,.int .i64 0,.int .i64 0,.int .i64 0,.int .i64 0,.int .i64 0,.int .i64 0,.int .i64 0,.int .i64 0,.int .i64 0,.int .i64 0,.int .i64 0])⟩,
  ⟨.ar 5 629 15,75,some (.agg #[.int .i64 0,.int .i64 0,.int .i64 0,.int .i64 0,.int .i64 0,.int .i64 0,.int .i64 0,.int .i64 0,.int .i64 0,.int .i64 0,.int .i64 0,.int .i64 0,.int .i64 0,.int .i64 0,.int .i64 0,.int .i64 0,.int .i64 0,.int .i64 0,.int .i64 0,.int .i64 0,.int .i64 0,.int .i64 0,.int .i64 0,.int .i64 0,.int .i64 0,.int .i64 0,.int .i64 0,.int .i64 0,.int .i64 0,.int .i64 0,.int .i64 0,.int .i64 0,.int .i64 0,.int .i64 0,.int .i64 0,.int .i64 0,.int .i64 0,.int .i64 0,.int .i64 0,.int .i64 0,.int .i64 0,.int .i64 0,.int .i64 0,.int .i64 0,.int .i64 0,.int .i64 0,.int .i64 0,.int .i64 0,.int .i64 0,.int .i64 0,.int .i64 0,.int .i64 0,.int .i64 0,.int .i64 0,.int .i64 0,.int .i64 0,.int .i64 0,.int .i64 0,.int .i64 0,.int .i64 0,.int .i64 0,.int .i64 0,.int .i64 0,.int .i64 0,.int .i64 0,.int .i64 0,.int .i64 0,.int .i64 0,.int .i64 0,.int .i64 0,.int .i64 0,.int .i64 0,.int .i64 0,.int .i64 0,.int .i64 0])⟩,
  ⟨.ar 5 629 15,75,some (.agg #[.int .i64 0,.int .i64 0,.int .i64 0,.int .i64 0,.int .i64 0,.int .i64 0,.int .i64 0,.int .i64 0,.int .i64 0,.int .i64 0,.int .i64 0,.int .i64 0,.int .i64 0,.int .i64 0,.int .i64 0,.int .i64 0,.int .i64 0,.int .i64 0,.int .i64 0,.int .i64 0,.int .i64 0,.int .i64 0,.int .i64 0,.int .i64 0,.int .i64 0,.int .i64 0,.int .i64 0,.int .i64 0,.int .i64 0,.int .i64 0,.int .i64 0,.int .i64 0,.int .i64 0,.int .i64 0,.int .i64 0,.int .i64 0,.int .i64 0,.int .i64 0,.int .i64 0,.int .i64 0,.int .i64 0,.int .i64 0,.int .i64 0,.int .i64 0,.int .i64 0,.int .i64 0,.int .i64 0,.int .i64 0,.int .i64 0,.int .i64 0,.int .i64 0,.int .i64 0,.int .i64 0,.int .i64 0,.int .i64 0,.int .i64 0,.int .i64 0,.int .i64 0,.int .i64 0,.int .i64 0,.int .i64 0,.int .i64 0,.int .i64 0,.int .i64 0,.int .i64 0,.int .i64 0,.int .i64 0,.int .i64 0,.int .i64 0,.int .i64 0,.int .i64 0,.int .i64 0,.int .i64 0,.int .i64 0,.int .i64 0])⟩,
  ⟨.one,1,some (.nilFunc)⟩,
  ⟨.ar 2 2 1,2,some (.agg #[.int .i64 0,.int .i64 0])⟩,
  ⟨.one,1,some (.nilFunc)⟩,
  ⟨.one,1,some (.nilFunc)⟩,
  ⟨.st [(0,17),(1,17),(2,17),(3,9)],4,none⟩,
  ⟨.st [(0,17),(1,17),(2,17),(3,9)],4,none⟩,
  ⟨.none,0,none⟩,
  ⟨.none,0,none⟩,
  ⟨.none,0,none⟩,
  ⟨.int .u8,1,some (.int .u8 0)⟩,
  ⟨.int .u8,1,some (.int .u8 0)⟩,
  ⟨.one,1,some (.nilFunc)⟩,
  ⟨.one,1,some (.pointer none)⟩,
  ⟨.int .i32,1,some (.int .i32 0)⟩,
  ⟨.int .i32,1,some (.int .i32 0)⟩,
  ⟨.st [(0,12),(1,12),(2,318),(3,641),(4,5),(5,5),(6,642),(7,643),(8,644),(9,645),(10,646)],11,some (.agg #[.int .u64 0,.int .u64 0,.int .u32 0,.int .u8 0,.int .u8 0,.int .u8 0,.int .u8 0,.nilFunc,.pointer none,.int .i32 0,.int .i32 0])⟩,
  ⟨.st [(0,12),(1,12),(2,318),(3,641),(4,5),(5,5),(6,642),(7,643),(8,644),(9,645),(10,646)],11,some (.agg #[.int .u64 0,.int .u64 0,.int .u32 0,.int .u8 0,.int .u8 0,.int .u8 0,.int .u8 0,.nilFunc,.pointer none,.int .i32 0,.int .i32 0])⟩,
  ⟨.none,0,none⟩]
theorem ty_ok:(tyList.zipIdx.all fun (ti,T)=>tiChk Tryz.prog T ti)=true:=by kernel_rfl
def tyTab:TTab Tryz.prog:=⟨tyList,ty_ok⟩
theorem mixed:Tryz.prog.follows .mixedOrders=true:=by kernel_rfl
end Go.Proofs.YthoeeeehfkenkaaGreat
namespace Go.TH
open Go
section
variable {P:Program} {C:Cx P} {E:Env} {H:List HP}
section rules
variable {ops:Array Oper} {K:KP} {rest:List Oper} {d:Nat} {ty:TypeId} {pos:String} {af:Array Edge} {x y z:Operand} {T T':TypeId}
end rules
end
end Go.TH
namespace Go.TH
open Go
section
variable {P:Program} {C:Cx P} {E:Env} {H:List HP}
theorem W.rangeFunc2 {g:Operand} {p q:Tmp} {assign body:Code} {Q:Post} {f:FuncId} {captured:List Value} (Hit:List HP) (HI:Nat→List HP) (xs:List (Value × Value)) (hro:C.ro=none) (hN:Nat.blt p C.N=true) (hN2:Nat.blt q C.N=true)
 (hg:ev E g=some (.func (.func f) #[] captured.toArray)) (hcall:∀ (args:Array Value) (w:World),(callFunc f args).run P w=.ok (.enter f args) w)
 (hH:Sub H (Hit++HI 0))
 (hiter:∀ (l:Nat) (Hc:Nat→List HP),(∀ k x,xs[k]?=some x→YieldOK P C.B C.w0 l #[x.1,x.2] (Hc k) (Hc (k+1))) →
   ∀ w M',C.B≤w.heap.size→(∀ k,k<C.B→w.heap[k]?=C.w0.heap[k]?)→(∀ b∈M',C.B≤b)→Inv w M' (Hit++Hc 0) w→Ct P f (#[.func (.yield l) #[] #[]]++captured.toArray) w fun _ w'=>Inv w M' (Hit++Hc xs.length) w')
 (hround:∀ (l:Nat) (w:World) (M:List Nat) (hB:C.B≤w.heap.size) (hM:∀ b∈M,C.B≤b),(∀ k,k<C.B→w.heap[k]?=C.w0.heap[k]?)→∀ k x,xs[k]?=some x →
   W (rdCx C l w M hB hM) assign (thn (fun E2 H2=>W (rdCx C l w M hB hM) body (thn (fun _ H3=>Sub H3 (HI (k+1))) (fun _ _ _=>False)) E2 H2) (fun _ _ _=>False)) ((q,x.2)::(p,x.1)::E) (HI k))
 (h:Q .normal E (Hit++HI xs.length)):W C (.rangeFunc g #[p,q] assign body) Q E H:=by
 intro L ds a w hs
 have hF:C.F=Fence.wide:=by unfold Cx.F;rw [hro];rfl
 rw [hF]
 refine wpIn_rangeFunc ?_
 intro fn hfn
 obtain ⟨rec,hrec⟩:∃ rec:LoopState→Option Code→Loop,rec=fun st pe=>{ state:=st,pending:=pe,fn,tmps:=a.tmps,params:=#[p,q],assign,body,defers:=w.heap.size }:=⟨_,rfl⟩
 obtain ⟨W1,hW1⟩:∃ W1,(w.alloc (.deferred (some []))).alloc (.loop (rec .ready none))=W1:=⟨_,rfl⟩
 let D:=w.heap.size
 let l:=w.heap.size+1
 have hinv1:Inv C.w0 C.M ((((D::ds).map ptd)++L)++((Hit++(pt l (.loop (rec .ready none))::HI 0)))) W1:=by
  have i1:=hs.inv.sub (Sub.app hH _)
  have i2:=i1.alloc (.deferred (some []))
  have i3:=i2.alloc (.loop (rec .ready none))
  rw [hW1] at i3
  have e:(w.alloc (.deferred (some []))).heap.size=l:=by simp [l]
  rw [e] at i3
  refine i3.perm ?_
  have q1:(pt l (.loop (rec .ready none))::ptd D::((ds.map ptd++L)++(Hit++HI 0))).Perm (pt l (.loop (rec .ready none))::((((D::ds).map ptd)++L++Hit)++HI 0)):=by
   simp [List.append_assoc]
  refine q1.trans ?_
  have q2:=(List.perm_middle (a:=pt l (.loop (rec .ready none))) (l₁:=((D::ds).map ptd)++L++Hit) (l₂:=HI 0)).symm
  simpa [List.append_assoc] using q2
 refine ⟨l,[{ target:=.collected D,args:=#[] }],W1,{ target:=.fn (.func f) captured.toArray,args:=#[.func (.yield l) #[] #[]] },W1,f,#[.func (.yield l) #[] #[]]++captured.toArray,W1,?_,?_,?_,?_,fun h=>by simp [Fence.wide] at h,?_⟩
 ·rw [← hW1,hrec];exact run_enterLoop_outer _ _ _ _ _
 ·simp only [resolve,hs.fr.eval hg]
  simp [go_sem,Deferred.ofValue,Act.eval]
 ·intro f' hf';trivial
 ·simp [invoke,hcall]
 ·
  let Hc:Nat→List HP:=fun k=>pt l (.loop (rec .ready none))::HI k
  have hi2:Inv C.w0 C.M ((Hit++Hc 0)++(((D::ds).map ptd)++L)) W1:=hinv1.perm List.perm_append_comm
  obtain ⟨M',h1,h2,s,pa,pb,hM⟩:=handed hi2
  have hMB:∀ b∈M',C.B≤b:=fun b hb=>by
   rcases (handed_own s hM b hb).1 with h | h
   ·exact Nat.le_trans C.hB h
   ·exact C.hM b h
  have hy:∀ k x,xs[k]?=some x→YieldOK P C.B C.w0 l #[x.1,x.2] (Hc k) (Hc (k+1)):=by
   intro k x hx wy My hyB hyk hyM hyi
   have hl:wy.heap[l]?=some (.loop (rec .ready none)):=(hyi.look .head).1
   have hy:=run_yield (P:=P) (args:=#[x.1,x.2]) hl (by rw [hrec];rfl)
   refine ⟨_,_,_,_,hy,roundIn_of_wpIn trivial ?_⟩
   have hrd:=hround l wy My hyB hyM hyk k x hx
   have hst:St (rdCx C l wy My hyB hyM) [pt l (.loop (rec .ready none))] [] ((q,x.2)::(p,x.1)::E) (HI k) { tmps:=(#[p,q].zip #[x.1,x.2]).foldl (fun tmps (t,a)=>tmps.setIfInBounds t a) a.tmps,defers:=[] } wy:=by
    refine ⟨rfl,?_,hyi⟩
    have:=(hs.fr.put (v:=x.1) hN).put (v:=x.2) hN2
    exact ⟨by have:=this.size;simpa [Act.put,rdCx] using this,fun t u hu=>by have:=this.get t u hu;simpa [Act.put] using this⟩
   have hw:=hrd _ _ _ _ hst
   have hFr:(rdCx C l wy My hyB hyM).F=Fence.wide.inRound l:=rfl
   rw [hFr] at hw
   rw [hrec]
   rw [hrec] at hw hl
   refine wpIn_mono hw ?_
   rintro e a2 w2 ⟨ds2,E2,H2,q2,st2⟩
   cases e <;> first | exact q2.elim | skip
   have i2:Inv wy My (ds2.map ptd++pt l (.loop (rec .ready none))::H2) w2:=by have:=st2.inv;rw [hrec];simpa [List.append_assoc,rdCx] using this
   have hl2:=(i2.look (b:=l) (o:=.loop (rec .ready none)) ((Pick.head).app (ds2.map ptd))).1
   have i3:=putObj_inv (o':=.loop (rec .busy none)) i2
   have hb2:=run_beginRound (P:=P) hl2 (by rw [hrec])
   have e3:({ rec .ready none with state:=.busy }:Loop)=rec .busy none:=by rw [hrec]
   rw [e3] at hb2
   refine ⟨_,hb2,?_⟩
   have hw3:=q2 [pt l (.loop (rec .busy none))] ds2 a2 _ ⟨st2.defers,st2.fr,by simpa [List.append_assoc,rdCx] using i3⟩
   rw [hFr] at hw3
   refine wpIn_mono hw3 ?_
   rintro e4 a4 w4 ⟨ds4,E4,H4,q4,st4⟩
   cases e4 <;> first | exact q4.elim | skip
   have i4:Inv wy My (ds4.map ptd++pt l (.loop (rec .busy none))::H4) w4:=by simpa [List.append_assoc,rdCx] using st4.inv
   have hl4:=(i4.look (b:=l) (o:=.loop (rec .busy none)) ((Pick.head).app (ds4.map ptd))).1
   have i5:=putObj_inv (o':=.loop (rec .ready none)) i4
   have hb4:=run_endRound (P:=P) none hl4
   have e5:({ rec .busy none with state:=if (none:Option Code).isNone then .ready else .done,pending:=none }:Loop)=rec .ready none:=by rw [hrec];rfl
   rw [e5] at hb4
   refine ⟨_,_,hb4,rfl,?_⟩
   have q4':Sub H4 (HI (k+1)):=q4
   refine i5.sub ?_
   have s1:Sub (ds4.map ptd++pt l (.loop (rec .ready none))::H4) (pt l (.loop (rec .ready none))::H4):=by
    induction ds4.map ptd with
    | nil=>exact Sub.refl _
    | cons A r ih=>exact Sub.tail ih
   exact s1.trans (.cons .head q4')
  have hct:=hiter l Hc hy W1 M' (Nat.le_trans C.hB (by have:=hinv1.size;exact this)) hinv1.keepB hMB (handed_start s pa hM)
  refine CallsIn.mono hct ?_
  rintro e w' ⟨v,rfl,hi'⟩
  have hb:=handed_back (hi2.sub .nil) s pb hM hi'
  have hb2:Inv C.w0 C.M ((((D::ds).map ptd)++L++Hit)++pt l (.loop (rec .ready none))::HI xs.length) w':=by
   refine hb.perm ?_
   have:=List.perm_append_comm (l₁:=Hit++Hc xs.length) (l₂:=((D::ds).map ptd)++L)
   simpa [Hc,List.append_assoc] using this
  have hl:=(hb2.look (b:=l) (o:=.loop (rec .ready none)) ((Pick.head).app _)).1
  refine ⟨none,w'.putObj l (.loop { rec .ready none with state:=.exhausted }),?_,?_⟩
  ·have:=run_endLoop (P:=P) hl (by rw [hrec];simp)
   have e6:(rec .ready none).pending=none:=by rw [hrec]
   rw [this];exact congrArg (fun q=>Result.ok q _) e6
  ·have h6:=putObj_inv (o':=.loop { rec .ready none with state:=.exhausted }) hb2
   have h7:=h6.dropL
   refine ⟨D::ds,E,Hit++HI xs.length,h,⟨?_,⟨hs.fr.size,hs.fr.get⟩,by simpa [List.append_assoc] using h7⟩⟩
   show [_]++a.defers=_
   rw [hs.defers];rfl
section rules
variable {ops:Array Oper} {K:KP} {rest:List Oper} {d:Nat} {ty:TypeId} {pos:String} {af:Array Edge} {x y z:Operand} {T T':TypeId}
theorem WO.makeMap (hN:Nat.blt d C.N=true)
 (h:∀ b,WO C ops rest K ((d,.map (some b))::E) (pt b (.map #[] 0)::H)):WO C ops (⟨some d,.makeMap T none,ty,pos,af,none⟩::rest) K E H:=by
 refine WO.step rfl rfl hN (XO.run (by simp) fun L a w hfr hi=>?_)
 refine ⟨.map (some w.heap.size),w.alloc (.map #[] 0),_,.inl ?_,h _,hi.alloc' _⟩
 have hr:(Instr.makeMap T none).run P w=.ok (.map (some w.heap.size)) (w.alloc (.map #[] 0)):=rfl
 simp [execOp,hr]
theorem getMap_run {b clk:Nat} {es:Array MapEntry} {w:World} (h:w.heap[b]?=some (.map es clk)):(getObj b).run P w=.ok (.map es clk) w:=by
 simp [getObj,Sem.run,h,Result.andThen]
theorem checkKey_int {kt:TypeId} {q:IntKind} {e:Bool} {k:Value} {w:World} (hk:P.underlying kt=some (.int q)):(Instr.checkKey e 10000 kt k).run P w=.ok () w:=by
 unfold Instr.checkKey
 simp [run_underlying hk]
theorem WO.insertI {b:Nat} {es:Array MapEntry} {clk:Nat} {kt et:TypeId} {q:IntKind} {k u:Value} {H':List HP} (hT:P.underlying T=some (.map kt et)) (hkt:P.underlying kt=some (.int q))
 (hm:ev E x=some (.map (some b))) (hk:ev E y=some k) (hu:ev E z=some u) (p:Pick (pt b (.map es clk)) H H') (hf:Instr.findNow (.int q) k es.toList 0=some none)
 (h:WO C ops rest K E (pt b (.map (es.push { key:=k,val:=u,born:=clk }) (clk+1))::H')):WO C ops (⟨none,.insert T x y z,ty,pos,af,none⟩::rest) K E H:=by
 refine WO.step0 rfl rfl (XO.run (by simp) fun L a w hfr hi=>?_)
 have hl:=(hi.look (p.app L)).1
 have hlt:b<w.heap.size:=(Array.getElem?_eq_some_iff.1 hl).1
 refine ⟨undef,{ w with heap:=w.heap.setIfInBounds b (.map (es.push { key:=k,val:=u,born:=clk }) (clk+1)) },_,.inr ⟨?_,rfl⟩,h,?_⟩
 ·have hr:(Instr.mapUpdate T (.map (some b)) k u).run P w=.ok () { w with heap:=w.heap.setIfInBounds b (.map (es.push { key:=k,val:=u,born:=clk }) (clk+1)) }:=by
   simp [Instr.mapUpdate,run_underlying hT,getMap_run hl,checkKey_int hkt,MapKept.run_findKey hkt hf]
   simp [setObj,Sem.run,hl,Result.andThen]
  simp [execOp,hfr.eval hm,hfr.eval hk,hfr.eval hu,hr]
 ·have hs:=hi.set (o':=.map (es.push { key:=k,val:=u,born:=clk }) (clk+1)) (p.app L) (w':={ w with heap:=w.heap.setIfInBounds b (.map (es.push { key:=k,val:=u,born:=clk }) (clk+1)) }) rfl rfl rfl (by simp) (by simp [hlt]) (fun k hk=>by simp [Array.getElem?_setIfInBounds_ne (Ne.symm hk)])
  exact hs.perm (List.perm_middle (l₁:=L) (l₂:=H')).symm
theorem WO.lookupI {b i:Nat} {es:Array MapEntry} {clk:Nat} {kt et:TypeId} {q:IntKind} {k u:Value} {H':List HP} (hT:P.underlying T=some (.map kt et)) (hkt:P.underlying kt=some (.int q))
 (hm:ev E x=some (.map (some b))) (hk:ev E y=some k) (p:Pick (pt b (.map es clk)) H H') (hf:Instr.findNow (.int q) k es.toList 0=some (some (i,u))) (hN:Nat.blt d C.N=true)
 (h:WO C ops rest K ((d,u)::E) H):WO C ops (⟨some d,.lookup T x y false,ty,pos,af,none⟩::rest) K E H:=by
 refine WO.pure u (by simp) (fun L a w hfr hi=>?_) hN h
 have hl:=(hi.look (p.app L)).1
 simp [execOp,hfr.eval hm,hfr.eval hk,Instr.lookup,run_underlying hT,getMap_run hl,checkKey_int hkt,MapKept.run_findKey hkt hf]
theorem WO.indexArrE {len e sz b off o':Nat} {k:IntKind} {i:Nat} {zi:Int} (hT:C.tt.ar? T=some (len,e,sz)) (hx:ev E x=some (.pointer (some ⟨b,off,none⟩))) (hy:ev E y=some (.int k zi)) (hz:zi=(i:Int)) (h1:i<len) (ho:off+i*sz=o') (hN:Nat.blt d C.N=true)
 (h:WO C ops rest K ((d,.pointer (some ⟨b,o',none⟩))::E) H):WO C ops (⟨some d,.indexAddr T x y,ty,pos,af,none⟩::rest) K E H:=by
 subst hz
 exact WO.indexArrL hT hx hy h1 ho hN h
theorem WO.sliceArrH {len e sz n:Nat} {k:IntKind} {p:Addr} (hT:C.tt.ar? T=some (len,e,sz)) (hx:ev E x=some (.pointer (some p))) (hy:ev E y=some (.int k (n:Int))) (hn:n≤len) (hN:Nat.blt d C.N=true)
 (h:WO C ops rest K ((d,.slice (some p) n len)::E) H):WO C ops (⟨some d,.slice T x none (some y) none,ty,pos,af,none⟩::rest) K E H :=
 WO.pure _ (by simp) (fun L a w hf hi=>by
  have hn':(n:Int)≤(len:Int):=by omega
  simp [execOp,hf.eval hx,hf.eval hy,Instr.sliceAt,Instr.sureAddr,run_underlying (ArT.of hT).u,Instr.sliceBounds,run_sliceBound,hn',run_sizeOf (ArT.of hT).size,Addr.add]) hN h
section copies
variable {ops:Array Oper} {K:KP} {rest:List Oper} {d:Nat} {ty:TypeId} {pos:String} {af:Array Edge} {x y:Operand} {T:TypeId}
end copies
end rules
theorem RdF.of_pt {α:Type} {enc:α→List Value} {b off n cap:Nat} {cs:List Value} {t:TypeId} {fr:Nat × Nat} {xs:List α} {H' L:List HP} {w:World} (he:∀ a,∃ u,enc a=[u]) (p:Pick (pt b (.cells cs.toArray t fr)) H H') (hi:Inv C.w0 C.M (L++H) w) (hn:xs.length=n) (hl:n≤9223372036854775807)
 (h:∀ (i:Nat) (x:α),xs[i]?=some x→∃ u,enc x=[u]∧lget cs (off+i)=some u):RdF enc 1 w.heap.size w (.slice (some ⟨b,off,none⟩) n cap) xs:=by
 have hlk:=(hi.look (p.app L)).1
 have hlt:b<w.heap.size:=(Array.getElem?_eq_some_iff.1 hlk).1
 refine ⟨⟨by omega,some ⟨b,off,none⟩,cap,by rw [hn],fun _=>⟨_,_,rfl⟩⟩,fun _=>hlt,fun i x hx j u hu=>?_⟩
 obtain ⟨v,hv,hc⟩:=h i x hx
 rw [hv] at hu
 match j with
 | 0 =>
  simp at hu
  subst hu
  rw [lget_eq] at hc
  have e:(((base (.slice (some ⟨b,off,none⟩) n cap)).add (i*1)).add 0)=⟨b,off+i,none⟩:=by
   rw [Nat.mul_one]
   show (Addr.add ⟨b,off,none⟩ i).add 0=_
   unfold Addr.add;split <;> simp_all
  rw [e]
  simp [World.cell?,hlk,hc]
 | j+1=>simp at hu
end
end Go.TH
namespace Go.Proofs.YthoeeeehfkenkaaGreat.Tr
open Go Go.TH
attribute [local irreducible] W WO pt
set_option maxRecDepth 10000
def gcd2 (a b:Int):Int:=(Nat.gcd a.toNat b.toNat:Nat)
theorem gcd2_zero {a:Int} (h:0≤a):gcd2 a 0=a:=by simp [gcd2];omega
theorem gcd2_step {a b:Int} (ha:0≤a) (hb:0<b):gcd2 b (a.tmod b)=gcd2 a b:=by
 unfold gcd2
 obtain ⟨n,rfl⟩:=Int.eq_ofNat_of_zero_le ha
 obtain ⟨m,rfl⟩:=Int.eq_ofNat_of_zero_le (Int.le_of_lt hb)
 rw [Int.tmod_eq_emod_of_nonneg (by omega),← Int.natCast_emod]
 simp only [Int.toNat_natCast]
 rw [Nat.gcd_comm m (n%m),← Nat.gcd_rec,Nat.gcd_comm]
theorem tmod_lt {a b:Int} (ha:0≤a) (hb:0<b):0≤a.tmod b∧a.tmod b<b:=⟨Int.tmod_nonneg b ha,Int.tmod_lt_of_pos a hb⟩
theorem gcd2_pos {a b:Int} (ha:0≤a) (hb:0<b):0<gcd2 a b:=by
 unfold gcd2
 have:0<Nat.gcd a.toNat b.toNat:=Nat.gcd_pos_of_pos_right _ (by omega)
 omega
theorem tdiv_in {a b:Int} (ha:0≤a) (hb:0<b) (h:in64 a):in64 (a.tdiv b):=by
 unfold in64 at *
 have h1:0≤a.tdiv b:=Int.tdiv_nonneg ha (by omega)
 have h2:a.tdiv b≤a:=by
  rw [Int.tdiv_eq_ediv_of_nonneg ha]
  exact Int.ediv_le_self _ ha
 omega
theorem gcd2_0 {a:Int} (h:0≤a):gcd2 0 a=a:=by unfold gcd2;rw [show (0:Int).toNat=0 from rfl,Nat.gcd_zero_left];omega
theorem gcd2_nn (a b:Int):0≤gcd2 a b:=by unfold gcd2;omega
def ab (n:Int):Int:=max n (-n)
theorem ab_nn (n:Int):0≤ab n:=by unfold ab;omega
def red (n d:Int):Int × Int:=(n.tdiv (gcd2 (ab n) d),d.tdiv (gcd2 (ab n) d))
def gcdL (l:List Int):Int:=l.foldl gcd2 0
theorem tdiv_ab {a b:Int} (hb:0<b):ab (a.tdiv b)≤ab a:=by
 unfold ab
 have h1:a.tdiv b≤max a (-a):=by
  rcases Int.le_total 0 a with h | h
  ·have:=Int.tdiv_le_self b h;omega
  ·have h2:a.tdiv b = -((-a).tdiv b):=by rw [Int.neg_tdiv,Int.neg_neg]
   have:=Int.tdiv_nonneg (a := -a) (b:=b) (by omega) (by omega)
   omega
 have h2 : -(a.tdiv b)≤max a (-a):=by
  rcases Int.le_total 0 a with h | h
  ·have:=Int.tdiv_nonneg (a:=a) (b:=b) h (by omega);omega
  ·have h2:a.tdiv b = -((-a).tdiv b):=by rw [Int.neg_tdiv,Int.neg_neg]
   have:=Int.tdiv_le_self (a := -a) b (by omega)
   omega
 omega
theorem c_divisor (w:World) (v:Value) (xs:List Int) (hR:RdF encI 1 w.heap.size w v xs) (hp:∀ x∈xs,0≤x) :
 Ret Tryz.prog 64 [v].toArray w (.int .i64 (gcdL xs)):=by
 refine Ret.of mixed tyTab Tryz.func64 rfl rfl ?_
 replace hR:RdF encI 1 (fnCx mixed tyTab Tryz.f64.ntmps w).B (fnCx mixed tyTab Tryz.f64.ntmps w).w0 v xs:=hR
 have hle:=hR.sl.le
 refine W.sreg (WO.p rfl rfl (WO.nil (W.sreg (WO.p rfl rfl (WO.nil (W.seq (W.sreg (WO.p rfl rfl (WO.len rfl rfl hR.sl rfl (WO.p rfl rfl (WO.nil (W.block ?_))))))))))))
 refine W.loop2 (fun (i:Nat) (d:Int)=>i≤xs.length∧0≤d∧d=(xs.take i).foldl gcd2 0)
  (fun (i:Nat) (d:Int)=>[(8,.int .i64 (i:Int)),(7,.int .i64 (xs.length:Int)),(6,v),(3,.int .i64 d)])
  (fun (i:Nat) (d:Int)=>[])
  (fun (i:Nat) (d:Int)=>xs.length-i) 0 0
  (by exact ⟨by omega,by omega,rfl⟩) ⟨rfl,rfl,rfl,rfl,trivial⟩ (by repeat (first | exact Sub.nil | refine Sub.cons (by repeat first | exact .head | apply Pick.tail) ?_)) ?_
 rintro i d ⟨hi,hd0,hd⟩
 refine W.sreg (WO.p rfl rfl (WO.nil (W.seq ?_)))
 refine W.cond_bl rfl (fun c1=>?_) (fun c1=>?_)
 ·refine W.skip (W.seq (W.block (W.sreg (WO.indexAddr rfl rfl rfl hR.sl (by omega) rfl ?_))))
  refine' WO.load (v:=_) rfl rfl ?hc rfl ?_
  case hc=>(first | (refine hR.cell0 ?_ 0 ?_ <;> first | rfl | omega))
  refine WO.p rfl rfl (WO.nil (W.block ?_))
  refine W.loop2 (fun (x:Int) (y:Int)=>0≤x∧0≤y∧gcd2 x y=gcd2 d (xs.getD i 0))
   (fun (x:Int) (y:Int)=>[(3,.int .i64 x),(5,.int .i64 y),(8,.int .i64 (i:Int)),(7,.int .i64 (xs.length:Int)),(6,v)])
   (fun (x:Int) (y:Int)=>[])
   (fun (x:Int) (y:Int)=>y.toNat) d (xs.getD i 0)
   (by exact ⟨hd0,hp _ (getD_mem (by omega) 0),rfl⟩) ⟨rfl,rfl,rfl,rfl,rfl,trivial⟩ (by repeat (first | exact Sub.nil | refine Sub.cons (by repeat first | exact .head | apply Pick.tail) ?_)) ?_
  rintro x y ⟨hx,hy,hg⟩
  refine W.seq (W.sreg (WO.p rfl rfl (WO.p rfl rfl (WO.nil ?_))))
  refine W.cond_bl rfl (fun c2=>?_) (fun c2=>?_)
  ·refine W.skip (W.block ?_)
   refine W.drawD 5 [.r 0 [],.r 1 [],.r 2 [3],.r 3 [3],.r 4 [3]] [3] (A0:=[]) (Sub.refl _) (by kernel_rfl) ?_ ?_
   ·repeat constructor
   refine DT.r rfl rfl rfl (WO.p rfl rfl (WO.nil ⟨rfl,rfl⟩)) (DT.r rfl rfl rfl (WO.p rfl rfl (WO.nil ⟨rfl,rfl⟩)) (DT.r rfl rfl rfl (WO.p rfl rfl (WO.nil ⟨rfl,rfl⟩)) (DT.r rfl rfl rfl (WO.rem rfl rfl (by omega) rfl (WO.nil ⟨rfl,rfl⟩)) (DT.r rfl rfl rfl (WO.p rfl rfl (WO.nil ⟨rfl,rfl⟩)) (DT.nil [] rfl (WO.p rfl rfl (WO.nil ?_)))))))
   refine' ⟨_,_,?hp,?hmu,⟨rfl,rfl,rfl,rfl,rfl,trivial⟩,?hS⟩
   case hS=>repeat (first | exact Sub.nil | refine Sub.cons (by repeat first | exact .head | apply Pick.tail) ?_)
   case hp=>exact ⟨hy,(tmod_lt hx (by omega)).1,by rw [gcd2_step hx (by omega)];exact hg⟩
   case hmu=>have:=tmod_lt hx (show 0<y by omega);omega
  ·refine W.exit (blk_same (W.region (WO.ar rfl rfl rfl (by unfold in64;omega) rfl (WO.p rfl rfl (WO.nil ?_)))))
   refine' ⟨i+1,_,?hp,?hmu,⟨rfl,rfl,rfl,rfl,trivial⟩,?hS⟩
   case hS=>repeat (first | exact Sub.nil | refine Sub.cons (by repeat first | exact .head | apply Pick.tail) ?_)
   case hp=>exact ⟨by omega,hx,by rw [take_succ_getD (by omega) 0,List.foldl_append,← hd];show x=gcd2 d (xs.getD i 0);rw [← hg,show y=0 by omega,gcd2_zero hx]⟩
   case hmu=>omega
 ·refine W.exit (blk_same (W.sreg (WO.p rfl rfl (WO.p rfl rfl (WO.nil (W.ret (fin.ret (Res.one rfl (RV.tmp rfl)) ?_)))))))
  obtain rfl:i=xs.length:=by omega
  rw [hd,List.take_length];rfl
theorem red_in {n d:Int} (h1:ab n≤9000000000000000000) (hd:0<d) (h2:in64 d):0<gcd2 (ab n) d∧in64 (n.tdiv (gcd2 (ab n) d))∧in64 (d.tdiv (gcd2 (ab n) d))∧in64 n∧in64 (-n)∧0≤ab n:=by
 have hg:=gcd2_pos (ab_nn n) hd
 have h3:=tdiv_ab (a:=n) hg
 have h4:=tdiv_in (a:=d) (b:=gcd2 (ab n) d) (by omega) hg h2
 have h5:=ab_nn n
 refine ⟨hg,?_,h4,?_,?_,h5⟩ <;> unfold in64 ab at*<;> omega
theorem c_fraction (w:World) (n d:Int) (h1:ab n≤9000000000000000000) (hd:0<d) (h2:in64 d) :
 Ret Tryz.prog 127 [.int .i64 n,.int .i64 d].toArray w (.agg (encP (red n d)).toArray):=by
 refine Ret.of mixed tyTab Tryz.func127 rfl rfl ?_
 obtain ⟨hg,i1,i2,i3,i4,i5⟩:=red_in h1 hd h2
 have e:gcdL [ab n,d]=gcd2 (ab n) d:=by unfold gcdL;simp only [List.foldl];rw [gcd2_0 i5]
 refine W.sreg (WO.alloc rfl rfl rfl (fun b1 hb1=>(WO.nil (W.sreg (WO.p rfl rfl (WO.p rfl rfl (WO.neg rfl (by (assumption)) rfl (WO.max2 rfl rfl rfl (WO.p rfl rfl (WO.buildSl rfl rfl rfl rfl rfl rfl rfl rfl rfl (fun v2=>(WO.callR (r:=.int .i64 (gcd2 (ab n) d)) rfl Tryz.call64 (fun L w hi=>by have h:=c_divisor w _ [ab n,d] (RdF.of_ow (e:=2) encI_ok (by repeat exact .head) hi) (by simp;omega);rw [e] at h;exact h) rfl (WO.p rfl rfl (WO.nil (W.seq ?_)))))))))))))))
 refine W.drawD 6 [.r 0 [],.r 1 [],.r 2 [],.r 3 [],.r 4 [],.r 5 []] [] (A0:=[]) (Sub.refl _) (by kernel_rfl) ?_ ?_
 ·repeat constructor
 refine DT.r rfl rfl rfl (WO.p rfl rfl (WO.nil ⟨rfl,rfl⟩)) (DT.r rfl rfl rfl (WO.p rfl rfl (WO.nil ⟨rfl,rfl⟩)) (DT.r rfl rfl rfl (WO.quo rfl rfl (by omega) (by (assumption)) rfl (WO.nil ⟨rfl,rfl⟩)) (DT.r rfl rfl rfl (WO.p rfl rfl (WO.nil ⟨rfl,rfl⟩)) (DT.r rfl rfl rfl (WO.p rfl rfl (WO.nil ⟨rfl,rfl⟩)) (DT.r rfl rfl rfl (WO.quo rfl rfl (by omega) (by (assumption)) rfl (WO.nil ⟨rfl,rfl⟩)) (DT.nil [_,_] rfl (WO.build rfl rfl rfl rfl rfl (WO.storeA rfl rfl rfl rfl (Pick.tail (Pick.head)) rfl rfl (WO.nil (W.ret ?_))))))))))
 exact fin.ret (Res.one rfl (RV.cell rfl rfl rfl (Cells.own Pick.head))) rfl
end Go.Proofs.YthoeeeehfkenkaaGreat.Tr
namespace Go.Proofs.YthoeeeehfkenkaaGreat.Tr
open Go Go.TH
attribute [local irreducible] W WO pt
set_option maxRecDepth 10000
set_option maxHeartbeats 1000000
theorem foldl_take {α β:Type} (f:β→α→β) {l:List α} {i:Nat} (h:i<l.length) (z:α) (b:β):(l.take (i+1)).foldl f b=f ((l.take i).foldl f b) (l.getD i z):=by
 rw [take_succ_getD h z,List.foldl_append];rfl
def minL:List Int→Int
 | []=>0
 | x::r=>r.foldl min x
def maxL:List Int→Int
 | []=>0
 | x::r=>r.foldl max x
theorem minL_succ {xs:List Int} {i:Nat} (h:i<xs.length) (h1:1≤i):minL (xs.take (i+1))=min (minL (xs.take i)) (xs.getD i 0):=by
 cases xs with
 | nil=>simp at h
 | cons x r =>
  obtain ⟨j,rfl⟩:∃ j,i=j+1:=⟨i-1,by omega⟩
  simp only [List.take_succ_cons,minL]
  rw [foldl_take _ (by simpa using h) 0];simp
theorem maxL_succ {xs:List Int} {i:Nat} (h:i<xs.length) (h1:1≤i):maxL (xs.take (i+1))=max (maxL (xs.take i)) (xs.getD i 0):=by
 cases xs with
 | nil=>simp at h
 | cons x r =>
  obtain ⟨j,rfl⟩:∃ j,i=j+1:=⟨i-1,by omega⟩
  simp only [List.take_succ_cons,maxL]
  rw [foldl_take _ (by simpa using h) 0];simp
theorem minL_one {xs:List Int} (h:0<xs.length):minL (xs.take 1)=xs.getD 0 0:=by
 cases xs with
 | nil=>simp at h
 | cons x r=>simp [minL]
theorem maxL_one {xs:List Int} (h:0<xs.length):maxL (xs.take 1)=xs.getD 0 0:=by
 cases xs with
 | nil=>simp at h
 | cons x r=>simp [maxL]
theorem c_Min (w:World) (o:Value) (xs:List Int) (hR:RdF encI 1 w.heap.size w o xs) (hn:0<xs.length):Ret Tryz.prog 198 [o].toArray w (.int .i64 (minL xs)):=by
 refine Ret.of mixed tyTab Tryz.func198 rfl rfl ?_
 replace hR:RdF encI 1 (fnCx mixed tyTab Tryz.f198.ntmps w).B (fnCx mixed tyTab Tryz.f198.ntmps w).w0 o xs:=hR
 have hle:=hR.sl.le
 refine W.sreg (WO.p rfl rfl (WO.nil (W.seq (W.sreg (WO.p rfl rfl (WO.len rfl rfl hR.sl rfl (WO.p rfl rfl (WO.nil ?_))))))))
 refine W.cond_bl rfl (fun c1=>?_) (fun c1=>?_)
 ·exfalso;omega
 ·refine W.skip (W.sreg (WO.p rfl rfl (WO.indexAddr (i:=0) rfl rfl rfl hR.sl (by omega) rfl ?_)))
  refine' WO.load (v:=_) rfl rfl ?hc rfl ?_
  case hc=>(first | (refine hR.cell0 ?_ 0 ?_ <;> first | rfl | omega))
  refine WO.p rfl rfl (WO.nil (W.seq (W.sreg (WO.p rfl rfl (WO.nil (W.block ?_))))))
  refine W.loop2 (fun (i:Nat) (m:Int)=>1≤i∧i≤xs.length∧m=minL (xs.take i))
   (fun (i:Nat) (m:Int)=>[(4,.int .i64 (i:Int)),(3,.int .i64 m),(0,o)])
   (fun (i:Nat) (m:Int)=>[])
   (fun (i:Nat) (m:Int)=>xs.length-i) 1 (xs.getD 0 0)
   (by exact ⟨by omega,by omega,(minL_one hn).symm⟩) ⟨rfl,rfl,rfl,trivial⟩ (by repeat (first | exact Sub.nil | refine Sub.cons (by repeat first | exact .head | apply Pick.tail) ?_)) ?_
  rintro i m ⟨h1,hi,em⟩
  refine W.seq (W.sreg (WO.p rfl rfl (WO.p rfl rfl (WO.len rfl rfl hR.sl rfl (WO.p rfl rfl (WO.nil ?_))))))
  refine W.cond_bl rfl (fun c3=>?_) (fun c3=>?_)
  ·refine W.skip (W.seq (W.block (W.region (WO.p rfl rfl (WO.p rfl rfl (WO.p rfl rfl (WO.indexAddr rfl rfl rfl hR.sl (by omega) rfl ?_)))))))
   refine' WO.load (v:=_) rfl rfl ?hc rfl ?_
   case hc=>(first | (refine hR.cell0 ?_ 0 ?_ <;> first | rfl | omega))
   refine WO.min2 rfl rfl rfl (WO.p rfl rfl (WO.nil (W.region (WO.p rfl rfl (WO.ar rfl rfl rfl (by (first | (unfold in64;omega))) rfl (WO.p rfl rfl (WO.nil ?_)))))))
   refine' ⟨i+1,_,?hp,?hmu,⟨rfl,rfl,rfl,trivial⟩,?hS⟩
   case hS=>repeat (first | exact Sub.nil | refine Sub.cons (by repeat first | exact .head | apply Pick.tail) ?_)
   case hp=>exact ⟨by omega,by omega,by rw [minL_succ (by omega) h1,em]⟩
   case hmu=>omega
  ·refine W.exit (blk_same (W.sreg (WO.p rfl rfl (WO.p rfl rfl (WO.nil (W.ret ?_))))))
   obtain rfl:i=xs.length:=by omega
   refine fin.ret (Res.one rfl (RV.tmp rfl)) ?_
   rw [em,List.take_length]
theorem c_Max (w:World) (o:Value) (xs:List Int) (hR:RdF encI 1 w.heap.size w o xs) (hn:0<xs.length):Ret Tryz.prog 199 [o].toArray w (.int .i64 (maxL xs)):=by
 refine Ret.of mixed tyTab Tryz.func199 rfl rfl ?_
 replace hR:RdF encI 1 (fnCx mixed tyTab Tryz.f199.ntmps w).B (fnCx mixed tyTab Tryz.f199.ntmps w).w0 o xs:=hR
 have hle:=hR.sl.le
 refine W.sreg (WO.p rfl rfl (WO.nil (W.seq (W.sreg (WO.p rfl rfl (WO.len rfl rfl hR.sl rfl (WO.p rfl rfl (WO.nil ?_))))))))
 refine W.cond_bl rfl (fun c1=>?_) (fun c1=>?_)
 ·exfalso;omega
 ·refine W.skip (W.sreg (WO.p rfl rfl (WO.indexAddr (i:=0) rfl rfl rfl hR.sl (by omega) rfl ?_)))
  refine' WO.load (v:=_) rfl rfl ?hc rfl ?_
  case hc=>(first | (refine hR.cell0 ?_ 0 ?_ <;> first | rfl | omega))
  refine WO.p rfl rfl (WO.nil (W.seq (W.sreg (WO.p rfl rfl (WO.nil (W.block ?_))))))
  refine W.loop2 (fun (i:Nat) (m:Int)=>1≤i∧i≤xs.length∧m=maxL (xs.take i))
   (fun (i:Nat) (m:Int)=>[(4,.int .i64 (i:Int)),(3,.int .i64 m),(0,o)])
   (fun (i:Nat) (m:Int)=>[])
   (fun (i:Nat) (m:Int)=>xs.length-i) 1 (xs.getD 0 0)
   (by exact ⟨by omega,by omega,(maxL_one hn).symm⟩) ⟨rfl,rfl,rfl,trivial⟩ (by repeat (first | exact Sub.nil | refine Sub.cons (by repeat first | exact .head | apply Pick.tail) ?_)) ?_
  rintro i m ⟨h1,hi,em⟩
  refine W.seq (W.sreg (WO.p rfl rfl (WO.p rfl rfl (WO.len rfl rfl hR.sl rfl (WO.p rfl rfl (WO.nil ?_))))))
  refine W.cond_bl rfl (fun c3=>?_) (fun c3=>?_)
  ·refine W.skip (W.seq (W.block (W.region (WO.p rfl rfl (WO.p rfl rfl (WO.p rfl rfl (WO.indexAddr rfl rfl rfl hR.sl (by omega) rfl ?_)))))))
   refine' WO.load (v:=_) rfl rfl ?hc rfl ?_
   case hc=>(first | (refine hR.cell0 ?_ 0 ?_ <;> first | rfl | omega))
   refine WO.max2 rfl rfl rfl (WO.p rfl rfl (WO.nil (W.region (WO.p rfl rfl (WO.ar rfl rfl rfl (by (first | (unfold in64;omega))) rfl (WO.p rfl rfl (WO.nil ?_)))))))
   refine' ⟨i+1,_,?hp,?hmu,⟨rfl,rfl,rfl,trivial⟩,?hS⟩
   case hS=>repeat (first | exact Sub.nil | refine Sub.cons (by repeat first | exact .head | apply Pick.tail) ?_)
   case hp=>exact ⟨by omega,by omega,by rw [maxL_succ (by omega) h1,em]⟩
   case hmu=>omega
  ·refine W.exit (blk_same (W.sreg (WO.p rfl rfl (WO.p rfl rfl (WO.nil (W.ret ?_))))))
   obtain rfl:i=xs.length:=by omega
   refine fin.ret (Res.one rfl (RV.tmp rfl)) ?_
   rw [em,List.take_length]
def btw (lo hi:Int) (xs:List Int):Bool:=bl (lo≤minL xs)&&bl (maxL xs≤hi)
theorem c_within (w:World) (lo hi:Int) (o:Value) (xs:List Int) (hR:RdF encI 1 w.heap.size w o xs) (hn:0<xs.length):Ret Tryz.prog 110 [.int .i64 lo,.int .i64 hi,o].toArray w (.bool (btw lo hi xs)):=by
 refine Ret.of mixed tyTab Tryz.func110 rfl rfl ?_
 replace hR:RdF encI 1 (fnCx mixed tyTab Tryz.f110.ntmps w).B (fnCx mixed tyTab Tryz.f110.ntmps w).w0 o xs:=hR
 refine W.sreg (WO.p rfl rfl (WO.nil (W.sreg (WO.p rfl rfl (WO.callR rfl Tryz.call198 (fun L w hi=>c_Min w o xs (hR.later hi) hn) rfl (WO.p rfl rfl (WO.p rfl rfl (WO.p rfl rfl ?_))))))))
 refine WO.guard_bl rfl rfl (fun c1=>?_) (fun c1=>?_)
 ·refine WO.pg rfl rfl rfl (WO.go' rfl (WO.callR rfl Tryz.call199 (fun L w hi=>c_Max w o xs (hR.later hi) hn) rfl (WO.pg rfl rfl rfl (WO.pg rfl rfl rfl (WO.p rfl rfl (WO.p rfl rfl (WO.nil (W.ret (fin.ret (Res.one rfl (RV.tmp rfl)) (congrArg Value.bool ?_))))))))))
  (simp_all [btw,bl_eq];done)
 ·refine WO.no rfl rfl (WO.no rfl rfl (WO.no rfl rfl (WO.no rfl rfl (WO.p rfl rfl (WO.p rfl rfl (WO.nil (W.ret (fin.ret (Res.one rfl (RV.tmp rfl)) (congrArg Value.bool ?_)))))))))
  (simp_all [btw,bl_eq];omega)
theorem btw1 (lo hi x:Int):btw lo hi [x]=bl (lo≤x∧x≤hi):=by
 unfold btw;rw [bl_eq,bl_eq,bl_eq]
 show (decide (lo≤x)&&decide (x≤hi))=_
 simp
theorem btw2 (lo hi x y:Int):btw lo hi [x,y]=bl (lo≤x∧x≤hi∧lo≤y∧y≤hi):=by
 unfold btw;rw [bl_eq,bl_eq,bl_eq]
 show (decide (lo≤min x y)&&decide (max x y≤hi))=_
 rw [← Bool.decide_and,decide_eq_decide]
 omega
def encR (r:Int × Int × Int):List Value:=[.int .i64 r.1,.int .i64 r.2.1,.int .i64 r.2.2]
def r0:Int × Int × Int:=(0,0,0)
def prevAt (rs:List (Int × Int × Int)) (i:Nat):Int:=if i=0 then -1 else (rs.getD (i-1) r0).1
def goodR (p:Int) (r:Int × Int × Int):Prop:=p+1≤r.1∧r.1≤60∧0≤r.2.1∧r.2.1≤r.2.2∧r.2.2≤20000
instance (p:Int) (r:Int × Int × Int):Decidable (goodR p r):=by unfold goodR;infer_instance
def goodTo (rs:List (Int × Int × Int)) (n:Nat):Prop:=∀ i,i<n→goodR (prevAt rs i) (rs.getD i r0)
instance (rs:List (Int × Int × Int)) (n:Nat):Decidable (goodTo rs n):=by unfold goodTo;infer_instance
def chkT (m:Int) (rs:List (Int × Int × Int)):Int:=if rs.length<2∨5<rs.length then 6 else if m<0∨2<m then 2 else if goodTo rs rs.length then 0 else 2
theorem prev_in {rs:List (Int × Int × Int)} {i:Nat} (h:goodTo rs i) : -1≤prevAt rs i∧prevAt rs i≤60:=by
 induction i with
 | zero=>simp [prevAt]
 | succ i ih =>
  have h1:=h i (by omega)
  have h2:=ih (fun j hj=>h j (by omega))
  unfold prevAt
  rw [if_neg (by omega),Nat.add_sub_cancel]
  unfold goodR at h1
  omega
theorem goodTo_succ {rs:List (Int × Int × Int)} {i:Nat} (h:goodTo rs i) (h2:goodR (prevAt rs i) (rs.getD i r0)):goodTo rs (i+1):=by
 intro j hj
 by_cases e:j=i
 ·subst e;exact h2
 ·exact h j (by omega)
theorem chkT_bad {m:Int} {rs:List (Int × Int × Int)} {i:Nat} (h1:2≤rs.length∧rs.length≤5) (h2:0≤m∧m≤2) (hi:i<rs.length) (h:¬ goodR (prevAt rs i) (rs.getD i r0)):2=chkT m rs:=by
 unfold chkT;rw [if_neg (by omega),if_neg (by omega),if_neg (fun hg=>h (hg i hi))]
theorem chkT_good {m:Int} {rs:List (Int × Int × Int)} {i:Nat} (h1:2≤rs.length∧rs.length≤5) (h2:0≤m∧m≤2) (hi:rs.length≤i) (h:goodTo rs i):0=chkT m rs:=by
 have h':goodTo rs rs.length:=fun j hj=>h j (by omega)
 unfold chkT;rw [if_neg (by omega),if_neg (by omega),if_pos h']
theorem c_CheckTest (w:World) (m:Int) (o:Value) (rs:List (Int × Int × Int)) (hR:RdF encR 3 w.heap.size w o rs):Ret Tryz.prog 60 [.agg #[.int .i64 m,o]].toArray w (.int .i64 (chkT m rs)):=by
 refine Ret.of mixed tyTab Tryz.func60 rfl rfl ?_
 replace hR:RdF encR 3 (fnCx mixed tyTab Tryz.f60.ntmps w).B (fnCx mixed tyTab Tryz.f60.ntmps w).w0 o rs:=hR
 have hle:=hR.sl.le
 have ho:=hR.sl.oc
 refine W.sreg (WO.boxA rfl rfl (fun b1 hb1=>(WO.p rfl rfl (WO.nil (W.seq (W.block (W.sreg (WO.fieldL rfl rfl rfl (WO.load rfl rfl (Cell.own Pick.head rfl) rfl (WO.len rfl rfl hR.sl rfl (WO.p rfl rfl (WO.p rfl rfl ?_))))))))))))
 refine WO.guard_bl rfl rfl (fun c1=>?_) (fun c1=>?_)
 ·refine WO.no rfl rfl (WO.no rfl rfl (WO.no rfl rfl (WO.no rfl rfl (WO.p rfl rfl (WO.p rfl rfl (WO.nil (W.cond_t rfl (W.sreg (WO.p rfl rfl (WO.nil (W.ret (fin.ret (Res.one rfl (RV.tmp rfl)) (congrArg (Value.int .i64) ?_)))))))))))))
  (unfold chkT;rw [if_pos (by omega)])
 ·refine WO.go' rfl (WO.fieldL rfl rfl rfl (WO.go' rfl (WO.load rfl rfl (Cell.own Pick.head rfl) rfl (WO.go' rfl (WO.len rfl rfl hR.sl rfl (WO.pg rfl rfl rfl (WO.p rfl rfl (WO.p rfl rfl (WO.nil ?_)))))))))
  refine W.cond_bl rfl (fun c2=>?_) (fun c2=>?_)
  ·refine W.sreg (WO.p rfl rfl (WO.nil (W.ret (fin.ret (Res.one rfl (RV.tmp rfl)) (congrArg (Value.int .i64) ?_)))))
   (unfold chkT;rw [if_pos (by omega)])
  ·refine W.sreg (WO.field0 rfl rfl rfl (WO.load rfl rfl (Cell.own Pick.head rfl) rfl (WO.p rfl rfl (WO.p rfl rfl ?_))))
   refine WO.guard_bl rfl rfl (fun c3=>?_) (fun c3=>?_)
   ·refine WO.no rfl rfl (WO.no rfl rfl (WO.no rfl rfl (WO.p rfl rfl (WO.p rfl rfl (WO.nil (W.cond_t rfl (W.sreg (WO.p rfl rfl (WO.nil (W.ret (fin.ret (Res.one rfl (RV.tmp rfl)) (congrArg (Value.int .i64) ?_))))))))))))
    (unfold chkT;(rw [if_neg (by omega),if_pos (by omega)]);done)
   ·refine WO.go' rfl (WO.field0 rfl rfl rfl (WO.go' rfl (WO.load rfl rfl (Cell.own Pick.head rfl) rfl (WO.pg rfl rfl rfl (WO.p rfl rfl (WO.p rfl rfl (WO.nil ?_)))))))
    refine W.cond_bl rfl (fun c4=>?_) (fun c4=>?_)
    ·refine W.sreg (WO.p rfl rfl (WO.nil (W.ret (fin.ret (Res.one rfl (RV.tmp rfl)) (congrArg (Value.int .i64) ?_)))))
     (unfold chkT;(rw [if_neg (by omega),if_pos (by omega)]);done)
    ·refine W.skip (W.sreg (WO.p rfl rfl (WO.nil (W.seq (W.sreg (WO.fieldL rfl rfl rfl (WO.load rfl rfl (Cell.own Pick.head rfl) rfl (WO.len rfl rfl hR.sl rfl (WO.p rfl rfl (WO.nil (W.block ?_)))))))))))
     refine W.loop2 (fun (i:Nat) (last:Int)=>i≤rs.length∧last=prevAt rs i∧goodTo rs i)
      (fun (i:Nat) (last:Int)=>[(29,.int .i64 (i:Int)),(28,.int .i64 (rs.length:Int)),(27,o),(3,.int .i64 last)])
      (fun (i:Nat) (last:Int)=>[])
      (fun (i:Nat) (last:Int)=>rs.length-i) 0 (-1)
      (by exact ⟨by omega,rfl,fun j hj=>by omega⟩) ⟨rfl,rfl,rfl,rfl,trivial⟩ (by repeat (first | exact Sub.nil | refine Sub.cons (by repeat first | exact .head | apply Pick.tail) ?_)) ?_
     rintro i last ⟨hi,hl,hg⟩
     refine W.sreg (WO.p rfl rfl (WO.nil (W.seq ?_)))
     refine W.cond_bl rfl (fun c5=>?_) (fun c5=>?_)
     ·refine W.skip (W.seq (W.block (W.sreg (WO.indexAddr rfl rfl rfl hR.sl (by omega) rfl ?_))))
      refine' WO.loadA (vs:=_) rfl rfl ?hc ?hl rfl ?_
      case hc=>((refine hR.cells ?_ r0;omega))
      case hl=>rfl
      refine WO.alloc rfl rfl rfl (fun b2 hb2=>(WO.storeA rfl rfl rfl rfl Pick.head rfl rfl (WO.nil (W.seq ?_))))
      have hpi:=prev_in hg
      refine W.sreg (WO.p rfl rfl (WO.ar rfl rfl rfl (by unfold in64;omega) rfl (WO.field0 rfl rfl rfl (WO.load rfl rfl (Cell.own Pick.head rfl) rfl (WO.buildSl rfl rfl rfl rfl rfl rfl rfl rfl rfl (fun v3=>(WO.callR (r:=.bool (bl (last+1≤(rs.getD i r0).1∧(rs.getD i r0).1≤60))) rfl Tryz.call110 (fun L w hi=>by rw [← btw1];exact c_within w _ _ _ [(rs.getD i r0).1] (RdF.of_ow (e:=2) encI_ok (by repeat exact .head) hi) (by simp)) rfl (WO.p rfl rfl (WO.p rfl rfl ?_)))))))))
      refine WO.guard_nbl rfl rfl (fun c6=>?_) (fun c6=>?_)
      ·refine WO.no rfl rfl (WO.no rfl rfl (WO.no rfl rfl (WO.no rfl rfl (WO.no rfl rfl (WO.no rfl rfl (WO.no rfl rfl (WO.no rfl rfl (WO.no rfl rfl (WO.p rfl rfl (WO.p rfl rfl (WO.no rfl rfl (WO.no rfl rfl (WO.no rfl rfl (WO.no rfl rfl (WO.no rfl rfl (WO.no rfl rfl (WO.no rfl rfl (WO.p rfl rfl (WO.nil (W.cond_t rfl (W.sreg (WO.p rfl rfl (WO.nil (W.ret (fin.ret (Res.one rfl (RV.tmp rfl)) (congrArg (Value.int .i64) ?_))))))))))))))))))))))))))
       first | (unfold chkT;first | rw [if_pos (by omega)] | (rw [if_neg (by omega),if_pos (by omega)]);done) | exact chkT_bad (i:=i) (by omega) (by omega) (by omega) (by unfold goodR;omega) | exact chkT_good (by omega) (by omega) (by omega) hg
      ·refine WO.go' rfl (WO.fieldL rfl rfl rfl (WO.go' rfl (WO.field0 rfl rfl rfl (WO.go' rfl (WO.load rfl rfl (Cell.own (Pick.tail (Pick.head)) rfl) rfl (WO.go' rfl (WO.fieldL rfl rfl rfl (WO.go' rfl (WO.fieldL rfl rfl rfl (WO.go' rfl (WO.load rfl rfl (Cell.own (Pick.tail (Pick.head)) rfl) rfl (WO.go' rfl (WO.buildSl rfl rfl rfl rfl rfl rfl rfl rfl rfl (fun v4=>(WO.go' rfl ?_)))))))))))))))
       refine WO.callR (r:=.bool (bl (0≤(rs.getD i r0).2.1∧(rs.getD i r0).2.1≤20000∧0≤(rs.getD i r0).2.2∧(rs.getD i r0).2.2≤20000))) rfl Tryz.call110 (fun L w hi=>by rw [← btw2];exact c_within w _ _ _ [(rs.getD i r0).2.1,(rs.getD i r0).2.2] (RdF.of_ow (e:=2) encI_ok (by repeat exact .head) hi) (by simp)) rfl (WO.pg rfl rfl rfl (WO.p rfl rfl (WO.p rfl rfl ?_)))
       refine WO.guard_nbl rfl rfl (fun c7=>?_) (fun c7=>?_)
       ·refine WO.no rfl rfl (WO.no rfl rfl (WO.no rfl rfl (WO.no rfl rfl (WO.no rfl rfl (WO.no rfl rfl (WO.no rfl rfl (WO.p rfl rfl (WO.nil (W.cond_t rfl (W.sreg (WO.p rfl rfl (WO.nil (W.ret (fin.ret (Res.one rfl (RV.tmp rfl)) (congrArg (Value.int .i64) ?_)))))))))))))))
        first | (unfold chkT;first | rw [if_pos (by omega)] | (rw [if_neg (by omega),if_pos (by omega)]);done) | exact chkT_bad (i:=i) (by omega) (by omega) (by omega) (by unfold goodR;omega) | exact chkT_good (by omega) (by omega) (by omega) hg
       ·refine WO.go' rfl (WO.fieldL rfl rfl rfl (WO.go' rfl (WO.field0 rfl rfl rfl (WO.go' rfl (WO.load rfl rfl (Cell.own (Pick.tail (Pick.tail (Pick.head))) rfl) rfl (WO.go' rfl (WO.fieldL rfl rfl rfl (WO.go' rfl (WO.fieldL rfl rfl rfl (WO.go' rfl (WO.load rfl rfl (Cell.own (Pick.tail (Pick.tail (Pick.head))) rfl) rfl (WO.pg rfl rfl rfl (WO.p rfl rfl (WO.nil ?_))))))))))))))
        refine W.cond_bl rfl (fun c8=>?_) (fun c8=>?_)
        ·refine W.sreg (WO.p rfl rfl (WO.nil (W.ret (fin.ret (Res.one rfl (RV.tmp rfl)) (congrArg (Value.int .i64) ?_)))))
         first | (unfold chkT;first | rw [if_pos (by omega)] | (rw [if_neg (by omega),if_pos (by omega)]);done) | exact chkT_bad (i:=i) (by omega) (by omega) (by omega) (by unfold goodR;omega) | exact chkT_good (by omega) (by omega) (by omega) hg
        ·refine W.skip (W.region (WO.field0 rfl rfl rfl (WO.load rfl rfl (Cell.own (Pick.tail (Pick.tail (Pick.head))) rfl) rfl (WO.p rfl rfl (WO.nil (W.region (WO.ar rfl rfl rfl (by unfold in64;omega) rfl (WO.p rfl rfl (WO.nil ?_)))))))))
         refine' ⟨i+1,_,?hp,?hmu,⟨rfl,rfl,rfl,rfl,trivial⟩,?hS⟩
         case hS=>repeat (first | exact Sub.nil | refine Sub.cons (by repeat first | exact .head | apply Pick.tail) ?_)
         case hp=>exact ⟨by omega,by unfold prevAt;rw [if_neg (by omega),Nat.add_sub_cancel],goodTo_succ hg (by unfold goodR;omega)⟩
         case hmu=>omega
     ·refine W.exit (blk_same (W.sreg (WO.p rfl rfl (WO.nil (W.ret (fin.ret (Res.one rfl (RV.tmp rfl)) (congrArg (Value.int .i64) ?_)))))))
      first | (unfold chkT;first | rw [if_pos (by omega)] | (rw [if_neg (by omega),if_pos (by omega)]);done) | exact chkT_bad (i:=i) (by omega) (by omega) (by omega) (by unfold goodR;omega) | exact chkT_good (by omega) (by omega) (by omega) hg
theorem ref_between (w:World) (n lo hi:Int):Ret Tryz.prog 15 [.int .i64 n,.int .i64 lo,.int .i64 hi].toArray w (.bool (bl (lo≤n∧n≤hi))):=by
 refine Ret.of mixed tyTab Tryz.func15 rfl rfl (W.sreg (WO.p rfl rfl (WO.nil (W.sreg (WO.p rfl rfl (WO.p rfl rfl (WO.p rfl rfl (WO.p rfl rfl ?_))))))))
 refine WO.guard_bl rfl rfl (fun c1=>?_) (fun c1=>?_)
 ·refine WO.pg rfl rfl rfl (WO.pg rfl rfl rfl (WO.pg rfl rfl rfl (WO.p rfl rfl (WO.p rfl rfl (WO.nil (W.ret (fin.ret (Res.one rfl (RV.tmp rfl)) (congrArg Value.bool ?_))))))))
  (simp_all [bl_eq];done)
 ·refine WO.no rfl rfl (WO.no rfl rfl (WO.no rfl rfl (WO.p rfl rfl (WO.p rfl rfl (WO.nil (W.ret (fin.ret (Res.one rfl (RV.tmp rfl)) (congrArg Value.bool ?_))))))))
  (simp_all [bl_eq];omega)
theorem prevAt_pos {rs:List (Int × Int × Int)} {i:Nat} (h:0<i):prevAt rs i=(rs.getD (i-1) r0).1:=by unfold prevAt;rw [if_neg (by omega)]
theorem prevAt_0 {rs:List (Int × Int × Int)} {i:Nat} (h:¬ 0<i):prevAt rs i = -1:=by unfold prevAt;rw [if_pos (by omega)]
theorem ref_CheckTest (w:World) (m:Int) (o:Value) (rs:List (Int × Int × Int)) (hR:RdF encR 3 w.heap.size w o rs):Ret Tryz.prog 4 [.agg #[.int .i64 m,o]].toArray w (.int .i64 (chkT m rs)):=by
 refine Ret.of mixed tyTab Tryz.func4 rfl rfl ?_
 replace hR:RdF encR 3 (fnCx mixed tyTab Tryz.f4.ntmps w).B (fnCx mixed tyTab Tryz.f4.ntmps w).w0 o rs:=hR
 have hle:=hR.sl.le
 have ho:=hR.sl.oc
 refine W.sreg (WO.boxA rfl rfl (fun b1 hb1=>(WO.p rfl rfl (WO.nil (W.seq (W.sreg (WO.fieldL rfl rfl rfl (WO.load rfl rfl (Cell.own Pick.head rfl) rfl (WO.len rfl rfl hR.sl rfl (WO.p rfl rfl (WO.p rfl rfl ?_)))))))))))
 refine WO.guard_bl rfl rfl (fun c1=>?_) (fun c1=>?_)
 ·refine WO.no rfl rfl (WO.no rfl rfl (WO.no rfl rfl (WO.no rfl rfl (WO.p rfl rfl (WO.nil (W.cond_t rfl (W.sreg (WO.p rfl rfl (WO.nil (W.ret (fin.ret (Res.one rfl (RV.tmp rfl)) (congrArg (Value.int .i64) ?_))))))))))))
  (unfold chkT;rw [if_pos (by omega)])
 ·refine WO.go' rfl (WO.fieldL rfl rfl rfl (WO.go' rfl (WO.load rfl rfl (Cell.own Pick.head rfl) rfl (WO.go' rfl (WO.len rfl rfl hR.sl rfl (WO.pg rfl rfl rfl (WO.p rfl rfl (WO.nil ?_))))))))
  refine W.cond_bl rfl (fun c2=>?_) (fun c2=>?_)
  ·refine W.sreg (WO.p rfl rfl (WO.nil (W.ret (fin.ret (Res.one rfl (RV.tmp rfl)) (congrArg (Value.int .i64) ?_)))))
   (unfold chkT;rw [if_pos (by omega)])
  ·refine W.skip (W.seq (W.sreg (WO.field0 rfl rfl rfl (WO.load rfl rfl (Cell.own Pick.head rfl) rfl (WO.p rfl rfl (WO.p rfl rfl ?_))))))
   refine WO.guard_bl rfl rfl (fun c3=>?_) (fun c3=>?_)
   ·refine WO.no rfl rfl (WO.no rfl rfl (WO.no rfl rfl (WO.p rfl rfl (WO.nil (W.cond_t rfl (W.sreg (WO.p rfl rfl (WO.nil (W.ret (fin.ret (Res.one rfl (RV.tmp rfl)) (congrArg (Value.int .i64) ?_)))))))))))
    (unfold chkT;(rw [if_neg (by omega),if_pos (by omega)]);done)
   ·refine WO.go' rfl (WO.field0 rfl rfl rfl (WO.go' rfl (WO.load rfl rfl (Cell.own Pick.head rfl) rfl (WO.pg rfl rfl rfl (WO.p rfl rfl (WO.nil ?_))))))
    refine W.cond_bl rfl (fun c4=>?_) (fun c4=>?_)
    ·refine W.sreg (WO.p rfl rfl (WO.nil (W.ret (fin.ret (Res.one rfl (RV.tmp rfl)) (congrArg (Value.int .i64) ?_)))))
     (unfold chkT;(rw [if_neg (by omega),if_pos (by omega)]);done)
    ·refine W.skip (W.seq (W.sreg (WO.p rfl rfl (WO.nil (W.block ?_)))))
     refine W.loop (fun (i:Nat)=>i≤rs.length∧goodTo rs i)
      (fun (i:Nat)=>[(3,.int .i64 (i:Int)),(1,.pointer (some ⟨b1,0,none⟩))])
      (fun (i:Nat)=>[pt b1 (.cells #[.int .i64 m,o] 24 (0,0))])
      (fun (i:Nat)=>rs.length-i) 0
      (by exact ⟨by omega,fun j hj=>by omega⟩) ⟨rfl,rfl,trivial⟩ (by repeat (first | exact Sub.nil | refine Sub.cons (by repeat exact .head) ?_)) ?_
     rintro i ⟨hi,hg⟩
     refine W.seq (W.sreg (WO.p rfl rfl (WO.fieldL rfl rfl rfl (WO.load rfl rfl (Cell.own Pick.head rfl) rfl (WO.len rfl rfl hR.sl rfl (WO.p rfl rfl (WO.nil ?_)))))))
     refine W.cond_bl rfl (fun c5=>?_) (fun c5=>?_)
     ·refine W.skip (W.seq (W.block (W.sreg (WO.fieldL rfl rfl rfl (WO.load rfl rfl (Cell.own Pick.head rfl) rfl (WO.p rfl rfl (WO.indexAddr rfl rfl rfl hR.sl (by omega) rfl ?_)))))))
      refine' WO.loadA (vs:=_) rfl rfl ?hc ?hl rfl ?_
      case hc=>((refine hR.cells ?_ r0;omega))
      case hl=>rfl
      refine WO.alloc rfl rfl rfl (fun b2 hb2=>(WO.storeA rfl rfl rfl rfl Pick.head rfl rfl (WO.nil (W.seq ?_))))
      have hpi:=prev_in hg
      have hp1:0<i→prevAt rs i=(rs.getD ((i:Int)-1).toNat r0).1:=fun h=>by rw [prevAt_pos h,show ((i:Int)-1).toNat=i-1 by omega]
      have hp0:¬ 0<i→prevAt rs i = -1:=prevAt_0
      refine W.drawD 33 [.r 0 [],.b 1 [],.b 2 [],.r 3 [],.r 4 [],.r 5 [],.r 6 [],.r 7 [],.r 8 [],.b 9 [],.r 10 [],.b 11 [],.r 12 [],.r 13 [],.r 14 [],.r 15 [],.b 16 [],.r 17 [],.r 18 [],.r 19 [],.r 20 [],.r 21 [],.r 22 [],.b 23 [],.r 24 [],.r 25 [],.r 26 [],.r 27 [],.r 28 [],.b 29 [],.r 30 [],.r 31 [],.b 32 []] [] (A0:=[]) (Sub.refl _) (by kernel_rfl) ?_ ?_
      ·repeat constructor
      refine DT.r rfl rfl rfl (WO.field0 rfl rfl rfl (WO.nil ⟨rfl,rfl⟩)) (DT.b rfl rfl rfl (WO.load rfl rfl (Cell.own Pick.head rfl) rfl (WO.nil ⟨rfl,rfl⟩)) (DT.b rfl rfl rfl (WO.callR (r:=.bool (bl (0≤(rs.getD i r0).1∧(rs.getD i r0).1≤60))) rfl Tryz.call15 (fun L w hi=>ref_between w _ _ _) rfl (WO.nil ⟨rfl,rfl⟩)) (DT.r rfl rfl rfl (WO.p rfl rfl (WO.nil ⟨rfl,rfl⟩)) ?_)))
      refine DT.rNB rfl rfl rfl (WO.p rfl rfl (WO.nil ⟨rfl,rfl⟩)) (fun c6=>?_) (fun c6=>?_)
      ·refine DT.r rfl rfl rfl (WO.no rfl rfl (WO.nil ⟨rfl,rfl⟩)) (DT.r rfl rfl rfl (WO.no rfl rfl (WO.nil ⟨rfl,rfl⟩)) (DT.r rfl rfl rfl (WO.no rfl rfl (WO.nil ⟨rfl,rfl⟩)) (DT.r rfl rfl rfl (WO.no rfl rfl (WO.nil ⟨rfl,rfl⟩)) (DT.b rfl rfl rfl (WO.no rfl rfl (WO.nil ⟨rfl,rfl⟩)) (DT.r rfl rfl rfl (WO.no rfl rfl (WO.nil ⟨rfl,rfl⟩)) (DT.b rfl rfl rfl (WO.no rfl rfl (WO.nil ⟨rfl,rfl⟩)) (DT.r rfl rfl rfl (WO.no rfl rfl (WO.nil ⟨rfl,rfl⟩)) (DT.r rfl rfl rfl (WO.no rfl rfl (WO.nil ⟨rfl,rfl⟩)) (DT.r rfl rfl rfl (WO.no rfl rfl (WO.nil ⟨rfl,rfl⟩)) (DT.r rfl rfl rfl (WO.no rfl rfl (WO.nil ⟨rfl,rfl⟩)) (DT.b rfl rfl rfl (WO.no rfl rfl (WO.nil ⟨rfl,rfl⟩)) ?_)))))))))))
       refine DT.r rfl rfl rfl (WO.no rfl rfl (WO.nil ⟨rfl,rfl⟩)) (DT.r rfl rfl rfl (WO.no rfl rfl (WO.nil ⟨rfl,rfl⟩)) (DT.r rfl rfl rfl (WO.p rfl rfl (WO.nil ⟨rfl,rfl⟩)) (DT.r rfl rfl rfl (WO.p rfl rfl (WO.nil ⟨rfl,rfl⟩)) (DT.r rfl rfl rfl (WO.no rfl rfl (WO.nil ⟨rfl,rfl⟩)) (DT.r rfl rfl rfl (WO.no rfl rfl (WO.nil ⟨rfl,rfl⟩)) (DT.b rfl rfl rfl (WO.no rfl rfl (WO.nil ⟨rfl,rfl⟩)) (DT.r rfl rfl rfl (WO.no rfl rfl (WO.nil ⟨rfl,rfl⟩)) (DT.r rfl rfl rfl (WO.p rfl rfl (WO.nil ⟨rfl,rfl⟩)) (DT.r rfl rfl rfl (WO.p rfl rfl (WO.nil ⟨rfl,rfl⟩)) (DT.r rfl rfl rfl (WO.no rfl rfl (WO.nil ⟨rfl,rfl⟩)) (DT.r rfl rfl rfl (WO.no rfl rfl (WO.nil ⟨rfl,rfl⟩)) ?_)))))))))))
       refine DT.b rfl rfl rfl (WO.no rfl rfl (WO.nil ⟨rfl,rfl⟩)) (DT.r rfl rfl rfl (WO.no rfl rfl (WO.nil ⟨rfl,rfl⟩)) (DT.r rfl rfl rfl (WO.no rfl rfl (WO.nil ⟨rfl,rfl⟩)) (DT.b rfl rfl rfl (WO.no rfl rfl (WO.nil ⟨rfl,rfl⟩)) (DT.nil [_,_] rfl (WO.no rfl rfl (WO.p rfl rfl (WO.p rfl rfl (WO.no rfl rfl (WO.no rfl rfl (WO.no rfl rfl (WO.no rfl rfl (WO.p rfl rfl (WO.nil (W.cond_t rfl (W.sreg (WO.p rfl rfl (WO.nil (W.ret (fin.ret (Res.one rfl (RV.tmp rfl)) (congrArg (Value.int .i64) ?_))))))))))))))))))))
       first | (unfold chkT;first | rw [if_pos (by omega)] | (rw [if_neg (by omega),if_pos (by omega)]);done) | exact chkT_bad (i:=i) (by omega) (by omega) (by omega) (by unfold goodR;omega) | exact chkT_good (by omega) (by omega) (by omega) hg
      ·refine DT.r rfl rfl rfl (WO.pg rfl rfl rfl (WO.nil ⟨rfl,rfl⟩)) (DT.r rfl rfl rfl (WO.pg rfl rfl rfl (WO.nil ⟨rfl,rfl⟩)) ?_)
       refine DT.rB rfl rfl rfl (WO.pg rfl rfl rfl (WO.nil ⟨rfl,rfl⟩)) (fun c7=>?_) (fun c7=>?_)
       ·refine DT.r rfl rfl rfl (WO.go' rfl (WO.field0 rfl rfl rfl (WO.nil ⟨rfl,rfl⟩))) (DT.b rfl rfl rfl (WO.go' rfl (WO.load rfl rfl (Cell.own Pick.head rfl) rfl (WO.nil ⟨rfl,rfl⟩))) (DT.r rfl rfl rfl (WO.go' rfl (WO.fieldL rfl rfl rfl (WO.nil ⟨rfl,rfl⟩))) (DT.b rfl rfl rfl (WO.go' rfl (WO.load rfl rfl (Cell.own (Pick.tail (Pick.head)) rfl) rfl (WO.nil ⟨rfl,rfl⟩))) (DT.r rfl rfl rfl (WO.pg rfl rfl rfl (WO.nil ⟨rfl,rfl⟩)) (DT.r rfl rfl rfl (WO.go' rfl (WO.ar rfl rfl rfl (by unfold in64;omega) rfl (WO.nil ⟨rfl,rfl⟩))) ?_)))))
        refine' DT.r rfl rfl rfl ?hq ?_
        case hq =>
         refine WO.go' rfl ?_
         refine' WO.indexAddrZ (n:=_) rfl rfl rfl ?hs ?h00 ?h1 rfl ?_
         case hs=>exact hR.sl
         case h00=>omega
         case h1=>(omega)
         exact WO.nil ⟨rfl,rfl⟩
        refine DT.r rfl rfl rfl (WO.go' rfl (WO.field0 rfl rfl rfl (WO.nil ⟨rfl,rfl⟩))) ?_
        refine' DT.b rfl rfl rfl ?hq ?_
        case hq =>
         refine WO.go' rfl ?_
         refine' WO.load (v:=_) rfl rfl ?hc rfl ?_
         case hc=>(first | (refine hR.cell0 ?_ r0 ?_ <;> first | rfl | omega))
         exact WO.nil ⟨rfl,rfl⟩
        refine DT.r rfl rfl rfl (WO.pg rfl rfl rfl (WO.nil ⟨rfl,rfl⟩)) (DT.r rfl rfl rfl (WO.pg rfl rfl rfl (WO.nil ⟨rfl,rfl⟩)) (DT.r rfl rfl rfl (WO.p rfl rfl (WO.nil ⟨rfl,rfl⟩)) ?_))
        refine DT.rB rfl rfl rfl (WO.p rfl rfl (WO.nil ⟨rfl,rfl⟩)) (fun c8=>?_) (fun c8=>?_)
        ·refine DT.r rfl rfl rfl (WO.no rfl rfl (WO.nil ⟨rfl,rfl⟩)) (DT.r rfl rfl rfl (WO.no rfl rfl (WO.nil ⟨rfl,rfl⟩)) (DT.b rfl rfl rfl (WO.no rfl rfl (WO.nil ⟨rfl,rfl⟩)) (DT.r rfl rfl rfl (WO.no rfl rfl (WO.nil ⟨rfl,rfl⟩)) (DT.r rfl rfl rfl (WO.p rfl rfl (WO.nil ⟨rfl,rfl⟩)) (DT.r rfl rfl rfl (WO.p rfl rfl (WO.nil ⟨rfl,rfl⟩)) (DT.r rfl rfl rfl (WO.no rfl rfl (WO.nil ⟨rfl,rfl⟩)) (DT.r rfl rfl rfl (WO.no rfl rfl (WO.nil ⟨rfl,rfl⟩)) (DT.b rfl rfl rfl (WO.no rfl rfl (WO.nil ⟨rfl,rfl⟩)) (DT.r rfl rfl rfl (WO.no rfl rfl (WO.nil ⟨rfl,rfl⟩)) (DT.r rfl rfl rfl (WO.no rfl rfl (WO.nil ⟨rfl,rfl⟩)) (DT.b rfl rfl rfl (WO.no rfl rfl (WO.nil ⟨rfl,rfl⟩)) ?_)))))))))))
         refine DT.nil [_,_] rfl (WO.no rfl rfl (WO.p rfl rfl (WO.p rfl rfl (WO.no rfl rfl (WO.no rfl rfl (WO.no rfl rfl (WO.no rfl rfl (WO.p rfl rfl (WO.nil (W.cond_t rfl (W.sreg (WO.p rfl rfl (WO.nil (W.ret (fin.ret (Res.one rfl (RV.tmp rfl)) (congrArg (Value.int .i64) ?_))))))))))))))))
         first | (unfold chkT;first | rw [if_pos (by omega)] | (rw [if_neg (by omega),if_pos (by omega)]);done) | exact chkT_bad (i:=i) (by omega) (by omega) (by omega) (by unfold goodR;omega) | exact chkT_good (by omega) (by omega) (by omega) hg
        ·refine DT.r rfl rfl rfl (WO.go' rfl (WO.fieldL rfl rfl rfl (WO.nil ⟨rfl,rfl⟩))) (DT.r rfl rfl rfl (WO.go' rfl (WO.field0 rfl rfl rfl (WO.nil ⟨rfl,rfl⟩))) (DT.b rfl rfl rfl (WO.go' rfl (WO.load rfl rfl (Cell.own Pick.head rfl) rfl (WO.nil ⟨rfl,rfl⟩))) (DT.r rfl rfl rfl (WO.pg rfl rfl rfl (WO.nil ⟨rfl,rfl⟩)) (DT.r rfl rfl rfl (WO.p rfl rfl (WO.nil ⟨rfl,rfl⟩)) ?_))))
         refine DT.rB rfl rfl rfl (WO.p rfl rfl (WO.nil ⟨rfl,rfl⟩)) (fun c9=>?_) (fun c9=>?_)
         ·refine DT.r rfl rfl rfl (WO.no rfl rfl (WO.nil ⟨rfl,rfl⟩)) (DT.r rfl rfl rfl (WO.no rfl rfl (WO.nil ⟨rfl,rfl⟩)) (DT.b rfl rfl rfl (WO.no rfl rfl (WO.nil ⟨rfl,rfl⟩)) (DT.r rfl rfl rfl (WO.no rfl rfl (WO.nil ⟨rfl,rfl⟩)) (DT.r rfl rfl rfl (WO.no rfl rfl (WO.nil ⟨rfl,rfl⟩)) (DT.b rfl rfl rfl (WO.no rfl rfl (WO.nil ⟨rfl,rfl⟩)) (DT.nil [_,_] rfl (WO.no rfl rfl (WO.p rfl rfl (WO.p rfl rfl (WO.no rfl rfl (WO.no rfl rfl (WO.no rfl rfl (WO.no rfl rfl (WO.p rfl rfl (WO.nil (W.cond_t rfl (W.sreg (WO.p rfl rfl (WO.nil (W.ret (fin.ret (Res.one rfl (RV.tmp rfl)) (congrArg (Value.int .i64) ?_))))))))))))))))))))))
          first | (unfold chkT;first | rw [if_pos (by omega)] | (rw [if_neg (by omega),if_pos (by omega)]);done) | exact chkT_bad (i:=i) (by omega) (by omega) (by omega) (by unfold goodR;omega) | exact chkT_good (by omega) (by omega) (by omega) hg
         ·refine DT.r rfl rfl rfl (WO.go' rfl (WO.fieldL rfl rfl rfl (WO.nil ⟨rfl,rfl⟩))) (DT.r rfl rfl rfl (WO.go' rfl (WO.field0 rfl rfl rfl (WO.nil ⟨rfl,rfl⟩))) (DT.b rfl rfl rfl (WO.go' rfl (WO.load rfl rfl (Cell.own Pick.head rfl) rfl (WO.nil ⟨rfl,rfl⟩))) (DT.r rfl rfl rfl (WO.go' rfl (WO.fieldL rfl rfl rfl (WO.nil ⟨rfl,rfl⟩))) (DT.r rfl rfl rfl (WO.go' rfl (WO.fieldL rfl rfl rfl (WO.nil ⟨rfl,rfl⟩))) (DT.b rfl rfl rfl (WO.go' rfl (WO.load rfl rfl (Cell.own Pick.head rfl) rfl (WO.nil ⟨rfl,rfl⟩))) (DT.nil [_,_] rfl (WO.pg rfl rfl rfl (WO.p rfl rfl (WO.p rfl rfl ?_)))))))))
          refine WO.guard_bl rfl rfl (fun c10=>?_) (fun c10=>?_)
          ·refine WO.no rfl rfl (WO.no rfl rfl (WO.no rfl rfl (WO.no rfl rfl (WO.p rfl rfl (WO.nil (W.cond_t rfl (W.sreg (WO.p rfl rfl (WO.nil (W.ret (fin.ret (Res.one rfl (RV.tmp rfl)) (congrArg (Value.int .i64) ?_))))))))))))
           first | (unfold chkT;first | rw [if_pos (by omega)] | (rw [if_neg (by omega),if_pos (by omega)]);done) | exact chkT_bad (i:=i) (by omega) (by omega) (by omega) (by unfold goodR;omega) | exact chkT_good (by omega) (by omega) (by omega) hg
          ·refine WO.go' rfl (WO.fieldL rfl rfl rfl (WO.go' rfl (WO.fieldL rfl rfl rfl (WO.go' rfl (WO.load rfl rfl (Cell.own Pick.head rfl) rfl (WO.pg rfl rfl rfl (WO.p rfl rfl (WO.nil ?_))))))))
           refine W.cond_bl rfl (fun c11=>?_) (fun c11=>?_)
           ·refine W.sreg (WO.p rfl rfl (WO.nil (W.ret (fin.ret (Res.one rfl (RV.tmp rfl)) (congrArg (Value.int .i64) ?_)))))
            first | (unfold chkT;first | rw [if_pos (by omega)] | (rw [if_neg (by omega),if_pos (by omega)]);done) | exact chkT_bad (i:=i) (by omega) (by omega) (by omega) (by unfold goodR;omega) | exact chkT_good (by omega) (by omega) (by omega) hg
           ·refine W.skip (W.region (WO.p rfl rfl (WO.ar rfl rfl rfl (by unfold in64;omega) rfl (WO.p rfl rfl (WO.nil ?_)))))
            refine' ⟨i+1,?hp,?hmu,⟨rfl,rfl,trivial⟩,?hS⟩
            case hS=>repeat (first | exact Sub.nil | refine Sub.cons (by repeat first | exact .head | apply Pick.tail) ?_)
            case hp=>exact ⟨by omega,goodTo_succ hg (by unfold goodR;omega)⟩
            case hmu=>omega
       ·refine DT.r rfl rfl rfl (WO.no rfl rfl (WO.nil ⟨rfl,rfl⟩)) (DT.b rfl rfl rfl (WO.no rfl rfl (WO.nil ⟨rfl,rfl⟩)) (DT.r rfl rfl rfl (WO.no rfl rfl (WO.nil ⟨rfl,rfl⟩)) (DT.b rfl rfl rfl (WO.no rfl rfl (WO.nil ⟨rfl,rfl⟩)) (DT.r rfl rfl rfl (WO.no rfl rfl (WO.nil ⟨rfl,rfl⟩)) (DT.r rfl rfl rfl (WO.no rfl rfl (WO.nil ⟨rfl,rfl⟩)) (DT.r rfl rfl rfl (WO.no rfl rfl (WO.nil ⟨rfl,rfl⟩)) (DT.r rfl rfl rfl (WO.no rfl rfl (WO.nil ⟨rfl,rfl⟩)) (DT.b rfl rfl rfl (WO.no rfl rfl (WO.nil ⟨rfl,rfl⟩)) (DT.r rfl rfl rfl (WO.no rfl rfl (WO.nil ⟨rfl,rfl⟩)) (DT.r rfl rfl rfl (WO.pg rfl rfl rfl (WO.nil ⟨rfl,rfl⟩)) (DT.r rfl rfl rfl (WO.p rfl rfl (WO.nil ⟨rfl,rfl⟩)) ?_)))))))))))
        refine DT.r rfl rfl rfl (WO.p rfl rfl (WO.nil ⟨rfl,rfl⟩)) (DT.r rfl rfl rfl (WO.go' rfl (WO.fieldL rfl rfl rfl (WO.nil ⟨rfl,rfl⟩))) (DT.r rfl rfl rfl (WO.go' rfl (WO.field0 rfl rfl rfl (WO.nil ⟨rfl,rfl⟩))) (DT.b rfl rfl rfl (WO.go' rfl (WO.load rfl rfl (Cell.own Pick.head rfl) rfl (WO.nil ⟨rfl,rfl⟩))) (DT.r rfl rfl rfl (WO.pg rfl rfl rfl (WO.nil ⟨rfl,rfl⟩)) (DT.r rfl rfl rfl (WO.p rfl rfl (WO.nil ⟨rfl,rfl⟩)) ?_)))))
        refine DT.rB rfl rfl rfl (WO.p rfl rfl (WO.nil ⟨rfl,rfl⟩)) (fun c12=>?_) (fun c12=>?_)
        ·refine DT.r rfl rfl rfl (WO.no rfl rfl (WO.nil ⟨rfl,rfl⟩)) (DT.r rfl rfl rfl (WO.no rfl rfl (WO.nil ⟨rfl,rfl⟩)) (DT.b rfl rfl rfl (WO.no rfl rfl (WO.nil ⟨rfl,rfl⟩)) (DT.r rfl rfl rfl (WO.no rfl rfl (WO.nil ⟨rfl,rfl⟩)) (DT.r rfl rfl rfl (WO.no rfl rfl (WO.nil ⟨rfl,rfl⟩)) (DT.b rfl rfl rfl (WO.no rfl rfl (WO.nil ⟨rfl,rfl⟩)) (DT.nil [_,_] rfl (WO.no rfl rfl (WO.p rfl rfl (WO.p rfl rfl (WO.no rfl rfl (WO.no rfl rfl (WO.no rfl rfl (WO.no rfl rfl (WO.p rfl rfl (WO.nil (W.cond_t rfl (W.sreg (WO.p rfl rfl (WO.nil (W.ret (fin.ret (Res.one rfl (RV.tmp rfl)) (congrArg (Value.int .i64) ?_))))))))))))))))))))))
         first | (unfold chkT;first | rw [if_pos (by omega)] | (rw [if_neg (by omega),if_pos (by omega)]);done) | exact chkT_bad (i:=i) (by omega) (by omega) (by omega) (by unfold goodR;omega) | exact chkT_good (by omega) (by omega) (by omega) hg
        ·refine DT.r rfl rfl rfl (WO.go' rfl (WO.fieldL rfl rfl rfl (WO.nil ⟨rfl,rfl⟩))) (DT.r rfl rfl rfl (WO.go' rfl (WO.field0 rfl rfl rfl (WO.nil ⟨rfl,rfl⟩))) (DT.b rfl rfl rfl (WO.go' rfl (WO.load rfl rfl (Cell.own Pick.head rfl) rfl (WO.nil ⟨rfl,rfl⟩))) (DT.r rfl rfl rfl (WO.go' rfl (WO.fieldL rfl rfl rfl (WO.nil ⟨rfl,rfl⟩))) (DT.r rfl rfl rfl (WO.go' rfl (WO.fieldL rfl rfl rfl (WO.nil ⟨rfl,rfl⟩))) (DT.b rfl rfl rfl (WO.go' rfl (WO.load rfl rfl (Cell.own Pick.head rfl) rfl (WO.nil ⟨rfl,rfl⟩))) (DT.nil [_,_] rfl (WO.pg rfl rfl rfl (WO.p rfl rfl (WO.p rfl rfl ?_)))))))))
         refine WO.guard_bl rfl rfl (fun c13=>?_) (fun c13=>?_)
         ·refine WO.no rfl rfl (WO.no rfl rfl (WO.no rfl rfl (WO.no rfl rfl (WO.p rfl rfl (WO.nil (W.cond_t rfl (W.sreg (WO.p rfl rfl (WO.nil (W.ret (fin.ret (Res.one rfl (RV.tmp rfl)) (congrArg (Value.int .i64) ?_))))))))))))
          first | (unfold chkT;first | rw [if_pos (by omega)] | (rw [if_neg (by omega),if_pos (by omega)]);done) | exact chkT_bad (i:=i) (by omega) (by omega) (by omega) (by unfold goodR;omega) | exact chkT_good (by omega) (by omega) (by omega) hg
         ·refine WO.go' rfl (WO.fieldL rfl rfl rfl (WO.go' rfl (WO.fieldL rfl rfl rfl (WO.go' rfl (WO.load rfl rfl (Cell.own Pick.head rfl) rfl (WO.pg rfl rfl rfl (WO.p rfl rfl (WO.nil ?_))))))))
          refine W.cond_bl rfl (fun c14=>?_) (fun c14=>?_)
          ·refine W.sreg (WO.p rfl rfl (WO.nil (W.ret (fin.ret (Res.one rfl (RV.tmp rfl)) (congrArg (Value.int .i64) ?_)))))
           first | (unfold chkT;first | rw [if_pos (by omega)] | (rw [if_neg (by omega),if_pos (by omega)]);done) | exact chkT_bad (i:=i) (by omega) (by omega) (by omega) (by unfold goodR;omega) | exact chkT_good (by omega) (by omega) (by omega) hg
          ·refine W.skip (W.region (WO.p rfl rfl (WO.ar rfl rfl rfl (by unfold in64;omega) rfl (WO.p rfl rfl (WO.nil ?_)))))
           refine' ⟨i+1,?hp,?hmu,⟨rfl,rfl,trivial⟩,?hS⟩
           case hS=>repeat (first | exact Sub.nil | refine Sub.cons (by repeat first | exact .head | apply Pick.tail) ?_)
           case hp=>exact ⟨by omega,goodTo_succ hg (by unfold goodR;omega)⟩
           case hmu=>omega
     ·refine W.exit (blk_same (W.sreg (WO.p rfl rfl (WO.nil (W.ret (fin.ret (Res.one rfl (RV.tmp rfl)) (congrArg (Value.int .i64) ?_)))))))
      first | (unfold chkT;first | rw [if_pos (by omega)] | (rw [if_neg (by omega),if_pos (by omega)]);done) | exact chkT_bad (i:=i) (by omega) (by omega) (by omega) (by unfold goodR;omega) | exact chkT_good (by omega) (by omega) (by omega) hg
end Go.Proofs.YthoeeeehfkenkaaGreat.Tr
namespace Go.Proofs.YthoeeeehfkenkaaGreat
open Go Go.TH Go.ChangeShapes Go.WideShapes Go.ChangeAt Go.RowKit
set_option maxRecDepth 100000
section
variable {H:Type} {enc:TypeId × Value→H} {w:World}
theorem cells2:Tryz.prog.cellsOf 2=1:=by kernel_rfl
theorem cells3:Tryz.prog.cellsOf 3=1:=by kernel_rfl
theorem cells22:Tryz.prog.cellsOf 22=1:=by kernel_rfl
theorem cells24:Tryz.prog.cellsOf 24=2:=by kernel_rfl
theorem cells30:Tryz.prog.cellsOf 30=2:=by kernel_rfl
theorem cells32:Tryz.prog.cellsOf 32=3:=by kernel_rfl
theorem wf64 {z:Int} (h:(Lit.int .i64 z).wf=true):in64 z:=by
  simp [Lit.wf,IntKind.min,IntKind.max,IntKind.signed,IntKind.bits] at h
  unfold in64;omega
theorem rd_int {n:Nat} {c:List Value} {y:DataW H × List MemPlace} (h:DataW.trod enc Tryz.prog w 0 (fun _=>true) true n 2 c=some y):∃ z:Int,c=encI z∧in64 z:=by
  obtain ⟨z,rfl,_,hw⟩:=DataW.trod_int Tryz.underlying2 h
  exact ⟨z,rfl,wf64 hw⟩
theorem rd_int3 {n:Nat} {c:List Value} {y:DataW H × List MemPlace} (h:DataW.trod enc Tryz.prog w 0 (fun _=>true) true n 3 c=some y):∃ z:Int,c=encI z∧in64 z:=by
  obtain ⟨z,rfl,_,hw⟩:=DataW.trod_int Tryz.underlying3 h
  exact ⟨z,rfl,wf64 hw⟩
theorem rd_run {n:Nat} {c:List Value} {y:DataW H × List MemPlace} (hl:c.length=3) (h:DataW.trod enc Tryz.prog w 0 (fun _=>true) true n 32 c=some y):∃ z:Int × Int × Int,c=Tr.encR z∧True:=by
  obtain ⟨y0,y1,m,_,_,h0,h1⟩:=trod_struct2 Tryz.underlying32 h
  rw [cells2] at h0
  rw [cells30] at h1
  match c,hl with
  | [a,b,d],_ =>
    simp at h0 h1
    obtain ⟨u,hu,_⟩:=rd_int h0
    obtain ⟨z0,z1,k,_,_,g0,g1⟩:=trod_struct2 Tryz.underlying30 h1
    rw [cells2] at g0 g1
    simp at g0 g1
    obtain ⟨v,hv,_⟩:=rd_int g0
    obtain ⟨x,hx,_⟩:=rd_int g1
    simp [encI] at hu hv hx
    subst hu;subst hv;subst hx
    exact ⟨(u,v,x),rfl,trivial⟩
theorem open_test {base:Nat} {v:Value} {d:DataW H} {ps:List MemPlace} (hv:Value.okWide Tryz.prog w .any base 24 v) (h:DataW.Trod enc Tryz.prog w 0 (fun _=>true) true 24 v d ps) :
    ∃ (m:Int) (o:Value) (rs:List (Int × Int × Int)),v=.agg #[.int .i64 m,o]∧RdF Tr.encR 3 w.heap.size w o rs:=by
  unfold Value.okWide at hv
  rw [Tryz.underlying24] at hv
  obtain ⟨cs,rfl,hs,_⟩:=hv
  obtain ⟨fuel,hf⟩:=h
  obtain ⟨y0,y1,n,_,hl,h0,h1⟩:=trod_struct2 Tryz.underlying24 hf
  rw [cells24] at hl
  rw [cells3] at h0
  rw [cells22] at h1
  obtain ⟨l,hcs⟩:∃ l,cs=List.toArray l:=⟨cs.toList,by simp⟩
  subst hcs
  simp only [Value.cells] at hl h0 h1
  match l,hl with
  | [a,b],_ =>
    simp at h0 h1
    obtain ⟨u,hu,_⟩:=rd_int3 h0
    simp [encI] at hu
    subst hu
    obtain ⟨o,rs,ho,hr,_⟩:=open_rd (en:=Tr.encR) (Q:=fun _=>True) Tryz.underlying22 cells32 (by omega) (fun n c y hl hy=>rd_run hl hy) h1
    simp at ho
    subst ho
    exact ⟨u,b,rs,rfl,hr⟩
end
end Go.Proofs.YthoeeeehfkenkaaGreat
namespace Go.Proofs.YthoeeeehfkenkaaGreat.Tr
open Go Go.TH
attribute [local irreducible] W WO pt
set_option maxRecDepth 10000
set_option maxHeartbeats 1000000
structure VT (m:Int) (rs:List (Int × Int × Int)):Prop where
 n:2≤rs.length∧rs.length≤5
 m:0≤m∧m≤2
 ok:goodTo rs rs.length
theorem VT.of {m:Int} {rs:List (Int × Int × Int)} (h:chkT m rs=0):VT m rs:=by
 unfold chkT at h
 split at h;· omega
 split at h;· omega
 split at h
 ·exact ⟨by omega,by omega,by assumption⟩
 ·omega
theorem VT.to {m:Int} {rs:List (Int × Int × Int)} (h:VT m rs):chkT m rs=0:=by
 have h1:=h.n;have h2:=h.m
 unfold chkT;rw [if_neg (by omega),if_neg (by omega),if_pos h.ok]
def tm (rs:List (Int × Int × Int)) (i:Nat):Int:=(rs.getD i r0).1
theorem VT.run {m:Int} {rs:List (Int × Int × Int)} (h:VT m rs) {i:Nat} (hi:i<rs.length):0≤tm rs i∧tm rs i≤60∧0≤(rs.getD i r0).2.1∧(rs.getD i r0).2.1≤(rs.getD i r0).2.2∧(rs.getD i r0).2.2≤20000:=by
 have h1:=h.ok i hi
 have h2:=prev_in (rs:=rs) (i:=i) (fun j hj=>h.ok j (by omega))
 unfold goodR at h1
 unfold tm;omega
theorem VT.next {m:Int} {rs:List (Int × Int × Int)} (h:VT m rs) {i:Nat} (hi:i+1<rs.length):tm rs i+1≤tm rs (i+1):=by
 have h1:=h.ok (i+1) hi
 unfold goodR at h1
 rw [prevAt_pos (by omega),Nat.add_sub_cancel] at h1
 exact h1.1
theorem VT.lt {m:Int} {rs:List (Int × Int × Int)} (h:VT m rs) {j k:Nat} (hjk:j<k) (hk:k<rs.length):1≤tm rs k-tm rs j∧tm rs k-tm rs j≤60:=by
 have key:∀ d,j+1+d<rs.length→tm rs j+1≤tm rs (j+1+d):=by
  intro d
  induction d with
  | zero=>exact fun hd=>h.next hd
  | succ d ih=>intro hd;have h1:=ih (by omega);have h2:=h.next (i:=j+1+d) hd;rw [show j+1+(d+1)=j+1+d+1 by omega];omega
 have h1:=key (k-j-1) (by omega)
 rw [show j+1+(k-j-1)=k by omega] at h1
 have h2:=h.run (i:=j) (by omega)
 have h3:=h.run hk
 omega
def pairsTo (k:Nat):List (Nat × Nat):=(List.range k).flatMap fun k=>(List.range k).map fun j=>(j,k)
theorem pairsTo_succ (k:Nat):pairsTo (k+1)=pairsTo k++(List.range k).map fun j=>(j,k):=by
 unfold pairsTo;rw [List.range_succ,List.flatMap_append];simp
theorem pairsTo_len (k:Nat):(pairsTo (k+1)).length=(pairsTo k).length+k:=by rw [pairsTo_succ];simp
theorem pairsTo_get {j k:Nat}:∀ {n:Nat},k<n→j<k→(pairsTo n)[(pairsTo k).length+j]?=some (j,k)
 | 0,h,_=>by omega
 | n+1,h,hj=>by
  rw [pairsTo_succ]
  rcases Nat.lt_or_ge k n with h1 | h1
  ·have:=pairsTo_get (n:=n) h1 hj
   rw [List.getElem?_append_left (List.getElem?_eq_some_iff.1 this).1];exact this
  ·obtain rfl:k=n:=by omega
   rw [List.getElem?_append_right (by omega),Nat.add_sub_cancel_left,List.getElem?_map,List.getElem?_range hj]
   rfl
theorem pairsTo_mem {n:Nat} {q:Nat × Nat} (h:q∈pairsTo n):q.1<q.2∧q.2<n:=by
 unfold pairsTo at h
 obtain ⟨k,hk,h⟩:=List.mem_flatMap.1 h
 obtain ⟨j,hj,rfl⟩:=List.mem_map.1 h
 simp at hk hj
 exact ⟨hj,hk⟩
def pairV (q:Nat × Nat):Value × Value:=(.int .i64 (q.1:Int),.int .i64 (q.2:Int))
theorem pairV_get {j k n:Nat} (hk:k<n) (hj:j<k):((pairsTo n).map pairV)[(pairsTo k).length+j]?=some (.int .i64 (j:Int),.int .i64 (k:Int)):=by
 rw [List.getElem?_map,pairsTo_get hk hj];rfl
theorem c_pairs (w:World) (p:Addr):Ct Tryz.prog 126 [.pointer (some p)].toArray w fun v w'=>∃ Hq,(∃ b1,v=.func (.func 214) #[] #[.pointer (some ⟨b1,0,none⟩)] ∧
 Hq=[pt b1 (.cells #[.pointer (some p)] 63 (0,0))])∧Inv w [] Hq w':=by
 refine Ct.of mixed tyTab Tryz.func126 rfl rfl (W.sreg (WO.box1 rfl (by rfl) rfl (fun b1 hb1=>(WO.p rfl rfl (WO.nil (W.sreg (WO.p rfl rfl (WO.p rfl rfl (WO.nil (W.ret ?_))))))))))
 exact fin.ret (Res.one rfl (RV.tmp rfl)) ⟨b1,rfl,rfl⟩
theorem c_pairs1 (B:Nat) (wr:World) (p:Addr) (m:Int) (o:Value) (rest:List Value) (rs:List (Int × Int × Int)) (hP:RdC B wr p (.int .i64 m::o::rest)) (hR:RdF encR 3 B wr o rs) (hn:rs.length≤5)
 (l:Nat) (Hc:Nat→List HP) (hy:∀ k x,((pairsTo rs.length).map pairV)[k]?=some x→YieldOK Tryz.prog B wr l #[x.1,x.2] (Hc k) (Hc (k+1))) (b1:Nat) (w:World) (M':List Nat) (hB:B≤w.heap.size) (hk:∀ k,k<B→w.heap[k]?=wr.heap[k]?) (hM:∀ b∈M',B≤b)
 (hi:Inv w M' ([pt b1 (.cells #[.pointer (some p)] 63 (0,0))]++Hc 0) w) :
 Ct Tryz.prog 214 ([.func (.yield l) #[] #[],.pointer (some ⟨b1,0,none⟩)]:List Value).toArray w fun _ w'=>Inv w M' ([pt b1 (.cells #[.pointer (some p)] 63 (0,0))]++Hc ((pairsTo rs.length).map pairV).length) w':=by
 refine Iter.of mixed tyTab hB hM Tryz.func214 rfl rfl hi ?_
 replace hR:RdF encR 3 (itCx mixed tyTab Tryz.f214.ntmps w M' B hB hM).B (itCx mixed tyTab Tryz.f214.ntmps w M' B hB hM).w0 o rs:=hR.agree hk
 replace hP:RdC (itCx mixed tyTab Tryz.f214.ntmps w M' B hB hM).B (itCx mixed tyTab Tryz.f214.ntmps w M' B hB hM).w0 p (.int .i64 m::o::rest):=hP.agree hk
 have hle:=hR.sl.le
 refine W.sreg (WO.load rfl rfl (Cell.own Pick.head rfl) rfl (WO.p rfl rfl (WO.field0 rfl rfl rfl (WO.field rfl rfl rfl ?_))))
 refine' WO.load (v:=_) rfl rfl ?hc rfl ?_
 case hc=>((refine hP.cellAt ?_;rfl))
 refine WO.len rfl rfl hR.sl rfl (WO.p rfl rfl (WO.nil (W.block ?_)))
 refine W.loop (fun (k:Nat)=>k≤rs.length)
  (fun (k:Nat)=>[(11,.int .i64 (k:Int)),(10,.int .i64 (rs.length:Int)),(0,.func (.yield l) #[] #[]),(1,.pointer (some ⟨b1,0,none⟩))])
  (fun (k:Nat)=>[pt b1 (.cells #[.pointer (some p)] 63 (0,0)),sat (Hc (pairsTo k).length)])
  (fun (k:Nat)=>rs.length-k) 0
  (by exact Nat.zero_le _) ⟨rfl,rfl,rfl,rfl,trivial⟩ (by repeat (first | exact Sub.nil | refine Sub.cons (by repeat exact .head) ?_)) ?_
 rintro k hk'
 refine W.sreg (WO.p rfl rfl (WO.nil (W.seq ?_)))
 refine W.cond_bl rfl (fun c1=>?_) (fun c1=>?_)
 ·refine W.skip (W.seq (W.block (W.sreg (WO.p rfl rfl (WO.p rfl rfl (WO.nil (W.sreg (WO.p rfl rfl (WO.p rfl rfl (WO.nil (W.block ?_)))))))))))
  refine W.loop (fun (j:Nat)=>j≤k)
   (fun (j:Nat)=>[(11,.int .i64 (k:Int)),(10,.int .i64 (rs.length:Int)),(3,.int .i64 (k:Int)),(14,.int .i64 (k:Int)),(15,.int .i64 (j:Int)),(0,.func (.yield l) #[] #[]),(1,.pointer (some ⟨b1,0,none⟩))])
   (fun (j:Nat)=>[pt b1 (.cells #[.pointer (some p)] 63 (0,0)),sat (Hc ((pairsTo k).length+j))])
   (fun (j:Nat)=>k-j) 0
   (by exact Nat.zero_le _) ⟨rfl,rfl,rfl,rfl,rfl,rfl,rfl,trivial⟩ (by repeat (first | exact Sub.nil | refine Sub.cons (by repeat exact .head) ?_)) ?_
  rintro j hj'
  refine W.sreg (WO.p rfl rfl (WO.nil (W.seq ?_)))
  refine W.cond_bl rfl (fun c2=>?_) (fun c2=>?_)
  ·refine W.skip (W.seq (W.block (W.sreg (WO.p rfl rfl (WO.p rfl rfl (WO.nil (W.sreg (WO.p rfl rfl (WO.p rfl rfl (WO.p rfl rfl (WO.yield rfl rfl (by repeat first | exact .head | apply Pick.tail) ((hy _ _ (pairV_get (j:=j) (k:=k) (by omega) (by omega))).one.agree hk) rfl (WO.p rfl rfl (WO.nil (W.cond_f rfl (W.skip (W.region (WO.ar rfl rfl rfl (by unfold in64;omega) rfl (WO.p rfl rfl (WO.nil ?_)))))))))))))))))))
   refine' ⟨j+1,?hp,?hmu,⟨rfl,rfl,rfl,rfl,rfl,rfl,rfl,trivial⟩,?hS⟩
   case hS=>repeat (first | exact Sub.nil | refine Sub.cons (by repeat first | exact .head | apply Pick.tail) ?_)
   case hp=>omega
   case hmu=>omega
  ·refine W.exit (blk_same ?_)
   obtain rfl:k=j:=by omega
   rw [← pairsTo_len]
   refine W.region (WO.ar rfl rfl rfl (by unfold in64;omega) rfl (WO.p rfl rfl (WO.nil ?_)))
   refine' ⟨k+1,?hp,?hmu,⟨rfl,rfl,rfl,rfl,trivial⟩,?hS⟩
   case hS=>repeat (first | exact Sub.nil | refine Sub.cons (by repeat exact .head) ?_)
   case hp=>omega
   case hmu=>omega
 ·refine W.exit (blk_same ?_)
  obtain rfl:k=rs.length:=by omega
  refine fin.normal (Res.none rfl) ?_
  rw [show ((pairsTo rs.length).map pairV).length=(pairsTo rs.length).length by simp]
  exact .cons .head (.cons .head .nil)
end Go.Proofs.YthoeeeehfkenkaaGreat.Tr
