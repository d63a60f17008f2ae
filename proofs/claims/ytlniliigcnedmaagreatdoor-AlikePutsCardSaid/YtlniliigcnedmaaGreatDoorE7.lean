/- Layer 10's laws.  Conditions: none beyond those stated. -/
import Derived.Test.YtlniliigcnedmaaGreatDoorE6
import Derived.Laws.IdiomArrays
import Derived.Test.YtlniliigcnedmaaGreatDoorCards
import Derived.Test.YtlniliigcnedmaaGreatDoorTie
import Derived.Deep.DeepHandedRow
import Derived.Lib.LaidU8
import Derived.OpenShut
set_option linter.unusedSimpArgs false
set_option linter.unusedVariables false
namespace Go.Proofs.YtlniliigcnedmaaGreatDoor
open Go Ax
open Relation
set_option maxRecDepth 100000
theorem check_app {l:List Md} {x:Md} (hc:checkI l=0) (hn:l.length<512) (hx:oneI x l.length=0) (hv:voidsB l x=false) (hf:flexOf x=true→ ∀e∈x.elems,¬FlexP l e.toNat):checkI (l++ [x])=0:=by
 have ok:=okT_of hc
 have h:=checkOk_iff.1 hc
 obtain ⟨_,hxg,_,_⟩:=oneI_zero hx
 have hva: ∀y:Md,(∀e∈y.elems,0≤e∧e<(l.length:Int))→voidsB l y=false→ ¬voidsB (l++ [x]) y=true:=fun y hy hv hv2=>by
  have hve: ∀e∈y.elems,voidE (l++ [x]) e=voidE l e:=fun e he=>by
   have:=hy e he
   unfold voidE
   rw[List.getElem?_append_left (by omega)]
  rw[←Bool.not_eq_true] at hv
  apply hv
  unfold voidsB at hv2 ⊢
  split at hv2
  ·cases hv2
  ·rename_i h12
   rw[if_neg h12]
   split at hv2
   ·rename_i h13
    rw[if_pos h13]
    rw[List.any_eq_true] at hv2 ⊢
    obtain ⟨e,he,hh⟩:=hv2
    exact ⟨e,he,by rw[←hve e (List.dropLast_subset _ he)];exact hh⟩
   ·rename_i h13
    rw[if_neg h13]
    rw[List.any_eq_true] at hv2 ⊢
    obtain ⟨e,he,hh⟩:=hv2
    exact ⟨e,he,by rw[←hve e he];exact hh⟩
 refine checkOk_iff.2 ⟨by simp;omega,fun y hy=>?_,?_,fun r hr hb=>?_,fun y hy hf' e he hp=>?_⟩
 ·rw[List.length_append,List.length_singleton]
  rcases List.mem_append.1 hy with hy|hy
  ·exact one_more (h.one y hy)
  ·simp at hy;subst hy;exact one_more hx
 ·rw[List.any_eq_false]
  intro y hy
  rcases List.mem_append.1 hy with hy'|hy'
  ·exact hva y (ok.good y hy') (by simpa using List.any_eq_false.1 h.void y hy')
  ·simp at hy';subst hy';exact hva y hxg hv
 ·have key: ∀p:Md→Bool,TransGen (stepR (l++ [x]) p) r r→r<l.length∧TransGen (stepR l p) r r:=fun p hp=>by
   have hrl:r<l.length:=by
    rcases Nat.lt_or_ge r l.length with h|h
    ·exact h
    ·have:r=l.length:=by simp at hr;omega
     subst this
     exfalso
     cases hp with
     |single h=>exact no_into ok.good hxg h
     |tail _ h=>exact no_into ok.good hxg h
   exact ⟨hrl,(tg_app ok.good hrl hp).1⟩
  rcases hb with hb|hb
  ·obtain ⟨h1,h2⟩:=key _ hb;exact h.bad r h1 (.inl h2)
  ·obtain ⟨h1,h2⟩:=key _ hb;exact h.bad r h1 (.inr h2)
 ·rcases List.mem_append.1 hy with hy'|hy'
  ·have:=ok.good y hy' e he
   exact h.flex y hy' hf' e he (flex_app ok.good (by omega) hp)
  ·simp at hy'
   subst hy'
   have:=hxg e he
   exact hf hf' e he (flex_app ok.good (by omega) hp)
inductive Ext (l:List Md):List Md→Prop
 |refl:Ext l l
 |step {k:List Md} {x:Md}:Ext l k→checkI (k++ [x])=0→Ext l (k++ [x])
section
variable {l k:List Md}
theorem FlexP.more {x:Md} {a:Nat} (h:FlexP l a):FlexP (l++ [x]) a:=by
 induction h with
 |flex h1 h2 h3=>exact .flex (by rw[List.getElem?_append_left (List.getElem?_eq_some_iff.1 h1).1];exact h1) h2 h3
 |step h1 _ ih=>
  obtain ⟨y,g1,g2⟩:=h1
  exact .step ⟨y,by rw[List.getElem?_append_left (List.getElem?_eq_some_iff.1 g1).1];exact g1,g2⟩ ih
theorem Ext.trans {j:List Md} (h:Ext l k) (h':Ext k j):Ext l j:=by
 induction h' with
 |refl=>exact h
 |step _ hc ih=>exact .step ih hc
theorem Ext.len (h:Ext l k):l.length≤k.length:=by
 induction h with
 |refl=>omega
 |step _ _ ih=>simp;omega
theorem Ext.check (h:Ext l k) (hc:checkI l=0):checkI k=0:=by cases h<;>assumption
theorem Ext.get (h:Ext l k) {a:Nat} (ha:a<l.length):k[a]? =l[a]? :=by
 induction h with
 |refl=>rfl
 |step h' _ ih=>rw[List.getElem?_append_left (by have:=h'.len;omega),ih]
theorem Ext.md (h:Ext l k) {a:Nat} (ha:a<l.length):mdAt k a=mdAt l a:=by unfold mdAt;rw[h.get ha]
theorem Ext.rr (h:Ext l k) (hc:checkI l=0) {a b:Nat} (ha:a<l.length) (hb:b<l.length):RR k a=RR k b↔RR l a=RR l b:=by
 induction h with
 |refl=>exact Iff.rfl
 |step h' hc' ih=>
  have hck:=h'.check hc
  have hl:=h'.len
  rw[←ih]
  exact ⟨fun e=>RR_app (okT_of hck).good (okT_of hc').good (by omega) (by omega) e,fun e=>RR_grow (okT_of hck).good (by omega) (by omega) e⟩
theorem Ext.flex (h:Ext l k) (hc:checkI l=0) {a:Nat} (ha:a<l.length):FlexP k a↔FlexP l a:=by
 induction h with
 |refl=>exact Iff.rfl
 |step h' hc' ih=>
  have hck:=h'.check hc
  have hl:=h'.len
  rw[←ih]
  exact ⟨fun e=>flex_app (okT_of hck).good (by omega) e,fun e=>e.more⟩
theorem Ext.part (h:Ext l k) (hc:checkI l=0) {a j:Nat} (ha:a<l.length):IsPart k a j↔IsPart l a j:=by
 induction h with
 |refl=>exact Iff.rfl
 |step h' hc' ih=>
  have hck:=h'.check hc
  have hl:=h'.len
  rw[←ih]
  exact part_old (okT_of hck).good (by omega)
theorem Ext.base (h:Ext l k) (hc:checkI l=0) {a j:Nat} (ha:a<l.length):IsBase k a j↔IsBase l a j:=by
 unfold IsBase
 rw[h.md ha]
 split
 ·exact h.part hc ha
 ·exact Iff.rfl
end
theorem firstC_all {x y:Md} (h:firstC x y=0):x.kind=y.kind∧x.size=y.size∧x.dims=y.dims∧x.flex=y.flex∧(x.kind≠12→x.elems.length=y.elems.length)∧lexC cmpS x.names y.names=0:=by
 have hz: ∀{x:Int} {xs:List Int},firstNZ (x::xs)=0→x=0∧firstNZ xs=0:=fun {x xs} h=>by
  rw[firstNZ_cons] at h
  split at h
  ·omega
  ·rename_i h0;exact ⟨by omega,h⟩
 unfold firstC firstL at h
 obtain ⟨h1,h⟩:=hz h
 obtain ⟨h2,h⟩:=hz h
 obtain ⟨h3,h⟩:=hz h
 obtain ⟨h4,h⟩:=hz h
 obtain ⟨h5,h⟩:=hz h
 obtain ⟨h6,h⟩:=hz h
 refine ⟨cmpI_zero.1 h1,cmpI_zero.1 h2,cmpI_zero.1 h3,?_,fun hk=>?_,h6⟩
 ·have:=cmpI_zero.1 h4
  cases hx1:x.flex<;>cases hx2:y.flex<;>simp[bi,hx1,hx2] at this ⊢
 ·unfold lenC at h5
  rw[if_neg hk] at h5
  have:=cmpI_zero.1 h5
  omega
def sameX (l:List Md) (i:Nat) (x:Md):Prop:=firstC (mdAt l i) x=0∧ ∀(k:Nat) (e e':Int),(mdAt l i).elems[k]? =some e→x.elems[k]? =some e'→RR l e.toNat=RR l e'.toNat
theorem elem_lt {l:List Md} (hg:goodT l) {a k:Nat} {e:Int} (ha:a<l.length) (h:(mdAt l a).elems[k]? =some e):0≤e∧e.toNat<l.length:=by
 have:=hg (mdAt l a) (by rw[mdAt_eq ha];exact List.getElem_mem ha) e (List.mem_of_getElem? h)
 omega
theorem last_iff {l:List Md} {x:Md} (hc:checkI l=0) (hc':checkI (l++ [x])=0) (hx: ∀e∈x.elems,0≤e∧e<(l.length:Int)) (hu:isU x=false) {i:Nat} (hi:i<l.length):RR (l++ [x]) i=RR (l++ [x]) l.length↔sameX l i x:=by
 have hg:=(okT_of hc).good
 have hg':=(okT_of hc').good
 have hl:(l++ [x]).length=l.length+1:=by simp
 constructor
 ·intro h
  have hf:=RR_first (by omega) (by omega) h
  rw[mdAt_app hi,mdAt_last] at hf
  have hui:isU (mdAt (l++ [x]) i)=false:=by
   rw[mdAt_app hi];unfold isU at hu ⊢;rw[firstC_kind hf];exact hu
  refine ⟨hf,fun k e e' h1 h2=>?_⟩
  have:=(RR_elem hg' (by omega) (by omega) h hui).2 k e e' (by rw[mdAt_app hi];exact h1) (by rw[mdAt_last];exact h2)
  have b1:=elem_lt hg hi h1
  have b2:=hx e' (List.mem_of_getElem? h2)
  exact RR_app hg hg' b1.2 (by omega) this
 ·rintro ⟨hf,he⟩
  have hfa:=firstC_all hf
  have hui:isU (mdAt l i)=false:=by unfold isU at hu ⊢;rw[hfa.1];exact hu
  have hk12:(mdAt l i).kind≠12:=by intro h;simp[isU,h] at hui
  refine Bisim.RR (E:=fun a b=>(a<l.length+1∧b<l.length+1∧RR (l++ [x]) a=RR (l++ [x]) b)∨(a=i∧b=l.length)) ⟨fun a b h=>by omega,fun a b h=>?_,fun a b j h hua hj=>?_,fun a b j h hub hj=>?_,fun a b h hua=>?_,fun a b k e e' h hua h1 h2=>?_⟩ (.inr ⟨rfl,rfl⟩)
  ·rcases h with h|⟨rfl,rfl⟩
   ·exact RR_first (by omega) (by omega) h.2.2
   ·rw[mdAt_app hi,mdAt_last];exact hf
  ·rcases h with h|⟨rfl,rfl⟩
   ·obtain ⟨j',h1,h2⟩:=RR_part hg' (by omega) (by omega) h.2.2 hua hj
    have b1:=hj.lt hg'
    have b2:=h1.lt hg'
    exact ⟨j',h1,.inl ⟨by omega,by omega,h2⟩⟩
   ·rw[mdAt_app hi,hui] at hua;cases hua
  ·rcases h with h|⟨rfl,rfl⟩
   ·obtain ⟨j',h1,h2⟩:=RR_part hg' (by omega) (by omega) h.2.2.symm hub hj
    have b1:=hj.lt hg'
    have b2:=h1.lt hg'
    exact ⟨j',h1,.inl ⟨by omega,by omega,h2.symm⟩⟩
   ·rw[mdAt_last,hu] at hub;cases hub
  ·rcases h with h|⟨rfl,rfl⟩
   ·exact (RR_elem hg' (by omega) (by omega) h.2.2 hua).1
   ·rw[mdAt_app hi,mdAt_last];exact hfa.2.2.2.2.1 hk12
  ·rcases h with h|⟨rfl,rfl⟩
   ·have b1:=elem_lt hg' (by omega) h1
    have b2:=elem_lt hg' (by omega) h2
    exact .inl ⟨by omega,by omega,(RR_elem hg' (by omega) (by omega) h.2.2 hua).2 k e e' h1 h2⟩
   ·rw[mdAt_app hi] at h1
    rw[mdAt_last] at h2
    have b1:=elem_lt hg hi h1
    have b2:=hx e' (List.mem_of_getElem? h2)
    exact .inl ⟨by omega,by omega,RR_grow hg b1.2 (by omega) (he k e e' h1 h2)⟩
theorem putI_check {l l2:List Md} {x:Md} {n:Int} (hc:checkI l=0) (h:putI l x=(l2,n,0)):checkI (l++ [x])=0:=by
 by_cases hcc:checkI (l++ [x])=0
 ·exact hcc
 ·exfalso
  have hf:findI l x=none:=by
   unfold findI
   split
   ·rfl
   ·first|rfl|rw[if_pos hcc]
  unfold putI at h
  rw[if_neg (by simp[hc]),hf] at h
  simp only[ne_eq,hcc,not_false_eq_true,if_true,Prod.mk.injEq] at h
  exact h.2.2
open Classical in
theorem putI_row {l:List Md} {x:Md} (hc:checkI l=0) (hc':checkI (l++ [x])=0) (hx: ∀e∈x.elems,0≤e∧e<(l.length:Int)) (hu:isU x=false):
  (∃j:Nat,j<l.length∧putI l x=(l,(j:Int),0)∧sameX l j x∧ ∀i,i<j→ ¬sameX l i x)∨(putI l x=(l++ [x],(l.length:Int),0)∧ ∀i,i<l.length→ ¬sameX l i x):=by
 have hin: ∀e∈x.elems,outB l.length e=false:=fun e he=>by
  have:=hx e he
  simp[outB];omega
 rcases fidx_first (p:=fun i=>decide (sameX l i x)) l.length 0 with ⟨_,h2⟩|⟨j,_,hj,h1,h2,h3⟩
 ·have hno: ∀i,i<l.length→ ¬sameX l i x:=fun i hi=>by simpa using h2 i (by omega) (by omega)
  refine .inr ⟨?_,hno⟩
  have hf:=findI_last hin hc' fun i hi e=>hno i hi ((last_iff hc hc' hx hu hi).1 e)
  unfold putI
  rw[if_neg (by simp[hc]),hf]
  simp only[ne_eq,hc',not_true_eq_false,if_false]
 ·have hjl:j<l.length:=by omega
  have hs:sameX l j x:=by simpa using h2
  have hno: ∀i,i<j→ ¬sameX l i x:=fun i hi=>by simpa using h3 i (by omega) hi
  refine .inl ⟨j,hjl,?_,hs,hno⟩
  have hf:=findI_some hin hc' hjl ((last_iff hc hc' hx hu hjl).2 hs) fun i hi e=>hno i hi ((last_iff hc hc' hx hu (by omega)).1 e)
  unfold putI
  rw[if_neg (by simp[hc]),hf]
def deflX (y:Md) (es:List Nat):Md:=⟨y.kind,y.size,es.map fun z:Nat=>(z:Int),y.names,y.dims,false⟩
inductive DefL:List Md→List Nat→List Md→List Nat→Prop
 |nil {l:List Md}:DefL l [] l []
 |flat {l l':List Md} {m:Nat} {ms ns:List Nat}: ¬FlexP l m→DefL l ms l' ns→DefL l (m::ms) l' (m::ns)
 |flex {l l1 l2 l':List Md} {m n:Nat} {ms ns es:List Nat}:FlexP l m→DefL l ((mdAt l m).elems.map Int.toNat) l1 es→putI l1 (deflX (mdAt l m) es)=(l2,(n:Int),0)→DefL l2 ms l' ns→DefL l (m::ms) l' (n::ns)
theorem DefL.det {l l':List Md} {ms ns:List Nat} (h:DefL l ms l' ns): ∀{l'':List Md} {ns':List Nat},DefL l ms l'' ns'→l'=l''∧ns=ns':=by
 induction h with
 |nil=>intro l'' ns' h';cases h';exact ⟨rfl,rfl⟩
 |flat hf _ ih=>
  intro l'' ns' h'
  cases h' with
  |flat _ h2=>obtain ⟨rfl,rfl⟩:=ih h2;exact ⟨rfl,rfl⟩
  |flex h1 _ _ _=>exact absurd h1 hf
 |flex hf _ hp _ ih1 ih2=>
  intro l'' ns' h'
  cases h' with
  |flat h1 _=>exact absurd hf h1
  |flex _ h1 h2 h3=>
   obtain ⟨rfl,rfl⟩:=ih1 h1
   rw[hp] at h2
   simp only[Prod.mk.injEq,Int.natCast_inj,and_true] at h2
   obtain ⟨rfl,rfl⟩:=h2
   obtain ⟨rfl,rfl⟩:=ih2 h3
   exact ⟨rfl,rfl⟩
theorem DefL.append {l l1 l':List Md} {ms ns ms' ns':List Nat} (h:DefL l ms l1 ns) (h':DefL l1 ms' l' ns'):DefL l (ms++ms') l' (ns++ns'):=by
 induction h with
 |nil=>exact h'
 |flat hf _ ih=>exact .flat hf (ih h')
 |flex hf h1 hp _ _ ih=>exact .flex hf h1 hp (ih h')
theorem deflX_range {l:List Md} {y:Md} {es:List Nat} (h: ∀e∈es,e<l.length): ∀e∈(deflX y es).elems,0≤e∧e<(l.length:Int):=fun e he=>by
 obtain ⟨z,hz,rfl⟩:=List.mem_map.1 he
 have:=h z hz
 omega
theorem rs_isU {y:Md} (h:rowStruct y=true):isU y=false:=by
 unfold rowStruct at h
 simp only[Bool.or_eq_true,beq_iff_eq] at h
 simp[isU]
 omega
theorem FlexP.rs {l:List Md} {m:Nat} (h:FlexP l m):m<l.length∧rowStruct (mdAt l m)=true:=by
 cases h with
 |flex h1 h2 _=>
  obtain ⟨h3,rfl⟩:=List.getElem?_eq_some_iff.1 h1
  exact ⟨h3,by rw[mdAt_eq h3];exact h2⟩
 |step h1 _=>
  obtain ⟨x,h1,h2,_⟩:=h1
  obtain ⟨h3,rfl⟩:=List.getElem?_eq_some_iff.1 h1
  exact ⟨h3,by rw[mdAt_eq h3];exact h2⟩
theorem sameX_nflex {l:List Md} {y:Md} {es:List Nat} (hc:checkI l=0) (hr: ∀e∈es,e<l.length∧ ¬FlexP l e) {j:Nat} (hj:j<l.length) (h:sameX l j (deflX y es)): ¬FlexP l j:=by
 intro hp
 have hg:=(okT_of hc).good
 have hfa:=firstC_all h.1
 cases hp with
 | @flex _ x h1 _ h3=>
  have:mdAt l j=x:=by unfold mdAt;rw[h1];rfl
  rw[this] at hfa
  rw[hfa.2.2.2.1] at h3
  cases h3
 | @step _ c h1 h2=>
  obtain ⟨x,g1,g2,g3⟩:=h1
  have hx:mdAt l j=x:=by unfold mdAt;rw[g1];rfl
  have hk12:(mdAt l j).kind≠12:=by
   rw[hx];unfold rowStruct at g2;simp only[Bool.or_eq_true,beq_iff_eq] at g2;omega
  have hle:=hfa.2.2.2.2.1 hk12
  rw[←hx] at g3
  obtain ⟨k,hk,hke⟩:=List.mem_iff_getElem.1 g3
  have hkd:k<(deflX y es).elems.length:=by omega
  have hk2:k<es.length:=by simpa[deflX] using hkd
  have:=h.2 k _ _ (List.getElem?_eq_getElem hk) (List.getElem?_eq_getElem hkd)
  rw[hke] at this
  have hd:(deflX y es).elems[k]=(es[k]:Int):=by simp[deflX]
  rw[hd,Int.toNat_natCast,Int.toNat_natCast] at this
  have hes:=hr es[k] (List.getElem_mem hk2)
  exact hes.2 (h2.congr hg h2.rs.1 hes.1 this)
theorem last_nflex {l:List Md} {y:Md} {es:List Nat} (hc:checkI l=0) (hr: ∀e∈es,e<l.length∧ ¬FlexP l e): ¬FlexP (l++ [deflX y es]) l.length:=by
 intro hp
 have hg:=(okT_of hc).good
 cases hp with
 |flex h1 _ h3=>
  rw[List.getElem?_concat_length] at h1
  simp only[Option.some.injEq] at h1
  subst h1
  cases h3
 | @step _ c h1 h2=>
  obtain ⟨x,g1,g2,g3⟩:=h1
  rw[List.getElem?_concat_length] at g1
  simp only[Option.some.injEq] at g1
  subst g1
  obtain ⟨z,hz,he⟩:=List.mem_map.1 g3
  have hzc:z=c:=by omega
  subst hzc
  have:=hr z hz
  exact this.2 (flex_app hg this.1 h2)
structure DefOk (l:List Md) (ms:List Nat) (l':List Md) (ns:List Nat):Prop where
 ext:Ext l l'
 len:ns.length=ms.length
 at_: ∀(i m n:Nat),ms[i]? =some m→ns[i]? =some n→n<l'.length∧(mdAt l' n).kind=(mdAt l m).kind∧ ¬FlexP l' n∧(¬FlexP l m→n=m)
theorem elems_lt {l:List Md} (hg:goodT l) {m:Nat} (hm:m<l.length): ∀e∈(mdAt l m).elems.map Int.toNat,e<l.length:=fun e he=>by
 obtain ⟨z,hz,rfl⟩:=List.mem_map.1 he
 have:=hg (mdAt l m) (by rw[mdAt_eq hm];exact List.getElem_mem hm) z hz
 omega
theorem put_defl {l l1 l2:List Md} {m n:Nat} {es:List Nat} (hc1:checkI l1=0) (hf:FlexP l m) (hr: ∀e∈es,e<l1.length∧ ¬FlexP l1 e) (hp:putI l1 (deflX (mdAt l m) es)=(l2,(n:Int),0)):
  Ext l1 l2∧checkI (l1++ [deflX (mdAt l m) es])=0∧n<l2.length∧(mdAt l2 n).kind=(mdAt l m).kind∧ ¬FlexP l2 n∧l2.length≤l1.length+1:=by
 have hc':=putI_check hc1 hp
 have hu:isU (deflX (mdAt l m) es)=false:=by
  have:=rs_isU hf.rs.2
  unfold isU at this ⊢;exact this
 rcases putI_row hc1 hc' (deflX_range fun e he=>(hr e he).1) hu with ⟨j,hj,h1,h2,_⟩|⟨h1,h2⟩
 ·rw[hp] at h1
  simp only[Prod.mk.injEq,Int.natCast_inj,and_true] at h1
  obtain ⟨rfl,rfl⟩:=h1
  exact ⟨.refl,hc',hj,(firstC_all h2.1).1,sameX_nflex hc1 hr hj h2,by omega⟩
 ·rw[hp] at h1
  simp only[Prod.mk.injEq,Int.natCast_inj,and_true] at h1
  obtain ⟨rfl,rfl⟩:=h1
  exact ⟨.step .refl hc',hc',by simp,by rw[mdAt_last];rfl,last_nflex hc1 hr,by simp⟩
theorem DefL.ok {l l':List Md} {ms ns:List Nat} (h:DefL l ms l' ns):checkI l=0→(∀m∈ms,m<l.length)→DefOk l ms l' ns:=by
 induction h with
 |nil=>exact fun _ _=>⟨.refl,rfl,fun i m n h=>by simp at h⟩
 | @flat l l' m ms ns hf _ ih=>
  intro hc hm
  obtain ⟨e,hl,ha⟩:=ih hc fun x hx=>hm x (List.mem_cons_of_mem _ hx)
  have hml:=hm m List.mem_cons_self
  have:=e.len
  refine ⟨e,by simp[hl],fun i x n h1 h2=>?_⟩
  cases i with
  |zero=>
   simp only[List.getElem?_cons_zero,Option.some.injEq] at h1 h2
   subst h1 h2
   exact ⟨by omega,by rw[e.md hml],fun h=>hf ((e.flex hc hml).1 h),fun _=>rfl⟩
  |succ i=>exact ha i x n (by simpa using h1) (by simpa using h2)
 | @flex l l1 l2 l' m n ms ns es hf _ hp _ ih1 ih2=>
  intro hc hm
  have hg:=(okT_of hc).good
  have hml:=hm m List.mem_cons_self
  obtain ⟨e1,hl1,ha1⟩:=ih1 hc (elems_lt hg hml)
  have hc1:=e1.check hc
  have hr: ∀e∈es,e<l1.length∧ ¬FlexP l1 e:=fun e he=>by
   obtain ⟨k,hk,rfl⟩:=List.mem_iff_getElem.1 he
   have hk':k<((mdAt l m).elems.map Int.toNat).length:=by omega
   have:=ha1 k _ _ (List.getElem?_eq_getElem hk') (List.getElem?_eq_getElem hk)
   exact ⟨this.1,this.2.2.1⟩
  obtain ⟨e12,_,hn2,hk2,hf2,_⟩:=put_defl hc1 hf hr hp
  have e2:=e1.trans e12
  have hc2:=e2.check hc
  have hl2:=e2.len
  obtain ⟨e3,hl3,ha3⟩:=ih2 hc2 fun x hx=>by have:=hm x (List.mem_cons_of_mem _ hx);omega
  have hl3':=e3.len
  refine ⟨e2.trans e3,by simp[hl3],fun i x y h1 h2=>?_⟩
  cases i with
  |zero=>
   simp only[List.getElem?_cons_zero,Option.some.injEq] at h1 h2
   subst h1 h2
   exact ⟨by omega,by rw[e3.md hn2,hk2],fun h=>hf2 ((e3.flex hc2 hn2).1 h),fun h=>absurd hf h⟩
  |succ i=>
   simp only[List.getElem?_cons_succ] at h1 h2
   have hxl:=hm x (List.mem_cons_of_mem _ (List.mem_of_getElem? h1))
   obtain ⟨b1,b2,b3,b4⟩:=ha3 i x y h1 h2
   exact ⟨b1,by rw[b2,e2.md hxl],b3,fun h=>b4 fun h'=>h ((e2.flex hc hxl).1 h')⟩
theorem defl_check {l l1:List Md} {m:Nat} {es:List Nat} (hc:checkI l=0) (hn:l1.length<512) (hm:m<l.length) (hrs:rowStruct (mdAt l m)=true) (e1:Ext l l1) (hl:es.length=(mdAt l m).elems.length) (ha: ∀(k:Nat) (e:Int) (n:Nat),(mdAt l m).elems[k]? =some e→es[k]? =some n→n<l1.length∧(mdAt l1 n).kind=(mdAt l e.toNat).kind):checkI (l1++ [deflX (mdAt l m) es])=0:=by
 have hmem:mdAt l m∈l:=by rw[mdAt_eq hm];exact List.getElem_mem hm
 have h:=checkOk_iff.1 hc
 have hg:=(okT_of hc).good
 have hone:=h.one _ hmem
 obtain ⟨o1,o2,o3,o4⟩:=oneI_zero hone
 have hk:(mdAt l m).kind=10∨(mdAt l m).kind=11:=by
  unfold rowStruct at hrs;simpa only[Bool.or_eq_true,beq_iff_eq] using hrs
 have hes: ∀(k:Nat) (n:Nat),es[k]? =some n→ ∃e,(mdAt l m).elems[k]? =some e∧n<l1.length∧(mdAt l1 n).kind=(mdAt l e.toNat).kind:=fun k n hn=>by
  have hk2:k<(mdAt l m).elems.length:=by
   have:=(List.getElem?_eq_some_iff.1 hn).1;omega
  exact ⟨_,List.getElem?_eq_getElem hk2,ha k _ n (List.getElem?_eq_getElem hk2) hn⟩
 have hin: ∀e∈es,e<l1.length:=fun e he=>by
  obtain ⟨k,hk,rfl⟩:=List.mem_iff_getElem.1 he
  obtain ⟨_,_,h1,_⟩:=hes k _ (List.getElem?_eq_getElem hk)
  exact h1
 refine check_app (e1.check hc) hn ?_ ?_ fun hf=>?_
 ·have hsh:shapeI (deflX (mdAt l m) es)=0:=by
   obtain ⟨s1,s2,s3,s4⟩:=shapeI_zero o1
   obtain ⟨p1,p2,p3,p4,p5,p6⟩:=s3
   unfold shapeI
   rw[if_neg (by simp only[deflX];omega),if_pos,if_neg (by simp only[deflX,List.length_map];omega)]
   have hlen:(deflX (mdAt l m) es).elems.length=(mdAt l m).elems.length:=by simp[deflX,hl]
   refine ⟨?_,?_,?_,p4,p5,fun h=>by cases h⟩
   ·rw[hlen];exact p1
   ·unfold most at p2 ⊢;rw[hlen];exact p2
   ·unfold nNames at p3 ⊢;rw[hlen];exact p3
  unfold oneI
  rw[if_neg (by simp[hsh]),if_neg,if_neg,if_neg (by simp only[deflX];rw[o4];simp)]
  ·simp only[List.any_eq_true,not_exists,not_and]
   intro s hs
   simp[o3 s hs]
  ·simp only[List.any_eq_true,not_exists,not_and]
   intro e he
   have:=deflX_range hin e he
   simp[outB];omega
 ·have hv:=List.any_eq_false.1 h.void _ hmem
  unfold voidsB at hv ⊢
  have q12: ¬(mdAt l m).kind=12:=by omega
  have q13: ¬(mdAt l m).kind=13:=by omega
  rw[if_neg q12,if_neg q13] at hv
  rw[if_neg (by simp only[deflX];exact q12),if_neg (by simp only[deflX];exact q13),List.any_eq_false]
  intro e he hv2
  apply hv
  obtain ⟨z,hz,rfl⟩:=List.mem_map.1 he
  obtain ⟨k,hk,rfl⟩:=List.mem_iff_getElem.1 hz
  obtain ⟨e,h1,h2,h3⟩:=hes k _ (List.getElem?_eq_getElem hk)
  rw[List.any_eq_true]
  refine ⟨e,List.mem_of_getElem? h1,?_⟩
  have hb:=elem_lt hg hm h1
  unfold voidE at hv2 ⊢
  rw[Int.toNat_natCast,List.getElem?_eq_getElem h2] at hv2
  rw[List.getElem?_eq_getElem hb.2]
  rw[mdAt_eq h2,mdAt_eq hb.2] at h3
  simpa only[Option.any_some,h3] using hv2
 ·exfalso
  unfold flexOf at hf
  simp only[deflX,Bool.or_eq_true,beq_iff_eq] at hf
  omega
theorem sameX_ext {l k:List Md} {x:Md} (e:Ext l k) (hc:checkI l=0) (hx: ∀e∈x.elems,0≤e∧e<(l.length:Int)) {i:Nat} (hi:i<l.length):sameX k i x↔sameX l i x:=by
 have hg:=(okT_of hc).good
 unfold sameX
 rw[e.md hi]
 refine and_congr_right fun _=>⟨fun h j a b h1 h2=>?_,fun h j a b h1 h2=>?_⟩
 ·have b1:=elem_lt hg hi h1
  have b2:=hx b (List.mem_of_getElem? h2)
  exact (e.rr hc b1.2 (by omega)).1 (h j a b h1 h2)
 ·have b1:=elem_lt hg hi h1
  have b2:=hx b (List.mem_of_getElem? h2)
  exact (e.rr hc b1.2 (by omega)).2 (h j a b h1 h2)
theorem DefL.stable {l l':List Md} {ms ns:List Nat} (h:DefL l ms l' ns):checkI l=0→(∀m∈ms,m<l.length)→ ∀{k:List Md},Ext l' k→k.length<512→DefL k ms k ns:=by
 induction h with
 |nil=>exact fun _ _ _ _ _=> .nil
 | @flat l l' m ms ns hf h ih=>
  intro hc hm k e hn
  have hms:=fun x hx=>hm x (List.mem_cons_of_mem _ hx)
  have hml:=hm m List.mem_cons_self
  have e1:=(h.ok hc hms).ext.trans e
  exact .flat (fun h=>hf ((e1.flex hc hml).1 h)) (ih hc hms e hn)
 | @flex l l1 l2 l' m n ms ns es hf h1 hp h2 ih1 ih2=>
  intro hc hm k e hn
  have hms:=fun x hx=>hm x (List.mem_cons_of_mem _ hx)
  have hml:=hm m List.mem_cons_self
  have hg:=(okT_of hc).good
  have ok1:=h1.ok hc (elems_lt hg hml)
  have hc1:=ok1.ext.check hc
  have hr: ∀e∈es,e<l1.length∧ ¬FlexP l1 e:=fun e he=>by
   obtain ⟨k,hk,rfl⟩:=List.mem_iff_getElem.1 he
   have hk':k<((mdAt l m).elems.map Int.toNat).length:=by have:=ok1.len;omega
   have:=ok1.at_ k _ _ (List.getElem?_eq_getElem hk') (List.getElem?_eq_getElem hk)
   exact ⟨this.1,this.2.2.1⟩
  obtain ⟨e12,hc12,hn2,hk2,hf2,_⟩:=put_defl hc1 hf hr hp
  have e2:=ok1.ext.trans e12
  have hc2:=e2.check hc
  have hl2:=e2.len
  have hms2: ∀x∈ms,x<l2.length:=fun x hx=>by have:=hms x hx;omega
  have ok2:=h2.ok hc2 hms2
  have e2k:=ok2.ext.trans e
  have e1k:=e12.trans e2k
  have ek:=e2.trans e2k
  have hck:=ek.check hc
  have hu:isU (deflX (mdAt l m) es)=false:=by
   have:=rs_isU hf.rs.2
   unfold isU at this ⊢;exact this
  have hl1k:=e1k.len
  have hl2k:=e2k.len
  have hx1:=deflX_range (l:=l1) (y:=mdAt l m) (es:=es) fun e he=>(hr e he).1
  have hxk:=deflX_range (l:=k) (y:=mdAt l m) (es:=es) fun e he=>by have:=(hr e he).1;omega
  have hcx:checkI (k++ [deflX (mdAt l m) es])=0:=by
   have hlen:=ok1.len
   rw[List.length_map] at hlen
   refine defl_check hc hn hml hf.rs.2 ek hlen fun i e n h3 h4=>?_
   have:=ok1.at_ i e.toNat n (by rw[List.getElem?_map,h3];rfl) h4
   exact ⟨by omega,by rw[e1k.md this.1];exact this.2.1⟩
  have hput:putI k (deflX (mdAt k m) es)=(k,(n:Int),0):=by
   rw[ek.md hml]
   have hsn:sameX l2 n (deflX (mdAt l m) es)∧ ∀i,i<n→ ¬sameX l2 i (deflX (mdAt l m) es):=by
    rcases putI_row hc1 hc12 hx1 hu with ⟨j,hj,g1,g2,g3⟩|⟨g1,g2⟩
    ·rw[hp] at g1
     simp only[Prod.mk.injEq,Int.natCast_inj,and_true] at g1
     obtain ⟨rfl,rfl⟩:=g1
     exact ⟨g2,g3⟩
    ·rw[hp] at g1
     simp only[Prod.mk.injEq,Int.natCast_inj,and_true] at g1
     obtain ⟨rfl,rfl⟩:=g1
     refine ⟨⟨by rw[mdAt_last];exact firstC_ord.self trivial,fun i a b h3 h4=>?_⟩,fun i hi h3=>g2 i hi ((sameX_ext e12 hc1 hx1 hi).1 h3)⟩
     rw[mdAt_last] at h3
     rw[h3] at h4
     simp only[Option.some.injEq] at h4
     rw[h4]
   have hx2:=deflX_range (l:=l2) (y:=mdAt l m) (es:=es) fun e he=>by have:=(hr e he).1;have:=e12.len;omega
   have hsk:=(sameX_ext e2k hc2 hx2 hn2).2 hsn.1
   rcases putI_row hck hcx hxk hu with ⟨j,hj,g1,g2,g3⟩|⟨g1,g2⟩
   ·have hjn:j=n:=by
     rcases Nat.lt_trichotomy j n with h|h|h
     ·exact absurd ((sameX_ext e2k hc2 hx2 (by omega)).1 g2) (hsn.2 j h)
     ·exact h
     ·exact absurd hsk (g3 n h)
    rw[g1,hjn]
   ·exact absurd hsk (g2 n (by omega))
  refine .flex ((ek.flex hc hml).2 hf) ?_ hput (ih2 hc2 hms2 e hn)
  rw[ek.md hml]
  exact ih1 hc (elems_lt hg hml) e1k hn
end Go.Proofs.YtlniliigcnedmaaGreatDoor
namespace Go.Proofs.YtlniliigcnedmaaGreatDoor
open Go Ax
open Relation
set_option maxRecDepth 100000
theorem DefL.es {l l1:List Md} {m:Nat} {es:List Nat} (hc:checkI l=0) (hm:m<l.length) (h1:DefL l ((mdAt l m).elems.map Int.toNat) l1 es):es.length=(mdAt l m).elems.length∧ ∀e∈es,e<l1.length∧ ¬FlexP l1 e:=by
 have ok1:=h1.ok hc (elems_lt (okT_of hc).good hm)
 have hl:=ok1.len
 rw[List.length_map] at hl
 refine ⟨hl,fun e he=>?_⟩
 obtain ⟨k,hk,rfl⟩:=List.mem_iff_getElem.1 he
 have hk':k<((mdAt l m).elems.map Int.toNat).length:=by simp;omega
 have:=ok1.at_ k _ _ (List.getElem?_eq_getElem hk') (List.getElem?_eq_getElem hk)
 exact ⟨this.1,this.2.2.1⟩
theorem put_cases {l1 l2:List Md} {x:Md} {n:Int} (hc1:checkI l1=0) (h:putI l1 x=(l2,n,0)):l2=l1∨l2=l1++ [x]:=by
 unfold putI at h
 rw[if_neg (by simp[hc1])] at h
 split at h
 ·simp only[Prod.mk.injEq] at h;exact .inl h.1.symm
 ·split at h
  ·rename_i hc;simp only[Prod.mk.injEq] at h;exact absurd h.2.2 hc
  ·simp only[Prod.mk.injEq] at h;exact .inr h.1.symm
def Few (l:List Md):Prop:= ∀(x:Nat) (O:List Nat),O.Nodup→(∀j∈O,IsPart l x j)→O.length≤12
theorem Few.more {l:List Md} {x:Md} (h:Few l) (hg:goodT l) (hu:isU x=false):Few (l++ [x]):=fun a O hO hj=>by
 cases O with
 |nil=>simp
 |cons o O=>
  have ha:=part_in (hj o List.mem_cons_self)
  rw[List.length_append,List.length_singleton] at ha
  by_cases hal:a<l.length
  ·exact h a (o::O) hO fun j hj'=>(part_old hg hal).1 (hj j hj')
  ·obtain rfl:a=l.length:=by omega
   have:=part_head (by simp) (hj o List.mem_cons_self)
   rw[mdAt_last,hu] at this
   cases this
theorem DefL.few {l l':List Md} {ms ns:List Nat} (h:DefL l ms l' ns):checkI l=0→(∀m∈ms,m<l.length)→Few l→Few l':=by
 induction h with
 |nil=>exact fun _ _ h=>h
 |flat _ _ ih=>exact fun hc hm=>ih hc fun x hx=>hm x (List.mem_cons_of_mem _ hx)
 | @flex l l1 l2 l' m n ms ns es hf h1 hp h2 ih1 ih2=>
  intro hc hm hfw
  have hml:=hm m List.mem_cons_self
  have hel:=elems_lt (okT_of hc).good hml
  have ok1:=h1.ok hc hel
  have hc1:=ok1.ext.check hc
  obtain ⟨hl,hr⟩:=h1.es hc hml
  obtain ⟨e12,_⟩:=put_defl hc1 hf hr hp
  have hl2:=(ok1.ext.trans e12).len
  refine ih2 (e12.check hc1) (fun x hx=>by have:=hm x (List.mem_cons_of_mem _ hx);omega) ?_
  have hfw1:=ih1 hc hel hfw
  rcases put_cases hc1 hp with rfl|rfl
  ·exact hfw1
  ·refine hfw1.more (okT_of hc1).good ?_
   have:=rs_isU hf.rs.2
   unfold isU at this ⊢;exact this
def Stb (l:List Md) (j:Nat):Prop:= ∃n,DefL l [j] l [n]
open Classical in
noncomputable def pot (l:List Md):Nat:=l.length+(List.range l.length).countP fun j=>decide (FlexP l j∧ ¬Stb l j)
theorem DefL.inv {l l':List Md} {m:Nat} {ns:List Nat} (hf:FlexP l m) (h:DefL l [m] l' ns): ∃(l1:List Md) (es:List Nat) (n:Nat),DefL l ((mdAt l m).elems.map Int.toNat) l1 es∧putI l1 (deflX (mdAt l m) es)=(l',(n:Int),0)∧ns= [n]:=by
 cases h with
 |flat h1 _=>exact absurd hf h1
 |flex _ h1 h2 h3=>cases h3;exact ⟨_,_,_,h1,h2,rfl⟩
open Classical in
theorem DefL.pot {l l':List Md} {ms ns:List Nat} (h:DefL l ms l' ns):checkI l=0→(∀m∈ms,m<l.length)→pot l<512→Go.Proofs.YtlniliigcnedmaaGreatDoor.pot l'≤Go.Proofs.YtlniliigcnedmaaGreatDoor.pot l:=by
 induction h with
 |nil=>exact fun _ _ _=>Nat.le_refl _
 |flat _ _ ih=>exact fun hc hm=>ih hc fun x hx=>hm x (List.mem_cons_of_mem _ hx)
 | @flex l l1 l2 l' m n ms ns es hf h1 hp h2 ih1 ih2=>
  intro hc hm hpl
  have hml:=hm m List.mem_cons_self
  have hel:=elems_lt (okT_of hc).good hml
  have ok1:=h1.ok hc hel
  have hc1:=ok1.ext.check hc
  have hg1:=(okT_of hc1).good
  obtain ⟨hl,hr⟩:=h1.es hc hml
  obtain ⟨e12,hcx,hn2,_,_,hl12⟩:=put_defl hc1 hf hr hp
  have e2:=ok1.ext.trans e12
  have hl1:=ok1.ext.len
  have hl2:=e2.len
  have hp1:=ih1 hc hel hpl
  have hle: ∀k:List Md,k.length≤Go.Proofs.YtlniliigcnedmaaGreatDoor.pot k:=fun k=>by unfold Go.Proofs.YtlniliigcnedmaaGreatDoor.pot;omega
  have hp2:Go.Proofs.YtlniliigcnedmaaGreatDoor.pot l2≤Go.Proofs.YtlniliigcnedmaaGreatDoor.pot l1:=by
   rcases put_cases hc1 hp with rfl|he
   ·exact Nat.le_refl _
   ·have hfl1:FlexP l1 m:=(ok1.ext.flex hc hml).2 hf
    have hll:l2.length=l1.length+1:=by rw[he];simp
    have hnf: ¬FlexP l2 l1.length:=by rw[he];exact last_nflex hc1 hr
    have hno: ¬Stb l1 m:=by
     rintro ⟨n',hd⟩
     obtain ⟨k1,es',n2,d1,d2,_⟩:=hd.inv hfl1
     have hl1':=hle l1
     have hs:=h1.stable hc hel .refl (by omega)
     rw[←ok1.ext.md hml] at hs
     obtain ⟨rfl,rfl⟩:=hs.det d1
     rw[ok1.ext.md hml,hp,he] at d2
     simp only[Prod.mk.injEq] at d2
     have:=congrArg List.length d2.1
     simp at this
    have hpos:0<(List.range l1.length).countP fun j=>decide (FlexP l1 j∧ ¬Stb l1 j):=List.countP_pos_iff.2 ⟨m,List.mem_range.2 (by omega),by simp[hfl1,hno]⟩
    have hpe:Go.Proofs.YtlniliigcnedmaaGreatDoor.pot l1=l1.length+(List.range l1.length).countP fun j=>decide (FlexP l1 j∧ ¬Stb l1 j):=rfl
    have h512:l2.length<512:=by omega
    have hyes:Stb l2 m:=⟨n,(DefL.flex hf h1 hp .nil).stable hc (by simpa using hml) .refl h512⟩
    have hcnt:((List.range l2.length).countP fun j=>decide (FlexP l2 j∧ ¬Stb l2 j))<(List.range l1.length).countP fun j=>decide (FlexP l1 j∧ ¬Stb l1 j):=by
     rw[hll,List.range_succ,List.countP_append]
     have h0:([l1.length]:List Nat).countP (fun j=>decide (FlexP l2 j∧ ¬Stb l2 j))=0:=by simp[hnf]
     rw[h0,Nat.add_zero]
     refine countP_lt (x:=m) (fun j hj hd=>?_) (List.mem_range.2 (by omega)) (by simp[hyes]) (by simp[hfl1,hno])
     have hj:=List.mem_range.1 hj
     simp only[decide_eq_true_eq] at hd ⊢
     have hfj:=(e12.flex hc1 hj).1 hd.1
     refine ⟨hfj,fun hs=>hd.2 ?_⟩
     obtain ⟨n',hd'⟩:=hs
     exact ⟨n',hd'.stable hc1 (by simpa using hj) e12 h512⟩
    unfold Go.Proofs.YtlniliigcnedmaaGreatDoor.pot
    omega
  have hp':=ih2 (e12.check hc1) (fun x hx=>by have:=hm x (List.mem_cons_of_mem _ hx);omega) (by omega)
  omega
structure Room (l:List Md):Prop where
 ck:checkI l=0
 pot:pot l≤19
 few:Few l
 sm: ∀y∈l,smallN y
 h40: ∀y∈l,y.elems.length<2^40∧y.names.length<2^40
theorem Room.len {l:List Md} (h:Room l):l.length≤19:=by
 have:=h.pot
 unfold Go.Proofs.YtlniliigcnedmaaGreatDoor.pot at this
 omega
end Go.Proofs.YtlniliigcnedmaaGreatDoor
namespace Go.Proofs.YtlniliigcnedmaaGreatDoor
open Go Ax
open Relation
set_option maxRecDepth 100000
open Classical in
noncomputable def deflI (l:List Md) (m:Nat):List Md×Nat:=if h: ∃p:List Md×Nat,DefL l [m] p.1 [p.2] then h.choose else (l,m)
noncomputable def leastN (l:List Md) (p:Nat):Nat:=(leastI l p).toNat
def headE (l:List Md) (m:Nat):Nat:=((mdAt l m).elems.getD 0 0).toNat
def lead (l:List Md) (m:Nat):Prop:=(mdAt l m).kind=9∨((mdAt l m).kind=13∧(mdAt l m).elems.length=1)
instance (l:List Md) (m:Nat):Decidable (lead l m):=by unfold lead;infer_instance
inductive Lead (l:List Md):Nat→Nat→Prop
 |stop {a:Nat}: ¬lead l a→Lead l a 0
 |go {a t:Nat}:lead l a→Lead l (headE l a) t→Lead l a (t+1)
theorem lead_elem {l:List Md} (hc:checkI l=0) {a:Nat} (ha:a<l.length) (h:lead l a):(mdAt l a).elems[0]? =some (headE l a:Int)∧headE l a<l.length:=by
 have hmem:mdAt l a∈l:=by rw[mdAt_eq ha];exact List.getElem_mem ha
 have hone:=(oneI_zero ((checkOk_iff.1 hc).one _ hmem)).1
 obtain ⟨_,_,hs,_⟩:=shapeI_zero hone
 have h1:1≤(mdAt l a).elems.length:=by
  rcases h with h|h
  ·have:=hs.1
   unfold least at this
   rw[if_pos (by omega)] at this
   omega
  ·omega
 have h0:=List.getElem?_eq_getElem (l:=(mdAt l a).elems) h1
 have he:=elem_lt (okT_of hc).good ha h0
 have hh:headE l a=((mdAt l a).elems[0]).toNat:=by unfold headE;rw[List.getD_eq_getElem?_getD,h0];rfl
 refine ⟨?_,by rw[hh];exact he.2⟩
 rw[h0,hh,Int.toNat_of_nonneg he.1]
theorem Lead.ext {l k:List Md} (e:Ext l k) (hc:checkI l=0) {a t:Nat} (h:Lead l a t):a<l.length→Lead k a t:=by
 have hm: ∀{a:Nat},a<l.length→(lead k a↔lead l a):=fun ha=>by unfold lead;rw[e.md ha]
 induction h with
 |stop h=>exact fun ha=> .stop fun h'=>h ((hm ha).1 h')
 | @go a t h _ ih=>
  intro ha
  have hh:headE k a=headE l a:=by unfold headE;rw[e.md ha]
  exact .go ((hm ha).2 h) (by rw[hh];exact ih (lead_elem hc ha h).2)
noncomputable def downI (l:List Md) (m:Nat):Option (List Md×Nat):=
 if (mdAt l m).kind=9 then some ((deflI l (headE l m)).1,leastN (deflI l (headE l m)).1 (deflI l (headE l m)).2)
 else if (mdAt l m).kind=13∧(mdAt l m).elems.length=1∧(mdAt l (headE l m)).kind≠0 then some (l,leastN l (headE l m)) else none
open Classical in
noncomputable def firmI:Nat→List Md→Nat→Nat→Option (Nat×Bool)
 |0,_,_,_=>none
 |F+1,l,m,to_=>
  if RR l m=RR l to_∨uniB l m to_=true then some (0,!decide (RR l m=RR l to_))
  else match downI l m with
   |none=>none
   |some (l',n)=>(firmI F l' n to_).map fun p=>(p.1+1,p.2)
end Go.Proofs.YtlniliigcnedmaaGreatDoor
namespace Go.Proofs.YtlniliigcnedmaaGreatDoor
open Go Ax
set_option maxRecDepth 100000
theorem Room.nm {l:List Md} (h:Room l): ∀x∈l,x.names.length<2^40:=fun x hx=>(h.h40 x hx).2
end Go.Proofs.YtlniliigcnedmaaGreatDoor
namespace Go.Proofs.YtlniliigcnedmaaGreatDoor
open Go Ax
open Relation
set_option maxRecDepth 100000
theorem TabS.atC {S:Nat→Prop} {m:AMem} {s:AVal} {l:List Md} (h:TabS S m s l) {i:Nat} (hi:i<l.length): ∃b o c,(∀k,iaddrE 6 s (.int k i)=some (.ptr b o))∧loadE m 6 true (.ptr b o)=some (.agg c)∧ ∀m',Ch S m m'→RMode m' c l[i]:=by
 obtain ⟨cs,h⟩:=h
 obtain ⟨h1,_⟩:=h m (.refl _ _)
 obtain ⟨b,o,g1,_,g3⟩:=h1.at hi
 exact ⟨b,o,_,g1,g3,fun m' hc=>(h m' hc).2 i _ (List.getElem?_eq_getElem hi)⟩
def DMap (l0 l:List Md) (es:List (Int×AVal)):Prop:= ∀k v,findE es k=some v→ ∃j n:Nat,k=j∧v= .int .i64 n∧j<l0.length∧DefL l [j] l [n]
theorem DMap.ext {l0 l l':List Md} {es:List (Int×AVal)} (h:DMap l0 l es) (e0:Ext l0 l) (hc:checkI l=0) (e:Ext l l') (hn:l'.length<512):DMap l0 l' es:=fun k v hk=>by
 obtain ⟨j,n,a,b,c,d⟩:=h k v hk
 have:=e0.len
 exact ⟨j,n,a,b,c,d.stable hc (by simp;omega) e hn⟩
end Go.Proofs.YtlniliigcnedmaaGreatDoor
namespace Go.Proofs.YtlniliigcnedmaaGreatDoor
open Go Ax
open Relation
set_option maxRecDepth 100000
theorem chunk_set {cs:List AVal} {v:AVal} {i j q:Nat} (hj:j<6):chunk (cs.set (i*6+j) v) q=if q=i then (chunk cs i).set j v else chunk cs q:=by
 unfold chunk
 rw[List.drop_set]
 split
 ·rename_i h
  rw[if_neg (by omega)]
 ·rename_i h
  rw[List.take_set]
  by_cases hq:q=i
  ·subst hq
   rw[if_pos rfl,show q*6+j-q*6=j by omega]
  ·rw[if_neg hq]
   apply List.set_eq_of_length_le
   simp
   omega
def OwC (lo:Nat) (m:AMem) (s:AVal) (l:List Md):Prop:= ∃cs,Ow lo m 6 39 s l.length cs∧ ∀(i:Nat) x,l[i]? =some x→ ∀m',Ch (fun b=>s.blk=some b) m m'→RMode m' (chunk cs i) x
theorem OwC.at {lo:Nat} {m:AMem} {s:AVal} {l:List Md} (h:OwC lo m s l) {i:Nat} (hi:i<l.length): ∃b o e nm,s.blk=some b∧(∀k,iaddrE 6 s (.int k i)=some (.ptr b o))∧loadE m 1 false (.ptr b (o+2))=some e∧loadE m 1 false (.ptr b (o+3))=some nm∧RInts m e l[i].elems∧RStrs m nm l[i].names∧
  ∀(t tn:AVal) (m2:AMem),m<+:m2→OwL (AVal.int .i64) m.length m2 3 t l[i].elems→OwL AVal.str m.length m2 9 tn l[i].names→ ∃m3,storeE m2 1 (.ptr b (o+2)) t=some (.undef,m3)∧ ∀m4,m3<+:m4→ ∃m5,storeE m4 1 (.ptr b (o+3)) tn=some (.undef,m5)∧Ch (fun c=>s.blk=some c) m m5∧OwC lo m5 s l:=by
 obtain ⟨cs,h1,h2⟩:=h
 obtain ⟨b,o,hb,hp,_⟩:=h1.store hi
 obtain ⟨b',o',hp',hl',_⟩:=h1.sl.at hi
 have:=hp .i64
 rw[hp' .i64] at this
 simp only[Option.some.injEq,AVal.ptr.injEq] at this
 obtain ⟨rfl,rfl⟩:=this
 have hcl:=h1.sl.length
 have hM:=h2 i _ (List.getElem?_eq_getElem hi) m (.refl _ _)
 obtain ⟨e,nm,c0,c1,c2,c3,c4,c5,he,hnm,hcc⟩:=hM.get
 have hget: ∀j,j<6→(chunk cs i)[j]? =cs[i*6+j]? :=fun j hj=>by
  unfold chunk
  rw[List.getElem?_take,if_pos hj,List.getElem?_drop]
 have hbl:=(h1.blk_lo hb).2
 refine ⟨b',o',e,nm,hb,hp,by rw[hl' 2 (by omega),←hget 2 (by omega)];exact c2,by rw[hl' 3 (by omega),←hget 3 (by omega)];exact c3,he,hnm,fun t tn m2 hm2 ht htn=>?_⟩
 have ts:=(Ow.sl ht).self
 have tns:=(Ow.sl htn).self
 have hb2: ∀{m2:AMem} {cs2:List AVal},Ow lo m2 6 39 s l.length cs2→ ∀(j:Nat) (v:AVal),j<6→v.cells= [v]→v.one=true→ ∃m',storeE m2 1 (.ptr b' (o'+j)) v=some (.undef,m')∧Ch (fun c=>c=b') m2 m'∧Ow lo m' 6 39 s l.length (cs2.set (i*6+j) v):=fun {m2 cs2} h j v hj h3 h4=>by
  obtain ⟨b2,o2,hbb,hpp,hst⟩:=h.store hi
  have:=hp .i64
  rw[hpp .i64] at this
  simp only[Option.some.injEq,AVal.ptr.injEq] at this
  obtain ⟨rfl,rfl⟩:=this
  obtain ⟨m',g1,g2,g3⟩:=hst j v (by rw[h3];simp;omega) (by rw[h3];simp[h4])
  rw[h3] at g1 g3
  exact ⟨m',g1,g2,g3⟩
 obtain ⟨m3,g1,g2,g3⟩:=hb2 (h1.mono hm2) 2 t (by omega) ts.2 ts.1
 refine ⟨m3,g1,fun m4 hm4=>?_⟩
 obtain ⟨m5,g4,g5,g6⟩:=hb2 (g3.mono hm4) 3 tn (by omega) tns.2 tns.1
 have hch2:Ch (fun c=>s.blk=some c) m2 m5:=((g2.weaken fun c _ h=>by rw[h];exact hb).trans (.of_prefix hm4)).trans (g5.weaken fun c _ h=>by rw[h];exact hb)
 have hch:Ch (fun c=>s.blk=some c) m m5:=(Ch.of_prefix hm2).trans hch2
 refine ⟨m5,g4,hch,_,g6,fun q x hx m' hc=>?_⟩
 rw[chunk_set (by omega)]
 by_cases hq:q=i
 ·subst hq
  rw[if_pos rfl,chunk_set (by omega),if_pos rfl,hcc]
  rw[List.getElem?_eq_getElem hi] at hx
  simp only[Option.some.injEq] at hx
  subst hx
  have hc2:=hch2.trans hc
  refine ⟨t,tn,rfl,OwL.ints (ht.ch hc2 fun c h1 h2=>?_),Ow.sl (htn.ch hc2 fun c h1 h2=>?_)⟩
  ·have:=(ht.blk_lo h1).1
   rw[hb] at h2
   cases h2
   omega
  ·have:=(htn.blk_lo h1).1
   rw[hb] at h2
   cases h2
   omega
 ·rw[if_neg hq,chunk_set (by omega),if_neg hq]
  exact h2 q x hx m' (hch.trans hc)
theorem OwC.mono {lo:Nat} {m m':AMem} {s:AVal} {l:List Md} (h:OwC lo m s l) (hm:m<+:m'):OwC lo m' s l:=by
 obtain ⟨cs,h1,h2⟩:=h
 exact ⟨cs,h1.mono hm,fun i x hx m'' hc=>h2 i x hx m'' ((Ch.of_prefix hm).trans hc)⟩
end Go.Proofs.YtlniliigcnedmaaGreatDoor
namespace Go.Proofs.YtlniliigcnedmaaGreatDoor
open Go Ax
open Relation
set_option maxRecDepth 100000
inductive Dq (l:List Md):Nat→Nat→Prop
 |flat {e t:Nat}: ¬FlexP l e→RR l e=RR l t→Dq l e t
 |flex {e t:Nat}:FlexP l e→firstC (mdAt l t) (deflX (mdAt l e) ((mdAt l e).elems.map Int.toNat))=0→(∀(k:Nat) (a b:Int),(mdAt l e).elems[k]? =some a→(mdAt l t).elems[k]? =some b→Dq l a.toNat b.toNat)→Dq l e t
end Go.Proofs.YtlniliigcnedmaaGreatDoor
namespace Go.Proofs.YtlniliigcnedmaaGreatDoor
open Go Ax
open Relation
set_option maxRecDepth 100000
def FirmAt (l0:List Md) (a b k:Nat) (lk:List Md) (mk:Nat):Prop:=firmI 100 l0 a b=(firmI (100-k) lk mk b).map fun p=>(p.1+k,p.2)
theorem FirmAt.none {l0 lk:List Md} {a b k mk:Nat} (h:FirmAt l0 a b k lk mk) (hk:k<100) (hm: ¬(RR lk mk=RR lk b∨uniB lk mk b=true)) (hd:downI lk mk=none):firmI 100 l0 a b=Option.none:=by
 unfold FirmAt at h
 obtain ⟨F,hF⟩: ∃F,100-k=F+1:=⟨99-k,by omega⟩
 rw[h,hF,firmI,if_neg hm,hd]
 rfl
end Go.Proofs.YtlniliigcnedmaaGreatDoor
namespace Go.Proofs.YtlniliigcnedmaaGreatDoor
open Go Ax
open Relation
set_option maxRecDepth 100000
def DArr (l:List Md) (ds:List Int):Prop:= ∀(j:Nat) v,ds[j]? =some v→v=0∨ ∃n:Nat,v=(n:Int)+1∧DefL l [j] l [n]
theorem DArr.ext {l0 l l':List Md} {ds:List Int} (h:DArr l ds) (hl:ds.length=l0.length) (e0:Ext l0 l) (hc:checkI l=0) (e:Ext l l') (hn:l'.length<512):DArr l' ds:=fun j v hj=>by
 have hjl:=(List.getElem?_eq_some_iff.1 hj).1
 have:=e0.len
 rcases h j v hj with h|⟨n,h1,h2⟩
 ·exact .inl h
 ·exact .inr ⟨n,h1,h2.stable hc (by simp;omega) e hn⟩
end Go.Proofs.YtlniliigcnedmaaGreatDoor
namespace Go.Proofs.YtlniliigcnedmaaGreatDoor
open Go Ax
open Relation
set_option maxRecDepth 100000
set_option maxHeartbeats 8000000 in
theorem k18c (s:AVal) (l:List Md) (a b:Nat) (m:AMem) (hs:RTab m s l) (hc:checkI l=0) (hrl:l.length≤60) (hrs: ∀y∈l,smallN y) (ha:a<l.length) (hb:b<l.length):
  ACalls Tryz.prog 18 [s,.int .i64 a,.int .i64 b] m fun v m'=>v= .tuple [.bool (decide (RR l a=RR l b)),.int .i64 0]∧m<+:m':=by
 refine w18 ?_
 have ok:=okT_of hc
 simp[fillA,setN]
 have hA:=two_ints m a b
 have hm1:m<+:m++ [.own [.int .i64 (a:Int),.int .i64 (b:Int)] 3 none]:=List.prefix_append _ _
 generalize AVal.slice m.length 0 2 2 none=t1 at*
 generalize m++ [.own [.int .i64 (a:Int),.int .i64 (b:Int)] 3 none]=m1 at*
 refine C_of (k47 s t1 l [(a:Int),(b:Int)] m1 (hs.mono hm1) hA.ints hrs (by omega) (by simp)) ?_
 rintro _ m2 ⟨rfl,hm2⟩
 rw[rightI_two hc ha hb]
 have hm02:=hm1.trans hm2
 obtain ⟨b1,o1,c1,p1,q1,_,r1,h1⟩:=(hs.mono hm02).atC ha
 obtain ⟨b2,o2,c2,p2,q2,_,r2,h2⟩:=(hs.mono hm02).atC hb
 obtain ⟨e1,nm1,_,_,hg1,_,_,_,he1,_,_⟩:=h1.get
 obtain ⟨e2,nm2,_,_,hg2,_,_,_,he2,_,_⟩:=h2.get
 have r1:=r1 2 (by omega)
 have r2:=r2 2 (by omega)
 rw[hg1] at r1
 rw[hg2] at r2
 have hma:=mdAt_eq ha
 have hmb:=mdAt_eq hb
 have hxa:l[a]∈l:=List.getElem_mem ha
 have hxb:l[b]∈l:=List.getElem_mem hb
 have hflat: ∀m',m2<+:m'→ACalls Tryz.prog 50 [.agg c1,.agg c2] m' fun v m''=>v= .int .i64 (firstC l[a] l[b])∧m'<+:m'':=fun m' hm'=>
  k50 c1 c2 l[a] l[b] m' (h1.mono hm') (h2.mono hm') (hrs _ hxa) (hrs _ hxb) (ok.names _ hxa _ hxb)
 have ld6: ∀{m'},m2<+:m'→loadE m' 6 true (.ptr b1 o1)=some (.agg c1)∧loadE m' 6 true (.ptr b2 o2)=some (.agg c2)∧loadE m' 1 false (.ptr b1 (o1+2))=some e1∧loadE m' 1 false (.ptr b2 (o2+2))=some e2:=fun h=>⟨loadE_mono h q1,loadE_mono h q2,loadE_mono h r1,loadE_mono h r2⟩
 by_cases hab:a=b
 ·subst hab
  simp
  refine W_draw (fun _ _ _=>True) (by simp[maxDst]) ?_
  refine D_pc 0 12 [12,13,14,15,16,17,18,19,20,21,22,23,24,25,26,27] ?_
  simp
  intro _ _
  refine D_Xg rfl rfl (b:=true) (by simp) (fun h=>by cases h) (fun _ m3 hm3 _=>⟨by simp[lateOf],?_⟩)
  refine D_pc 13 13 [26,27] ?_
  simp
  intro _ _
  refine D_Xg rfl rfl (b:=true) (by simp) (fun h=>by cases h) (fun _ m4 hm4 _=>⟨by simp[lateOf],?_⟩)
  refine D_pc 27 1 [] ?_
  simp
  intro _ _
  refine D_end fun m5 hm5 _=>?_
  simp
  refine W_draw (fun _ _ _=>True) (by simp[maxDst]) ?_
  refine D_pc 0 12 [12,13,14,15,16] ?_
  simp
  intro _ _
  refine D_Xg rfl rfl (b:=true) (by simp) (fun h=>by cases h) (fun _ m6 hm6 _=>⟨by simp[lateOf],?_⟩)
  refine D_pc 13 4 [] ?_
  simp
  intro _ _
  refine D_end fun m7 hm7 _=>?_
  simp
  exact ((((hm02.trans hm3).trans hm4).trans hm5).trans hm6).trans hm7
 have hab': ¬(a:Int)=b:=by omega
 simp
 refine W_draw (fun _ _ _=>True) (by simp[maxDst]) ?_
 refine D_pc 0 12 [12,13,14,15,16,17,18,19,20,21,22,23,24,25,26,27] ?_
 simp[beqF hab',p1,p2,q1,q2]
 intro _ _
 refine D_Xg rfl rfl (b:=false) (by simp) (fun _ m3 hm3 _=>?_) (fun h=>absurd rfl h)
 simp
 refine C_of (hflat m3 hm3) ?_
 rintro _ m4 ⟨rfl,hm4⟩
 have hm24:=hm3.trans hm4
 refine ⟨by simp[lateOf],?_⟩
 refine D_pc 13 13 [26,27] ?_
 have L4:=ld6 hm24
 by_cases hf:firstC l[a] l[b]=0
 rotate_left
 ·have hne: ¬RR l a=RR l b:=fun h=>hf (by have:=RR_first ha hb h;rwa[hma,hmb] at this)
  simp[bneT hf,hne]
  intro _ _
  refine D_Xg rfl rfl (b:=true) (by simp) (fun h=>by cases h) (fun _ m5 hm5 _=>⟨by simp[lateOf],?_⟩)
  refine D_pc 27 1 [] ?_
  simp
  intro _ _
  refine D_end fun m6 hm6 _=>?_
  simp
  have hm26:=(hm24.trans hm5).trans hm6
  have L6:=ld6 hm26
  refine W_draw (fun _ _ _=>True) (by simp[maxDst]) ?_
  refine D_pc 0 12 [12,13,14,15,16] ?_
  simp[beqF hab',p1,p2,L6.1,L6.2.1]
  intro _ _
  refine D_Xg rfl rfl (b:=false) (by simp) (fun _ m7 hm7 _=>?_) (fun h=>absurd rfl h)
  simp
  refine C_of (hflat m7 (hm26.trans hm7)) ?_
  rintro _ m8 ⟨rfl,hm8⟩
  refine ⟨by simp[lateOf],?_⟩
  refine D_pc 13 4 [] ?_
  simp[beqF hf]
  intro _ _
  refine D_end fun m9 hm9 _=>?_
  simp
  exact ⟨hne,(((hm02.trans hm26).trans hm7).trans hm8).trans hm9⟩
 simp[hf,p1,p2,L4.2.2.1,L4.2.2.2]
 intro _ _
 refine D_Xg rfl rfl (b:=false) (by simp) (fun _ m5 hm5 _=>?_) (fun h=>absurd rfl h)
 simp
 have hm25:=hm24.trans hm5
 refine C_of (k51 e1 e2 l[a].elems l[b].elems m5 (he1.mono hm25) (he2.mono hm25) (hrs _ hxa).1) ?_
 rintro _ m6 ⟨rfl,hm6⟩
 refine ⟨by simp[lateOf],?_⟩
 refine D_pc 27 1 [] ?_
 simp
 intro _ _
 refine D_end fun m7 hm7 _=>?_
 have hm27:=(hm25.trans hm6).trans hm7
 have L7:=ld6 hm27
 by_cases hsame:l[a].elems=l[b].elems
 ·have heq:RR l a=RR l b:=RR_same ha hb (by rw[hma,hmb];exact hf) (by rw[hma,hmb];exact hsame)
  simp[hsame,heq]
  refine W_draw (fun _ _ _=>True) (by simp[maxDst]) ?_
  refine D_pc 0 12 [12,13,14,15,16] ?_
  simp[beqF hab',p1,p2,L7.1,L7.2.1]
  intro _ _
  refine D_Xg rfl rfl (b:=false) (by simp) (fun _ m8 hm8 _=>?_) (fun h=>absurd rfl h)
  simp
  refine C_of (hflat m8 (hm27.trans hm8)) ?_
  rintro _ m9 ⟨rfl,hm9⟩
  refine ⟨by simp[lateOf],?_⟩
  refine D_pc 13 4 [] ?_
  simp[hf]
  intro _ _
  refine D_end fun m10 hm10 _=>?_
  simp
  exact ⟨heq,(((hm02.trans hm27).trans hm8).trans hm9).trans hm10⟩
 ·simp[hsame]
  have hm07:=hm02.trans hm27
  refine C_of (k48 s l m7 (hs.mono hm07) ok.good (by omega) hrs ok.h64 ok.names) ?_
  rintro v8 m8 ⟨hm8,hX⟩
  obtain ⟨ba,oa,pa,la⟩:=rlAt (ints_of_nat hX) ha
  obtain ⟨bb,ob,pb,lb⟩:=rlAt (ints_of_nat hX) hb
  have la:=la m8 (List.prefix_refl _)
  have lb:=lb m8 (List.prefix_refl _)
  have hxy:(((RR l a:Nat):Int)==((RR l b:Nat):Int))=decide (RR l a=RR l b):=by
   rw[Bool.eq_iff_iff,decide_eq_true_iff,beq_iff_eq]
   constructor<;>intro h<;>omega
  simp
  refine W_drawPR (by simp[maxDst]) rfl rfl ?_
  simp[pa,la,pb,lb,hxy]
  intro m9 hm9
  exact (hm07.trans hm8).trans hm9
end Go.Proofs.YtlniliigcnedmaaGreatDoor
namespace Go.Proofs.YtlniliigcnedmaaGreatDoor
open Go Ax Go.ChangeShapes Go.WideShapes Go.ChangeAt Go.RowKit
set_option maxRecDepth 100000
noncomputable def eqV (l:List Md) (u v:Int):AVal:= .tuple [.bool (decide (rightI l [u,v]=0∧RR l u.toNat=RR l v.toNat)),.int .i64 (rightI l [u,v])]
noncomputable def ltV (l:List Md) (u v:Int):AVal:= .tuple [.bool (decide (rightI l [u,v]=0∧RR l u.toNat<RR l v.toNat)),.int .i64 (rightI l [u,v])]
theorem eqV_ok {l:List Md} {a b:Nat} (hc:checkI l=0) (ha:a<l.length) (hb:b<l.length):eqV l a b= .tuple [.bool (decide (RR l a=RR l b)),.int .i64 0]:=by
 simp[eqV,rightI_two hc ha hb]
theorem ltV_ok {l:List Md} {a b:Nat} (hc:checkI l=0) (ha:a<l.length) (hb:b<l.length):ltV l a b= .tuple [.bool (decide (RR l a<RR l b)),.int .i64 0]:=by
 simp[ltV,rightI_two hc ha hb]
theorem two_intsZ (m:AMem) (u v:Int):RInts (m++ [.own [.int .i64 u,.int .i64 v] 3 none]) (.slice m.length 0 2 2 none) [u,v]:=by
 have h:=OwL.new (f:=AVal.int .i64) m 3 [u,v]
 simpa using h.ints
theorem k17g (s:AVal) (l:List Md) (u v:Int) (m:AMem) (hs:RTab m s l) (hsz: ∀x∈l,smallN x) (hn:T13 l):
  ACalls Tryz.prog 17 [s,.int .i64 u,.int .i64 v] m fun r m'=>r=eqV l u v∧m<+:m':=by
 by_cases hri:rightI l [u,v]=0
 ·obtain ⟨hc,a,b,rfl,rfl,ha,hb⟩:=right2 hri
  rw[eqV_ok hc ha hb]
  exact k17 s l a b m hs hsz hn hc ha hb
 refine w17 ?_
 have h60:=hn.len
 simp[fillA,setN]
 have hA:=two_intsZ m u v
 have hm1:m<+:m++ [.own [.int .i64 u,.int .i64 v] 3 none]:=List.prefix_append _ _
 generalize AVal.slice m.length 0 2 2 none=t1 at*
 generalize m++ [.own [.int .i64 u,.int .i64 v] 3 none]=m1 at*
 refine C_of (k43 s t1 l [u,v] m1 (hs.mono hm1) hA hsz (by omega) (by simp)) ?_
 rintro _ m2 ⟨rfl,hm2⟩
 simp[bneT hri,eqV,hri]
 exact hm1.trans hm2
theorem k19g (s:AVal) (l:List Md) (u v:Int) (m:AMem) (hs:RTab m s l) (hsz: ∀x∈l,smallN x) (hn:T13 l):
  ACalls Tryz.prog 19 [s,.int .i64 u,.int .i64 v] m fun r m'=>r=ltV l u v∧m<+:m':=by
 by_cases hri:rightI l [u,v]=0
 ·obtain ⟨hc,a,b,rfl,rfl,ha,hb⟩:=right2 hri
  rw[ltV_ok hc ha hb]
  exact k19 s l a b m hs hsz hn hc ha hb
 refine w19 ?_
 have h60:=hn.len
 simp[fillA,setN]
 have hA:=two_intsZ m u v
 have hm1:m<+:m++ [.own [.int .i64 u,.int .i64 v] 3 none]:=List.prefix_append _ _
 generalize AVal.slice m.length 0 2 2 none=t1 at*
 generalize m++ [.own [.int .i64 u,.int .i64 v] 3 none]=m1 at*
 refine C_of (k43 s t1 l [u,v] m1 (hs.mono hm1) hA hsz (by omega) (by simp)) ?_
 rintro _ m2 ⟨rfl,hm2⟩
 simp[bneT hri,ltV,hri]
 exact hm1.trans hm2
theorem k18g (s:AVal) (l:List Md) (u v:Int) (m:AMem) (hs:RTab m s l) (hsz: ∀x∈l,smallN x) (hn:l.length≤60):
  ACalls Tryz.prog 18 [s,.int .i64 u,.int .i64 v] m fun r m'=>r=eqV l u v∧m<+:m':=by
 by_cases hri:rightI l [u,v]=0
 ·obtain ⟨hc,a,b,rfl,rfl,ha,hb⟩:=right2 hri
  rw[eqV_ok hc ha hb]
  exact k18c s l a b m hs hc hn hsz ha hb
 refine w18 ?_
 simp[fillA,setN]
 have hA:=two_intsZ m u v
 have hm1:m<+:m++ [.own [.int .i64 u,.int .i64 v] 3 none]:=List.prefix_append _ _
 generalize AVal.slice m.length 0 2 2 none=t1 at*
 generalize m++ [.own [.int .i64 u,.int .i64 v] 3 none]=m1 at*
 refine C_of (k47 s t1 l [u,v] m1 (hs.mono hm1) hA hsz (by omega) (by simp)) ?_
 rintro _ m2 ⟨rfl,hm2⟩
 simp[bneT hri,eqV,hri]
 exact hm1.trans hm2
set_option maxHeartbeats 2000000 in
theorem k20 (s:AVal) (l:List Md) (u v:Int) (m:AMem) (hs:RTab m s l) (hsz: ∀x∈l,smallN x) (hn:l.length≤60):
  ACalls Tryz.prog 20 [s,.int .i64 u,.int .i64 v] m fun r m'=>r=ltV l u v∧m<+:m':=by
 refine w20 ?_
 simp[fillA,setN]
 have hA:=two_intsZ m u v
 have hm1:m<+:m++ [.own [.int .i64 u,.int .i64 v] 3 none]:=List.prefix_append _ _
 generalize AVal.slice m.length 0 2 2 none=t1 at*
 generalize m++ [.own [.int .i64 u,.int .i64 v] 3 none]=m1 at*
 refine C_of (k47 s t1 l [u,v] m1 (hs.mono hm1) hA hsz (by omega) (by simp)) ?_
 rintro _ m2 ⟨rfl,hm2⟩
 by_cases hri:rightI l [u,v]=0
 rotate_left
 ·simp[bneT hri,ltV,hri]
  exact hm1.trans hm2
 obtain ⟨hc,a,b,rfl,rfl,ha,hb⟩:=right2 hri
 rw[ltV_ok hc ha hb]
 have ok:=okT_of hc
 simp[hri]
 have hm02:=hm1.trans hm2
 refine C_of (k48 s l m2 (hs.mono hm02) ok.good (by omega) hsz ok.h64 ok.names) ?_
 rintro v3 m3 ⟨hm3,hX⟩
 obtain ⟨ba,oa,hpa,hla⟩:=rlAt (ints_of_nat hX) ha
 obtain ⟨bb,ob,hpb,hlb⟩:=rlAt (ints_of_nat hX) hb
 have hla:=hla m3 (List.prefix_refl _)
 have hlb:=hlb m3 (List.prefix_refl _)
 simp
 refine W_drawPR (by simp[maxDst]) rfl rfl ?_
 simp[hpa,hla,hpb,hlb]
 intro m4 hm4
 exact (hm02.trans hm3).trans hm4
set_option maxHeartbeats 4000000 in
theorem k4:LawTII 4:=by
 intro m s l u v hs _ hb
 refine w4 ?_
 simp
 refine C_of (k13 m) ?_
 rintro _ m1 ⟨rfl,hm1⟩
 simp
 refine C_of (k14 s l 12 m1 (hs.mono hm1) (by omega)) ?_
 rintro _ m2 ⟨rfl,hm2⟩
 have hm02:=hm1.trans hm2
 cases hsm:(decide ((l.length:Int)≤12)&&l.all fun x=>decide (x.elems.length≤6)&&decide (x.names.length≤6))
 ·simp
 have hf:=fits_of hb hsm
 have hlen:l.length≤60:=by have:=hf.n;omega
 simp
 refine C_of (k17g s l u v m2 (hs.mono hm02) hf.sm (T13.of hf.n)) ?_
 rintro _ m3 ⟨rfl,hm3⟩
 have hm03:=hm02.trans hm3
 simp[eqV]
 refine C_of (k18g s l u v m3 (hs.mono hm03) hf.sm hlen) ?_
 rintro _ m4 ⟨rfl,hm4⟩
 have hm04:=hm03.trans hm4
 simp[eqV]
 refine C_of (k19g s l u v m4 (hs.mono hm04) hf.sm (T13.of hf.n)) ?_
 rintro _ m5 ⟨rfl,hm5⟩
 have hm05:=hm04.trans hm5
 simp[ltV]
 refine C_of (k20 s l u v m5 (hs.mono hm05) hf.sm hlen) ?_
 rintro _ m6 ⟨rfl,hm6⟩
 simp[ltV]
end Go.Proofs.YtlniliigcnedmaaGreatDoor
namespace Go.Proofs.YtlniliigcnedmaaGreatDoor
open Go Ax Go.ChangeShapes Go.WideShapes Go.ChangeAt Go.RowKit
set_option maxRecDepth 100000
structure FitR (l:List Md):Prop where
 n:l.length≤10
 sm: ∀x∈l,smallN x
 room:checkI l=0→Room l
def LawTJ (f:FuncId):Prop:= ∀(m:AMem) (s:AVal) (l:List Md) (u:Int),RTab m s l→(∀md∈l,MdB reachBytes md)→ACalls Tryz.prog f [s,.int .i64 u] m fun r _=>r= .bool true
end Go.Proofs.YtlniliigcnedmaaGreatDoor
namespace Go.Proofs.YtlniliigcnedmaaGreatDoor
open Go Ax Go.ChangeShapes Go.WideShapes Go.ChangeAt Go.RowKit
set_option maxRecDepth 100000
set_option maxHeartbeats 4000000 in
theorem k16 (s:AVal) (l:List Md) (x:Int) (m:AMem) (hs:RTab m s l) (hsm: ∀y∈l,smallN y) (hl:l.length≤60):
  ACalls Tryz.prog 16 [s,.int .i64 x] m fun v m'=>m<+:m'∧v= .tuple [.str ⟨(textV l x).toArray⟩,.int .i64 (rightI l [x])]:=by
 refine w16 ?_
 simp[fillA,setN]
 have hA:=OwL.new (f:=AVal.int .i64) m 3 [x]
 have hm1:m<+:m++ [.own [.int .i64 x] 3 none]:=List.prefix_append _ _
 simp at hA
 generalize AVal.slice m.length 0 1 1 none=t1 at*
 generalize m++ [.own [.int .i64 x] 3 none]=m1 at*
 refine C_of (k47 s t1 l [x] m1 (hs.mono hm1) hA.ints hsm (by omega) (by simp)) ?_
 rintro _ m2 ⟨rfl,hm2⟩
 have hm02:=hm1.trans hm2
 by_cases hri:rightI l [x]=0
 rotate_left
 ·simp[bneT hri,hri,textV]
  exact hm02
 obtain ⟨hc,a,rfl,ha⟩:=rightN1 hri
 have ok:=okT_of hc
 obtain ⟨htx,hfl,hsh⟩:=txT_of hc hl
 simp[hri,textV]
 refine C_of (k48 s l m2 (hs.mono hm02) ok.good (by omega) hsm ok.h64 ok.names) ?_
 rintro v3 m3 ⟨hm3,hX⟩
 have hm03:=hm02.trans hm3
 obtain ⟨hs1,hs2⟩:=hs.self
 obtain ⟨hv1,hv2⟩:=(Ow.sl hX).self
 simp[fillA,setN,hs1,hs2,hv1,hv2]
 have hblk:(m3++ [ABlk.own [s,v3,AVal.nilslice] 77 none])[m3.length]? =some (.own [s,v3,AVal.nilslice] 77 none):=by simp
 have hm4:m3<+:m3++ [ABlk.own [s,v3,AVal.nilslice] 77 none]:=List.prefix_append _ _
 generalize m3++ [ABlk.own [s,v3,AVal.nilslice] 77 none]=m4 at*
 have hW:WU l m3 m3.length s v3 m4 .nilslice []:=⟨hblk,OwL.nil,hm4,Nat.le_refl _⟩
 have H:WTu l m3 s v3:=⟨htx,hfl,hsh,hs.mono hm03,ints_of_nat hX⟩
 refine C_of (text_ok H (l.length+1) a m4 .nilslice [] hW Seen.nil ha (by simp)) ?_
 rintro _ m5 ⟨sn5,rfl,hW5,hC5⟩
 simp
 refine ⟨hm03.trans hW5.pre,?_⟩
 rw[hri]
 exact ⟨rfl,rfl⟩
set_option maxHeartbeats 2000000 in
theorem k3:LawTJ 3:=by
 intro m s l x hs hb
 refine w3 ?_
 simp
 refine C_of (k13 m) ?_
 rintro _ m1 ⟨rfl,hm1⟩
 simp
 refine C_of (k14 s l 12 m1 (hs.mono hm1) (by omega)) ?_
 rintro _ m2 ⟨rfl,hm2⟩
 have hm02:=hm1.trans hm2
 cases hsm:(decide ((l.length:Int)≤12)&&l.all fun x=>decide (x.elems.length≤6)&&decide (x.names.length≤6))
 ·simp
 have hf:=fits_of hb hsm
 have h13:=hf.n
 simp
 refine C_of (k15 s l x m2 (hs.mono hm02) hf.sm (fun _=>T13.of hf.n) (by omega)) ?_
 rintro _ m3 ⟨hm3,rfl⟩
 simp
 refine C_of (k16 s l x m3 (hs.mono (hm02.trans hm3)) hf.sm (by omega)) ?_
 rintro _ m4 ⟨hm4,rfl⟩
 have hse: ∀x:ByteArray,binStr .eql x x=some (.bool true):=fun x=>by simp[binStr]
 simp[hse]
end Go.Proofs.YtlniliigcnedmaaGreatDoor
namespace Go.Proofs.YtlniliigcnedmaaGreatDoor
open Go Ax Go.ChangeShapes Go.WideShapes Go.ChangeAt Go.RowKit
set_option maxRecDepth 100000
def laidL:List (String×DataW Unit):= [("math/bits.deBruijn32tab",Rows.laid_math_bits_deBruijn32tab),("math/bits.deBruijn64tab",Rows.laid_math_bits_deBruijn64tab),("internal/strconv.uint64pow10",Rows.laid_internal_strconv_uint64pow10),("environ/alike.words",Rows.laid_environ_alike_words)]
theorem gWords: Tryz.prog.globalNamed "environ/alike.words" =some 0:=by kernel_rfl
noncomputable def tyWords:TypeId:=((Tryz.prog.globals[0]?).map (·.type)).getD 0
theorem gWordsT:(Tryz.prog.globals[0]?).map (·.type)=some tyWords:=by kernel_rfl
theorem underW: Tryz.prog.underlying tyWords=some (.array 9 9):=by kernel_rfl
theorem cells9: Tryz.prog.cellsOf 9=1:=by kernel_rfl
theorem string_of_trod {H:Type} {enc:TypeId×Value→H} {P:Program} {w:World} {base:Nat} {sp:Nat→Bool} {held:Bool} {fuel:Nat} {t:TypeId} {cs:List Value} {l:List UInt8} {q:List MemPlace}
  (ht:P.underlying t=some .string) (hc:cs.length≤1) (h:DataW.trod enc P w base sp held fuel t cs=some (.lit (.string l),q)):cs= [.string ⟨l.toArray⟩]:=by
 match cs,hc with
 | [],_=>cases fuel<;>simp[DataW.trod,ht] at h
 | [c],_=>
  cases fuel with
  |zero=>simp[DataW.trod] at h
  |succ fuel=>
   cases c<;>simp[DataW.trod,ht] at h
   obtain ⟨_,rfl,rfl⟩:=h
   simp
theorem glob_of {ρ:List RB} {m:AMem} {W:World} (hL:laidMetH Tryz.prog laidL W) (hro:RoMem m):Glob ρ m W:=by
 intro p hp
 simp only[globs,List.mem_singleton] at hp
 subst hp
 have hL':laidMet Tryz.prog laidL W:=hL
 obtain ⟨g,t,cs,fuel,q,h1,h2,h3,h4⟩:=Lib.laidMet.reads hL' (n:= "environ/alike.words") (d:=Rows.laid_environ_alike_words) (by simp[laidL])
 obtain rfl:=Option.some.inj (gWords.symm.trans h1)
 obtain rfl:=Option.some.inj (gWordsT.symm.trans h2)
 have key: ∀(i:Nat) (l:List UInt8),i<9→([.lit (.string [86,79,73,68]),.lit (.string [66,79,79,76]),.lit (.string [67,72,65,82]),.lit (.string [73,78,84]),.lit (.string [82,69,65,76]),.lit (.string [66,73,84,83]),.lit (.string [70,73,76,69]),.lit (.string [83,69,77,65]),.lit (.string [70,79,82,77,65,84])]:List (DataW Unit))[i]? =some (.lit (.string l))→W.cell? ⟨0,i,none⟩=some (.string ⟨l.toArray⟩):=by
  intro i l hi hl
  obtain ⟨f',d,q',g1,g2⟩:=Lib.array_elem (ds:= [.lit (.string [86,79,73,68]),.lit (.string [66,79,79,76]),.lit (.string [67,72,65,82]),.lit (.string [73,78,84]),.lit (.string [82,69,65,76]),.lit (.string [66,73,84,83]),.lit (.string [70,73,76,69]),.lit (.string [83,69,77,65]),.lit (.string [70,79,82,77,65,84])]) underW h4 i hi
  rw[hl] at g1
  simp only[Option.some.injEq] at g1
  subst g1
  rw[cells9,Nat.mul_one] at g2
  have hc:=string_of_trod under9 (by simp;omega) g2
  have hci:cs.toList[i]? =some (.string ⟨l.toArray⟩):=by
   have:=congrArg (·[0]?) hc
   simpa using this
  have:=World.var?_cell gWords h3 i
  rw[this]
  simpa using hci
 have hsz:0<W.heap.size:=by
  have:=key 0 _ (by omega) rfl
  unfold World.cell? at this
  rcases Nat.eq_zero_or_pos W.heap.size with h0|h0
  ·rw[Array.getElem?_eq_none (by simp only;omega)] at this
   cases this
  ·exact h0
 refine ⟨hsz,fun ho=>?_,fun i x hx=>?_⟩
 ·obtain ⟨b,blk,a,hb,hown,_⟩:=ho
  rw[hro b blk hb] at hown
  cases hown
 ·match i,hx with
  |0,hx=>cases hx;exact ⟨_,key 0 _ (by omega) rfl,by simp[VR]⟩
  |1,hx=>cases hx;exact ⟨_,key 1 _ (by omega) rfl,by simp[VR]⟩
  |2,hx=>cases hx;exact ⟨_,key 2 _ (by omega) rfl,by simp[VR]⟩
  |3,hx=>cases hx;exact ⟨_,key 3 _ (by omega) rfl,by simp[VR]⟩
  |4,hx=>cases hx;exact ⟨_,key 4 _ (by omega) rfl,by simp[VR]⟩
  |5,hx=>cases hx;exact ⟨_,key 5 _ (by omega) rfl,by simp[VR]⟩
  |6,hx=>cases hx;exact ⟨_,key 6 _ (by omega) rfl,by simp[VR]⟩
  |7,hx=>cases hx;exact ⟨_,key 7 _ (by omega) rfl,by simp[VR]⟩
  |8,hx=>cases hx;exact ⟨_,key 8 _ (by omega) rfl,by simp[VR]⟩
  |i+9,hx=>simp at hx
theorem liftedD3 {os:Os} {F:Stop.Interp} (started:os.Started) {H:Type} {enc:TypeId×Value→H} {f:FuncId} {fn:Func} {s:ChangeSpec} {conds:List PathCond}
  (noInit: Tryz.checked.prog.inits.idxOf? f=none) (hfn: Tryz.checked.prog.funcs[f]? =some fn) (hp:fn.params= #[22,3,3]) (hr:fn.resultTypes= #[4]) (hs:s.vars= [])
  (hsf: ∀d1 d2 d3:DataW H,s.fn H [d1,d2,d3]={results:= [.lit (.bool true)],args:= [d1,d2,d3]})
  (witness: ∃(w:World) (tape:Tape) (i:Input),w.os=os∧(w.forCall tape i).Shaped Tryz.checked.prog∧i.vars= []∧Input.okWide Tryz.checked.prog (w.forCall tape i) .any w.heap.size f i∧
   (OpenSpec.ofChange s).preRow enc Tryz.prog fn conds false laidL (w.forCall tape i).memory i.args∧({}:Assume).holds Tryz.checked.prog (lone (Frame.enter Tryz.checked.prog f i.args .normal) [] (w.forCall tape i)))
  (law:LawTII f):
  ReturnsInHanded {} Tryz.checked os f .any ((OpenSpec.ofChange s).preRow enc Tryz.prog fn conds false laidL) (((OpenSpec.ofChange s).at F).post enc Tryz.prog fn false true false false):=by
 refine returnsInHanded_of_row (C:= Tryz.checked) (s:=OpenSpec.ofChange s) own0 started noInit hfn witness ?_
 intro W base args ds gs before hval0 hW _ _ hsz0 hL _ _
 show Calls _ _ _ _ fun e W'=> ∃v,e= .returned v∧s.post enc Tryz.prog fn false true false false W args v W'
 replace hW:DataW.Whole enc Tryz.prog fn.params.toList s.vars false W args.toList ds gs before:=hW
 have hW':=hW
 rw[hp] at hval0 hsz0
 obtain ⟨p,q,hA,hV,rfl,_,_⟩:=hW
 rw[hp] at hA
 rw[hs] at hV
 obtain ⟨v0,v1,v2,d0,d1,d2,p0,p1,p2,rfl,rfl,rfl,h0,h1,h2⟩:=trodAll_three hA
 obtain ⟨rfl,rfl⟩:=trodVars_none hV
 obtain ⟨a1,rfl,rfl,rfl,w1⟩:=open_int under3 (hval0 1 3 v1 rfl rfl) h1
 obtain ⟨a2,rfl,rfl,rfl,w2⟩:=open_int under3 (hval0 2 3 v2 rfl rfl) h2
 have hv0:=hval0 0 22 v0 rfl rfl
 have h0k:=h0
 obtain ⟨fuel,hf⟩:=h0
 obtain ⟨a0,len,cap,rfl⟩:=okWide_slice under22 hv0
 obtain ⟨l,hent,hbd⟩:=enters_tab (enc:=enc) modeT (fuel:=fuel) (x:=(d0,p0)) (fun a len' cap' e=>by
  simp[Value.cells] at e
  obtain ⟨rfl,rfl,rfl⟩:=e
  exact heap_pos under22 hv0) hf
 obtain ⟨b1,b2⟩:=hbd reachBytes (by
  rw[List.all_eq_true] at hsz0 ⊢
  intro n hn
  exact hsz0 n (DataW.weights_mem_each (j:=0) (t:=22) (d:=d0) (by simp) (by simp) n hn))
 obtain ⟨ρ',m',xs,_,_,hro,hsim,hvr,sv,rfl,hT⟩:=hent [] [] (Sim.nil W) RoMem.nil
 simp only[VRs] at hvr
 obtain ⟨_,_,e,hvr,rfl⟩:=hvr
 simp[Value.cells] at e
 subst e
 have hlt: ∀x∈p0,x.block<W.heap.size:=fun x hx=>hW'.lt x (by simp[hx])
 refine ((law m' sv l a1 a2 hT b1 b2).2 ρ' W #[.slice a0 len cap,.int .i64 a1,.int .i64 a2] hsim (glob_of hL hro) (by simp only[VRs,VR];exact ⟨_,_,rfl,hvr,_,_,rfl,rfl,_,_,rfl,rfl,rfl⟩)).mono fun e W' h=>?_
 obtain ⟨v',v,m'',ρ'',rfl,rfl,hv,_,hev⟩:=h
 simp only[VR] at hv
 subst hv
 have hb:=below_of_evol hro hev
 refine ⟨_,rfl,[d0,_,_],[],_,[],p0++([]++([]++ [])),[],hW',?_,?_,?_,hb.frame _,fun h=>by cases h⟩
 ·rw[hr]
  show DataW.TrodAll enc _ W' _ _ _ [4] _ (s.fn H [d0,_,_]).results []
  rw[hsf]
  exact trodAll_mk1 (shut_bool under4 true)
 ·rw[hp]
  show DataW.TrodAll enc _ W' _ _ _ [22,3,3] _ (s.fn H [d0,_,_]).args _
  rw[hsf]
  exact trodAll_cons_mk (Below.trod laidOut (by kernel_rfl) (of_decide_eq_true (by kernel_rfl)) h0k hb hlt) (trodAll_cons_mk (shut_int under3 w1) (trodAll_cons_mk (shut_int under3 w2) trodAll_mk0))
 ·show DataW.TrodVars enc _ W' _ s.vars (s.fn H [d0,_,_]).vars _
  rw[hsf,hs]
  rfl
theorem liftedD2i {os:Os} {F:Stop.Interp} (started:os.Started) {H:Type} {enc:TypeId×Value→H} {f:FuncId} {fn:Func} {s:ChangeSpec} {conds:List PathCond}
  (noInit: Tryz.checked.prog.inits.idxOf? f=none) (hfn: Tryz.checked.prog.funcs[f]? =some fn) (hp:fn.params= #[22,3]) (hr:fn.resultTypes= #[4]) (hs:s.vars= [])
  (hsf: ∀d1 d2:DataW H,s.fn H [d1,d2]={results:= [.lit (.bool true)],args:= [d1,d2]})
  (witness: ∃(w:World) (tape:Tape) (i:Input),w.os=os∧(w.forCall tape i).Shaped Tryz.checked.prog∧i.vars= []∧Input.okWide Tryz.checked.prog (w.forCall tape i) .any w.heap.size f i∧
   (OpenSpec.ofChange s).preRow enc Tryz.prog fn conds false laidL (w.forCall tape i).memory i.args∧({}:Assume).holds Tryz.checked.prog (lone (Frame.enter Tryz.checked.prog f i.args .normal) [] (w.forCall tape i)))
  (law:LawTJ f):
  ReturnsInHanded {} Tryz.checked os f .any ((OpenSpec.ofChange s).preRow enc Tryz.prog fn conds false laidL) (((OpenSpec.ofChange s).at F).post enc Tryz.prog fn false true false false):=by
 refine returnsInHanded_of_row (C:= Tryz.checked) (s:=OpenSpec.ofChange s) own0 started noInit hfn witness ?_
 intro W base args ds gs before hval0 hW _ _ hsz0 hL _ _
 show Calls _ _ _ _ fun e W'=> ∃v,e= .returned v∧s.post enc Tryz.prog fn false true false false W args v W'
 replace hW:DataW.Whole enc Tryz.prog fn.params.toList s.vars false W args.toList ds gs before:=hW
 have hW':=hW
 rw[hp] at hval0 hsz0
 obtain ⟨p,q,hA,hV,rfl,_,_⟩:=hW
 rw[hp] at hA
 rw[hs] at hV
 obtain ⟨v0,v1,d0,d1,p0,p1,rfl,rfl,rfl,h0,h1⟩:=trodAll_two hA
 obtain ⟨rfl,rfl⟩:=trodVars_none hV
 obtain ⟨a1,rfl,rfl,rfl,w1⟩:=open_int under3 (hval0 1 3 v1 rfl rfl) h1
 have hv0:=hval0 0 22 v0 rfl rfl
 have h0k:=h0
 obtain ⟨fuel,hf⟩:=h0
 obtain ⟨a0,len,cap,rfl⟩:=okWide_slice under22 hv0
 obtain ⟨l,hent,hbd⟩:=enters_tab (enc:=enc) modeT (fuel:=fuel) (x:=(d0,p0)) (fun a len' cap' e=>by
  simp[Value.cells] at e
  obtain ⟨rfl,rfl,rfl⟩:=e
  exact heap_pos under22 hv0) hf
 obtain ⟨_,b2⟩:=hbd reachBytes (by
  rw[List.all_eq_true] at hsz0 ⊢
  intro n hn
  exact hsz0 n (DataW.weights_mem_each (j:=0) (t:=22) (d:=d0) (by simp) (by simp) n hn))
 obtain ⟨ρ',m',xs,_,_,hro,hsim,hvr,sv,rfl,hT⟩:=hent [] [] (Sim.nil W) RoMem.nil
 simp only[VRs] at hvr
 obtain ⟨_,_,e,hvr,rfl⟩:=hvr
 simp[Value.cells] at e
 subst e
 have hlt: ∀x∈p0,x.block<W.heap.size:=fun x hx=>hW'.lt x (by simp[hx])
 refine ((law m' sv l a1 hT b2).2 ρ' W #[.slice a0 len cap,.int .i64 a1] hsim (glob_of hL hro) (by simp only[VRs,VR];exact ⟨_,_,rfl,hvr,_,_,rfl,rfl,rfl⟩)).mono fun e W' h=>?_
 obtain ⟨v',v,m'',ρ'',rfl,rfl,hv,_,hev⟩:=h
 simp only[VR] at hv
 subst hv
 have hb:=below_of_evol hro hev
 refine ⟨_,rfl,[d0,_],[],_,[],p0++([]++ []),[],hW',?_,?_,?_,hb.frame _,fun h=>by cases h⟩
 ·rw[hr]
  show DataW.TrodAll enc _ W' _ _ _ [4] _ (s.fn H [d0,_]).results []
  rw[hsf]
  exact trodAll_mk1 (shut_bool under4 true)
 ·rw[hp]
  show DataW.TrodAll enc _ W' _ _ _ [22,3] _ (s.fn H [d0,_]).args _
  rw[hsf]
  exact trodAll_cons_mk (Below.trod laidOut (by kernel_rfl) (of_decide_eq_true (by kernel_rfl)) h0k hb hlt) (trodAll_cons_mk (shut_int under3 w1) trodAll_mk0)
 ·show DataW.TrodVars enc _ W' _ s.vars (s.fn H [d0,_]).vars _
  rw[hsf,hs]
  rfl
end Go.Proofs.YtlniliigcnedmaaGreatDoor
namespace Go.Proofs.YtlniliigcnedmaaGreatDoor
open Go Ax Go.ChangeShapes Go.WideShapes Go.ChangeAt Go.RowKit
set_option maxRecDepth 100000
def litsOf:DataW Unit→Array Value
 | .agg ds=>(ds.map fun| .lit l=>l.value|_=> .bool false).toArray
 |_=> #[]
noncomputable def setCells (a:Array Value):Obj→Obj
 | .cells _ t frozen=> .cells a t frozen
 |o=>o
noncomputable def laidWorld (os:Os):World:=
 {World.holding Tryz.prog os ⟨#[],#[],[]⟩ with heap:=((((World.holding Tryz.prog os ⟨#[],#[],[]⟩).heap.modify 0 (setCells (litsOf Rows.laid_environ_alike_words))).modify 2 (setCells (litsOf Rows.laid_internal_strconv_uint64pow10))).modify 3 (setCells (litsOf Rows.laid_math_bits_deBruijn32tab))).modify 4 (setCells (litsOf Rows.laid_math_bits_deBruijn64tab))}
theorem g2: Tryz.prog.globalNamed "internal/strconv.uint64pow10" =some 2:=by kernel_rfl
def argJ:Array Value:= #[.slice none 0 0,.int .i64 0]
theorem laid_metJ (os:Os):laidMet Tryz.prog laidL ((laidWorld os).forCall (fun _ _=>0) ⟨#[],argJ,[]⟩).memory:=
 laidMet_of_run' 8 (by kernel_rfl) (by kernel_rfl)
theorem witJ {os:Os} {f:FuncId} {fn:Func} {s:ChangeSpec} {conds:List PathCond} {H:Type} {enc:TypeId×Value→H} (hp:fn.params= #[22,3]) (hs:s.vars= [])
  (hok:Input.okWideB Tryz.checked.prog ((laidWorld os).forCall (fun _ _=>0) ⟨#[],argJ,[]⟩) f ⟨#[],argJ,[]⟩=true) (hc:conds= []) (hsp:(OpenSpec.ofChange s).cond=none)
  (hsz:(OpenSpec.ofChange s).bare.sizedB enc Tryz.prog fn false ((laidWorld os).forCall (fun _ _=>0) ⟨#[],argJ,[]⟩).memory argJ 8=true):
  ∃(w:World) (tape:Tape) (i:Input),w.os=os∧(w.forCall tape i).Shaped Tryz.checked.prog∧i.vars= []∧Input.okWide Tryz.checked.prog (w.forCall tape i) .any w.heap.size f i∧
   (OpenSpec.ofChange s).preRow enc Tryz.prog fn conds false laidL (w.forCall tape i).memory i.args∧({}:Assume).holds Tryz.checked.prog (lone (Frame.enter Tryz.checked.prog f i.args .normal) [] (w.forCall tape i)):=by
 have hx: ∃places,DataW.whole enc Tryz.prog ((laidWorld os).forCall (fun _ _=>0) ⟨#[],argJ,[]⟩).memory fn.params.toList s.vars false argJ.toList 8=some ([.nil,.lit (.int .i64 0)],[],places):=by
  rw[hp,hs]
  exact ⟨[],by kernel_rfl⟩
 obtain ⟨places,hx⟩:=hx
 exact witness_row_at (enc:=enc) (C:= Tryz.checked) (s:=OpenSpec.ofChange s) false (laidWorld os) argJ rfl (by kernel_rfl) (by kernel_rfl) hok
  (OpenSpec.preRow_of_cond 8 hx (by rw[hc];rfl) (fun k hk=>by rw[hsp] at hk;cases hk) hsz (laid_metJ os))
end Go.Proofs.YtlniliigcnedmaaGreatDoor
namespace Go.Proofs.YtlniliigcnedmaaGreatDoor
open Go Ax Go.ChangeShapes Go.WideShapes Go.ChangeAt Go.RowKit
set_option maxRecDepth 100000
end Go.Proofs.YtlniliigcnedmaaGreatDoor
namespace Go.Proofs.YtlniliigcnedmaaGreatDoor
open Go Ax Go.ChangeShapes Go.WideShapes Go.ChangeAt Go.RowKit
set_option maxRecDepth 100000
def LawTM (f:FuncId):Prop:= ∀(m:AMem) (s:AVal) (c:List AVal) (l:List Md) (x:Md),RTab m s l→RMode m c x→(∀md∈l,MdB reachBytes md)→MdB reachBytes x→ACalls Tryz.prog f [s,.agg c] m fun r _=>r= .bool true
theorem oneTab {m:AMem} {c:List AVal} {x:Md} (h:RMode m c x):RTab (m++ [.own c 39 none]) (.slice m.length 0 1 1 none) [x]:=by
 have h6:=h.all.1
 refine ⟨c,Ow.sl (Ow.new (by omega) h.all.2),fun i y hy=>?_⟩
 match i,hy with
 |0,hy=>
  simp at hy
  subst hy
  simp[List.take_of_length_le,h6]
  exact h.mono (List.prefix_append _ _)
 |i+1,hy=>simp at hy
theorem smallOf {x:Md} (hb:MdB reachBytes x) (h:x.elems.length≤6∧x.names.length≤6):smallN x∧x.elems.length<2^40∧x.names.length<2^40:=by
 refine ⟨⟨by omega,by omega,fun s hs=>?_⟩,by omega,by omega⟩
 have h3:=hb.each s hs
 have h4:reachBytes<2^62:=by decide
 omega
set_option maxHeartbeats 4000000 in
theorem k12:LawTM 12:=by
 intro m s c l x hs hx hb hbx
 refine w12 ?_
 have hx0:=hx
 obtain ⟨e,nm,c0,c1,c2,c3,c4,c5,he,hnm,rfl⟩:=hx.get
 have g1:=Sl.one he
 have g2:=Sl.one hnm
 simp[g1,g2]
 have hb4:(m++ [ABlk.own [AVal.int .i64 x.kind,AVal.int .i64 x.size,e,nm,AVal.int .i64 x.dims,AVal.bool x.flex] 39 none])[m.length]? =some (.own [AVal.int .i64 x.kind,AVal.int .i64 x.size,e,nm,AVal.int .i64 x.dims,AVal.bool x.flex] 39 none):=by simp
 have hm0:m<+:m++ [ABlk.own [AVal.int .i64 x.kind,AVal.int .i64 x.size,e,nm,AVal.int .i64 x.dims,AVal.bool x.flex] 39 none]:=List.prefix_append _ _
 generalize m++ [ABlk.own [AVal.int .i64 x.kind,AVal.int .i64 x.size,e,nm,AVal.int .i64 x.dims,AVal.bool x.flex] 39 none]=m0 at*
 generalize m.length=b4 at*
 refine C_of (k13 m0) ?_
 rintro _ m1 ⟨rfl,hm1⟩
 have hm01:=hm0.trans hm1
 simp
 refine C_of (k14 s l 12 m1 (hs.mono hm01) (by omega)) ?_
 rintro _ m2 ⟨rfl,hm2⟩
 have hm02:=hm01.trans hm2
 have hb42:=own_mono hb4 (hm1.trans hm2)
 cases hsm:(decide ((l.length:Int)≤12)&&l.all fun x=>decide (x.elems.length≤6)&&decide (x.names.length≤6))
 ·simp
 have hf:=fits_of hb hsm
 simp[bxW (own_read hb42),readN,fillA,setN,g1,g2]
 have hT:=oneTab (m:=m2) (hx0.mono hm02)
 have hm3:m2<+:m2++ [ABlk.own [AVal.int .i64 x.kind,AVal.int .i64 x.size,e,nm,AVal.int .i64 x.dims,AVal.bool x.flex] 39 none]:=List.prefix_append _ _
 generalize m2++ [ABlk.own [AVal.int .i64 x.kind,AVal.int .i64 x.size,e,nm,AVal.int .i64 x.dims,AVal.bool x.flex] 39 none]=m3 at*
 generalize AVal.slice m2.length 0 1 1 none=t3 at*
 refine C_of (k14 t3 [x] 1 m3 hT (by omega)) ?_
 rintro _ m4 ⟨rfl,hm4⟩
 have hb44:=own_mono hb42 (hm3.trans hm4)
 have hm04:=hm02.trans (hm3.trans hm4)
 by_cases hsx:x.elems.length≤6∧x.names.length≤6
 rotate_left
 ·have hsx':(decide (x.elems.length≤6)&&decide (x.names.length≤6))=false:=by simpa using hsx
  simp[hsx']
 obtain ⟨hx1,hx2⟩:=smallOf hbx hsx
 have hsx1:=hsx.1
 have hsx2:=hsx.2
 have hS: ∀y∈l++ [x],smallN y:=fun y hy=>by
  rcases List.mem_append.1 hy with h|h
  ·exact hf.sm y h
  ·rw[List.mem_singleton.1 h];exact hx1
 have h40: ∀y∈l++ [x],y.elems.length<2^40∧y.names.length<2^40:=fun y hy=>by
  rcases List.mem_append.1 hy with h|h
  ·exact hf.h40 y h
  ·rw[List.mem_singleton.1 h];exact hx2
 have hn12:=hf.n12
 have hT60:T60 (l++ [x]):=(T13.of (by simp;omega)).t60
 simp[hsx1,hsx2,bxW (own_read hb44),readN,g1,g2]
 refine C_of (k38 s _ l x m4 (hs.mono hm04) (hx0.mono hm04) hS h40 hT60) ?_
 rintro _ m5 ⟨hm5,rfl⟩
 have hb45:=own_mono hb44 hm5
 have hm05:=hm04.trans hm5
 simp[bxW (own_read hb45),readN,g1,g2]
 refine C_of (k39 s _ l x m5 (hs.mono hm05) (hx0.mono hm05) hS h40 (by omega)) ?_
 rintro _ m6 ⟨hm6,rfl⟩
 have hb46:=own_mono hb45 hm6
 have hm06:=hm05.trans hm6
 simp[bxW (own_read hb46),readN,g1,g2]
 refine C_of (k40 s _ l x m6 (hs.mono hm06) (hx0.mono hm06) hS h40 hT60) ?_
 rintro _ m7 ⟨hm7,t7,rfl,ht7⟩
 have hb47:=own_mono hb46 hm7
 have hm07:=hm06.trans hm7
 simp[bxW (own_read hb47),readN,g1,g2]
 refine C_of (k41 s _ l x m7 (hs.mono hm07) (hx0.mono hm07) hS h40 (by omega)) ?_
 rintro _ m8 ⟨hm8,t8,rfl,ht8⟩
 have hput:(∀y∈(putI l x).1,smallN y)∧(putI l x).1.length<2^62:=by
  have hl: ∀y∈l,smallN y:=fun y hy=>hS y (List.mem_append_left _ hy)
  unfold putI
  split
  ·simp
  ·split
   ·exact ⟨hl,by show l.length<_;omega⟩
   ·split
    ·simp
    ·exact ⟨hS,by simp;omega⟩
 generalize putI l x=P at*
 generalize findI l x=F at*
 simp
 refine C_of (k30 t7 t8 P.1 m8 (ht7.mono hm8) ht8 hput.1 hput.2) ?_
 rintro _ m9 ⟨rfl,hm9⟩
 simp
end Go.Proofs.YtlniliigcnedmaaGreatDoor
namespace Go.Proofs.YtlniliigcnedmaaGreatDoor
open Go Ax Go.ChangeShapes Go.WideShapes Go.ChangeAt Go.RowKit
set_option maxRecDepth 100000
theorem liftedDM {os:Os} {F:Stop.Interp} (started:os.Started) {H:Type} {enc:TypeId×Value→H} {f:FuncId} {fn:Func} {s:ChangeSpec} {conds:List PathCond}
  (noInit: Tryz.checked.prog.inits.idxOf? f=none) (hfn: Tryz.checked.prog.funcs[f]? =some fn) (hp:fn.params= #[22,39]) (hr:fn.resultTypes= #[4]) (hs:s.vars= [])
  (hsf: ∀d1 d2:DataW H,s.fn H [d1,d2]={results:= [.lit (.bool true)],args:= [d1,d2]})
  (witness: ∃(w:World) (tape:Tape) (i:Input),w.os=os∧(w.forCall tape i).Shaped Tryz.checked.prog∧i.vars= []∧Input.okWide Tryz.checked.prog (w.forCall tape i) .any w.heap.size f i∧
   (OpenSpec.ofChange s).preRow enc Tryz.prog fn conds false laidL (w.forCall tape i).memory i.args∧({}:Assume).holds Tryz.checked.prog (lone (Frame.enter Tryz.checked.prog f i.args .normal) [] (w.forCall tape i)))
  (law:LawTM f):
  ReturnsInHanded {} Tryz.checked os f .any ((OpenSpec.ofChange s).preRow enc Tryz.prog fn conds false laidL) (((OpenSpec.ofChange s).at F).post enc Tryz.prog fn false true false false):=by
 refine returnsInHanded_of_row (C:= Tryz.checked) (s:=OpenSpec.ofChange s) own0 started noInit hfn witness ?_
 intro W base args ds gs before hval0 hW _ _ hsz0 hL _ _
 show Calls _ _ _ _ fun e W'=> ∃v,e= .returned v∧s.post enc Tryz.prog fn false true false false W args v W'
 replace hW:DataW.Whole enc Tryz.prog fn.params.toList s.vars false W args.toList ds gs before:=hW
 have hW':=hW
 rw[hp] at hval0 hsz0
 obtain ⟨p,q,hA,hV,rfl,_,_⟩:=hW
 rw[hp] at hA
 rw[hs] at hV
 obtain ⟨v0,v1,d0,d1,p0,p1,rfl,rfl,rfl,h0,h1⟩:=trodAll_two hA
 obtain ⟨rfl,rfl⟩:=trodVars_none hV
 have hne:0<W.heap.size:=(glob_of (ρ:= []) hL RoMem.nil (0,_) (List.mem_singleton.2 rfl)).1
 have hv1:=hval0 1 39 v1 rfl rfl
 have h1k:=h1
 obtain ⟨fuel1,hf1⟩:=h1
 obtain ⟨cs,rfl⟩: ∃cs,v1= .agg cs:=by
  have hh:=modeT.hM
  simp only[Value.okWide,show Tryz.prog.underlying 39=_ from hh] at hv1
  obtain ⟨cs,h1,_⟩:=hv1
  exact ⟨cs,h1⟩
 obtain ⟨x,hent1,hbx⟩:=enters_mode (enc:=enc) (x:=(d1,p1)) hne modeT hf1
 have b3:=hbx reachBytes (by
  rw[List.all_eq_true] at hsz0 ⊢
  intro n hn
  exact hsz0 n (DataW.weights_mem_each (j:=1) (t:=39) (d:=d1) (by simp) (by simp) n hn))
 have hv0:=hval0 0 22 v0 rfl rfl
 have h0k:=h0
 obtain ⟨fuel,hf⟩:=h0
 obtain ⟨a0,len,cap,rfl⟩:=okWide_slice under22 hv0
 obtain ⟨l,hent,hbd⟩:=enters_tab (enc:=enc) modeT (fuel:=fuel) (x:=(d0,p0)) (fun a len' cap' e=>by
  simp[Value.cells] at e
  obtain ⟨rfl,rfl,rfl⟩:=e
  exact heap_pos under22 hv0) hf
 obtain ⟨_,b2⟩:=hbd reachBytes (by
  rw[List.all_eq_true] at hsz0 ⊢
  intro n hn
  exact hsz0 n (DataW.weights_mem_each (j:=0) (t:=22) (d:=d0) (by simp) (by simp) n hn))
 obtain ⟨ρ',m',xs,_,_,hro,hsim,hvr,sv,rfl,hT⟩:=hent [] [] (Sim.nil W) RoMem.nil
 obtain ⟨ρ2,m2,xs2,hρ2,hm2,hro2,hsim2,hvr2,hI⟩:=hent1 ρ' m' hsim hro
 simp only[VRs] at hvr
 obtain ⟨_,_,e,hvr,rfl⟩:=hvr
 simp[Value.cells] at e
 subst e
 replace hvr:=VR.mono hρ2 _ _ hvr
 have hlt1: ∀x∈p1,x.block<W.heap.size:=fun x hx=>hW'.lt x (by simp[hx])
 have hlt: ∀x∈p0,x.block<W.heap.size:=fun x hx=>hW'.lt x (by simp[hx])
 refine ((law m2 sv xs2 l x (hT.mono hm2) hI b2 b3).2 ρ2 W #[.slice a0 len cap,.agg cs] hsim2 (glob_of hL hro2) (by simp only[VRs,VR];exact ⟨_,_,rfl,hvr,_,_,rfl,⟨_,rfl,hvr2⟩,rfl⟩)).mono fun e W' h=>?_
 obtain ⟨v',v,m'',ρ'',rfl,rfl,hv,_,hev⟩:=h
 simp only[VR] at hv
 subst hv
 have hb:=below_of_evol hro2 hev
 refine ⟨_,rfl,[d0,_],[],_,[],p0++(p1++ []),[],hW',?_,?_,?_,hb.frame _,fun h=>by cases h⟩
 ·rw[hr]
  show DataW.TrodAll enc _ W' _ _ _ [4] _ (s.fn H [d0,_]).results []
  rw[hsf]
  exact trodAll_mk1 (shut_bool under4 true)
 ·rw[hp]
  show DataW.TrodAll enc _ W' _ _ _ [22,39] _ (s.fn H [d0,_]).args _
  rw[hsf]
  exact trodAll_cons_mk (Below.trod laidOut (by kernel_rfl) (of_decide_eq_true (by kernel_rfl)) h0k hb hlt) (trodAll_cons_mk (Below.trod laidOut (by kernel_rfl) (of_decide_eq_true (by kernel_rfl)) h1k hb hlt1) trodAll_mk0)
 ·show DataW.TrodVars enc _ W' _ s.vars (s.fn H [d0,_]).vars _
  rw[hsf,hs]
  rfl
end Go.Proofs.YtlniliigcnedmaaGreatDoor
namespace Go.Proofs.YtlniliigcnedmaaGreatDoor
open Go Ax Go.ChangeShapes Go.WideShapes Go.ChangeAt Go.RowKit
set_option maxRecDepth 100000
end Go.Proofs.YtlniliigcnedmaaGreatDoor
