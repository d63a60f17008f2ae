/- Layer 10's laws.  Conditions: none beyond those stated. -/
import Derived.Test.YtlniliigcnedmaaGreatDoorU4
import Derived.ProofKit
import Derived.SizedLaws
import Derived.SliceStrings
import Derived.Deep.Slices
import Derived.DataElems
import Derived.Test.YtlniliigcnedmaaGreatDoorRows
import Derived.OpenShut
import Derived.Shelf.Strings.Repeat
import Derived.Ground.Names2Prog
import Derived.Test.YtlniliigcnedmaaGreatDoorProg
set_option linter.unusedSimpArgs false
set_option linter.unusedVariables false
namespace Go.Proofs.YtlniliigcnedmaaGreatDoor
open Go Ax
set_option maxRecDepth 100000
abbrev Sv:={v:AVal // v.cells= [v]∧v.one=true}
abbrev svV:Sv→AVal:=Subtype.val
instance:Cell svV:=⟨fun x=>x.2.1,fun x=>x.2.2⟩
def svNil:Sv:=⟨.nilslice,rfl,rfl⟩
def Stab (S:Nat→Prop) (m:AMem) (s:AVal) (xs:List Int):Prop:= ∀m',Ch S m m'→RInts m' s xs
theorem Stab.here {S:Nat→Prop} {m:AMem} {s:AVal} {xs:List Int} (h:Stab S m s xs):RInts m s xs:=h m (.refl _ _)
theorem Stab.next {S:Nat→Prop} {m m':AMem} {s:AVal} {xs:List Int} (h:Stab S m s xs) (hc:Ch S m m'):Stab S m' s xs:=fun m'' h'=>h m'' (hc.trans h')
theorem Stab.mono {S:Nat→Prop} {m m':AMem} {s:AVal} {xs:List Int} (h:Stab S m s xs) (hm:m<+:m'):Stab S m' s xs:=h.next (.of_prefix hm)
def PL (l:List Md) (j:Nat) (K:List Int):Prop:=(isU (mdAt l j)=true→ ∃O:List Nat,K=(O.map fun z:Nat=>(z:Int))∧O.Nodup∧ ∀z,z∈O↔IsPart l j z)∧(isU (mdAt l j)=false→K=(mdAt l j).elems)
theorem readB_lt {m:AMem} {b:Nat} {cs:List AVal} (h:readB m b=some cs):b<m.length:=by
 simp only[readB,Option.bind_eq_some_iff] at h
 obtain ⟨blk,h1,_⟩:=h
 exact (List.getElem?_eq_some_iff.1 h1).1
theorem list_of {α:Type} {p:Nat→α→Prop}: ∀n,(∀j,j<n→ ∃x,p j x)→ ∃xs:List α,xs.length=n∧ ∀(j:Nat) x,xs[j]? =some x→p j x
 |0,_=>⟨[],rfl,fun j x h=>by simp at h⟩
 |n+1,h=>by
  obtain ⟨xs,h1,h2⟩:=list_of n fun j hj=>h j (by omega)
  obtain ⟨x,hx⟩:=h n (by omega)
  refine ⟨xs++ [x],by simp[h1],fun j y hy=>?_⟩
  by_cases hj:j<n
  ·rw[List.getElem?_append_left (by omega)] at hy;exact h2 j y hy
  ·rw[List.getElem?_append_right (by omega)] at hy
   have hjn:j=n:=by
    have:=(List.getElem?_eq_some_iff.1 hy).1
    simp at this;omega
   subst hjn
   simp[h1] at hy
   subst hy
   exact hx
theorem ints_of_nat {m:AMem} {lo:Nat} {ty:TypeId} {s:AVal} {xs:List Nat} (h:OwL natI lo m ty s xs):RInts m s (xs.map fun z:Nat=>(z:Int)):=(perm_cells h).ints
structure T60 (l:List Md):Prop where
 len:l.length≤60
 few:goodT l→ ∀(x:Nat) (O:List Nat),O.Nodup→(∀j∈O,IsPart l x j)→O.length≤12
structure T13 (l:List Md):Prop where
 len:l.length≤19
 few:goodT l→ ∀(x:Nat) (O:List Nat),O.Nodup→(∀j∈O,IsPart l x j)→O.length≤12
theorem T13.t60 {l:List Md} (h:T13 l):T60 l:=⟨by have:=h.len;omega,h.few⟩
set_option maxHeartbeats 8000000 in
theorem k44 (s:AVal) (l:List Md) (m:AMem) (hs:RTab m s l) (hg:goodT l) (hn:T60 l) (hsz: ∀x∈l,smallN x) (h64: ∀x∈l,x.elems.length≤64):
  ACalls Tryz.prog 44 [s] m fun v m'=>m<+:m'∧ ∃ds k,OwL natI m.length m' 3 v ds∧DenseOf l.length (fun a b=>RR l a<RR l b) ds k:=by
 refine w44 ?_
 have h60:=hn.len
 obtain ⟨hsl,hsc⟩:=hs.self
 have hc1:24*(l.length:Int)≤281474976710656:=by omega
 have hc2:(l.length:Int)≤9223372036854775807:=by omega
 simp[hsl,hsc]
 have hb1:=readB_new m [s] 22 none
 have hm1:m<+:m++ [.own [s] 22 none]:=List.prefix_append _ _
 have hlen1:(m++ [ABlk.own [s] 22 none]).length=m.length+1:=by simp
 generalize m++ [.own [s] 22 none]=m1 at*
 simp[bx hb1,hs.len,hc1,hc2]
 have hX0:OwL svV m1.length (m1++ [.own (List.replicate l.length .nilslice) 36 none]) 36 (.slice m1.length 0 l.length l.length none) (List.replicate l.length svNil):=OwL.rep (f:=svV) m1 36 l.length svNil
 have hm2:m1<+:m1++ [.own (List.replicate l.length .nilslice) 36 none]:=List.prefix_append _ _
 have hbl:(AVal.slice m1.length 0 l.length l.length none).blk=some m1.length:=rfl
 generalize AVal.slice m1.length 0 l.length l.length none=t3 at*
 generalize m1++ [.own (List.replicate l.length .nilslice) 36 none]=m2 at*
 replace hb1:=readB_mono hm2 hb1
 have hX0:=hX0.lo' (lo':=m.length) (by omega)
 simp[bx hb1,hs.len]
 obtain ⟨I,hI⟩: ∃I:Nat→AFrame→AMem→Prop,∀q a m',I q a m'↔(∃(i:Nat) (svs:List Sv),i+q=l.length∧a=h44_0 (.ptr m.length 0) t3 s (.int .i64 l.length) (.int .i64 i)∧m<+:m'∧readB m' m.length=some [s]∧OwL svV m.length m' 36 t3 svs∧svs.length=l.length∧ ∀(j:Nat),j<i→ ∃sv K,svs[j]? =some sv∧PL l j K∧Stab (fun b=>t3.blk=some b) m' sv.val K):=⟨_,fun _ _ _=>Iff.rfl⟩
 refine W_loop I l.length ((hI _ _ _).2 ⟨0,_,by simp,rfl,hm1.trans hm2,hb1,hX0,by simp,fun j hj=>by omega⟩) ?_
 clear hb1 hX0
 rintro q a m3 hIn
 obtain ⟨i,svs,hk,rfl,hm3,hb1,hX,hXl,hXj⟩:=(hI _ _ _).1 hIn
 clear hIn
 simp
 refine bbind_dec (fun hil=>?_) fun hil=>?_
 ·have hw:=step64 hil (by omega)
  obtain ⟨q,rfl⟩: ∃q',q=q'+1:=⟨q-1,by omega⟩
  obtain ⟨bx',ox,c,h4,h5,_,_,h6⟩:=hs.atC hil
  replace h5:=loadE_mono hm3 h5
  have hcl:=h6.all
  simp[h4,h5]
  rw[store_new _ _ c _ _ 6 hcl.1 rfl hcl.2]
  have hb5:=readB_new m3 c 39 none
  have hm4:m3<+:m3++ [.own c 39 none]:=List.prefix_append _ _
  have h35:t3.blk≠some m3.length:=fun h=>by have:=(hX.blk_lo h).2;omega
  generalize m3++ [.own c 39 none]=m4 at*
  generalize m3.length=b5 at*
  obtain ⟨e,nm,c0,c1,c2,c3,c4,c5,he,hnm,rfl⟩:=h6.get
  obtain ⟨hel,hec⟩:=Sl.self he
  have hX4:=hX.mono hm4
  obtain ⟨b3,o3,hb3,hp3,_,hst3⟩:=hX4.at (i:=i) (by omega)
  obtain ⟨m5,hst5,hch5,hX5⟩:=hst3 ⟨e,hec,hel⟩
  simp only[svV] at hst5
  have hm34:=hm3.trans hm4
  have hm5:m<+:m5:=hch5.pre hm34 fun b hb=>by have:=(hX4.blk_lo hb3).1;omega
  have hne1:m.length≠b3:=fun h=>by rw[hbl] at hb3;simp at hb3;omega
  have hb15:=hch5.read (fun h=>hne1 h) (readB_mono hm4 hb1)
  have hb55:=hch5.read (fun h=>h35 (by rw[hb3,←h])) hb5
  have hcs:Ch (fun b=>t3.blk=some b) m3 m5:=(Ch.of_prefix hm4).trans (hch5.weaken fun b _ hb=>by rw[hb];exact hb3)
  simp[bx hb5,hp3,hst5,bx hb55]
  have hmd:mdAt l i=l[i]:=mdAt_eq hil
  have hstabE: ∀m',m<+:m'→Stab (fun b=>t3.blk=some b) m' e l[i].elems:=fun m' hm' m'' hc=>he.mono (hc.pre hm' fun b hb hbb=>by rw[hbl] at hbb;simp at hbb;omega)
  by_cases hu:isU l[i]=true
  ·have hk12:l[i].kind=12:=by simpa[isU] using hu
   simp[hk12,bx hb15]
   refine C_of (k78 s l i hil hu m5 (hs.mono hm5) hg (by omega) hsz) ?_
   rintro v m6 ⟨hm6,O,hO,hOn,hOm⟩
   have hX6:=hX5.mono hm6
   obtain ⟨b3',o3',hb3',hp3',_,hst3'⟩:=hX6.at (i:=i) (by simp;omega)
   obtain ⟨rfl,rfl⟩:b3'=b3∧o3'=o3:=by have:=(hp3' .i64).symm.trans (hp3 .i64);simpa using this
   obtain ⟨hvl,hvc⟩:=Sl.self (Ow.sl hO)
   obtain ⟨m7,hst7,hch7,hX7⟩:=hst3' ⟨v,hvc,hvl⟩
   simp only[svV] at hst7
   have hm6':=hm5.trans hm6
   have hcs7:Ch (fun b=>t3.blk=some b) m5 m7:=(Ch.of_prefix hm6).trans (hch7.weaken fun b _ hb=>by rw[hb];exact hb3)
   simp[hp3,hst7,hw]
   refine ⟨q,by omega,(hI _ _ _).2 ⟨i+1,_,by omega,by simp,hch7.pre hm6' fun b hb=>by have:=(hX4.blk_lo hb3).1;omega,hch7.read (fun h=>hne1 h) (readB_mono hm6 hb15),hX7,by simpa using hXl,fun j hj=>?_⟩⟩
   by_cases hji:j=i
   ·subst hji
    refine ⟨⟨v,hvc,hvl⟩,_,by rw[List.getElem?_set_self (by simp;omega)],⟨fun _=>⟨O,rfl,hOn,hOm⟩,fun h=>by rw[hmd,hu] at h;cases h⟩,fun m8 hc8=>?_⟩
    have hvb: ∀b,v.blk=some b→ ¬t3.blk=some b:=fun b hb hbb=>by
     have h1:=(hO.blk_lo hb).1
     have h2:=(hX5.blk_lo hbb).2
     omega
    exact ints_of_nat ((hO.ch (hch7.weaken (T:=fun b=>t3.blk=some b) fun b _ hb=>by rw[hb];exact hb3) hvb).ch hc8 hvb)
   ·obtain ⟨sv,K,h7,h8,h9⟩:=hXj j (by omega)
    refine ⟨sv,K,?_,h8,(h9.next hcs).next hcs7⟩
    rw[List.getElem?_set_ne (fun h=>hji h.symm),List.getElem?_set_ne (fun h=>hji h.symm)]
    exact h7
  ·have hu:isU l[i]=false:=by simpa using hu
   have hk12: ¬l[i].kind=12:=by simpa[isU] using hu
   simp[beqF hk12,hw]
   refine ⟨q,by omega,(hI _ _ _).2 ⟨i+1,_,by omega,by simp,hm5,hb15,hX5,by simpa using hXl,fun j hj=>?_⟩⟩
   by_cases hji:j=i
   ·subst hji
    exact ⟨_,_,by rw[List.getElem?_set_self (by omega)],⟨fun h=>by (rw[hmd,hu] at h;cases h),fun _=>by rw[hmd]⟩,hstabE m5 hm5⟩
   ·obtain ⟨sv,K,h7,h8,h9⟩:=hXj j (by omega)
    refine ⟨sv,K,?_,h8,h9.next hcs⟩
    rw[List.getElem?_set_ne (fun h=>hji h.symm)]
    exact h7
 have hil:i=l.length:=by omega
 subst hil
 simp
 clear hI I hk
 have hparts: ∀j,j<l.length→ ∃b o sv K,(∀k,iaddrE 1 t3 (.int k j)=some (.ptr b o))∧loadE m3 1 false (.ptr b o)=some sv∧RInts m3 sv K∧PL l j K:=fun j hj=>by
  obtain ⟨sv,K,h1,h2,h3⟩:=hXj j hj
  obtain ⟨b,o,_,h4,h5,_⟩:=hX.at (i:=j) (by omega)
  refine ⟨b,o,sv.val,K,h4,?_,h3.here,h2⟩
  rw[h5]
  rw[List.getElem?_eq_getElem (by omega)] at h1
  simp only[Option.some.injEq] at h1
  rw[h1]
 clear hX hXl hXj hbl hm1 hm2
 simp[bx hb1,hs.len]
 have hCf:Ord (fun a b=>firstC (mdAt l a.toNat) (mdAt l b.toNat)) (fun x=>0≤x∧x<l.length):=by
  have h:=firstC_ord.pull (fun a:Int=>mdAt l a.toNat) (E:=fun x:Int=>0≤x∧x<(l.length:Int)) fun _ _=>trivial
  exact ⟨h.anti,h.trans⟩
 refine C_of (k79 l.length (by omega) 80 [] [.ptr m.length 0] _ m3 hCf fun a b ha hb m' hm'=>?_) ?_
 ·obtain ⟨a,rfl⟩: ∃a':Nat,a=a':=⟨a.toNat,by omega⟩
  obtain ⟨b,rfl⟩: ∃b':Nat,b=b':=⟨b.toNat,by omega⟩
  have:=k80 s l a b m.length m' (readB_mono hm' hb1) (hs.mono (hm3.trans hm')) hsz (by omega) (by omega)
  simpa using this
 rintro v m4 ⟨hm4,t,ds,k,rfl,hds,hdense⟩
 replace hdense:DenseOf l.length (fun a b=>R l 1 a<R l 1 b) ds k:=hdense.congr fun a b ha hb=>by
  rw[R_lt l 0 ha]
  unfold cmpR thenC
  simp[R,cmpI]
 obtain ⟨htl,htc⟩:=Sl.self (Ow.sl hds)
 simp
 rw[store_new1 _ _ _ _ _ htc htl]
 have hb6:(m4++ [ABlk.own [t] 36 none])[m4.length]? =some (.own [t] 36 none):=by simp
 have hm5:m4<+:m4++ [.own [t] 36 none]:=List.prefix_append _ _
 have hlo6:m3.length≤m4.length:=hm4.length_le
 have hap6:t.blk≠some m4.length:=fun h=>by have:=(hds.blk_lo h).2;omega
 replace hds:=hds.mono hm5
 replace hm4:=hm4.trans hm5
 generalize m4++ [.own [t] 36 none]=m5 at*
 generalize m4.length=b6 at*
 simp
 clear hm5 hCf
 obtain ⟨J,hJ⟩: ∃I:Nat→AFrame→AMem→Prop,∀q a m',I q a m'↔(∃(d k:Nat) (vr:AVal) (ds:List Nat),k+q=l.length∧1≤d∧(d≤k∨d=1)∧DenseOf l.length (fun a b=>R l d a<R l d b) ds k∧a=h44_1 (.ptr m.length 0) t3 (.ptr b6 0) (.int .i64 k)∧m3<+:m'∧m'[b6]? =some (.own [vr] 36 none)∧vr.blk≠some b6∧OwL natI m.length m' 3 vr ds):=⟨_,fun _ _ _=>Iff.rfl⟩
 have hk:=hdense.le
 refine W_loop J (l.length-k) ((hJ _ _ _).2 ⟨1,k,t,ds,by omega,by omega,.inr rfl,hdense,rfl,hm4,hb6,hap6,hds.lo' hm3.length_le⟩) ?_
 clear hds hap6 hb6 hdense htl htc hm4 hk
 rintro q a m4 hIn
 obtain ⟨d,k,vr,ds,hkq,hd1,hdk,hdense,rfl,hm4,hb6,hap6,hds⟩:=(hJ _ _ _).1 hIn
 clear hIn
 have hb1':=readB_mono hm4 hb1
 have hm04:=hm3.trans hm4
 have hr6:readB m4 b6=some [vr]:=by simp[readB,hb6,ABlk.cells]
 simp[bx hb1',hs.len,hc1,hc2]
 rw[store_at (z:= .nilslice) (ty:=99) (g:=none) (by simp) rfl rfl]
 simp[List.set_append]
 have hX0:OwL svV m4.length (m4++ [.own (List.replicate l.length .nilslice) 36 none,.own [.slice m4.length 0 l.length l.length none] 99 none]) 36 (.slice m4.length 0 l.length l.length none) (List.replicate l.length svNil):=by
  have:=OwL.of_get (f:=svV) (m:=m4++ [.own (List.replicate l.length .nilslice) 36 none,.own [.slice m4.length 0 l.length l.length none] 99 none]) (b:=m4.length) (lo:=m4.length) (ty:=36) (xs:=List.replicate l.length svNil) (by simp[svNil]) (Nat.le_refl _)
  simpa using this
 have hb8:readB (m4++ [.own (List.replicate l.length .nilslice) 36 none,.own [.slice m4.length 0 l.length l.length none] 99 none]) (m4.length+1)=some [.slice m4.length 0 l.length l.length none]:=by simp[readB,ABlk.cells]
 have hm5:m4<+:m4++ [.own (List.replicate l.length .nilslice) 36 none,.own [.slice m4.length 0 l.length l.length none] 99 none]:=List.prefix_append _ _
 have hbl:(AVal.slice m4.length 0 l.length l.length none).blk=some m4.length:=rfl
 generalize AVal.slice m4.length 0 l.length l.length none=tl at*
 generalize m4++ [.own (List.replicate l.length .nilslice) 36 none,.own [tl] 99 none]=m5 at*
 have hb15:=readB_mono hm5 hb1'
 simp[bx hb15,hs.len]
 have hvr:vr.blk≠some m4.length:=fun h=>by have:=(hds.blk_lo h).2;omega
 obtain ⟨I,hI⟩: ∃I:Nat→AFrame→AMem→Prop,∀q a m',I q a m'↔(∃(i:Nat) (svs:List Sv),i+q=l.length∧a=h44_2 (.ptr m.length 0) t3 (.ptr b6 0) (.int .i64 k) (.ptr (m4.length+1) 0) s (.int .i64 l.length) (.int .i64 i)∧m4<+:m'∧readB m' (m4.length+1)=some [tl]∧OwL svV m4.length m' 36 tl svs∧svs.length=l.length∧(∀(j:Nat),i≤j→j<l.length→svs[j]? =some svNil)∧ ∀(j:Nat),j<i→ ∃sv K,svs[j]? =some sv∧IsKey l (fun a=>ds.getD a 0) j K∧K.length<2^62∧OwL (AVal.int .i64) m4.length m' 3 sv.val K∧Ap tl sv.val):=⟨_,fun _ _ _=>Iff.rfl⟩
 refine W_loop I l.length ((hI _ _ _).2 ⟨0,_,by simp,rfl,hm5,hb8,hX0,by simp,fun j _ hj=>by rw[List.getElem?_replicate,if_pos hj],fun j hj=>by omega⟩) ?_
 clear hX0 hb8 hm5 hb15
 rintro q2 a m5 hIn
 obtain ⟨i,svs,hiq,rfl,hm5,hb8,hX,hXl,hXn,hXj⟩:=(hI _ _ _).1 hIn
 clear hIn
 simp
 refine bbind_dec (fun hil=>?_) fun hil=>?_
 ·have hw:=step64 hil (by omega)
  obtain ⟨q2,rfl⟩: ∃q',q2=q'+1:=⟨q2-1,by omega⟩
  obtain ⟨bx',ox,c,h4,h5,_,_,h6⟩:=hs.atC hil
  replace h5:=loadE_mono (hm04.trans hm5) h5
  have hcl:=h6.all
  obtain ⟨bp,op,sp,P,hpp,hpl,hpr,hPL⟩:=hparts i hil
  simp[h4,h5]
  rw[store_new _ _ c _ _ 6 hcl.1 rfl hcl.2]
  have hb10:=readB_new m5 c 39 none
  have hm6:m5<+:m5++ [.own c 39 none]:=List.prefix_append _ _
  have hlen6:(m5++ [ABlk.own c 39 none]).length=m5.length+1:=by simp
  have h10:tl.blk≠some m5.length:=fun h=>by have:=(hX.blk_lo h).2;omega
  generalize m5++ [.own c 39 none]=m6 at*
  have hlo6':=hm5.length_le
  generalize hb10e:m5.length=b10 at*
  obtain ⟨e,nm,c0,c1,c2,c3,c4,c5,he,hnm,rfl⟩:=h6.get
  have hmd:mdAt l i=l[i]:=mdAt_eq hil
  have hm46:=hm5.trans hm6
  have hpl6:=loadE_mono (hm4.trans hm46) hpl
  simp[hpp,hpl6,(hpr.mono (hm4.trans hm46)).len]
  have hPlt: ∀x∈P,0≤x∧x<l.length:=fun x hx=>by
   cases hu:isU (mdAt l i)
   ·rw[hPL.2 hu,hmd] at hx
    exact hg _ (List.getElem_mem hil) x hx
   ·obtain ⟨O,rfl,_,hO⟩:=hPL.1 hu
    obtain ⟨z,hz,rfl⟩:=List.mem_map.1 hx
    have:=((hO z).1 hz).lt hg
    omega
  have hPl:P.length<2^40:=by
   cases hu:isU (mdAt l i)
   ·rw[hPL.2 hu,hmd]
    have:=h64 _ (List.getElem_mem hil)
    omega
   ·obtain ⟨O,rfl,hOn,hO⟩:=hPL.1 hu
    have:=nodup_le l.length O hOn fun x hx=>((hO x).1 hx).lt hg
    simp;omega
  have hb8lt:=readB_lt hb8
  have hb86:=readB_mono hm6 hb8
  have hX6:=hX.mono hm6
  have hr0: ∀(x:Int),0≤x→x<l.length→ ∃bv ov,(∀k,iaddrE 1 vr (.int k x)=some (.ptr bv ov))∧ ∀m',m4<+:m'→loadE m' 1 false (.ptr bv ov)=some (.int .i64 (ds.getD x.toNat 0:Nat)):=fun x hx1 hx2=>by
   obtain ⟨z,rfl⟩: ∃z:Nat,x=z:=⟨x.toNat,by omega⟩
   have hzl:z<ds.length:=by rw[hdense.len];omega
   obtain ⟨bv,ov,_,h1,h2,_⟩:=hds.at hzl
   exact ⟨bv,ov,h1,fun m' hm'=>by rw[loadE_mono hm' h2];simp[List.getD,hzl]⟩
  obtain ⟨K,hK⟩: ∃I:Nat→AFrame→AMem→Prop,∀q a m',I q a m'↔(∃(z:Nat) (svs:List Sv) (cv:Sv),z+q=P.length∧a=h44_3 (.ptr m.length 0) t3 (.ptr b6 0) (.int .i64 k) (.ptr (m4.length+1) 0) (.int .i64 i) (.ptr b10 0) s (.int .i64 l.length) (.int .i64 i) sp (.int .i64 P.length) (.int .i64 z)∧m4<+:m'∧b10<m'.length∧readB m' (m4.length+1)=some [tl]∧readB m' b10=some [.int .i64 l[i].kind,.int .i64 l[i].size,e,nm,.int .i64 l[i].dims,.bool l[i].flex]∧OwL svV m4.length m' 36 tl svs∧svs.length=l.length∧(∀(j:Nat),i<j→j<l.length→svs[j]? =some svNil)∧(∀(j:Nat),j<i→ ∃sv K,svs[j]? =some sv∧IsKey l (fun a=>ds.getD a 0) j K∧K.length<2^62∧OwL (AVal.int .i64) m4.length m' 3 sv.val K∧Ap tl sv.val∧ ∀b,sv.val.blk=some b→b<b10+1)∧svs[i]? =some cv∧OwL (AVal.int .i64) (b10+1) m' 3 cv.val ((P.take z).map fun x=>(ds.getD x.toNat 0:Int))∧Ap tl cv.val):=⟨_,fun _ _ _=>Iff.rfl⟩
  refine W_loop K P.length ((hK _ _ _).2 ⟨0,svs,svNil,by simp,rfl,hm46,by omega,hb86,hb10,hX6,hXl,fun j h1 h2=>hXn j (by omega) h2,fun j hj=>?_,hXn i (Nat.le_refl _) hil,by simpa[svNil] using OwL.nil,fun _ _ h=>(by cases h)⟩) ?_
  ·obtain ⟨sv,K,g1,g2,g3,g4,g5⟩:=hXj j hj
   exact ⟨sv,K,g1,g2,g3,g4.mono hm6,g5,fun b hb=>by have:=(g4.blk_lo hb).2;omega⟩
  clear hX hXn hXj hX6 hb86 hb10 hb8 hm5 hm6 hm46 hXl h5
  rintro q3 a m7 hIn
  obtain ⟨z,svs,cv,hzq,rfl,hm7,hb10l,hb8,hb10,hX,hXl,hXn,hXj,hcv,hcur,hapc⟩:=(hK _ _ _).1 hIn
  clear hIn
  simp
  refine bbind_dec (fun hzl=>?_) fun hzl=>?_
  ·have hwz:=step64 hzl (by omega)
   obtain ⟨q3,rfl⟩: ∃q',q3=q'+1:=⟨q3-1,by omega⟩
   obtain ⟨bq,oq,hpq,hlq⟩:=(hpr.mono (hm4.trans hm7)).at hzl
   have hPz:=hPlt _ (List.getElem_mem hzl)
   have hPz':P[z]? =some P[z]:=List.getElem?_eq_getElem hzl
   generalize P[z]=x at*
   obtain ⟨bv,ov,hpv,hlv⟩:=hr0 x hPz.1 hPz.2
   obtain ⟨bt,ot,hbt,hpt,hlt,_⟩:=hX.at (i:=i) (by omega)
   have hlt':loadE m7 1 false (.ptr bt ot)=some cv.val:=by
    rw[hlt]
    rw[List.getElem?_eq_getElem (by omega)] at hcv
    simp only[Option.some.injEq] at hcv
    rw[hcv]
   have hr67:=readB_mono hm7 hr6
   generalize hy:(ds.getD x.toNat 0:Nat)=y at*
   simp[hpq,hlq]
   refine W_draw (fun _ _ _=>True) (by simp[maxDst]) ?_
   refine D_pc 0 10 [10,11,12,13] ?_
   simp[bx hb8,hpt,hlt',bx hr67,hpv,hlv m7 hm7]
   intro fs' hfs'
   refine D_A rfl trivial ?_
   simp[fillA,setN]
   intro bl
   refine D_X rfl rfl fun m8 hm8 hf=>?_
   have hf10:=hf 10
   simp[upd] at hf10
   have hsc8:sliceCells m8 1 (.slice bl 0 1 1 none)=some (1,[.int .i64 y]):=by simp[sliceCells,readB,hf10,ABlk.cells,readN]
   have hcur8:=hcur.mono hm8
   obtain ⟨cv',m9,happ,hch9,hcur9,hbl9⟩:=hcur8.push (by have:=hm8.length_le;omega) (by_:=8) (by decide) (y:Int) (by simp;omega)
   have hcb: ∀b,cv.val.blk=some b→b10<b:=fun b hb=>by have:=(hcur.blk_lo hb).1;omega
   have hX8:=hX.mono hm8
   have hX9:=hX8.ch hch9 fun b hb hbb=>hapc b hb hbb
   have hm79:m4<+:m9:=hch9.pre (hm7.trans hm8) fun b hb hbb=>by have:=hcb b hbb;omega
   have hb89:=hch9.read (fun hb=>by have:=hcb _ hb;omega) (readB_mono hm8 hb8)
   have hb109:=hch9.read (fun hb=>by have:=hcb _ hb;omega) (readB_mono hm8 hb10)
   simp[hsc8,happ]
   refine ⟨by simp[lateOf,ROp.ev,hb89],?_⟩
   refine D_pc 12 1 [13] ?_
   simp[hpt]
   intro fs3 _
   refine D_W rfl rfl fun m10 hm10 _=>?_
   have hX10:=hX9.mono hm10
   have hcur10:=hcur9.mono hm10
   obtain ⟨hcl',hcc'⟩:=Sl.self (Ow.sl hcur10)
   obtain ⟨bt',ot',hbt',hpt',_,hstt⟩:=hX10.at (i:=i) (by omega)
   obtain ⟨rfl,rfl⟩:bt'=bt∧ot'=ot:=by have:=(hpt' .i64).symm.trans (hpt .i64);simpa using this
   obtain ⟨m11,hst11,hch11,hX11⟩:=hstt ⟨cv',hcc',hcl'⟩
   simp only[svV] at hst11
   simp[hst11]
   refine D_end fun m12 hm12 _=>?_
   simp[hwz]
   have htb: ∀b,b=bt'→m4.length≤b:=fun b hb=>by have:=(hX10.blk_lo hbt').1;omega
   have hapc':Ap tl cv':=fun b hb hbb=>by
    rcases hbl9 b hbb with h1|h1
    ·exact hapc b hb h1
    ·have:=(hX8.blk_lo hb).2;omega
   have hbtl:tl.blk=some m4.length:=by assumption
   have hbte:bt'=m4.length:=by rw[hbtl] at hbt';simpa using hbt'.symm
   refine ⟨q3,by omega,(hK _ _ _).2 ⟨z+1,svs.set i ⟨cv',hcc',hcl'⟩,⟨cv',hcc',hcl'⟩,by omega,by simp,(hch11.pre (hm79.trans hm10) fun b hb hbb=>by have:=htb b hbb;omega).trans hm12,?_,readB_mono hm12 (hch11.read (by omega) (readB_mono hm10 hb89)),readB_mono hm12 (hch11.read (by omega) (readB_mono hm10 hb109)),hX11.mono hm12,by simpa using hXl,fun j h1 h2=>?_,fun j hj=>?_,List.getElem?_set_self (by omega),?_,hapc'⟩⟩
   ·have h1:=hm8.length_le
    have h2:=hch9.len
    have h3:=hm10.length_le
    have h4:=hch11.len
    have h5:=hm12.length_le
    omega
   ·rw[List.getElem?_set_ne (by omega)];exact hXn j h1 h2
   ·obtain ⟨sv,K,g1,g2,g3,g4,g5,g6⟩:=hXj j hj
    refine ⟨sv,K,by rw[List.getElem?_set_ne (by omega)];exact g1,g2,g3,?_,g5,g6⟩
    refine ((((g4.mono hm8).ch hch9 fun b hb hbb=>?_).mono hm10).ch hch11 fun b hb hbb=>?_).mono hm12
    ·have:=g6 b hb;have:=hcb b hbb;omega
    ·exact g5 b (by rw[hbt',hbb]) hb
   ·have htk:P.take (z+1)=P.take z++ [x]:=by rw[List.take_add_one,hPz'];rfl
    rw[htk,List.map_append]
    have hyy: [(y:Int)]= [x].map fun x=>(ds.getD x.toNat 0:Int):=by simp[←hy]
    rw[←hyy]
    exact (hcur10.ch hch11 fun b hb hbb=>hapc' b (by rw[hbt',hbb]) hb).mono hm12
  ·have hzl:z=P.length:=by omega
   subst hzl
   rw[List.take_length] at hcur
   simp[bx hb10]
   have hbtl:tl.blk=some m4.length:=by assumption
   have next: ∀m' (svs':List Sv) (sv:Sv) K',m4<+:m'→readB m' (m4.length+1)=some [tl]→OwL svV m4.length m' 36 tl svs'→svs'.length=l.length→(∀(j:Nat),i<j→j<l.length→svs'[j]? =some svNil)→
     (∀(j:Nat),j<i→ ∃sv K,svs'[j]? =some sv∧IsKey l (fun a=>ds.getD a 0) j K∧K.length<2^62∧OwL (AVal.int .i64) m4.length m' 3 sv.val K∧Ap tl sv.val)→svs'[i]? =some sv→IsKey l (fun a=>ds.getD a 0) i K'→K'.length<2^62→OwL (AVal.int .i64) m4.length m' 3 sv.val K'→Ap tl sv.val→
     I q2 (h44_2 (.ptr m.length 0) t3 (.ptr b6 0) (.int .i64 k) (.ptr (m4.length+1) 0) s (.int .i64 l.length) (.int .i64 (i+1:Nat))) m':=by
    intro m' svs' sv K' g1 g2 g3 g4 g5 g6 g7 g8 g9 g10 g11
    refine (hI _ _ _).2 ⟨i+1,svs',by omega,rfl,g1,g2,g3,g4,fun j h1 h2=>g5 j (by omega) h2,fun j hj=>?_⟩
    by_cases hji:j=i
    ·subst hji;exact ⟨sv,K',g7,g8,g9,g10,g11⟩
    ·exact g6 j (by omega)
   cases hu:isU l[i]
   ·have hk12: ¬l[i].kind=12:=by simpa[isU] using hu
    simp[beqF hk12,hw]
    have hN:=next m7 svs cv _ hm7 hb8 hX hXl hXn (fun j hj=>by
     obtain ⟨sv,K,g1,g2,g3,g4,g5,_⟩:=hXj j hj
     exact ⟨sv,K,g1,g2,g3,g4,g5⟩) hcv ⟨fun h=>by (rw[hmd,hu] at h;cases h),fun _=>by rw[hPL.2 (by rw[hmd];exact hu)]⟩ (by simp;omega) (hcur.lo' (by omega)) hapc
    exact ⟨q2,by omega,by simpa using hN⟩
   ·have hk12:l[i].kind=12:=by simpa[isU] using hu
    obtain ⟨O,hPO,hOn,hOm⟩:=hPL.1 (by rw[hmd];exact hu)
    have hP12:P.length≤12:=by
     rw[hPO,List.length_map]
     exact hn.few hg i O hOn fun j hj=>(hOm j).1 hj
    obtain ⟨bt,ot,hbt,hpt,hlt,_⟩:=hX.at (i:=i) (by omega)
    have hcvv:svs[i]'(by omega)=cv:=by
     rw[List.getElem?_eq_getElem (by omega)] at hcv
     simpa using hcv
    rw[hcvv] at hlt
    simp only[svV] at hlt
    simp[hk12,bx hb8,hpt,hlt]
    have hcb: ∀b,cv.val.blk=some b→b10<b:=fun b hb=>by have:=(hcur.blk_lo hb).1;omega
    refine C_of (k82 cv.val 3 (b10+1) m4 (by omega) _ (by simp;omega) m7 hm7 hcur) ?_
    rintro v8 m8 ⟨hm8,hch8,ys,hys,hperm,hsort⟩
    have hb88:=hch8.read (fun hb=>by have:=hcb _ hb;omega) hb8
    have hX8:=hX.ch hch8 fun b hb hbb=>hapc b hb hbb
    have hlt8:loadE m8 1 false (.ptr bt ot)=some cv.val:=by
     obtain ⟨bt',ot',_,hpt',hlt',_⟩:=hX8.at (i:=i) (by omega)
     obtain ⟨rfl,rfl⟩:bt'=bt∧ot'=ot:=by have:=(hpt' .i64).symm.trans (hpt .i64);simpa using this
     rw[hlt',hcvv]
    have hyl:=hperm.length_eq
    simp
    refine W_draw (fun _ _ _=>True) (by simp[maxDst]) ?_
    refine D_pc 0 6 [6,7,8] ?_
    simp[bx hb88,hpt,hlt8]
    intro fs' hfs'
    refine D_X rfl rfl fun m9 hm9 _=>?_
    simp
    refine C_of (k83 cv.val 3 (b10+1) m4 (by omega) ys (by rw[hyl];simp;omega) m9 (hm8.trans hm9) (hys.mono hm9)) ?_
    rintro v m10 ⟨hm10,hch10,hcp,hvb⟩
    have hb810:=hch10.read (fun hb=>by have:=hcb _ hb;omega) (readB_mono hm9 hb88)
    have hX10:=(hX8.mono hm9).ch hch10 fun b hb hbb=>hapc b hb hbb
    refine ⟨by simp[lateOf,ROp.ev,hb810],?_⟩
    refine D_pc 7 1 [8] ?_
    simp[hpt]
    intro fs3 _
    refine D_W rfl rfl fun m11 hm11 _=>?_
    have hX11:=hX10.mono hm11
    have hcp11:=hcp.mono hm11
    obtain ⟨hvl,hvc⟩:=Sl.self (Ow.sl hcp11)
    obtain ⟨bt',ot',hbt',hpt',_,hstt⟩:=hX11.at (i:=i) (by omega)
    obtain ⟨rfl,rfl⟩:bt'=bt∧ot'=ot:=by have:=(hpt' .i64).symm.trans (hpt .i64);simpa using this
    obtain ⟨m12,hst12,hch12,hX12⟩:=hstt ⟨v,hvc,hvl⟩
    simp only[svV] at hst12
    simp[hst12]
    refine D_end fun m13 hm13 _=>?_
    simp[hw]
    have hbte:bt'=m4.length:=by rw[hbtl] at hbt;simpa using hbt.symm
    have hapv:Ap tl v:=fun b hb hbb=>hapc b hb (by rw[←hvb];exact hbb)
    have hsc:=cp_sorted (ys:=ys) hsort ys.length (Nat.le_refl _)
    rw[List.take_length] at hsc
    have hN:=next m13 (svs.set i ⟨v,hvc,hvl⟩) ⟨v,hvc,hvl⟩ (cp ys ys.length) ((hch12.pre (hm10.trans hm11) fun b hb hbb=>by omega).trans hm13) (readB_mono hm13 (hch12.read (by omega) (readB_mono hm11 hb810))) (hX12.mono hm13) (by simpa using hXl) (fun j h1 h2=>by rw[List.getElem?_set_ne (by omega)];exact hXn j h1 h2) (fun j hj=>by
     obtain ⟨sv,K,g1,g2,g3,g4,g5,g6⟩:=hXj j hj
     refine ⟨sv,K,by rw[List.getElem?_set_ne (by omega)];exact g1,g2,g3,?_,g5⟩
     refine (((((g4.ch hch8 fun b hb hbb=>?_).mono hm9).ch hch10 fun b hb hbb=>?_).mono hm11).ch hch12 fun b hb hbb=>?_).mono hm13
     ·have:=g6 b hb;have:=hcb b hbb;omega
     ·have:=g6 b hb;have:=hcb b hbb;omega
     ·exact g5 b (by rw[hbt,hbb]) hb) (List.getElem?_set_self (by omega)) ⟨fun _=>⟨hsc.1,fun v=>by
      rw[hsc.2.1,hperm.mem_iff,List.mem_map]
      constructor
      ·rintro ⟨x,hx,rfl⟩
       rw[hPO] at hx
       obtain ⟨z,hz,rfl⟩:=List.mem_map.1 hx
       exact ⟨z,(hOm z).1 hz,by simp⟩
      ·rintro ⟨z,hz,rfl⟩
       exact ⟨z,by rw[hPO];exact List.mem_map.2 ⟨z,(hOm z).2 hz,rfl⟩,by simp⟩⟩,fun h=>by (rw[hmd,hu] at h;cases h)⟩ (by
      have h1:=cp_length ys ys.length
      have h2:ys.length=P.length:=by simpa using hyl
      omega) (((hcp11.ch hch12 fun b hb hbb=>hapv b (by rw[hbt,hbb]) hb).mono hm13).lo' (by omega)) hapv
    exact ⟨q2,by omega,by simpa using hN⟩
 ·have hil:i=l.length:=by omega
  subst hil
  simp
  have hm05:=hm04.trans hm5
  have hb15:=readB_mono (hm4.trans hm5) hb1
  obtain ⟨ks,hksl,hks⟩:=list_of l.length (p:=fun j K=> ∃sv,svs[j]? =some sv∧IsKey l (fun a=>ds.getD a 0) j K∧K.length<2^62∧RInts m5 sv.val K) fun j hj=>by
   obtain ⟨sv,K,g1,g2,g3,g4,_⟩:=hXj j hj
   exact ⟨K,sv,g1,g2,g3,g4.ints⟩
  have hrr:RRows m5 tl ks:=by
   refine ⟨svs.map svV,?_,fun j K hK=>?_⟩
   ·have:=Ow.sl hX
    rw[hXl] at this
    rw[hksl];exact this
   ·obtain ⟨sv,g1,_,_,g4⟩:=hks j K hK
    exact ⟨sv.val,by rw[List.getElem?_map,g1];rfl,g4⟩
  have hr65:=readB_mono hm5 hr6
  have hdsi:RInts m5 vr (ds.map fun z:Nat=>(z:Int)):=(ints_of_nat hds).mono hm5
  have hso:=hdense.sameOrd
  have hd0:d≠0:=by omega
  have hOrd:Ord (fun a b=>cmpR l (R l d) d a.toNat b.toNat) (fun x=>0≤x∧x<l.length):=by
   have h:=(cmpR_ord l (R l d) d).pull (fun a:Int=>a.toNat) (E:=fun x:Int=>0≤x∧x<(l.length:Int)) fun _ _=>trivial
   exact ⟨h.anti,h.trans⟩
  simp[bx hb15,hs.len]
  refine C_of (k79 l.length (by omega) 84 [] [.ptr b6 0,.ptr (m4.length+1) 0] _ m5 hOrd fun a b ha hb m' hm'=>?_) ?_
  ·obtain ⟨a,rfl⟩: ∃a':Nat,a=a':=⟨a.toNat,by omega⟩
   obtain ⟨b,rfl⟩: ∃b':Nat,b=b':=⟨b.toNat,by omega⟩
   have hal:a<ds.length:=by rw[hdense.len];omega
   have hbl':b<ds.length:=by rw[hdense.len];omega
   have hksa:ks[a]? =some (ks[a]'(by omega)):=List.getElem?_eq_getElem _
   have hksb:ks[b]? =some (ks[b]'(by omega)):=List.getElem?_eq_getElem _
   obtain ⟨_,_,ka,_⟩:=hks a _ hksa
   obtain ⟨_,_,kb,_⟩:=hks b _ hksb
   have hnx:=next_same hg hd0 hso (a:=a) (b:=b) (by omega) (by omega) ka kb
   have:=k84 vr tl (ds.map fun z:Nat=>(z:Int)) ks a b b6 (m4.length+1) m' (readB_mono hm' hr65) (readB_mono hm' hb8) (hdsi.mono hm') (hrr.mono hm') (by simpa using hal) (by simpa using hbl') (by simp;rw[hksl,hdense.len]) fun K hK=>by
    obtain ⟨j,hj,rfl⟩:=List.mem_iff_getElem.1 hK
    obtain ⟨_,_,_,h,_⟩:=hks j _ (List.getElem?_eq_getElem hj)
    exact h
   refine (show ACalls Tryz.prog 84 ([]++ [.int .i64 (a:Int),.int .i64 (b:Int)]++ [.ptr b6 0,.ptr (m4.length+1) 0]) m' _ from this).mono fun v m'' h=>⟨?_,h.2⟩
   rw[h.1]
   congr 1
   rw[Int.toNat_natCast,Int.toNat_natCast,←hnx]
   simp only[thenC,firstNZ_cons]
   have h0:firstNZ []=0:=rfl
   rw[h0]
   simp only[List.getElem_map,List.getD,List.getElem?_eq_getElem hal,List.getElem?_eq_getElem hbl',Option.getD_some]
   split
   ·rfl
   ·split<;>simp_all
  rintro v m8 ⟨hm8,t',ds',k',rfl,hds',hdense'⟩
  replace hdense':DenseOf l.length (fun a b=>R l (d+1) a<R l (d+1) b) ds' k':=hdense'.congr fun a b ha hb=>by
   rw[R_lt l d ha,Int.toNat_natCast,Int.toNat_natCast]
  have hle:k≤k':=hdense.mono hdense' fun a b ha _ h=>R_refine l d ha h
  have hm08:=hm05.trans hm8
  simp
  by_cases hkk:k'=k
  ·subst hkk
   simp[hm08]
   refine ⟨ds',hds'.lo' (by have:=hm04.length_le;have:=hm5.length_le;omega),k',hdense'.congr fun a b ha hb=>?_⟩
   have hsame:SameOrd l.length (R l (d+1)) (R l d):=fun a b ha hb=>hdense.same hdense' (fun a b ha _ h=>R_refine l d ha h) a b ha hb
   have hst:=R_stable hg hd0 hsame
   have hdn:d≤l.length+1:=by
    have:=hdense.le
    omega
   have e1: ∀a,a<l.length→RR l a=R l (d+1) a:=fun a ha=>by
    have h1:=hst (l.length+1-d) a ha
    rw[show d+(l.length+1-d)=l.length+1 by omega] at h1
    rw[RR,h1,hst 1 a ha]
   rw[e1 a ha,e1 b hb]
  ·have hkk': ¬((k':Int)=k):=by omega
   have hb68:m8[b6]? =some (.own [vr] 36 none):=prefix_get (hm5.trans hm8) hb6
   obtain ⟨htl,htc⟩:=Sl.self (Ow.sl hds')
   simp[beqF hkk']
   rw[store_at hb68 htc htl]
   simp
   have hb6l:b6<m4.length:=(List.getElem?_eq_some_iff.1 hb6).1
   have hch:Ch (fun b=>b=b6) m8 (m8.set b6 (.own [t'] 36 none)):=Ch.setS _ rfl
   have hdn:=hdense'.le
   have hkpos:l.length≠0→1≤k:=hdense.pos
   have hb6l5:m4.length≤m5.length:=hm5.length_le
   refine ⟨l.length-k',by omega,(hJ _ _ _).2 ⟨d+1,k',t',ds',by omega,by omega,by omega,hdense',by simp,hch.pre ((hm4.trans hm5).trans hm8) fun b hb hbb=>by omega,by rw[List.getElem?_set_self (List.getElem?_eq_some_iff.1 hb68).1],fun h=>by have:=(hds'.blk_lo h).1;omega,(hds'.ch hch fun b hb hbb=>by have:=(hds'.blk_lo hb).1;omega).lo' (by have:=hm04.length_le;omega)⟩⟩
end Go.Proofs.YtlniliigcnedmaaGreatDoor
namespace Go.Proofs.YtlniliigcnedmaaGreatDoor
open Go Ax
open Relation
set_option maxRecDepth 100000
theorem ints_append {m:AMem} {s:AVal} {xs:List Int} (h:RInts m s xs):sliceCells m 1 s=some (xs.length,xs.map fun x=> .int .i64 x):=Sl.cells h
end Go.Proofs.YtlniliigcnedmaaGreatDoor
namespace Go.Proofs.YtlniliigcnedmaaGreatDoor
open Go Ax
set_option maxRecDepth 100000
def namesOk (l:List Md):Prop:= ∀x∈l,∀y∈l,x.kind=y.kind→(¬x.kind=12→x.elems.length=y.elems.length)→x.names.length=y.names.length
noncomputable def Rl (l:List Md) (d:Nat):List Nat:=(List.range l.length).map (R l d)
end Go.Proofs.YtlniliigcnedmaaGreatDoor
namespace Go.Proofs.YtlniliigcnedmaaGreatDoor
open Go Ax
set_option maxRecDepth 100000
structure OkT (l:List Md):Prop where
 good:goodT l
 len:l.length≤512
 h64: ∀x∈l,x.elems.length≤64
 names:namesOk l
 acy:acyc l
theorem okT_of {l:List Md} (h:checkI l=0):OkT l:=by
 unfold checkI at h
 split at h
 ·omega
 ·rename_i h1
  split at h
  ·rename_i h2;exact absurd h h2
  ·rename_i h2
   have h2:firstI (l.map (oneI · l.length))=0:=by simpa using h2
   split at h
   ·omega
   ·split at h
    ·omega
    ·rename_i h4
     have hsh: ∀x∈l,shaped x:=fun x hx=>(shapeI_zero (oneI_zero (one_of h2 hx)).1).2.2.1
     refine ⟨goodT_of h2,by omega,fun x hx=>(shapeI_zero (oneI_zero (one_of h2 hx)).1).2.2.2,fun x hx y hy hk hl=>?_,acyc_of h4⟩
     have e1:=(hsh x hx).2.2.1
     have e2:=(hsh y hy).2.2.1
     unfold nNames at e1 e2
     rw[←hk] at e2
     by_cases h11:x.kind=11
     ·rw[if_pos h11] at e1 e2
      have:=hl (by omega)
      omega
     ·rw[if_neg h11] at e1 e2
      omega
noncomputable def rightI (l:List Md) (ms:List Int):Int:=if checkI l≠0 then checkI l else if ms.any (outB l.length) then 11 else 0
def atI (r:Nat→Nat) (zs:List Nat) (x:Nat):Int:=fidx (fun i=>(zs[i]?).any fun z=>r z==r x) 0 zs.length
end Go.Proofs.YtlniliigcnedmaaGreatDoor
namespace Go.Proofs.YtlniliigcnedmaaGreatDoor
open Go Ax
set_option maxRecDepth 100000
structure BasesOk (l:List Md) (x:Nat) (zs:List Nat):Prop where
 un:isU (mdAt l x)=true→ ∃O,(∀j,j∈O↔IsPart l x j)∧SortedBy (RR l) O zs
 el:isU (mdAt l x)=false→zs= [x]
theorem SortedBy.congr {r r':Nat→Nat} {ms zs:List Nat} {n:Nat} (hn: ∀x∈ms,x<n) (hr: ∀x,x<n→r x=r' x) (h:SortedBy r ms zs):SortedBy r' ms zs:=by
 have hz: ∀z∈zs,r z=r' z:=fun z hz=>hr z (hn z (h.sub z hz))
 refine ⟨?_,h.sub,fun y hy=>?_⟩
 ·exact List.Pairwise.imp_of_mem (fun {a b} ha hb hab=>by rw[←hz a ha,←hz b hb];exact hab) h.asc
 ·obtain ⟨z,h1,h2,h3⟩:=h.cov y hy
  exact ⟨z,h1,by rw[←hz z h1,h2,hr y (hn y hy)],h3⟩
theorem BasesOk.lt {l:List Md} (hg:goodT l) {x:Nat} (hx:x<l.length) {zs:List Nat} (h:BasesOk l x zs): ∀z∈zs,z<l.length:=by
 intro z hz
 cases hu:isU (mdAt l x)
 ·rw[h.el hu,List.mem_singleton] at hz;omega
 ·obtain ⟨O,h1,h2⟩:=h.un hu
  exact ((h1 z).1 (h2.sub z hz)).lt hg
theorem BasesOk.length {l:List Md} (hg:goodT l) {x:Nat} (hx:x<l.length) {zs:List Nat} (h:BasesOk l x zs):zs.length≤l.length:=by
 refine nodup_le _ _ ?_ (h.lt hg hx)
 cases hu:isU (mdAt l x)
 ·rw[h.el hu];simp
 ·obtain ⟨O,h1,h2⟩:=h.un hu
  exact h2.asc.imp fun hab=>by intro e;subst e;omega
end Go.Proofs.YtlniliigcnedmaaGreatDoor
namespace Go.Proofs.YtlniliigcnedmaaGreatDoor
open Go Ax
theorem SortedBy.mem {r:Nat→Nat} {ms zs:List Nat} (h:SortedBy r ms zs) (z:Nat):z∈zs↔z∈ms∧ ∀y∈ms,r y=r z→z≤y:=by
 have hinj: ∀a∈zs,∀b∈zs,r a=r b→a=b:=by
  intro a ha b hb hab
  obtain ⟨i,hi,rfl⟩:=List.mem_iff_getElem.1 ha
  obtain ⟨j,hj,rfl⟩:=List.mem_iff_getElem.1 hb
  have h0:=List.pairwise_iff_getElem.1 h.asc
  rcases Nat.lt_trichotomy i j with hij|hij|hij
  ·have:=h0 i j hi hj hij;omega
  ·subst hij;rfl
  ·have:=h0 j i hj hi hij;omega
 constructor
 ·intro hz
  refine ⟨h.sub z hz,fun y hy he=>?_⟩
  obtain ⟨w,h1,h2,h3⟩:=h.cov y hy
  rw[hinj z hz w h1 (by omega)]
  exact h3
 ·rintro ⟨hz,hm⟩
  obtain ⟨w,h1,h2,h3⟩:=h.cov z hz
  have:=hm w (h.sub w h1) h2
  rw[show z=w by omega]
  exact h1
theorem pwr_ext {r:Nat→Nat}: ∀{xs ys:List Nat},xs.Pairwise (fun a b=>r a<r b)→ys.Pairwise (fun a b=>r a<r b)→(∀v,v∈xs↔v∈ys)→xs=ys
 | [],[],_,_,_=>rfl
 | [],y::ys,_,_,h=>by have:=(h y).2 List.mem_cons_self;cases this
 |x::xs,[],_,_,h=>by have:=(h x).1 List.mem_cons_self;cases this
 |x::xs,y::ys,hx,hy,h=>by
  rw[List.pairwise_cons] at hx hy
  have hxy:x=y:=by
   have h1:=(h x).1 List.mem_cons_self
   have h2:=(h y).2 List.mem_cons_self
   rcases List.mem_cons.1 h1 with h1|h1
   ·exact h1
   ·rcases List.mem_cons.1 h2 with h2|h2
    ·exact h2.symm
    ·have:=hy.1 x h1
     have:=hx.1 y h2
     omega
  subst hxy
  rw[pwr_ext hx.2 hy.2 fun v=>?_]
  constructor
  ·intro hv
   rcases List.mem_cons.1 ((h v).1 (List.mem_cons_of_mem _ hv)) with rfl|h1
   ·have:=hx.1 v hv;omega
   ·exact h1
  ·intro hv
   rcases List.mem_cons.1 ((h v).2 (List.mem_cons_of_mem _ hv)) with rfl|h1
   ·have:=hy.1 v hv;omega
   ·exact h1
theorem SortedBy.unique {r:Nat→Nat} {ms ms' zs zs':List Nat} (h:SortedBy r ms zs) (h':SortedBy r ms' zs') (hm: ∀v,v∈ms↔v∈ms'):zs=zs':=by
 refine pwr_ext h.asc h'.asc fun v=>?_
 rw[h.mem,h'.mem,hm]
 constructor
 ·rintro ⟨h1,h2⟩;exact ⟨h1,fun y hy=>h2 y ((hm y).2 hy)⟩
 ·rintro ⟨h1,h2⟩;exact ⟨h1,fun y hy=>h2 y ((hm y).1 hy)⟩
theorem BasesOk.unique {l:List Md} {x:Nat} {zs zs':List Nat} (h:BasesOk l x zs) (h':BasesOk l x zs'):zs=zs':=by
 cases hu:isU (mdAt l x)
 ·rw[h.el hu,h'.el hu]
 ·obtain ⟨O,h1,h2⟩:=h.un hu
  obtain ⟨O',h3,h4⟩:=h'.un hu
  exact h2.unique h4 fun v=>by rw[h1,h3]
open Classical in
noncomputable def basesOf (l:List Md) (x:Nat):List Nat:=if h: ∃zs,BasesOk l x zs then h.choose else []
theorem BasesOk.eq {l:List Md} {x:Nat} {zs:List Nat} (h:BasesOk l x zs):zs=basesOf l x:=by
 unfold basesOf
 rw[dif_pos ⟨zs,h⟩]
 exact h.unique (Exists.choose_spec (⟨zs,h⟩: ∃zs,BasesOk l x zs))
theorem BasesOk.ok {l:List Md} {x:Nat} {zs:List Nat} (h:BasesOk l x zs):BasesOk l x (basesOf l x):=h.eq▸h
noncomputable def uniB (l:List Md) (a b:Nat):Bool:=isU (mdAt l b)&& !(RR l a==RR l b)&&(basesOf l a).all fun x=>decide (0≤atI (RR l) (basesOf l b) x)
theorem right2 {l:List Md} {u v:Int} (h:rightI l [u,v]=0):checkI l=0∧ ∃a b:Nat,u=a∧v=b∧a<l.length∧b<l.length:=by
 unfold rightI at h
 split at h
 ·omega
 ·rename_i h1
  split at h
  ·omega
  ·rename_i h2
   simp[outB] at h2
   exact ⟨by omega,u.toNat,v.toNat,by omega,by omega,by omega,by omega⟩
end Go.Proofs.YtlniliigcnedmaaGreatDoor
namespace Go.Proofs.YtlniliigcnedmaaGreatDoor
open Go Ax
set_option maxRecDepth 100000
theorem two_ints (m:AMem) (u v:Int):OwL (AVal.int .i64) m.length (m++ [.own [.int .i64 u,.int .i64 v] 3 none]) 3 (.slice m.length 0 2 2 none) [u,v]:=OwL.new (f:=AVal.int .i64) m 3 [u,v]
end Go.Proofs.YtlniliigcnedmaaGreatDoor
namespace Go.Proofs.YtlniliigcnedmaaGreatDoor
open Go Ax
set_option maxRecDepth 100000
theorem ranksAt {m:AMem} {ro:AVal} {rk:List Nat} (h:RInts m ro (rk.map fun z:Nat=>(z:Int))) {x:Nat} (hx:x<rk.length): ∃b o,(∀k,iaddrE 1 ro (.int k (x:Nat))=some (.ptr b o))∧ ∀m',m<+:m'→loadE m' 1 false (.ptr b o)=some (.int .i64 (rk.getD x 0:Nat)):=by
 obtain ⟨b,o,h1,h2⟩:=h.at (i:=x) (by simpa using hx)
 exact ⟨b,o,h1,fun m' hm'=>by rw[loadE_mono hm' h2];simp[List.getD,hx]⟩
theorem k106 (ro:AVal) (rk:List Nat) (x z b1:Nat) (m:AMem) (hro:RInts m ro (rk.map fun z:Nat=>(z:Int))) (hx:x<rk.length) (hz:z<rk.length) (h1:readB m b1=some [ro]):
  ACalls Tryz.prog 106 [.int .i64 z,.int .i64 x,.ptr b1 0] m fun v m'=>v= .bool (rk.getD z 0==rk.getD x 0)∧m<+:m':=by
 refine w106 ?_
 obtain ⟨bx',ox,hpx,hlx⟩:=ranksAt hro hx
 obtain ⟨bz,oz,hpz,hlz⟩:=ranksAt hro hz
 have hlx:=hlx m (List.prefix_refl _)
 have hlz:=hlz m (List.prefix_refl _)
 generalize rk.getD x 0=rx at*
 generalize rk.getD z 0=rz at*
 simp
 refine W_drawPR (by simp[maxDst]) rfl rfl ?_
 simp[bx h1,hpx,hlx,hpz,hlz]
 intro m2 hm2
 simp[hm2,Bool.beq_eq_decide_eq]
 omega
def cmpRI (rk:List Nat) (a b:Int):Int:=firstNZ [cmpI (rk.getD a.toNat 0) (rk.getD b.toNat 0),cmpI a b]
set_option maxHeartbeats 2000000 in
theorem k104 (ro:AVal) (rk:List Nat) (a b b1:Nat) (m:AMem) (hro:RInts m ro (rk.map fun z:Nat=>(z:Int))) (ha:a<rk.length) (hb:b<rk.length) (h1:readB m b1=some [ro]):
  ACalls Tryz.prog 104 [.int .i64 a,.int .i64 b,.ptr b1 0] m fun v m'=>v= .int .i64 (cmpRI rk a b)∧m<+:m':=by
 refine w104 ?_
 obtain ⟨ba,oa,hpa,hla⟩:=ranksAt hro ha
 obtain ⟨bb,ob,hpb,hlb⟩:=ranksAt hro hb
 have hla:=hla m (List.prefix_refl _)
 have hlb:=hlb m (List.prefix_refl _)
 unfold cmpRI
 simp only[Int.toNat_natCast]
 generalize rk.getD a 0=x at*
 generalize rk.getD b 0=y at*
 simp
 refine W_draw (fun _ _ _=>True) (by simp[maxDst]) ?_
 have: ∀(j:Nat) (m':AMem),noFacts j m':=fun _ _=>trivial
 refine D_pre 0 8 [9,10,8,11,12,13,14] (by simp only[List.drop_zero,List.drop_succ_cons,List.take_succ_cons,List.take_zero];rfl) rfl rfl ‹_› ?_
 simp[bx h1,hpa,hla,hpb,hlb]
 intro _ _
 refine D_pre 9 2 [8,11,12,13,14] (by simp only[List.drop_zero,List.drop_succ_cons,List.take_succ_cons,List.take_zero];rfl) rfl rfl ‹_› ?_
 simp
 intro _ _
 refine D_X rfl rfl fun m5 hm5 _=>?_
 simp
 refine C_of (k86 _ _ m5) ?_
 rintro _ _ ⟨rfl,rfl⟩
 refine ⟨by simp[lateOf],?_⟩
 refine D_X rfl rfl fun m6 hm6 _=>?_
 simp
 refine C_of (k86 _ _ m6) ?_
 rintro _ _ ⟨rfl,rfl⟩
 refine ⟨by simp[lateOf],?_⟩
 refine D_A rfl trivial ?_
 simp[fillA,setN]
 intro b'
 refine D_X rfl rfl fun m7 hm7 hp=>?_
 have h18:=hp 12
 simp[upd] at h18
 simp
 refine C_of (k85 (.slice b' 0 2 2 none) [cmpI x y,cmpI a b] m7 ?_ (by simp)) ?_
 ·refine .inr ⟨b',0,2,none,rfl,⟨by simp,.inl rfl⟩,.inr ⟨by simp,_,by simp[readB,h18,ABlk.cells];rfl,by simp[readN]⟩⟩
 rintro _ _ ⟨rfl,rfl⟩
 refine ⟨by simp[lateOf],?_⟩
 refine D_P rfl trivial ?_
 simp
 refine D_end fun m2 hm2 _=>?_
 simp
 exact ((hm5.trans hm6).trans hm7).trans hm2
end Go.Proofs.YtlniliigcnedmaaGreatDoor
namespace Go.Proofs.YtlniliigcnedmaaGreatDoor
open Go Ax
open Relation
set_option maxRecDepth 100000
theorem Ax.Ch.andThen {S T:Nat→Prop} {m m1 m2:AMem} (h:Ch S m m1) (h':Ch T m1 m2) (hT: ∀b,b<m.length→T b→S b):Ch S m m2:=
 ⟨Nat.le_trans h.len h'.len,fun b blk k1 k2=>h'.keep b blk (h.keep b blk k1 k2) fun k=>k2 (hT b (List.getElem?_eq_some_iff.1 k1).1 k)⟩
def IsBase (l:List Md) (x j:Nat):Prop:=if isU (mdAt l x)=true then IsPart l x j else j=x
end Go.Proofs.YtlniliigcnedmaaGreatDoor
namespace Go.Proofs.YtlniliigcnedmaaGreatDoor
open Go Ax
open Relation
set_option maxRecDepth 100000
theorem IsBase.lt {l:List Md} (hg:goodT l) {x j:Nat} (hx:x<l.length) (h:IsBase l x j):j<l.length:=by
 unfold IsBase at h
 split at h
 ·exact h.lt hg
 ·omega
open Classical in
theorem basesSome (l:List Md) (hg:goodT l) (x:Nat) (hx:x<l.length): ∃O:List Nat,O.Nodup∧ ∀j,j∈O↔IsBase l x j:=by
 refine ⟨(List.range l.length).filter fun j=>decide (IsBase l x j),List.Pairwise.filter _ List.nodup_range,fun j=>?_⟩
 simp only[List.mem_filter,List.mem_range,decide_eq_true_eq]
 exact ⟨fun h=>h.2,fun h=>⟨h.lt hg hx,h⟩⟩
def IsBases (l:List Md) (x:Nat) (O:List Nat):Prop:=O.Nodup∧ ∀j,j∈O↔IsBase l x j
theorem IsBases.lt {l:List Md} (hg:goodT l) {x:Nat} (hx:x<l.length) {O:List Nat} (h:IsBases l x O): ∀z∈O,z<l.length:=fun z hz=>((h.2 z).1 hz).lt hg hx
theorem IsBases.length {l:List Md} (hg:goodT l) {x:Nat} (hx:x<l.length) {O:List Nat} (h:IsBases l x O):O.length≤l.length:=nodup_le _ _ h.1 (h.lt hg hx)
end Go.Proofs.YtlniliigcnedmaaGreatDoor
namespace Go.Proofs.YtlniliigcnedmaaGreatDoor
open Go Ax
set_option maxRecDepth 100000
def cpF (E:Int→Int→Bool) (ys:List Int):Nat→List Int
 |0=> []
 |j+1=>if j≠0∧E (ys.getD j 0) (ys.getD (j-1) 0)=true then cpF E ys j else cpF E ys j++ [ys.getD j 0]
set_option maxHeartbeats 4000000 in
theorem k105 (t:AVal) (ty:TypeId) (lo:Nat) (m0:AMem) (hlo:m0.length≤lo) (g:FuncId) (fs cs:List AVal) (E:Int→Int→Bool) (ys:List Int) (hE: ∀a∈ys,∀b∈ys,∀m',m0<+:m'→ACalls Tryz.prog g (fs++ [.int .i64 a,.int .i64 b]++cs) m' fun v m''=>v= .bool (E a b)∧m'<+:m'') (hn:ys.length<2^62) (m:AMem) (hm:m0<+:m) (hX:OwL (AVal.int .i64) lo m ty t ys):
  ACalls Tryz.prog 105 [t,.func (.func g) fs cs] m fun v m'=>m0<+:m'∧Ch (fun b=>t.blk=some b) m m'∧OwL (AVal.int .i64) lo m' ty v (cpF E ys ys.length)∧v.blk=t.blk:=by
 refine w105 ?_
 simp[hX.len]
 refine bbind_dec (fun h2=>?_) fun h2=>?_
 ·have hcp:cpF E ys ys.length=ys:=by
   match ys,h2 with
   | [],_=>rfl
   | [a],_=>simp[cpF]
   |a::b::r,h2=>simp at h2;omega
  simp[hm,hcp,hX]
  exact .refl _ _
 simp
 obtain ⟨I,hI⟩: ∃I:Nat→AFrame→AMem→Prop,∀q a m',I q a m'↔(∃(k:Nat),k+q=ys.length∧1≤k∧a=h105_0 t (.func (.func g) fs cs) (.int .i64 k)∧m<+:m'∧cpF E ys k=ys.take k):=⟨_,fun _ _ _=>Iff.rfl⟩
 have h1:cpF E ys 1=ys.take 1:=by
  match ys,h2 with
  | [],h2=>simp at h2
  |a::r,_=>simp[cpF]
 refine W_loop I (ys.length-1) ((hI _ _ _).2 ⟨1,by omega,by omega,rfl,List.prefix_refl _,h1⟩) ?_
 rintro q a m1 hIn
 obtain ⟨k,hk,hk1,rfl,hm1,hcp⟩:=(hI _ _ _).1 hIn
 clear hIn
 replace hX:=hX.mono hm1
 have hch:Ch (fun b=>t.blk=some b) m m1:= .of_prefix hm1
 replace hm:=hm.trans hm1
 simp[hX.len]
 refine bbind_dec (fun hkl=>?_) fun hkl=>?_
 ·have hw:=step64 hkl hn
  obtain ⟨q,rfl⟩: ∃q',q=q'+1:=⟨q-1,by omega⟩
  have hp:=pred64 (n:=k) (by omega) (by omega)
  obtain ⟨b1,o1,_,hp1,hl1,_⟩:=hX.at hkl
  obtain ⟨b0,o0,_,hp0,hl0,_⟩:=hX.at (i:=k-1) (by omega)
  simp
  refine W_draw (fun _ _ _=>True) (by simp[maxDst]) ?_
  refine D_pc 0 10 [10] ?_
  simp[hp1,hl1,hp,hp0,hl0]
  intro _ _
  refine D_X rfl rfl fun m5 hm5 _=>?_
  simp
  have hcall:=hE _ (List.getElem_mem hkl) _ (List.getElem_mem (show k-1<ys.length by omega)) m5 (hm.trans hm5)
  simp at hcall
  refine C_of hcall ?_
  rintro _ m6 ⟨rfl,hm6⟩
  refine ⟨by simp[lateOf],?_⟩
  refine D_end fun m2 hm2 _=>?_
  replace hm2:=(hm5.trans hm6).trans hm2
  clear hcall hm5 hm6
  replace hX:=hX.mono hm2
  have hch2:=hch.trans (.of_prefix hm2)
  replace hm:=hm.trans hm2
  have gk:ys.getD k 0=ys[k]:=by simp[List.getD,hkl]
  have gk1:ys.getD (k-1) 0=ys[k-1]:=by simp[List.getD,show k-1<ys.length by omega]
  by_cases heq:E ys[k] ys[k-1]=true
  rotate_left
  ·have hcp':cpF E ys (k+1)=ys.take (k+1):=by
    rw[cpF,if_neg,hcp]
    ·rw[List.take_add_one,List.getElem?_eq_getElem hkl];simp[List.getD,hkl]
    ·rintro ⟨_,h⟩
     rw[gk,gk1] at h
     exact heq h
   have heqf:E ys[k] ys[k-1]=false:=by simpa using heq
   simp[heqf,hw]
   exact ⟨q,by omega,(hI _ _ _).2 ⟨k+1,by omega,by omega,by simp,hm1.trans hm2,hcp'⟩⟩
  simp[heq]
  clear hp1 hl1 hp0 hl0
  obtain ⟨s2,hs2,_,_⟩:=hX.drop (i:=k) (by omega)
  have hs2': ∀(j:Nat),j<ys.length-k→ ∀kd,iaddrE 1 s2 (.int kd j)=iaddrE 1 t (.int kd (k+j:Nat)):=by
   intro j hj kd
   rcases hX with ⟨_,h1,_⟩|⟨b,o,cap,gr,bl,gr',rfl,_⟩
   ·omega
   ·have:=hs2 .i64
    simp only[sliceE,bdE,evSlice] at this
    simp at this
    obtain ⟨_,rfl⟩:=this
    have h3:((j:Int)<((ys.length-k:Nat):Int)):=by omega
    have h4:(((k+j:Nat):Int)<(ys.length:Int)):=by omega
    simp only[iaddrE]
    rw[if_pos ⟨by omega,by exact_mod_cast h3⟩,if_pos ⟨by omega,by exact_mod_cast h4⟩]
    simp
    omega
  have hs2l:lenE s2=some (.int .i64 (ys.length-k:Nat)):=by
   rcases hX with ⟨_,h1,_⟩|⟨b,o,cap,gr,bl,gr',rfl,_⟩
   ·omega
   ·have:=hs2 .i64
    simp only[sliceE,bdE,evSlice] at this
    simp at this
    obtain ⟨_,rfl⟩:=this
    rfl
  simp[hs2]
  obtain ⟨J,hJ⟩: ∃I:Nat→AFrame→AMem→Prop,∀q a m',I q a m'↔(∃(z p:Nat) (zs:List Int),1≤p∧p+q=ys.length-k∧a=h105_1 t (.func (.func g) fs cs) (.int .i64 z) s2 (.int .i64 p)∧m0<+:m'∧Ch (fun b=>t.blk=some b) m m'∧OwL (AVal.int .i64) lo m' ty t zs∧zs.length=ys.length∧z+1≤k+p∧(∀j,z≤j→zs[j]? =ys[j]?)∧zs.take z=cpF E ys (k+p)):=⟨_,fun _ _ _=>Iff.rfl⟩
  have hcp1:ys.take k=cpF E ys (k+1):=by
   rw[cpF,if_pos,hcp]
   refine ⟨by omega,?_⟩
   rw[gk,gk1,heq]
  refine W_loop J (ys.length-k-1) ((hJ _ _ _).2 ⟨k,1,ys,by omega,by omega,rfl,hm,hch2,hX,rfl,by omega,fun _ _=>rfl,hcp1⟩) ?_
  clear hX hm hch hch2 hm2
  rintro q2 a m3 hIn
  obtain ⟨z,p,zs,hp1,hpq,rfl,hm,hch,hZ,hzl,hzk,hze,hzt⟩:=(hJ _ _ _).1 hIn
  clear hIn
  simp[hs2l]
  refine bbind_dec (fun hpl=>?_) fun hpl=>?_
  ·have hpl:p<ys.length-k:=by omega
   have hwp:=step64 hpl (by omega)
   obtain ⟨q2,rfl⟩: ∃q',q2=q'+1:=⟨q2-1,by omega⟩
   have hpp:=pred64 (n:=p) (by omega) (by omega)
   obtain ⟨b1,o1,_,hp1',hl1,_⟩:=hZ.at (i:=k+p) (by omega)
   obtain ⟨b0,o0,_,hp0,hl0,_⟩:=hZ.at (i:=k+p-1) (by omega)
   have e1:=hs2' p hpl .i64
   have e0:=hs2' (p-1) (by omega) .i64
   rw[hp1' .i64] at e1
   rw[show k+(p-1)=k+p-1 by omega,hp0 .i64] at e0
   have v1:zs[k+p]'(by omega)=ys[k+p]'(by omega):=by
    have:=hze (k+p) (by omega)
    rw[List.getElem?_eq_getElem (by omega),List.getElem?_eq_getElem (by omega)] at this
    simpa using this
   have v0:zs[k+p-1]'(by omega)=ys[k+p-1]'(by omega):=by
    have:=hze (k+p-1) (by omega)
    rw[List.getElem?_eq_getElem (by omega),List.getElem?_eq_getElem (by omega)] at this
    simpa using this
   rw[v1] at hl1
   rw[v0] at hl0
   simp
   refine W_draw (fun _ _ _=>True) (by simp[maxDst]) ?_
   refine D_pc 0 10 [10,11] ?_
   simp[e1,hl1,hpp,e0,hl0]
   intro _ _
   refine D_X rfl rfl fun m5 hm5 _=>?_
   simp
   have hcall:=hE _ (List.getElem_mem (show k+p<ys.length by omega)) _ (List.getElem_mem (show k+p-1<ys.length by omega)) m5 (hm.trans hm5)
   simp at hcall
   refine C_of hcall ?_
   rintro _ m6 ⟨rfl,hm6⟩
   refine ⟨by simp[lateOf],?_⟩
   refine D_P rfl trivial ?_
   simp
   refine D_end fun m4 hm4 _=>?_
   replace hm4:=(hm5.trans hm6).trans hm4
   clear hcall hm5 hm6
   have hZ4:=hZ.mono hm4
   have gk:ys.getD (k+p) 0=ys[k+p]'(by omega):=by simp[List.getD,show k+p<ys.length by omega]
   have gk1:ys.getD (k+p-1) 0=ys[k+p-1]'(by omega):=by simp[List.getD,show k+p-1<ys.length by omega]
   by_cases hne:E (ys[k+p]'(by omega)) (ys[k+p-1]'(by omega))=true
   ·have hcp':cpF E ys (k+p+1)=cpF E ys (k+p):=by
     rw[cpF,if_pos]
     refine ⟨by omega,?_⟩
     rw[gk,gk1,hne]
    simp[hne,hwp]
    exact ⟨q2,by omega,(hJ _ _ _).2 ⟨z,p+1,zs,by omega,by omega,by simp,hm.trans hm4,hch.trans (.of_prefix hm4),hZ4,hzl,by omega,hze,by rw[hzt,←hcp'];rfl⟩⟩
   ·have hcp':cpF E ys (k+p+1)=cpF E ys (k+p)++ [ys[k+p]'(by omega)]:=by
     rw[cpF,if_neg]
     ·simp[List.getD,show k+p<ys.length by omega]
     ·rintro ⟨_,h⟩
      rw[gk,gk1] at h
      exact hne h
    have hwz:=step64 (k:=z) (n:=ys.length) (by omega) hn
    obtain ⟨bz,oz,hbz,hpz,_,hstz⟩:=hZ4.at (i:=z) (by omega)
    obtain ⟨m5,hst,hch5,hZ5⟩:=hstz (ys[k+p]'(by omega))
    have hnef:E (ys[k+p]'(by omega)) (ys[k+p-1]'(by omega))=false:=by simpa using hne
    simp[hnef,e1,loadE_mono hm4 hl1,hpz,hst,hwz,hwp]
    refine ⟨q2,by omega,(hJ _ _ _).2 ⟨z+1,p+1,zs.set z (ys[k+p]'(by omega)),by omega,by omega,by simp,hch5.pre (hm.trans hm4) fun b hb=>?_,(hch.trans (.of_prefix hm4)).trans (hch5.weaken fun b _ hb=>by rw[hb];exact hbz),hZ5,by simpa using hzl,by omega,fun j hj=>?_,?_⟩⟩
    ·have:=(hZ4.blk_lo hbz).1;omega
    ·rw[List.getElem?_set_ne (by omega)];exact hze j (by omega)
    ·rw[show k+(p+1)=k+p+1 by omega,hcp',←hzt,List.take_add_one,List.getElem?_set_self (by omega)]
     simp[List.take_set]
     exact List.set_eq_of_length_le (by simp;omega)
  ·have hpe:k+p=ys.length:=by omega
   obtain ⟨s3,m4,hs3,hcl,hch4,hZ4⟩:=hZ.clear (i:=z) (by omega) 0
   obtain ⟨s4,hs4,hZ5,hbl⟩:=hZ4.take (i:=z) (by simp;omega)
   simp[hs3,hcl,hs4]
   rw[List.take_append_of_le_length (by simp;omega),List.take_take,Nat.min_self,hzt,hpe] at hZ5
   exact ⟨hch4.pre hm fun b hb hbb=>by have:=(hZ.blk_lo hbb).1;omega,hch.trans hch4,hZ5,hbl⟩
 ·have hkl:k=ys.length:=by omega
  subst hkl
  rw[List.take_length] at hcp
  simp[hm,hcp,hX]
  exact hch
end Go.Proofs.YtlniliigcnedmaaGreatDoor
namespace Go.Proofs.YtlniliigcnedmaaGreatDoor
open Go Ax
set_option maxRecDepth 100000
theorem cmpRI_ordG (rk:List Nat) (D:Int→Prop):Ord (cmpRI rk) D:=by
 have h1:OrdG (fun a b:Int=>cmpI (rk.getD a.toNat 0) (rk.getD b.toNat 0)) (fun _=>True):=cmpI_ordG.pull (fun a:Int=>(rk.getD a.toNat 0:Int)) fun _ _=>trivial
 have h2:=h1.then cmpI_ordG
 have e: ∀a b,cmpRI rk a b=thenC (fun a b:Int=>cmpI (rk.getD a.toNat 0) (rk.getD b.toNat 0)) cmpI a b:=fun a b=>by
  unfold cmpRI thenC
  rw[firstNZ_cons,firstNZ_cons]
  simp only[]
  generalize cmpI (rk.getD a.toNat 0) (rk.getD b.toNat 0)=x
  have h0:firstNZ []=0:=rfl
  by_cases h:x=0
  ·simp[h,h0]
   intro h;exact h.symm
  ·simp[h]
 exact ⟨fun a b _ _=>by rw[e,e];exact h2.anti a b trivial trivial,fun a b d _ _ _=>by rw[e,e,e];exact h2.trans a b d trivial trivial trivial⟩
theorem cmpRI_le {rk:List Nat} {a b:Nat} (h:cmpRI rk a b≤0):rk.getD a 0<rk.getD b 0∨(rk.getD a 0=rk.getD b 0∧a≤b):=by
 unfold cmpRI at h
 rw[firstNZ_cons,firstNZ_cons] at h
 simp only[Int.toNat_natCast] at h
 split at h
 ·have:=cmpI_le.1 h
  rename_i hne
  have: ¬((rk.getD a 0:Int)=rk.getD b 0):=fun e=>hne (cmpI_zero.2 e)
  omega
 ·rename_i he
  have he:cmpI (rk.getD a 0) (rk.getD b 0)=0:=by simpa using he
  have:=cmpI_zero.1 he
  split at h
  ·have:=cmpI_le.1 h;omega
  ·rename_i he2
   have he2:cmpI (a:Int) b=0:=by simpa using he2
   have:=cmpI_zero.1 he2;omega
theorem cpF_sorted {rk ws O:List Nat} (hp:ws.Perm O) (hs:SortedTo (cmpRI rk) (ws.map fun z:Nat=>(z:Int)) ws.length):
  ∀j,j≤ws.length→ ∃zs,cpF (fun a b=>rk.getD a.toNat 0==rk.getD b.toNat 0) (ws.map fun z:Nat=>(z:Int)) j=zs.map (fun z:Nat=>(z:Int))∧SortedBy (fun a=>rk.getD a 0) (ws.take j) zs∧(j≠0→ ∃w,zs.getLast? =some w∧ ∀y,ws[j-1]? =some y→rk.getD w 0=rk.getD y 0)
 |0,_=>⟨[],rfl,by simpa using SortedBy.nil,fun h=>absurd rfl h⟩
 |j+1,hj=>by
  obtain ⟨zs,h1,h2,h3⟩:=cpF_sorted hp hs j (by omega)
  have hjl:j<ws.length:=by omega
  have hws:ws[j]? =some ws[j]:=List.getElem?_eq_getElem hjl
  have hgd:(ws.map fun z:Nat=>(z:Int)).getD j 0=(ws[j]:Nat):=by simp[List.getD,hjl]
  have htk:ws.take (j+1)=ws.take j++ [ws[j]]:=by rw[List.take_add_one,hws];rfl
  have hlt: ∀i,(hi:i<j)→rk.getD ws[i] 0<rk.getD ws[j] 0∨(rk.getD ws[i] 0=rk.getD ws[j] 0∧ws[i]≤ws[j]):=fun i hi=>by
   have hil:i<ws.length:=by omega
   have:=cmpRI_le (hs i j (ws[i]:Nat) (ws[j]:Nat) hi hjl (by simp[hil]) (by simp[hjl]))
   omega
  rw[cpF,hgd,htk]
  split
  ·rename_i hc
   obtain ⟨hj0,hE⟩:=hc
   obtain ⟨w,h4,h5⟩:=h3 hj0
   have hj1:j-1<ws.length:=by omega
   have hgd1:(ws.map fun z:Nat=>(z:Int)).getD (j-1) 0=(ws[j-1]:Nat):=by simp[List.getD,hj1]
   rw[hgd1] at hE
   simp only[Int.toNat_natCast,beq_iff_eq] at hE
   have h6:=h5 _ (List.getElem?_eq_getElem hj1)
   have hwz:w∈zs:=List.mem_of_getLast? h4
   refine ⟨zs,h1,⟨h2.asc,fun z hz=>List.mem_append_left _ (h2.sub z hz),fun y hy=>?_⟩,fun _=>⟨w,h4,fun y hy=>?_⟩⟩
   ·rcases List.mem_append.1 hy with hy|hy
    ·exact h2.cov y hy
    ·rw[List.mem_singleton] at hy
     subst hy
     refine ⟨w,hwz,by omega,?_⟩
     obtain ⟨i,hi,hiw⟩:=List.mem_iff_getElem.1 (h2.sub w hwz)
     rw[List.length_take] at hi
     rw[List.getElem_take] at hiw
     have:=hlt i (by omega)
     rw[hiw] at this
     omega
   ·rw[Nat.add_sub_cancel,hws] at hy
    cases hy
    omega
  ·rename_i hc
   refine ⟨zs++ [ws[j]],by rw[h1];simp,⟨?_,fun z hz=>?_,fun y hy=>?_⟩,fun _=>⟨ws[j],by simp,fun y hy=>by rw[Nat.add_sub_cancel,hws] at hy;cases hy;rfl⟩⟩
   ·rw[List.pairwise_append]
    refine ⟨h2.asc,by simp,fun z hz y hy=>?_⟩
    rw[List.mem_singleton] at hy
    subst hy
    obtain ⟨i,hi,hiz⟩:=List.mem_iff_getElem.1 (h2.sub z hz)
    rw[List.length_take] at hi
    rw[List.getElem_take] at hiz
    have hj0:j≠0:=by omega
    have hj1:j-1<ws.length:=by omega
    have hgd1:(ws.map fun z:Nat=>(z:Int)).getD (j-1) 0=(ws[j-1]:Nat):=by simp[List.getD,hj1]
    have hne: ¬rk.getD ws[j] 0=rk.getD ws[j-1] 0:=fun e=>hc ⟨hj0,by rw[hgd1];simpa using e⟩
    have hl1:=hlt (j-1) (by omega)
    have hl2:=hlt i (by omega)
    rw[hiz] at hl2
    rcases hl2 with hl2|⟨hl2,_⟩
    ·exact hl2
    ·exfalso
     have h7:rk.getD z 0≤rk.getD ws[j-1] 0:=by
      by_cases hij:i=j-1
      ·subst hij;rw[hiz];exact Nat.le_refl _
      ·have:=cmpRI_le (hs i (j-1) (ws[i]:Nat) (ws[j-1]:Nat) (by omega) hj1 (by simp[show i<ws.length by omega]) (by simp[hj1]))
       rw[hiz] at this
       omega
     omega
   ·rcases List.mem_append.1 hz with hz|hz
    ·exact List.mem_append_left _ (h2.sub z hz)
    ·exact List.mem_append_right _ hz
   ·rcases List.mem_append.1 hy with hy|hy
    ·obtain ⟨z,hz,h4⟩:=h2.cov y hy
     exact ⟨z,List.mem_append_left _ hz,h4⟩
    ·rw[List.mem_singleton] at hy
     subst hy
     exact ⟨_,List.mem_append_right _ (List.mem_singleton.2 rfl),rfl,Nat.le_refl _⟩
theorem SortedBy.perm {r:Nat→Nat} {ms ms' zs:List Nat} (hp:ms.Perm ms') (h:SortedBy r ms zs):SortedBy r ms' zs:=
 ⟨h.asc,fun z hz=>hp.mem_iff.1 (h.sub z hz),fun y hy=>h.cov y (hp.mem_iff.2 hy)⟩
end Go.Proofs.YtlniliigcnedmaaGreatDoor
namespace Go.Proofs.YtlniliigcnedmaaGreatDoor
open Go Ax
set_option maxRecDepth 100000
theorem perm_nat {ys:List Int} {O:List Nat} (h:ys.Perm (O.map fun z:Nat=>(z:Int))): ∃ws:List Nat,ys=ws.map (fun z:Nat=>(z:Int))∧ws.Perm O:=by
 refine ⟨ys.map Int.toNat,?_,?_⟩
 ·rw[List.map_map]
  have: ∀y∈ys,((fun z:Nat=>(z:Int))∘Int.toNat) y=id y:=fun y hy=>by
   obtain ⟨z,_,rfl⟩:=List.mem_map.1 (h.mem_iff.1 hy)
   rfl
  rw[List.map_congr_left this,List.map_id]
 ·have:=h.map Int.toNat
  rw[List.map_map] at this
  have e:(Int.toNat∘fun z:Nat=>(z:Int))=id:=rfl
  rw[e,List.map_id] at this
  exact this
theorem natsI {m:AMem} {lo:Nat} {ty:TypeId} {t:AVal} {O:List Nat}:OwL (AVal.int .i64) lo m ty t (O.map fun z:Nat=>(z:Int))↔OwL natI lo m ty t O:=by
 unfold OwL
 rw[List.length_map,List.map_map]
 exact Iff.rfl
theorem sorted_of {rk O:List Nat} {ys:List Int} (hp:ys.Perm (O.map fun z:Nat=>(z:Int))) (hs:SortedTo (cmpRI rk) ys ys.length):
  ∃zs:List Nat,cpF (fun a b=>rk.getD a.toNat 0==rk.getD b.toNat 0) ys ys.length=zs.map (fun z:Nat=>(z:Int))∧SortedBy (fun a=>rk.getD a 0) O zs:=by
 obtain ⟨ws,rfl,hw⟩:=perm_nat hp
 rw[List.length_map] at hs ⊢
 obtain ⟨zs,h1,h2,_⟩:=cpF_sorted hw hs ws.length (Nat.le_refl _)
 rw[List.take_length] at h2
 exact ⟨zs,h1,h2.perm hw⟩
theorem k54 (s ro:AVal) (l:List Md) (rk:List Nat) (x:Nat) (hx:x<l.length) (hu:isU l[x]=true) (m:AMem) (hs:RTab m s l) (hro:RInts m ro (rk.map fun z:Nat=>(z:Int))) (hrl:rk.length=l.length) (hg:goodT l) (hn:T13 l) (hsz: ∀x∈l,smallN x):
  ACalls Tryz.prog 54 [s,.int .i64 x,ro] m fun v m'=>m<+:m'∧ ∃O zs,(O.Nodup∧ ∀j,j∈O↔IsPart l x j)∧OwL natI m.length m' 3 v zs∧SortedBy (fun a=>rk.getD a 0) O zs:=by
 refine w54 ?_
 have h60:=hn.len
 obtain ⟨hr1,hr2⟩:=Sl.self hro
 simp[hr1,hr2]
 have hb0:=readB_new m [ro] 36 none
 have hm1:m<+:m++ [.own [ro] 36 none]:=List.prefix_append _ _
 have hl1:(m++ [ABlk.own [ro] 36 none]).length=m.length+1:=by simp
 generalize m++ [.own [ro] 36 none]=m1 at*
 generalize hbb:m.length=b1 at*
 refine C_of (k78 s l x hx hu m1 (hs.mono hm1) hg (by omega) hsz) ?_
 rintro v2 m2 ⟨hm2,O,hX,hO,hOm⟩
 simp
 have hOn:O.length≤l.length:=nodup_le _ _ hO fun z h=>IsPart.lt hg ((hOm z).1 h)
 have hE: ∀z,z∈(O.map fun z:Nat=>(z:Int))→ ∃a:Nat,z=a∧a<rk.length:=fun z h=>by
  obtain ⟨a,ha,rfl⟩:=List.mem_map.1 h
  exact ⟨a,rfl,by rw[hrl];exact IsPart.lt hg ((hOm a).1 ha)⟩
 refine C_of (k103 v2 3 m1.length m1 (Nat.le_refl _) 104 [] [.ptr b1 0] (cmpRI rk) (fun z=> ∃a:Nat,z=a∧a<rk.length) (cmpRI_ordG rk _) ?_ _ hE (by simp;omega) m2 hm2 (natsI.2 hX)) ?_
 ·rintro _ _ ⟨a,rfl,ha⟩ ⟨b,rfl,hb⟩ m' hm'
  exact k104 ro rk a b b1 m' (hro.mono (hm1.trans hm')) ha hb (readB_mono hm' hb0)
 rintro v3 m3 ⟨hm3,_,ys,hY,hperm,hsort⟩
 simp
 refine C_of (k105 v2 3 m1.length m1 (Nat.le_refl _) 106 [] [.ptr b1 0] (fun a b=>rk.getD a.toNat 0==rk.getD b.toNat 0) ys ?_ (by rw[hperm.length_eq];simp;omega) m3 hm3 hY) ?_
 ·intro a ha b hb m' hm'
  obtain ⟨a,rfl,ha'⟩:=hE a (hperm.mem_iff.1 ha)
  obtain ⟨b,rfl,hb'⟩:=hE b (hperm.mem_iff.1 hb)
  exact k106 ro rk b a b1 m' (hro.mono (hm1.trans hm')) hb' ha' (readB_mono hm' hb0)
 rintro v4 m4 ⟨hm4,_,hZ,_⟩
 simp
 obtain ⟨zs,h1,h2⟩:=sorted_of hperm hsort
 rw[h1] at hZ
 exact ⟨hm1.trans hm4,O,⟨hO,hOm⟩,zs,(natsI.1 hZ).lo' (by omega),h2⟩
end Go.Proofs.YtlniliigcnedmaaGreatDoor
namespace Go.Proofs.YtlniliigcnedmaaGreatDoor
open Go Ax
set_option maxRecDepth 100000
theorem k58 (t:AVal) (xs:List ByteArray) (m:AMem) (ht:RStrs m t xs) (hn:xs.length<2^40):
  ACalls Tryz.prog 58 [t] m fun v m'=>m<+:m'∧OwL AVal.str m.length m' 9 v xs∧v.one=true∧v.cells= [v]:=by
 refine w58 ?_
 rcases ht with ⟨rfl,hx⟩|⟨b,o,cap,gr,rfl,h1,h2⟩
 ·have hx:xs= []:=by simpa using hx
  subst hx
  simp
  exact OwL.nil
 ·simp
  have hN:=OwL.new (f:=AVal.str) m 9 []
  have hm1:m<+:m++ [.own ([].map AVal.str) 9 none]:=List.prefix_append _ _
  have hA:RStrs m (.slice b o xs.length cap gr) xs:= .inr ⟨b,o,cap,gr,rfl,h1,h2⟩
  have hsc:=Sl.cells (RStrs.mono hA hm1)
  simp[fillA] at hN hsc ⊢
  replace hm1:m<+:m++ [.own [] 9 none]:=hm1
  generalize m++ [.own [] 9 none]=m1 at*
  obtain ⟨t',m2,happ,hch,hO,hbl⟩:=hN.append (by have:=hm1.length_le;omega) (by_:=16) (by decide) xs (by simp;omega)
  simp[hsc,happ]
  have hO':OwL AVal.str m.length m2 9 t' xs:=by simpa using hO
  exact ⟨hch.pre hm1 fun b hb h=>(by simp[AVal.blk] at h;omega),hO',(Ow.sl hO').self⟩
theorem fidx_spec {p:Nat→Bool}: ∀(n i:Nat),0≤fidx p i n→ ∃j,i≤j∧j<i+n∧fidx p i n=(j:Int)∧p j=true
 |0,i,h=>by simp[fidx] at h
 |n+1,i,h=>by
  rw[fidx] at h ⊢
  split
  ·rename_i hp;exact ⟨i,Nat.le_refl _,by omega,rfl,hp⟩
  ·rename_i hp
   rw[if_neg hp] at h
   obtain ⟨j,h1,h2,h3,h4⟩:=fidx_spec n (i+1) h
   exact ⟨j,by omega,by omega,h3,h4⟩
end Go.Proofs.YtlniliigcnedmaaGreatDoor
namespace Go.Proofs.YtlniliigcnedmaaGreatDoor
open Go Ax
set_option maxRecDepth 100000
theorem k77 (s:AVal) (l:List Md) (i:Int) (b:Nat) (m:AMem) (hs:RTab m s l) (hb:readB m b=some [s]):ACalls Tryz.prog 77 [.int .i64 i,.ptr b 0] m fun v m'=>v= .bool (outB l.length i)∧m'=m:=by
 refine w77 ?_
 simp[bx hb]
 refine C_of (k64 s l i m hs) ?_
 rintro _ m1 ⟨rfl,rfl⟩
 simp[outB]
theorem k43 (s t:AVal) (l:List Md) (ms:List Int) (m:AMem) (hs:RTab m s l) (ht:RInts m t ms) (hsz: ∀x∈l,smallN x) (hl:l.length<2^62) (hm:ms.length<2^62):ACalls Tryz.prog 43 [s,t] m fun v m'=>v= .int .i64 (rightI l ms)∧m<+:m':=by
 refine w43 ?_
 obtain ⟨hsl,hsc⟩:=hs.self
 simp[hsl,hsc]
 have hb0:=readB_new m [s] 22 none
 have hm1:m<+:m++ [.own [s] 22 none]:=List.prefix_append _ _
 generalize m++ [.own [s] 22 none]=m1 at*
 generalize m.length=b1 at*
 refine C_of (k52 s l m1 (hs.mono hm1) hsz hl) ?_
 rintro _ m2 ⟨rfl,hm2⟩
 simp
 generalize hE:rightI l ms=E
 unfold rightI at hE
 refine bbind_intro (fun h=>?_) fun h=>?_
 ·have h:checkI l≠0:=by simpa using h
  rw[if_pos h] at hE
  simp[hE,hm1.trans hm2]
 have h:checkI l=0:=by simpa using h
 rw[if_neg (by simp[h])] at hE
 simp
 refine C_of (k36 t ms (outB l.length) m2 (ht.mono (hm1.trans hm2)) hm 77 [] [.ptr b1 0] ?_) ?_
 ·intro x _ m' hm'
  refine (k77 s l x b1 m' (hs.mono ((hm1.trans hm2).trans hm')) (readB_mono (hm2.trans hm') hb0)).mono ?_
  rintro _ _ ⟨rfl,rfl⟩
  exact ⟨rfl,List.prefix_refl _⟩
 rintro _ m3 ⟨rfl,hm3⟩
 simp
 refine bbind_intro (fun h=>?_) fun h=>?_
 ·rw[if_pos h] at hE
  simp[hE,(hm1.trans hm2).trans hm3]
 ·rw[if_neg (by rw[h];simp)] at hE
  simp[←hE,(hm1.trans hm2).trans hm3]
end Go.Proofs.YtlniliigcnedmaaGreatDoor
namespace Go.Proofs.YtlniliigcnedmaaGreatDoor
open Go Ax
set_option maxRecDepth 100000
theorem DenseOf.lt {n k:Nat} {lt:Nat→Nat→Prop} {ds:List Nat} (h:DenseOf n lt ds k) {a b:Nat} (ha:a<n) (hb:b<n):ds.getD a 0<ds.getD b 0↔lt a b:=by
 have ha':a<ds.length:=by rw[h.len];exact ha
 have hb':b<ds.length:=by rw[h.len];exact hb
 have h1:ds[a]? =some ds[a]:=List.getElem?_eq_getElem ha'
 have h2:ds[b]? =some ds[b]:=List.getElem?_eq_getElem hb'
 have:=h.ord a b _ _ h1 h2
 simpa[List.getD,h1,h2] using this
theorem rightI_two {l:List Md} {a b:Nat} (hc:checkI l=0) (ha:a<l.length) (hb:b<l.length):rightI l [(a:Int),(b:Int)]=0:=by
 unfold rightI
 rw[if_neg (by simp[hc]),if_neg]
 simp[outB,ha,hb]
end Go.Proofs.YtlniliigcnedmaaGreatDoor
namespace Go.Proofs.YtlniliigcnedmaaGreatDoor
open Go Ax
theorem SortedBy.ex (r:Nat→Nat) (ms:List Nat): ∃zs,SortedBy r ms zs:=by
 suffices h: ∀ms:List Nat,∃zs,SortedBy r ms.reverse zs by
  have:=h ms.reverse
  rwa[List.reverse_reverse] at this
 intro ms
 induction ms with
 |nil=>exact ⟨[],SortedBy.nil⟩
 |cons y ms ih=>
  obtain ⟨zs,h⟩:=ih
  rw[List.reverse_cons]
  have key: ∀k,k≤zs.length→(∀(j:Nat) z,j<k→zs[j]? =some z→r z<r y)→ ∃zs',SortedBy r (ms.reverse++ [y]) zs':=by
   intro k hk
   generalize hq:zs.length-k=q
   induction q generalizing k with
   |zero=>
    intro hlt
    exact ⟨_,h.put hk hlt fun z hz=>by rw[List.getElem?_eq_none (by omega)] at hz;cases hz⟩
   |succ q ih=>
    intro hlt
    have hkl:k<zs.length:=by omega
    have hz:zs[k]? =some zs[k]:=List.getElem?_eq_getElem hkl
    rcases Nat.lt_trichotomy (r zs[k]) (r y) with h1|h1|h1
    ·exact ih (k+1) (by omega) (by omega) fun j z hj hjz=>by
      by_cases hjk:j=k
      ·subst hjk;rw[hz] at hjz;cases hjz;exact h1
      ·exact hlt j z (by omega) hjz
    ·exact ⟨_,h.hit hkl h1⟩
    ·exact ⟨_,h.put hk hlt fun z hz'=>by rw[hz] at hz';cases hz';omega⟩
  exact key 0 (Nat.zero_le _) fun j z hj=>by omega
theorem basesEx {l:List Md} (hg:goodT l) {x:Nat} (hx:x<l.length):BasesOk l x (basesOf l x):=by
 cases hu:isU (mdAt l x)
 ·exact (⟨fun h=>(by rw[hu] at h;cases h),fun _=>rfl⟩:BasesOk l x [x]).ok
 ·obtain ⟨O,_,h2⟩:=basesSome l hg x hx
  obtain ⟨zs,h3⟩:=SortedBy.ex (RR l) O
  exact (⟨fun _=>⟨O,fun j=>by rw[h2];unfold IsBase;rw[if_pos hu],h3⟩,fun h=>by rw[hu] at h;cases h⟩:BasesOk l x zs).ok
theorem basesOf_sub {l:List Md} (hg:goodT l) {x z:Nat} (hx:x<l.length) (hz:z∈basesOf l x):IsBase l x z:=by
 have h:=basesEx hg hx
 unfold IsBase
 cases hu:isU (mdAt l x)
 ·rw[h.el hu,List.mem_singleton] at hz
  rw[if_neg (by simp)];exact hz
 ·obtain ⟨O,h1,h2⟩:=h.un hu
  rw[if_pos rfl]
  exact (h1 z).1 (h2.sub z hz)
def hasRR (l:List Md) (x v:Nat):Prop:= ∃j,IsBase l x j∧RR l j=RR l v
theorem SameOrd.eq {n:Nat} {r r':Nat→Nat} (h:SameOrd n r r') {a b:Nat} (ha:a<n) (hb:b<n):r a=r b↔r' a=r' b:=by
 have h1:=h a b ha hb
 have h2:=h b a hb ha
 omega
theorem SortedBy.congrO {r r':Nat→Nat} {ms zs:List Nat} {n:Nat} (hn: ∀x∈ms,x<n) (hr:SameOrd n r r') (h:SortedBy r ms zs):SortedBy r' ms zs:=by
 refine ⟨?_,h.sub,fun y hy=>?_⟩
 ·exact List.Pairwise.imp_of_mem (fun {a b} ha hb hab=>(hr a b (hn a (h.sub a ha)) (hn b (h.sub b hb))).1 hab) h.asc
 ·obtain ⟨z,h1,h2,h3⟩:=h.cov y hy
  exact ⟨z,h1,(hr.eq (hn z (h.sub z h1)) (hn y hy)).1 h2,h3⟩
theorem once_eq {l:List Md} (hg:goodT l) {r:Nat→Nat} (h:SameOrd l.length r (RR l)) {x:Nat} (hx:x<l.length) (hu:isU (mdAt l x)=true) {O zs:List Nat} (hO: ∀j,j∈O↔IsBase l x j) (hs:SortedBy r O zs):zs=basesOf l x:=by
 refine BasesOk.eq ⟨fun _=>⟨O,fun j=>?_,hs.congrO (n:=l.length) (fun x' hx'=>((hO x').1 hx').lt hg hx) h⟩,fun h'=>by rw[hu] at h';cases h'⟩
 rw[hO];unfold IsBase;rw[if_pos hu]
end Go.Proofs.YtlniliigcnedmaaGreatDoor
namespace Go.Proofs.YtlniliigcnedmaaGreatDoor
open Go Ax
theorem firstC_kind {x y:Md} (h:firstC x y=0):x.kind=y.kind:=by
 rw[firstC_eq] at h
 unfold thenC at h
 split at h
 ·rename_i h1;exact absurd h h1
 ·rename_i h1
  have h1:pullC Md.kind x y=0:=by simpa using h1
  exact cmpI_zero.1 h1
theorem R_eq_down {l:List Md} {a b:Nat} (ha:a<l.length) (hb:b<l.length) {d:Nat}: ∀e,R l (d+e) a=R l (d+e) b→R l d a=R l d b
 |0,h=>h
 |e+1,h=>by
  refine R_eq_down ha hb e ?_
  rcases Nat.lt_trichotomy (R l (d+e) a) (R l (d+e) b) with h1|h1|h1
  ·have:=R_refine l (d+e) ha h1;rw[←Nat.add_assoc] at h;omega
  ·exact h1
  ·have:=R_refine l (d+e) hb h1;rw[←Nat.add_assoc] at h;omega
theorem R_eq_cmp {l:List Md} {a b d:Nat} (ha:a<l.length) (hb:b<l.length) (h:R l (d+1) a=R l (d+1) b):cmpR l (R l d) d a b=0:=by
 have h1:=R_lt l d (b:=b) ha
 have h2:=R_lt l d (b:=a) hb
 have h3:=(cmpR_ord l (R l d) d).anti a b trivial trivial
 have h4:=(cmpR_ord l (R l d) d).anti b a trivial trivial
 omega
theorem RR_kind {l:List Md} {a b:Nat} (ha:a<l.length) (hb:b<l.length) (h:RR l a=RR l b):(mdAt l a).kind=(mdAt l b).kind:=by
 have h1:R l (1+l.length) a=R l (1+l.length) b:=by rw[Nat.add_comm];exact h
 have h2:=R_eq_cmp (d:=0) ha hb (R_eq_down ha hb l.length h1)
 unfold cmpR thenC at h2
 have h0:cmpI (R l 0 a:Nat) (R l 0 b:Nat)=0:=cmpI_zero.2 rfl
 simp[h0] at h2
 exact firstC_kind h2
def led (f:Nat→Nat) (a:Nat):Bool:=(List.range a).all fun b=>f b !=f a
theorem led_iff {f:Nat→Nat} {a:Nat}:led f a=true↔ ∀b,b<a→f b≠f a:=by
 simp[led,List.all_eq_true]
theorem leader {f:Nat→Nat}: ∀(a:Nat),∃e,e≤a∧f e=f a∧led f e=true:=by
 intro a
 induction a using Nat.strongRecOn with
 |ind a ih=>
  by_cases h:led f a=true
  ·exact ⟨a,Nat.le_refl _,rfl,h⟩
  ·have: ∃b,b<a∧f b=f a:=by
    by_cases hx: ∃b,b<a∧f b=f a
    ·exact hx
    ·exact absurd (led_iff.2 fun b hb he=>hx ⟨b,hb,he⟩) h
   obtain ⟨b,h1,h2⟩:=this
   obtain ⟨e,h3,h4,h5⟩:=ih b h1
   exact ⟨e,by omega,by rw[h4,h2],h5⟩
theorem lead_grow {l:List Md} {d:Nat} (hs: ¬SameOrd l.length (R l (d+1)) (R l d)):(List.range l.length).countP (led (R l d))<(List.range l.length).countP (led (R l (d+1))):=by
 have down: ∀a b,a<l.length→b<l.length→R l (d+1) a=R l (d+1) b→R l d a=R l d b:=fun a b ha hb h=>R_eq_down (d:=d) ha hb 1 h
 have hmono: ∀a∈List.range l.length,led (R l d) a=true→led (R l (d+1)) a=true:=fun a ha h=>by
  have ha:=List.mem_range.1 ha
  exact led_iff.2 fun b hb he=>led_iff.1 h b hb (down b a (by omega) ha he)
 -- two of one class that part
 have: ∃a b,a<l.length∧b<l.length∧R l d a=R l d b∧R l (d+1) a≠R l (d+1) b:=by
  by_cases hx: ∃a b,a<l.length∧b<l.length∧R l d a=R l d b∧R l (d+1) a≠R l (d+1) b
  ·exact hx
  ·refine absurd ?_ hs
   intro a b ha hb
   constructor
   ·intro h
    rcases Nat.lt_trichotomy (R l d a) (R l d b) with h1|h1|h1
    ·exact h1
    ·exact absurd ⟨a,b,ha,hb,h1,by omega⟩ hx
    ·have:=R_refine l d hb h1;omega
   ·intro h;exact R_refine l d ha h
 obtain ⟨a,b,ha,hb,he,hne⟩:=this
 obtain ⟨e,h1,h2,h3⟩:=leader (f:=R l d) a
 have: ∃x,x<l.length∧R l d x=R l d e∧R l (d+1) x≠R l (d+1) e:=by
  by_cases h:R l (d+1) a=R l (d+1) e
  ·exact ⟨b,hb,by omega,by omega⟩
  ·exact ⟨a,ha,h2.symm,h⟩
 obtain ⟨x,hx,hxe,hxn⟩:=this
 obtain ⟨y,h4,h5,h6⟩:=leader (f:=R l (d+1)) x
 have hye:R l d y=R l d e:=by rw[down y x (by omega) hx h5,hxe]
 have hyne:y≠e:=fun h=>hxn (by rw[←h5,h])
 refine countP_lt (x:=y) hmono (List.mem_range.2 (by omega)) ?_ h6
 cases hl:led (R l d) y with
 |false=>rfl
 |true=>
  exfalso
  rcases Nat.lt_trichotomy y e with h|h|h
  ·exact led_iff.1 h3 y h hye
  ·exact hyne h
  ·exact led_iff.1 hl e h hye.symm
theorem R_stab_ex {l:List Md} (hl:l≠ []): ∃d,d≠0∧d≤l.length∧SameOrd l.length (R l (d+1)) (R l d):=by
 have hpos:0<l.length:=List.length_pos_iff.2 hl
 have key: ∀d,(∃d',d'≠0∧d'≤d∧SameOrd l.length (R l (d'+1)) (R l d'))∨d+1≤(List.range l.length).countP (led (R l (d+1))):=by
  intro d
  induction d with
  |zero=>
   right
   have:0<(List.range l.length).countP (led (R l (0+1))):=List.countP_pos_iff.2 ⟨0,List.mem_range.2 hpos,by simp[led]⟩
   omega
  |succ d ih=>
   rcases ih with ⟨d',h1,h2,h3⟩|ih
   ·exact .inl ⟨d',h1,by omega,h3⟩
   ·by_cases hs:SameOrd l.length (R l (d+1+1)) (R l (d+1))
    ·exact .inl ⟨d+1,by omega,Nat.le_refl _,hs⟩
    ·have:=lead_grow hs;right;omega
 rcases key l.length with h|h
 ·exact h
 ·have:(List.range l.length).countP (led (R l (l.length+1)))≤(List.range l.length).length:=List.countP_le_length
  simp at this
  omega
theorem RR_stable {l:List Md} (hg:goodT l):SameOrd l.length (R l (l.length+2)) (RR l):=by
 by_cases hl:l= []
 ·subst hl;intro a b ha;cases ha
 ·obtain ⟨d,h1,h2,h3⟩:=R_stab_ex hl
  have hst:=R_stable hg h1 h3
  intro a b ha hb
  have e1: ∀x,x<l.length→R l (l.length+2) x=R l d x:=fun x hx=>by have:=hst (l.length+2-d) x hx;rwa[show d+(l.length+2-d)=l.length+2 by omega] at this
  have e2: ∀x,x<l.length→RR l x=R l d x:=fun x hx=>by have:=hst (l.length+1-d) x hx;rwa[show d+(l.length+1-d)=l.length+1 by omega] at this
  rw[e1 a ha,e1 b hb,e2 a ha,e2 b hb]
theorem lexC_zero: ∀{xs ys:List Int},lexC cmpI xs ys=0→xs=ys
 | [],[],_=>rfl
 | [],_::_,h=>by simp[lexC] at h
 |_::_,[],h=>by simp[lexC] at h
 |x::xs,y::ys,h=>by
  simp only[lexC] at h
  split at h
  ·rename_i h1;exact absurd h h1
  ·rename_i h1
   have h1:cmpI x y=0:=by simpa using h1
   rw[cmpI_zero.1 h1,lexC_zero h]
theorem RR_key {l:List Md} (hg:goodT l) {a b:Nat} (ha:a<l.length) (hb:b<l.length) (h:RR l a=RR l b):keyOf l (RR l) a=keyOf l (RR l) b:=by
 have h2:R l (l.length+1+1) a=R l (l.length+1+1) b:=((RR_stable hg).eq ha hb).2 h
 have h3:=R_eq_cmp ha hb h2
 unfold cmpR thenC at h3
 have h0:cmpI (R l (l.length+1) a:Nat) (R l (l.length+1) b:Nat)=0:=cmpI_zero.2 (by have:R l (l.length+1) a=R l (l.length+1) b:=h;rw[this])
 simp[h0] at h3
 exact lexC_zero h3
end Go.Proofs.YtlniliigcnedmaaGreatDoor
namespace Go.Proofs.YtlniliigcnedmaaGreatDoor
open Go Ax
def digB:Nat→Nat→List UInt8
 |0,_=> []
 |f+1,n=>if n<10 then [(48+n).toUInt8] else digB f (n / 10)++ [(48+n%10).toUInt8]
def sizeT (x:Md):List UInt8:=if x.size=1 then [76,79,78,71,32] else if x.size= -1 then [83,72,79,82,84,32] else []
def kindT (k:Int):List UInt8:=
 if k=0 then [86,79,73,68] else if k=1 then [66,79,79,76] else if k=2 then [67,72,65,82] else if k=3 then [73,78,84] else if k=4 then [82,69,65,76]
 else if k=5 then [66,73,84,83] else if k=6 then [70,73,76,69] else if k=7 then [83,69,77,65] else [70,79,82,77,65,84]
def plainT (x:Md):List UInt8:=sizeT x++kindT x.kind
noncomputable def numOf (l:List Md) (s:List Nat) (m:Nat):Option Nat:=s.findIdx? fun z=>RR l z==RR l m
def txL (g:List Nat→Nat→List UInt8×List Nat):Bool→List Nat→List (Nat×List UInt8)→List UInt8×List Nat
 |_,s,[]=>([],s)
 |f,s,(z,nm)::zs=>((if f then [] else [44,32])++((g s z).1++(nm++(txL g false (g s z).2 zs).1)),(txL g false (g s z).2 zs).2)
def bare (zs:List Nat):List (Nat×List UInt8):=zs.map fun z=>(z,[])
def named (zs:List Nat) (ns:List ByteArray):List (Nat×List UInt8):=zs.zipWith (fun z (n:ByteArray)=>(z,32::n.data.toList)) ns
def eN (x:Md):List Nat:=x.elems.map Int.toNat
noncomputable def bodyT (l:List Md) (g:List Nat→Nat→List UInt8×List Nat) (s:List Nat) (m:Nat):List UInt8×List Nat:=
 if (mdAt l m).kind=9 then ([82,69,70,32]++(g s ((eN (mdAt l m)).getD 0 0)).1,(g s ((eN (mdAt l m)).getD 0 0)).2)
 else if (mdAt l m).kind=10 then ((if (mdAt l m).flex then [70,76,69,88,32] else [])++([91]++(List.replicate ((mdAt l m).dims-1).toNat 44++([93]++(g s ((eN (mdAt l m)).getD 0 0)).1))),(g s ((eN (mdAt l m)).getD 0 0)).2)
 else if (mdAt l m).kind=11 then ([83,84,82,85,67,84,40]++((txL g true s (named (eN (mdAt l m)) (mdAt l m).names)).1++ [41]),(txL g true s (named (eN (mdAt l m)) (mdAt l m).names)).2)
 else if (mdAt l m).kind=12 then ([85,78,73,79,78,40]++((txL g true s (bare (basesOf l m))).1++ [41]),(txL g true s (bare (basesOf l m))).2)
 else if 1<(mdAt l m).elems.length then
  ([80,82,79,67,40]++((txL g true s (bare ((eN (mdAt l m)).take ((mdAt l m).elems.length-1)))).1++([41,32]++(g (txL g true s (bare ((eN (mdAt l m)).take ((mdAt l m).elems.length-1)))).2 ((eN (mdAt l m)).getD ((mdAt l m).elems.length-1) 0)).1)),
   (g (txL g true s (bare ((eN (mdAt l m)).take ((mdAt l m).elems.length-1)))).2 ((eN (mdAt l m)).getD ((mdAt l m).elems.length-1) 0)).2)
 else ([80,82,79,67,32]++(g s ((eN (mdAt l m)).getD 0 0)).1,(g s ((eN (mdAt l m)).getD 0 0)).2)
noncomputable def txM (l:List Md):Nat→List Nat→Nat→List UInt8×List Nat
 |0,s,_=>([],s)
 |f+1,s,m=>if (mdAt l m).kind<9 then (plainT (mdAt l m),s) else
  match numOf l s m with
  |some n=>(35::digB 20 n,s)
  |none=>bodyT l (txM l f) (s++ [m]) m
structure Seen (l:List Md) (s:List Nat):Prop where
 lt: ∀z∈s,z<l.length
 ne:s.Pairwise fun a b=>RR l a≠RR l b
theorem Seen.nil {l:List Md}:Seen l []:=⟨by simp,.nil⟩
theorem Seen.len {l:List Md} {s:List Nat} (h:Seen l s):s.length≤l.length:=nodup_le _ _ (h.ne.imp fun hn e=>hn (congrArg _ e)) h.lt
theorem numOf_none {l:List Md} {s:List Nat} {m:Nat}:numOf l s m=none↔ ∀z∈s,RR l z≠RR l m:=by
 unfold numOf
 rw[List.findIdx?_eq_none_iff]
 simp
theorem Seen.add {l:List Md} {s:List Nat} {m:Nat} (h:Seen l s) (hm:m<l.length) (hn:numOf l s m=none):Seen l (s++ [m]):=by
 refine ⟨fun z hz=>?_,?_⟩
 ·rcases List.mem_append.1 hz with h1|h1
  ·exact h.lt z h1
  ·rw[List.mem_singleton.1 h1];exact hm
 ·rw[List.pairwise_append]
  exact ⟨h.ne,by simp,fun a ha b hb=>by rw[List.mem_singleton.1 hb];exact numOf_none.1 hn a ha⟩
theorem numOf_lt {l:List Md} {s:List Nat} {m n:Nat} (h:numOf l s m=some n):n<s.length:=by
 unfold numOf at h
 rw[List.findIdx?_eq_some_iff_findIdx_eq] at h
 exact h.1
structure TxT (l:List Md):Prop where
 good:goodT l
 len:l.length≤60
 els: ∀x∈l,x.elems.length≤64
 nms: ∀x∈l,∀n∈x.names,n.size≤40
 dims: ∀x∈l,x.dims≤3
structure Grow (l:List Md) (B:Nat) (s:List Nat) (r:List UInt8×List Nat):Prop where
 seen:Seen l r.2
 pre:s<+:r.2
 len:r.1.length+8000*s.length≤B+8000*r.2.length
theorem digB_len: ∀(f n:Nat),(digB f n).length≤f
 |0,_=>by simp[digB]
 |f+1,n=>by
  unfold digB
  split
  ·simp
  ·have:=digB_len f (n / 10)
   simp;omega
theorem plainT_len (x:Md):(plainT x).length≤12:=by
 unfold plainT sizeT kindT
 rw[List.length_append]
 repeat' split
 all_goals decide
theorem txL_grow {l:List Md} {g:List Nat→Nat→List UInt8×List Nat} (hg: ∀s z,Seen l s→z<l.length→Grow l 21 s (g s z)): ∀(zs:List (Nat×List UInt8)) (f:Bool) (s:List Nat),Seen l s→(∀p∈zs,p.1<l.length∧p.2.length≤41)→Grow l (64*zs.length) s (txL g f s zs)
 | [],f,s,h,_=>⟨h,List.prefix_refl _,by simp[txL]⟩
 |(z,nm)::zs,f,s,h,hz=>by
  have h1:=hg s z h (hz _ (List.mem_cons_self ..)).1
  have h2:=(hz _ (List.mem_cons_self ..)).2
  have h3:=txL_grow hg zs false _ h1.seen fun p hp=>hz p (List.mem_cons_of_mem _ hp)
  refine ⟨h3.seen,h1.pre.trans h3.pre,?_⟩
  have e1:=h1.len
  have e3:=h3.len
  have e4:(if f then [] else [44,32]:List UInt8).length≤2:=by cases f<;>simp
  simp only[txL,List.length_append,List.length_cons] at*
  omega
theorem named_mem {zs:List Nat} {ns:List ByteArray} {p:Nat×List UInt8} (h:p∈named zs ns):p.1∈zs∧ ∃n∈ns,p.2=32::n.data.toList:=by
 unfold named at h
 rw[List.mem_iff_getElem?] at h
 obtain ⟨i,hi⟩:=h
 rw[List.getElem?_zipWith] at hi
 cases h1:zs[i]? with
 |none=>rw[h1] at hi;simp at hi
 |some z=>cases h2:ns[i]? with
  |none=>rw[h1,h2] at hi;simp at hi
  |some n=>
   rw[h1,h2] at hi
   simp only[Option.some.injEq] at hi
   subst hi
   exact ⟨List.mem_of_getElem? h1,n,List.mem_of_getElem? h2,rfl⟩
theorem mdAt_mem {l:List Md} {m:Nat} (h:m<l.length):mdAt l m∈l:=by rw[mdAt_eq h];exact List.getElem_mem h
theorem eN_lt {l:List Md} (hg:goodT l) {m:Nat} (h:m<l.length) {z:Nat} (hz:z∈eN (mdAt l m)):z<l.length:=by
 obtain ⟨e,he,rfl⟩:=List.mem_map.1 hz
 have:=hg _ (mdAt_mem h) e he
 omega
theorem eN_len (x:Md):(eN x).length=x.elems.length:=by simp[eN]
theorem eN_getD {l:List Md} (hg:goodT l) {m k:Nat} (h:m<l.length) (hk:k<(mdAt l m).elems.length):(eN (mdAt l m)).getD k 0<l.length:=by
 have hk':k<(eN (mdAt l m)).length:=by rw[eN_len];exact hk
 rw[List.getD_eq_getElem?_getD,List.getElem?_eq_getElem hk',Option.getD_some]
 exact eN_lt hg h (List.getElem_mem hk')
theorem mem_take {α:Type} {x:α} {n:Nat} {xs:List α} (h:x∈xs.take n):x∈xs:=(List.take_sublist _ _).subset h
theorem bare_ok {l:List Md} {zs:List Nat} (h: ∀z∈zs,z<l.length): ∀p∈bare zs,p.1<l.length∧p.2.length≤41:=by
 intro p hp
 obtain ⟨z,hz,rfl⟩:=List.mem_map.1 hp
 exact ⟨h z hz,by simp⟩
theorem bases_lt {l:List Md} (hg:goodT l) {m:Nat} (h:m<l.length): ∀z∈basesOf l m,z<l.length:=(basesEx hg h).lt hg h
theorem bodyT_grow {l:List Md} (ht:TxT l) {g:List Nat→Nat→List UInt8×List Nat} (hg: ∀s z,Seen l s→z<l.length→Grow l 21 s (g s z)) {s:List Nat} {m:Nat} (hs:Seen l s) (hm:m<l.length) (h1:9≤(mdAt l m).kind) (he:(mdAt l m).kind≠12→0<(mdAt l m).elems.length):
  Grow l 7000 s (bodyT l g s m):=by
 have hmm:=mdAt_mem hm
 have hel:=ht.els _ hmm
 have hd:=ht.dims _ hmm
 have one:(mdAt l m).kind≠12→Grow l 21 s (g s ((eN (mdAt l m)).getD 0 0)):=fun h=>hg _ _ hs (eN_getD ht.good hm (he h))
 unfold bodyT
 split
 ·rename_i h
  have:=one (by omega)
  exact ⟨this.seen,this.pre,by have:=this.len;simp only[List.length_append,List.length_cons,List.length_nil] at*;omega⟩
 split
 ·rename_i h
  have:=one (by omega)
  refine ⟨this.seen,this.pre,?_⟩
  have e1:=this.len
  have e2:(if (mdAt l m).flex then [70,76,69,88,32] else []:List UInt8).length≤5:=by split<;>simp
  simp only[List.length_append,List.length_cons,List.length_nil,List.length_replicate] at*
  omega
 split
 ·have:=txL_grow hg (named (eN (mdAt l m)) (mdAt l m).names) true s hs fun p hp=>by
   obtain ⟨h1,n,h2,h3⟩:=named_mem hp
   exact ⟨eN_lt ht.good hm h1,by rw[h3];have:=ht.nms _ hmm n h2;simp only[List.length_cons,Array.length_toList];show n.size+1≤41;omega⟩
  refine ⟨this.seen,this.pre,?_⟩
  have e1:=this.len
  have e2:(named (eN (mdAt l m)) (mdAt l m).names).length≤64:=by simp only[named,List.length_zipWith,eN_len];omega
  simp only[List.length_append,List.length_cons,List.length_nil] at*
  omega
 split
 ·have:=txL_grow hg (bare (basesOf l m)) true s hs (bare_ok (bases_lt ht.good hm))
  refine ⟨this.seen,this.pre,?_⟩
  have e1:=this.len
  have e2:(bare (basesOf l m)).length≤60:=by
   have:=(basesEx ht.good hm).length ht.good hm
   have:=ht.len
   simp only[bare,List.length_map];omega
  simp only[List.length_append,List.length_cons,List.length_nil] at*
  omega
 split
 ·have h2:=txL_grow hg (bare ((eN (mdAt l m)).take ((mdAt l m).elems.length-1))) true s hs (bare_ok fun z hz=>eN_lt ht.good hm (mem_take hz))
  have h3:=hg _ ((eN (mdAt l m)).getD ((mdAt l m).elems.length-1) 0) h2.seen (eN_getD ht.good hm (by omega))
  refine ⟨h3.seen,h2.pre.trans h3.pre,?_⟩
  have e1:=h2.len
  have e3:=h3.len
  have e2:(bare ((eN (mdAt l m)).take ((mdAt l m).elems.length-1))).length≤64:=by simp only[bare,List.length_map,List.length_take,eN_len];omega
  simp only[List.length_append,List.length_cons,List.length_nil] at*
  omega
 ·have:=one (by assumption)
  exact ⟨this.seen,this.pre,by have:=this.len;simp only[List.length_append,List.length_cons,List.length_nil] at*;omega⟩
def Full (l:List Md):Prop:= ∀x∈l,9≤x.kind→0<x.elems.length
theorem txM_grow {l:List Md} (ht:TxT l) (hf:Full l): ∀(f:Nat) (s:List Nat) (m:Nat),Seen l s→m<l.length→Grow l 21 s (txM l f s m)
 |0,s,m,hs,_=>⟨hs,List.prefix_refl _,by simp[txM]⟩
 |f+1,s,m,hs,hm=>by
  unfold txM
  split
  ·exact ⟨hs,List.prefix_refl _,by have:=plainT_len (mdAt l m);show (plainT (mdAt l m)).length+8000*s.length≤21+8000*s.length;omega⟩
  ·rename_i h9
   cases hn:numOf l s m with
   |some n=>exact ⟨hs,List.prefix_refl _,by have:=digB_len 20 n;show (35::digB 20 n).length+8000*s.length≤21+8000*s.length;simp only[List.length_cons];omega⟩
   |none=>
    have:=bodyT_grow ht (txM_grow ht hf f) (hs.add hm hn) hm (by omega) (fun _=>hf _ (mdAt_mem hm) (by omega))
    refine ⟨this.seen,(List.prefix_append _ _).trans this.pre,?_⟩
    have e1:=this.len
    simp only[List.length_append,List.length_cons,List.length_nil] at*
    omega
noncomputable def textT (l:List Md) (m:Nat):List UInt8:=(txM l (l.length+1) [] m).1
end Go.Proofs.YtlniliigcnedmaaGreatDoor
namespace Go.Proofs.YtlniliigcnedmaaGreatDoor
open Go Ax
open Relation
set_option maxRecDepth 100000
def mdU (k:Int) (es:List Int):Md:=⟨k,0,es,[],0,false⟩
theorem R_kindlt {l:List Md} {a b:Nat} (ha:a<l.length) (hb:b<l.length) (h:(mdAt l a).kind<(mdAt l b).kind): ∀d,R l (d+1) a<R l (d+1) b
 |0=>by
  rw[R_lt l 0 ha]
  unfold cmpR thenC
  simp only[R]
  have h00:cmpI 0 0=0:=by decide
  rw[if_neg (by simp[h00])]
  simp only[if_true]
  unfold firstC firstL
  rw[firstNZ_cons]
  have:cmpI (mdAt l a).kind (mdAt l b).kind<0:=cmpI_lt.2 h
  rw[if_pos (by omega)]
  exact this
 |d+1=>R_refine l (d+1) ha (R_kindlt ha hb h d)
theorem RR_kindlt {l:List Md} {a b:Nat} (ha:a<l.length) (hb:b<l.length) (h:(mdAt l a).kind<(mdAt l b).kind):RR l a<RR l b:=R_kindlt ha hb h _
end Go.Proofs.YtlniliigcnedmaaGreatDoor
namespace Go.Proofs.YtlniliigcnedmaaGreatDoor
open Go Ax
set_option maxRecDepth 100000
theorem fidx_first {p:Nat→Bool}: ∀(n i:Nat),(fidx p i n= -1∧ ∀k,i≤k→k<i+n→p k=false)∨ ∃j,i≤j∧j<i+n∧fidx p i n=(j:Int)∧p j=true∧ ∀k,i≤k→k<j→p k=false
 |0,i=> .inl ⟨rfl,fun k h1 h2=>by omega⟩
 |n+1,i=>by
  rw[fidx]
  split
  ·rename_i hp;exact .inr ⟨i,Nat.le_refl _,by omega,rfl,hp,fun k h1 h2=>by omega⟩
  ·rename_i hp
   have hp:p i=false:=by simpa using hp
   rcases fidx_first (p:=p) n (i+1) with ⟨h1,h2⟩|⟨j,h1,h2,h3,h4,h5⟩
   ·refine .inl ⟨h1,fun k k1 k2=>?_⟩
    by_cases hk:k=i
    ·subst hk;exact hp
    ·exact h2 k (by omega) (by omega)
   ·refine .inr ⟨j,by omega,by omega,h3,h4,fun k k1 k2=>?_⟩
    by_cases hk:k=i
    ·subst hk;exact hp
    ·exact h5 k (by omega) k2
end Go.Proofs.YtlniliigcnedmaaGreatDoor
namespace Go.Proofs.YtlniliigcnedmaaGreatDoor
open Go Ax
set_option maxRecDepth 100000
abbrev chunk (cs:List AVal) (i:Nat):List AVal:=(cs.drop (i*6)).take 6
def OwB (m0:AMem) (lo:Nat) (m:AMem) (s:AVal) (l:List Md):Prop:= ∃cs,Ow lo m 6 39 s l.length cs∧ ∀(i:Nat) x,l[i]? =some x→RMode m0 (chunk cs i) x
def OwT (lo:Nat) (m:AMem) (s:AVal) (l:List Md):Prop:= ∃cs,Ow lo m 6 39 s l.length cs∧ ∀(i:Nat) x,l[i]? =some x→ ∀m',Ch (fun b=>s.blk=some b∨b<lo) m m'→RMode m' (chunk cs i) x
theorem OwT.tab {lo:Nat} {m:AMem} {s:AVal} {l:List Md} (h:OwT lo m s l):RTab m s l:=by
 obtain ⟨cs,h1,h2⟩:=h
 exact ⟨cs,h1.sl,fun i x hx=>h2 i x hx m (.refl _ _)⟩
theorem OwT.mono {lo:Nat} {m m':AMem} {s:AVal} {l:List Md} (h:OwT lo m s l) (hm:m<+:m'):OwT lo m' s l:=by
 obtain ⟨cs,h1,h2⟩:=h
 exact ⟨cs,h1.mono hm,fun i x hx m'' hc=>h2 i x hx m'' ((Ch.of_prefix hm).trans hc)⟩
theorem OwB.mono {lo:Nat} {m0 m m':AMem} {s:AVal} {l:List Md} (h:OwB m0 lo m s l) (hm:m<+:m'):OwB m0 lo m' s l:=by
 obtain ⟨cs,h1,h2⟩:=h
 exact ⟨cs,h1.mono hm,h2⟩
theorem OwB.tab {lo:Nat} {m0 m:AMem} {s:AVal} {l:List Md} (h:OwB m0 lo m s l) (hm:m0<+:m):RTab m s l:=by
 obtain ⟨cs,h1,h2⟩:=h
 exact ⟨cs,h1.sl,fun i x hx=>(h2 i x hx).mono hm⟩
theorem OwB.ch {S:Nat→Prop} {lo:Nat} {m0 m m':AMem} {s:AVal} {l:List Md} (h:OwB m0 lo m s l) (hc:Ch S m m') (hs: ∀b,s.blk=some b→ ¬S b):OwB m0 lo m' s l:=by
 obtain ⟨cs,h1,h2⟩:=h
 exact ⟨cs,h1.ch hc hs,h2⟩
theorem OwB.blk_lo {lo:Nat} {m0 m:AMem} {s:AVal} {l:List Md} (h:OwB m0 lo m s l) {b:Nat} (hb:s.blk=some b):lo≤b∧b<m.length:=by
 obtain ⟨cs,h1,_⟩:=h
 exact h1.blk_lo hb
theorem OwT.blk_lo {lo:Nat} {m:AMem} {s:AVal} {l:List Md} (h:OwT lo m s l) {b:Nat} (hb:s.blk=some b):lo≤b∧b<m.length:=by
 obtain ⟨cs,h1,_⟩:=h
 exact h1.blk_lo hb
theorem chunk_append {cs c:List AVal} {n:Nat} (hl:cs.length=n*6) {i:Nat} (hi:i<n):chunk (cs++c) i=chunk cs i:=by
 unfold chunk
 rw[List.drop_append_of_le_length (by omega),List.take_append_of_le_length (by simp;omega)]
theorem chunk_last {cs c:List AVal} {n:Nat} (hl:cs.length=n*6) (hc:c.length=6):chunk (cs++c) n=c:=by
 unfold chunk
 rw[List.drop_append,hl,Nat.sub_self,List.drop_eq_nil_of_le (by omega)]
 simp only[List.nil_append,List.drop_zero]
 exact List.take_of_length_le (by omega)
theorem push_get {l:List Md} {x y:Md} {i:Nat} (h:(l++ [x])[i]? =some y):(i<l.length∧l[i]? =some y)∨(i=l.length∧y=x):=by
 rcases Nat.lt_or_ge i l.length with hlt|hge
 ·rw[List.getElem?_append_left hlt] at h;exact .inl ⟨hlt,h⟩
 ·rw[List.getElem?_append_right hge] at h
  cases hk:i-l.length with
  |zero=>rw[hk] at h;simp at h;exact .inr ⟨by omega,h.symm⟩
  |succ k=>rw[hk] at h;simp at h
theorem OwB.push {m0:AMem} {lo:Nat} {m:AMem} {s:AVal} {l:List Md} (h:OwB m0 lo m s l) (hlo:lo≤m.length) {c:List AVal} {x:Md} (hx:RMode m0 c x) (hn:l.length<2^30):
  ∃s' m',appendE m 6 80 39 s 1 c=some (s',m')∧Ch (fun b=>s.blk=some b) m m'∧OwB m0 lo m' s' (l++ [x])∧(∀b,s'.blk=some b→s.blk=some b∨m.length≤b):=by
 obtain ⟨cs,h1,h2⟩:=h
 have hcl:=hx.all
 have hl:=h1.sl.length
 obtain ⟨s',m',e,hch,h3,h4⟩:=h1.append hlo (k:=1) (xs:=c) (bytes:=80) (by omega) hcl.2 (by decide) (by omega)
 refine ⟨s',m',e,hch,⟨cs++c,by simpa using h3,fun i y hy=>?_⟩,h4⟩
 rcases push_get hy with ⟨hi,hy⟩|⟨rfl,rfl⟩
 ·rw[chunk_append hl hi];exact h2 i y hy
 ·rw[chunk_last hl hcl.1];exact hx
theorem OwT.push {lo:Nat} {m:AMem} {s:AVal} {l:List Md} (h:OwT lo m s l) (hlo:lo≤m.length) {c:List AVal} {x:Md} (hx: ∀m',Ch (fun b=>s.blk=some b∨b<lo) m m'→RMode m' c x) (hn:l.length<2^30):
  ∃s' m',appendE m 6 80 39 s 1 c=some (s',m')∧Ch (fun b=>s.blk=some b) m m'∧OwT lo m' s' (l++ [x])∧(∀b,s'.blk=some b→s.blk=some b∨m.length≤b):=by
 obtain ⟨cs,h1,h2⟩:=h
 have hcl:=(hx m (.refl _ _)).all
 have hl:=h1.sl.length
 obtain ⟨s',m',e,hch,h3,h4⟩:=h1.append hlo (k:=1) (xs:=c) (bytes:=80) (by omega) hcl.2 (by decide) (by omega)
 refine ⟨s',m',e,hch,⟨cs++c,by simpa using h3,fun i y hy m2 hc2=>?_⟩,h4⟩
 have hcc:Ch (fun b=>s.blk=some b∨b<lo) m m2:=by
  have a1:Ch (fun b=>(s.blk=some b∨b<lo)∨m.length≤b) m m':=hch.weaken fun b _ hb=> .inl (.inl hb)
  have a2:Ch (fun b=>(s.blk=some b∨b<lo)∨m.length≤b) m' m2:=hc2.weaken fun b _ hb=>by
   rcases hb with hb|hb
   ·rcases h4 b hb with h|h
    ·exact .inl (.inl h)
    ·exact .inr h
   ·exact .inl (.inr hb)
  exact (a1.trans a2).weaken fun b hb h=>by rcases h with h|h;exact h;omega
 rcases push_get hy with ⟨hi,hy⟩|⟨rfl,rfl⟩
 ·rw[chunk_append hl hi];exact h2 i y hy m2 hcc
 ·rw[chunk_last hl hcl.1];exact hx m2 hcc
def TabS (S:Nat→Prop) (m:AMem) (s:AVal) (l:List Md):Prop:= ∃cs,∀m',Ch S m m'→Sl m' 6 s l.length cs∧ ∀(i:Nat) x,l[i]? =some x→RMode m' ((cs.drop (i*6)).take 6) x
theorem TabS.weaken {S T:Nat→Prop} {m:AMem} {s:AVal} {l:List Md} (h:TabS S m s l) (hs: ∀b,T b→S b):TabS T m s l:=by
 obtain ⟨cs,h⟩:=h
 exact ⟨cs,fun m' hc=>h m' (hc.weaken fun b _=>hs b)⟩
theorem TabS.next {S:Nat→Prop} {m m':AMem} {s:AVal} {l:List Md} (h:TabS S m s l) (hc:Ch S m m'):TabS S m' s l:=by
 obtain ⟨cs,h⟩:=h
 exact ⟨cs,fun m'' hc'=>h m'' (hc.trans hc')⟩
theorem TabS.mono {S:Nat→Prop} {m m':AMem} {s:AVal} {l:List Md} (h:TabS S m s l) (hm:m<+:m'):TabS S m' s l:=h.next (.of_prefix hm)
theorem TabS.tab {S:Nat→Prop} {m:AMem} {s:AVal} {l:List Md} (h:TabS S m s l):RTab m s l:=by
 obtain ⟨cs,h⟩:=h
 exact ⟨cs,h m (.refl _ _)⟩
theorem TabS.nil {S:Nat→Prop} {m:AMem}:TabS S m .nilslice []:=⟨[],fun _ _=>⟨Sl.nil,by simp⟩⟩
end Go.Proofs.YtlniliigcnedmaaGreatDoor
namespace Go.Proofs.YtlniliigcnedmaaGreatDoor
open Go Ax
set_option maxRecDepth 100000
noncomputable def findI (l:List Md) (x:Md):Option Nat:=
 if (l.length:Int)∈x.elems then none
 else if checkI (l++ [x])≠0 then none
 else if fidx (fun i=>RR (l++ [x]) i==RR (l++ [x]) l.length) 0 (l.length+1)=l.length then none
 else some (fidx (fun i=>RR (l++ [x]) i==RR (l++ [x]) l.length) 0 (l.length+1)).toNat
noncomputable def putI (l:List Md) (x:Md):List Md×Int×Int:=
 if checkI l≠0 then ([],0,checkI l)
 else match findI l x with
  |some i=>(l,i,0)
  |none=>if checkI (l++ [x])≠0 then ([],0,checkI (l++ [x])) else (l++ [x],l.length,0)
end Go.Proofs.YtlniliigcnedmaaGreatDoor
namespace Go.Proofs.YtlniliigcnedmaaGreatDoor
open Go Ax
open Relation
set_option maxRecDepth 100000
def unionOf (zs:List Nat):Md:=⟨12,0,zs.map fun z:Nat=>(z:Int),[],0,false⟩
theorem mdAt_app {l:List Md} {x:Md} {i:Nat} (h:i<l.length):mdAt (l++ [x]) i=mdAt l i:=by
 unfold mdAt
 rw[List.getElem?_append_left h]
theorem mdAt_last {l:List Md} {x:Md}:mdAt (l++ [x]) l.length=x:=by
 unfold mdAt
 rw[List.getElem?_concat_length]
 rfl
theorem stepR_app {l:List Md} {x:Md} (hg:goodT l) {p:Md→Bool} {a b:Nat} (ha:a<l.length):stepR (l++ [x]) p a b↔stepR l p a b∧b<l.length:=by
 unfold stepR
 rw[List.getElem?_append_left ha]
 constructor
 ·rintro ⟨y,h1,h2,h3⟩
  have:=hg y (List.mem_of_getElem? h1) _ h3
  exact ⟨⟨y,h1,h2,h3⟩,by omega⟩
 ·exact fun h=>h.1
theorem tg_app {l:List Md} {x:Md} (hg:goodT l) {p:Md→Bool} {a b:Nat} (ha:a<l.length) (h:TransGen (stepR (l++ [x]) p) a b):TransGen (stepR l p) a b∧b<l.length:=by
 induction h with
 |single h=>have:=(stepR_app hg ha).1 h;exact ⟨.single this.1,this.2⟩
 |tail _ h ih=>have:=(stepR_app hg ih.2).1 h;exact ⟨.tail ih.1 this.1,this.2⟩
section
variable {l:List Md} {zs:List Nat}
theorem part_old {x:Md} (hg:goodT l) {a j:Nat} (ha:a<l.length):IsPart (l++ [x]) a j↔IsPart l a j:=by
 constructor
 ·rintro ⟨h1,h2⟩
  obtain ⟨h3,h4⟩:=tg_app hg ha h1
  exact ⟨h3,fun y hy=>h2 y (by rw[List.getElem?_append_left h4];exact hy)⟩
 ·intro h
  have hj:=h.lt hg
  refine ⟨?_,fun y hy=>h.2 y (by rwa[List.getElem?_append_left hj] at hy)⟩
  have hT:=h.1
  clear h hj
  have: ∀{b},TransGen (stepR l isU) a b→TransGen (stepR (l++ [x]) isU) a b∧b<l.length:=fun hb=>by
   induction hb with
   | @single b h=>
    have hb':b<l.length:=by obtain ⟨y,h1,_,h3⟩:=h;have:=hg y (List.mem_of_getElem? h1) _ h3;omega
    exact ⟨.single ((stepR_app hg ha).2 ⟨h,hb'⟩),hb'⟩
   | @tail c b _ h ih=>
    have hb':b<l.length:=by obtain ⟨y,h1,_,h3⟩:=h;have:=hg y (List.mem_of_getElem? h1) _ h3;omega
    exact ⟨.tail ih.1 ((stepR_app hg ih.2).2 ⟨h,hb'⟩),hb'⟩
  exact (this hT).1
theorem part_new (hz: ∀z∈zs,z<l.length∧isU (mdAt l z)=false) {j:Nat}:IsPart (l++ [unionOf zs]) l.length j↔j∈zs:=by
 have hnu: ∀z∈zs,∀y,(l++ [unionOf zs])[z]? =some y→isU y=false:=fun z h y hy=>by
  obtain ⟨h1,h2⟩:=hz z h
  rw[List.getElem?_append_left h1] at hy
  rw[mdAt_eq h1] at h2
  rw[List.getElem?_eq_getElem h1] at hy
  cases hy
  exact h2
 have h1: ∀b,stepR (l++ [unionOf zs]) isU l.length b→b∈zs:=fun b ⟨y,h1,_,h3⟩=>by
  rw[List.getElem?_concat_length] at h1
  cases h1
  obtain ⟨z,hz1,hz2⟩:=List.mem_map.1 h3
  have:z=b:=by omega
  exact this▸hz1
 constructor
 ·rintro ⟨h,_⟩
  have: ∀{b},TransGen (stepR (l++ [unionOf zs]) isU) l.length b→b∈zs:=fun hb=>by
   induction hb with
   |single h=>exact h1 _ h
   |tail _ h ih=>
    obtain ⟨y,g1,g2,_⟩:=h
    rw[hnu _ ih y g1] at g2
    cases g2
  exact this h
 ·intro h
  exact ⟨.single ⟨unionOf zs,by rw[List.getElem?_concat_length],by simp[isU,unionOf],List.mem_map.2 ⟨j,h,rfl⟩⟩,hnu j h⟩
theorem part_in {x j:Nat} (h:IsPart l x j):x<l.length:=by
 have: ∀{b},TransGen (stepR l isU) x b→x<l.length:=fun hb=>by
  induction hb with
  |single h=>obtain ⟨y,h1,_⟩:=h;exact (List.getElem?_eq_some_iff.1 h1).1
  |tail _ _ ih=>exact ih
 exact this h.1
theorem part_head {x j:Nat} (hx:x<l.length) (h:IsPart l x j):isU (mdAt l x)=true:=by
 have: ∀{b},TransGen (stepR l isU) x b→isU (mdAt l x)=true:=fun hb=>by
  induction hb with
  |single h=>obtain ⟨y,h1,h2,_⟩:=h;rw[List.getElem?_eq_getElem hx] at h1;cases h1;rw[mdAt_eq hx];exact h2
  |tail _ _ ih=>exact ih
 exact this h.1
theorem sub_le {xs ys:List Nat} (h:xs.Nodup) (hs: ∀x∈xs,x∈ys):xs.length≤ys.length:=List.Nodup.length_le_of_subset h hs
theorem T13.of (hn:l.length≤13):T13 l:=by
 refine ⟨by omega,fun hg x O h1 h2=>?_⟩
 cases O with
 |nil=>simp
 |cons j O=>
  have hx:=part_in (h2 j (by simp))
  have hxu:=part_head hx (h2 j (by simp))
  have hxO:x∉j::O:=fun h=>by
   have:=(h2 x h).2 l[x] (List.getElem?_eq_getElem hx)
   rw[mdAt_eq hx] at hxu
   rw[hxu] at this
   cases this
  have:=nodup_le l.length (x::j::O) (List.nodup_cons.2 ⟨hxO,h1⟩) fun z hz=>by
    rcases List.mem_cons.1 hz with rfl|hz
    ·exact hx
    ·exact (h2 z hz).lt hg
  simp at this ⊢
  omega
theorem T13.union (h:T13 l) (hg:goodT l) (h59:l.length<19) (hz: ∀z∈zs,z<l.length∧isU (mdAt l z)=false) (hz12:zs.length≤12):T13 (l++ [unionOf zs]):=by
 refine ⟨by simp;omega,fun _ x O h1 h2=>?_⟩
 rcases Nat.lt_trichotomy x l.length with hx|rfl|hx
 ·exact h.few hg x O h1 fun j hj=>(part_old hg hx).1 (h2 j hj)
 ·exact Nat.le_trans (sub_le h1 fun j hj=>(part_new hz).1 (h2 j hj)) hz12
 ·cases O with
  |nil=>simp
  |cons j O=>have:=part_in (h2 j (by simp));simp at this;omega
end
theorem T13.bases {l:List Md} (h:T13 l) (hg:goodT l) {x:Nat} (hx:x<l.length):(basesOf l x).length≤12:=by
 have hb:=fun z hz=>basesOf_sub hg hx (z:=z) hz
 cases hu:isU (mdAt l x)
 ·rw[(basesEx hg hx).el hu];simp
 ·refine h.few hg x _ ?_ fun z hz=>?_
  ·obtain ⟨O,_,h2⟩:=(basesEx hg hx).un hu
   exact h2.asc.imp fun hab=>by intro e;subst e;omega
  ·have:=hb z hz
   unfold IsBase at this
   rw[if_pos hu] at this
   exact this
end Go.Proofs.YtlniliigcnedmaaGreatDoor
namespace Go.Proofs.YtlniliigcnedmaaGreatDoor
open Go Ax
set_option maxRecDepth 100000
open Classical in
noncomputable def leftI (l:List Md) (u v:Nat):List Nat:=(basesOf l u).filter fun z=> !decide (hasRR l v z)
end Go.Proofs.YtlniliigcnedmaaGreatDoor
namespace Go.Proofs.YtlniliigcnedmaaGreatDoor
open Go Ax
open Relation
set_option maxRecDepth 100000
theorem RR_first {l:List Md} {a b:Nat} (ha:a<l.length) (hb:b<l.length) (h:RR l a=RR l b):firstC (mdAt l a) (mdAt l b)=0:=by
 have h1:R l (1+l.length) a=R l (1+l.length) b:=by rw[Nat.add_comm];exact h
 have h2:=R_eq_cmp (d:=0) ha hb (R_eq_down ha hb l.length h1)
 unfold cmpR thenC at h2
 have h0:cmpI (R l 0 a:Nat) (R l 0 b:Nat)=0:=cmpI_zero.2 rfl
 simp[h0] at h2
 exact h2
theorem lexC_refl: ∀xs:List Int,lexC cmpI xs xs=0
 | []=>rfl
 |x::xs=>by
  have h:cmpI x x=0:=cmpI_zero.2 rfl
  simp[lexC,h,lexC_refl xs]
theorem fidx_at {p:Nat→Bool}: ∀(n i j:Nat),i≤j→j<i+n→p j=true→(∀k,i≤k→k<j→p k=false)→fidx p i n=(j:Int)
 |0,i,j,h1,h2,_,_=>by omega
 |n+1,i,j,h1,h2,h3,h4=>by
  rw[fidx]
  by_cases hij:i=j
  ·subst hij;rw[if_pos h3]
  ·rw[if_neg (by rw[h4 i (Nat.le_refl _) (by omega)];simp)]
   exact fidx_at n (i+1) j (by omega) (by omega) h3 fun k k1 k2=>h4 k (by omega) k2
theorem findI_ok {l:List Md} {x:Md} (h: ∀e∈x.elems,outB l.length e=false):findI l x=if checkI (l++ [x])≠0 then none else if fidx (fun i=>RR (l++ [x]) i==RR (l++ [x]) l.length) 0 (l.length+1)=l.length then none else some (fidx (fun i=>RR (l++ [x]) i==RR (l++ [x]) l.length) 0 (l.length+1)).toNat:=by
 unfold findI
 rw[if_neg]
 intro hm
 have:=h _ hm
 simp[outB] at this
theorem findI_last {l:List Md} {x:Md} (h: ∀e∈x.elems,outB l.length e=false) (hc:checkI (l++ [x])=0) (hn: ∀i,i<l.length→RR (l++ [x]) i≠RR (l++ [x]) l.length):findI l x=none:=by
 rw[findI_ok h,if_neg (by simp[hc]),if_pos]
 exact fidx_at _ 0 _ (by omega) (by omega) (by simp) fun k _ hk=>by simpa using hn k hk
theorem findI_some {l:List Md} {x:Md} (h: ∀e∈x.elems,outB l.length e=false) (hc:checkI (l++ [x])=0) {j:Nat} (hj:j<l.length) (he:RR (l++ [x]) j=RR (l++ [x]) l.length) (hn: ∀i,i<j→RR (l++ [x]) i≠RR (l++ [x]) l.length):findI l x=some j:=by
 have hF:=fidx_at (p:=fun i=>RR (l++ [x]) i==RR (l++ [x]) l.length) (l.length+1) 0 j (by omega) (by omega) (by simpa using he) fun k _ hk=>by simpa using hn k hk
 rw[findI_ok h,if_neg (by simp[hc]),hF,if_neg (by omega)]
 simp
end Go.Proofs.YtlniliigcnedmaaGreatDoor
namespace Go.Proofs.YtlniliigcnedmaaGreatDoor
open Go Ax
open Relation
set_option maxRecDepth 100000
structure CheckOk (l:List Md):Prop where
 len:l.length≤512
 one: ∀x∈l,oneI x l.length=0
 void:l.any (voidsB l)=false
 bad: ∀r,r<l.length→ ¬badM l r
 flex: ∀x∈l,flexOf x=true→ ∀e∈x.elems,¬FlexP l e.toNat
theorem checkOk_iff {l:List Md}:checkI l=0↔CheckOk l:=by
 constructor
 ·intro h
  unfold checkI at h
  split at h
  ·omega
  ·rename_i h1
   split at h
   ·rename_i h2;exact absurd h h2
   ·rename_i h2
    split at h
    ·omega
    ·rename_i h3
     split at h
     ·omega
     ·rename_i h4
      split at h
      ·omega
      ·rename_i h5
       refine ⟨by omega,fun x hx=>?_,by simpa using h3,fun r hr hb=>h4 ⟨r,hr,hb⟩,fun x hx hf e he hp=>h5 ⟨x,hx,hf,e,he,hp⟩⟩
       have h2:firstI (l.map (oneI · l.length))=0:=by simpa using h2
       rw[firstI_zero] at h2
       exact h2 _ (List.mem_map.2 ⟨x,hx,rfl⟩)
 ·intro h
  unfold checkI
  rw[if_neg (by have:=h.len;omega),if_neg,if_neg (by rw[h.void];simp),if_neg (fun ⟨r,hr,hb⟩=>h.bad r hr hb),if_neg (fun ⟨x,hx,hf,e,he,hp⟩=>h.flex x hx hf e he hp)]
  intro hc
  apply hc
  rw[firstI_zero]
  intro y hy
  obtain ⟨x,hx,rfl⟩:=List.mem_map.1 hy
  exact h.one x hx
theorem one_more {x:Md} {n:Nat} (h:oneI x n=0):oneI x (n+1)=0:=by
 obtain ⟨h1,h2,h3,h4⟩:=oneI_zero h
 unfold oneI
 rw[if_neg (by simp[h1]),if_neg,if_neg,if_neg (by rw[h4];simp)]
 ·simp only[List.any_eq_true,not_exists,not_and]
  intro s hs
  simp[h3 s hs]
 ·simp only[List.any_eq_true,not_exists,not_and]
  intro e he
  have:=h2 e he
  simp[outB]
  omega
theorem no_into {l:List Md} {x:Md} (hg:goodT l) (hx: ∀e∈x.elems,0≤e∧e<(l.length:Int)) {p:Md→Bool} {a:Nat}: ¬stepR (l++ [x]) p a l.length:=by
 rintro ⟨y,h1,_,h3⟩
 have hy:y∈l++ [x]:=List.mem_of_getElem? h1
 rcases List.mem_append.1 hy with h|h
 ·have:=hg y h _ h3;omega
 ·simp at h;subst h;have:=hx _ h3;omega
theorem flex_app {l:List Md} {x:Md} (hg:goodT l) {a:Nat} (ha:a<l.length) (h:FlexP (l++ [x]) a):FlexP l a:=by
 induction h with
 |flex h1 h2 h3=>
  rw[List.getElem?_append_left ha] at h1
  exact .flex h1 h2 h3
 |step h1 h2 ih=>
  obtain ⟨y,g1,g2⟩:=h1
  rw[List.getElem?_append_left ha] at g1
  have hb:=hg y (List.mem_of_getElem? g1) _ g2.2
  exact .step ⟨y,g1,g2⟩ (ih (by omega))
end Go.Proofs.YtlniliigcnedmaaGreatDoor
namespace Go.Proofs.YtlniliigcnedmaaGreatDoor
open Go Ax
set_option maxRecDepth 100000
def OwM (lo:Nat) (m:AMem) (c:List AVal) (x:Md):Prop:= ∃e nm,c= [.int .i64 x.kind,.int .i64 x.size,e,nm,.int .i64 x.dims,.bool x.flex]∧OwL (AVal.int .i64) lo m 3 e x.elems∧OwL AVal.str lo m 9 nm x.names
theorem OwM.mode {lo:Nat} {m:AMem} {c:List AVal} {x:Md} (h:OwM lo m c x):RMode m c x:=by
 obtain ⟨e,nm,rfl,h1,h2⟩:=h
 exact ⟨e,nm,rfl,h1.ints,Ow.sl h2⟩
theorem OwM.mono {lo:Nat} {m m':AMem} {c:List AVal} {x:Md} (h:OwM lo m c x) (hm:m<+:m'):OwM lo m' c x:=by
 obtain ⟨e,nm,rfl,h1,h2⟩:=h
 exact ⟨e,nm,rfl,h1.mono hm,h2.mono hm⟩
theorem OwM.lo {lo lo':Nat} {m:AMem} {c:List AVal} {x:Md} (h:OwM lo m c x) (hl:lo'≤lo):OwM lo' m c x:=by
 obtain ⟨e,nm,rfl,h1,h2⟩:=h
 exact ⟨e,nm,rfl,h1.lo' hl,h2.lo' hl⟩
theorem OwM.ch {S:Nat→Prop} {lo:Nat} {m m':AMem} {c:List AVal} {x:Md} (h:OwM lo m c x) (hc:Ch S m m') (hs: ∀b,S b→b<lo):OwM lo m' c x:=by
 obtain ⟨e,nm,rfl,h1,h2⟩:=h
 exact ⟨e,nm,rfl,h1.ch hc fun b hb hS=>by have:=(h1.blk_lo hb).1;have:=hs b hS;omega,h2.ch hc fun b hb hS=>by have:=(h2.blk_lo hb).1;have:=hs b hS;omega⟩
end Go.Proofs.YtlniliigcnedmaaGreatDoor
namespace Go.Proofs.YtlniliigcnedmaaGreatDoor.Ax
open Go Go.ChangeShapes Go.WideShapes Go.ChangeAt Go.RowKit
set_option maxRecDepth 100000
def RoMem (m:AMem):Prop:= ∀(b:Nat) blk,m[b]? =some blk→blk.isOwn=false
theorem Sim.nil (w:World):Sim [] [] w:=⟨rfl,by simp,by simp,by simp⟩
theorem RoMem.nil:RoMem []:=by intro b blk h;simp at h
theorem Sim.ro {ρ:List RB} {m:AMem} {w:World} (h:Sim ρ m w) (hm:RoMem m) {a:RB} (cs:List AVal) (ha:a.block<w.heap.size) (hc: ∀(i:Nat) x,cs[i]? =some x→ ∃v,w.cell? (at_ a i)=some v∧VR ρ x v):
  Sim (ρ++ [a]) (m++ [.ro cs]) w∧RoMem (m++ [.ro cs]):=by
 have hp:ρ<+:ρ++ [a]:=List.prefix_append _ _
 have hr:RoMem (m++ [.ro cs]):=by
  intro b blk hb
  rcases Nat.lt_or_ge b m.length with hlt|hge
  ·rw[List.getElem?_append_left hlt] at hb;exact hm b blk hb
  ·rw[List.getElem?_append_right hge] at hb
   cases hk:b-m.length with
   |zero=>rw[hk] at hb;simp at hb;subst hb;rfl
   |succ k=>rw[hk] at hb;simp at hb
 refine ⟨⟨by simp[h.len],?_,?_,?_⟩,hr⟩
 ·intro b blk a' hb ha'
  rcases Nat.lt_or_ge b m.length with hlt|hge
  ·rw[List.getElem?_append_left hlt] at hb
   rw[List.getElem?_append_left (by rw[h.len];exact hlt)] at ha'
   exact (h.ok b blk a' hb ha').mono hp
  ·rw[List.getElem?_append_right hge] at hb
   rw[List.getElem?_append_right (by rw[h.len];exact hge),h.len] at ha'
   cases hk:b-m.length with
   |zero=>
    rw[hk] at hb ha'
    simp only[List.getElem?_cons_zero,Option.some.injEq] at hb ha'
    subst hb ha'
    intro i x hx
    obtain ⟨v,h1,h2⟩:=hc i x hx
    exact ⟨v,h1,VR.mono hp x v h2⟩
   |succ k=>rw[hk] at hb;simp at hb
 ·intro b b' blk blk' a1 a2 _ hb _ _ _ ho
  rw[hr b blk hb] at ho
  simp at ho
 ·intro b a' ha'
  rcases Nat.lt_or_ge b ρ.length with hlt|hge
  ·rw[List.getElem?_append_left hlt] at ha';exact h.bound b a' ha'
  ·rw[List.getElem?_append_right hge] at ha'
   cases hk:b-ρ.length with
   |zero=>rw[hk] at ha';simp at ha';subst ha';exact ha
   |succ k=>rw[hk] at ha';simp at ha'
theorem slice_in {ρ:List RB} {m:AMem} {w:World} (h:Sim ρ m w) (hm:RoMem m) (hne:0<w.heap.size) {a:Addr} {len cap esz:Nat} (hlc:len≤cap)
  (hcell:cap≠0→ ∃v,w.cell? a=some v) {xs:List AVal} (hx:xs.length=len*esz) (hc: ∀(i:Nat) x,xs[i]? =some x→ ∃v,w.cell? (a.add i)=some v∧VR ρ x v):
  ∃ρ' m' s,ρ<+:ρ'∧m<+:m'∧RoMem m'∧Sim ρ' m' w∧VR ρ' s (.slice (some a) len cap)∧Sl m' esz s len xs:=by
 by_cases hcap:cap=0
 ·subst hcap
  obtain rfl:len=0:=by omega
  obtain rfl:xs= []:=List.eq_nil_of_length_eq_zero (by simpa using hx)
  obtain ⟨h1,h2⟩:=h.ro hm (a:=⟨0,0,0,0⟩) [] hne (by simp)
  refine ⟨_,_,.slice m.length 0 0 0 none,List.prefix_append _ _,List.prefix_append _ _,h2,h1,?_,.inr ⟨_,_,_,_,rfl,⟨by omega,.inl rfl⟩,.inl ⟨rfl,rfl⟩⟩⟩
  simp only[VR]
  exact ⟨⟨0,0,0,0⟩,a,0,rfl,by rw[←h.len];simp,by simp,by omega,by simp,by omega,by simp⟩
 ·obtain ⟨v0,hv0⟩:=hcell hcap
  have hs:=World.cell?_spot hv0
  obtain ⟨b,off,sp⟩:=a
  simp only at hs
  subst hs
  have hb:b<w.heap.size:=by
   rcases Nat.lt_or_ge b w.heap.size with hlt|hge
   ·exact hlt
   ·unfold World.cell? at hv0
    simp only[Array.getElem?_eq_none hge] at hv0
    simp at hv0
  obtain ⟨h1,h2⟩:=h.ro hm (a:=⟨b,off,0,0⟩) xs hb fun i x hx=>by
   obtain ⟨v,h1,h2⟩:=hc i x hx
   rw[Go.WideShapes.add_plain] at h1
   exact ⟨v,h1,h2⟩
  refine ⟨_,_,.slice m.length 0 len cap none,List.prefix_append _ _,List.prefix_append _ _,h2,h1,?_,.inr ⟨_,_,_,_,rfl,⟨hlc,.inl rfl⟩,?_⟩⟩
  ·simp only[VR]
   exact ⟨⟨b,off,0,0⟩,_,cap,rfl,by rw[←h.len];simp,by simp,hlc,by simp,by omega,by simp⟩
  ·by_cases hl:len=0
   ·subst hl
    exact .inl ⟨rfl,List.eq_nil_of_length_eq_zero (by simpa using hx)⟩
   ·refine .inr ⟨hl,xs,by simp[readB,ABlk.cells],?_⟩
    have h0:0+len*esz≤xs.length:=by omega
    unfold readN
    rw[if_pos h0,List.drop_zero,List.take_of_length_le (by omega)]
def Enters (w:World) (vs:List Value) (Rep:AMem→List AVal→Prop):Prop:=
 ∀ρ m,Sim ρ m w→RoMem m→ ∃ρ' m' xs,ρ<+:ρ'∧m<+:m'∧RoMem m'∧Sim ρ' m' w∧VRs ρ' xs vs∧Rep m' xs
variable {H:Type} {enc:TypeId×Value→H} {P:Program} {w:World} {base:Nat} {spare:Nat→Bool} {held:Bool}
theorem enters_ints (hne:0<w.heap.size) {t e:TypeId} {fuel:Nat} {cs:List Value} {x:DataW H×List MemPlace} (ht:P.underlying t=some (.slice e)) (he:P.underlying e=some (.int .i64)) (hc:P.cellsOf e=1)
  (h:DataW.trod enc P w base (fun _=>true) held fuel t cs=some x):
  ∃zs:List Int,Enters w cs (fun m xs=> ∃s,xs= [s]∧RInts m s zs)∧(P.bytesOf e=8→ ∀B,(x.1.weights P t).all (· ≤B)=true→zs.length≤B):=by
 rcases open_ints ht he hc h with ⟨rfl,rfl⟩|⟨a,len,cap,zs,rfl,_,hlc,_,hz,rfl,hcell,_⟩
 ·exact ⟨[],fun ρ m hs hm=>⟨ρ,m,[.nilslice],List.prefix_refl _,List.prefix_refl _,hm,hs,by simp[VRs,VR],.nilslice,rfl,Sl.nil⟩,by simp⟩
 ·simp only[if_true] at hz
  refine ⟨zs.take len,fun ρ m hs hm=>?_,?_⟩
  ·obtain ⟨ρ',m',s,h1,h2,h3,h4,h5,h6⟩:=slice_in (esz:=1) hs hm hne hlc (fun hcap=>⟨_,by have:=hcell 0 (by omega);simpa[Addr.add] using this⟩) (xs:=(zs.take len).map fun x=> .int .i64 x) (by simp;omega)
    (fun i x hx=>by
     simp only[List.getElem?_map,Option.map_eq_some_iff] at hx
     obtain ⟨z,hz',rfl⟩:=hx
     have hi:i<zs.length:=by
      have:=(List.getElem?_eq_some_iff.1 hz').1
      simp at this;omega
     have hg:zs[i]? =some z:=by
      rw[List.getElem?_take] at hz'
      split at hz'
      ·exact hz'
      ·simp at hz'
     exact ⟨_,hcell i hi,by simp[VR,List.getD,hg]⟩)
   refine ⟨ρ',m',[s],h1,h2,h3,h4,by simp only[VRs];exact ⟨_,_,rfl,h5,rfl⟩,s,rfl,?_⟩
   have hl:(zs.take len).length=len:=by simp;omega
   unfold RInts
   rw[hl]
   exact h6
  ·intro hb B hB
   simp only[DataW.weights,ht,List.all_cons,Bool.and_eq_true,decide_eq_true_eq] at hB
   have:=hB.1
   rw[hb] at this
   simp[lits] at this ⊢
   omega
theorem enters_strs (hne:0<w.heap.size) {t e:TypeId} {fuel:Nat} {cs:List Value} {x:DataW H×List MemPlace} (ht:P.underlying t=some (.slice e)) (he:P.underlying e=some .string) (hc:P.cellsOf e=1)
  (h:DataW.trod enc P w base (fun _=>true) held fuel t cs=some x):
  ∃zs:List ByteArray,Enters w cs (fun m xs=> ∃s,xs= [s]∧RStrs m s zs)∧(P.bytesOf e=16→ ∀B,(x.1.weights P t).all (· ≤B)=true→zs.length≤B∧ ∀z∈zs,z.size≤B):=by
 rcases open_strings ht he hc h with ⟨rfl,rfl⟩|⟨a,len,cap,zs,rfl,_,hlc,_,hz,rfl,hcell,_⟩
 ·exact ⟨[],fun ρ m hs hm=>⟨ρ,m,[.nilslice],List.prefix_refl _,List.prefix_refl _,hm,hs,by simp[VRs,VR],.nilslice,rfl,Sl.nil⟩,by simp⟩
 ·simp only[if_true] at hz
  refine ⟨zs.take len,fun ρ m hs hm=>?_,?_⟩
  ·obtain ⟨ρ',m',s,h1,h2,h3,h4,h5,h6⟩:=slice_in (esz:=1) hs hm hne hlc (fun hcap=>⟨_,by have:=hcell 0 (by omega);simpa[Addr.add] using this⟩) (xs:=(zs.take len).map fun x=> .str x) (by simp;omega)
    (fun i x hx=>by
     simp only[List.getElem?_map,Option.map_eq_some_iff] at hx
     obtain ⟨z,hz',rfl⟩:=hx
     have hi:i<zs.length:=by
      have:=(List.getElem?_eq_some_iff.1 hz').1
      simp at this;omega
     have hg:zs[i]? =some z:=by
      rw[List.getElem?_take] at hz'
      split at hz'
      ·exact hz'
      ·simp at hz'
     exact ⟨_,hcell i hi,by simp[VR,List.getD,hg]⟩)
   refine ⟨ρ',m',[s],h1,h2,h3,h4,by simp only[VRs];exact ⟨_,_,rfl,h5,rfl⟩,s,rfl,?_⟩
   have hl:(zs.take len).length=len:=by simp;omega
   unfold RStrs
   rw[hl]
   exact h6
  ·intro hb B hB
   simp only[DataW.weights,ht,List.all_cons,Bool.and_eq_true,decide_eq_true_eq,List.all_append] at hB
   obtain ⟨h1,h2,_⟩:=hB
   rw[hb] at h1
   refine ⟨by simp[strs] at h1 ⊢;omega,fun z hz'=>?_⟩
   have key: ∀l:List ByteArray,(DataW.weightsAll (H:=H) P e (strs l)).all (· ≤B)=true→ ∀z∈l,z.size≤B:=by
    intro l
    induction l with
    |nil=>simp
    |cons y ys ih=>
     intro hl z hz
     simp only[strs,List.map_cons,DataW.weightsAll,DataW.weights,List.cons_append,List.nil_append,List.all_cons,Bool.and_eq_true,decide_eq_true_eq] at hl
     rcases List.mem_cons.1 hz with rfl|hz
     ·have:=hl.1;simpa using this
     ·exact ih (by simpa[strs] using hl.2) z hz
   exact key _ h2 z hz'
structure ModeT (P:Program) where
 tT:TypeId
 tM:TypeId
 tI:TypeId
 eI:TypeId
 tS:TypeId
 eS:TypeId
 k0:TypeId
 k1:TypeId
 k4:TypeId
 k5:TypeId
 fs:Array Field
 hT:P.underlying tT=some (.slice tM)
 hM:P.underlying tM=some (.struct fs)
 hI:P.underlying tI=some (.slice eI)
 hi:P.underlying eI=some (.int .i64)
 hS:P.underlying tS=some (.slice eS)
 hs:P.underlying eS=some .string
 h0:P.underlying k0=some (.int .i64)
 h1:P.underlying k1=some (.int .i64)
 h4:P.underlying k4=some (.int .i64)
 h5:P.underlying k5=some .bool
 cM:P.cellsOf tM=6
 ci:P.cellsOf eI=1
 cs:P.cellsOf eS=1
 c0:P.cellsOf k0=1
 c1:P.cellsOf k1=1
 cI:P.cellsOf tI=1
 cS:P.cellsOf tS=1
 c4:P.cellsOf k4=1
 c5:P.cellsOf k5=1
 bi:P.bytesOf eI=8
 bs:P.bytesOf eS=16
 bM:1≤P.bytesOf tM
 sz:fs.size=6
 f0:(fs[0]?).map (fun f=>(f.type,f.offset))=some (k0,0)
 f1:(fs[1]?).map (fun f=>(f.type,f.offset))=some (k1,1)
 f2:(fs[2]?).map (fun f=>(f.type,f.offset))=some (tI,2)
 f3:(fs[3]?).map (fun f=>(f.type,f.offset))=some (tS,3)
 f4:(fs[4]?).map (fun f=>(f.type,f.offset))=some (k4,4)
 f5:(fs[5]?).map (fun f=>(f.type,f.offset))=some (k5,5)
structure MdB (B:Nat) (x:Md):Prop where
 elems:x.elems.length≤B
 names:x.names.length≤B
 each: ∀z∈x.names,z.size≤B
theorem field_of {fs:Array Field} {i:Nat} {t:TypeId} {o:Nat} (h:(fs[i]?).map (fun f=>(f.type,f.offset))=some (t,o)): ∃f,fs[i]? =some f∧f.type=t∧f.offset=o:=by
 cases hf:fs[i]? with
 |none=>rw[hf] at h;simp at h
 |some f=>rw[hf] at h;simp at h;exact ⟨f,rfl,h.1,h.2⟩
theorem weights_parts {e:TypeId} {fs:Array Field} (ht:P.underlying e=some (.struct fs)) {xs:List (DataW H×List MemPlace)} {i:Nat} {f:Field} {y:DataW H×List MemPlace} (hf:fs[i]? =some f) (hy:xs[i]? =some y) {B:Nat}
  (h:((DataW.agg (xs.map (·.1))).weights P e).all (· ≤B)=true):(y.1.weights P f.type).all (· ≤B)=true:=by
 simp only[DataW.weights,ht] at h
 rw[List.all_eq_true] at h ⊢
 intro n hn
 exact h n (DataW.weights_mem_each (j:=i) (t:=f.type) (d:=y.1) (by simp[hf]) (by simp[hy]) n hn)
theorem enters_mode (hne:0<w.heap.size) (T:ModeT P) {fuel:Nat} {cs:List Value} {x:DataW H×List MemPlace} (h:DataW.trod enc P w base (fun _=>true) held fuel T.tM cs=some x):
  ∃md:Md,Enters w cs (fun m xs=>RMode m xs md)∧(∀B,(x.1.weights P T.tM).all (· ≤B)=true→MdB B md):=by
 obtain ⟨xs,n,_,rfl,hl,hxl,hall⟩:=DataW.trod_struct T.hM h
 rw[T.cM] at hl
 rw[T.sz] at hxl
 obtain ⟨c0,c1,c2,c3,c4,c5,rfl⟩: ∃c0 c1 c2 c3 c4 c5,cs= [c0,c1,c2,c3,c4,c5]:=by
  match cs,hl with
  | [c0,c1,c2,c3,c4,c5],_=>exact ⟨_,_,_,_,_,_,rfl⟩
 obtain ⟨x0,x1,x2,x3,x4,x5,rfl⟩: ∃c0 c1 c2 c3 c4 c5,xs= [c0,c1,c2,c3,c4,c5]:=by
  match xs,hxl with
  | [c0,c1,c2,c3,c4,c5],_=>exact ⟨_,_,_,_,_,_,rfl⟩
 obtain ⟨g0,a0,t0,o0⟩:=field_of T.f0
 obtain ⟨g1,a1,t1,o1⟩:=field_of T.f1
 obtain ⟨g2,a2,t2,o2⟩:=field_of T.f2
 obtain ⟨g3,a3,t3,o3⟩:=field_of T.f3
 obtain ⟨g4,a4,t4,o4⟩:=field_of T.f4
 obtain ⟨g5,a5,t5,o5⟩:=field_of T.f5
 have e0:=hall 0 g0 a0
 have e1:=hall 1 g1 a1
 have e2:=hall 2 g2 a2
 have e3:=hall 3 g3 a3
 have e4:=hall 4 g4 a4
 have e5:=hall 5 g5 a5
 rw[t0,o0,T.c0] at e0
 rw[t1,o1,T.c1] at e1
 rw[t2,o2,T.cI] at e2
 rw[t3,o3,T.cS] at e3
 rw[t4,o4,T.c4] at e4
 rw[t5,o5,T.c5] at e5
 simp only[List.drop_zero,List.drop_succ_cons,List.take_succ_cons,List.take_zero,List.getElem?_cons_zero,List.getElem?_cons_succ] at e0 e1 e2 e3 e4 e5
 obtain ⟨n0,q0,rfl,_⟩:=DataW.trod_int T.h0 e0
 obtain ⟨n1,q1,rfl,_⟩:=DataW.trod_int T.h1 e1
 obtain ⟨n4,q4,rfl,_⟩:=DataW.trod_int T.h4 e4
 obtain ⟨n5,q5,rfl⟩:=DataW.trod_bool T.h5 e5
 simp only[List.cons.injEq,and_true] at q0 q1 q4 q5
 subst q0 q1 q4 q5
 obtain ⟨el,hel,hel'⟩:=enters_ints hne T.hI T.hi T.ci e2
 obtain ⟨nm,hnm,hnm'⟩:=enters_strs hne T.hS T.hs T.cs e3
 refine ⟨⟨n0,n1,el,nm,n4,n5⟩,fun ρ m hs hm=>?_,fun B hB=>?_⟩
 ·obtain ⟨ρ1,m1,ys,h1,h2,h3,h4,h5,s,rfl,h6⟩:=hel ρ m hs hm
  obtain ⟨ρ2,m2,ys,k1,k2,k3,k4,k5,s',rfl,k6⟩:=hnm ρ1 m1 h4 h3
  simp only[VRs] at h5 k5
  obtain ⟨_,_,hh,h5,rfl⟩:=h5
  obtain ⟨_,_,hk,k5,rfl⟩:=k5
  simp only[List.cons.injEq,and_true] at hh hk
  subst hh hk
  refine ⟨ρ2,m2,[.int .i64 n0,.int .i64 n1,s,s',.int .i64 n4,.bool n5],h1.trans k1,h2.trans k2,k3,k4,?_,s,s',rfl,h6.mono k2,k6⟩
  simp only[VRs,VR]
  exact ⟨_,_,rfl,rfl,_,_,rfl,rfl,_,_,rfl,VR.mono k1 _ _ h5,_,_,rfl,k5,_,_,rfl,rfl,_,_,rfl,rfl,rfl⟩
 ·have w2:=weights_parts (i:=2) T.hM a2 (y:=x2) (by simp) hB
  have w3:=weights_parts (i:=3) T.hM a3 (y:=x3) (by simp) hB
  rw[t2] at w2
  rw[t3] at w3
  obtain ⟨p1,p2⟩:=hnm' T.bs B w3
  exact ⟨hel' T.bi B w2,p1,p2⟩
theorem weightsAll_mem {e:TypeId} {B:Nat}: ∀{l:List (DataW H)},(DataW.weightsAll P e l).all (· ≤B)=true→ ∀d∈l,(d.weights P e).all (· ≤B)=true
 | [],_,d,hd=>by simp at hd
 |y::ys,h,d,hd=>by
  simp only[DataW.weightsAll,List.all_append,Bool.and_eq_true] at h
  rcases List.mem_cons.1 hd with rfl|hd
  ·exact h.1
  ·exact weightsAll_mem h.2 d hd
theorem enters_tab (T:ModeT P) {fuel:Nat} {cs:List Value} (hne: ∀a len cap,cs= [.slice (some a) len cap]→0<w.heap.size) {x:DataW H×List MemPlace} (h:DataW.trod enc P w base (fun _=>true) held fuel T.tT cs=some x):
  ∃l:List Md,Enters w cs (fun m xs=> ∃s,xs= [s]∧RTab m s l)∧(∀B,(x.1.weights P T.tT).all (· ≤B)=true→l.length≤B∧ ∀md∈l,MdB B md):=by
 rcases Go.Deep.open_slice T.hT h with ⟨rfl,rfl⟩|⟨a,len,cap,mm,n,D,Pl,rfl,_,hlc,_,hmm,rfl,hel⟩
 ·exact ⟨[],fun ρ m hs hm=>⟨ρ,m,[.nilslice],List.prefix_refl _,List.prefix_refl _,hm,hs,by simp[VRs,VR],.nilslice,rfl,[],Sl.nil,by simp⟩,by simp⟩
 ·replace hne:=hne _ _ _ rfl
  simp only[if_true] at hmm
  subst hmm
  rw[T.cM] at hel
  have hmd: ∀i,i<len→ ∃(cs':List Value) (md:Md),w.cells? base (a.add (i*6)) 6=some cs'∧Enters w cs' (fun m xs=>RMode m xs md)∧(∀B,((D i).weights P T.tM).all (· ≤B)=true→MdB B md):=by
   intro i hi
   obtain ⟨cs',h1,h2⟩:=hel i (by omega)
   obtain ⟨md,h3,h4⟩:=enters_mode hne T h2
   exact ⟨cs',md,h1,h3,h4⟩
  have hl: ∃l:List Md,l.length=len∧ ∀(i:Nat) md,l[i]? =some md→ ∃(cs':List Value),w.cells? base (a.add (i*6)) 6=some cs'∧Enters w cs' (fun m xs=>RMode m xs md)∧(∀B,((D i).weights P T.tM).all (· ≤B)=true→MdB B md):=by
   have: ∀k,k≤len→ ∃l:List Md,l.length=k∧ ∀(i:Nat) md,l[i]? =some md→ ∃(cs':List Value),w.cells? base (a.add (i*6)) 6=some cs'∧Enters w cs' (fun m xs=>RMode m xs md)∧(∀B,((D i).weights P T.tM).all (· ≤B)=true→MdB B md):=by
    intro k
    induction k with
    |zero=>exact fun _=>⟨[],rfl,by simp⟩
    |succ k ih=>
     intro hk
     obtain ⟨l,h1,h2⟩:=ih (by omega)
     obtain ⟨cs',md,h3,h4⟩:=hmd k (by omega)
     refine ⟨l++ [md],by simp[h1],fun i md' hi=>?_⟩
     rcases Nat.lt_or_ge i l.length with hlt|hge
     ·rw[List.getElem?_append_left hlt] at hi;exact h2 i md' hi
     ·rw[List.getElem?_append_right hge] at hi
      cases hj:i-l.length with
      |zero=>
       rw[hj] at hi
       simp only[List.getElem?_cons_zero,Option.some.injEq] at hi
       subst hi
       obtain rfl:i=k:=by omega
       exact ⟨cs',h3,h4⟩
      |succ j=>rw[hj] at hi;simp at hi
   exact this len (Nat.le_refl _)
  obtain ⟨l,hlen,hl⟩:=hl
  refine ⟨l,fun ρ m hs hm=>?_,fun B hB=>?_⟩
  ·have key: ∀k,k≤len→ ∃(ρ':List RB) (m':AMem) (xs:List AVal),ρ<+:ρ'∧m<+:m'∧RoMem m'∧Sim ρ' m' w∧xs.length=k*6∧(∀(i:Nat) x,xs[i]? =some x→ ∃v,w.cell? (a.add i)=some v∧VR ρ' x v)∧
     ∀(i:Nat) md,i<k→l[i]? =some md→RMode m' ((xs.drop (i*6)).take 6) md:=by
    intro k
    induction k with
    |zero=>exact fun _=>⟨ρ,m,[],List.prefix_refl _,List.prefix_refl _,hm,hs,rfl,by simp,by omega⟩
    |succ k ih=>
     intro hk
     obtain ⟨ρ1,m1,xs,h1,h2,h3,h4,h5,h6,h7⟩:=ih (by omega)
     obtain ⟨md,hmdk⟩: ∃md,l[k]? =some md:=⟨l[k],List.getElem?_eq_getElem (by omega)⟩
     obtain ⟨cs',c1,c2,_⟩:=hl k md hmdk
     obtain ⟨ρ2,m2,ys,g1,g2,g3,g4,g5,g6⟩:=c2 ρ1 m1 h4 h3
     obtain ⟨_,c3,c4⟩:=World.cells?_some c1
     have hys:ys.length=6:=by rw[←g5.length];exact c3
     refine ⟨ρ2,m2,xs++ys,h1.trans g1,h2.trans g2,g3,g4,by simp[h5,hys];omega,fun i x hx=>?_,fun i md' hi hmd'=>?_⟩
     ·rcases Nat.lt_or_ge i xs.length with hlt|hge
      ·rw[List.getElem?_append_left hlt] at hx
       obtain ⟨v,hv,hr⟩:=h6 i x hx
       exact ⟨v,hv,VR.mono g1 x v hr⟩
      ·rw[List.getElem?_append_right hge] at hx
       have hj:i-xs.length<6:=by rw[←hys];exact (List.getElem?_eq_some_iff.1 hx).1
       obtain ⟨v,hv,hr⟩:=g5.get _ x hx
       refine ⟨v,?_,hr⟩
       have:=c4 (i-xs.length) hj
       rw[Addr.add_add,hv] at this
       rw[←this]
       congr 2
       omega
     ·rcases Nat.lt_or_ge i k with hlt|hge
      ·have:=(h7 i md' hlt hmd').mono g2
       rw[List.drop_append_of_le_length (by omega),List.take_append_of_le_length (by simp;omega)]
       exact this
      ·obtain rfl:i=k:=by omega
       rw[hmdk] at hmd'
       simp only[Option.some.injEq] at hmd'
       subst hmd'
       rw[List.drop_append,h5,Nat.sub_self,List.drop_eq_nil_of_le (by omega)]
       simp only[List.nil_append,List.drop_zero]
       rw[List.take_of_length_le (by omega)]
       exact g6
   obtain ⟨ρ1,m1,xs,h1,h2,h3,h4,h5,h6,h7⟩:=key len (Nat.le_refl _)
   obtain ⟨ρ',m',s,g1,g2,g3,g4,g5,g6⟩:=slice_in (esz:=6) h4 h3 hne hlc (fun hcap=>by
    obtain ⟨cs',c1,_⟩:=hel 0 (by omega)
    obtain ⟨_,c3,c4⟩:=World.cells?_some c1
    have:=c4 0 (by omega)
    rw[Addr.add_add] at this
    rw[List.getElem?_eq_getElem (by omega)] at this
    exact ⟨_,by simpa[Addr.add] using this⟩) h5 h6
   refine ⟨ρ',m',[s],h1.trans g1,h2.trans g2,g3,g4,by simp only[VRs];exact ⟨_,_,rfl,g5,rfl⟩,s,rfl,xs,by rw[hlen];exact g6,fun i md hi=>(h7 i md (by have:=(List.getElem?_eq_some_iff.1 hi).1;omega) hi).mono g2⟩
  ·simp only[DataW.weights,T.hT,List.all_cons,Bool.and_eq_true,decide_eq_true_eq,List.all_append] at hB
   obtain ⟨b1,b2,_⟩:=hB
   refine ⟨?_,fun md hmd=>?_⟩
   ·have:=T.bM
    simp only[List.length_map,List.length_range] at b1
    have h3:len≤(len+(mm-len))*P.bytesOf T.tM:=by
     calc len≤(len+(mm-len))*1:=by omega
      _≤_:=Nat.mul_le_mul_left _ this
    omega
   ·obtain ⟨i,hi,rfl⟩:=List.getElem_of_mem hmd
    obtain ⟨cs',_,_,c5⟩:=hl i l[i] (List.getElem?_eq_getElem hi)
    exact c5 B (weightsAll_mem b2 (D i) (List.mem_map.2 ⟨i,by simp;omega,rfl⟩))
theorem below_of_evol {ρ ρ':List RB} {m m':AMem} {w':World} (hm:RoMem m) (h:Evol ρ m w ρ' m' w'):Below w.heap.size w w':=
 ⟨h.os,h.tape,h.output,h.size,fun k hk=>h.frame k hk fun ⟨b,blk,a,hb,ho,_⟩=>by rw[hm b blk hb] at ho;cases ho⟩
theorem heap_pos {r:Reach} {b0:Nat} {t e:TypeId} {a:Addr} {len cap:Nat} (ht:P.underlying t=some (.slice e)) (hval:Value.okWide P w r b0 t (.slice (some a) len cap)):0<w.heap.size:=by
 simp only[Value.okWide,ht,Cell.okWide,Cell.ok,World.has] at hval
 obtain ⟨_,_,_,_,row,cells,h,_⟩:=hval
 unfold World.shape? at h
 rcases Nat.eq_zero_or_pos w.heap.size with h0|h0
 ·rw[Array.getElem?_eq_none (by omega)] at h
  simp at h
 ·exact h0
end Go.Proofs.YtlniliigcnedmaaGreatDoor.Ax
namespace Go.Proofs.YtlniliigcnedmaaGreatDoor
open Go Ax
set_option maxRecDepth 100000
structure Fits (l:List Md):Prop where
 n:l.length≤13
 n12:l.length≤12
 sm: ∀x∈l,smallN x
 h40: ∀x∈l,x.elems.length<2^40∧x.names.length<2^40
end Go.Proofs.YtlniliigcnedmaaGreatDoor
namespace Go.Proofs.YtlniliigcnedmaaGreatDoor
open Go Ax
set_option maxRecDepth 100000
theorem k27 (s t:AVal) (xs:List Int) (m:AMem) (hs:RInts m s xs) (ht:RInts m t xs) (hn:xs.length<2^62):ACalls Tryz.prog 27 [s,t] m fun v m'=>v= .bool true∧m<+:m':=by
 refine w27 ?_
 simp[hs.len,ht.len]
 refine W_loop (fun q a m'=> ∃k:Nat,k+q=xs.length∧a=h27_0 s t (.int .i64 xs.length) (.int .i64 k)∧m<+:m') xs.length ⟨0,by simp⟩ ?_
 rintro q a m1 ⟨k,hk,rfl,hm1⟩
 simp
 refine bbind_dec (fun hkl=>?_) fun hkl=>?_
 ·have hkl:k<xs.length:=by omega
  have hw:=step64 hkl hn
  obtain ⟨q,rfl⟩: ∃q',q=q'+1:=⟨q-1,by omega⟩
  obtain ⟨b1,o1,g1,g2⟩:=(hs.mono hm1).at hkl
  obtain ⟨b2,o2,g3,g4⟩:=(ht.mono hm1).at hkl
  simp
  refine W_drawPR (by simp[maxDst]) rfl rfl ?_
  simp[g1,g2,g3,g4,hw]
  intro m2 hm2
  exact ⟨q,by omega,k+1,by omega,by simp,hm1.trans hm2⟩
 ·simp
  exact hm1
end Go.Proofs.YtlniliigcnedmaaGreatDoor
namespace Go.Proofs.YtlniliigcnedmaaGreatDoor
open Go Ax
set_option maxRecDepth 100000
structure UpTo (f:Nat→Nat) (ms:List Nat) (r:Nat) (zs:List Nat):Prop where
 asc:zs.Pairwise (fun a b=>f a<f b)
 sub: ∀z∈zs,z∈ms∧f z<r
 cov: ∀y∈ms,f y<r→ ∃z∈zs,f z=f y∧z≤y
theorem UpTo.skip {f:Nat→Nat} {ms:List Nat} {r:Nat} {zs:List Nat} (h:UpTo f ms r zs) (hn: ∀y∈ms,f y≠r):UpTo f ms (r+1) zs:=
 ⟨h.asc,fun z hz=>⟨(h.sub z hz).1,by have:=(h.sub z hz).2;omega⟩,fun y hy hl=>h.cov y hy (by have:=hn y hy;omega)⟩
theorem UpTo.take {f:Nat→Nat} {ms:List Nat} {r:Nat} {zs:List Nat} (h:UpTo f ms r zs) {k:Nat} (hk:k∈ms) (hr:f k=r) (hl: ∀y∈ms,f y=r→k≤y):UpTo f ms (r+1) (zs++ [k]):=by
 refine ⟨?_,fun z hz=>?_,fun y hy hlt=>?_⟩
 ·rw[List.pairwise_append]
  refine ⟨h.asc,by simp,fun a ha b hb=>?_⟩
  simp at hb
  subst hb
  have:=(h.sub a ha).2
  omega
 ·rcases List.mem_append.1 hz with hz|hz
  ·exact ⟨(h.sub z hz).1,by have:=(h.sub z hz).2;omega⟩
  ·simp at hz;subst hz;exact ⟨hk,by omega⟩
 ·by_cases he:f y=r
  ·exact ⟨k,by simp,by omega,hl y hy he⟩
  ·obtain ⟨z,h1,h2⟩:=h.cov y hy (by omega)
   exact ⟨z,by simp[h1],h2⟩
end Go.Proofs.YtlniliigcnedmaaGreatDoor
namespace Go.Proofs.YtlniliigcnedmaaGreatDoor
open Go Ax
set_option maxRecDepth 100000
noncomputable def leastI (l:List Md) (p:Nat):Int:=fidx (fun i=>RR l i==RR l p) 0 l.length
end Go.Proofs.YtlniliigcnedmaaGreatDoor
namespace Go.Proofs.YtlniliigcnedmaaGreatDoor
open Go Ax
open Relation
set_option maxRecDepth 100000
theorem OrdG.zero_trans {α:Type} {c:α→α→Int} {D:α→Prop} (h:OrdG c D) {a b d:α} (ha:D a) (hb:D b) (hd:D d) (h1:c a b=0) (h2:c b d=0):c a d=0:=by
 have e1:=h.trans a b d ha hb hd (by omega) (by omega)
 have e2:=h.trans d b a hd hb ha (by rw[(h.zero hb hd).1 h2];omega) (by rw[(h.zero ha hb).1 h1];omega)
 have:=h.anti a d ha hd
 have:=h.anti d a hd ha
 omega
structure Bisim (l:List Md) (E:Nat→Nat→Prop):Prop where
 lt: ∀a b,E a b→a<l.length∧b<l.length
 first: ∀a b,E a b→firstC (mdAt l a) (mdAt l b)=0
 up: ∀a b j,E a b→isU (mdAt l a)=true→IsPart l a j→ ∃j',IsPart l b j'∧E j j'
 down: ∀a b j,E a b→isU (mdAt l b)=true→IsPart l b j→ ∃j',IsPart l a j'∧E j' j
 len: ∀a b,E a b→isU (mdAt l a)=false→(mdAt l a).elems.length=(mdAt l b).elems.length
 el: ∀(a b k:Nat) (e e':Int),E a b→isU (mdAt l a)=false→(mdAt l a).elems[k]? =some e→(mdAt l b).elems[k]? =some e'→E e.toNat e'.toNat
theorem Bisim.R {l:List Md} {E:Nat→Nat→Prop} (h:Bisim l E): ∀d a b,E a b→R l d a=R l d b
 |0,_,_,_=>rfl
 |d+1,a,b,he=>by
  have ih:=h.R d
  obtain ⟨ha,hb⟩:=h.lt a b he
  have hf:=h.first a b he
  have hu:isU (mdAt l a)=isU (mdAt l b):=by unfold isU;rw[firstC_kind hf]
  have hk:keyOf l (Go.Proofs.YtlniliigcnedmaaGreatDoor.R l d) a=keyOf l (Go.Proofs.YtlniliigcnedmaaGreatDoor.R l d) b:=by
   unfold keyOf
   rw[←hu]
   cases hua:isU (mdAt l a)
   ·rw[if_neg (by simp),if_neg (by simp)]
    refine List.ext_getElem? fun k=>?_
    rw[List.getElem?_map,List.getElem?_map]
    have hl:=h.len a b he hua
    by_cases hkl:k<(mdAt l a).elems.length
    ·rw[List.getElem?_eq_getElem hkl,List.getElem?_eq_getElem (by omega)]
     simp only[Option.map_some,Option.some.injEq,Int.natCast_inj]
     exact ih _ _ (h.el a b k _ _ he hua (List.getElem?_eq_getElem hkl) (List.getElem?_eq_getElem (by omega)))
    ·rw[List.getElem?_eq_none (by omega),List.getElem?_eq_none (by omega)]
   ·rw[if_pos rfl,if_pos rfl]
    congr 1
    apply List.filter_congr
    intro v _
    rw[decide_eq_decide]
    constructor
    ·rintro ⟨j,h1,h2⟩
     obtain ⟨j',h3,h4⟩:=h.up a b j he hua h1
     exact ⟨j',h3,by rw[←ih _ _ h4];exact h2⟩
    ·rintro ⟨j,h1,h2⟩
     obtain ⟨j',h3,h4⟩:=h.down a b j he (by rw[←hu];exact hua) h1
     exact ⟨j',h3,by rw[ih _ _ h4];exact h2⟩
  have hc:cmpR l (Go.Proofs.YtlniliigcnedmaaGreatDoor.R l d) d a b=0:=by
   unfold cmpR thenC
   have h0:cmpI (Go.Proofs.YtlniliigcnedmaaGreatDoor.R l d a:Nat) (Go.Proofs.YtlniliigcnedmaaGreatDoor.R l d b:Nat)=0:=cmpI_zero.2 (by rw[ih a b he])
   simp only[h0]
   by_cases hd:d=0
   ·simp[hd,hf]
   ·simp[hd,hk,lexC_refl]
  have h1:=R_lt l d (b:=b) ha
  have h2:=R_lt l d (b:=a) hb
  have h3:=(cmpR_ord l (Go.Proofs.YtlniliigcnedmaaGreatDoor.R l d) d).anti a b trivial trivial
  have h4:=(cmpR_ord l (Go.Proofs.YtlniliigcnedmaaGreatDoor.R l d) d).anti b a trivial trivial
  omega
theorem Bisim.RR {l:List Md} {E:Nat→Nat→Prop} (h:Bisim l E) {a b:Nat} (he:E a b):RR l a=RR l b:=h.R _ a b he
theorem RR_part {l:List Md} (hg:goodT l) {a b j:Nat} (ha:a<l.length) (hb:b<l.length) (h:RR l a=RR l b) (hu:isU (mdAt l a)=true) (hj:IsPart l a j): ∃j',IsPart l b j'∧RR l j=RR l j':=by
 have hk:=RR_key hg ha hb h
 have hub:isU (mdAt l b)=true:=by unfold isU at hu ⊢;rw[←firstC_kind (RR_first ha hb h)];exact hu
 have hr: ∀a,a<l.length→RR l a<l.length:=fun a ha=>R_bound l _ ha
 have k1:=((keyOf_isKey hg hr a).un hu).2 (RR l j:Int)
 have k2:=((keyOf_isKey hg hr b).un hub).2 (RR l j:Int)
 rw[hk] at k1
 obtain ⟨j',h1,h2⟩:=k2.1 (k1.2 ⟨j,hj,rfl⟩)
 exact ⟨j',h1,by omega⟩
theorem RR_elem {l:List Md} (hg:goodT l) {a b:Nat} (ha:a<l.length) (hb:b<l.length) (h:RR l a=RR l b) (hu:isU (mdAt l a)=false):(mdAt l a).elems.length=(mdAt l b).elems.length∧ ∀(k:Nat) (e e':Int),(mdAt l a).elems[k]? =some e→(mdAt l b).elems[k]? =some e'→RR l e.toNat=RR l e'.toNat:=by
 have hk:=RR_key hg ha hb h
 have hub:isU (mdAt l b)=false:=by unfold isU at hu ⊢;rw[←firstC_kind (RR_first ha hb h)];exact hu
 have hr: ∀a,a<l.length→RR l a<l.length:=fun a ha=>R_bound l _ ha
 have k1:=(keyOf_isKey hg hr a).el hu
 have k2:=(keyOf_isKey hg hr b).el hub
 rw[hk,k2] at k1
 refine ⟨by have:=congrArg List.length k1;simpa using this.symm,fun k e e' h1 h2=>?_⟩
 have:=congrArg (·[k]?) k1
 simp only[List.getElem?_map,h1,h2,Option.map_some,Option.some.injEq,Int.natCast_inj] at this
 exact this.symm
section
variable {l:List Md} {zs:List Nat}
theorem RR_app {x:Md} (hg:goodT l) (hg':goodT (l++ [x])) {a b:Nat} (ha:a<l.length) (hb:b<l.length) (h:RR (l++ [x]) a=RR (l++ [x]) b):RR l a=RR l b:=by
 have hl:(l++ [x]).length=l.length+1:=by simp
 have hel: ∀{a k:Nat} {e:Int},a<l.length→(mdAt l a).elems[k]? =some e→e.toNat<l.length:=fun {a k e} ha h=>by
  have:=hg (mdAt l a) (by rw[mdAt_eq ha];exact List.getElem_mem ha) e (List.mem_of_getElem? h)
  omega
 refine Bisim.RR (E:=fun a b=>a<l.length∧b<l.length∧RR (l++ [x]) a=RR (l++ [x]) b) ⟨fun a b h=>⟨h.1,h.2.1⟩,fun a b h=>?_,fun a b j h hu hj=>?_,fun a b j h hu hj=>?_,fun a b h hu=>?_,fun a b k e e' h hu h1 h2=>?_⟩ ⟨ha,hb,h⟩
 ·have:=RR_first (by omega) (by omega) h.2.2
  rwa[mdAt_app h.1,mdAt_app h.2.1] at this
 ·obtain ⟨j',h1,h2⟩:=RR_part hg' (by omega) (by omega) h.2.2 (by rw[mdAt_app h.1];exact hu) ((part_old hg h.1).2 hj)
  have h1:=(part_old hg h.2.1).1 h1
  exact ⟨j',h1,hj.lt hg,h1.lt hg,h2⟩
 ·obtain ⟨j',h1,h2⟩:=RR_part hg' (by omega) (by omega) h.2.2.symm (by rw[mdAt_app h.2.1];exact hu) ((part_old hg h.2.1).2 hj)
  have h1:=(part_old hg h.1).1 h1
  exact ⟨j',h1,h1.lt hg,hj.lt hg,h2.symm⟩
 ·have:=(RR_elem hg' (by omega) (by omega) h.2.2 (by rw[mdAt_app h.1];exact hu)).1
  rwa[mdAt_app h.1,mdAt_app h.2.1] at this
 ·have:=(RR_elem hg' (by omega) (by omega) h.2.2 (by rw[mdAt_app h.1];exact hu)).2 k e e'
  rw[mdAt_app h.1,mdAt_app h.2.1] at this
  exact ⟨hel h.1 h1,hel h.2.1 h2,this h1 h2⟩
end
end Go.Proofs.YtlniliigcnedmaaGreatDoor
namespace Go.Proofs.YtlniliigcnedmaaGreatDoor
open Go Ax
set_option maxRecDepth 100000
def firstOf (ds:List Nat) (k:Nat):Nat:=(fidx (fun i=>(ds.map fun z:Nat=>(z:Int))[i]? ==some (k:Int)) 0 ds.length).toNat
def badAt (l:List Md) (ds:List Nat) (k:Nat):Prop:=isU (mdAt l (firstOf ds k))=true∧(basesOf l (firstOf ds k)).length<2
noncomputable def redOf (l:List Md) (ds:List Nat) (k:Nat):Md:=
 ⟨(mdAt l (firstOf ds k)).kind,(mdAt l (firstOf ds k)).size,(if isU (mdAt l (firstOf ds k))=true then basesOf l (firstOf ds k) else eN (mdAt l (firstOf ds k))).map fun z=>((ds.getD z 0:Nat):Int),(mdAt l (firstOf ds k)).names,(mdAt l (firstOf ds k)).dims,(mdAt l (firstOf ds k)).flex⟩
noncomputable def redT (l:List Md) (ds:List Nat) (kd:Nat):List Md:=(List.range kd).map (redOf l ds)
theorem redT_len (l:List Md) (ds:List Nat) (kd:Nat):(redT l ds kd).length=kd:=by simp[redT]
theorem chunk_setN {cs c:List AVal} {n k i:Nat} (hl:cs.length=n*6) (hc:c.length=6) (hk:k<n):chunk (setN cs (k*6) c) i=if i=k then c else chunk cs i:=by
 have hb:k*6+c.length≤cs.length:=by rw[hl,hc];omega
 refine List.ext_getElem? fun j=>?_
 unfold chunk
 rw[List.getElem?_take]
 split
 ·rename_i hj
  rw[List.getElem?_drop,setN_get _ _ _ _ hb]
  by_cases hik:i=k
  ·subst hik
   rw[if_pos rfl,if_pos (by omega)]
   congr 1;omega
  ·rw[if_neg hik,if_neg (by omega),List.getElem?_take,if_pos hj,List.getElem?_drop]
 ·rename_i hj
  split
  ·rw[List.getElem?_eq_none (by omega)]
  ·rw[List.getElem?_take,if_neg hj]
set_option maxHeartbeats 4000000 in
theorem k28f (s:AVal) (l:List Md) (m:AMem) (hs:RTab m s l) (hsz: ∀x∈l,smallN x) (hnm: ∀x∈l,x.names.length<2^40) (hn:T13 l) (hc:checkI l=0):
  ACalls Tryz.prog 28 [s] m fun v m'=>m<+:m'∧ ∃ds kd,DenseOf l.length (fun a b=>RR l a<RR l b) ds kd∧((∃t n,v= .tuple [t,n,.int .i64 0]∧OwL natI m.length m' 3 n ds∧OwT m.length m' t (redT l ds kd)∧ ∀k,k<kd→ ¬badAt l ds k)∨(v= .tuple [.nilslice,.nilslice,.int .i64 14]∧ ∃k,k<kd∧badAt l ds k)):=by
 refine w28 ?_
 have h60:=hn.len
 have ok:=okT_of hc
 simp
 refine C_of (k52 s l m hs hsz (by omega)) ?_
 rintro _ m1 ⟨rfl,hm1⟩
 simp[hc]
 refine C_of (k44 s l m1 (hs.mono hm1) ok.good hn.t60 hsz ok.h64) ?_
 rintro v2 m2 ⟨hm2,ds,kd,hX,hD⟩
 simp[hX.len]
 have hm02:=hm1.trans hm2
 have hdl:=hD.len
 -- the number of classes
 obtain ⟨I,hI⟩: ∃I:Nat→AFrame→AMem→Prop,∀q a m',I q a m'↔(∃(i n:Nat),i+q=ds.length∧a=h28_0 s v2 (.int .i64 n) v2 (.int .i64 ds.length) (.int .i64 i)∧m'=m2∧n≤kd∧(∀(j:Nat) d,j<i→ds[j]? =some d→d<n)):=⟨_,fun _ _ _=>Iff.rfl⟩
 refine W_loop I ds.length ((hI _ _ _).2 ⟨0,0,by simp,rfl,rfl,by omega,fun _ _ h=>by omega⟩) ?_
 rintro q a m3 hIn
 obtain ⟨i,n,hi,rfl,rfl,hnk,hlt⟩:=(hI _ _ _).1 hIn
 clear hIn
 simp
 refine bbind_dec (fun h=>?_) fun h=>?_
 ·have h:i<ds.length:=by omega
  have hw:=step64 (k:=i) (n:=ds.length) h (by omega)
  obtain ⟨q,rfl⟩: ∃q',q=q'+1:=⟨q-1,by omega⟩
  obtain ⟨b,o,_,h1,h2,_⟩:=hX.at h
  have hds:ds[i]? =some ds[i]:=List.getElem?_eq_getElem h
  have hb:=hD.bound i _ hds
  have hle:=hD.le
  simp only[natI] at h2
  have hw2:IntKind.i64.wrap ((ds[i]:Int)+1)=(ds[i]:Int)+1:=wrap64 (by omega) (by omega)
  simp[h1,h2,hw,hw2]
  by_cases hmx:n<ds[i]+1
  ·have hmx':(n:Int)<ds[i]+1:=by omega
   simp[hmx']
   exact ⟨q,by omega,(hI _ _ _).2 ⟨i+1,ds[i]+1,by omega,by simp,rfl,by omega,fun j d hj hd=>by
    by_cases hji:j=i
    ·subst hji;rw[hds] at hd;cases hd;omega
    ·have:=hlt j d (by omega) hd;omega⟩⟩
  ·have hmx': ¬(n:Int)<ds[i]+1:=by omega
   simp[hmx']
   exact ⟨q,by omega,(hI _ _ _).2 ⟨i+1,n,by omega,by simp,rfl,hnk,fun j d hj hd=>by
    by_cases hji:j=i
    ·subst hji;rw[hds] at hd;cases hd;omega
    ·exact hlt j d (by omega) hd⟩⟩
 ·simp
  have hle:=hD.le
  have hnkd:n=kd:=by
   rcases Nat.lt_or_ge n kd with h|h
   ·obtain ⟨a,ha⟩:=hD.surj n h
    have:=hlt a n (by have:=(List.getElem?_eq_some_iff.1 ha).1;omega) ha
    omega
   ·omega
  have hc1:80*(n:Int)≤281474976710656:=by omega
  have hc2:(n:Int)≤9223372036854775807:=by omega
  simp[hc1,hc2]
  clear hI I
  have hZ0:Ow m3.length (m3++ [.own (List.replicate n [AVal.int .i64 0,AVal.int .i64 0,AVal.nilslice,AVal.nilslice,AVal.int .i64 0,AVal.bool false]).flatten 39 none]) 6 39 (.slice m3.length 0 n n none) n (List.replicate n [AVal.int .i64 0,AVal.int .i64 0,AVal.nilslice,AVal.nilslice,AVal.int .i64 0,AVal.bool false]).flatten:=Ow.new (by simp) (by simp[List.all_flatten])
  have hm34:m3<+:m3++ [.own (List.replicate n [AVal.int .i64 0,AVal.int .i64 0,AVal.nilslice,AVal.nilslice,AVal.int .i64 0,AVal.bool false]).flatten 39 none]:=List.prefix_append _ _
  generalize AVal.slice m3.length 0 n n none=t10 at*
  generalize m3++ [.own (List.replicate n [AVal.int .i64 0,AVal.int .i64 0,AVal.nilslice,AVal.nilslice,AVal.int .i64 0,AVal.bool false]).flatten 39 none]=m4 at*
  have hXi:=ints_of_nat hX
  obtain ⟨I,hI⟩: ∃I:Nat→AFrame→AMem→Prop,∀q a m',I q a m'↔(∃(i:Nat) (cs:List AVal),i+q=n∧a=h28_1 s v2 t10 (.int .i64 n) (.int .i64 i)∧m3<+:m'∧Ow m3.length m' 6 39 t10 n cs∧(∀i',i'<i→ ∀m'',Ch (fun b=>t10.blk=some b∨b<m3.length) m' m''→RMode m'' (chunk cs i') (redOf l ds i'))∧ ∀i',i'<i→ ¬badAt l ds i'):=⟨_,fun _ _ _=>Iff.rfl⟩
  refine W_loop I n ((hI _ _ _).2 ⟨0,_,by simp,rfl,hm34,hZ0,fun _ h=>by omega,fun _ h=>by omega⟩) ?_
  clear hZ0 hm34
  rintro q a m4 hIn
  obtain ⟨k,cs,hk,rfl,hm4,hZ,hrow,hnb⟩:=(hI _ _ _).1 hIn
  clear hIn
  simp
  refine bbind_dec (fun hkn=>?_) fun hkn=>?_
  ·have hw:=step64 (k:=k) (n:=n) hkn (by omega)
   obtain ⟨q,rfl⟩: ∃q',q=q'+1:=⟨q-1,by omega⟩
   simp
   refine C_of (k57 v2 _ k m4 (hXi.mono hm4) (by simp;omega)) ?_
   rintro _ m4 ⟨rfl,rfl⟩
   obtain ⟨j0,hj0⟩:=hD.surj k (by omega)
   obtain ⟨j,_,hjl,hjf,hjp⟩:=fidx_spec (p:=fun i=>(ds.map fun z:Nat=>(z:Int))[i]? ==some (k:Int)) ds.length 0 ((fidx_nonneg _ _ _).2 ⟨j0,by omega,by have:=(List.getElem?_eq_some_iff.1 hj0).1;omega,by simp[hj0]⟩)
   have hfo:firstOf ds k=j:=by unfold firstOf;rw[hjf];rfl
   rw[List.length_map,hjf]
   have hj:j<l.length:=by omega
   have hmj:=mdAt_eq hj
   obtain ⟨bx',ox,c,h4,h5,_,_,h6⟩:=hs.atC hj
   replace h5:=loadE_mono (hm02.trans hm4) h5
   simp[h4,h5]
   have hcl:=h6.all
   rw[store_new _ _ c _ _ 6 hcl.1 rfl hcl.2]
   have hb13:(m4++ [ABlk.own c 39 none])[m4.length]? =some (.own c 39 none):=by simp
   have hb13l:m3.length≤m4.length:=hm4.length_le
   have hm45:m4<+:m4++ [ABlk.own c 39 none]:=List.prefix_append _ _
   have hZb: ∀b,t10.blk=some b→b≠m4.length:=fun b hb e=>by have:=(hZ.blk_lo hb).2;omega
   have hl5:(m4++ [ABlk.own c 39 none]).length=m4.length+1:=by simp
   simp
   generalize m4++ [ABlk.own c 39 none]=m5 at*
   have hZlt: ∀b,t10.blk=some b→b<m4.length:=fun b hb=>(hZ.blk_lo hb).2
   generalize hb13d:m4.length=b13 at*
   obtain ⟨e,nm,c0,c1,c2,c3,c4,c5,he,hnm',rfl⟩:=h6.get
   have hm05:=hm4.trans hm45
   simp[bx (own_read hb13)]
   refine C_of (k58 nm _ m5 (hnm'.mono (hm02.trans hm05)) (hnm _ (List.getElem_mem hj))) ?_
   rintro v6 m6 ⟨hm56,hNm,hv1,hv2⟩
   have hb6:=own_mono hb13 hm56
   obtain ⟨m7,hst,hb7,hch7⟩:=fld_store (i:=3) hb6 (by simp) hv2 hv1
   have hm37:m3<+:m7:=hch7.pre (hm05.trans hm56) fun b hb e=>by omega
   have hZ7:=(Ow.mono (hm45.trans hm56) hZ).ch hch7 fun b hb=>hZb b hb
   simp at hb7
   simp[hst]
   simp[bx (own_read hb7)]
   have hNm7:OwL AVal.str (b13+1) m7 9 v6 l[j].names:=(hNm.ch hch7 fun b hb e=>by have:=(hNm.blk_lo hb).1;omega).lo' (by omega)
   have hch47:Ch (fun c=>c=b13) m4 m7:=(Ch.of_prefix (hm45.trans hm56)).trans hch7
   clear hb6 hb13 hch7 hNm
   have hgj:=ok.good _ (List.getElem_mem hj)
   have hconv: ∀xs:List Int,(∀e∈xs,0≤e∧e<(l.length:Int))→((xs.map Int.toNat).map fun z:Nat=>(z:Int))=xs:=fun xs hx=>by
    rw[List.map_map]
    conv=>rhs;rw[←List.map_id xs]
    refine List.map_congr_left fun e he=>?_
    have:=hx e he
    simp only[Function.comp,id]
    omega
   have hl57:m5.length≤m7.length:=by have:=hm56.length_le;have:=(fld_len hst);omega
   obtain ⟨J,hJ⟩: ∃J:AFrame→AMem→Prop,∀a' m',J a' m'↔(∃(t14:AVal) (ws:List Nat) (c':List AVal),a'.forget [0,6,10,11,13,14,38,39]=mat 89 [(0,s),(6,v2),(10,t10),(11,.int .i64 k),(13,.ptr b13 0),(14,t14),(38,.int .i64 n),(39,.int .i64 k)]∧m3<+:m'∧Ch (fun c=>c=b13) m4 m'∧b13<m'.length∧m'[b13]? =some (.own c' 39 none)∧c'= [AVal.int .i64 l[j].kind,AVal.int .i64 l[j].size,e,v6,AVal.int .i64 l[j].dims,AVal.bool l[j].flex]∧OwL AVal.str (b13+1) m' 9 v6 l[j].names∧ws=(if isU l[j] then basesOf l j else eN l[j])∧ ¬badAt l ds k∧c'.length=6∧c'.all AVal.one=true∧(∀m'',Ch (fun c=>c=b13) m' m''→RInts m'' t14 (ws.map fun z:Nat=>(z:Int)))∧(∀w∈ws,w<l.length)∧ws.length<2^20∧Ow m3.length m' 6 39 t10 n cs):=⟨_,fun _ _=>Iff.rfl⟩
   refine bbind_J J ?_ ?_
   ·have hall7: [AVal.int .i64 l[j].kind,AVal.int .i64 l[j].size,e,v6,AVal.int .i64 l[j].dims,AVal.bool l[j].flex].all AVal.one=true:=by
     have:=(Sl.self he).1
     simp only[List.all_cons,List.all_nil,this,hv1];rfl
    by_cases hu:isU l[j]=true
    ·have hkk:l[j].kind=12:=by simpa[isU] using hu
     simp[hkk]
     refine C_of (k54 s v2 l ds j hj hu m7 (hs.mono (hm02.trans hm37)) (hXi.mono hm37) (by omega) ok.good hn hsz) ?_
     rintro v8 m8 ⟨hm78,O,zs,⟨hO,hOm⟩,hZs,hsb⟩
     have hum:isU (mdAt l j)=true:=by rw[hmj];exact hu
     have hzb:zs=basesOf l j:=once_eq ok.good hD.sameOrd hj hum (fun i=>by rw[hOm];unfold IsBase;rw[if_pos hum]) hsb
     simp[hZs.len]
     refine bbind_dec (fun h2=>?_) fun h2=>?_
     ·simp
      exact ⟨(hm02.trans hm37).trans hm78,ds,kd,hD,k,by omega,by unfold badAt;rw[hfo,hmj];exact ⟨hu,by rw[←hzb];omega⟩⟩
     ·simp
      have hzO:=nodup_le l.length zs (hsb.asc.imp fun hab=>by intro e;subst e;omega) fun z hz=>IsPart.lt ok.good ((hOm z).1 (hsb.sub z hz))
      exact (hJ _ _).2 ⟨_,zs,_,rfl,hm37.trans hm78,hch47.trans (.of_prefix hm78),by have:=hm78.length_le;omega,own_mono hb7 hm78,rfl,hNm7.mono hm78,by rw[if_pos hu];exact hzb,by unfold badAt;rw[hfo,hmj];rintro ⟨_,h⟩;rw[←hzb] at h;omega,rfl,hall7,fun m'' hc=>ints_of_nat (hZs.ch hc fun b hb e=>by have:=(hZs.blk_lo hb).1;omega),fun w hw=>IsPart.lt ok.good ((hOm w).1 (hsb.sub w hw)),by omega,Ow.mono hm78 hZ7⟩
    ·have hkk: ¬l[j].kind=12:=by simpa[isU] using hu
     simp[beqF hkk]
     refine (hJ _ _).2 ⟨e,l[j].elems.map Int.toNat,_,rfl,hm37,hch47,by omega,hb7,rfl,hNm7,by rw[if_neg hu];rfl,by unfold badAt;rw[hfo,hmj];rintro ⟨h,_⟩;exact hu h,rfl,hall7,fun m'' hc=>?_,fun w hw=>?_,by have:=ok.h64 _ (List.getElem_mem hj);simp;omega,hZ7⟩
     ·rw[hconv _ hgj]
      exact he.mono (hm02.trans (hc.pre hm37 fun b hb e=>by omega))
     ·obtain ⟨z,hz,rfl⟩:=List.mem_map.1 hw
      have:=hgj z hz;omega
   ·intro a m8 hJ8
    obtain ⟨t14,ws,c',hfa,hm8,hch48,hbl8,hb8,hce,hNm8,hwse,hnbk,hc6,hca,hws,hwl,hwn,hZ8⟩:=(hJ _ _).1 hJ8
    clear hJ8
    simp[hfa]
    obtain ⟨m9,hst9,hb9,hch9⟩:=fld_store (i:=2) (v:= .nilslice) hb8 (by omega) rfl rfl
    simp[hst9,(hws m8 (.refl _ _)).len]
    have hws0:=(hws m8 (.refl _ _)).len
    have hZ8b: ∀b,t10.blk=some b→b<m8.length:=fun b hb=>(hZ8.blk_lo hb).2
    obtain ⟨I2,hI2⟩: ∃I:Nat→AFrame→AMem→Prop,∀q a m',I q a m'↔(∃(p:Nat) (cs2:List AVal) (t2:AVal) (xs:List Int),p+q=ws.length∧a=h28_2 s v2 t10 (.int .i64 k) (.ptr b13 0) (.int .i64 n) (.int .i64 k) t14 (.int .i64 ws.length) (.int .i64 p)∧Ch (fun c=>c=b13) m8 m'∧m'[b13]? =some (.own cs2 39 none)∧cs2.length=6∧cs2.all AVal.one=true∧cs2[2]? =some t2∧OwL (AVal.int .i64) m8.length m' 3 t2 xs∧xs.length=p∧cs2= [AVal.int .i64 l[j].kind,AVal.int .i64 l[j].size,t2,v6,AVal.int .i64 l[j].dims,AVal.bool l[j].flex]∧xs=(ws.take p).map fun z=>((ds.getD z 0:Nat):Int)):=⟨_,fun _ _ _=>Iff.rfl⟩
    refine W_loop I2 ws.length ((hI2 _ _ _).2 ⟨0,_,.nilslice,[],by simp,rfl,hch9,hb9,by simpa using hc6,?_,List.getElem?_set_self (by omega),OwL.nil,rfl,by rw[hce];rfl,rfl⟩) ?_
    ·exact all_set hca rfl
    rintro q2 a2 m10 hIn
    obtain ⟨p,cs2,t2,xs,hp,rfl,hch10,hb10,hc26,hc2a,hc22,hT,hxl,hc2e,hxe⟩:=(hI2 _ _ _).1 hIn
    clear hIn
    simp
    have hm3':m3<+:m10:=hch10.pre hm8 fun b hb e=>by omega
    refine bbind_dec (fun hpl=>?_) fun hpl=>?_
    ·have hwp:=step64 (k:=p) (n:=ws.length) hpl (by omega)
     obtain ⟨q2,rfl⟩: ∃q',q2=q'+1:=⟨q2-1,by omega⟩
     have hws10:=hws m10 hch10
     obtain ⟨b1,o1,g1,g2⟩:=hws10.at (i:=p) (by simpa using hpl)
     simp at g2
     have hwk:=hwl _ (List.getElem_mem hpl)
     have htk:(ws.take (p+1)).map (fun z=>((ds.getD z 0:Nat):Int))=(ws.take p).map (fun z=>((ds.getD z 0:Nat):Int))++ [((ds.getD ws[p] 0:Nat):Int)]:=by rw[List.take_succ_eq_append_getElem hpl,List.map_append];rfl
     generalize ws[p]=w at*
     obtain ⟨b2,o2,g3,g4⟩:=ranksAt hXi (x:=w) (by omega)
     replace g4:=g4 m10 hm3'
     generalize ds.getD w 0=dw at*
     simp[g1,g2]
     refine W_draw (fun _ _ _=>True) (by simp[maxDst]) ?_
     refine D_pc 0 6 [6,7,8,9] ?_
     simp[bx (own_read hb10),hc22,g3,g4]
     intro _ _
     refine D_A rfl trivial ?_
     simp[fillA,setN]
     intro a78
     refine D_W rfl rfl fun m11 hm11 hf=>?_
     have h6':=hf 6
     simp[upd] at h6'
     have hA:RInts m11 (.slice a78 0 1 1 none) [(dw:Int)]:= .inr ⟨a78,0,1,none,rfl,⟨by simp,.inl rfl⟩,.inr ⟨by simp,_,by simp[readB,h6',ABlk.cells];rfl,by simp[readN]⟩⟩
     have hAs:=ints_append hA
     simp at hAs
     have hch11:=hch10.andThen (.of_prefix (S:=fun _=>False) hm11) fun b hb h=>h.elim
     obtain ⟨t2',m12,happ,hch12,hT12,hbl⟩:=(hT.mono hm11).push hch11.len (by_:=8) (by decide) dw (by omega)
     simp[hAs,happ]
     have hb11:=own_ch (own_mono hb10 hm11) hch12 fun e=>by have:=(hT.blk_lo e).1;omega
     refine D_P rfl trivial ?_
     simp
     refine D_W rfl rfl fun m13 hm13 _=>?_
     have hb13':=own_mono hb11 hm13
     have hself:=(Ow.sl hT12).self
     obtain ⟨m14,hst14,hb14,hch14⟩:=fld_store (i:=2) (v:=t2') hb13' (by omega) hself.2 hself.1
     simp[hst14]
     refine D_end fun m15 hm15 _=>?_
     simp[hwp]
     refine ⟨q2,by omega,(hI2 _ _ _).2 ⟨p+1,cs2.set 2 t2',t2',xs++ [(dw:Int)],by omega,by simp,?_,own_mono hb14 hm15,by simpa using hc26,all_set hc2a hself.1,List.getElem?_set_self (by omega),?_,by simp;omega,by rw[hc2e];rfl,by rw[htk,hxe]⟩⟩
     ·refine (((hch11.andThen hch12 fun b hb h=>by have:=(hT.blk_lo h).1;omega).andThen (.of_prefix (S:=fun _=>False) hm13) fun b hb h=>h.elim).andThen hch14 fun b hb h=>h).andThen (.of_prefix (S:=fun _=>False) hm15) fun b hb h=>h.elim
     ·refine ((hT12.mono hm13).ch hch14 fun b hb e=>?_).mono hm15
      rcases hbl b hb with h|h
      ·have:=(hT.blk_lo h).1;omega
      ·have:=hch11.len;omega
    ·have hZ10:=hZ8.ch hch10 fun b hb=>hZb b hb
     obtain ⟨b5,o5,hb5,g5,g6⟩:=Ow.store hZ10 (i:=k) hkn
     have hcc:(AVal.agg cs2).cells=cs2:=rfl
     obtain ⟨m11,hst11,hch11,hZ11⟩:=g6 0 (.agg cs2) (by rw[hcc];omega) (by rw[hcc];exact hc2a)
     rw[hcc,hc26] at hst11
     have hrd:readN cs2 0 6=some cs2:=by
      unfold readN
      rw[if_pos (by omega),List.drop_zero,List.take_of_length_le (by omega)]
     simp at hst11
     simp[bxW (own_read hb10),hrd,g5,hst11,hw]
     have hpw:p=ws.length:=by omega
     rw[hpw,List.take_length] at hxe
     have hcl:cs.length=n*6:=by have:=(Ow.sl hZ).length;simpa using this
     have hch411:Ch (fun b=>t10.blk=some b∨b<m3.length) m4 m11:=((hch48.trans hch10).weaken (T:=fun b=>t10.blk=some b∨b<m3.length) fun c hc e=>absurd e (by omega)).trans (hch11.weaken fun c _ e=> .inl (e▸hb5))
     have hb5lt:b5<b13:=by have:=hZlt _ hb5;omega
     have h8l:=hch48.len
     refine ⟨q,by omega,(hI _ _ _).2 ⟨k+1,_,by omega,by simp,hch11.pre hm3' fun b hb e=>?_,hZ11,fun i' hi' m'' hc=>?_,fun i' hi'=>?_⟩⟩
     ·have:=(hZ10.blk_lo hb5).1
      omega
     ·rw[hcc,Nat.add_zero,chunk_setN hcl hc26 hkn]
      by_cases hik:i'=k
      ·subst hik
       rw[if_pos rfl,hc2e]
       have hT11:=(hT.ch hch11 fun b hb e=>by have:=(hT.blk_lo hb).1;omega).ch hc fun b hb e=>by
        have:=(hT.blk_lo hb).1
        rcases e with e|e
        ·have:=hZlt _ e;omega
        ·omega
       have hN11:=((hNm8.ch hch10 fun b hb e=>by have:=(hNm8.blk_lo hb).1;omega).ch hch11 fun b hb e=>by have:=(hNm8.blk_lo hb).1;omega).ch hc fun b hb e=>by
        have:=(hNm8.blk_lo hb).1
        rcases e with e|e
        ·have:=hZlt _ e;omega
        ·have:=hm4.length_le;omega
       refine ⟨t2,v6,?_,?_,?_⟩
       ·unfold redOf;rw[hfo,hmj]
       ·have:(redOf l ds i').elems=xs:=by rw[hxe,hwse];unfold redOf;rw[hfo,hmj]
        rw[this]
        exact hT11.ints
       ·have:(redOf l ds i').names=l[j].names:=by unfold redOf;rw[hfo,hmj]
        rw[this]
        exact Ow.sl hN11
      ·rw[if_neg hik]
       exact hrow i' (by omega) m'' (hch411.trans hc)
     ·by_cases hik:i'=k
      ·subst hik;exact hnbk
      ·exact hnb i' (by omega)
  ·simp
   have hkn:k=n:=by omega
   subst hkn
   refine ⟨hm02.trans hm4,ds,kd,hD,t10,v2,⟨rfl,rfl⟩,(hX.mono hm4).lo' hm1.length_le,⟨cs,?_,fun i x hx m'' hc=>?_⟩,fun k' hk'=>hnb k' (by omega)⟩
   ·rw[redT_len,←hnkd]
    exact Ow.lo hZ hm02.length_le
   ·have hi:i<kd:=by have:=(List.getElem?_eq_some_iff.1 hx).1;rw[redT_len] at this;exact this
    have hxe:x=redOf l ds i:=by
     rw[redT,List.getElem?_map,List.getElem?_range hi] at hx
     exact (Option.some.inj hx).symm
    rw[hxe]
    exact hrow i (by omega) m'' (hc.weaken fun c _ e=>e.imp id fun e=>by have:=hm02.length_le;omega)
end Go.Proofs.YtlniliigcnedmaaGreatDoor
namespace Go.Proofs.YtlniliigcnedmaaGreatDoor
open Go Ax
open Relation
set_option maxRecDepth 100000
def nmVX:ByteArray:=⟨#[118]⟩
def nmNX:ByteArray:=⟨#[110,101,120,116]⟩
def tabAX:List Md:= [⟨11,0,[1,2],[nmVX,nmNX],0,false⟩,mdU 3 [],mdU 9 [3],⟨11,0,[1,4],[nmVX,nmNX],0,false⟩,mdU 9 [0]]
theorem noRankX {l:List Md} {p:Md→Bool} (f:Nat→Nat) (h: ∀a b,stepR l p a b→f b<f a) {r:Nat}: ¬TransGen (stepR l p) r r:=fun hr=>by
 have key: ∀{a b},TransGen (stepR l p) a b→f b<f a:=fun h'=>by
  induction h' with
  |single h1=>exact h _ _ h1
  |tail _ h1 ih=>have:=h _ _ h1;omega
 have:=key hr
 omega
theorem tabA_atX {a:Nat} {x:Md} (h:tabAX[a]? =some x):(a=0∧x=⟨11,0,[1,2],[nmVX,nmNX],0,false⟩)∨(a=1∧x=mdU 3 [])∨(a=2∧x=mdU 9 [3])∨(a=3∧x=⟨11,0,[1,4],[nmVX,nmNX],0,false⟩)∨(a=4∧x=mdU 9 [0]):=by
 match a,h with
 |0,h=>simp[tabAX] at h;exact .inl ⟨rfl,h.symm⟩
 |1,h=>simp[tabAX] at h;exact .inr (.inl ⟨rfl,h.symm⟩)
 |2,h=>simp[tabAX] at h;exact .inr (.inr (.inl ⟨rfl,h.symm⟩))
 |3,h=>simp[tabAX] at h;exact .inr (.inr (.inr (.inl ⟨rfl,h.symm⟩)))
 |4,h=>simp[tabAX] at h;exact .inr (.inr (.inr (.inr ⟨rfl,h.symm⟩)))
 |a+5,h=>simp[tabAX] at h
theorem ba_loop (bs:ByteArray): ∀(n i:Nat) (r:List UInt8),bs.size-i=n→ByteArray.toList.loop bs i r=r.reverse++bs.data.toList.drop i
 |0,i,r,h=>by
  rw[ByteArray.toList.loop,if_neg (by omega),List.drop_eq_nil_of_le (by rw[Array.length_toList];show bs.size≤i;omega),List.append_nil]
 |n+1,i,r,h=>by
  have hi:i<bs.size:=by omega
  have hi':i<bs.data.toList.length:=by rw[Array.length_toList];exact hi
  rw[ByteArray.toList.loop,if_pos hi,ba_loop bs n (i+1) _ (by omega),List.drop_eq_getElem_cons hi']
  have:bs.get! i=bs.data.toList[i]:=by
   cases bs with
   |mk d=>
    have hd:i<d.size:=hi
    show d[i]! =d.toList[i]
    simp[hd]
  simp[this]
theorem ba_toList (bs:ByteArray):bs.toList=bs.data.toList:=by
 unfold ByteArray.toList
 rw[ba_loop bs _ 0 [] rfl]
 simp
theorem sEq_iff (x y:ByteArray):sEq x y=true↔x=y:=by
 unfold sEq
 rw[ba_toList,ba_toList,beq_iff_eq,Array.toList_inj]
 cases x;cases y;simp
theorem oneAX: ∀x∈tabAX,oneI x tabAX.length=0:=by
 have ht:twiceB [nmVX,nmNX]=false:=twiceB_false fun i hi j hj=>by
  have:i=1∧j=0:=by simp at hi;omega
  obtain ⟨rfl,rfl⟩:=this
  have: ¬sEq nmNX nmVX=true:=by rw[sEq_iff];decide
  simpa using this
 have hS: ∀e:List Int,e= [1,2]∨e= [1,4]→oneI ⟨11,0,e,[nmVX,nmNX],0,false⟩ 5=0:=by
  intro e he
  unfold oneI
  rcases he with rfl|rfl
  ·rw[if_neg (by decide),if_neg (by decide),if_neg (by decide),if_neg (by rw[ht];simp)]
  ·rw[if_neg (by decide),if_neg (by decide),if_neg (by decide),if_neg (by rw[ht];simp)]
 intro x hx
 simp only[tabAX,List.mem_cons,List.mem_nil_iff,or_false] at hx
 rcases hx with rfl|rfl|rfl|rfl|rfl
 ·exact hS _ (.inl rfl)
 ·decide
 ·decide
 ·exact hS _ (.inr rfl)
 ·decide
theorem checkAX:checkI tabAX=0:=by
 refine checkOk_iff.2 ⟨by decide,oneAX,by decide,fun r hr=>?_,fun x hx hf=>?_⟩
 ·rintro (h|h)
  ·refine noRankX (l:=tabAX) (fun a=>if a=0∨a=3 then 1 else 0) (fun a b h=>?_) h
   obtain ⟨x,h1,h2,h3⟩:=h
   rcases tabA_atX h1 with ⟨rfl,rfl⟩|⟨rfl,rfl⟩|⟨rfl,rfl⟩|⟨rfl,rfl⟩|⟨rfl,rfl⟩
   ·simp at h3
    have:b=1∨b=2:=by omega
    rcases this with rfl|rfl<;>simp
   ·simp[mdU] at h3
   ·simp[mdU,yinB] at h2
   ·simp at h3
    have:b=1∨b=4:=by omega
    rcases this with rfl|rfl<;>simp
   ·simp[mdU,yinB] at h2
  ·refine noRankX (l:=tabAX) (fun a=>if a=2∨a=4 then 1 else 0) (fun a b h=>?_) h
   obtain ⟨x,h1,h2,h3⟩:=h
   rcases tabA_atX h1 with ⟨rfl,rfl⟩|⟨rfl,rfl⟩|⟨rfl,rfl⟩|⟨rfl,rfl⟩|⟨rfl,rfl⟩
   ·simp[yangB] at h2
   ·simp[mdU] at h3
   ·simp[mdU] at h3
    have:b=3:=by omega
    subst this;simp
   ·simp[yangB] at h2
   ·simp[mdU] at h3
    have:b=0:=by omega
    subst this;simp
 ·have:tabAX.all (fun x=> !flexOf x)=true:=by decide
  have:=List.all_eq_true.1 this x hx
  rw[hf] at this
  cases this
theorem md1X:mdAt tabAX 1=mdU 3 []:=rfl
theorem md2X:mdAt tabAX 2=mdU 9 [3]:=rfl
theorem md3X:mdAt tabAX 3=⟨11,0,[1,4],[nmVX,nmNX],0,false⟩:=rfl
theorem md4X:mdAt tabAX 4=mdU 9 [0]:=rfl
def relAX (a b:Nat):Prop:=(a=b∧a<5)∨(a=0∧b=3)∨(a=3∧b=0)∨(a=2∧b=4)∨(a=4∧b=2)
instance (a b:Nat):Decidable (relAX a b):=by unfold relAX;infer_instance
theorem notUX {a:Nat} (h:a<5):isU (mdAt tabAX a)=false:=by
 have: ∀a<5,isU (mdAt tabAX a)=false:=by decide
 exact this a h
theorem bisimAX:Bisim tabAX relAX:=by
 have hlt: ∀a b,relAX a b→a<5∧b<5:=by rintro a b (h|h|h|h|h)<;>omega
 refine ⟨hlt,fun a b h=>?_,fun a b j h hu=>?_,fun a b j h hu=>?_,fun a b h _=>?_,fun a b k e e' h _ h1 h2=>?_⟩
 ·have hse: ∀x:Md,firstC x x=0:=fun x=>firstC_ord.self trivial
  rcases h with ⟨rfl,_⟩|⟨rfl,rfl⟩|⟨rfl,rfl⟩|⟨rfl,rfl⟩|⟨rfl,rfl⟩
  ·exact hse _
  ·exact hse (mdAt tabAX 0)
  ·exact hse (mdAt tabAX 3)
  ·exact hse (mdAt tabAX 2)
  ·exact hse (mdAt tabAX 4)
 ·rw[notUX (hlt a b h).1] at hu;cases hu
 ·rw[notUX (hlt a b h).2] at hu;cases hu
 ·have: ∀a<5,∀b<5,relAX a b→(mdAt tabAX a).elems.length=(mdAt tabAX b).elems.length:=by decide
  exact this a (hlt a b h).1 b (hlt a b h).2 h
 ·have key: ∀a<5,∀b<5,relAX a b→ ∀k<2,∀h1:k<(mdAt tabAX a).elems.length,∀h2:k<(mdAt tabAX b).elems.length,relAX (mdAt tabAX a).elems[k].toNat (mdAt tabAX b).elems[k].toNat:=by decide
  obtain ⟨g1,rfl⟩:=List.getElem?_eq_some_iff.1 h1
  obtain ⟨g2,rfl⟩:=List.getElem?_eq_some_iff.1 h2
  have hk:k<2:=by
   have: ∀a<5,(mdAt tabAX a).elems.length≤2:=by decide
   have:=this a (hlt a b h).1
   omega
  exact key a (hlt a b h).1 b (hlt a b h).2 h k hk g1 g2
theorem rr03:RR tabAX 0=RR tabAX 3:=bisimAX.RR (by decide)
theorem rr24:RR tabAX 2=RR tabAX 4:=bisimAX.RR (by decide)
theorem rr12:RR tabAX 1<RR tabAX 2:=RR_kindlt (by decide) (by decide) (by decide)
theorem rr20:RR tabAX 2<RR tabAX 0:=RR_kindlt (by decide) (by decide) (by decide)
theorem textAX:textT tabAX 2= [82,69,70,32,83,84,82,85,67,84,40,73,78,84,32,118,44,32,35,48,32,110,101,120,116,41]:=by
 have h1:=rr12
 have h2:=rr20
 have h3:=rr03
 have h4:=rr24
 have n1:numOf tabAX [] 2=none:=numOf_none.2 (by simp)
 have n2:numOf tabAX [2] 3=none:=numOf_none.2 (by simp;omega)
 have n3:numOf tabAX [2,3] 4=some 0:=by unfold numOf;simp[List.findIdx?_cons,h4]
 have hl:tabAX.length=5:=rfl
 unfold textT
 rw[hl]
 have t1:txM tabAX 4 [2,3] 1=([73,78,84],[2,3]):=by
  unfold txM;rw[md1X];simp[mdU,plainT,sizeT,kindT]
 have t4:txM tabAX 4 [2,3] 4=([35,48],[2,3]):=by
  unfold txM;rw[md4X];simp[mdU,n3,digB]
 have t3:txM tabAX 5 [2] 3=([83,84,82,85,67,84,40,73,78,84,32,118,44,32,35,48,32,110,101,120,116,41],[2,3]):=by
  unfold txM;rw[md3X];simp only[n2]
  unfold bodyT;rw[md3X];simp[eN,named,txL,t1,t4,nmVX,nmNX]
 unfold txM;rw[md2X];simp only[n1]
 unfold bodyT;rw[md2X];simp[eN,mdU,t3]
theorem denseAX {ds:List Nat} {kd:Nat} (h:DenseOf 5 (fun a b=>RR tabAX a<RR tabAX b) ds kd):ds= [2,0,1,2,1]∧kd=3:=by
 have h1:=rr12
 have h2:=rr20
 have h3:=rr03
 have h4:=rr24
 obtain ⟨hl,ho,hb,hs⟩:=h
 match ds,hl with
 | [a,b,c,d,e],_=>
  have o:=fun i j x y (hi: [a,b,c,d,e][i]? =some x) (hj: [a,b,c,d,e][j]? =some y)=>ho i j x y hi hj
  have o10:=o 1 2 b c rfl rfl
  have o20:=o 2 0 c a rfl rfl
  have o03:=o 0 3 a d rfl rfl
  have o30:=o 3 0 d a rfl rfl
  have o24:=o 2 4 c e rfl rfl
  have o42:=o 4 2 e c rfl rfl
  have e1:a=d:=by omega
  have e2:c=e:=by omega
  subst e1 e2
  have l1:b<c:=o10.2 h1
  have l2:c<a:=o20.2 h2
  have ba:=hb 0 a rfl
  have cov: ∀v,v<kd→v=a∨v=b∨v=c:=fun v hv=>by
   obtain ⟨i,hi⟩:=hs v hv
   match i,hi with
   |0,hi=>simp at hi;omega
   |1,hi=>simp at hi;omega
   |2,hi=>simp at hi;omega
   |3,hi=>simp at hi;omega
   |4,hi=>simp at hi;omega
   |i+5,hi=>simp at hi
  have c0:=cov 0 (by omega)
  have c1:=cov 1 (by omega)
  have c2:=cov 2 (by omega)
  have hb0:b=0:=by omega
  have hc1:c=1:=by omega
  have ha2:a=2:=by omega
  subst hb0 hc1 ha2
  refine ⟨rfl,?_⟩
  rcases Nat.lt_or_ge 3 kd with h|h
  ·have:=cov 3 (by omega);omega
  ·omega
theorem notBadAX {ds:List Nat} {k:Nat} (h:ds= [2,0,1,2,1]) (hk:k<3): ¬badAt tabAX ds k:=by
 rintro ⟨hu,_⟩
 have:firstOf ds k<5:=by
  subst h
  have: ∀k<3,firstOf [2,0,1,2,1] k<5:=by decide
  exact this k hk
 rw[notUX this] at hu
 cases hu
end Go.Proofs.YtlniliigcnedmaaGreatDoor
namespace Go.Proofs.YtlniliigcnedmaaGreatDoor
open Go Ax Go.ChangeShapes Go.WideShapes Go.ChangeAt Go.RowKit
set_option maxRecDepth 100000
theorem under22: Tryz.prog.underlying 22=some (.slice 39):=by kernel_rfl
theorem under3: Tryz.prog.underlying 3=some (.int .i64):=by kernel_rfl
theorem under4: Tryz.prog.underlying 4=some .bool:=by kernel_rfl
theorem under33: Tryz.prog.underlying 36=some (.slice 3):=by kernel_rfl
theorem under47: Tryz.prog.underlying 37=some (.slice 9):=by kernel_rfl
theorem under9: Tryz.prog.underlying 9=some .string:=by kernel_rfl
theorem laidOut:laidOutB Tryz.prog=true:=by kernel_rfl
theorem own0:ownKnob Tryz.prog.godebug=none:=by kernel_rfl
noncomputable def fs49:Array Field:=match Tryz.prog.underlying 39 with|some (.struct fs)=>fs|_=> #[]
noncomputable def modeT:ModeT Tryz.prog:=
 {tT:=22,tM:=39,tI:=36,eI:=3,tS:=37,eS:=9,k0:=3,k1:=3,k4:=3,k5:=4,fs:=fs49,
  hT:=under22,hM:=by kernel_rfl,hI:=under33,hi:=under3,hS:=under47,hs:=under9,h0:=under3,h1:=under3,h4:=under3,h5:=under4,
  cM:=by kernel_rfl,ci:=by kernel_rfl,cs:=by kernel_rfl,c0:=by kernel_rfl,c1:=by kernel_rfl,cI:=by kernel_rfl,cS:=by kernel_rfl,c4:=by kernel_rfl,c5:=by kernel_rfl,
  bi:=by kernel_rfl,bs:=by kernel_rfl,bM:=of_decide_eq_true (by kernel_rfl),sz:=by kernel_rfl,f0:=by kernel_rfl,f1:=by kernel_rfl,f2:=by kernel_rfl,f3:=by kernel_rfl,f4:=by kernel_rfl,f5:=by kernel_rfl}
def LawTII (f:FuncId):Prop:= ∀(m:AMem) (s:AVal) (l:List Md) (u v:Int),RTab m s l→l.length≤reachBytes→(∀md∈l,MdB reachBytes md)→ACalls Tryz.prog f [s,.int .i64 u,.int .i64 v] m fun r _=>r= .bool true
end Go.Proofs.YtlniliigcnedmaaGreatDoor
namespace Go.Proofs.YtlniliigcnedmaaGreatDoor
open Go Ax
open Relation
set_option maxRecDepth 100000
theorem FlexP.congr {l:List Md} (hg:goodT l) {a:Nat} (h:FlexP l a): ∀{b},a<l.length→b<l.length→RR l a=RR l b→FlexP l b:=by
 induction h with
 | @flex a x h1 h2 h3=>
  intro b ha hb he
  have hf:=RR_first ha hb he
  have hx:mdAt l a=x:=by rw[mdAt_eq ha];rw[List.getElem?_eq_getElem ha] at h1;exact Option.some.inj h1
  rw[hx] at hf
  have hk:=firstC_kind hf
  have hfl:x.flex=(mdAt l b).flex:=by
   have hz: ∀{x y:Int} {xs:List Int},firstNZ (x::xs)=0→x=0∧firstNZ xs=0:=fun {x y xs} h=>by
    rw[firstNZ_cons] at h
    split at h
    ·omega
    ·rename_i h0;exact ⟨by omega,h⟩
   unfold firstC firstL at hf
   have e1:=(hz (y:=0) hf).2
   have e2:=(hz (y:=0) e1).2
   have e3:=(hz (y:=0) e2).2
   have e4:=(hz (y:=0) e3).1
   have:=cmpI_zero.1 e4
   cases hx1:x.flex<;>cases hx2:(mdAt l b).flex<;>simp[bi,hx1,hx2] at this ⊢
  refine .flex (x:=mdAt l b) (by rw[mdAt_eq hb];exact List.getElem?_eq_getElem hb) ?_ ?_
  ·unfold rowStruct at h2 ⊢;rw[←hk];exact h2
  ·rw[←hfl];exact h3
 | @step a c h1 _ ih=>
  intro b ha hb he
  obtain ⟨x,g1,g2,g3⟩:=h1
  have hx:mdAt l a=x:=by rw[mdAt_eq ha];rw[List.getElem?_eq_getElem ha] at g1;exact Option.some.inj g1
  have hf:=RR_first ha hb he
  rw[hx] at hf
  have hk:=firstC_kind hf
  have hua:isU (mdAt l a)=false:=by
   rw[hx]
   unfold rowStruct at g2
   simp only[Bool.or_eq_true,beq_iff_eq] at g2
   simp[isU]
   omega
  obtain ⟨hl,hel⟩:=RR_elem hg ha hb he hua
  rw[hx] at hl hel
  obtain ⟨k,hk1,hk2⟩:=List.mem_iff_getElem.1 g3
  have hkb:k<(mdAt l b).elems.length:=by omega
  have hcl:c<l.length:=by have:=hg x (List.mem_of_getElem? g1) _ g3;omega
  have hmem:(mdAt l b).elems[k]∈(mdAt l b).elems:=List.getElem_mem hkb
  have hbm:=hg (mdAt l b) (by rw[mdAt_eq hb];exact List.getElem_mem hb) _ hmem
  have h5:=hel k _ _ (List.getElem?_eq_getElem hk1) (List.getElem?_eq_getElem hkb)
  rw[hk2,Int.toNat_natCast] at h5
  obtain ⟨d,hd⟩: ∃d:Nat,(mdAt l b).elems[k]=d:=⟨(mdAt l b).elems[k].toNat,by omega⟩
  rw[hd] at h5 hmem hbm
  rw[Int.toNat_natCast] at h5
  refine .step (k:=d) ⟨mdAt l b,by rw[mdAt_eq hb];exact List.getElem?_eq_getElem hb,?_,hmem⟩ (ih hcl (by omega) h5)
  unfold rowStruct at g2 ⊢;rw[←hk];exact g2
theorem RR_grow {l:List Md} {x:Md} (hg:goodT l) {a b:Nat} (ha:a<l.length) (hb:b<l.length) (h:RR l a=RR l b):RR (l++ [x]) a=RR (l++ [x]) b:=by
 have hl:(l++ [x]).length=l.length+1:=by simp
 have hel: ∀{a k:Nat} {e:Int},a<l.length→(mdAt l a).elems[k]? =some e→e.toNat<l.length:=fun {a k e} ha h=>by
  have:=hg (mdAt l a) (by rw[mdAt_eq ha];exact List.getElem_mem ha) e (List.mem_of_getElem? h)
  omega
 refine Bisim.RR (E:=fun a b=>a<l.length∧b<l.length∧RR l a=RR l b) ⟨fun a b h=>⟨by omega,by omega⟩,fun a b h=>?_,fun a b j h hu hj=>?_,fun a b j h hu hj=>?_,fun a b h hu=>?_,fun a b k e e' h hu h1 h2=>?_⟩ ⟨ha,hb,h⟩
 ·rw[mdAt_app h.1,mdAt_app h.2.1];exact RR_first h.1 h.2.1 h.2.2
 ·rw[mdAt_app h.1] at hu
  have hj':=(part_old hg h.1).1 hj
  obtain ⟨j',h1,h2⟩:=RR_part hg h.1 h.2.1 h.2.2 hu hj'
  exact ⟨j',(part_old hg h.2.1).2 h1,hj'.lt hg,h1.lt hg,h2⟩
 ·rw[mdAt_app h.2.1] at hu
  have hj':=(part_old hg h.2.1).1 hj
  obtain ⟨j',h1,h2⟩:=RR_part hg h.2.1 h.1 h.2.2.symm hu hj'
  exact ⟨j',(part_old hg h.1).2 h1,h1.lt hg,hj'.lt hg,h2.symm⟩
 ·rw[mdAt_app h.1] at hu
  rw[mdAt_app h.1,mdAt_app h.2.1]
  exact (RR_elem hg h.1 h.2.1 h.2.2 hu).1
 ·rw[mdAt_app h.1] at hu h1
  rw[mdAt_app h.2.1] at h2
  exact ⟨hel h.1 h1,hel h.2.1 h2,(RR_elem hg h.1 h.2.1 h.2.2 hu).2 k e e' h1 h2⟩
structure Left (l:List Md) (u part:Nat) (k:List Md) (q:Nat):Prop where
 ck:checkI k=0
 len:k.length≤l.length+1
 ge:l.length≤k.length
 ql:q<k.length
 rr: ∀a b,a<l.length→b<l.length→(RR k a=RR k b↔RR l a=RR l b)
 md: ∀a,a<l.length→mdAt k a=mdAt l a
 parts: ∀a j,a<l.length→(IsPart k a j↔IsPart l a j)
 nf: ¬FlexP k q
 nfp: ∀a,a<l.length→FlexP k a→FlexP l a
 up: ∀j,IsBase k q j→ ∃z∈leftI l u part,RR k j=RR k z
 dn: ∀z∈leftI l u part,∃j,IsBase k q j∧RR k j=RR k z
section
variable {l:List Md} {u part:Nat}
end
end Go.Proofs.YtlniliigcnedmaaGreatDoor
namespace Go.Proofs.YtlniliigcnedmaaGreatDoor
open Go Ax
open Relation
set_option maxRecDepth 100000
theorem check_app {l:List Md} {x:Md} (hc:checkI l=0) (hn:l.length<512) (hx:oneI x l.length=0) (hv:voidsB l x=false) (hf:flexOf x=true→ ∀e∈x.elems,¬FlexP l e.toNat):checkI (l++ [x])=0:=by
 have ok:=okT_of hc
 have h:=checkOk_iff.1 hc
 obtain ⟨_,hxg,_,_⟩:=oneI_zero hx
 have hva: ∀y:Md,(∀e∈y.elems,0≤e∧e<(l.length:Int))→voidsB l y=false→ ¬voidsB (l++ [x]) y=true:=fun y hy hv hv2=>by
  have hve: ∀e∈y.elems,voidE (l++ [x]) e=voidE l e:=fun e he=>by
   have:=hy e he
   unfold voidE
   rw[List.getElem?_append_left (by omega)]
  rw[←Bool.not_eq_true] at hv
  apply hv
  unfold voidsB at hv2 ⊢
  split at hv2
  ·cases hv2
  ·rename_i h12
   rw[if_neg h12]
   split at hv2
   ·rename_i h13
    rw[if_pos h13]
    rw[List.any_eq_true] at hv2 ⊢
    obtain ⟨e,he,hh⟩:=hv2
    exact ⟨e,he,by rw[←hve e (List.dropLast_subset _ he)];exact hh⟩
   ·rename_i h13
    rw[if_neg h13]
    rw[List.any_eq_true] at hv2 ⊢
    obtain ⟨e,he,hh⟩:=hv2
    exact ⟨e,he,by rw[←hve e he];exact hh⟩
 refine checkOk_iff.2 ⟨by simp;omega,fun y hy=>?_,?_,fun r hr hb=>?_,fun y hy hf' e he hp=>?_⟩
 ·rw[List.length_append,List.length_singleton]
  rcases List.mem_append.1 hy with hy|hy
  ·exact one_more (h.one y hy)
  ·simp at hy;subst hy;exact one_more hx
 ·rw[List.any_eq_false]
  intro y hy
  rcases List.mem_append.1 hy with hy'|hy'
  ·exact hva y (ok.good y hy') (by simpa using List.any_eq_false.1 h.void y hy')
  ·simp at hy';subst hy';exact hva y hxg hv
 ·have key: ∀p:Md→Bool,TransGen (stepR (l++ [x]) p) r r→r<l.length∧TransGen (stepR l p) r r:=fun p hp=>by
   have hrl:r<l.length:=by
    rcases Nat.lt_or_ge r l.length with h|h
    ·exact h
    ·have:r=l.length:=by simp at hr;omega
     subst this
     exfalso
     cases hp with
     |single h=>exact no_into ok.good hxg h
     |tail _ h=>exact no_into ok.good hxg h
   exact ⟨hrl,(tg_app ok.good hrl hp).1⟩
  rcases hb with hb|hb
  ·obtain ⟨h1,h2⟩:=key _ hb;exact h.bad r h1 (.inl h2)
  ·obtain ⟨h1,h2⟩:=key _ hb;exact h.bad r h1 (.inr h2)
 ·rcases List.mem_append.1 hy with hy'|hy'
  ·have:=ok.good y hy' e he
   exact h.flex y hy' hf' e he (flex_app ok.good (by omega) hp)
  ·simp at hy'
   subst hy'
   have:=hxg e he
   exact hf hf' e he (flex_app ok.good (by omega) hp)
inductive Ext (l:List Md):List Md→Prop
 |refl:Ext l l
 |step {k:List Md} {x:Md}:Ext l k→checkI (k++ [x])=0→Ext l (k++ [x])
section
variable {l k:List Md}
theorem FlexP.more {x:Md} {a:Nat} (h:FlexP l a):FlexP (l++ [x]) a:=by
 induction h with
 |flex h1 h2 h3=>exact .flex (by rw[List.getElem?_append_left (List.getElem?_eq_some_iff.1 h1).1];exact h1) h2 h3
 |step h1 _ ih=>
  obtain ⟨y,g1,g2⟩:=h1
  exact .step ⟨y,by rw[List.getElem?_append_left (List.getElem?_eq_some_iff.1 g1).1];exact g1,g2⟩ ih
theorem Ext.trans {j:List Md} (h:Ext l k) (h':Ext k j):Ext l j:=by
 induction h' with
 |refl=>exact h
 |step _ hc ih=>exact .step ih hc
theorem Ext.len (h:Ext l k):l.length≤k.length:=by
 induction h with
 |refl=>omega
 |step _ _ ih=>simp;omega
theorem Ext.check (h:Ext l k) (hc:checkI l=0):checkI k=0:=by cases h<;>assumption
theorem Ext.get (h:Ext l k) {a:Nat} (ha:a<l.length):k[a]? =l[a]? :=by
 induction h with
 |refl=>rfl
 |step h' _ ih=>rw[List.getElem?_append_left (by have:=h'.len;omega),ih]
theorem Ext.md (h:Ext l k) {a:Nat} (ha:a<l.length):mdAt k a=mdAt l a:=by unfold mdAt;rw[h.get ha]
theorem Ext.rr (h:Ext l k) (hc:checkI l=0) {a b:Nat} (ha:a<l.length) (hb:b<l.length):RR k a=RR k b↔RR l a=RR l b:=by
 induction h with
 |refl=>exact Iff.rfl
 |step h' hc' ih=>
  have hck:=h'.check hc
  have hl:=h'.len
  rw[←ih]
  exact ⟨fun e=>RR_app (okT_of hck).good (okT_of hc').good (by omega) (by omega) e,fun e=>RR_grow (okT_of hck).good (by omega) (by omega) e⟩
theorem Ext.flex (h:Ext l k) (hc:checkI l=0) {a:Nat} (ha:a<l.length):FlexP k a↔FlexP l a:=by
 induction h with
 |refl=>exact Iff.rfl
 |step h' hc' ih=>
  have hck:=h'.check hc
  have hl:=h'.len
  rw[←ih]
  exact ⟨fun e=>flex_app (okT_of hck).good (by omega) e,fun e=>e.more⟩
theorem Ext.part (h:Ext l k) (hc:checkI l=0) {a j:Nat} (ha:a<l.length):IsPart k a j↔IsPart l a j:=by
 induction h with
 |refl=>exact Iff.rfl
 |step h' hc' ih=>
  have hck:=h'.check hc
  have hl:=h'.len
  rw[←ih]
  exact part_old (okT_of hck).good (by omega)
theorem Ext.base (h:Ext l k) (hc:checkI l=0) {a j:Nat} (ha:a<l.length):IsBase k a j↔IsBase l a j:=by
 unfold IsBase
 rw[h.md ha]
 split
 ·exact h.part hc ha
 ·exact Iff.rfl
end
theorem firstC_all {x y:Md} (h:firstC x y=0):x.kind=y.kind∧x.size=y.size∧x.dims=y.dims∧x.flex=y.flex∧(x.kind≠12→x.elems.length=y.elems.length)∧lexC cmpS x.names y.names=0:=by
 have hz: ∀{x:Int} {xs:List Int},firstNZ (x::xs)=0→x=0∧firstNZ xs=0:=fun {x xs} h=>by
  rw[firstNZ_cons] at h
  split at h
  ·omega
  ·rename_i h0;exact ⟨by omega,h⟩
 unfold firstC firstL at h
 obtain ⟨h1,h⟩:=hz h
 obtain ⟨h2,h⟩:=hz h
 obtain ⟨h3,h⟩:=hz h
 obtain ⟨h4,h⟩:=hz h
 obtain ⟨h5,h⟩:=hz h
 obtain ⟨h6,h⟩:=hz h
 refine ⟨cmpI_zero.1 h1,cmpI_zero.1 h2,cmpI_zero.1 h3,?_,fun hk=>?_,h6⟩
 ·have:=cmpI_zero.1 h4
  cases hx1:x.flex<;>cases hx2:y.flex<;>simp[bi,hx1,hx2] at this ⊢
 ·unfold lenC at h5
  rw[if_neg hk] at h5
  have:=cmpI_zero.1 h5
  omega
def sameX (l:List Md) (i:Nat) (x:Md):Prop:=firstC (mdAt l i) x=0∧ ∀(k:Nat) (e e':Int),(mdAt l i).elems[k]? =some e→x.elems[k]? =some e'→RR l e.toNat=RR l e'.toNat
theorem elem_lt {l:List Md} (hg:goodT l) {a k:Nat} {e:Int} (ha:a<l.length) (h:(mdAt l a).elems[k]? =some e):0≤e∧e.toNat<l.length:=by
 have:=hg (mdAt l a) (by rw[mdAt_eq ha];exact List.getElem_mem ha) e (List.mem_of_getElem? h)
 omega
theorem last_iff {l:List Md} {x:Md} (hc:checkI l=0) (hc':checkI (l++ [x])=0) (hx: ∀e∈x.elems,0≤e∧e<(l.length:Int)) (hu:isU x=false) {i:Nat} (hi:i<l.length):RR (l++ [x]) i=RR (l++ [x]) l.length↔sameX l i x:=by
 have hg:=(okT_of hc).good
 have hg':=(okT_of hc').good
 have hl:(l++ [x]).length=l.length+1:=by simp
 constructor
 ·intro h
  have hf:=RR_first (by omega) (by omega) h
  rw[mdAt_app hi,mdAt_last] at hf
  have hui:isU (mdAt (l++ [x]) i)=false:=by
   rw[mdAt_app hi];unfold isU at hu ⊢;rw[firstC_kind hf];exact hu
  refine ⟨hf,fun k e e' h1 h2=>?_⟩
  have:=(RR_elem hg' (by omega) (by omega) h hui).2 k e e' (by rw[mdAt_app hi];exact h1) (by rw[mdAt_last];exact h2)
  have b1:=elem_lt hg hi h1
  have b2:=hx e' (List.mem_of_getElem? h2)
  exact RR_app hg hg' b1.2 (by omega) this
 ·rintro ⟨hf,he⟩
  have hfa:=firstC_all hf
  have hui:isU (mdAt l i)=false:=by unfold isU at hu ⊢;rw[hfa.1];exact hu
  have hk12:(mdAt l i).kind≠12:=by intro h;simp[isU,h] at hui
  refine Bisim.RR (E:=fun a b=>(a<l.length+1∧b<l.length+1∧RR (l++ [x]) a=RR (l++ [x]) b)∨(a=i∧b=l.length)) ⟨fun a b h=>by omega,fun a b h=>?_,fun a b j h hua hj=>?_,fun a b j h hub hj=>?_,fun a b h hua=>?_,fun a b k e e' h hua h1 h2=>?_⟩ (.inr ⟨rfl,rfl⟩)
  ·rcases h with h|⟨rfl,rfl⟩
   ·exact RR_first (by omega) (by omega) h.2.2
   ·rw[mdAt_app hi,mdAt_last];exact hf
  ·rcases h with h|⟨rfl,rfl⟩
   ·obtain ⟨j',h1,h2⟩:=RR_part hg' (by omega) (by omega) h.2.2 hua hj
    have b1:=hj.lt hg'
    have b2:=h1.lt hg'
    exact ⟨j',h1,.inl ⟨by omega,by omega,h2⟩⟩
   ·rw[mdAt_app hi,hui] at hua;cases hua
  ·rcases h with h|⟨rfl,rfl⟩
   ·obtain ⟨j',h1,h2⟩:=RR_part hg' (by omega) (by omega) h.2.2.symm hub hj
    have b1:=hj.lt hg'
    have b2:=h1.lt hg'
    exact ⟨j',h1,.inl ⟨by omega,by omega,h2.symm⟩⟩
   ·rw[mdAt_last,hu] at hub;cases hub
  ·rcases h with h|⟨rfl,rfl⟩
   ·exact (RR_elem hg' (by omega) (by omega) h.2.2 hua).1
   ·rw[mdAt_app hi,mdAt_last];exact hfa.2.2.2.2.1 hk12
  ·rcases h with h|⟨rfl,rfl⟩
   ·have b1:=elem_lt hg' (by omega) h1
    have b2:=elem_lt hg' (by omega) h2
    exact .inl ⟨by omega,by omega,(RR_elem hg' (by omega) (by omega) h.2.2 hua).2 k e e' h1 h2⟩
   ·rw[mdAt_app hi] at h1
    rw[mdAt_last] at h2
    have b1:=elem_lt hg hi h1
    have b2:=hx e' (List.mem_of_getElem? h2)
    exact .inl ⟨by omega,by omega,RR_grow hg b1.2 (by omega) (he k e e' h1 h2)⟩
theorem putI_check {l l2:List Md} {x:Md} {n:Int} (hc:checkI l=0) (h:putI l x=(l2,n,0)):checkI (l++ [x])=0:=by
 by_cases hcc:checkI (l++ [x])=0
 ·exact hcc
 ·exfalso
  have hf:findI l x=none:=by
   unfold findI
   split
   ·rfl
   ·first|rfl|rw[if_pos hcc]
  unfold putI at h
  rw[if_neg (by simp[hc]),hf] at h
  simp only[ne_eq,hcc,not_false_eq_true,if_true,Prod.mk.injEq] at h
  exact h.2.2
open Classical in
theorem putI_row {l:List Md} {x:Md} (hc:checkI l=0) (hc':checkI (l++ [x])=0) (hx: ∀e∈x.elems,0≤e∧e<(l.length:Int)) (hu:isU x=false):
  (∃j:Nat,j<l.length∧putI l x=(l,(j:Int),0)∧sameX l j x∧ ∀i,i<j→ ¬sameX l i x)∨(putI l x=(l++ [x],(l.length:Int),0)∧ ∀i,i<l.length→ ¬sameX l i x):=by
 have hin: ∀e∈x.elems,outB l.length e=false:=fun e he=>by
  have:=hx e he
  simp[outB];omega
 rcases fidx_first (p:=fun i=>decide (sameX l i x)) l.length 0 with ⟨_,h2⟩|⟨j,_,hj,h1,h2,h3⟩
 ·have hno: ∀i,i<l.length→ ¬sameX l i x:=fun i hi=>by simpa using h2 i (by omega) (by omega)
  refine .inr ⟨?_,hno⟩
  have hf:=findI_last hin hc' fun i hi e=>hno i hi ((last_iff hc hc' hx hu hi).1 e)
  unfold putI
  rw[if_neg (by simp[hc]),hf]
  simp only[ne_eq,hc',not_true_eq_false,if_false]
 ·have hjl:j<l.length:=by omega
  have hs:sameX l j x:=by simpa using h2
  have hno: ∀i,i<j→ ¬sameX l i x:=fun i hi=>by simpa using h3 i (by omega) hi
  refine .inl ⟨j,hjl,?_,hs,hno⟩
  have hf:=findI_some hin hc' hjl ((last_iff hc hc' hx hu hjl).2 hs) fun i hi e=>hno i hi ((last_iff hc hc' hx hu (by omega)).1 e)
  unfold putI
  rw[if_neg (by simp[hc]),hf]
def deflX (y:Md) (es:List Nat):Md:=⟨y.kind,y.size,es.map fun z:Nat=>(z:Int),y.names,y.dims,false⟩
inductive DefL:List Md→List Nat→List Md→List Nat→Prop
 |nil {l:List Md}:DefL l [] l []
 |flat {l l':List Md} {m:Nat} {ms ns:List Nat}: ¬FlexP l m→DefL l ms l' ns→DefL l (m::ms) l' (m::ns)
 |flex {l l1 l2 l':List Md} {m n:Nat} {ms ns es:List Nat}:FlexP l m→DefL l ((mdAt l m).elems.map Int.toNat) l1 es→putI l1 (deflX (mdAt l m) es)=(l2,(n:Int),0)→DefL l2 ms l' ns→DefL l (m::ms) l' (n::ns)
theorem DefL.det {l l':List Md} {ms ns:List Nat} (h:DefL l ms l' ns): ∀{l'':List Md} {ns':List Nat},DefL l ms l'' ns'→l'=l''∧ns=ns':=by
 induction h with
 |nil=>intro l'' ns' h';cases h';exact ⟨rfl,rfl⟩
 |flat hf _ ih=>
  intro l'' ns' h'
  cases h' with
  |flat _ h2=>obtain ⟨rfl,rfl⟩:=ih h2;exact ⟨rfl,rfl⟩
  |flex h1 _ _ _=>exact absurd h1 hf
 |flex hf _ hp _ ih1 ih2=>
  intro l'' ns' h'
  cases h' with
  |flat h1 _=>exact absurd hf h1
  |flex _ h1 h2 h3=>
   obtain ⟨rfl,rfl⟩:=ih1 h1
   rw[hp] at h2
   simp only[Prod.mk.injEq,Int.natCast_inj,and_true] at h2
   obtain ⟨rfl,rfl⟩:=h2
   obtain ⟨rfl,rfl⟩:=ih2 h3
   exact ⟨rfl,rfl⟩
theorem DefL.append {l l1 l':List Md} {ms ns ms' ns':List Nat} (h:DefL l ms l1 ns) (h':DefL l1 ms' l' ns'):DefL l (ms++ms') l' (ns++ns'):=by
 induction h with
 |nil=>exact h'
 |flat hf _ ih=>exact .flat hf (ih h')
 |flex hf h1 hp _ _ ih=>exact .flex hf h1 hp (ih h')
theorem deflX_range {l:List Md} {y:Md} {es:List Nat} (h: ∀e∈es,e<l.length): ∀e∈(deflX y es).elems,0≤e∧e<(l.length:Int):=fun e he=>by
 obtain ⟨z,hz,rfl⟩:=List.mem_map.1 he
 have:=h z hz
 omega
theorem rs_isU {y:Md} (h:rowStruct y=true):isU y=false:=by
 unfold rowStruct at h
 simp only[Bool.or_eq_true,beq_iff_eq] at h
 simp[isU]
 omega
theorem FlexP.rs {l:List Md} {m:Nat} (h:FlexP l m):m<l.length∧rowStruct (mdAt l m)=true:=by
 cases h with
 |flex h1 h2 _=>
  obtain ⟨h3,rfl⟩:=List.getElem?_eq_some_iff.1 h1
  exact ⟨h3,by rw[mdAt_eq h3];exact h2⟩
 |step h1 _=>
  obtain ⟨x,h1,h2,_⟩:=h1
  obtain ⟨h3,rfl⟩:=List.getElem?_eq_some_iff.1 h1
  exact ⟨h3,by rw[mdAt_eq h3];exact h2⟩
theorem sameX_nflex {l:List Md} {y:Md} {es:List Nat} (hc:checkI l=0) (hr: ∀e∈es,e<l.length∧ ¬FlexP l e) {j:Nat} (hj:j<l.length) (h:sameX l j (deflX y es)): ¬FlexP l j:=by
 intro hp
 have hg:=(okT_of hc).good
 have hfa:=firstC_all h.1
 cases hp with
 | @flex _ x h1 _ h3=>
  have:mdAt l j=x:=by unfold mdAt;rw[h1];rfl
  rw[this] at hfa
  rw[hfa.2.2.2.1] at h3
  cases h3
 | @step _ c h1 h2=>
  obtain ⟨x,g1,g2,g3⟩:=h1
  have hx:mdAt l j=x:=by unfold mdAt;rw[g1];rfl
  have hk12:(mdAt l j).kind≠12:=by
   rw[hx];unfold rowStruct at g2;simp only[Bool.or_eq_true,beq_iff_eq] at g2;omega
  have hle:=hfa.2.2.2.2.1 hk12
  rw[←hx] at g3
  obtain ⟨k,hk,hke⟩:=List.mem_iff_getElem.1 g3
  have hkd:k<(deflX y es).elems.length:=by omega
  have hk2:k<es.length:=by simpa[deflX] using hkd
  have:=h.2 k _ _ (List.getElem?_eq_getElem hk) (List.getElem?_eq_getElem hkd)
  rw[hke] at this
  have hd:(deflX y es).elems[k]=(es[k]:Int):=by simp[deflX]
  rw[hd,Int.toNat_natCast,Int.toNat_natCast] at this
  have hes:=hr es[k] (List.getElem_mem hk2)
  exact hes.2 (h2.congr hg h2.rs.1 hes.1 this)
theorem last_nflex {l:List Md} {y:Md} {es:List Nat} (hc:checkI l=0) (hr: ∀e∈es,e<l.length∧ ¬FlexP l e): ¬FlexP (l++ [deflX y es]) l.length:=by
 intro hp
 have hg:=(okT_of hc).good
 cases hp with
 |flex h1 _ h3=>
  rw[List.getElem?_concat_length] at h1
  simp only[Option.some.injEq] at h1
  subst h1
  cases h3
 | @step _ c h1 h2=>
  obtain ⟨x,g1,g2,g3⟩:=h1
  rw[List.getElem?_concat_length] at g1
  simp only[Option.some.injEq] at g1
  subst g1
  obtain ⟨z,hz,he⟩:=List.mem_map.1 g3
  have hzc:z=c:=by omega
  subst hzc
  have:=hr z hz
  exact this.2 (flex_app hg this.1 h2)
structure DefOk (l:List Md) (ms:List Nat) (l':List Md) (ns:List Nat):Prop where
 ext:Ext l l'
 len:ns.length=ms.length
 at_: ∀(i m n:Nat),ms[i]? =some m→ns[i]? =some n→n<l'.length∧(mdAt l' n).kind=(mdAt l m).kind∧ ¬FlexP l' n∧(¬FlexP l m→n=m)
theorem elems_lt {l:List Md} (hg:goodT l) {m:Nat} (hm:m<l.length): ∀e∈(mdAt l m).elems.map Int.toNat,e<l.length:=fun e he=>by
 obtain ⟨z,hz,rfl⟩:=List.mem_map.1 he
 have:=hg (mdAt l m) (by rw[mdAt_eq hm];exact List.getElem_mem hm) z hz
 omega
theorem put_defl {l l1 l2:List Md} {m n:Nat} {es:List Nat} (hc1:checkI l1=0) (hf:FlexP l m) (hr: ∀e∈es,e<l1.length∧ ¬FlexP l1 e) (hp:putI l1 (deflX (mdAt l m) es)=(l2,(n:Int),0)):
  Ext l1 l2∧checkI (l1++ [deflX (mdAt l m) es])=0∧n<l2.length∧(mdAt l2 n).kind=(mdAt l m).kind∧ ¬FlexP l2 n∧l2.length≤l1.length+1:=by
 have hc':=putI_check hc1 hp
 have hu:isU (deflX (mdAt l m) es)=false:=by
  have:=rs_isU hf.rs.2
  unfold isU at this ⊢;exact this
 rcases putI_row hc1 hc' (deflX_range fun e he=>(hr e he).1) hu with ⟨j,hj,h1,h2,_⟩|⟨h1,h2⟩
 ·rw[hp] at h1
  simp only[Prod.mk.injEq,Int.natCast_inj,and_true] at h1
  obtain ⟨rfl,rfl⟩:=h1
  exact ⟨.refl,hc',hj,(firstC_all h2.1).1,sameX_nflex hc1 hr hj h2,by omega⟩
 ·rw[hp] at h1
  simp only[Prod.mk.injEq,Int.natCast_inj,and_true] at h1
  obtain ⟨rfl,rfl⟩:=h1
  exact ⟨.step .refl hc',hc',by simp,by rw[mdAt_last];rfl,last_nflex hc1 hr,by simp⟩
theorem DefL.ok {l l':List Md} {ms ns:List Nat} (h:DefL l ms l' ns):checkI l=0→(∀m∈ms,m<l.length)→DefOk l ms l' ns:=by
 induction h with
 |nil=>exact fun _ _=>⟨.refl,rfl,fun i m n h=>by simp at h⟩
 | @flat l l' m ms ns hf _ ih=>
  intro hc hm
  obtain ⟨e,hl,ha⟩:=ih hc fun x hx=>hm x (List.mem_cons_of_mem _ hx)
  have hml:=hm m List.mem_cons_self
  have:=e.len
  refine ⟨e,by simp[hl],fun i x n h1 h2=>?_⟩
  cases i with
  |zero=>
   simp only[List.getElem?_cons_zero,Option.some.injEq] at h1 h2
   subst h1 h2
   exact ⟨by omega,by rw[e.md hml],fun h=>hf ((e.flex hc hml).1 h),fun _=>rfl⟩
  |succ i=>exact ha i x n (by simpa using h1) (by simpa using h2)
 | @flex l l1 l2 l' m n ms ns es hf _ hp _ ih1 ih2=>
  intro hc hm
  have hg:=(okT_of hc).good
  have hml:=hm m List.mem_cons_self
  obtain ⟨e1,hl1,ha1⟩:=ih1 hc (elems_lt hg hml)
  have hc1:=e1.check hc
  have hr: ∀e∈es,e<l1.length∧ ¬FlexP l1 e:=fun e he=>by
   obtain ⟨k,hk,rfl⟩:=List.mem_iff_getElem.1 he
   have hk':k<((mdAt l m).elems.map Int.toNat).length:=by omega
   have:=ha1 k _ _ (List.getElem?_eq_getElem hk') (List.getElem?_eq_getElem hk)
   exact ⟨this.1,this.2.2.1⟩
  obtain ⟨e12,_,hn2,hk2,hf2,_⟩:=put_defl hc1 hf hr hp
  have e2:=e1.trans e12
  have hc2:=e2.check hc
  have hl2:=e2.len
  obtain ⟨e3,hl3,ha3⟩:=ih2 hc2 fun x hx=>by have:=hm x (List.mem_cons_of_mem _ hx);omega
  have hl3':=e3.len
  refine ⟨e2.trans e3,by simp[hl3],fun i x y h1 h2=>?_⟩
  cases i with
  |zero=>
   simp only[List.getElem?_cons_zero,Option.some.injEq] at h1 h2
   subst h1 h2
   exact ⟨by omega,by rw[e3.md hn2,hk2],fun h=>hf2 ((e3.flex hc2 hn2).1 h),fun h=>absurd hf h⟩
  |succ i=>
   simp only[List.getElem?_cons_succ] at h1 h2
   have hxl:=hm x (List.mem_cons_of_mem _ (List.mem_of_getElem? h1))
   obtain ⟨b1,b2,b3,b4⟩:=ha3 i x y h1 h2
   exact ⟨b1,by rw[b2,e2.md hxl],b3,fun h=>b4 fun h'=>h ((e2.flex hc hxl).1 h')⟩
theorem defl_check {l l1:List Md} {m:Nat} {es:List Nat} (hc:checkI l=0) (hn:l1.length<512) (hm:m<l.length) (hrs:rowStruct (mdAt l m)=true) (e1:Ext l l1) (hl:es.length=(mdAt l m).elems.length) (ha: ∀(k:Nat) (e:Int) (n:Nat),(mdAt l m).elems[k]? =some e→es[k]? =some n→n<l1.length∧(mdAt l1 n).kind=(mdAt l e.toNat).kind):checkI (l1++ [deflX (mdAt l m) es])=0:=by
 have hmem:mdAt l m∈l:=by rw[mdAt_eq hm];exact List.getElem_mem hm
 have h:=checkOk_iff.1 hc
 have hg:=(okT_of hc).good
 have hone:=h.one _ hmem
 obtain ⟨o1,o2,o3,o4⟩:=oneI_zero hone
 have hk:(mdAt l m).kind=10∨(mdAt l m).kind=11:=by
  unfold rowStruct at hrs;simpa only[Bool.or_eq_true,beq_iff_eq] using hrs
 have hes: ∀(k:Nat) (n:Nat),es[k]? =some n→ ∃e,(mdAt l m).elems[k]? =some e∧n<l1.length∧(mdAt l1 n).kind=(mdAt l e.toNat).kind:=fun k n hn=>by
  have hk2:k<(mdAt l m).elems.length:=by
   have:=(List.getElem?_eq_some_iff.1 hn).1;omega
  exact ⟨_,List.getElem?_eq_getElem hk2,ha k _ n (List.getElem?_eq_getElem hk2) hn⟩
 have hin: ∀e∈es,e<l1.length:=fun e he=>by
  obtain ⟨k,hk,rfl⟩:=List.mem_iff_getElem.1 he
  obtain ⟨_,_,h1,_⟩:=hes k _ (List.getElem?_eq_getElem hk)
  exact h1
 refine check_app (e1.check hc) hn ?_ ?_ fun hf=>?_
 ·have hsh:shapeI (deflX (mdAt l m) es)=0:=by
   obtain ⟨s1,s2,s3,s4⟩:=shapeI_zero o1
   obtain ⟨p1,p2,p3,p4,p5,p6⟩:=s3
   unfold shapeI
   rw[if_neg (by simp only[deflX];omega),if_pos,if_neg (by simp only[deflX,List.length_map];omega)]
   have hlen:(deflX (mdAt l m) es).elems.length=(mdAt l m).elems.length:=by simp[deflX,hl]
   refine ⟨?_,?_,?_,p4,p5,fun h=>by cases h⟩
   ·rw[hlen];exact p1
   ·unfold most at p2 ⊢;rw[hlen];exact p2
   ·unfold nNames at p3 ⊢;rw[hlen];exact p3
  unfold oneI
  rw[if_neg (by simp[hsh]),if_neg,if_neg,if_neg (by simp only[deflX];rw[o4];simp)]
  ·simp only[List.any_eq_true,not_exists,not_and]
   intro s hs
   simp[o3 s hs]
  ·simp only[List.any_eq_true,not_exists,not_and]
   intro e he
   have:=deflX_range hin e he
   simp[outB];omega
 ·have hv:=List.any_eq_false.1 h.void _ hmem
  unfold voidsB at hv ⊢
  have q12: ¬(mdAt l m).kind=12:=by omega
  have q13: ¬(mdAt l m).kind=13:=by omega
  rw[if_neg q12,if_neg q13] at hv
  rw[if_neg (by simp only[deflX];exact q12),if_neg (by simp only[deflX];exact q13),List.any_eq_false]
  intro e he hv2
  apply hv
  obtain ⟨z,hz,rfl⟩:=List.mem_map.1 he
  obtain ⟨k,hk,rfl⟩:=List.mem_iff_getElem.1 hz
  obtain ⟨e,h1,h2,h3⟩:=hes k _ (List.getElem?_eq_getElem hk)
  rw[List.any_eq_true]
  refine ⟨e,List.mem_of_getElem? h1,?_⟩
  have hb:=elem_lt hg hm h1
  unfold voidE at hv2 ⊢
  rw[Int.toNat_natCast,List.getElem?_eq_getElem h2] at hv2
  rw[List.getElem?_eq_getElem hb.2]
  rw[mdAt_eq h2,mdAt_eq hb.2] at h3
  simpa only[Option.any_some,h3] using hv2
 ·exfalso
  unfold flexOf at hf
  simp only[deflX,Bool.or_eq_true,beq_iff_eq] at hf
  omega
theorem sameX_ext {l k:List Md} {x:Md} (e:Ext l k) (hc:checkI l=0) (hx: ∀e∈x.elems,0≤e∧e<(l.length:Int)) {i:Nat} (hi:i<l.length):sameX k i x↔sameX l i x:=by
 have hg:=(okT_of hc).good
 unfold sameX
 rw[e.md hi]
 refine and_congr_right fun _=>⟨fun h j a b h1 h2=>?_,fun h j a b h1 h2=>?_⟩
 ·have b1:=elem_lt hg hi h1
  have b2:=hx b (List.mem_of_getElem? h2)
  exact (e.rr hc b1.2 (by omega)).1 (h j a b h1 h2)
 ·have b1:=elem_lt hg hi h1
  have b2:=hx b (List.mem_of_getElem? h2)
  exact (e.rr hc b1.2 (by omega)).2 (h j a b h1 h2)
theorem DefL.stable {l l':List Md} {ms ns:List Nat} (h:DefL l ms l' ns):checkI l=0→(∀m∈ms,m<l.length)→ ∀{k:List Md},Ext l' k→k.length<512→DefL k ms k ns:=by
 induction h with
 |nil=>exact fun _ _ _ _ _=> .nil
 | @flat l l' m ms ns hf h ih=>
  intro hc hm k e hn
  have hms:=fun x hx=>hm x (List.mem_cons_of_mem _ hx)
  have hml:=hm m List.mem_cons_self
  have e1:=(h.ok hc hms).ext.trans e
  exact .flat (fun h=>hf ((e1.flex hc hml).1 h)) (ih hc hms e hn)
 | @flex l l1 l2 l' m n ms ns es hf h1 hp h2 ih1 ih2=>
  intro hc hm k e hn
  have hms:=fun x hx=>hm x (List.mem_cons_of_mem _ hx)
  have hml:=hm m List.mem_cons_self
  have hg:=(okT_of hc).good
  have ok1:=h1.ok hc (elems_lt hg hml)
  have hc1:=ok1.ext.check hc
  have hr: ∀e∈es,e<l1.length∧ ¬FlexP l1 e:=fun e he=>by
   obtain ⟨k,hk,rfl⟩:=List.mem_iff_getElem.1 he
   have hk':k<((mdAt l m).elems.map Int.toNat).length:=by have:=ok1.len;omega
   have:=ok1.at_ k _ _ (List.getElem?_eq_getElem hk') (List.getElem?_eq_getElem hk)
   exact ⟨this.1,this.2.2.1⟩
  obtain ⟨e12,hc12,hn2,hk2,hf2,_⟩:=put_defl hc1 hf hr hp
  have e2:=ok1.ext.trans e12
  have hc2:=e2.check hc
  have hl2:=e2.len
  have hms2: ∀x∈ms,x<l2.length:=fun x hx=>by have:=hms x hx;omega
  have ok2:=h2.ok hc2 hms2
  have e2k:=ok2.ext.trans e
  have e1k:=e12.trans e2k
  have ek:=e2.trans e2k
  have hck:=ek.check hc
  have hu:isU (deflX (mdAt l m) es)=false:=by
   have:=rs_isU hf.rs.2
   unfold isU at this ⊢;exact this
  have hl1k:=e1k.len
  have hl2k:=e2k.len
  have hx1:=deflX_range (l:=l1) (y:=mdAt l m) (es:=es) fun e he=>(hr e he).1
  have hxk:=deflX_range (l:=k) (y:=mdAt l m) (es:=es) fun e he=>by have:=(hr e he).1;omega
  have hcx:checkI (k++ [deflX (mdAt l m) es])=0:=by
   have hlen:=ok1.len
   rw[List.length_map] at hlen
   refine defl_check hc hn hml hf.rs.2 ek hlen fun i e n h3 h4=>?_
   have:=ok1.at_ i e.toNat n (by rw[List.getElem?_map,h3];rfl) h4
   exact ⟨by omega,by rw[e1k.md this.1];exact this.2.1⟩
  have hput:putI k (deflX (mdAt k m) es)=(k,(n:Int),0):=by
   rw[ek.md hml]
   have hsn:sameX l2 n (deflX (mdAt l m) es)∧ ∀i,i<n→ ¬sameX l2 i (deflX (mdAt l m) es):=by
    rcases putI_row hc1 hc12 hx1 hu with ⟨j,hj,g1,g2,g3⟩|⟨g1,g2⟩
    ·rw[hp] at g1
     simp only[Prod.mk.injEq,Int.natCast_inj,and_true] at g1
     obtain ⟨rfl,rfl⟩:=g1
     exact ⟨g2,g3⟩
    ·rw[hp] at g1
     simp only[Prod.mk.injEq,Int.natCast_inj,and_true] at g1
     obtain ⟨rfl,rfl⟩:=g1
     refine ⟨⟨by rw[mdAt_last];exact firstC_ord.self trivial,fun i a b h3 h4=>?_⟩,fun i hi h3=>g2 i hi ((sameX_ext e12 hc1 hx1 hi).1 h3)⟩
     rw[mdAt_last] at h3
     rw[h3] at h4
     simp only[Option.some.injEq] at h4
     rw[h4]
   have hx2:=deflX_range (l:=l2) (y:=mdAt l m) (es:=es) fun e he=>by have:=(hr e he).1;have:=e12.len;omega
   have hsk:=(sameX_ext e2k hc2 hx2 hn2).2 hsn.1
   rcases putI_row hck hcx hxk hu with ⟨j,hj,g1,g2,g3⟩|⟨g1,g2⟩
   ·have hjn:j=n:=by
     rcases Nat.lt_trichotomy j n with h|h|h
     ·exact absurd ((sameX_ext e2k hc2 hx2 (by omega)).1 g2) (hsn.2 j h)
     ·exact h
     ·exact absurd hsk (g3 n h)
    rw[g1,hjn]
   ·exact absurd hsk (g2 n (by omega))
  refine .flex ((ek.flex hc hml).2 hf) ?_ hput (ih2 hc2 hms2 e hn)
  rw[ek.md hml]
  exact ih1 hc (elems_lt hg hml) e1k hn
end Go.Proofs.YtlniliigcnedmaaGreatDoor
namespace Go.Proofs.YtlniliigcnedmaaGreatDoor
open Go Ax
open Relation
set_option maxRecDepth 100000
theorem DefL.es {l l1:List Md} {m:Nat} {es:List Nat} (hc:checkI l=0) (hm:m<l.length) (h1:DefL l ((mdAt l m).elems.map Int.toNat) l1 es):es.length=(mdAt l m).elems.length∧ ∀e∈es,e<l1.length∧ ¬FlexP l1 e:=by
 have ok1:=h1.ok hc (elems_lt (okT_of hc).good hm)
 have hl:=ok1.len
 rw[List.length_map] at hl
 refine ⟨hl,fun e he=>?_⟩
 obtain ⟨k,hk,rfl⟩:=List.mem_iff_getElem.1 he
 have hk':k<((mdAt l m).elems.map Int.toNat).length:=by simp;omega
 have:=ok1.at_ k _ _ (List.getElem?_eq_getElem hk') (List.getElem?_eq_getElem hk)
 exact ⟨this.1,this.2.2.1⟩
theorem put_cases {l1 l2:List Md} {x:Md} {n:Int} (hc1:checkI l1=0) (h:putI l1 x=(l2,n,0)):l2=l1∨l2=l1++ [x]:=by
 unfold putI at h
 rw[if_neg (by simp[hc1])] at h
 split at h
 ·simp only[Prod.mk.injEq] at h;exact .inl h.1.symm
 ·split at h
  ·rename_i hc;simp only[Prod.mk.injEq] at h;exact absurd h.2.2 hc
  ·simp only[Prod.mk.injEq] at h;exact .inr h.1.symm
def Few (l:List Md):Prop:= ∀(x:Nat) (O:List Nat),O.Nodup→(∀j∈O,IsPart l x j)→O.length≤12
theorem Few.more {l:List Md} {x:Md} (h:Few l) (hg:goodT l) (hu:isU x=false):Few (l++ [x]):=fun a O hO hj=>by
 cases O with
 |nil=>simp
 |cons o O=>
  have ha:=part_in (hj o List.mem_cons_self)
  rw[List.length_append,List.length_singleton] at ha
  by_cases hal:a<l.length
  ·exact h a (o::O) hO fun j hj'=>(part_old hg hal).1 (hj j hj')
  ·obtain rfl:a=l.length:=by omega
   have:=part_head (by simp) (hj o List.mem_cons_self)
   rw[mdAt_last,hu] at this
   cases this
theorem DefL.few {l l':List Md} {ms ns:List Nat} (h:DefL l ms l' ns):checkI l=0→(∀m∈ms,m<l.length)→Few l→Few l':=by
 induction h with
 |nil=>exact fun _ _ h=>h
 |flat _ _ ih=>exact fun hc hm=>ih hc fun x hx=>hm x (List.mem_cons_of_mem _ hx)
 | @flex l l1 l2 l' m n ms ns es hf h1 hp h2 ih1 ih2=>
  intro hc hm hfw
  have hml:=hm m List.mem_cons_self
  have hel:=elems_lt (okT_of hc).good hml
  have ok1:=h1.ok hc hel
  have hc1:=ok1.ext.check hc
  obtain ⟨hl,hr⟩:=h1.es hc hml
  obtain ⟨e12,_⟩:=put_defl hc1 hf hr hp
  have hl2:=(ok1.ext.trans e12).len
  refine ih2 (e12.check hc1) (fun x hx=>by have:=hm x (List.mem_cons_of_mem _ hx);omega) ?_
  have hfw1:=ih1 hc hel hfw
  rcases put_cases hc1 hp with rfl|rfl
  ·exact hfw1
  ·refine hfw1.more (okT_of hc1).good ?_
   have:=rs_isU hf.rs.2
   unfold isU at this ⊢;exact this
def Stb (l:List Md) (j:Nat):Prop:= ∃n,DefL l [j] l [n]
open Classical in
noncomputable def pot (l:List Md):Nat:=l.length+(List.range l.length).countP fun j=>decide (FlexP l j∧ ¬Stb l j)
theorem DefL.inv {l l':List Md} {m:Nat} {ns:List Nat} (hf:FlexP l m) (h:DefL l [m] l' ns): ∃(l1:List Md) (es:List Nat) (n:Nat),DefL l ((mdAt l m).elems.map Int.toNat) l1 es∧putI l1 (deflX (mdAt l m) es)=(l',(n:Int),0)∧ns= [n]:=by
 cases h with
 |flat h1 _=>exact absurd hf h1
 |flex _ h1 h2 h3=>cases h3;exact ⟨_,_,_,h1,h2,rfl⟩
open Classical in
theorem DefL.pot {l l':List Md} {ms ns:List Nat} (h:DefL l ms l' ns):checkI l=0→(∀m∈ms,m<l.length)→pot l<512→Go.Proofs.YtlniliigcnedmaaGreatDoor.pot l'≤Go.Proofs.YtlniliigcnedmaaGreatDoor.pot l:=by
 induction h with
 |nil=>exact fun _ _ _=>Nat.le_refl _
 |flat _ _ ih=>exact fun hc hm=>ih hc fun x hx=>hm x (List.mem_cons_of_mem _ hx)
 | @flex l l1 l2 l' m n ms ns es hf h1 hp h2 ih1 ih2=>
  intro hc hm hpl
  have hml:=hm m List.mem_cons_self
  have hel:=elems_lt (okT_of hc).good hml
  have ok1:=h1.ok hc hel
  have hc1:=ok1.ext.check hc
  have hg1:=(okT_of hc1).good
  obtain ⟨hl,hr⟩:=h1.es hc hml
  obtain ⟨e12,hcx,hn2,_,_,hl12⟩:=put_defl hc1 hf hr hp
  have e2:=ok1.ext.trans e12
  have hl1:=ok1.ext.len
  have hl2:=e2.len
  have hp1:=ih1 hc hel hpl
  have hle: ∀k:List Md,k.length≤Go.Proofs.YtlniliigcnedmaaGreatDoor.pot k:=fun k=>by unfold Go.Proofs.YtlniliigcnedmaaGreatDoor.pot;omega
  have hp2:Go.Proofs.YtlniliigcnedmaaGreatDoor.pot l2≤Go.Proofs.YtlniliigcnedmaaGreatDoor.pot l1:=by
   rcases put_cases hc1 hp with rfl|he
   ·exact Nat.le_refl _
   ·have hfl1:FlexP l1 m:=(ok1.ext.flex hc hml).2 hf
    have hll:l2.length=l1.length+1:=by rw[he];simp
    have hnf: ¬FlexP l2 l1.length:=by rw[he];exact last_nflex hc1 hr
    have hno: ¬Stb l1 m:=by
     rintro ⟨n',hd⟩
     obtain ⟨k1,es',n2,d1,d2,_⟩:=hd.inv hfl1
     have hl1':=hle l1
     have hs:=h1.stable hc hel .refl (by omega)
     rw[←ok1.ext.md hml] at hs
     obtain ⟨rfl,rfl⟩:=hs.det d1
     rw[ok1.ext.md hml,hp,he] at d2
     simp only[Prod.mk.injEq] at d2
     have:=congrArg List.length d2.1
     simp at this
    have hpos:0<(List.range l1.length).countP fun j=>decide (FlexP l1 j∧ ¬Stb l1 j):=List.countP_pos_iff.2 ⟨m,List.mem_range.2 (by omega),by simp[hfl1,hno]⟩
    have hpe:Go.Proofs.YtlniliigcnedmaaGreatDoor.pot l1=l1.length+(List.range l1.length).countP fun j=>decide (FlexP l1 j∧ ¬Stb l1 j):=rfl
    have h512:l2.length<512:=by omega
    have hyes:Stb l2 m:=⟨n,(DefL.flex hf h1 hp .nil).stable hc (by simpa using hml) .refl h512⟩
    have hcnt:((List.range l2.length).countP fun j=>decide (FlexP l2 j∧ ¬Stb l2 j))<(List.range l1.length).countP fun j=>decide (FlexP l1 j∧ ¬Stb l1 j):=by
     rw[hll,List.range_succ,List.countP_append]
     have h0:([l1.length]:List Nat).countP (fun j=>decide (FlexP l2 j∧ ¬Stb l2 j))=0:=by simp[hnf]
     rw[h0,Nat.add_zero]
     refine countP_lt (x:=m) (fun j hj hd=>?_) (List.mem_range.2 (by omega)) (by simp[hyes]) (by simp[hfl1,hno])
     have hj:=List.mem_range.1 hj
     simp only[decide_eq_true_eq] at hd ⊢
     have hfj:=(e12.flex hc1 hj).1 hd.1
     refine ⟨hfj,fun hs=>hd.2 ?_⟩
     obtain ⟨n',hd'⟩:=hs
     exact ⟨n',hd'.stable hc1 (by simpa using hj) e12 h512⟩
    unfold Go.Proofs.YtlniliigcnedmaaGreatDoor.pot
    omega
  have hp':=ih2 (e12.check hc1) (fun x hx=>by have:=hm x (List.mem_cons_of_mem _ hx);omega) (by omega)
  omega
structure Room (l:List Md):Prop where
 ck:checkI l=0
 pot:pot l≤19
 few:Few l
 sm: ∀y∈l,smallN y
 h40: ∀y∈l,y.elems.length<2^40∧y.names.length<2^40
theorem Room.len {l:List Md} (h:Room l):l.length≤19:=by
 have:=h.pot
 unfold Go.Proofs.YtlniliigcnedmaaGreatDoor.pot at this
 omega
theorem Room.t13 {l:List Md} (h:Room l):T13 l:=⟨h.len,fun _=>h.few⟩
end Go.Proofs.YtlniliigcnedmaaGreatDoor
namespace Go.Proofs.YtlniliigcnedmaaGreatDoor
open Go Ax
open Relation
set_option maxRecDepth 100000
open Classical in
noncomputable def deflI (l:List Md) (m:Nat):List Md×Nat:=if h: ∃p:List Md×Nat,DefL l [m] p.1 [p.2] then h.choose else (l,m)
theorem DefL.eq {l l':List Md} {m n:Nat} (h:DefL l [m] l' [n]):deflI l m=(l',n):=by
 have hex: ∃p:List Md×Nat,DefL l [m] p.1 [p.2]:=⟨(l',n),h⟩
 unfold deflI
 rw[dif_pos hex]
 have:=hex.choose_spec.det h
 refine Prod.ext this.1 ?_
 simpa using this.2
noncomputable def leastN (l:List Md) (p:Nat):Nat:=(leastI l p).toNat
def headE (l:List Md) (m:Nat):Nat:=((mdAt l m).elems.getD 0 0).toNat
def lead (l:List Md) (m:Nat):Prop:=(mdAt l m).kind=9∨((mdAt l m).kind=13∧(mdAt l m).elems.length=1)
instance (l:List Md) (m:Nat):Decidable (lead l m):=by unfold lead;infer_instance
inductive Lead (l:List Md):Nat→Nat→Prop
 |stop {a:Nat}: ¬lead l a→Lead l a 0
 |go {a t:Nat}:lead l a→Lead l (headE l a) t→Lead l a (t+1)
theorem lead_elem {l:List Md} (hc:checkI l=0) {a:Nat} (ha:a<l.length) (h:lead l a):(mdAt l a).elems[0]? =some (headE l a:Int)∧headE l a<l.length:=by
 have hmem:mdAt l a∈l:=by rw[mdAt_eq ha];exact List.getElem_mem ha
 have hone:=(oneI_zero ((checkOk_iff.1 hc).one _ hmem)).1
 obtain ⟨_,_,hs,_⟩:=shapeI_zero hone
 have h1:1≤(mdAt l a).elems.length:=by
  rcases h with h|h
  ·have:=hs.1
   unfold least at this
   rw[if_pos (by omega)] at this
   omega
  ·omega
 have h0:=List.getElem?_eq_getElem (l:=(mdAt l a).elems) h1
 have he:=elem_lt (okT_of hc).good ha h0
 have hh:headE l a=((mdAt l a).elems[0]).toNat:=by unfold headE;rw[List.getD_eq_getElem?_getD,h0];rfl
 refine ⟨?_,by rw[hh];exact he.2⟩
 rw[h0,hh,Int.toNat_of_nonneg he.1]
theorem Lead.ext {l k:List Md} (e:Ext l k) (hc:checkI l=0) {a t:Nat} (h:Lead l a t):a<l.length→Lead k a t:=by
 have hm: ∀{a:Nat},a<l.length→(lead k a↔lead l a):=fun ha=>by unfold lead;rw[e.md ha]
 induction h with
 |stop h=>exact fun ha=> .stop fun h'=>h ((hm ha).1 h')
 | @go a t h _ ih=>
  intro ha
  have hh:headE k a=headE l a:=by unfold headE;rw[e.md ha]
  exact .go ((hm ha).2 h) (by rw[hh];exact ih (lead_elem hc ha h).2)
theorem lead_congr {l:List Md} (hc:checkI l=0) {a b:Nat} (ha:a<l.length) (hb:b<l.length) (he:RR l a=RR l b) (h:lead l a):lead l b:=by
 have hk:=RR_kind ha hb he
 rcases h with h|⟨h,h1⟩
 ·exact .inl (by rw[←hk];exact h)
 ·refine .inr ⟨by rw[←hk];exact h,?_⟩
  rw[←(RR_elem (okT_of hc).good ha hb he (by simp[isU,h])).1]
  exact h1
theorem head_congr {l:List Md} (hc:checkI l=0) {a b:Nat} (ha:a<l.length) (hb:b<l.length) (he:RR l a=RR l b) (h:lead l a):RR l (headE l a)=RR l (headE l b):=by
 have hu:isU (mdAt l a)=false:=by
  rcases h with h|h<;>simp[isU,h]
 have:=(RR_elem (okT_of hc).good ha hb he hu).2 0 _ _ (lead_elem hc ha h).1 (lead_elem hc hb (lead_congr hc ha hb he h)).1
 simpa using this
theorem Lead.congr {l:List Md} (hc:checkI l=0) {a t:Nat} (h:Lead l a t): ∀{b:Nat},a<l.length→b<l.length→RR l a=RR l b→Lead l b t:=by
 induction h with
 |stop h=>exact fun ha hb he=> .stop fun h'=>h (lead_congr hc hb ha he.symm h')
 | @go a t h _ ih=>
  intro b ha hb he
  have h':=lead_congr hc ha hb he h
  exact .go h' (ih (lead_elem hc ha h).2 (lead_elem hc hb h').2 (head_congr hc ha hb he h))
noncomputable def downI (l:List Md) (m:Nat):Option (List Md×Nat):=
 if (mdAt l m).kind=9 then some ((deflI l (headE l m)).1,leastN (deflI l (headE l m)).1 (deflI l (headE l m)).2)
 else if (mdAt l m).kind=13∧(mdAt l m).elems.length=1∧(mdAt l (headE l m)).kind≠0 then some (l,leastN l (headE l m)) else none
open Classical in
noncomputable def firmI:Nat→List Md→Nat→Nat→Option (Nat×Bool)
 |0,_,_,_=>none
 |F+1,l,m,to_=>
  if RR l m=RR l to_∨uniB l m to_=true then some (0,!decide (RR l m=RR l to_))
  else match downI l m with
   |none=>none
   |some (l',n)=>(firmI F l' n to_).map fun p=>(p.1+1,p.2)
end Go.Proofs.YtlniliigcnedmaaGreatDoor
namespace Go.Proofs.YtlniliigcnedmaaGreatDoor
open Go Ax
set_option maxRecDepth 100000
theorem k17 (s:AVal) (l:List Md) (a b:Nat) (m:AMem) (hs:RTab m s l) (hsz: ∀x∈l,smallN x) (hn:T13 l) (hc:checkI l=0) (ha:a<l.length) (hb:b<l.length):
  ACalls Tryz.prog 17 [s,.int .i64 a,.int .i64 b] m fun v m'=>v= .tuple [.bool (decide (RR l a=RR l b)),.int .i64 0]∧m<+:m':=by
 refine w17 ?_
 have h60:=hn.len
 have ok:=okT_of hc
 simp[fillA,setN]
 have hA:=two_ints m a b
 have hm1:m<+:m++ [.own [.int .i64 (a:Int),.int .i64 (b:Int)] 3 none]:=List.prefix_append _ _
 generalize AVal.slice m.length 0 2 2 none=t1 at*
 generalize m++ [.own [.int .i64 (a:Int),.int .i64 (b:Int)] 3 none]=m1 at*
 refine C_of (k43 s t1 l [(a:Int),(b:Int)] m1 (hs.mono hm1) hA.ints hsz (by omega) (by simp)) ?_
 rintro _ m2 ⟨rfl,hm2⟩
 rw[rightI_two hc ha hb]
 simp
 refine C_of (k44 s l m2 (hs.mono (hm1.trans hm2)) ok.good hn.t60 hsz ok.h64) ?_
 rintro v3 m3 ⟨hm3,ds,kd,hX,hD⟩
 have hXi:=ints_of_nat hX
 obtain ⟨ba,oa,hpa,hla⟩:=ranksAt hXi (x:=a) (by rw[hD.len];exact ha)
 obtain ⟨bb,ob,hpb,hlb⟩:=ranksAt hXi (x:=b) (by rw[hD.len];exact hb)
 have hla:=hla m3 (List.prefix_refl _)
 have hlb:=hlb m3 (List.prefix_refl _)
 have heq:=hD.sameOrd.eq ha hb
 generalize ds.getD a 0=x at*
 generalize ds.getD b 0=y at*
 have hxy:((x:Int)==(y:Int))=decide (RR l a=RR l b):=by
  rw[Bool.eq_iff_iff,decide_eq_true_iff,←heq]
  simp
  omega
 simp
 refine W_drawPR (by simp[maxDst]) rfl rfl ?_
 simp[hpa,hla,hpb,hlb,hxy]
 intro m4 hm4
 exact ((hm1.trans hm2).trans hm3).trans hm4
end Go.Proofs.YtlniliigcnedmaaGreatDoor
namespace Go.Proofs.YtlniliigcnedmaaGreatDoor
open Go Ax
open Relation
set_option maxRecDepth 100000
theorem firstC_of {x y:Md} (h1:x.kind=y.kind) (h2:x.size=y.size) (h3:x.dims=y.dims) (h4:x.flex=y.flex) (h5:x.kind≠12→x.elems.length=y.elems.length) (h6:lexC cmpS x.names y.names=0):firstC x y=0:=by
 have hz: ∀z:Int,cmpI z z=0:=fun z=>cmpI_zero.2 rfl
 have hl:lenC x y=0:=by
  unfold lenC
  split
  ·rfl
  ·rename_i h;rw[h5 h];exact hz _
 simp[firstC,firstL,firstNZ_cons,h1,h2,h3,h4,h6,hl,hz,firstNZ]
inductive Dq (l:List Md):Nat→Nat→Prop
 |flat {e t:Nat}: ¬FlexP l e→RR l e=RR l t→Dq l e t
 |flex {e t:Nat}:FlexP l e→firstC (mdAt l t) (deflX (mdAt l e) ((mdAt l e).elems.map Int.toNat))=0→(∀(k:Nat) (a b:Int),(mdAt l e).elems[k]? =some a→(mdAt l t).elems[k]? =some b→Dq l a.toNat b.toNat)→Dq l e t
theorem Dq.congr {l:List Md} (hc:checkI l=0) {e t:Nat} (h:Dq l e t): ∀{e':Nat},e<l.length→e'<l.length→t<l.length→RR l e=RR l e'→Dq l e' t:=by
 have hg:=(okT_of hc).good
 induction h with
 |flat h1 h2=>exact fun he he' _ hr=> .flat (fun h=>h1 (h.congr hg he' he hr.symm)) (by rw[←hr];exact h2)
 | @flex e t h1 h2 _ ih=>
  intro e' he he' ht hr
  have hu:=rs_isU h1.rs.2
  obtain ⟨hl,hel⟩:=RR_elem hg he he' hr hu
  obtain ⟨a1,a2,a3,a4,a5,a6⟩:=firstC_all (RR_first he he' hr)
  have hdd:firstC (deflX (mdAt l e) ((mdAt l e).elems.map Int.toNat)) (deflX (mdAt l e') ((mdAt l e').elems.map Int.toNat))=0:=firstC_of a1 a2 a3 rfl (fun _=>by simp[deflX,hl]) a6
  refine .flex (h1.congr hg he he' hr) (firstC_ord.zero_trans trivial trivial trivial h2 hdd) fun k a b g1 g2=>?_
  have hk:k<(mdAt l e).elems.length:=by have:=(List.getElem?_eq_some_iff.1 g1).1;omega
  have h3:=List.getElem?_eq_getElem hk
  exact ih k _ b h3 g2 (elem_lt hg he h3).2 (elem_lt hg he' g1).2 (elem_lt hg ht g2).2 (hel k _ a h3 g1)
end Go.Proofs.YtlniliigcnedmaaGreatDoor
namespace Go.Proofs.YtlniliigcnedmaaGreatDoor
open Go Ax
open Relation
theorem cmpS_zero {a b:ByteArray} (h:cmpS a b=0):a=b:=by
 rw[cmpS_eq] at h
 have:=((bytes_lex a.toList b.toList).2).2 h
 rw[ba_toList,ba_toList,Array.toList_inj] at this
 cases a;cases b;simpa using this
theorem names_eq: ∀{xs ys:List ByteArray},lexC cmpS xs ys=0→xs=ys
 | [],[],_=>rfl
 | [],y::ys,h=>by simp[lexC] at h
 |x::xs,[],h=>by simp[lexC] at h
 |x::xs,y::ys,h=>by
  unfold lexC at h
  split at h
  ·rename_i h1
   exact absurd h h1
  ·rename_i h1
   have h1:cmpS x y=0:=by simpa using h1
   rw[cmpS_zero h1,names_eq h]
end Go.Proofs.YtlniliigcnedmaaGreatDoor
namespace Go.Proofs.YtlniliigcnedmaaGreatDoor
open Go Ax
open Relation
set_option maxRecDepth 100000
def NoHd (P:UInt8→Prop) (r:List UInt8):Prop:= ∀c t,r=c::t→ ¬P c
theorem span_eq {P:UInt8→Prop}: ∀{u v r r':List UInt8},(∀c∈u,P c)→(∀c∈v,P c)→NoHd P r→NoHd P r'→u++r=v++r'→u=v∧r=r'
 | [],[],r,r',_,_,_,_,h=>⟨rfl,h⟩
 | [],c::v,r,r',_,hv,hr,_,h=>absurd (hv c (List.mem_cons_self ..)) (hr c _ h)
 |c::u,[],r,r',hu,_,_,hr',h=>absurd (hu c (List.mem_cons_self ..)) (hr' c _ h.symm)
 |c::u,d::v,r,r',hu,hv,hr,hr',h=>by
  simp only[List.cons_append,List.cons.injEq] at h
  obtain ⟨rfl,h⟩:=h
  obtain ⟨rfl,h2⟩:=span_eq (fun x hx=>hu x (List.mem_cons_of_mem _ hx)) (fun x hx=>hv x (List.mem_cons_of_mem _ hx)) hr hr' h
  exact ⟨rfl,h2⟩
def isTag (c:UInt8):Prop:=(97≤c.toNat∧c.toNat≤122)∨(48≤c.toNat∧c.toNat≤57)
theorem u8_inj {a b:Nat} (ha:a<256) (hb:b<256) (h:a.toUInt8=b.toUInt8):a=b:=by
 have:=congrArg UInt8.toNat h
 simp at this
 omega
theorem u8_nat {a:Nat} (ha:a<256):a.toUInt8.toNat=a:=by simp;omega
end Go.Proofs.YtlniliigcnedmaaGreatDoor
namespace Go.Proofs.YtlniliigcnedmaaGreatDoor
open Go Ax
set_option maxRecDepth 100000
theorem w3 {args m R} (h:W Tryz.prog (.seq (.reg [qb 4 false]) (.kill [0,1] (.seq (.seq (.reg [qc 9 13 [],⟨some 10,.P (.un .not (.t 9)),none⟩]) (.kill [0,1,10] (.cond (.t 10) (.seq (.reg [qb 4 false]) .ret) .skip))) (.kill [0,1] (.seq (.seq (.reg [qv 11 0,qc 12 14 [(.t 11),(qz 12)],⟨some 13,.P (.un .not (.t 12)),none⟩]) (.kill [0,1,13] (.cond (.t 13) (.seq (.reg [qb 4 true]) .ret) .skip))) (.kill [0,1] (.seq (.reg [qv 15 0,qv 16 1,qc 17 15 [(.t 15),(.t 16)],qv 14 17,qx 18 14 0,qx 19 14 1,qv 5 18,qv 6 19]) (.kill [0,1,5,6] (.seq (.reg [qv 21 0,qv 22 1,qc 23 16 [(.t 21),(.t 22)],qv 20 23,qx 24 20 0,qx 25 20 1,qv 7 24,qv 8 25]) (.kill [5,6,7,8] (.seq (.reg [qv 26 5,qv 27 7,qo 28 .eql 26 27,qv 29 28,⟨some 30,.P (.mov (.t 6)),(some (29,true))⟩,⟨some 31,.P (.mov (.t 8)),(some (29,true))⟩,⟨some 32,.P (.bin .eql (.t 30) (.t 31)),(some (29,true))⟩,⟨some 33,.P (.pick (.t 29) (.t 32) (.c (.bool false))),none⟩,qv 4 33]) .ret))))))))))) (E [(.tmp 4)] R .mk) .mk (mat 34 (sArgs 0 args)) m) (hl:Nat.ble args.length 34=true:=by rfl):ACalls Tryz.prog 3 args m R:=walk mix (by kernel_rfl) (Nat.le_of_ble_eq_true hl) h
theorem w10 {args m R} (h:W Tryz.prog (.seq (.reg [qb 6 false]) (.kill [0,1,2] (.seq (.seq (.reg [qc 9 13 [],⟨some 10,.P (.un .not (.t 9)),none⟩]) (.kill [0,1,2,10] (.cond (.t 10) (.seq (.reg [qb 6 false]) .ret) .skip))) (.kill [0,1,2] (.seq (.seq (.reg [qv 11 0,qn 12 11,qk 13 .gtr 12 6,qv 14 13,⟨some 15,.P (.mov (.t 0)),(some (14,false))⟩,⟨some 16,.C (.c (.func (.func 33) [] [])) [(.t 15),(.c (.func (.func 34) [] []))],(some (14,false))⟩,⟨some 17,.P (.pick (.t 14) (.c (.bool true)) (.t 16)),none⟩,qv 18 17,⟨some 19,.P (.mov (.t 0)),(some (18,false))⟩,⟨some 20,.P (.mov (.t 1)),(some (18,false))⟩,⟨some 21,.P (.mov (.t 2)),(some (18,false))⟩,⟨some 22,.A (.bslice 3 2 [(.int .i64 0)] [(0,(1,(.t 20))),(1,(1,(.t 21)))]),(some (18,false))⟩,⟨some 23,.C (.c (.func (.func 21) [] [])) [(.t 19),(.t 22)],(some (18,false))⟩,⟨some 24,.P (.un .not (.t 23)),(some (18,false))⟩,⟨some 25,.P (.pick (.t 18) (.c (.bool true)) (.t 24)),none⟩]) (.kill [0,1,2,25] (.cond (.t 25) (.seq (.reg [qb 6 true]) .ret) .skip))) (.kill [0,1,2] (.seq (.reg [qv 27 0,qv 28 1,qv 29 2,qc 30 17 [(.t 27),(.t 28),(.t 29)],qv 26 30,qx 31 26 0,qx 32 26 1,qv 7 31,qv 8 32]) (.kill [0,1,2,7,8] (.seq (.reg [qv 33 8,qk 34 .eql 33 0,qv 35 34,⟨some 36,.P (.mov (.t 7)),(some (35,true))⟩,⟨some 37,.P (.mov (.t 0)),(some (35,true))⟩,⟨some 38,.P (.mov (.t 1)),(some (35,true))⟩,⟨some 39,.C (.c (.func (.func 35) [] [])) [(.t 37),(.t 38),(qz 7)],(some (35,true))⟩,⟨some 40,.P (.mov (.t 0)),(some (35,true))⟩,⟨some 41,.P (.mov (.t 2)),(some (35,true))⟩,⟨some 42,.C (.c (.func (.func 35) [] [])) [(.t 40),(.t 41),(qz 7)],(some (35,true))⟩,⟨some 43,.P (.bin .eql (.t 39) (.t 42)),(some (35,true))⟩,⟨some 44,.P (.eqB false (.t 36) (.t 43)),(some (35,true))⟩,⟨some 45,.P (.pick (.t 35) (.t 44) (.c (.bool false))),none⟩,qv 6 45]) .ret))))))))) (E [(.tmp 6)] R .mk) .mk (mat 46 (sArgs 0 args)) m) (hl:Nat.ble args.length 46=true:=by rfl):ACalls Tryz.prog 10 args m R:=walk mix (by kernel_rfl) (Nat.le_of_ble_eq_true hl) h
theorem w13 {args m R} (h:W Tryz.prog (.seq (.reg [qb 0 false]) (.kill [] (.seq (.reg [⟨some 9,.A (.bslice 3 2 [(.int .i64 0)] [(0,(1,(qz 1))),(1,(1,(qz 2)))]),none⟩,⟨some 10,.A (.bslice 9 2 [(.str ⟨#[]⟩)] [(0,(1,(.c (.str ⟨#[118]⟩)))),(1,(1,(.c (.str ⟨#[110,101,120,116]⟩))))]),none⟩,⟨some 11,.P (.build [(.int .i64 0),(.int .i64 0),.nilslice,.nilslice,(.int .i64 0),(.bool false)] [(0,(1,(qz 11))),(2,(1,(.t 9))),(3,(1,(.t 10)))]),none⟩,⟨some 12,.P (.build [(.int .i64 0),(.int .i64 0),.nilslice,.nilslice,(.int .i64 0),(.bool false)] [(0,(1,(qz 3)))]),none⟩,⟨some 13,.A (.bslice 3 1 [(.int .i64 0)] [(0,(1,(qz 3)))]),none⟩,⟨some 14,.P (.build [(.int .i64 0),(.int .i64 0),.nilslice,.nilslice,(.int .i64 0),(.bool false)] [(0,(1,(qz 9))),(2,(1,(.t 13)))]),none⟩,⟨some 15,.A (.bslice 3 2 [(.int .i64 0)] [(0,(1,(qz 1))),(1,(1,(qz 4)))]),none⟩,⟨some 16,.A (.bslice 9 2 [(.str ⟨#[]⟩)] [(0,(1,(.c (.str ⟨#[118]⟩)))),(1,(1,(.c (.str ⟨#[110,101,120,116]⟩))))]),none⟩,⟨some 17,.P (.build [(.int .i64 0),(.int .i64 0),.nilslice,.nilslice,(.int .i64 0),(.bool false)] [(0,(1,(qz 11))),(2,(1,(.t 15))),(3,(1,(.t 16)))]),none⟩,⟨some 18,.A (.bslice 3 1 [(.int .i64 0)] [(0,(1,(qz 0)))]),none⟩,⟨some 19,.P (.build [(.int .i64 0),(.int .i64 0),.nilslice,.nilslice,(.int .i64 0),(.bool false)] [(0,(1,(qz 9))),(2,(1,(.t 18)))]),none⟩,⟨some 20,.A (.bslice 39 5 [(.int .i64 0),(.int .i64 0),.nilslice,.nilslice,(.int .i64 0),(.bool false)] [(0,(6,(.t 11))),(6,(6,(.t 12))),(12,(6,(.t 14))),(18,(6,(.t 17))),(24,(6,(.t 19)))]),none⟩,qv 1 20]) (.kill [1] (.seq (.reg [qv 22 1,qc 23 15 [(.t 22),(qz 2)],qv 21 23,qx 24 21 0,qx 25 21 1,qv 2 24,qv 3 25]) (.kill [1,2,3] (.seq (.reg [qv 27 1,qc 28 17 [(.t 27),(qz 0),(qz 3)],qv 26 28,qx 29 26 0,qx 30 26 1,qv 4 29,qv 5 30]) (.kill [1,2,3,4,5] (.seq (.reg [qv 32 1,qc 33 28 [(.t 32)],qv 31 33,qx 34 31 0,qx 35 31 1,qx 36 31 2,qv 6 34,qv 7 35,qv 8 36]) (.kill [2,3,4,5,6,7,8] (.seq (.reg [qv 37 2,⟨some 38,.P (.bin .eql (.t 37) (.c (.str ⟨#[82,69,70,32,83,84,82,85,67,84,40,73,78,84,32,118,44,32,35,48,32,110,101,120,116,41]⟩))),none⟩,qv 39 38,⟨some 40,.P (.mov (.t 3)),(some (39,true))⟩,⟨some 41,.P (.mov (.t 5)),(some (39,true))⟩,⟨some 42,.P (.bin .add (.t 40) (.t 41)),(some (39,true))⟩,⟨some 43,.P (.mov (.t 8)),(some (39,true))⟩,⟨some 44,.P (.bin .add (.t 42) (.t 43)),(some (39,true))⟩,⟨some 45,.P (.bin .eql (.t 44) (qz 0)),(some (39,true))⟩,⟨some 46,.P (.pick (.t 39) (.t 45) (.c (.bool false))),none⟩,qv 47 46,⟨some 48,.P (.mov (.t 4)),(some (47,true))⟩,⟨some 49,.P (.pick (.t 47) (.t 48) (.c (.bool false))),none⟩,qv 50 49,⟨some 51,.P (.mov (.t 6)),(some (50,true))⟩,⟨some 52,.P (.len (.t 51)),(some (50,true))⟩,⟨some 53,.P (.bin .eql (.t 52) (qz 3)),(some (50,true))⟩,⟨some 54,.P (.pick (.t 50) (.t 53) (.c (.bool false))),none⟩,qv 55 54,⟨some 56,.P (.mov (.t 7)),(some (55,true))⟩,⟨some 57,.A (.bslice 3 5 [(.int .i64 0)] [(0,(1,(qz 2))),(1,(1,(qz 0))),(2,(1,(qz 1))),(3,(1,(qz 2))),(4,(1,(qz 1)))]),(some (55,true))⟩,⟨some 58,.C (.c (.func (.func 27) [] [])) [(.t 56),(.t 57)],(some (55,true))⟩,⟨some 59,.P (.pick (.t 55) (.t 58) (.c (.bool false))),none⟩,qv 0 59]) .ret))))))))))) (E [(.tmp 0)] R .mk) .mk (mat 60 (sArgs 0 args)) m) (hl:Nat.ble args.length 60=true:=by rfl):ACalls Tryz.prog 13 args m R:=walk mix (by kernel_rfl) (Nat.le_of_ble_eq_true hl) h
theorem w15 {args m R} (h:W Tryz.prog (.seq (.reg [⟨some 4,.P (.mov (.c (.str ⟨#[]⟩))),none⟩,qi 5 0]) (.kill [0,1] (.seq (.seq (.reg [qv 8 0,qv 9 1,⟨some 10,.A (.bslice 3 1 [(.int .i64 0)] [(0,(1,(.t 9)))]),none⟩,qc 11 43 [(.t 8),(.t 10)],qv 6 11]) (.kill [0,1,6] (.seq (.reg [qv 12 6,qk 13 .neq 12 0]) (.kill [0,1,6,13] (.cond (.t 13) (.seq (.reg [qv 14 6,⟨some 4,.P (.mov (.c (.str ⟨#[]⟩))),none⟩,qv 5 14]) .ret) .skip))))) (.kill [0,1] (.seq (.reg [qv 15 0,qv 16 0,qc 17 44 [(.t 16)],⟨some 18,.W .mkmap,none⟩,⟨some 19,.P (.build [.nilptr,.nilslice,.nilslice,.nilslice,.nilmap] [(2,(1,(.t 15))),(3,(1,(.t 17))),(4,(1,(.t 18)))]),none⟩,⟨some 20,.A (.box 71 (.t 19)),none⟩,qv 7 20]) (.kill [1,7] (.seq (.reg [qv 21 7,qv 22 1,qc 23 45 [(.t 21),(.t 22)]]) (.kill [7] (.seq (.reg [qv 24 7,⟨some 25,.P (.nilck (.t 24)),none⟩,⟨some 26,.P (.faddr 0 (.t 25)),none⟩,qc 27 46 [(.t 26)],qv 4 27,qi 5 0]) .ret))))))))) (E [(.tmp 4),(.tmp 5)] R .mk) .mk (mat 28 (sArgs 0 args)) m) (hl:Nat.ble args.length 28=true:=by rfl):ACalls Tryz.prog 15 args m R:=walk mix (by kernel_rfl) (Nat.le_of_ble_eq_true hl) h
end Go.Proofs.YtlniliigcnedmaaGreatDoor
namespace Go.Proofs.YtlniliigcnedmaaGreatDoor
open Go Ax
set_option maxRecDepth 100000
theorem w21 {args m R} (h:W Tryz.prog (.seq (.reg [⟨some 2,.A (.box 22 (.t 0)),none⟩,qb 4 false]) (.kill [1,2] (.seq (.reg [ql 5 2,qc 6 52 [(.t 5)],qk 7 .eql 6 0,qv 8 7,⟨some 9,.P (.mov (.t 1)),(some (8,true))⟩,⟨some 10,.P (.mkfn (.func 53) [] [(.t 2)]),(some (8,true))⟩,⟨some 11,.C (.c (.func (.func 36) [] [])) [(.t 9),(.t 10)],(some (8,true))⟩,⟨some 12,.P (.un .not (.t 11)),(some (8,true))⟩,⟨some 13,.P (.pick (.t 8) (.t 12) (.c (.bool false))),none⟩,qv 4 13]) .ret))) (E [(.tmp 4)] R .mk) .mk (mat 14 (sArgs 0 args)) m) (hl:Nat.ble args.length 14=true:=by rfl):ACalls Tryz.prog 21 args m R:=walk mix (by kernel_rfl) (Nat.le_of_ble_eq_true hl) h
theorem w34 {args m R} (h:W Tryz.prog (.seq (.reg [⟨some 1,.A (.box 39 (.t 0)),none⟩,qb 2 false]) (.kill [1] (.seq (.reg [⟨some 3,.P (.faddr 2 (.t 1)),none⟩,ql 4 3,qn 5 4,qk 6 .gtr 5 2,qv 7 6,⟨some 8,.P (.faddr 3 (.t 1)),(some (7,false))⟩,⟨some 9,.R (.load 1 false (.t 8)),(some (7,false))⟩,⟨some 10,.P (.len (.t 9)),(some (7,false))⟩,⟨some 11,.P (.bin .gtr (.t 10) (qz 2)),(some (7,false))⟩,⟨some 12,.P (.pick (.t 7) (.c (.bool true)) (.t 11)),none⟩,qv 2 12]) .ret))) (E [(.tmp 2)] R .mk) .mk (mat 13 (sArgs 0 args)) m) (hl:Nat.ble args.length 13=true:=by rfl):ACalls Tryz.prog 34 args m R:=walk mix (by kernel_rfl) (Nat.le_of_ble_eq_true hl) h
theorem w35 {args m R} (h:W Tryz.prog (.seq (.reg [⟨some 6,.P (.mov (.c (.str ⟨#[]⟩))),none⟩]) (.kill [0,1,2] (.seq (.reg [qv 12 0,qv 13 1,qa 14 6 12 13,⟨some 15,.R (.load 6 true (.t 14)),none⟩,⟨some 7,.A (.alloc 39 [(.int .i64 0),(.int .i64 0),.nilslice,.nilslice,(.int .i64 0),(.bool false)]),none⟩,⟨none,.W (.store 6 (.t 7) (.t 15)),none⟩]) (.kill [0,1,2,7] (.seq (.reg [⟨some 16,.P (.faddr 0 (.t 7)),none⟩,ql 17 16,⟨some 18,.P (.bin .add (qz 97) (.t 17)),none⟩,⟨some 19,.P (.i2i .u8 (.t 18)),none⟩,⟨some 20,.P (.faddr 1 (.t 7)),none⟩,ql 21 20,⟨some 22,.P (.bin .add (qz 51) (.t 21)),none⟩,⟨some 23,.P (.i2i .u8 (.t 22)),none⟩,⟨some 24,.P (.faddr 4 (.t 7)),none⟩,ql 25 24,⟨some 26,.P (.bin .add (qz 48) (.t 25)),none⟩,⟨some 27,.P (.i2i .u8 (.t 26)),none⟩,⟨some 28,.A (.bslice 5 3 [(.int .u8 0)] [(0,(1,(.t 19))),(1,(1,(.t 23))),(2,(1,(.t 27)))]),none⟩,⟨some 29,.R (.rk .b2s (.t 28)),none⟩,qv 8 29]) (.kill [0,1,2,7,8] (.seq (.seq (.reg [⟨some 30,.P (.faddr 5 (.t 7)),none⟩,ql 31 30]) (.kill [0,1,2,7,8,31] (.cond (.t 31) (.reg [qv 32 8,⟨some 33,.P (.bin .add (.t 32) (.c (.str ⟨#[33]⟩))),none⟩,qv 8 33]) .skip))) (.kill [0,1,2,7,8] (.seq (.reg [qv 34 8,⟨some 35,.P (.faddr 3 (.t 7)),none⟩,ql 36 35,⟨some 37,.C (.c (.func (.func 68) [] [])) [(.t 36),(.c (.str ⟨#[47]⟩))],none⟩,qo 38 .add 34 37,qv 8 38]) (.kill [0,1,2,7,8] (.seq (.seq (.reg [⟨some 39,.P (.faddr 0 (.t 7)),none⟩,ql 40 39,qk 41 .neq 40 12]) (.kill [0,1,2,7,8,41] (.cond (.t 41) (.reg [qv 42 8,⟨some 43,.P (.faddr 2 (.t 7)),none⟩,ql 44 43,qn 45 44,⟨some 46,.C (.c (.func (.func 69) [] [])) [(.c (.str ⟨#[46]⟩)),(.t 45)],none⟩,qo 47 .add 42 46,qv 8 47]) .skip))) (.kill [0,1,2,7,8] (.seq (.seq (.reg [qv 48 2,qk 49 .eql 48 0]) (.kill [0,1,2,7,8,49] (.cond (.t 49) (.seq (.reg [qv 50 8,qv 6 50]) .ret) .skip))) (.kill [0,1,2,7,8] (.seq (.reg [⟨some 9,.P (.mov (.c .nilslice)),none⟩]) (.seq (.seq (.reg [⟨some 51,.P (.faddr 0 (.t 7)),none⟩,ql 52 51,qk 53 .eql 52 12]) (.kill [0,1,2,7,8,9,53] (.cond (.t 53) (.seq (.reg [qv 54 0,qv 55 1,qv 56 2,qk 57 .sub 56 1,qc 58 70 [(.t 54),(.t 55),(.t 57)],qv 9 58]) (.kill [8,9] (.seq (.reg [qv 59 9,qc 60 71 [(.t 59)]]) (.kill [8,9] (.reg [qv 61 9,qc 62 72 [(.t 61)],qv 9 62]))))) (.seq (.reg [⟨some 63,.P (.faddr 2 (.t 7)),none⟩,ql 64 63,qn 65 64,qi 66 0]) (.kill [0,2,8,9,64,65,66] (.block 0 (.kill [0,2,8,9,64,65,66] (.loop (.fin [0,2,8,9,64,65,66] (.seq (.reg [qo 67 .lss 66 65]) (.seq (.cond (.t 67) .skip (.exit 0)) (.kill [0,2,8,9,64,65,66] (.seq (.block 1 (.seq (.reg [qa 68 1 64 66,ql 69 68,qv 11 69]) (.kill [0,2,8,9,11,64,65,66] (.reg [qv 70 9,qv 71 0,qv 72 11,qv 73 2,qk 74 .sub 73 1,qc 75 35 [(.t 71),(.t 72),(.t 74)],⟨some 76,.A (.bslice 9 1 [(.str ⟨#[]⟩)] [(0,(1,(.t 75)))]),none⟩,⟨some 77,.W (.append 1 16 9 false (.t 70) (.t 76)),none⟩,qv 9 77])))) (.kill [0,2,8,9,64,65,66] (.reg [qk 78 .add 66 1,qv 66 78]))))))))))))))) (.kill [8,9] (.seq (.reg [qv 79 8,⟨some 80,.P (.bin .add (.t 79) (.c (.str ⟨#[40]⟩))),none⟩,qv 81 9,⟨some 82,.C (.c (.func (.func 68) [] [])) [(.t 81),(.c (.str ⟨#[44]⟩))],none⟩,qo 83 .add 80 82,⟨some 84,.P (.bin .add (.t 83) (.c (.str ⟨#[41]⟩))),none⟩,qv 6 84]) .ret)))))))))))))))))) (E [(.tmp 6)] R .mk) .mk (mat 85 (sArgs 0 args)) m) (hl:Nat.ble args.length 85=true:=by rfl):ACalls Tryz.prog 35 args m R:=walk mix (by kernel_rfl) (Nat.le_of_ble_eq_true hl) h
abbrev h35_0 (t0 t2 t8 t9 t64 t65 t66:AVal):AFrame:=mat 85 [(0,t0),(2,t2),(8,t8),(9,t9),(64,t64),(65,t65),(66,t66)]
theorem w45 {args m R} (h:W Tryz.prog (.seq (.reg [qv 8 0,⟨some 9,.P (.nilck (.t 8)),none⟩,⟨some 10,.P (.faddr 2 (.t 9)),none⟩,ql 11 10,qv 12 1,qa 13 6 11 12,⟨some 14,.R (.load 6 true (.t 13)),none⟩,⟨some 4,.A (.alloc 39 [(.int .i64 0),(.int .i64 0),.nilslice,.nilslice,(.int .i64 0),(.bool false)]),none⟩,⟨none,.W (.store 6 (.t 4) (.t 14)),none⟩]) (.kill [0,1,4] (.seq (.seq (.reg [⟨some 15,.P (.faddr 0 (.t 4)),none⟩,ql 16 15,qk 17 .lss 16 9]) (.kill [0,1,4,17] (.cond (.t 17) (.seq (.draw2 true [qv 18 0,⟨some 19,.P (.nilck (.t 18)),none⟩,⟨some 20,.P (.faddr 0 (.t 19)),none⟩,⟨some 21,.W .mkmap,none⟩,⟨none,.W (.mapset (.t 21) (.c (.int .i64 (-1))) (.c (.str ⟨#[83,72,79,82,84,32]⟩))),none⟩,⟨none,.W (.mapset (.t 21) (qz 1) (.c (.str ⟨#[76,79,78,71,32]⟩))),none⟩,qv 22 21,⟨some 23,.P (.faddr 1 (.t 4)),none⟩,ql 24 23,⟨some 25,.R (.lookup (.str ⟨#[]⟩) false (.t 22) (.t 24)),none⟩,⟨some 26,.P (.faddr 0 (.t 4)),none⟩,ql 27 26,⟨some 28,.P (.iaddrA 9 1 (.c (.gptr 0 0)) (.t 27)),none⟩,ql 29 28,qo 30 .add 25 29,qc 31 88 [(.t 20),(.t 30)]] [[],[],[],[],[],[],[],[],[],[],[],[],[],[],[],[]] [[],[],[],[8,11,13],[8,11,13],[8,11,13],[],[],[],[],[],[],[],[],[],[]] [0,1,2,7,8,10,11,12,13,3,4,5,6,9,14,15] [0,1,2,7,8,10,11,12,13,3,5,4,6,9,14,15]) .ret) .skip))) (.kill [0,1,4] (.seq (.seq (.draw true [qv 33 0,⟨some 34,.P (.nilck (.t 33)),none⟩,⟨some 35,.P (.faddr 4 (.t 34)),none⟩,ql 36 35,qv 37 0,⟨some 38,.P (.nilck (.t 37)),none⟩,⟨some 39,.P (.faddr 3 (.t 38)),none⟩,ql 40 39,qv 41 1,qa 42 1 40 41,ql 43 42,⟨some 44,.R (.lookup (.int .i64 0) true (.t 36) (.t 43)),none⟩,qv 32 44,qx 45 32 0,qx 46 32 1,qv 5 45,qv 6 46] [[],[],[],[],[],[],[],[],[],[],[],[],[],[],[],[],[]] [[],[],[],[],[],[],[],[],[],[],[],[],[],[],[],[],[]] [0,1,2,3,4,5,6,7,8,9,10,11,12,13,14,15,16]) (.kill [0,1,4,5,6] (.seq (.reg [qv 47 6]) (.kill [0,1,4,5,47] (.cond (.t 47) (.seq (.draw true [qv 48 0,⟨some 49,.P (.nilck (.t 48)),none⟩,⟨some 50,.P (.faddr 0 (.t 49)),none⟩,qv 51 5,qc 52 89 [(.t 51)],⟨some 53,.P (.bin .add (.c (.str ⟨#[35]⟩)) (.t 52)),none⟩,qc 54 88 [(.t 50),(.t 53)]] [[],[],[],[],[],[4],[4]] [[],[],[],[],[],[],[]] [0,1,2,3,4,5,6]) .ret) .skip))))) (.kill [0,1,4] (.seq (.draw true [qv 55 0,⟨some 56,.P (.nilck (.t 55)),none⟩,⟨some 57,.P (.faddr 4 (.t 56)),none⟩,ql 58 57,qv 59 0,⟨some 60,.P (.nilck (.t 59)),none⟩,⟨some 61,.P (.faddr 3 (.t 60)),none⟩,ql 62 61,qv 63 1,qa 64 1 62 63,ql 65 64,qv 66 0,⟨some 67,.P (.nilck (.t 66)),none⟩,⟨some 68,.P (.faddr 4 (.t 67)),none⟩,ql 69 68,⟨some 70,.R (.rk .mlen (.t 69)),none⟩,⟨none,.W (.mapset (.t 58) (.t 65) (.t 70)),none⟩] [[],[],[],[],[],[],[],[],[],[],[],[],[],[],[],[],[]] [[],[],[],[],[],[],[],[],[],[],[],[],[],[],[],[],[]] [0,1,2,3,4,5,6,7,8,9,10,11,12,13,14,15,16]) (.kill [0,1,4] (.seq (.seq (.reg [⟨some 71,.P (.faddr 0 (.t 4)),none⟩,ql 72 71]) (.kill [0,1,4,72] (.block 0 (.seq (.reg [qk 74 .eql 72 9,qv 73 74]) (.kill [0,1,4,72,73] (.cond (.t 73) (.reg [qv 75 0,⟨some 76,.P (.nilck (.t 75)),none⟩,⟨some 77,.P (.faddr 0 (.t 76)),none⟩,⟨some 78,.C (.c (.func (.func 88) [] [])) [(.t 77),(.c (.str ⟨#[82,69,70,32]⟩))],none⟩]) (.seq (.reg [qk 80 .eql 72 10,qv 79 80]) (.kill [0,1,4,72,79] (.cond (.t 79) (.seq (.seq (.reg [⟨some 81,.P (.faddr 5 (.t 4)),none⟩,ql 82 81]) (.kill [0,4,82] (.cond (.t 82) (.reg [qv 83 0,⟨some 84,.P (.nilck (.t 83)),none⟩,⟨some 85,.P (.faddr 0 (.t 84)),none⟩,⟨some 86,.C (.c (.func (.func 88) [] [])) [(.t 85),(.c (.str ⟨#[70,76,69,88,32]⟩))],none⟩]) .skip))) (.kill [0,4] (.draw true [qv 87 0,⟨some 88,.P (.nilck (.t 87)),none⟩,⟨some 89,.P (.faddr 0 (.t 88)),none⟩,⟨some 90,.P (.faddr 4 (.t 4)),none⟩,ql 91 90,qk 92 .sub 91 1,⟨some 93,.C (.c (.func (.func 69) [] [])) [(.c (.str ⟨#[44]⟩)),(.t 92)],none⟩,⟨some 94,.P (.bin .add (.c (.str ⟨#[91]⟩)) (.t 93)),none⟩,⟨some 95,.P (.bin .add (.t 94) (.c (.str ⟨#[93]⟩))),none⟩,qc 96 88 [(.t 89),(.t 95)]] [[],[],[],[],[],[],[],[6],[6],[6]] [[],[],[],[],[],[],[],[],[],[]] [0,1,2,3,4,5,6,7,8,9]))) (.seq (.reg [qk 98 .eql 72 11,qv 97 98]) (.kill [0,1,4,72,97] (.cond (.t 97) (.seq (.reg [qv 99 0,⟨some 100,.P (.nilck (.t 99)),none⟩,⟨some 101,.P (.faddr 0 (.t 100)),none⟩,⟨some 102,.C (.c (.func (.func 88) [] [])) [(.t 101),(.c (.str ⟨#[83,84,82,85,67,84]⟩))],none⟩]) (.kill [0,4] (.seq (.reg [qv 103 0,⟨some 104,.P (.faddr 2 (.t 4)),none⟩,ql 105 104,⟨some 106,.P (.faddr 3 (.t 4)),none⟩,ql 107 106,qc 108 90 [(.t 103),(.t 105),(.t 107)]]) .ret))) (.seq (.reg [qk 110 .eql 72 12,qv 109 110]) (.kill [0,1,4,72,109] (.cond (.t 109) (.seq (.reg [qv 111 0,⟨some 112,.P (.nilck (.t 111)),none⟩,⟨some 113,.P (.faddr 0 (.t 112)),none⟩,⟨some 114,.C (.c (.func (.func 88) [] [])) [(.t 113),(.c (.str ⟨#[85,78,73,79,78]⟩))],none⟩]) (.kill [0,1] (.seq (.draw true [qv 115 0,qv 116 0,⟨some 117,.P (.nilck (.t 116)),none⟩,⟨some 118,.P (.faddr 2 (.t 117)),none⟩,ql 119 118,qv 120 1,qv 121 0,⟨some 122,.P (.nilck (.t 121)),none⟩,⟨some 123,.P (.faddr 3 (.t 122)),none⟩,ql 124 123,qc 125 54 [(.t 119),(.t 120),(.t 124)],qc 126 90 [(.t 115),(.t 125),(.c .nilslice)]] [[],[],[],[],[],[],[],[],[],[],[],[10]] [[],[],[],[],[],[],[],[],[],[],[],[]] [0,1,2,3,4,5,6,7,8,9,10,11]) .ret))) (.seq (.reg [qk 128 .eql 72 13,qv 127 128]) (.kill [0,4,127] (.cond (.t 127) (.seq (.reg [qv 129 0,⟨some 130,.P (.nilck (.t 129)),none⟩,⟨some 131,.P (.faddr 0 (.t 130)),none⟩,⟨some 132,.C (.c (.func (.func 88) [] [])) [(.t 131),(.c (.str ⟨#[80,82,79,67]⟩))],none⟩]) (.kill [0,4] (.seq (.seq (.reg [⟨some 133,.P (.faddr 2 (.t 4)),none⟩,ql 134 133,qn 135 134,qk 136 .sub 135 1,qv 7 136]) (.kill [0,4,7] (.seq (.reg [qv 137 7,qk 138 .gtr 137 0]) (.kill [0,4,7,138] (.cond (.t 138) (.reg [qv 139 0,⟨some 140,.P (.faddr 2 (.t 4)),none⟩,ql 141 140,qv 142 7,⟨some 143,.P (.slice 1 (.t 141) none (some (.t 142)) none),none⟩,qc 144 90 [(.t 139),(.t 143),(.c .nilslice)]]) .skip))))) (.kill [0,4] (.reg [qv 145 0,⟨some 146,.P (.nilck (.t 145)),none⟩,⟨some 147,.P (.faddr 0 (.t 146)),none⟩,⟨some 148,.C (.c (.func (.func 88) [] [])) [(.t 147),(.c (.str ⟨#[32]⟩))],none⟩]))))) .skip)))))))))))))))))) (.kill [0,4] (.reg [qv 149 0,⟨some 150,.P (.faddr 2 (.t 4)),none⟩,ql 151 150,⟨some 152,.P (.faddr 2 (.t 4)),none⟩,ql 153 152,qn 154 153,qk 155 .sub 154 1,qa 156 1 151 155,ql 157 156,qc 158 45 [(.t 149),(.t 157)]]))))))))))) (E [] R .mk) .mk (mat 159 (sArgs 0 args)) m) (hl:Nat.ble args.length 159=true:=by rfl):ACalls Tryz.prog 45 args m R:=walk mix (by kernel_rfl) (Nat.le_of_ble_eq_true hl) h
theorem w46 {args m R} (h:W Tryz.prog (.seq (.reg [⟨some 2,.P (.mov (.c (.str ⟨#[]⟩))),none⟩]) (.kill [0] (.seq (.draw true [qv 3 0,⟨some 4,.P (.nilck (.t 3)),none⟩,⟨some 5,.P (.faddr 1 (.t 4)),none⟩,ql 6 5,⟨some 7,.P (.sdata (.t 6)),none⟩,qv 8 0,⟨some 9,.P (.nilck (.t 8)),none⟩,⟨some 10,.P (.faddr 1 (.t 9)),none⟩,ql 11 10,qn 12 11,⟨some 13,.W (.ustr 5 (.t 7) (.t 12)),none⟩,qv 2 13] [[],[],[],[],[],[],[],[],[],[],[],[]] [[],[],[],[],[],[],[],[],[],[],[],[]] [0,1,2,3,4,5,6,7,8,9,10,11]) .ret))) (E [(.tmp 2)] R .mk) .mk (mat 14 (sArgs 0 args)) m) (hl:Nat.ble args.length 14=true:=by rfl):ACalls Tryz.prog 46 args m R:=walk mix (by kernel_rfl) (Nat.le_of_ble_eq_true hl) h
theorem w53 {args m R} (h:W Tryz.prog (.seq (.reg [qb 3 false]) (.kill [0,1] (.seq (.reg [qv 4 0,qk 5 .lss 4 0,qv 6 5,⟨some 7,.P (.mov (.t 0)),(some (6,false))⟩,⟨some 8,.R (.load 1 false (.t 1)),(some (6,false))⟩,⟨some 9,.P (.len (.t 8)),(some (6,false))⟩,⟨some 10,.P (.bin .geq (.t 7) (.t 9)),(some (6,false))⟩,⟨some 11,.P (.pick (.t 6) (.c (.bool true)) (.t 10)),none⟩,qv 3 11]) .ret))) (E [(.tmp 3)] R .mk) .mk (mat 12 (sArgs 0 args)) m) (hl:Nat.ble args.length 12=true:=by rfl):ACalls Tryz.prog 53 args m R:=walk mix (by kernel_rfl) (Nat.le_of_ble_eq_true hl) h
theorem w70 {args m R} (h:W Tryz.prog (.seq (.reg [⟨some 6,.P (.mov (.c .nilslice)),none⟩]) (.kill [0,1,2] (.seq (.reg [⟨some 7,.P (.mov (.c .nilslice)),none⟩]) (.seq (.seq (.reg [qv 10 0,qv 11 1,qa 12 6 10 11,⟨some 13,.P (.faddr 2 (.t 12)),none⟩,ql 14 13,qn 15 14,qi 16 0]) (.kill [0,2,7,14,15,16] (.block 0 (.kill [0,2,7,14,15,16] (.loop (.fin [0,2,7,14,15,16] (.seq (.reg [qo 17 .lss 16 15]) (.seq (.cond (.t 17) .skip (.exit 0)) (.kill [0,2,7,14,15,16] (.seq (.block 1 (.seq (.reg [qa 18 1 14 16,ql 19 18,qv 9 19]) (.kill [0,2,7,9,14,15,16] (.seq (.reg [qv 20 0,qv 21 9,qa 22 6 20 21,⟨some 23,.P (.faddr 0 (.t 22)),none⟩,ql 24 23,qk 25 .eql 24 12]) (.kill [0,2,7,9,14,15,16,25] (.cond (.t 25) (.reg [qv 26 7,qv 27 0,qv 28 9,qv 29 2,qc 30 70 [(.t 27),(.t 28),(.t 29)],⟨some 31,.W (.append 1 16 9 false (.t 26) (.t 30)),none⟩,qv 7 31]) (.reg [qv 32 7,qv 33 0,qv 34 9,qv 35 2,qc 36 35 [(.t 33),(.t 34),(.t 35)],⟨some 37,.A (.bslice 9 1 [(.str ⟨#[]⟩)] [(0,(1,(.t 36)))]),none⟩,⟨some 38,.W (.append 1 16 9 false (.t 32) (.t 37)),none⟩,qv 7 38]))))))) (.kill [0,2,7,14,15,16] (.reg [qk 39 .add 16 1,qv 16 39])))))))))))) (.kill [7] (.seq (.reg [qv 40 7,qv 6 40]) .ret)))))) (E [(.tmp 6)] R .mk) .mk (mat 41 (sArgs 0 args)) m) (hl:Nat.ble args.length 41=true:=by rfl):ACalls Tryz.prog 70 args m R:=walk mix (by kernel_rfl) (Nat.le_of_ble_eq_true hl) h
abbrev h70_0 (t0 t2 t7 t14 t15 t16:AVal):AFrame:=mat 41 [(0,t0),(2,t2),(7,t7),(14,t14),(15,t15),(16,t16)]
theorem w72 {args m R} (h:W Tryz.prog (.seq (.reg [⟨some 2,.P (.mov (.c .nilslice)),none⟩]) (.kill [0] (.seq (.seq (.reg [qv 6 0,qn 7 6,qk 8 .lss 7 2]) (.kill [0,8] (.cond (.t 8) (.seq (.reg [qv 9 0,qv 2 9]) .ret) .skip))) (.kill [0] (.seq (.seq (.reg [qi 3 1]) (.block 0 (.kill [0,3] (.loop (.fin [0,3] (.seq (.seq (.reg [qv 10 3,qv 11 0,qn 12 11,qo 13 .lss 10 12]) (.kill [0,3,13] (.cond (.t 13) .skip (.exit 0)))) (.kill [0,3] (.seq (.block 1 (.seq (.draw true [qv 16 0,qv 17 3,qa 18 1 16 17,ql 19 18,qv 20 0,qv 21 3,qk 22 .sub 21 1,qa 23 1 20 22,ql 24 23,qo 25 .eql 19 24] [[],[],[],[],[],[],[],[],[],[]] [[],[],[],[],[],[],[],[],[],[]] [0,1,2,3,4,5,6,7,8,9]) (.kill [0,3,25] (.cond (.t 25) (.seq (.reg [qv 26 0,qv 27 3,⟨some 28,.P (.slice 1 (.t 26) (some (.t 27)) none none),none⟩,qv 4 28]) (.kill [0,3,4] (.seq (.seq (.reg [qi 5 1]) (.block 2 (.kill [0,3,4,5] (.loop (.fin [0,3,4,5] (.seq (.seq (.reg [qv 29 5,qv 30 4,qn 31 30,qo 32 .lss 29 31]) (.kill [0,3,4,5,32] (.cond (.t 32) .skip (.exit 2)))) (.kill [0,3,4,5] (.seq (.block 3 (.seq (.draw true [qv 35 4,qv 36 5,qa 37 1 35 36,ql 38 37,qv 39 4,qv 40 5,qk 41 .sub 40 1,qa 42 1 39 41,ql 43 42,qo 44 .neq 38 43] [[],[],[],[],[],[],[],[],[],[]] [[],[],[],[],[],[],[],[],[],[]] [0,1,2,3,4,5,6,7,8,9]) (.kill [0,3,4,5,44] (.cond (.t 44) (.seq (.reg [qv 45 0,qv 46 3,qv 47 4,qv 48 5,qa 49 1 47 48,ql 50 49,qa 51 1 45 46,⟨none,.W (.store 1 (.t 51) (.t 50)),none⟩]) (.kill [0,3,4,5] (.reg [qv 52 3,qk 53 .add 52 1,qv 3 53]))) .skip)))) (.kill [0,3,4,5] (.reg [qv 33 5,qk 34 .add 33 1,qv 5 34])))))))))) (.kill [0,3] (.seq (.reg [qv 54 0,qv 55 3,⟨some 56,.P (.slice 1 (.t 54) (some (.t 55)) none none),none⟩,⟨none,.W (.clear [(.str ⟨#[]⟩)] (.t 56)),none⟩]) (.kill [0,3] (.seq (.reg [qv 57 0,qv 58 3,⟨some 59,.P (.slice 1 (.t 57) none (some (.t 58)) none),none⟩,qv 2 59]) .ret))))))) .skip)))) (.kill [0,3] (.reg [qv 14 3,qk 15 .add 14 1,qv 3 15])))))))))) (.kill [0] (.seq (.reg [qv 60 0,qv 2 60]) .ret))))))) (E [(.tmp 2)] R .mk) .mk (mat 61 (sArgs 0 args)) m) (hl:Nat.ble args.length 61=true:=by rfl):ACalls Tryz.prog 72 args m R:=walk mix (by kernel_rfl) (Nat.le_of_ble_eq_true hl) h
abbrev h72_0 (t0 t3:AVal):AFrame:=mat 61 [(0,t0),(3,t3)]
abbrev h72_1 (t0 t3 t4 t5:AVal):AFrame:=mat 61 [(0,t0),(3,t3),(4,t4),(5,t5)]
theorem w88 {args m R} (h:W Tryz.prog (.seq (.reg [qi 4 0,⟨some 5,.P (.mov (.c .niliface)),none⟩]) (.kill [0,1] (.seq (.reg [qv 6 0,qc 7 120 [(.t 6)]]) (.kill [0,1] (.seq (.reg [qv 8 0,qv 9 0,⟨some 10,.P (.nilck (.t 9)),none⟩,⟨some 11,.P (.faddr 1 (.t 10)),none⟩,ql 12 11,qv 13 1,⟨some 14,.W (.append 1 1 5 true (.t 12) (.t 13)),none⟩,⟨some 15,.P (.nilck (.t 8)),none⟩,⟨some 16,.P (.faddr 1 (.t 15)),none⟩,⟨none,.W (.store 1 (.t 16) (.t 14)),none⟩]) (.kill [1] (.seq (.reg [qv 17 1,⟨some 18,.P (.lenS (.t 17)),none⟩,qv 4 18,⟨some 5,.P (.mov (.c .niliface)),none⟩]) .ret))))))) (E [(.tmp 4),(.tmp 5)] R .mk) .mk (mat 19 (sArgs 0 args)) m) (hl:Nat.ble args.length 19=true:=by rfl):ACalls Tryz.prog 88 args m R:=walk mix (by kernel_rfl) (Nat.le_of_ble_eq_true hl) h
theorem w89 {args m R} (h:W Tryz.prog (.seq (.reg [⟨some 2,.P (.mov (.c (.str ⟨#[]⟩))),none⟩]) (.kill [0] (.seq (.reg [qv 3 0,qc 4 121 [(.t 3)],qv 2 4]) .ret))) (E [(.tmp 2)] R .mk) .mk (mat 5 (sArgs 0 args)) m) (hl:Nat.ble args.length 5=true:=by rfl):ACalls Tryz.prog 89 args m R:=walk mix (by kernel_rfl) (Nat.le_of_ble_eq_true hl) h
theorem w90 {args m R} (h:W Tryz.prog (.seq (.reg [qv 8 0,⟨some 9,.P (.nilck (.t 8)),none⟩,⟨some 10,.P (.faddr 0 (.t 9)),none⟩,⟨some 11,.C (.c (.func (.func 88) [] [])) [(.t 10),(.c (.str ⟨#[40]⟩))],none⟩]) (.kill [0,1,2] (.seq (.seq (.reg [qv 12 1,qn 13 12,qi 14 0]) (.kill [0,2,12,13,14] (.block 0 (.kill [0,2,12,13,14] (.loop (.fin [0,2,12,13,14] (.seq (.reg [qo 15 .lss 14 13]) (.seq (.cond (.t 15) .skip (.exit 0)) (.kill [0,2,12,13,14] (.seq (.block 1 (.seq (.reg [qv 16 14,qa 17 1 12 14,ql 18 17,qv 6 16,qv 7 18]) (.kill [0,2,6,7,12,13,14] (.seq (.seq (.reg [qv 19 6,qk 20 .gtr 19 0]) (.kill [0,2,6,7,12,13,14,20] (.cond (.t 20) (.reg [qv 21 0,⟨some 22,.P (.nilck (.t 21)),none⟩,⟨some 23,.P (.faddr 0 (.t 22)),none⟩,⟨some 24,.C (.c (.func (.func 88) [] [])) [(.t 23),(.c (.str ⟨#[44,32]⟩))],none⟩]) .skip))) (.kill [0,2,6,7,12,13,14] (.seq (.reg [qv 25 0,qv 26 7,qc 27 45 [(.t 25),(.t 26)]]) (.kill [0,2,6,12,13,14] (.seq (.reg [qv 28 2,⟨some 29,.P (.eqN .slice true (.t 28)),none⟩]) (.kill [0,2,6,12,13,14,29] (.cond (.t 29) (.draw true [qv 30 0,⟨some 31,.P (.nilck (.t 30)),none⟩,⟨some 32,.P (.faddr 0 (.t 31)),none⟩,qv 33 2,qv 34 6,qa 35 1 33 34,ql 36 35,⟨some 37,.P (.bin .add (.c (.str ⟨#[32]⟩)) (.t 36)),none⟩,qc 38 88 [(.t 32),(.t 37)]] [[],[],[],[],[],[],[],[],[]] [[],[],[],[],[],[],[],[],[]] [0,1,2,3,4,5,6,7,8]) .skip)))))))))) (.kill [0,2,12,13,14] (.reg [qk 39 .add 14 1,qv 14 39])))))))))))) (.kill [0] (.reg [qv 40 0,⟨some 41,.P (.nilck (.t 40)),none⟩,⟨some 42,.P (.faddr 0 (.t 41)),none⟩,⟨some 43,.C (.c (.func (.func 88) [] [])) [(.t 42),(.c (.str ⟨#[41]⟩))],none⟩]))))) (E [] R .mk) .mk (mat 44 (sArgs 0 args)) m) (hl:Nat.ble args.length 44=true:=by rfl):ACalls Tryz.prog 90 args m R:=walk mix (by kernel_rfl) (Nat.le_of_ble_eq_true hl) h
abbrev h90_0 (t0 t2 t12 t13 t14:AVal):AFrame:=mat 44 [(0,t0),(2,t2),(12,t12),(13,t13),(14,t14)]
end Go.Proofs.YtlniliigcnedmaaGreatDoor
namespace Go.Proofs.YtlniliigcnedmaaGreatDoor
open Go Ax
set_option maxRecDepth 100000
theorem w120 {args m R} (h:W Tryz.prog (.seq (.reg [qv 2 0,⟨some 3,.P (.nilck (.t 2)),none⟩,⟨some 4,.P (.faddr 0 (.t 3)),none⟩,ql 5 4,⟨some 6,.P (.eqN .ptr false (.t 5)),none⟩]) (.kill [0,6] (.cond (.t 6) (.reg [qv 7 0,qv 8 0,⟨some 9,.R (.rk .p2u (.t 8)),none⟩,qv 10 9,⟨some 11,.R (.rk (.u2p [(69,2),(70,5),(71,5)]) (.t 10)),none⟩,⟨some 12,.P (.nilck (.t 7)),none⟩,⟨some 13,.P (.faddr 0 (.t 12)),none⟩,⟨none,.W (.store 1 (.t 13) (.t 11)),none⟩]) (.seq (.reg [qv 14 0,⟨some 15,.P (.nilck (.t 14)),none⟩,⟨some 16,.P (.faddr 0 (.t 15)),none⟩,ql 17 16,qv 18 0,⟨some 19,.P (.eqP true (.t 17) (.t 18)),none⟩]) (.kill [19] (.cond (.t 19) .bad .skip)))))) (E [] R .mk) .mk (mat 20 (sArgs 0 args)) m) (hl:Nat.ble args.length 20=true:=by rfl):ACalls Tryz.prog 120 args m R:=walk mix (by kernel_rfl) (Nat.le_of_ble_eq_true hl) h
theorem w121 {args m R} (h:W Tryz.prog (.seq (.reg [⟨some 2,.P (.mov (.c (.str ⟨#[]⟩))),none⟩]) (.kill [0] (.seq (.reg [qv 3 0,qc 4 167 [(.t 3),(qz 10)],qv 2 4]) .ret))) (E [(.tmp 2)] R .mk) .mk (mat 5 (sArgs 0 args)) m) (hl:Nat.ble args.length 5=true:=by rfl):ACalls Tryz.prog 121 args m R:=walk mix (by kernel_rfl) (Nat.le_of_ble_eq_true hl) h
end Go.Proofs.YtlniliigcnedmaaGreatDoor
namespace Go.Proofs.YtlniliigcnedmaaGreatDoor
open Go Ax
set_option maxRecDepth 100000
def u8A (b:UInt8):AVal:= .int .u8 b.toNat
instance:Cell u8A:=⟨fun _=>rfl,fun _=>rfl⟩
def nilckE:AVal→Option AVal
 | .ptr b o=>some (.ptr b o)
 | .func (.func f) fs cs=>some (.func (.func f) fs cs)
 |_=>none
@[simp] theorem ev_nilck {a:AFrame} (x:Arg):POp.ev a (.nilck x)=nilckE (a.ev x):=rfl
@[simp] theorem nilckE_ptr (b o:Nat):nilckE (.ptr b o)=some (.ptr b o):=rfl
@[simp] theorem ev_appendS {a:AFrame} {m:AMem} (n by_:Nat) (ty:TypeId) (s x:Arg):WOp.ev a m (.append n by_ ty true s x)=(match a.ev x with
 | .str t=>appendE m n by_ ty (a.ev s) t.size (bytesOf t)
 |_=>none):=rfl
theorem Ax.OwL.own {α:Type} {f:α→AVal} {lo:Nat} {m:AMem} {ty:TypeId} {s:AVal} {xs:List α} (h:OwL f lo m ty s xs) {b:Nat} (hb:s.blk=some b): ∃bl g,m[b]? =some (.own bl ty g):=by
 rcases h with ⟨rfl,_⟩|⟨b',o,cap,gr,bl,gr',rfl,_,h1,_⟩
 ·cases hb
 ·simp only[AVal.blk,Option.some.injEq] at hb
  subst hb
  exact ⟨bl,gr',h1⟩
def Wr (b:Nat) (bf:AVal) (m:AMem) (bf':AVal) (m':AMem):Prop:=Ch (fun c=>c=b∨bf.blk=some c) m m'∧ ∀c,bf'.blk=some c→bf.blk=some c∨m.length≤c
theorem k120 (b:Nat) (ad bf x y z:AVal) (m:AMem) (hb:m[b]? =some (.own [ad,bf,x,y,z] 71 none)) (had:ad= .nilptr∨ad= .ptr b 0):
  ACalls Tryz.prog 120 [.ptr b 0] m fun _ m'=>m'[b]? =some (.own [.ptr b 0,bf,x,y,z] 71 none)∧Ch (fun c=>c=b) m m':=by
 refine w120 ?_
 rcases had with rfl|rfl
 ·simp[bx (own_read hb),p2uE,u2pE,hb]
  obtain ⟨m1,hst,hb1,hch⟩:=fld_store (i:=0) (v:= .ptr b 0) hb (by simp) rfl rfl
  simp[hst]
  exact ⟨by simpa using hb1,hch⟩
 ·simp[bx (own_read hb)]
  exact ⟨hb,.refl _ _⟩
theorem k88 (b lo:Nat) (ad bf x y z:AVal) (bs:List UInt8) (t:ByteArray) (m:AMem) (hb:m[b]? =some (.own [ad,bf,x,y,z] 71 none)) (had:ad= .nilptr∨ad= .ptr b 0) (hlo:lo≤m.length) (hO:OwL u8A lo m 5 bf bs) (hsz:bs.length+t.size≤140737488355328):
  ACalls Tryz.prog 88 [.ptr b 0,.str t] m fun _ m'=> ∃bf',m'[b]? =some (.own [.ptr b 0,bf',x,y,z] 71 none)∧OwL u8A lo m' 5 bf' (bs++t.data.toList)∧Wr b bf m bf' m':=by
 refine w88 ?_
 simp
 have hne:bf.blk≠some b:=fun e=>by
  obtain ⟨bl,g,hbl⟩: ∃bl g,m[b]? =some (.own bl 5 g):=hO.own e
  rw[hb] at hbl
  simp at hbl
 refine C_of (k120 b ad bf x y z m hb had) ?_
 rintro _ m1 ⟨hb1,hch1⟩
 have hO1:=hO.ch hch1 fun c hc e=>hne (e▸hc)
 obtain ⟨bf',m2,happ,hch2,hO2,hbl⟩:=hO1.append (by have:=hch1.len;omega) (by_:=1) (by decide) t.data.toList (by have:t.data.toList.length=t.size:=rfl;omega)
 have happ':appendE m1 1 1 5 bf t.size (bytesOf t)=some (bf',m2):=happ
 have hb2:=own_ch hb1 hch2 fun e=>hne e
 have hself:=(Ow.sl hO2).self
 obtain ⟨m3,hst,hb3,hch3⟩:=fld_store (i:=1) (v:=bf') hb2 (by simp) hself.2 hself.1
 simp[bx (own_read hb1),happ',hst]
 have hne':bf'.blk≠some b:=fun e=>by
  obtain ⟨bl,g,hbl⟩: ∃bl g,m2[b]? =some (.own bl 5 g):=hO2.own e
  rw[hb2] at hbl
  simp at hbl
 refine ⟨bf',by simpa using hb3,hO2.ch hch3 fun c hc e=>hne' (e▸hc),((hch1.weaken fun c _ h=> .inl h).trans (hch2.weaken fun c _ h=> .inr h)).trans (hch3.weaken fun c _ h=> .inl h),fun c hc=>?_⟩
 rcases hbl c hc with h|h
 ·exact .inl h
 ·exact .inr (by have:=hch1.len;omega)
end Go.Proofs.YtlniliigcnedmaaGreatDoor
namespace Go.Proofs
open Go.Shelf
def Tryz.lays105_ren:Go.Shelf.Ren:=⟨fun|105=>69|212=>111|99=>112|165=>110|166=>88|170=>113|169=>46|263=>142|264=>143|206=>144|240=>120|241=>141|276=>166|277=>180|n=>n,fun|9=>9|3=>3|4=>4|20=>20|0=>0|46=>128|109=>129|5=>5|72=>69|76=>108|51=>146|146=>147|53=>149|148=>150|70=>66|37=>67|75=>107|127=>113|164=>167|80=>73|n=>n,fun|n=>n⟩
theorem Tryz.lays105:Go.Proofs.Lays.n105 Tryz.prog Tryz.lays105_ren:={
 mixed:=by kernel_rfl
 f99:=Tryz.func112.trans (congrArg some (by kernel_rfl))
 f105:=Tryz.func69.trans (congrArg some (by kernel_rfl))
 f165:=Tryz.func110.trans (congrArg some (by kernel_rfl))
 f166:=Tryz.func88.trans (congrArg some (by kernel_rfl))
 f169:=Tryz.func46.trans (congrArg some (by kernel_rfl))
 f170:=Tryz.func113.trans (congrArg some (by kernel_rfl))
 f206:=Tryz.func144.trans (congrArg some (by kernel_rfl))
 f212:=Tryz.func111.trans (congrArg some (by kernel_rfl))
 f240:=Tryz.func120.trans (congrArg some (by kernel_rfl))
 f241:=Tryz.func141.trans (congrArg some (by kernel_rfl))
 f263:=Tryz.func142.trans (congrArg some (by kernel_rfl))
 f264:=Tryz.func143.trans (congrArg some (by kernel_rfl))
 f276:=Tryz.func166.trans (congrArg some (by kernel_rfl))
 f277:=Tryz.func180.trans (congrArg some (by kernel_rfl))
 t0:=Tryz.underlying0
 a0:=Tryz.isAgg0
 z0:=Tryz.sizeOf0
 v0:=Tryz.zeroValue0
 t3:=Tryz.underlying3
 a3:=Tryz.isAgg3
 z3:=Tryz.sizeOf3
 v3:=Tryz.zeroValue3
 t4:=Tryz.underlying4
 a4:=Tryz.isAgg4
 z4:=Tryz.sizeOf4
 v4:=Tryz.zeroValue4
 t5:=Tryz.underlying5
 a5:=Tryz.isAgg5
 z5:=Tryz.sizeOf5
 v5:=Tryz.zeroValue5
 t9:=Tryz.underlying9
 a9:=Tryz.isAgg9
 z9:=Tryz.sizeOf9
 v9:=Tryz.zeroValue9
 t20:=Tryz.underlying20
 a20:=Tryz.isAgg20
 z20:=Tryz.sizeOf20
 v20:=Tryz.zeroValue20
 t37:=Tryz.underlying67
 a37:=Tryz.isAgg67
 z37:=Tryz.sizeOf67
 v37:=Tryz.zeroValue67
 t46:=Tryz.underlying128
 a46:=Tryz.isAgg128
 z46:=Tryz.sizeOf128
 v46:=Tryz.zeroValue128
 t51:=Tryz.underlying146
 a51:=Tryz.isAgg146
 z51:=Tryz.sizeOf146
 v51:=Tryz.zeroValue146
 t53:=Tryz.underlying149
 a53:=Tryz.isAgg149
 z53:=Tryz.sizeOf149
 v53:=Tryz.zeroValue149
 t70:=Tryz.underlying66
 a70:=Tryz.isAgg66
 z70:=Tryz.sizeOf66
 v70:=Tryz.zeroValue66
 t72:=Tryz.underlying69
 a72:=Tryz.isAgg69
 z72:=Tryz.sizeOf69
 v72:=Tryz.zeroValue69
 t75:=Tryz.underlying107
 a75:=Tryz.isAgg107
 z75:=Tryz.sizeOf107
 v75:=Tryz.zeroValue107
 t76:=Tryz.underlying108
 a76:=Tryz.isAgg108
 z76:=Tryz.sizeOf108
 v76:=Tryz.zeroValue108
 t109:=Tryz.underlying129
 a109:=Tryz.isAgg129
 z109:=Tryz.sizeOf129
 v109:=Tryz.zeroValue129
 t127:=Tryz.underlying113
 a127:=Tryz.isAgg113
 z127:=Tryz.sizeOf113
 v127:=Tryz.zeroValue113
 t146:=Tryz.underlying147
 a146:=Tryz.isAgg147
 z146:=Tryz.sizeOf147
 v146:=Tryz.zeroValue147
 t148:=Tryz.underlying150
 a148:=Tryz.isAgg150
 z148:=Tryz.sizeOf150
 v148:=Tryz.zeroValue150
 t164:=Tryz.underlying167
 a164:=Tryz.isAgg167
 z164:=Tryz.sizeOf167
 v164:=Tryz.zeroValue167}
theorem Tryz.Builder_Extra_105:Builder.Extra Tryz.prog Tryz.lays105_ren:={
 sizeBuilder:=by kernel_rfl
 liesBuilder:=by kernel_rfl
 t5:=Tryz.underlying5
 a5:=Tryz.isAgg5
 z5:=Tryz.sizeOf5
 v5:=Tryz.zeroValue5
 infoByte:=by kernel_rfl
 cellsByte:=by kernel_rfl
 sizeByte:=by kernel_rfl
 neB5:=by decide}
open Go.RowKit Go.Lib in
theorem Tryz.strings_Repeat (s:ByteArray) (c:Nat) (w:World) (hc:c≤9223372036854775807) (hlen:s.size*c≤140737488355328):
  Calls Tryz.prog 69 #[.string s,.int .i64 c] w fun e w'=>e= .returned (.string ⟨(Lib.repeatL s.data.toList c).toArray⟩)∧Below w.heap.size w w':=Any.strings_Repeat Tryz.lays105 Tryz.Builder_Extra_105 s c w hc hlen
end Go.Proofs
namespace Go.Proofs.YtlniliigcnedmaaGreatDoor
open Go Ax
set_option maxRecDepth 100000
theorem w167 {args m R} (h:W Tryz.prog (.seq (.reg [⟨some 4,.P (.mov (.c (.str ⟨#[]⟩))),none⟩]) (.kill [0,1] (.seq (.seq (.reg [qv 10 1,qk 11 .eql 10 10]) (.kill [0,1,11] (.cond (.t 11) (.seq (.seq (.reg [qv 12 0,⟨some 13,.P (.bin .leq (qz 0) (.t 12)),none⟩,qv 14 13,⟨some 15,.P (.mov (.t 0)),(some (14,true))⟩,⟨some 16,.P (.bin .lss (.t 15) (qz 100)),(some (14,true))⟩,⟨some 17,.P (.pick (.t 14) (.t 16) (.c (.bool false))),none⟩]) (.kill [0,17] (.cond (.t 17) (.seq (.reg [qv 18 0,qc 19 190 [(.t 18)],qv 4 19]) .ret) .skip))) (.kill [0] (.seq (.reg [⟨some 5,.A (.alloc 187 [(.int .u8 0),(.int .u8 0),(.int .u8 0),(.int .u8 0),(.int .u8 0),(.int .u8 0),(.int .u8 0),(.int .u8 0),(.int .u8 0),(.int .u8 0),(.int .u8 0),(.int .u8 0),(.int .u8 0),(.int .u8 0),(.int .u8 0),(.int .u8 0),(.int .u8 0),(.int .u8 0),(.int .u8 0),(.int .u8 0),(.int .u8 0),(.int .u8 0),(.int .u8 0),(.int .u8 0)]),none⟩]) (.seq (.reg [qv 20 0,⟨some 21,.P (.i2i .u64 (.t 20)),none⟩,qv 6 21]) (.kill [0,5,6] (.seq (.seq (.reg [qv 22 0,qk 23 .lss 22 0]) (.kill [0,5,6,23] (.cond (.t 23) (.reg [qv 24 6,⟨some 25,.P (.un .neg (.t 24)),none⟩,qv 6 25]) .skip))) (.kill [0,5,6] (.seq (.reg [qv 26 6,qc 27 191 [(.t 26)],qv 7 27]) (.kill [0,5,6,7] (.seq (.reg [qv 28 7,⟨some 29,.P (.bin .add (qz 1) (.t 28)),none⟩,⟨some 30,.P (.sliceA 24 1 (.t 5) (some (qz 1)) (some (.t 29))),none⟩,qv 31 6,qc 32 192 [(.t 30),(.t 31)]]) (.kill [0,5,7] (.seq (.seq (.reg [qv 33 0,qk 34 .lss 33 0]) (.kill [5,7,34] (.cond (.t 34) (.seq (.reg [⟨some 35,.P (.iaddrA 24 1 (.t 5) (qz 0)),none⟩,⟨none,.W (.store 1 (.t 35) (.c (.int .u8 45))),none⟩]) (.kill [5,7] (.seq (.reg [qv 36 7,⟨some 37,.P (.bin .add (qz 1) (.t 36)),none⟩,⟨some 38,.P (.sliceA 24 1 (.t 5) none (some (.t 37))),none⟩,⟨some 39,.R (.rk .b2s (.t 38)),none⟩,qv 4 39]) .ret))) .skip))) (.kill [5,7] (.seq (.reg [qv 40 7,⟨some 41,.P (.bin .add (qz 1) (.t 40)),none⟩,⟨some 42,.P (.sliceA 24 1 (.t 5) (some (qz 1)) (some (.t 41))),none⟩,⟨some 43,.R (.rk .b2s (.t 42)),none⟩,qv 4 43]) .ret)))))))))))))) .skip))) (.kill [0,1] (.seq (.reg [qv 45 0,⟨some 46,.P (.i2i .u64 (.t 45)),none⟩,qv 47 1,qv 48 0,qk 49 .lss 48 0,qc 50 193 [(.c .nilslice),(.t 46),(.t 47),(.t 49),(.c (.bool false))],qv 44 50,qx 51 44 0,qx 52 44 1,qv 8 51,qv 9 52]) (.kill [9] (.seq (.reg [qv 53 9,qv 4 53]) .ret))))))) (E [(.tmp 4)] R .mk) .mk (mat 54 (sArgs 0 args)) m) (hl:Nat.ble args.length 54=true:=by rfl):ACalls Tryz.prog 167 args m R:=walk mix (by kernel_rfl) (Nat.le_of_ble_eq_true hl) h
theorem w190 {args m R} (h:W Tryz.prog (.seq (.reg [⟨some 2,.P (.mov (.c (.str ⟨#[]⟩))),none⟩]) (.kill [0] (.seq (.seq (.reg [qv 3 0,qk 4 .lss 3 10]) (.kill [0,4] (.cond (.t 4) (.seq (.reg [qv 5 0,qv 6 0,qk 7 .add 6 1,⟨some 8,.P (.sliceS (.c (.str ⟨#[48,49,50,51,52,53,54,55,56,57,97,98,99,100,101,102,103,104,105,106,107,108,109,110,111,112,113,114,115,116,117,118,119,120,121,122]⟩)) (some (.t 5)) (some (.t 7))),none⟩,qv 2 8]) .ret) .skip))) (.kill [0] (.seq (.reg [qv 9 0,qk 10 .mul 9 2,qv 11 0,qk 12 .mul 11 2,qk 13 .add 12 2,⟨some 14,.P (.sliceS (.c (.str ⟨#[48,48,48,49,48,50,48,51,48,52,48,53,48,54,48,55,48,56,48,57,49,48,49,49,49,50,49,51,49,52,49,53,49,54,49,55,49,56,49,57,50,48,50,49,50,50,50,51,50,52,50,53,50,54,50,55,50,56,50,57,51,48,51,49,51,50,51,51,51,52,51,53,51,54,51,55,51,56,51,57,52,48,52,49,52,50,52,51,52,52,52,53,52,54,52,55,52,56,52,57,53,48,53,49,53,50,53,51,53,52,53,53,53,54,53,55,53,56,53,57,54,48,54,49,54,50,54,51,54,52,54,53,54,54,54,55,54,56,54,57,55,48,55,49,55,50,55,51,55,52,55,53,55,54,55,55,55,56,55,57,56,48,56,49,56,50,56,51,56,52,56,53,56,54,56,55,56,56,56,57,57,48,57,49,57,50,57,51,57,52,57,53,57,54,57,55,57,56,57,57]⟩)) (some (.t 10)) (some (.t 13))),none⟩,qv 2 14]) .ret))))) (E [(.tmp 2)] R .mk) .mk (mat 15 (sArgs 0 args)) m) (hl:Nat.ble args.length 15=true:=by rfl):ACalls Tryz.prog 190 args m R:=walk mix (by kernel_rfl) (Nat.le_of_ble_eq_true hl) h
end Go.Proofs.YtlniliigcnedmaaGreatDoor
namespace Go.Proofs.YtlniliigcnedmaaGreatDoor
open Go Ax Go.RowKit
set_option maxRecDepth 100000
theorem Ax.Sim.below {ρ:List RB} {m:AMem} {w w':World} (h:Sim ρ m w) (hb:Below w.heap.size w w'):Sim ρ m w'∧Evol ρ m w ρ m w':=
 ⟨⟨h.len,fun b blk a h1 h2=>(h.ok b blk a h1 h2).heapA (hb.block _ (h.bound b a h2)),h.sep,fun b a ha=>Nat.lt_of_lt_of_le (h.bound b a ha) hb.size⟩,⟨List.prefix_refl _,hb.os,hb.tape,hb.output,hb.size,fun r hr _=>hb.block r hr,fun r hr=> .inr hr⟩⟩
theorem Ax.ACalls.of_below {P:Program} {f:FuncId} {args:List AVal} {m:AMem} {x:AVal} (hc:Callable P f) {v:Value} (hx:VR [] x v) (h: ∀(w:World) (args':Array Value) (ρ:List RB),VRs ρ args args'.toList→Calls P f args' w fun e w'=>e= .returned v∧Below w.heap.size w w'):ACalls P f args m fun y m'=>y=x∧m'=m:=
 ⟨hc,fun ρ w args' hs _ hv=>(h w args' ρ hv).mono fun _ _ ⟨he,hb⟩=>⟨v,x,m,ρ,he,⟨rfl,rfl⟩,VR.mono List.nil_prefix x v hx,hs.below hb⟩⟩
theorem repeatL_one: ∀c:Nat,Lib.repeatL [44] c=List.replicate c 44
 |0=>rfl
 |c+1=>by rw[Lib.repeatL,repeatL_one c];rfl
theorem k69 (c:Nat) (hc:c≤1000) (m:AMem):ACalls Tryz.prog 69 [.str ⟨#[44]⟩,.int .i64 c] m fun v m'=>v= .str ⟨(List.replicate c 44).toArray⟩∧m'=m:=by
 refine ACalls.of_below (v:= .string ⟨(List.replicate c 44).toArray⟩) ⟨_,Tryz.func69,by kernel_rfl,by kernel_rfl⟩ (by simp[VR]) fun w args' ρ hv=>?_
 simp only[VRs,VR] at hv
 obtain ⟨_,_,e1,rfl,_,_,rfl,rfl,rfl⟩:=hv
 obtain rfl:args'= #[.string ⟨#[44]⟩,.int .i64 c]:=by rw[←Array.toList_inj];simpa using e1
 have h:= Tryz.strings_Repeat ⟨#[44]⟩ c w (by omega) (by show 1*c≤_;omega)
 rw[show (⟨#[44]⟩:ByteArray).data.toList= [44] from rfl,repeatL_one] at h
 exact h
theorem small_lo: ∀n<10,(⟨#[48,49,50,51,52,53,54,55,56,57,97,98,99,100,101,102,103,104,105,106,107,108,109,110,111,112,113,114,115,116,117,118,119,120,121,122]⟩:ByteArray).extract n (n+1)=⟨(digB 20 n).toArray⟩:=by decide
theorem small_hi: ∀n<100,10≤n→(⟨#[48,48,48,49,48,50,48,51,48,52,48,53,48,54,48,55,48,56,48,57,49,48,49,49,49,50,49,51,49,52,49,53,49,54,49,55,49,56,49,57,50,48,50,49,50,50,50,51,50,52,50,53,50,54,50,55,50,56,50,57,51,48,51,49,51,50,51,51,51,52,51,53,51,54,51,55,51,56,51,57,52,48,52,49,52,50,52,51,52,52,52,53,52,54,52,55,52,56,52,57,53,48,53,49,53,50,53,51,53,52,53,53,53,54,53,55,53,56,53,57,54,48,54,49,54,50,54,51,54,52,54,53,54,54,54,55,54,56,54,57,55,48,55,49,55,50,55,51,55,52,55,53,55,54,55,55,55,56,55,57,56,48,56,49,56,50,56,51,56,52,56,53,56,54,56,55,56,56,56,57,57,48,57,49,57,50,57,51,57,52,57,53,57,54,57,55,57,56,57,57]⟩:ByteArray).extract (2*n) (2*n+2)=⟨(digB 20 n).toArray⟩:=by decide
theorem sliceS_ev {a:AFrame} {x lo hi:Arg} {s:ByteArray} {l h:Nat} (hx:a.ev x= .str s) (hl:a.ev lo= .int .i64 (l:Nat)) (hh:a.ev hi= .int .i64 (h:Nat)) (h1:l≤h) (h2:h≤s.size):POp.ev a (.sliceS x (some lo) (some hi))=some (.str (s.extract l h)):=by
 simp[POp.ev,bnd,hx,hl,hh,h1,h2]
theorem k190 (n:Nat) (hn:n<100) (m:AMem):ACalls Tryz.prog 190 [.int .i64 n] m fun v m'=>v= .str ⟨(digB 20 n).toArray⟩∧m'=m:=by
 refine w190 ?_
 have hw:IntKind.i64.wrap ((n:Int)+1)=((n+1:Nat):Int):=wrap64 (by omega) (by omega)
 have hw2:IntKind.i64.wrap ((n:Int)*2)=((2*n:Nat):Int):=by rw[wrap64 (by omega) (by omega)];omega
 have hw3:IntKind.i64.wrap (((2*n:Nat):Int)+2)=((2*n+2:Nat):Int):=wrap64 (by omega) (by omega)
 by_cases h:n<10
 ·have h':(n:Int)<10:=by omega
  simp[h',-Int.natCast_add]
  rw[sliceS_ev (l:=n) (h:=n+1) rfl (by simp) (by simp[hw,-Int.natCast_add]) (by omega) (by show n+1≤36;omega),small_lo n h]
  simp
 ·have h': ¬(n:Int)<10:=by omega
  simp[h']
  rw[sliceS_ev (l:=2*n) (h:=2*n+2) rfl (by simp[hw2,-Int.natCast_mul]) (by simp[hw2,hw3,-Int.natCast_mul,-Int.natCast_add]) (by omega) (by show 2*n+2≤200;omega),small_hi n hn (by omega)]
  simp
theorem k89 (n:Nat) (hn:n<100) (m:AMem):ACalls Tryz.prog 89 [.int .i64 n] m fun v m'=>v= .str ⟨(digB 20 n).toArray⟩∧m'=m:=by
 refine w89 ?_
 simp
 refine C_of (R:=fun v m'=>v= .str ⟨(digB 20 n).toArray⟩∧m'=m) ?_ ?_
 ·refine w121 ?_
  simp
  refine C_of (R:=fun v m'=>v= .str ⟨(digB 20 n).toArray⟩∧m'=m) ?_ ?_
  ·refine w167 ?_
   have h1:(n:Int)<100:=by omega
   simp[h1]
   refine C_of (k190 n hn m) ?_
   rintro _ m' ⟨rfl,rfl⟩
   simp
  ·rintro _ m' ⟨rfl,rfl⟩
   simp
 ·rintro _ m' ⟨rfl,rfl⟩
  simp
end Go.Proofs.YtlniliigcnedmaaGreatDoor
namespace Go.Proofs.YtlniliigcnedmaaGreatDoor
open Go Ax
theorem ba_app (a b:List UInt8):(⟨a.toArray⟩:ByteArray)++⟨b.toArray⟩=⟨(a++b).toArray⟩:=by
 apply ByteArray.ext
 simp
theorem ba_size (a:List UInt8):(⟨a.toArray⟩:ByteArray).size=a.length:=by simp[ByteArray.size]
theorem ba_eta (s:ByteArray):(⟨s.data.toList.toArray⟩:ByteArray)=s:=by cases s;simp
def numE (ds s:List Nat):List (Int×AVal):=s.zipIdx.map fun p=>(((ds.getD p.1 0:Nat):Int),natI p.2)
def SameEq (l:List Md) (ds:List Nat):Prop:= ∀a b,a<l.length→b<l.length→(ds.getD a 0=ds.getD b 0↔RR l a=RR l b)
theorem find_aux {l:List Md} {ds:List Nat} (h:SameEq l ds) {m:Nat} (hm:m<l.length): ∀(s:List Nat) (k:Nat),(∀z∈s,z<l.length)→
  findE ((s.zipIdx k).map fun p=>(((ds.getD p.1 0:Nat):Int),natI p.2)) ((ds.getD m 0:Nat):Int)=(s.findIdx? fun z=>RR l z==RR l m).map fun i=>natI (i+k)
 | [],k,_=>rfl
 |z::s,k,hs=>by
  have hz:=h z m (hs z (List.mem_cons_self ..)) hm
  have ih:=find_aux h hm s (k+1) fun y hy=>hs y (List.mem_cons_of_mem _ hy)
  simp only[List.zipIdx_cons,List.map_cons,findE,List.findIdx?_cons]
  by_cases he:RR l z=RR l m
  ·rw[if_pos (by rw[hz.2 he]),if_pos (by simpa using he)]
   simp
  ·rw[if_neg (fun e=>he (hz.1 (by omega))),if_neg (by simpa using he),ih,Option.map_map]
   congr 1
   funext i
   simp only[Function.comp]
   rw[show i+(k+1)=i+1+k by omega]
theorem find_num {l:List Md} {ds s:List Nat} (h:SameEq l ds) (hs:Seen l s) {m:Nat} (hm:m<l.length):findE (numE ds s) ((ds.getD m 0:Nat):Int)=(numOf l s m).map natI:=by
 have:=find_aux h hm s 0 hs.lt
 simpa[numE,numOf] using this
theorem set_none: ∀(es:List (Int×AVal)) (k:Int) (v:AVal),findE es k=none→setE es k v=es++ [(k,v)]
 | [],_,_,_=>rfl
 |(k',x)::es,k,v,h=>by
  simp only[findE] at h
  split at h
  ·cases h
  ·rename_i hk
   simp only[setE,if_neg hk,set_none es k v h,List.cons_append]
theorem numE_add (ds s:List Nat) (m:Nat):numE ds (s++ [m])=numE ds s++ [(((ds.getD m 0:Nat):Int),natI s.length)]:=by
 simp[numE,List.zipIdx_append]
theorem numE_len (ds s:List Nat):(numE ds s).length=s.length:=by simp[numE]
theorem DenseOf.sameEq {l:List Md} {ds:List Nat} {k:Nat} (h:SameOrd l.length (fun a=>ds.getD a 0) (RR l)):SameEq l ds:=fun a b ha hb=>by
 have h1:=h a b ha hb
 have h2:=h b a hb ha
 simp only at h1 h2
 omega
end Go.Proofs.YtlniliigcnedmaaGreatDoor
namespace Go.Proofs.YtlniliigcnedmaaGreatDoor
open Go Ax
set_option maxRecDepth 100000
structure WS (m0:AMem) (b mb:Nat) (sT rk:AVal) (ds:List Nat) (m:AMem) (bf:AVal) (bs:List UInt8) (s:List Nat):Prop where
 blk: ∃ad,m[b]? =some (.own [ad,bf,sT,rk,.map mb] 71 none)∧(ad= .nilptr∨ad= .ptr b 0)
 map:m[mb]? =some (.mp (numE ds s))
 buf:OwL u8A m0.length m 5 bf bs
 pre:m0<+:m
 lo:m0.length≤b∧m0.length≤mb
def WC (b mb:Nat) (bf:AVal) (m:AMem) (bf':AVal) (m':AMem):Prop:=Ch (fun c=>c=b∨c=mb∨bf.blk=some c) m m'∧ ∀c,bf'.blk=some c→bf.blk=some c∨m.length≤c
theorem WC.refl (b mb:Nat) (bf:AVal) (m:AMem):WC b mb bf m bf m:=⟨.refl _ _,fun _ h=> .inl h⟩
theorem WC.trans {b mb:Nat} {bf bf1 bf2:AVal} {m m1 m2:AMem} (h:WC b mb bf m bf1 m1) (k:WC b mb bf1 m1 bf2 m2):WC b mb bf m bf2 m2:=by
 refine ⟨h.1.andThen k.1 fun c hc e=>?_,fun c e=>?_⟩
 ·rcases e with e|e|e
  ·exact .inl e
  ·exact .inr (.inl e)
  ·rcases h.2 c e with e|e
   ·exact .inr (.inr e)
   ·omega
 ·rcases k.2 c e with e|e
  ·exact h.2 c e
  ·exact .inr (by have:=h.1.len;omega)
theorem WC.of_prefix {b mb:Nat} {bf:AVal} {m m':AMem} (h:m<+:m'):WC b mb bf m bf m':=⟨.of_prefix h,fun _ h=> .inl h⟩
theorem WC.of_Wr {b mb:Nat} {bf bf':AVal} {m m':AMem} (h:Wr b bf m bf' m'):WC b mb bf m bf' m':=⟨h.1.weaken fun c _ e=>e.elim .inl fun e=> .inr (.inr e),h.2⟩
section
variable {m0:AMem} {b mb:Nat} {sT rk:AVal} {ds:List Nat} {m m':AMem} {bf bf':AVal} {bs:List UInt8} {s:List Nat}
theorem WS.mono (h:WS m0 b mb sT rk ds m bf bs s) (hm:m<+:m'):WS m0 b mb sT rk ds m' bf bs s:=by
 obtain ⟨ad,h1,h2⟩:=h.blk
 exact ⟨⟨ad,own_mono h1 hm,h2⟩,own_mono h.map hm,h.buf.mono hm,h.pre.trans hm,h.lo⟩
theorem WS.ne (h:WS m0 b mb sT rk ds m bf bs s):b≠mb∧bf.blk≠some b∧bf.blk≠some mb:=by
 obtain ⟨ad,h1,_⟩:=h.blk
 refine ⟨fun e=>?_,fun e=>?_,fun e=>?_⟩
 ·have:=h.map;rw[←e,h1] at this;simp at this
 ·obtain ⟨bl,g,h3⟩:=h.buf.own e;rw[h1] at h3;simp at h3
 ·obtain ⟨bl,g,h3⟩:=h.buf.own e;have:=h.map;rw[h3] at this;simp at this
theorem WS.lt (h:WS m0 b mb sT rk ds m bf bs s):b<m.length∧mb<m.length:=by
 obtain ⟨ad,h1,_⟩:=h.blk
 exact ⟨(List.getElem?_eq_some_iff.1 h1).1,(List.getElem?_eq_some_iff.1 h.map).1⟩
theorem WC.pre0 (hc:WC b mb bf m bf' m') (h:WS m0 b mb sT rk ds m bf bs s):m0<+:m':=hc.1.pre h.pre fun c hc e=>by
 rcases e with e|e|e
 ·have:=h.lo.1;omega
 ·have:=h.lo.2;omega
 ·have:=(h.buf.blk_lo e).1;omega
theorem WS.write (h:WS m0 b mb sT rk ds m bf bs s) (t:List UInt8) (hsz:bs.length+t.length≤1099511627776):
  ACalls Tryz.prog 88 [.ptr b 0,.str ⟨t.toArray⟩] m fun _ m'=> ∃bf',WS m0 b mb sT rk ds m' bf' (bs++t) s∧WC b mb bf m bf' m':=by
 obtain ⟨ad,h1,h2⟩:=h.blk
 refine (k88 b m0.length ad bf sT rk (.map mb) bs ⟨t.toArray⟩ m h1 h2 h.pre.length_le h.buf (by rw[ba_size];omega)).mono ?_
 rintro _ m' ⟨bf',g1,g2,g3⟩
 have hc:WC b mb bf m bf' m':= .of_Wr g3
 have hn:=h.ne
 exact ⟨bf',⟨⟨_,g1,.inr rfl⟩,own_ch h.map g3.1 (fun e=>by rcases e with e|e;exact hn.1 e.symm;exact hn.2.2 e),g2,hc.pre0 h,h.lo⟩,hc⟩
end
end Go.Proofs.YtlniliigcnedmaaGreatDoor
namespace Go.Proofs.YtlniliigcnedmaaGreatDoor
open Go Ax
set_option maxRecDepth 100000
def ModeOK (l:List Md) (m0:AMem) (b mb:Nat) (sT rk:AVal) (ds:List Nat) (f:Nat):Prop:=
 ∀(x:Nat) (m:AMem) (bf:AVal) (bs:List UInt8) (s:List Nat),WS m0 b mb sT rk ds m bf bs s→Seen l s→x<l.length→l.length<f+s.length→bs.length+(txM l f s x).1.length≤1099511627776→
  ACalls Tryz.prog 45 [.ptr b 0,.int .i64 x] m fun _ m'=> ∃bf',WS m0 b mb sT rk ds m' bf' (bs++(txM l f s x).1) (txM l f s x).2∧WC b mb bf m bf' m'
def StI (b mb:Nat) (bf:AVal) (m:AMem) (t:AVal) (zs:List Nat):Prop:= ∀bf' m',WC b mb bf m bf' m'→RInts m' t (zs.map fun z:Nat=>(z:Int))
def StS (b mb:Nat) (bf:AVal) (m:AMem) (t:AVal) (ns:List ByteArray):Prop:= ∀bf' m',WC b mb bf m bf' m'→RStrs m' t ns
theorem txL_seen {l:List Md} {g:List Nat→Nat→List UInt8×List Nat} (hg: ∀s z,Seen l s→z<l.length→Seen l (g s z).2∧s.length≤(g s z).2.length): ∀(zs:List (Nat×List UInt8)) (f:Bool) (s:List Nat),Seen l s→(∀p∈zs,p.1<l.length)→Seen l (txL g f s zs).2∧s.length≤(txL g f s zs).2.length
 | [],_,s,h,_=>⟨h,Nat.le_refl _⟩
 |(z,nm)::zs,f,s,h,hz=>by
  have h1:=hg s z h (hz _ (List.mem_cons_self ..))
  have h2:=txL_seen hg zs false _ h1.1 fun p hp=>hz p (List.mem_cons_of_mem _ hp)
  exact ⟨h2.1,Nat.le_trans h1.2 h2.2⟩
theorem txM_seen {l:List Md} (ht:TxT l) (hf:Full l) (f:Nat) {s:List Nat} {m:Nat} (h:Seen l s) (hm:m<l.length):Seen l (txM l f s m).2∧s.length≤(txM l f s m).2.length:=by
 have:=txM_grow ht hf f s m h hm
 exact ⟨this.seen,this.pre.length_le⟩
def Items (nm:AVal) (b mb:Nat) (bf:AVal) (m:AMem) (zs:List Nat) (items:List (Nat×List UInt8)):Prop:=
 (nm= .nilslice∧items=bare zs)∨(∃ns,isNilOf .slice nm=some false∧StS b mb bf m nm ns∧ns.length=zs.length∧items=named zs ns)
theorem Items.at {nm:AVal} {b mb:Nat} {bf:AVal} {m:AMem} {zs:List Nat} {items:List (Nat×List UInt8)} (h:Items nm b mb bf m zs items) {i:Nat} (hi:i<zs.length): ∃t,items[i]? =some (zs[i],t)∧((nm= .nilslice∧t= [])∨(∃ns,isNilOf .slice nm=some false∧StS b mb bf m nm ns∧ ∃h:i<ns.length,t=32::ns[i].data.toList)):=by
 rcases h with ⟨h1,rfl⟩|⟨ns,h1,h2,h3,rfl⟩
 ·exact ⟨[],by simp[bare,hi],.inl ⟨h1,rfl⟩⟩
 ·exact ⟨_,by simp[named,hi,h3],.inr ⟨ns,h1,h2,by omega,rfl⟩⟩
theorem Items.len {nm:AVal} {b mb:Nat} {bf:AVal} {m:AMem} {zs:List Nat} {items:List (Nat×List UInt8)} (h:Items nm b mb bf m zs items):items.length=zs.length:=by
 rcases h with ⟨h1,rfl⟩|⟨ns,h1,h2,h3,rfl⟩
 ·simp[bare]
 ·simp[named,h3]
theorem str_add (a:List UInt8) (t:ByteArray) (h:a.length+t.size≤9223372036854775807):binStr .add ⟨a.toArray⟩ t=some (.str ⟨(a++t.data.toList).toArray⟩):=by
 have:(⟨a.toArray⟩:ByteArray)++t=⟨(a++t.data.toList).toArray⟩:=by rw[←ba_app,ba_eta]
 simp only[binStr,ba_size,if_pos h,this]
set_option maxHeartbeats 4000000 in
theorem all_ok {l:List Md} (ht:TxT l) (hF:Full l) {m0:AMem} {b mb:Nat} {sT rk:AVal} {ds:List Nat} {f:Nat} (hM:ModeOK l m0 b mb sT rk ds f) {t nm:AVal} {zs:List Nat} {items:List (Nat×List UInt8)} (hz: ∀z∈zs,z<l.length) (hzl:zs.length<2^40)
  {m:AMem} {bf:AVal} {bs:List UInt8} {s:List Nat} (hW:WS m0 b mb sT rk ds m bf bs s) (hS:Seen l s) (hI:StI b mb bf m t zs) (hN:Items nm b mb bf m zs items) (hfu:l.length<f+s.length) (hB:bs.length+(txL (txM l f) true s items).1.length+2≤1099511627776):
  ACalls Tryz.prog 90 [.ptr b 0,t,nm] m fun _ m'=> ∃bf',WS m0 b mb sT rk ds m' bf' (bs++([40]++((txL (txM l f) true s items).1++ [41]))) (txL (txM l f) true s items).2∧WC b mb bf m bf' m':=by
 have hle:(t:AVal)=t:=rfl
 have hlen:=(hI bf m (WC.refl ..)).len
 simp at hlen
 refine w90 ?_
 simp
 refine C_of (hW.write [40] (by simp;omega)) ?_
 rintro _ m1 ⟨bf1,hW1,hC1⟩
 simp[hlen]
 generalize hT:txL (txM l f) true s items=T at*
 obtain ⟨I,hI'⟩: ∃I:Nat→AFrame→AMem→Prop,∀q a m',I q a m'↔(∃(i:Nat) (bf':AVal) (bs':List UInt8) (s':List Nat),i+q=zs.length∧a=h90_0 (.ptr b 0) nm t (.int .i64 zs.length) (.int .i64 i)∧WS m0 b mb sT rk ds m' bf' bs' s'∧Seen l s'∧s.length≤s'.length∧WC b mb bf m bf' m'∧
  bs'++(txL (txM l f) (i==0) s' (items.drop i)).1=bs++([40]++T.1)∧(txL (txM l f) (i==0) s' (items.drop i)).2=T.2):=⟨_,fun _ _ _=>Iff.rfl⟩
 refine W_loop I zs.length ((hI' _ _ _).2 ⟨0,bf1,bs++ [40],s,by simp,by simp,hW1,hS,Nat.le_refl _,hC1,by simp[hT],by simp[hT]⟩) ?_
 rintro q a m2 hIn
 obtain ⟨i,bf2,bs2,s2,hi,rfl,hW2,hS2,hs2,hC2,e1,e2⟩:=(hI' _ _ _).1 hIn
 clear hIn
 simp
 refine bbind_dec (fun hil=>?_) fun hil=>?_
 ·have hil:i<zs.length:=by omega
  have hw:=step64 (k:=i) (n:=zs.length) hil (by omega)
  obtain ⟨q,rfl⟩: ∃q',q=q'+1:=⟨q-1,by omega⟩
  obtain ⟨b9,o9,g1,g2⟩:=(hI bf2 m2 hC2).at (i:=i) (by simpa using hil)
  simp at g2
  obtain ⟨tn,hat,hnm⟩:=hN.at hil
  have hdrop:items.drop i=(zs[i],tn)::items.drop (i+1):=by
   rw[List.drop_eq_getElem_cons (by rw[hN.len];exact hil)]
   congr 1
   have:=(List.getElem?_eq_some_iff.1 hat).2
   exact this
  rw[hdrop] at e1 e2
  simp only[txL] at e1 e2
  have hzi:=hz _ (List.getElem_mem hil)
  have hsn:=txM_seen ht hF f hS2 hzi
  have hBB:bs2.length+((if i==0 then [] else [44,32]:List UInt8)++((txM l f s2 zs[i]).1++(tn++(txL (txM l f) false (txM l f s2 zs[i]).2 (items.drop (i+1))).1))).length+1≤1099511627776:=by
   have:=congrArg List.length e1
   simp only[List.length_append,List.length_cons,List.length_nil] at this ⊢
   omega
  simp only[List.length_append] at hBB
  simp[g1,g2]
  obtain ⟨J,hJ⟩: ∃J:AFrame→AMem→Prop,∀a' m',J a' m'↔(∃bf',a'.forget [0,2,6,7,12,13,14]=mat 44 [(0,.ptr b 0),(2,nm),(6,.int .i64 i),(7,.int .i64 zs[i]),(12,t),(13,.int .i64 zs.length),(14,.int .i64 i)]∧WS m0 b mb sT rk ds m' bf' (bs2++(if i==0 then [] else [44,32])) s2∧WC b mb bf2 m2 bf' m'):=⟨_,fun _ _=>Iff.rfl⟩
  refine bbind_J J ?_ ?_
  ·refine bbind_dec (fun h0=>?_) fun h0=>?_
   ·have h0':(i==0)=false:=by simp;omega
    simp
    refine C_of (hW2.write [44,32] (by rw[h0'] at hBB;simp at hBB ⊢;omega)) ?_
    rintro _ m3 ⟨bf3,hW3,hC3⟩
    simp
    refine (hJ _ _).2 ⟨bf3,rfl,?_,hC3⟩
    rw[h0']
    exact hW3
   ·have h0':(i==0)=true:=by simp;omega
    simp
    refine (hJ _ _).2 ⟨bf2,rfl,?_,WC.refl ..⟩
    rw[h0']
    simpa using hW2
  ·intro a m3 hJ3
   obtain ⟨bf3,hfa,hW3,hC3⟩:=(hJ _ _).1 hJ3
   clear hJ3 hJ J
   simp[hfa]
   refine C_of (hM zs[i] m3 bf3 _ s2 hW3 hS2 hzi (by omega) (by simp only[List.length_append];omega)) ?_
   rintro _ m4 ⟨bf4,hW4,hC4⟩
   have hC24:=hC3.trans hC4
   rcases hnm with ⟨rfl,rfl⟩|⟨ns,hns,hst,hin,rfl⟩
   ·simp[hw]
    refine ⟨q,by omega,(hI' _ _ _).2 ⟨i+1,bf4,_,_,by omega,by simp,hW4,hsn.1,by omega,hC2.trans hC24,?_,?_⟩⟩
    ·rw[show (i+1==0)=false from rfl,←e1]
     simp[List.append_assoc]
    ·rw[show (i+1==0)=false from rfl]
     exact e2
   ·obtain ⟨b8,o8,p1,p2⟩:=(hst bf4 m4 (hC2.trans hC24)).at (i:=i) hin
    simp[hns,-isNilOf]
    refine W_draw (fun _ _ _=>True) (by simp[maxDst]) ?_
    refine D_pc 0 8 [8] ?_
    have hsz:ns[i].size=ns[i].data.toList.length:=by rw[Array.length_toList];rfl
    have hadd:binStr .add ⟨#[32]⟩ ns[i]=some (.str ⟨(32::ns[i].data.toList).toArray⟩):=str_add [32] ns[i] (by simp only[List.length_append,List.length_cons,List.length_nil] at hBB ⊢;omega)
    simp[p1,p2,hadd]
    intro fs' _
    refine D_X rfl rfl fun m5 hm5 _=>?_
    simp
    have hW5:=hW4.mono hm5
    refine C_of (hW5.write (32::ns[i].data.toList) (by simp only[List.length_append,List.length_cons] at hBB ⊢;omega)) ?_
    rintro _ m6 ⟨bf6,hW6,hC6⟩
    refine ⟨by simp[lateOf],?_⟩
    refine D_end fun m7 hm7 _=>?_
    simp[hw]
    refine ⟨q,by omega,(hI' _ _ _).2 ⟨i+1,bf6,_,_,by omega,by simp,hW6.mono hm7,hsn.1,by omega,hC2.trans (hC24.trans ((WC.of_prefix hm5).trans (hC6.trans (.of_prefix hm7)))),?_,?_⟩⟩
    ·rw[show (i+1==0)=false from rfl,←e1]
     simp[List.append_assoc]
    ·rw[show (i+1==0)=false from rfl]
     exact e2
 ·have hil:i=zs.length:=by omega
  subst hil
  rw[List.drop_eq_nil_of_le (by rw[hN.len];omega)] at e1 e2
  simp only[txL,List.append_nil] at e1 e2
  subst e1 e2
  simp
  refine C_of (hW2.write [41] (by simp at hB ⊢;omega)) ?_
  rintro _ m3 ⟨bf3,hW3,hC3⟩
  simp
  refine ⟨bf3,?_,hC2.trans hC3⟩
  simpa[List.append_assoc] using hW3
end Go.Proofs.YtlniliigcnedmaaGreatDoor
