/- Layer 10's laws.  Conditions: none beyond those stated. -/
import Derived.Test.YtlniliigcnedmaaGreatDoorF6
import Derived.Laws.IdiomArrays
import Derived.Test.YtlniliigcnedmaaGreatDoorCards
import Derived.Test.YtlniliigcnedmaaGreatDoorTie
import Derived.Deep.DeepHandedRow
import Derived.Lib.LaidU8
import Derived.OpenShut
set_option linter.unusedSimpArgs false
set_option linter.unusedVariables false
namespace Go.Proofs.YtlniliigcnedmaaGreatDoor
open Go Ax
set_option maxRecDepth 100000
set_option maxHeartbeats 8000000 in
theorem k66 (s t:AVal) (l k:List Md) (m:AMem) (hs:RTab m s l) (ht:RTab m t k) (hl40: ∀x∈l,x.elems.length<2^40∧x.names.length<2^40) (hk40: ∀x∈k,x.elems.length<2^40∧x.names.length<2^40)
  (hg:goodT k) (hln:l.length<2^19) (hkn:k.length<2^19):
  ACalls Tryz.prog 66 [s,t] m fun v m'=>m<+:m'∧OwT m.length m' v (bothT l k):=by
 refine w66 ?_
 simp
 refine C_of (k76 s l m hs hl40 (by omega)) ?_
 rintro v1 m1 ⟨hm1,hO1⟩
 simp
 obtain ⟨I,hI⟩: ∃I:Nat→AFrame→AMem→Prop,∀q f m',I q f m'↔(∃(i:Nat) (o:AVal),i+q=k.length∧f=h66_0 s t o (.int .i64 i)∧m<+:m'∧OwT m.length m' o (l++(k.take i).map (shiftM l.length))):=⟨_,fun _ _ _=>Iff.rfl⟩
 refine W_loop I k.length ((hI _ _ _).2 ⟨0,v1,by simp,by simp,hm1,by simpa using hO1⟩) ?_
 clear hO1
 rintro q f m4 hIn
 obtain ⟨i,o,hq,rfl,hm4,hO⟩:=(hI _ _ _).1 hIn
 clear hIn
 simp[(ht.mono hm4).len]
 refine bbind_dec (fun hil=>?_) fun hil=>?_
 rotate_left
 ·have:i=k.length:=by omega
  subst this
  rw[List.take_length] at hO
  simp
  exact ⟨hm4,hO⟩
 have hil:i<k.length:=by omega
 have hw:=step64 (k:=i) (n:=k.length) hil (by omega)
 obtain ⟨q,rfl⟩: ∃q',q=q'+1:=⟨q-1,by omega⟩
 obtain ⟨bx',ox,c,g4,g5,_,_,g6⟩:=(ht.mono hm4).atC hil
 have hx40:=hk40 _ (List.getElem_mem hil)
 have hxg:=hg _ (List.getElem_mem hil)
 have hget:k[i]? =some k[i]:=List.getElem?_eq_getElem hil
 have htk:k.take (i+1)=k.take i++ [k[i]]:=by rw[List.take_add_one,hget];rfl
 generalize k[i]=x at*
 simp[g4,g5]
 refine C_of (k60 c x m4 g6 hx40) ?_
 rintro _ m5 ⟨hm5,c',rfl,hM⟩
 have hcl:=hM.mode.all
 simp
 rw[store_new _ _ c' _ _ 6 hcl.1 rfl hcl.2]
 have hb6:(m5++ [ABlk.own c' 39 none])[m5.length]? =some (.own c' 39 none):=by simp
 have hm56:m5<+:m5++ [ABlk.own c' 39 none]:=List.prefix_append _ _
 obtain ⟨e2,nm,rfl,hE,hN⟩:=id hM
 have he2:=(Ow.sl hE).self
 have hn1:=(Ow.sl hN).self
 replace hE:=hE.mono hm56
 replace hN:=hN.mono hm56
 have h46:=hm5.length_le
 generalize m5++ [ABlk.own [AVal.int .i64 x.kind,AVal.int .i64 x.size,e2,nm,AVal.int .i64 x.dims,AVal.bool x.flex] 39 none]=m6 at*
 generalize m5.length=b6 at*
 have hE6: ∀b,e2.blk=some b→b≠b6:=fun b hb e=>by
  obtain ⟨bl',g',h3'⟩:=hE.own hb
  rw[e,hb6] at h3'
  simp at h3'
 have hm46:=hm5.trans hm56
 have hr6:=bx (own_read hb6) 2
 simp at hr6
 simp
 obtain ⟨J1,hJ1⟩: ∃J:AFrame→AMem→Prop,∀f m',J f m'↔(f.forget [0,1,5,6,7]=mat 43 [(0,s),(1,t),(5,o),(6,.int .i64 i),(7,.ptr b6 0)]∧m4<+:m'∧m'[b6]? =some (.own [.int .i64 x.kind,.int .i64 x.size,e2,nm,.int .i64 x.dims,.bool x.flex] 39 none)∧OwL (AVal.int .i64) m4.length m' 3 e2 (x.elems.map (· +(l.length:Int)))∧OwL AVal.str m4.length m' 9 nm x.names):=⟨_,fun _ _=>Iff.rfl⟩
 refine W_JB J1 ?_ ?_
 ·obtain ⟨I1,hI1⟩: ∃I:Nat→AFrame→AMem→Prop,∀q f m',I q f m'↔(∃(j:Nat),j+q=x.elems.length∧f=h66_1 s t o (.int .i64 i) (.ptr b6 0) (.int .i64 j)∧m4<+:m'∧m'[b6]? =some (.own [.int .i64 x.kind,.int .i64 x.size,e2,nm,.int .i64 x.dims,.bool x.flex] 39 none)∧OwL (AVal.int .i64) m4.length m' 3 e2 ((x.elems.take j).map (· +(l.length:Int))++x.elems.drop j)∧OwL AVal.str m4.length m' 9 nm x.names):=⟨_,fun _ _ _=>Iff.rfl⟩
  refine W_loop I1 x.elems.length ((hI1 _ _ _).2 ⟨0,by simp,by simp,hm46,hb6,by simpa using hE,hN⟩) ?_
  rintro q1 f m9 hIn
  obtain ⟨j,hq1,rfl,hm9,hb9,hE9,hN9⟩:=(hI1 _ _ _).1 hIn
  clear hIn
  have hr9:=bx (own_read hb9) 2
  simp at hr9
  have hl9:lenE e2=some (.int .i64 x.elems.length):=by
   rw[hE9.len,show ((x.elems.take j).map (· +(l.length:Int))++x.elems.drop j).length=x.elems.length by simp;omega]
  simp[hr9,hl9]
  refine bbind_dec (fun hjl=>?_) fun hjl=>?_
  rotate_left
  ·have:j=x.elems.length:=by omega
   subst this
   simp at hE9
   simp
   exact (hJ1 _ _).2 ⟨by simp,hm9,hb9,hE9,hN9⟩
  have hjl:j<x.elems.length:=by omega
  have hwj:=step64 (k:=j) (n:=x.elems.length) hjl (by omega)
  have hel:=hxg _ (List.getElem_mem hjl)
  have hlen9:j<((x.elems.take j).map (· +(l.length:Int))++x.elems.drop j).length:=by simp;omega
  have hge:((x.elems.take j).map (· +(l.length:Int))++x.elems.drop j)[j]=x.elems[j]:=by
   rw[List.getElem_append_right (by simp;omega)]
   simp[List.length_take,Nat.min_eq_left (Nat.le_of_lt hjl)]
  obtain ⟨bj,oj,hbj,hpj,hlj,hstj⟩:=hE9.at hlen9
  rw[hge] at hlj
  have hwv:IntKind.i64.wrap (x.elems[j]+(l.length:Int))=x.elems[j]+(l.length:Int):=wrap64 (by omega) (by omega)
  obtain ⟨m10,hst10,hch10,hE10⟩:=hstj (x.elems[j]+(l.length:Int))
  have hbj6:=(hE9.blk_lo hbj).1
  have hsL:=(hs.mono (hm4.trans hm9)).len
  simp[hr9,hpj,hlj,hsL,hwv,hst10,hwj]
  have hset:((x.elems.take j).map (· +(l.length:Int))++x.elems.drop j).set j (x.elems[j]+(l.length:Int))=(x.elems.take (j+1)).map (· +(l.length:Int))++x.elems.drop (j+1):=by
   rw[List.set_append_right _ _ (by simp;omega),List.take_add_one,List.getElem?_eq_getElem hjl,List.map_append]
   simp[List.length_take,Nat.min_eq_left (Nat.le_of_lt hjl)]
   rw[List.drop_eq_getElem_cons hjl]
   rfl
  rw[hset] at hE10
  refine ⟨q1-1,by omega,(hI1 _ _ _).2 ⟨j+1,by omega,by simp,hch10.pre hm9 fun b hb e=>by omega,own_ch hb9 hch10 (fun e=>hE6 _ hbj e.symm),hE10,hN9.ch hch10 fun b hb e=>?_⟩⟩
  obtain ⟨_,_,o1⟩:=hN9.own hb
  obtain ⟨_,_,o2⟩:=hE9.own hbj
  subst e
  rw[o1] at o2
  simp at o2
 intro f m9 hJ2
 obtain ⟨hf,hm9,hb9,hE9,hN9⟩:=(hJ1 _ _).1 hJ2
 clear hJ2 hJ1
 have hM9:OwM m4.length m9 [.int .i64 x.kind,.int .i64 x.size,e2,nm,.int .i64 x.dims,.bool x.flex] (shiftM l.length x):=⟨e2,nm,rfl,hE9,hN9⟩
 have hb9r:=bxW (own_read hb9) 6
 simp[readN] at hb9r
 have hfill:fillA [.int .i64 0,.int .i64 0,.nilslice,.nilslice,.int .i64 0,.bool false] [(0,6,.agg [.int .i64 x.kind,.int .i64 x.size,e2,nm,.int .i64 x.dims,.bool x.flex])]=some [.int .i64 x.kind,.int .i64 x.size,e2,nm,.int .i64 x.dims,.bool x.flex]:=by
  simp[fillA,setN,he2.1,hn1.1]
 simp[hf,hb9r,hfill]
 have hsc:=lit6 m9 [.int .i64 x.kind,.int .i64 x.size,e2,nm,.int .i64 x.dims,.bool x.flex] rfl none
 have hm910:m9<+:m9++ [ABlk.own [.int .i64 x.kind,.int .i64 x.size,e2,nm,.int .i64 x.dims,.bool x.flex] 39 none]:=List.prefix_append _ _
 have hob: ∀b,o.blk=some b→b<m4.length:=fun b hb=>(hO.blk_lo hb).2
 generalize m9++ [ABlk.own [.int .i64 x.kind,.int .i64 x.size,e2,nm,.int .i64 x.dims,.bool x.flex] 39 none]=m10 at*
 obtain ⟨o',m11,happ,hch11,hO11,_⟩:=(hO.mono (hm9.trans hm910)).pushM (by have:=(hm4.trans (hm9.trans hm910)).length_le;omega) (hM9.mono hm910) hob (by have:=hm4.length_le;omega) (by simp;omega)
 simp[hsc,happ,hw]
 refine ⟨q,by omega,(hI _ _ _).2 ⟨i+1,o',by omega,by simp,hch11.pre (hm4.trans (hm9.trans hm910)) fun b hb e=>by have:=(hO.blk_lo e).1;omega,?_⟩⟩
 rw[htk,List.map_append,←List.append_assoc]
 exact hO11
open Classical in
noncomputable def acrE (l:List Md) (a:Int) (k:List Md) (b:Int):Int:=
 if checkI l≠0 then checkI l else if checkI k≠0 then checkI k else if (0≤a∧a<l.length)∧0≤b∧b<k.length then 0 else 11
noncomputable def acrV (l:List Md) (a:Int) (k:List Md) (b:Int):AVal:= .tuple [.bool (decide (acrE l a k b=0∧RR (bothT l k) a.toNat=RR (bothT l k) (l.length+b.toNat))),.int .i64 (acrE l a k b)]
theorem acrV_bad {l k:List Md} {a b:Int} (h:acrE l a k b≠0):acrV l a k b= .tuple [.bool false,.int .i64 (acrE l a k b)]:=by simp[acrV,h]
theorem acrV_ok {l k:List Md} {a b:Nat} (hl:checkI l=0) (hk:checkI k=0) (ha:a<l.length) (hb:b<k.length):acrV l a k b= .tuple [.bool (decide (RR (bothT l k) a=RR (bothT l k) (l.length+b))),.int .i64 0]:=by
 have h:acrE l a k b=0:=by
  unfold acrE
  rw[if_neg (by simpa using hl),if_neg (by simpa using hk),if_pos (by omega)]
 simp[acrV,h]
set_option maxHeartbeats 2000000 in
theorem k31g (s t:AVal) (l k:List Md) (a b:Int) (m:AMem) (hs:RTab m s l) (ht:RTab m t k) (hsl: ∀x∈l,smallN x) (hsk: ∀x∈k,smallN x) (hk40: ∀x∈k,x.elems.length<2^40∧x.names.length<2^40)
  (hTl:T13 l) (hTk:T13 k):
  ACalls Tryz.prog 31 [s,.int .i64 a,t,.int .i64 b] m fun v m'=>m<+:m'∧v=acrV l a k b:=by
 have hll:=hTl.len
 have hkl:=hTk.len
 by_cases hcl:checkI l=0
 rotate_left
 ·have hE:acrE l a k b=checkI l:=by unfold acrE;rw[if_pos hcl]
  rw[acrV_bad (by rw[hE];exact hcl),hE]
  refine w31 ?_
  simp
  refine C_of (k52 s l m hs hsl (by omega)) ?_
  rintro _ m1 ⟨rfl,hm1⟩
  simp[bneT hcl]
  exact hm1
 by_cases hck:checkI k=0
 rotate_left
 ·have hE:acrE l a k b=checkI k:=by unfold acrE;rw[if_neg (by simpa using hcl),if_pos hck]
  rw[acrV_bad (by rw[hE];exact hck),hE]
  refine w31 ?_
  simp
  refine C_of (k52 s l m hs hsl (by omega)) ?_
  rintro _ m1 ⟨rfl,hm1⟩
  simp[hcl]
  refine C_of (k52 t k m1 (ht.mono hm1) hsk (by omega)) ?_
  rintro _ m2 ⟨rfl,hm2⟩
  simp[bneT hck]
  exact hm1.trans hm2
 by_cases hab:(0≤a∧a<l.length)∧0≤b∧b<k.length
 ·obtain ⟨a,rfl⟩: ∃a':Nat,a=a':=⟨a.toNat,by omega⟩
  obtain ⟨b,rfl⟩: ∃b':Nat,b=b':=⟨b.toNat,by omega⟩
  have ha:a<l.length:=by omega
  have hb:b<k.length:=by omega
  rw[acrV_ok hcl hck ha hb]
  have gl:=(okT_of hcl).good
  have gk:=(okT_of hck).good
  exact k31 s t l k a b m hs ht hsl hsk hk40 hcl hck ha hb hll hkl (bothT60 hTl hTk gl gk) (bothGood gl gk)
 ·have hE:acrE l a k b=11:=by unfold acrE;rw[if_neg (by simpa using hcl),if_neg (by simpa using hck),if_neg hab]
  rw[acrV_bad (by rw[hE];decide),hE]
  refine w31 ?_
  simp
  refine C_of (k52 s l m hs hsl (by omega)) ?_
  rintro _ m1 ⟨rfl,hm1⟩
  simp[hcl]
  refine C_of (k52 t k m1 (ht.mono hm1) hsk (by omega)) ?_
  rintro _ m2 ⟨rfl,hm2⟩
  simp[hck]
  have hm02:=hm1.trans hm2
  refine C_of (k64 s l a m2 (hs.mono hm02)) ?_
  rintro _ m2 ⟨rfl,rfl⟩
  cases h1:(decide (0≤a)&&decide (a<l.length))
  ·simp
   exact hm02
  ·simp
   refine C_of (k64 t k b m2 (ht.mono hm02)) ?_
   rintro _ m2 ⟨rfl,rfl⟩
   have h2:(decide (0≤b)&&decide (b<k.length))=false:=by
    rw[Bool.and_eq_true,decide_eq_true_iff,decide_eq_true_iff] at h1
    rw[Bool.and_eq_false_iff,decide_eq_false_iff_not,decide_eq_false_iff_not]
    omega
   simp[h2]
   exact hm02
set_option maxHeartbeats 2000000 in
theorem k32 (s t:AVal) (l k:List Md) (a b:Int) (m:AMem) (hs:RTab m s l) (ht:RTab m t k) (hsl: ∀x∈l,smallN x) (hsk: ∀x∈k,smallN x) (hl40: ∀x∈l,x.elems.length<2^40∧x.names.length<2^40) (hk40: ∀x∈k,x.elems.length<2^40∧x.names.length<2^40)
  (hn:l.length+k.length≤60):
  ACalls Tryz.prog 32 [s,.int .i64 a,t,.int .i64 b] m fun v m'=>m<+:m'∧v=acrV l a k b:=by
 refine w32 ?_
 simp
 refine C_of (k59 s l m hs hsl (by omega)) ?_
 rintro _ m1 ⟨rfl,hm1⟩
 by_cases hcl:checkI l=0
 rotate_left
 ·have hE:acrE l a k b=checkI l:=by unfold acrE;rw[if_pos hcl]
  rw[acrV_bad (by rw[hE];exact hcl),hE]
  simp[bneT hcl]
  exact hm1
 simp[hcl]
 refine C_of (k59 t k m1 (ht.mono hm1) hsk (by omega)) ?_
 rintro _ m2 ⟨rfl,hm2⟩
 have hm02:=hm1.trans hm2
 by_cases hck:checkI k=0
 rotate_left
 ·have hE:acrE l a k b=checkI k:=by unfold acrE;rw[if_neg (by simpa using hcl),if_pos hck]
  rw[acrV_bad (by rw[hE];exact hck),hE]
  simp[bneT hck]
  exact hm02
 simp[hck]
 refine C_of (k65 s l a m2 (hs.mono hm02)) ?_
 rintro _ m2 ⟨rfl,rfl⟩
 by_cases hab:(0≤a∧a<l.length)∧0≤b∧b<k.length
 rotate_left
 ·have hE:acrE l a k b=11:=by unfold acrE;rw[if_neg (by simpa using hcl),if_neg (by simpa using hck),if_neg hab]
  rw[acrV_bad (by rw[hE];decide),hE]
  cases h1:(decide (0≤a)&&decide (a<l.length))
  ·simp
   exact hm02
  ·simp
   refine C_of (k65 t k b m2 (ht.mono hm02)) ?_
   rintro _ m2 ⟨rfl,rfl⟩
   have h2:(decide (0≤b)&&decide (b<k.length))=false:=by
    rw[Bool.and_eq_true,decide_eq_true_iff,decide_eq_true_iff] at h1
    rw[Bool.and_eq_false_iff,decide_eq_false_iff_not,decide_eq_false_iff_not]
    omega
   simp[h2]
   exact hm02
 obtain ⟨a,rfl⟩: ∃a':Nat,a=a':=⟨a.toNat,by omega⟩
 obtain ⟨b,rfl⟩: ∃b':Nat,b=b':=⟨b.toNat,by omega⟩
 have ha:a<l.length:=by omega
 have hb:b<k.length:=by omega
 rw[acrV_ok hcl hck ha hb]
 have gl:=(okT_of hcl).good
 have gk:=(okT_of hck).good
 have ha':(a:Int)<l.length:=by omega
 have hb':(b:Int)<k.length:=by omega
 simp[ha]
 refine C_of (k65 t k b m2 (ht.mono hm02)) ?_
 rintro _ m2 ⟨rfl,rfl⟩
 have hwlk:IntKind.i64.wrap ((l.length:Int)+k.length)=((l.length+k.length:Nat):Int):=by rw[wrap64 (by omega) (by omega)];omega
 obtain ⟨LK,hLK⟩: ∃LK:Nat,LK=l.length+k.length:=⟨_,rfl⟩
 rw[←hLK] at hwlk
 have h512: ¬(512:Int)<LK:=by omega
 have h512': ¬512<LK:=by omega
 have hsL0:=hs.len
 have htL0:=ht.len
 simp[hb,hsL0,htL0,hwlk,h512,h512']
 refine C_of (k66 s t l k m2 (hs.mono hm02) (ht.mono hm02) hl40 hk40 gk (by omega) (by omega)) ?_
 rintro v3 m3 ⟨hm3,hB⟩
 have hwb:IntKind.i64.wrap ((b:Int)+l.length)=((l.length+b:Nat):Int):=by rw[wrap64 (by omega) (by omega)];omega
 obtain ⟨LB,hLB⟩: ∃LB:Nat,LB=l.length+b:=⟨_,rfl⟩
 rw[←hLB] at hwb ⊢
 simp[hsL0,hwb]
 refine C_of (k18c v3 (bothT l k) a LB m3 hB.tab (check_both hcl hck (by omega)) (by rw[bothL];omega) (fun x hx=>?_) (by rw[bothL];omega) (by rw[bothL];omega)) ?_
 ·rcases List.mem_append.1 hx with h|h
  ·exact hsl x h
  ·obtain ⟨y,hy,rfl⟩:=List.mem_map.1 h
   have:=hsk y hy
   exact ⟨by simpa[shiftM] using this.1,this.2.1,this.2.2⟩
 rintro _ m4 ⟨rfl,hm4⟩
 simp
 exact (hm02.trans hm3).trans hm4
end Go.Proofs.YtlniliigcnedmaaGreatDoor
namespace Go.Proofs.YtlniliigcnedmaaGreatDoor
open Go Ax Go.ChangeShapes Go.WideShapes Go.ChangeAt Go.RowKit
set_option maxRecDepth 100000
structure FitR (l:List Md):Prop where
 n:l.length≤10
 sm: ∀x∈l,smallN x
 room:checkI l=0→Room l
end Go.Proofs.YtlniliigcnedmaaGreatDoor
namespace Go.Proofs.YtlniliigcnedmaaGreatDoor
open Go Ax Go.ChangeShapes Go.WideShapes Go.ChangeAt Go.RowKit
set_option maxRecDepth 100000
def laidL:List (String×DataW Unit):= [("math/bits.deBruijn32tab",Rows.laid_math_bits_deBruijn32tab),("math/bits.deBruijn64tab",Rows.laid_math_bits_deBruijn64tab),("internal/strconv.uint64pow10",Rows.laid_internal_strconv_uint64pow10),("environ/alike.words",Rows.laid_environ_alike_words)]
theorem gWords: Tryz.prog.globalNamed "environ/alike.words" =some 0:=by kernel_rfl
noncomputable def tyWords:TypeId:=((Tryz.prog.globals[0]?).map (·.type)).getD 0
theorem gWordsT:(Tryz.prog.globals[0]?).map (·.type)=some tyWords:=by kernel_rfl
theorem underW: Tryz.prog.underlying tyWords=some (.array 9 9):=by kernel_rfl
theorem cells9: Tryz.prog.cellsOf 9=1:=by kernel_rfl
theorem string_of_trod {H:Type} {enc:TypeId×Value→H} {P:Program} {w:World} {base:Nat} {sp:Nat→Bool} {held:Bool} {fuel:Nat} {t:TypeId} {cs:List Value} {l:List UInt8} {q:List MemPlace}
  (ht:P.underlying t=some .string) (hc:cs.length≤1) (h:DataW.trod enc P w base sp held fuel t cs=some (.lit (.string l),q)):cs= [.string ⟨l.toArray⟩]:=by
 match cs,hc with
 | [],_=>cases fuel<;>simp[DataW.trod,ht] at h
 | [c],_=>
  cases fuel with
  |zero=>simp[DataW.trod] at h
  |succ fuel=>
   cases c<;>simp[DataW.trod,ht] at h
   obtain ⟨_,rfl,rfl⟩:=h
   simp
theorem glob_of {ρ:List RB} {m:AMem} {W:World} (hL:laidMetH Tryz.prog laidL W) (hro:RoMem m):Glob ρ m W:=by
 intro p hp
 simp only[globs,List.mem_singleton] at hp
 subst hp
 have hL':laidMet Tryz.prog laidL W:=hL
 obtain ⟨g,t,cs,fuel,q,h1,h2,h3,h4⟩:=Lib.laidMet.reads hL' (n:= "environ/alike.words") (d:=Rows.laid_environ_alike_words) (by simp[laidL])
 obtain rfl:=Option.some.inj (gWords.symm.trans h1)
 obtain rfl:=Option.some.inj (gWordsT.symm.trans h2)
 have key: ∀(i:Nat) (l:List UInt8),i<9→([.lit (.string [86,79,73,68]),.lit (.string [66,79,79,76]),.lit (.string [67,72,65,82]),.lit (.string [73,78,84]),.lit (.string [82,69,65,76]),.lit (.string [66,73,84,83]),.lit (.string [70,73,76,69]),.lit (.string [83,69,77,65]),.lit (.string [70,79,82,77,65,84])]:List (DataW Unit))[i]? =some (.lit (.string l))→W.cell? ⟨0,i,none⟩=some (.string ⟨l.toArray⟩):=by
  intro i l hi hl
  obtain ⟨f',d,q',g1,g2⟩:=Lib.array_elem (ds:= [.lit (.string [86,79,73,68]),.lit (.string [66,79,79,76]),.lit (.string [67,72,65,82]),.lit (.string [73,78,84]),.lit (.string [82,69,65,76]),.lit (.string [66,73,84,83]),.lit (.string [70,73,76,69]),.lit (.string [83,69,77,65]),.lit (.string [70,79,82,77,65,84])]) underW h4 i hi
  rw[hl] at g1
  simp only[Option.some.injEq] at g1
  subst g1
  rw[cells9,Nat.mul_one] at g2
  have hc:=string_of_trod under9 (by simp;omega) g2
  have hci:cs.toList[i]? =some (.string ⟨l.toArray⟩):=by
   have:=congrArg (·[0]?) hc
   simpa using this
  have:=World.var?_cell gWords h3 i
  rw[this]
  simpa using hci
 have hsz:0<W.heap.size:=by
  have:=key 0 _ (by omega) rfl
  unfold World.cell? at this
  rcases Nat.eq_zero_or_pos W.heap.size with h0|h0
  ·rw[Array.getElem?_eq_none (by simp only;omega)] at this
   cases this
  ·exact h0
 refine ⟨hsz,fun ho=>?_,fun i x hx=>?_⟩
 ·obtain ⟨b,blk,a,hb,hown,_⟩:=ho
  rw[hro b blk hb] at hown
  cases hown
 ·match i,hx with
  |0,hx=>cases hx;exact ⟨_,key 0 _ (by omega) rfl,by simp[VR]⟩
  |1,hx=>cases hx;exact ⟨_,key 1 _ (by omega) rfl,by simp[VR]⟩
  |2,hx=>cases hx;exact ⟨_,key 2 _ (by omega) rfl,by simp[VR]⟩
  |3,hx=>cases hx;exact ⟨_,key 3 _ (by omega) rfl,by simp[VR]⟩
  |4,hx=>cases hx;exact ⟨_,key 4 _ (by omega) rfl,by simp[VR]⟩
  |5,hx=>cases hx;exact ⟨_,key 5 _ (by omega) rfl,by simp[VR]⟩
  |6,hx=>cases hx;exact ⟨_,key 6 _ (by omega) rfl,by simp[VR]⟩
  |7,hx=>cases hx;exact ⟨_,key 7 _ (by omega) rfl,by simp[VR]⟩
  |8,hx=>cases hx;exact ⟨_,key 8 _ (by omega) rfl,by simp[VR]⟩
  |i+9,hx=>simp at hx
end Go.Proofs.YtlniliigcnedmaaGreatDoor
namespace Go.Proofs.YtlniliigcnedmaaGreatDoor
open Go Ax Go.ChangeShapes Go.WideShapes Go.ChangeAt Go.RowKit
set_option maxRecDepth 100000
def LawTX (f:FuncId):Prop:= ∀(m:AMem) (s t:AVal) (l k:List Md) (u v:Int),RTab m s l→RTab m t k→(∀md∈l,MdB reachBytes md)→(∀md∈k,MdB reachBytes md)→ACalls Tryz.prog f [.agg [s,t],.int .i64 u,.int .i64 v] m fun r _=>r= .bool true
noncomputable def fsX:Array Field:=match Tryz.prog.underlying 49 with|some (.struct fs)=>fs|_=> #[]
theorem underX: Tryz.prog.underlying 49=some (.struct fsX):=by kernel_rfl
theorem f0X:(fsX[0]?).map (fun f=>(f.type,f.offset))=some (22,0):=by kernel_rfl
theorem f1X:(fsX[1]?).map (fun f=>(f.type,f.offset))=some (22,1):=by kernel_rfl
theorem szX:fsX.size=2:=by kernel_rfl
theorem cX: Tryz.prog.cellsOf 49=2:=by kernel_rfl
theorem cLX: Tryz.prog.cellsOf 22=1:=by kernel_rfl
theorem enters_two {H:Type} {enc:TypeId×Value→H} {w:World} {base:Nat} {held:Bool} (hne:0<w.heap.size) {fuel:Nat} {cs:List Value} {x:DataW H×List MemPlace} (h:DataW.trod enc Tryz.prog w base (fun _=>true) held fuel 49 cs=some x):
  ∃l k:List Md,Ax.Enters w cs (fun m xs=> ∃s t,xs= [s,t]∧RTab m s l∧RTab m t k)∧(∀B,(x.1.weights Tryz.prog 49).all (· ≤B)=true→(∀md∈l,MdB B md)∧ ∀md∈k,MdB B md):=by
 obtain ⟨xs,n,_,rfl,hl,hxl,hall⟩:=DataW.trod_struct underX h
 rw[cX] at hl
 rw[szX] at hxl
 obtain ⟨c0,c1,rfl⟩: ∃c0 c1,cs= [c0,c1]:=by
  match cs,hl with
  | [c0,c1],_=>exact ⟨_,_,rfl⟩
 obtain ⟨x0,x1,rfl⟩: ∃c0 c1,xs= [c0,c1]:=by
  match xs,hxl with
  | [c0,c1],_=>exact ⟨_,_,rfl⟩
 obtain ⟨g0,a0,t0,o0⟩:=field_of f0X
 obtain ⟨g1,a1,t1,o1⟩:=field_of f1X
 have e0:=hall 0 g0 a0
 have e1:=hall 1 g1 a1
 rw[t0,o0,cLX] at e0
 rw[t1,o1,cLX] at e1
 simp only[List.drop_zero,List.drop_succ_cons,List.take_succ_cons,List.take_zero,List.getElem?_cons_zero,List.getElem?_cons_succ] at e0 e1
 obtain ⟨l,hel,hel'⟩:=enters_tab (enc:=enc) modeT (fun _ _ _ _=>hne) e0
 obtain ⟨k,hnm,hnm'⟩:=enters_tab (enc:=enc) modeT (fun _ _ _ _=>hne) e1
 refine ⟨l,k,fun ρ m hs hm=>?_,fun B hB=>?_⟩
 ·obtain ⟨ρ1,m1,ys,h1,h2,h3,h4,h5,s,rfl,h6⟩:=hel ρ m hs hm
  obtain ⟨ρ2,m2,ys,k1,k2,k3,k4,k5,s',rfl,k6⟩:=hnm ρ1 m1 h4 h3
  simp only[VRs] at h5 k5
  obtain ⟨_,_,hh,h5,rfl⟩:=h5
  obtain ⟨_,_,hk,k5,rfl⟩:=k5
  simp only[List.cons.injEq,and_true] at hh hk
  subst hh hk
  refine ⟨ρ2,m2,[s,s'],h1.trans k1,h2.trans k2,k3,k4,?_,s,s',rfl,h6.mono k2,k6⟩
  simp only[VRs]
  exact ⟨_,_,rfl,VR.mono k1 _ _ h5,_,_,rfl,k5,rfl⟩
 ·have w0:=weights_parts (i:=0) underX a0 (y:=x0) (by simp) hB
  have w1:=weights_parts (i:=1) underX a1 (y:=x1) (by simp) hB
  rw[t0] at w0
  rw[t1] at w1
  exact ⟨(hel' B w0).2,(hnm' B w1).2⟩
theorem liftedDX {os:Os} {F:Stop.Interp} (started:os.Started) {H:Type} {enc:TypeId×Value→H} {f:FuncId} {fn:Func} {s:ChangeSpec} {conds:List PathCond}
  (noInit: Tryz.checked.prog.inits.idxOf? f=none) (hfn: Tryz.checked.prog.funcs[f]? =some fn) (hp:fn.params= #[49,3,3]) (hr:fn.resultTypes= #[4]) (hs:s.vars= [])
  (hsf: ∀d1 d2 d3:DataW H,s.fn H [d1,d2,d3]={results:= [.lit (.bool true)],args:= [d1,d2,d3]})
  (witness: ∃(w:World) (tape:Tape) (i:Input),w.os=os∧(w.forCall tape i).Shaped Tryz.checked.prog∧i.vars= []∧Input.okWide Tryz.checked.prog (w.forCall tape i) .any w.heap.size f i∧
   (OpenSpec.ofChange s).preRow enc Tryz.prog fn conds false laidL (w.forCall tape i).memory i.args∧({}:Assume).holds Tryz.checked.prog (lone (Frame.enter Tryz.checked.prog f i.args .normal) [] (w.forCall tape i)))
  (law:LawTX f):
  ReturnsInHanded {} Tryz.checked os f .any ((OpenSpec.ofChange s).preRow enc Tryz.prog fn conds false laidL) (((OpenSpec.ofChange s).at F).post enc Tryz.prog fn false true false false):=by
 refine returnsInHanded_of_row (C:= Tryz.checked) (s:=OpenSpec.ofChange s) own0 started noInit hfn witness ?_
 intro W base args ds gs before hval0 hW _ _ hsz0 hL _ _
 show Calls _ _ _ _ fun e W'=> ∃v,e= .returned v∧s.post enc Tryz.prog fn false true false false W args v W'
 replace hW:DataW.Whole enc Tryz.prog fn.params.toList s.vars false W args.toList ds gs before:=hW
 have hW':=hW
 rw[hp] at hval0 hsz0
 obtain ⟨p,q,hA,hV,rfl,_,_⟩:=hW
 rw[hp] at hA
 rw[hs] at hV
 obtain ⟨v0,v1,v2,d0,d1,d2,p0,p1,p2,rfl,rfl,rfl,h0,h1,h2⟩:=trodAll_three hA
 obtain ⟨rfl,rfl⟩:=trodVars_none hV
 obtain ⟨a1,rfl,rfl,rfl,w1⟩:=open_int under3 (hval0 1 3 v1 rfl rfl) h1
 obtain ⟨a2,rfl,rfl,rfl,w2⟩:=open_int under3 (hval0 2 3 v2 rfl rfl) h2
 have hne:0<W.heap.size:=(glob_of (ρ:= []) hL RoMem.nil (0,_) (List.mem_singleton.2 rfl)).1
 have hv0:=hval0 0 49 v0 rfl rfl
 have h0k:=h0
 obtain ⟨fuel,hf⟩:=h0
 obtain ⟨cs,rfl⟩: ∃cs,v0= .agg cs:=by
  simp only[Value.okWide,underX] at hv0
  obtain ⟨cs,h1,_⟩:=hv0
  exact ⟨cs,h1⟩
 obtain ⟨l,k,hent,hbd⟩:=enters_two (enc:=enc) (x:=(d0,p0)) hne hf
 obtain ⟨b1,b2⟩:=hbd reachBytes (by
  rw[List.all_eq_true] at hsz0 ⊢
  intro n hn
  exact hsz0 n (DataW.weights_mem_each (j:=0) (t:=49) (d:=d0) (by simp) (by simp) n hn))
 obtain ⟨ρ',m',xs,_,_,hro,hsim,hvr,sv,tv,rfl,hT,hU⟩:=hent [] [] (Sim.nil W) RoMem.nil
 have hlt: ∀x∈p0,x.block<W.heap.size:=fun x hx=>hW'.lt x (by simp[hx])
 refine ((law m' sv tv l k a1 a2 hT hU b1 b2).2 ρ' W #[.agg cs,.int .i64 a1,.int .i64 a2] hsim (glob_of hL hro) (by simp only[VRs,VR] at hvr ⊢;exact ⟨_,_,rfl,⟨_,rfl,hvr⟩,_,_,rfl,rfl,_,_,rfl,rfl,rfl⟩)).mono fun e W' h=>?_
 obtain ⟨v',v,m'',ρ'',rfl,rfl,hv,_,hev⟩:=h
 simp only[VR] at hv
 subst hv
 have hb:=below_of_evol hro hev
 refine ⟨_,rfl,[d0,_,_],[],_,[],p0++([]++([]++ [])),[],hW',?_,?_,?_,hb.frame _,fun h=>by cases h⟩
 ·rw[hr]
  show DataW.TrodAll enc _ W' _ _ _ [4] _ (s.fn H [d0,_,_]).results []
  rw[hsf]
  exact trodAll_mk1 (shut_bool under4 true)
 ·rw[hp]
  show DataW.TrodAll enc _ W' _ _ _ [49,3,3] _ (s.fn H [d0,_,_]).args _
  rw[hsf]
  exact trodAll_cons_mk (Below.trod laidOut (by kernel_rfl) (of_decide_eq_true (by kernel_rfl)) h0k hb hlt) (trodAll_cons_mk (shut_int under3 w1) (trodAll_cons_mk (shut_int under3 w2) trodAll_mk0))
 ·show DataW.TrodVars enc _ W' _ s.vars (s.fn H [d0,_,_]).vars _
  rw[hsf,hs]
  rfl
end Go.Proofs.YtlniliigcnedmaaGreatDoor
namespace Go.Proofs.YtlniliigcnedmaaGreatDoor
open Go Ax Go.ChangeShapes Go.WideShapes Go.ChangeAt Go.RowKit
set_option maxRecDepth 100000
theorem fits_of10 {l:List Md} (hb: ∀md∈l,MdB reachBytes md) (h:(decide ((l.length:Int)≤10)&&l.all fun x=>decide (x.elems.length≤6)&&decide (x.names.length≤6))=true):Fits l∧l.length≤10:=by
 rw[Bool.and_eq_true,decide_eq_true_iff] at h
 exact ⟨fits_of hb (by rw[Bool.and_eq_true,decide_eq_true_iff];exact ⟨by omega,h.2⟩),by omega⟩
set_option maxHeartbeats 4000000 in
theorem k9:LawTX 9:=by
 intro m s t l k u v hs ht hb hbk
 refine w9 ?_
 have h1:=hs.self
 have h2:=ht.self
 simp[h1.1,h2.1]
 have hb4:(m++ [ABlk.own [s,t] 49 none])[m.length]? =some (.own [s,t] 49 none):=by simp
 have hm0:m<+:m++ [ABlk.own [s,t] 49 none]:=List.prefix_append _ _
 generalize m++ [ABlk.own [s,t] 49 none]=m0 at*
 generalize m.length=b4 at*
 refine C_of (k13 m0) ?_
 rintro _ m1 ⟨rfl,hm1⟩
 have hm01:=hm0.trans hm1
 simp[bx (own_read (own_mono hb4 hm1))]
 refine C_of (k14 s l 10 m1 (hs.mono hm01) (by omega)) ?_
 rintro _ m2 ⟨rfl,hm2⟩
 have hm02:=hm01.trans hm2
 have hb42:=own_mono hb4 (hm1.trans hm2)
 cases hsm:(decide ((l.length:Int)≤10)&&l.all fun x=>decide (x.elems.length≤6)&&decide (x.names.length≤6))
 ·simp
 obtain ⟨hf,hl10⟩:=fits_of10 hb hsm
 simp[bx (own_read hb42)]
 refine C_of (k14 t k 10 m2 (ht.mono hm02) (by omega)) ?_
 rintro _ m3 ⟨rfl,hm3⟩
 have hm03:=hm02.trans hm3
 have hb43:=own_mono hb42 hm3
 cases hsk:(decide ((k.length:Int)≤10)&&k.all fun x=>decide (x.elems.length≤6)&&decide (x.names.length≤6))
 ·simp
 obtain ⟨hfk,hk10⟩:=fits_of10 hbk hsk
 simp[bx (own_read hb43)]
 refine C_of (k31g s t l k u v m3 (hs.mono hm03) (ht.mono hm03) hf.sm hfk.sm hfk.h40 (T13.of hf.n) (T13.of hfk.n)) ?_
 rintro _ m4 ⟨hm4,rfl⟩
 have hm04:=hm03.trans hm4
 have hb44:=own_mono hb43 hm4
 obtain ⟨X,E,hA⟩: ∃X E,acrV l u k v= .tuple [.bool X,.int .i64 E]:=⟨_,_,rfl⟩
 simp[hA,bx (own_read hb44)]
 refine C_of (k32 s t l k u v m4 (hs.mono hm04) (ht.mono hm04) hf.sm hfk.sm hf.h40 hfk.h40 (by omega)) ?_
 rintro _ m5 ⟨hm5,rfl⟩
 simp[hA]
end Go.Proofs.YtlniliigcnedmaaGreatDoor
namespace Go.Proofs.YtlniliigcnedmaaGreatDoor
open Go Ax Go.ChangeShapes Go.WideShapes Go.ChangeAt Go.RowKit
set_option maxRecDepth 100000
def litsOf:DataW Unit→Array Value
 | .agg ds=>(ds.map fun| .lit l=>l.value|_=> .bool false).toArray
 |_=> #[]
noncomputable def setCells (a:Array Value):Obj→Obj
 | .cells _ t frozen=> .cells a t frozen
 |o=>o
noncomputable def laidWorld (os:Os):World:=
 {World.holding Tryz.prog os ⟨#[],#[],[]⟩ with heap:=((((World.holding Tryz.prog os ⟨#[],#[],[]⟩).heap.modify 0 (setCells (litsOf Rows.laid_environ_alike_words))).modify 2 (setCells (litsOf Rows.laid_internal_strconv_uint64pow10))).modify 3 (setCells (litsOf Rows.laid_math_bits_deBruijn32tab))).modify 4 (setCells (litsOf Rows.laid_math_bits_deBruijn64tab))}
theorem g2: Tryz.prog.globalNamed "internal/strconv.uint64pow10" =some 2:=by kernel_rfl
theorem g4: Tryz.prog.globalNamed "math/bits.deBruijn64tab" =some 4:=by kernel_rfl
end Go.Proofs.YtlniliigcnedmaaGreatDoor
namespace Go.Proofs.YtlniliigcnedmaaGreatDoor
open Go Ax Go.ChangeShapes Go.WideShapes Go.ChangeAt Go.RowKit
set_option maxRecDepth 100000
end Go.Proofs.YtlniliigcnedmaaGreatDoor
namespace Go.Proofs.YtlniliigcnedmaaGreatDoor
open Go Ax
theorem DenseOf.at {n k:Nat} {lt:Nat→Nat→Prop} {ds:List Nat} (h:DenseOf n lt ds k) {a:Nat} (ha:a<n):ds[a]? =some (ds.getD a 0):=by
 have ha':a<ds.length:=by rw[h.len];exact ha
 rw[List.getD_eq_getElem?_getD,List.getElem?_eq_getElem ha',Option.getD_some]
theorem dense_count {l:List Md} {ds:List Nat} {kd i:Nat} (hD:DenseOf l.length (fun a b=>RR l a<RR l b) ds kd) (hi:i<l.length) {zs:List Nat} (h:SortedBy (RR l) ((List.range l.length).filter fun j=>decide (RR l j<RR l i)) zs):zs.length=ds.getD i 0:=by
 have hml: ∀z∈zs,z<l.length∧RR l z<RR l i:=fun z hz=>by
  have:=h.sub z hz
  simpa using this
 have hlt: ∀{a b:Nat},a<l.length→b<l.length→(ds.getD a 0<ds.getD b 0↔RR l a<RR l b):=fun ha hb=>hD.lt ha hb
 have key:(zs.map fun z=>((ds.getD z 0:Nat):Int))=(List.range (ds.getD i 0)).map fun z:Nat=>(z:Int):=by
  refine pw_ext ?_ ?_ fun v=>?_
  ·rw[List.pairwise_map]
   refine List.Pairwise.imp_of_mem (fun {x y} hx hy hxy=>?_) h.asc
   have:=(hlt (hml x hx).1 (hml y hy).1).2 hxy
   omega
  ·rw[List.pairwise_map]
   exact List.pairwise_lt_range.imp fun h=>by omega
  ·rw[List.mem_map,List.mem_map]
   constructor
   ·rintro ⟨z,hz,rfl⟩
    have:=(hlt (hml z hz).1 hi).2 (hml z hz).2
    exact ⟨_,List.mem_range.2 this,rfl⟩
   ·rintro ⟨w,hw,rfl⟩
    have hw:=List.mem_range.1 hw
    obtain ⟨a,ha⟩:=hD.surj w (by have:=hD.bound i _ (hD.at hi);omega)
    have hal:a<l.length:=by rw[←hD.len];exact (List.getElem?_eq_some_iff.1 ha).1
    have hav:ds.getD a 0=w:=by rw[List.getD_eq_getElem?_getD,ha];rfl
    have hr:RR l a<RR l i:=(hlt hal hi).1 (by omega)
    obtain ⟨z,hz,hze,_⟩:=h.cov a (by simp[hal,hr])
    refine ⟨z,hz,?_⟩
    have h1:=hlt (hml z hz).1 hal
    have h2:=hlt hal (hml z hz).1
    omega
 have:=congrArg List.length key
 simpa using this
theorem firstOf_at {ds:List Nat} {k i:Nat} (hi:i<ds.length) (h:ds.getD i 0=k) (hn: ∀j,j<i→ds.getD j 0≠k):firstOf ds k=i:=by
 have hat: ∀j,j<ds.length→((ds.map fun z:Nat=>(z:Int))[j]? ==some (k:Int))=decide (ds.getD j 0=k):=fun j hj=>by
  rw[List.getElem?_map,List.getD_eq_getElem?_getD,List.getElem?_eq_getElem hj]
  simp only[Option.map_some,Option.getD_some]
  rw[Bool.eq_iff_iff,beq_iff_eq,decide_eq_true_iff]
  constructor
  ·intro e;have:=Option.some.inj e;omega
  ·intro e;rw[e]
 unfold firstOf
 rw[fidx_at ds.length 0 i (by omega) (by omega) (by rw[hat i hi];simpa using h) fun j _ hj=>by rw[hat j (by omega)];simpa using hn j hj]
 rfl
end Go.Proofs.YtlniliigcnedmaaGreatDoor
namespace Go.Proofs.YtlniliigcnedmaaGreatDoor
open Go Ax
set_option maxRecDepth 100000
theorem owl_nat {lo:Nat} {m:AMem} {ty:TypeId} {s:AVal} {zs:List Nat} (h:OwL natI lo m ty s zs):OwL (AVal.int .i64) lo m ty s (zs.map fun z:Nat=>(z:Int)):=by
 unfold OwL at*
 rw[List.length_map,List.map_map]
 exact h
structure RedS (l:List Md) (m0:AMem) (s vr:AVal) (ds:List Nat) (kd:Nat):Prop where
 tab:RTab m0 s l
 rk:RInts m0 vr ((Rl l (l.length+1)).map fun z:Nat=>(z:Int))
 den:DenseOf l.length (fun a b=>RR l a<RR l b) ds kd
set_option maxHeartbeats 8000000 in
theorem k29 (s:AVal) (l:List Md) (m:AMem) (hs:RTab m s l) (hsz: ∀x∈l,smallN x) (h40: ∀x∈l,x.elems.length<2^40∧x.names.length<2^40) (hl:l.length≤60) (hc:checkI l=0) (ds:List Nat) (kd:Nat) (hD:DenseOf l.length (fun a b=>RR l a<RR l b) ds kd):
  ACalls Tryz.prog 29 [s] m fun v m'=>m<+:m'∧((∃t n,v= .tuple [t,n,.int .i64 0]∧OwL natI m.length m' 3 n ds∧OwT m.length m' t (redT l ds kd)∧ ∀k,k<kd→ ¬badAt l ds k)∨(v= .tuple [.nilslice,.nilslice,.int .i64 14]∧ ∃k,k<kd∧badAt l ds k)):=by
 refine w29 ?_
 have ok:=okT_of hc
 simp
 refine C_of (k59 s l m hs hsz (by omega)) ?_
 rintro _ m1 ⟨rfl,hm1⟩
 simp[hc]
 refine C_of (k48 s l m1 (hs.mono hm1) ok.good (by omega) hsz ok.h64 ok.names) ?_
 rintro vr m2 ⟨hm2,hX⟩
 have hm02:=hm1.trans hm2
 have hc1:8*(l.length:Int)≤281474976710656:=by omega
 have hRk:=ints_of_nat hX
 have hc2:(l.length:Int)≤9223372036854775807:=by omega
 simp[hs.len,hc1,hc2]
 have hZ0:OwL natI m2.length (m2++ [.own (List.replicate l.length (.int .i64 0)) 3 none]) 3 (.slice m2.length 0 l.length l.length none) (List.replicate l.length 0):=OwL.rep (f:=natI) m2 3 l.length 0
 have hm23:m2<+:m2++ [ABlk.own (List.replicate l.length (.int .i64 0)) 3 none]:=List.prefix_append _ _
 generalize AVal.slice m2.length 0 l.length l.length none=tt at*
 generalize m2++ [ABlk.own (List.replicate l.length (.int .i64 0)) 3 none]=m3 at*
 obtain ⟨J,hJ⟩: ∃J:AFrame→AMem→Prop,∀a m',J a m'↔(a.forget [0,6,7]=mat 119 [(0,s),(6,vr),(7,tt)]∧m2<+:m'∧OwL natI m2.length m' 3 tt ds):=⟨_,fun _ _=>Iff.rfl⟩
 refine W_JB J ?_ ?_
 ·obtain ⟨I,hI⟩: ∃I:Nat→AFrame→AMem→Prop,∀q a m',I q a m'↔(∃i:Nat,i+q=l.length∧a=h29_0 s vr tt (.int .i64 i)∧m2<+:m'∧OwL natI m2.length m' 3 tt (ds.take i++List.replicate (l.length-i) 0)):=⟨_,fun _ _ _=>Iff.rfl⟩
  refine W_loop I l.length ((hI _ _ _).2 ⟨0,by simp,by simp,hm23,by simpa using hZ0⟩) ?_
  clear hZ0 hm23
  rintro q a m4 hIn
  obtain ⟨i,hi,rfl,hm4,hT⟩:=(hI _ _ _).1 hIn
  clear hIn
  simp[hs.len]
  refine bbind_dec (fun hil=>?_) fun hil=>?_
  rotate_left
  ·have hil:i=l.length:=by omega
   subst hil
   simp
   rw[show ds.take l.length=ds from List.take_of_length_le (by rw[hD.len];omega)] at hT
   exact (hJ _ _).2 ⟨by simp,hm4,by simpa using hT⟩
  have hil:i<l.length:=by omega
  have hw:=step64 (k:=i) (n:=l.length) hil (by omega)
  obtain ⟨q,rfl⟩: ∃q',q=q'+1:=⟨q-1,by omega⟩
  obtain ⟨bi,oi,hpi,hli⟩:=rlAt hRk hil
  simp
  obtain ⟨J2,hJ2⟩: ∃J:AFrame→AMem→Prop,∀a m',J a m'↔(∃lw,a.forget [0,6,7,8,9]=mat 119 [(0,s),(6,vr),(7,tt),(8,.int .i64 i),(9,lw)]∧m4<+:m'∧OwL natI m4.length m' 3 lw ((List.range l.length).filter fun j=>decide (RR l j<RR l i))):=⟨_,fun _ _=>Iff.rfl⟩
  refine W_JB J2 ?_ ?_
  ·obtain ⟨I2,hI2⟩: ∃I:Nat→AFrame→AMem→Prop,∀q a m',I q a m'↔(∃(j:Nat) (lw:AVal),j+q=l.length∧a=h29_1 s vr tt (.int .i64 i) lw (.int .i64 j)∧m4<+:m'∧OwL natI m4.length m' 3 lw ((List.range j).filter fun j=>decide (RR l j<RR l i))):=⟨_,fun _ _ _=>Iff.rfl⟩
   refine W_loop I2 l.length ((hI2 _ _ _).2 ⟨0,.nilslice,by simp,by simp,List.prefix_refl _,OwL.nil⟩) ?_
   rintro q2 a m5 hIn
   obtain ⟨j,lw,hj,rfl,hm5,hL⟩:=(hI2 _ _ _).1 hIn
   clear hIn
   simp[hs.len]
   refine bbind_dec (fun hjl=>?_) fun hjl=>?_
   rotate_left
   ·have hjl:j=l.length:=by omega
    subst hjl
    simp
    exact (hJ2 _ _).2 ⟨lw,by simp,hm5,hL⟩
   have hjl:j<l.length:=by omega
   have hwj:=step64 (k:=j) (n:=l.length) hjl (by omega)
   obtain ⟨q2,rfl⟩: ∃q',q2=q'+1:=⟨q2-1,by omega⟩
   obtain ⟨bj,oj,hpj,hlj⟩:=rlAt hRk hjl
   have hm25:=hm4.trans hm5
   simp
   refine W_drawPR (by simp[maxDst]) rfl rfl ?_
   simp[hpi,hpj,hli m5 hm25,hlj m5 hm25]
   intro m6 hm6
   have hL6:=hL.mono hm6
   refine bbind_dec (fun hlt=>?_) fun hlt=>?_
   ·have hlt:RR l j<RR l i:=by omega
    simp[fillA,setN]
    have hm67:m6<+:m6++ [ABlk.own [AVal.int .i64 j] 3 none]:=List.prefix_append _ _
    have hsc:=cells_lit m6 (.int .i64 j) 3 none
    have hlen:((List.range j).filter fun j=>decide (RR l j<RR l i)).length≤60:=by
     have:=List.length_filter_le (fun j=>decide (RR l j<RR l i)) (List.range j)
     simp at this
     omega
    have hge:m4.length≤(m6++ [ABlk.own [AVal.int .i64 (j:Int)] 3 none]).length:=by have:=(hm5.trans hm6).length_le;simp;omega
    obtain ⟨lw',m8,happ,hch8,hL8,_⟩:=(hL6.mono hm67).push hge (by_:=8) (by decide) j (by omega)
    have hp8:m4<+:m8:=hch8.pre (hm5.trans (hm6.trans hm67)) fun b hb e=>by have:=(hL.blk_lo e).1;omega
    generalize m6++ [ABlk.own [AVal.int .i64 (j:Int)] 3 none]=m7 at*
    simp[hsc,happ,hwj]
    refine ⟨q2,by omega,(hI2 _ _ _).2 ⟨j+1,lw',by omega,by simp,hp8,?_⟩⟩
    rw[List.range_succ,List.filter_append]
    simpa[hlt] using hL8
   ·have hlt: ¬RR l j<RR l i:=by omega
    simp[hwj]
    refine ⟨q2,by omega,(hI2 _ _ _).2 ⟨j+1,lw,by omega,by simp,hm5.trans hm6,?_⟩⟩
    rw[List.range_succ,List.filter_append]
    simpa[hlt] using hL6
  intro a m5 hJ5
  obtain ⟨lw,hfa,hm5,hL⟩:=(hJ2 _ _).1 hJ5
  clear hJ5 hJ2 J2
  simp[hfa]
  have hlen:((List.range l.length).filter fun j=>decide (RR l j<RR l i)).length≤60:=by
   have:=List.length_filter_le (fun j=>decide (RR l j<RR l i)) (List.range l.length)
   simp at this
   omega
  refine C_of (k55 lw vr _ (Rl l (l.length+1)) m5 (ints_of_nat hL) (hRk.mono (hm4.trans hm5)) (fun x hx=>by rw[Rl_length];simp at hx;omega) (by omega)) ?_
  rintro v6 m6 ⟨hm6,zs,hzs,hsb⟩
  have hcount:=dense_count hD hil (hsb.congr (n:=l.length) (fun x hx=>by simp at hx;omega) fun x hx=>by rw[Rl_getD l _ hx];rfl)
  have hzl:=hzs.len
  rw[hcount] at hzl
  have hT6:=hT.mono (hm5.trans hm6)
  have hil2:i<(ds.take i++List.replicate (l.length-i) 0).length:=by have:=hD.len;simp;omega
  obtain ⟨bt,ot,hbt,hpt,_,hst⟩:=hT6.at hil2
  obtain ⟨m7,hst7,hch7,hT7⟩:=hst (ds.getD i 0)
  have hst7':storeE m6 1 (.ptr bt ot) (.int .i64 ((ds.getD i 0:Nat):Int))=some (.undef,m7):=hst7
  have hset:(ds.take i++List.replicate (l.length-i) 0).set i (ds.getD i 0)=ds.take (i+1)++List.replicate (l.length-(i+1)) 0:=by
   have hdl:=hD.len
   rw[List.set_append_right _ _ (by simp;omega),List.take_add_one,hD.at hil,List.append_assoc]
   congr 1
   rw[show l.length-i=(l.length-(i+1))+1 by omega,List.replicate_succ]
   simp[hdl,Nat.min_eq_left (Nat.le_of_lt hil)]
  rw[hset] at hT7
  have hp7:m2<+:m7:=hch7.pre (hm4.trans (hm5.trans hm6)) fun b hb e=>by have:=(hT6.blk_lo hbt).1;omega
  generalize ds.getD i 0=di at*
  simp[hzl,hpt,hst7',hw]
  exact ⟨q,by omega,(hI _ _ _).2 ⟨i+1,by omega,by simp,hp7,hT7⟩⟩
 intro a m4 hJ4
 obtain ⟨hfa,hm24,hT⟩:=(hJ _ _).1 hJ4
 clear hJ4 hJ J hZ0 hm23
 have hm04:=hm02.trans hm24
 simp[hfa]
 obtain ⟨I,hI⟩: ∃I:Nat→AFrame→AMem→Prop,∀q a m',I q a m'↔(∃(n:Nat) (o:AVal),n+q=l.length∧a=h29_2 s vr tt o (.int .i64 n)∧m4<+:m'∧OwT m4.length m' o (redT l ds (min n kd))∧ ∀k,k<min n kd→ ¬badAt l ds k):=⟨_,fun _ _ _=>Iff.rfl⟩
 have hkl:kd≤l.length:=hD.le
 refine W_loop I l.length ((hI _ _ _).2 ⟨0,.nilslice,by simp,by simp,List.prefix_refl _,⟨[],by simpa[redT] using Ow.nil,by simp[redT]⟩,fun k hk=>by omega⟩) ?_
 rintro q a m5 hIn
 obtain ⟨n,o,hn,rfl,hm45,hO,hnb⟩:=(hI _ _ _).1 hIn
 clear hIn
 simp[hs.len]
 refine bbind_dec (fun hnl=>?_) fun hnl=>?_
 rotate_left
 ·have hnl:n=l.length:=by omega
  subst hnl
  rw[Nat.min_eq_right hkl] at hO hnb
  simp
  have h04:=hm04.length_le
  have h02:=hm02.length_le
  refine ⟨hm04.trans hm45,o,tt,⟨rfl,rfl⟩,(hT.mono hm45).lo' h02,?_,hnb⟩
  obtain ⟨cs,g1,g2⟩:=hO
  exact ⟨cs,g1.lo h04,fun i x hx m' hc=>g2 i x hx m' (hc.weaken fun b _ e=>e.elim .inl fun e=> .inr (by omega))⟩
 have hnl:n<l.length:=by omega
 have hwn:=step64 (k:=n) (n:=l.length) hnl (by omega)
 obtain ⟨q,rfl⟩: ∃q',q=q'+1:=⟨q-1,by omega⟩
 simp
 obtain ⟨I4,hI4⟩: ∃I:Nat→AFrame→AMem→Prop,∀q a m',I q a m'↔(∃i:Nat,i+q=l.length∧a=h29_3 s vr tt o (.int .i64 n) (.int .i64 i)∧m5<+:m'∧ ∀j,j<i→ds.getD j 0≠n):=⟨_,fun _ _ _=>Iff.rfl⟩
 refine W_loop I4 l.length ((hI4 _ _ _).2 ⟨0,by simp,by simp,List.prefix_refl _,fun j hj=>by omega⟩) ?_
 rintro q4 a m6 hIn
 obtain ⟨i,hi,rfl,hm56,hno⟩:=(hI4 _ _ _).1 hIn
 clear hIn
 have hm46:=hm45.trans hm56
 have hm06:=hm04.trans hm46
 simp[hs.len]
 refine bbind_dec (fun hil=>?_) fun hil=>?_
 rotate_left
 ·have hil:i=l.length:=by omega
  subst hil
  have hnk:kd≤n:=Nat.le_of_not_lt fun h=>by
   obtain ⟨a,ha⟩:=hD.surj n h
   have hal:a<l.length:=by rw[←hD.len];exact (List.getElem?_eq_some_iff.1 ha).1
   exact hno a hal (by rw[List.getD_eq_getElem?_getD,ha];rfl)
  rw[Nat.min_eq_right hnk] at hO hnb
  simp[hwn]
  exact ⟨q,by omega,(hI _ _ _).2 ⟨n+1,o,by omega,by simp,hm46,by rw[Nat.min_eq_right (by omega)];exact hO.mono hm56,by rw[Nat.min_eq_right (by omega)];exact hnb⟩⟩
 have hil:i<l.length:=by omega
 have hwi:=step64 (k:=i) (n:=l.length) hil (by omega)
 obtain ⟨q4,rfl⟩: ∃q',q4=q'+1:=⟨q4-1,by omega⟩
 obtain ⟨bt,ot,_,hpt,hlt,_⟩:=(hT.mono hm46).at (i:=i) (by rw[hD.len];exact hil)
 have hdi:ds[i]'(by rw[hD.len];exact hil)=ds.getD i 0:=by rw[List.getD_eq_getElem?_getD,List.getElem?_eq_getElem (by rw[hD.len];exact hil)];rfl
 rw[hdi] at hlt
 have hlt':loadE m6 1 false (.ptr bt ot)=some (.int .i64 ((ds.getD i 0:Nat):Int)):=hlt
 by_cases hdn:ds.getD i 0=n
 rotate_left
 ·have hdn': ¬((ds.getD i 0:Nat):Int)=(n:Int):=by omega
  have hno': ∀j,j<i+1→ds.getD j 0≠n:=fun j hj=>by
   by_cases e:j=i
   ·subst e;exact hdn
   ·exact hno j (by omega)
  generalize ds.getD i 0=di at*
  simp[hpt,hlt',bneT hdn',hwi]
  refine ⟨q4,by omega,(hI4 _ _ _).2 ⟨i+1,by omega,by simp,hm56,hno'⟩⟩
 have hfo:firstOf ds n=i:=firstOf_at (by rw[hD.len];exact hil) hdn hno
 have hnk:n<kd:=by have:=hD.bound i _ (hD.at hil);omega
 rw[hdn] at hlt'
 obtain ⟨bx',ox,c,g4,g5,_,_,g6⟩:=(hs.mono hm06).atC hil
 simp[hpt,hlt',g4,g5]
 refine C_of (k60 c l[i] m6 g6 (h40 _ (List.getElem_mem hil))) ?_
 rintro _ m7 ⟨hm67,c',rfl,hM⟩
 have hcl:=hM.mode.all
 simp
 rw[store_new _ _ c' _ _ 6 hcl.1 rfl hcl.2]
 have hb8:(m7++ [ABlk.own c' 39 none])[m7.length]? =some (.own c' 39 none):=by simp
 have hm78:m7<+:m7++ [ABlk.own c' 39 none]:=List.prefix_append _ _
 obtain ⟨e2,nm,rfl,hE,hN⟩:=id hM
 have he2:=(Ow.sl hE).self
 have hn1:=(Ow.sl hN).self
 replace hE:=hE.mono hm78
 replace hN:=hN.mono hm78
 have h68:=hm67.length_le
 generalize m7++ [ABlk.own [AVal.int .i64 l[i].kind,AVal.int .i64 l[i].size,e2,nm,AVal.int .i64 l[i].dims,AVal.bool l[i].flex] 39 none]=m8 at*
 generalize m7.length=b8 at*
 have hm58:=(hm56.trans hm67).trans hm78
 have hmd:=mdAt_eq hil
 have hNb:nm.blk≠some b8:=fun e=>by
  obtain ⟨_,_,o1⟩:=hN.own e
  rw[hb8] at o1
  simp at o1
 simp[bx (own_read hb8)]
 obtain ⟨J4,hJ4⟩: ∃J:AFrame→AMem→Prop,∀a m',J a m'↔(∃e3,a.forget [0,6,7,11,12,14]=mat 119 [(0,s),(6,vr),(7,tt),(11,o),(12,.int .i64 n),(14,.ptr b8 0)]∧m5<+:m'∧
  m'[b8]? =some (.own [AVal.int .i64 l[i].kind,AVal.int .i64 l[i].size,e3,nm,AVal.int .i64 l[i].dims,AVal.bool l[i].flex] 39 none)∧
  OwL (AVal.int .i64) m6.length m' 3 e3 ((if isU (mdAt l i)=true then basesOf l i else eN (mdAt l i)).map fun z:Nat=>(z:Int))∧OwL AVal.str m6.length m' 9 nm l[i].names∧ ¬badAt l ds n):=⟨_,fun _ _=>Iff.rfl⟩
 refine bbind_J J4 ?_ ?_
 ·refine bbind_intro (fun hk=>?_) fun hk=>?_
  ·have hk:l[i].kind=12:=by simpa using hk
   have hu':isU l[i]=true:=by simp[isU,hk]
   have hu:isU (mdAt l i)=true:=by rw[hmd];exact hu'
   have hm08:=(hm04.trans hm45).trans hm58
   simp
   refine C_of (k56 s l i hil hu' m8 (hs.mono hm08) ok.good (by omega) ok.h64) ?_
   rintro v9 m9 ⟨hm9,O,hO',hOn,hOm⟩
   simp
   have hOl:=nodup_le l.length O hOn fun x hx=>((hOm x).1 hx).lt ok.good
   refine C_of (k55 v9 vr O (Rl l (l.length+1)) m9 (ints_of_nat hO') (hRk.mono (((hm24.trans hm45).trans hm58).trans hm9)) (fun x hx=>by rw[Rl_length];exact ((hOm x).1 hx).lt ok.good) (by omega)) ?_
   rintro v10 m10 ⟨hm10,zs,hzs,hsb⟩
   have hBo:BasesOk l i zs:=⟨fun _=>⟨O,hOm,hsb.congr (n:=l.length) (fun x hx=>((hOm x).1 hx).lt ok.good) fun x hx=>by rw[Rl_getD l _ hx];rfl⟩,fun h=>by rw[hu] at h;cases h⟩
   obtain rfl:=hBo.eq
   have hb10:=own_mono hb8 (hm9.trans hm10)
   have hv:=(Ow.sl hzs).self
   obtain ⟨m11,hst11,hb11,hch11⟩:=fld_store (i:=2) (v:=v10) hb10 (by simp) hv.2 hv.1
   simp at hb11
   have h810:=(hm9.trans hm10).length_le
   have hb8l:b8<m8.length:=(List.getElem?_eq_some_iff.1 hb8).1
   have hzs11:OwL natI m9.length m11 3 v10 (basesOf l i):=hzs.ch hch11 fun b hb e=>by have:=(hzs.blk_lo hb).1;have:=hm9.length_le;omega
   have hN11:=(hN.mono (hm9.trans hm10)).ch hch11 fun b hb e=>hNb (e▸hb)
   have hm511:m5<+:m11:=hch11.pre (hm58.trans (hm9.trans hm10)) fun b hb e=>by have:=hm56.length_le;omega
   have hlz:=hzs11.len
   have hr11:=bx (own_read hb11) 2
   simp at hr11
   simp[hst11,hr11,hlz]
   have hbl:=(basesEx ok.good hil).length ok.good hil
   refine bbind_dec (fun h2=>?_) fun h2=>?_
   ·have h2:(basesOf l i).length<2:=by omega
    have hbad:badAt l ds n:=by unfold badAt;rw[hfo];exact ⟨hu,h2⟩
    simp
    exact ⟨(hm04.trans hm45).trans hm511,n,hnk,hbad⟩
   ·have h2: ¬(basesOf l i).length<2:=by omega
    have hbad: ¬badAt l ds n:=by unfold badAt;rw[hfo];exact fun h=>h2 h.2
    simp
    exact (hJ4 _ _).2 ⟨v10,rfl,hm511,hb11,by rw[if_pos hu];exact owl_nat (hzs11.lo' (by have:=(hm67.trans (hm78.trans hm9)).length_le;omega)),hN11,hbad⟩
  ·have hk: ¬l[i].kind=12:=by simpa using hk
   have hu: ¬isU (mdAt l i)=true:=by rw[hmd];simp[isU,hk]
   simp
   exact (hJ4 _ _).2 ⟨e2,rfl,hm58,hb8,by rw[if_neg hu,hmd,eN_cast ok.good hil];exact hE,hN,fun h=>by unfold badAt at h;rw[hfo] at h;exact hu h.1⟩
 intro a m9 hJ9
 obtain ⟨e3,hfa9,hm59,hb9,hE9,hN9,hbad⟩:=(hJ4 _ _).1 hJ9
 clear hJ9 hJ4 J4 hb8 hE hN he2 hM hm58
 obtain ⟨E0,hE0⟩: ∃E0:List Nat,E0=if isU (mdAt l i)=true then basesOf l i else eN (mdAt l i):=⟨_,rfl⟩
 rw[←hE0] at hE9
 have hE0lt: ∀z∈E0,z<l.length:=fun z hz=>by
  rw[hE0] at hz
  split at hz
  ·exact bases_lt ok.good hil z hz
  ·exact eN_lt ok.good hil hz
 have hE0l:E0.length≤64:=by
  rw[hE0]
  split
  ·have:=(basesEx ok.good hil).length ok.good hil;omega
  ·rw[eN_len,hmd];exact ok.h64 _ (List.getElem_mem hil)
 simp[hfa9]
 obtain ⟨I5,hI5⟩: ∃I:Nat→AFrame→AMem→Prop,∀q a m',I q a m'↔(∃k:Nat,k+q=E0.length∧a=h29_4 s vr tt o (.int .i64 n) (.ptr b8 0) (.int .i64 k)∧m5<+:m'∧
  m'[b8]? =some (.own [AVal.int .i64 l[i].kind,AVal.int .i64 l[i].size,e3,nm,AVal.int .i64 l[i].dims,AVal.bool l[i].flex] 39 none)∧
  OwL (AVal.int .i64) m6.length m' 3 e3 ((E0.take k).map (fun z=>((ds.getD z 0:Nat):Int))++(E0.drop k).map fun z:Nat=>(z:Int))∧OwL AVal.str m6.length m' 9 nm l[i].names):=⟨_,fun _ _ _=>Iff.rfl⟩
 refine W_loop I5 E0.length ((hI5 _ _ _).2 ⟨0,by simp,by simp,hm59,hb9,by simpa using hE9,hN9⟩) ?_
 clear hm59 hb9 hE9 hN9
 rintro q5 a m10 hIn
 obtain ⟨k,hk,rfl,hm510,hb10,hE10,hN10⟩:=(hI5 _ _ _).1 hIn
 clear hIn
 have hl10:lenE e3=some (.int .i64 E0.length):=by
  rw[hE10.len,show ((E0.take k).map (fun z=>((ds.getD z 0:Nat):Int))++(E0.drop k).map fun z:Nat=>(z:Int)).length=E0.length by simp;omega]
 have hr10:=bx (own_read hb10) 2
 simp at hr10
 simp[hr10,hl10]
 refine bbind_dec (fun hkl=>?_) fun hkl=>?_
 ·have hkl:k<E0.length:=by omega
  have hwk:=step64 (k:=k) (n:=E0.length) hkl (by omega)
  obtain ⟨q5,rfl⟩: ∃q',q5=q'+1:=⟨q5-1,by omega⟩
  have hlen9:k<((E0.take k).map (fun z=>((ds.getD z 0:Nat):Int))++(E0.drop k).map fun z:Nat=>(z:Int)).length:=by simp;omega
  have hge:((E0.take k).map (fun z=>((ds.getD z 0:Nat):Int))++(E0.drop k).map fun z:Nat=>(z:Int))[k]=(E0[k]:Int):=by
   rw[List.getElem_append_right (by simp;omega)]
   simp[List.length_take,Nat.min_eq_left (Nat.le_of_lt hkl)]
  obtain ⟨bk,ok',hbk,hpk,hlk,hstk⟩:=hE10.at hlen9
  rw[hge] at hlk
  have hzl:=hE0lt _ (List.getElem_mem hkl)
  obtain ⟨bz,oz,_,hpz,hlz,_⟩:=(hT.mono (hm45.trans hm510)).at (i:=E0[k]) (by rw[hD.len];exact hzl)
  have hdz:ds[E0[k]]'(by rw[hD.len];exact hzl)=ds.getD E0[k] 0:=by rw[List.getD_eq_getElem?_getD,List.getElem?_eq_getElem (by rw[hD.len];exact hzl)];rfl
  rw[hdz] at hlz
  have hlz':loadE m10 1 false (.ptr bz oz)=some (.int .i64 ((ds.getD E0[k] 0:Nat):Int)):=hlz
  have hset:((E0.take k).map (fun z=>((ds.getD z 0:Nat):Int))++(E0.drop k).map fun z:Nat=>(z:Int)).set k ((ds.getD E0[k] 0:Nat):Int)=(E0.take (k+1)).map (fun z=>((ds.getD z 0:Nat):Int))++(E0.drop (k+1)).map fun z:Nat=>(z:Int):=by
   rw[List.set_append_right _ _ (by simp;omega),List.take_add_one,List.getElem?_eq_getElem hkl,List.map_append,List.append_assoc]
   congr 1
   rw[show k-((E0.take k).map fun z=>((ds.getD z 0:Nat):Int)).length=0 by simp;omega,List.drop_eq_getElem_cons hkl]
   rfl
  clear hdz hlz hstk
  generalize hdv:ds.getD E0[k] 0=dv at*
  have hpz':=hpz .i64
  generalize hez:E0[k]=ez at*
  simp
  refine W_draw (fun _ _ _=>True) (by simp[maxDst]) ?_
  refine D_pc 0 12 [12] ?_
  simp[hr10,hpk,hlk,hpz',hlz']
  intro fs1 _
  refine D_W rfl rfl fun m11 hm11 _=>?_
  obtain ⟨bk2,ok2,hbk2,hpk2,_,hst2⟩:=(hE10.mono hm11).at hlen9
  obtain ⟨rfl,rfl⟩:bk2=bk∧ok2=ok':=by have:=(hpk2 .i64).symm.trans (hpk .i64);simpa using this
  obtain ⟨m12,hst12,hch12,hE12⟩:=hst2 (dv:Int)
  rw[hset] at hE12
  have hbk6:=(hE10.blk_lo hbk).1
  simp[hst12]
  refine D_end fun m13 hm13 _=>?_
  simp[hwk]
  refine ⟨q5,by omega,(hI5 _ _ _).2 ⟨k+1,by omega,by simp,(hch12.pre (hm510.trans hm11) fun b hb e=>by have:=hm56.length_le;omega).trans hm13,own_mono (own_ch (own_mono hb10 hm11) hch12 fun e=>?_) hm13,hE12.mono hm13,((hN10.mono hm11).ch hch12 fun b hb e=>?_).mono hm13⟩⟩
  ·obtain ⟨_,_,o1⟩:=hE10.own hbk
   rw[←e,hb10] at o1
   simp at o1
  ·obtain ⟨_,_,o1⟩:=hE10.own hbk
   obtain ⟨_,_,o2⟩:=hN10.own hb
   subst e
   rw[o1] at o2
   simp at o2
 ·have hkE:k=E0.length:=by omega
  subst hkE
  simp at hE10
  have hred:redOf l ds n=⟨l[i].kind,l[i].size,E0.map (fun z=>((ds.getD z 0:Nat):Int)),l[i].names,l[i].dims,l[i].flex⟩:=by
   unfold redOf
   rw[hfo,hmd,hE0,hmd]
  have hM10:OwM m6.length m10 [.int .i64 l[i].kind,.int .i64 l[i].size,e3,nm,.int .i64 l[i].dims,.bool l[i].flex] (redOf l ds n):=by
   rw[hred]
   exact ⟨e3,nm,rfl,by simpa using hE10,hN10⟩
  have hb10r:=bxW (own_read hb10) 6
  simp[readN] at hb10r
  have he3:=(Ow.sl hE10).self
  have hfill:fillA [.int .i64 0,.int .i64 0,.nilslice,.nilslice,.int .i64 0,.bool false] [(0,6,.agg [.int .i64 l[i].kind,.int .i64 l[i].size,e3,nm,.int .i64 l[i].dims,.bool l[i].flex])]=some [.int .i64 l[i].kind,.int .i64 l[i].size,e3,nm,.int .i64 l[i].dims,.bool l[i].flex]:=by
   simp[fillA,setN,he3.1,hn1.1]
  simp[hb10r,hfill]
  have hsc:=lit6 m10 [.int .i64 l[i].kind,.int .i64 l[i].size,e3,nm,.int .i64 l[i].dims,.bool l[i].flex] rfl none
  have hm1011:m10<+:m10++ [ABlk.own [.int .i64 l[i].kind,.int .i64 l[i].size,e3,nm,.int .i64 l[i].dims,.bool l[i].flex] 39 none]:=List.prefix_append _ _
  have hob: ∀b,o.blk=some b→b<m6.length:=fun b hb=>by have:=(hO.blk_lo hb).2;have:=hm56.length_le;omega
  generalize m10++ [ABlk.own [.int .i64 l[i].kind,.int .i64 l[i].size,e3,nm,.int .i64 l[i].dims,.bool l[i].flex] 39 none]=m11 at*
  have hm511:=hm510.trans hm1011
  have hrl:=redT_len l ds (min n kd)
  obtain ⟨o',m12,happ,hch12,hO12,_⟩:=(hO.mono hm511).pushM (by have:=(hm45.trans hm511).length_le;omega) (hM10.mono hm1011) hob (by have:=hm46.length_le;omega) (by omega)
  have hTn:redT l ds (min n kd)++ [redOf l ds n]=redT l ds (min (n+1) kd):=by
   rw[Nat.min_eq_left (by omega),Nat.min_eq_left (by omega)]
   unfold redT
   rw[List.range_succ,List.map_append]
   rfl
  rw[hTn] at hO12
  simp[hsc,happ,hwn]
  refine ⟨q,by omega,(hI _ _ _).2 ⟨n+1,o',by omega,by simp,hch12.pre (hm45.trans hm511) fun b hb e=>by have:=(hO.blk_lo e).1;omega,hO12,fun k hk=>?_⟩⟩
  by_cases e:k=n
  ·subst e;exact hbad
  ·exact hnb k (by omega)
end Go.Proofs.YtlniliigcnedmaaGreatDoor
namespace Go.Proofs.YtlniliigcnedmaaGreatDoor
open Go Ax Go.ChangeShapes Go.WideShapes Go.ChangeAt Go.RowKit
set_option maxRecDepth 100000
def LawT1 (f:FuncId):Prop:= ∀(m:AMem) (s:AVal) (l:List Md),RTab m s l→(∀md∈l,MdB reachBytes md)→ACalls Tryz.prog f [s] m fun r _=>r= .bool true
theorem liftedD1 {os:Os} {F:Stop.Interp} (started:os.Started) {H:Type} {enc:TypeId×Value→H} {f:FuncId} {fn:Func} {s:ChangeSpec} {conds:List PathCond}
  (noInit: Tryz.checked.prog.inits.idxOf? f=none) (hfn: Tryz.checked.prog.funcs[f]? =some fn) (hp:fn.params= #[22]) (hr:fn.resultTypes= #[4]) (hs:s.vars= [])
  (hsf: ∀d1:DataW H,s.fn H [d1]={results:= [.lit (.bool true)],args:= [d1]})
  (witness: ∃(w:World) (tape:Tape) (i:Input),w.os=os∧(w.forCall tape i).Shaped Tryz.checked.prog∧i.vars= []∧Input.okWide Tryz.checked.prog (w.forCall tape i) .any w.heap.size f i∧
   (OpenSpec.ofChange s).preRow enc Tryz.prog fn conds false laidL (w.forCall tape i).memory i.args∧({}:Assume).holds Tryz.checked.prog (lone (Frame.enter Tryz.checked.prog f i.args .normal) [] (w.forCall tape i)))
  (law:LawT1 f):
  ReturnsInHanded {} Tryz.checked os f .any ((OpenSpec.ofChange s).preRow enc Tryz.prog fn conds false laidL) (((OpenSpec.ofChange s).at F).post enc Tryz.prog fn false true false false):=by
 refine returnsInHanded_of_row (C:= Tryz.checked) (s:=OpenSpec.ofChange s) own0 started noInit hfn witness ?_
 intro W base args ds gs before hval0 hW _ _ hsz0 hL _ _
 show Calls _ _ _ _ fun e W'=> ∃v,e= .returned v∧s.post enc Tryz.prog fn false true false false W args v W'
 replace hW:DataW.Whole enc Tryz.prog fn.params.toList s.vars false W args.toList ds gs before:=hW
 have hW':=hW
 rw[hp] at hval0 hsz0
 obtain ⟨p,q,hA,hV,rfl,_,_⟩:=hW
 rw[hp] at hA
 rw[hs] at hV
 obtain ⟨v0,vs0,d0,ds0,p0,q0,hargs,rfl,rfl,h0,r0⟩:=trodAll_cons hA
 obtain ⟨rfl,rfl,rfl⟩:=trodAll_nil r0
 obtain rfl:args= #[v0]:=by cases args;simp_all
 obtain ⟨rfl,rfl⟩:=trodVars_none hV
 have hv0:=hval0 0 22 v0 rfl rfl
 have h0k:=h0
 obtain ⟨fuel,hf⟩:=h0
 obtain ⟨a0,len,cap,rfl⟩:=okWide_slice under22 hv0
 obtain ⟨l,hent,hbd⟩:=enters_tab (enc:=enc) modeT (fuel:=fuel) (x:=(d0,p0)) (fun a len' cap' e=>by
  simp[Value.cells] at e
  obtain ⟨rfl,rfl,rfl⟩:=e
  exact heap_pos under22 hv0) hf
 obtain ⟨_,b2⟩:=hbd reachBytes (by
  rw[List.all_eq_true] at hsz0 ⊢
  intro n hn
  exact hsz0 n (DataW.weights_mem_each (j:=0) (t:=22) (d:=d0) (by simp) (by simp) n hn))
 obtain ⟨ρ',m',xs,_,_,hro,hsim,hvr,sv,rfl,hT⟩:=hent [] [] (Sim.nil W) RoMem.nil
 simp only[VRs] at hvr
 obtain ⟨_,_,e,hvr,rfl⟩:=hvr
 simp[Value.cells] at e
 subst e
 have hlt: ∀x∈p0,x.block<W.heap.size:=fun x hx=>hW'.lt x (by simp[hx])
 refine ((law m' sv l hT b2).2 ρ' W #[.slice a0 len cap] hsim (glob_of hL hro) (by simp only[VRs,VR];exact ⟨_,_,rfl,hvr,rfl⟩)).mono fun e W' h=>?_
 obtain ⟨v',v,m'',ρ'',rfl,rfl,hv,_,hev⟩:=h
 simp only[VR] at hv
 subst hv
 have hb:=below_of_evol hro hev
 refine ⟨_,rfl,[d0],[],_,[],p0++ [],[],hW',?_,?_,?_,hb.frame _,fun h=>by cases h⟩
 ·rw[hr]
  show DataW.TrodAll enc _ W' _ _ _ [4] _ (s.fn H [d0]).results []
  rw[hsf]
  exact trodAll_mk1 (shut_bool under4 true)
 ·rw[hp]
  show DataW.TrodAll enc _ W' _ _ _ [22] _ (s.fn H [d0]).args _
  rw[hsf]
  exact trodAll_cons_mk (Below.trod laidOut (by kernel_rfl) (of_decide_eq_true (by kernel_rfl)) h0k hb hlt) trodAll_mk0
 ·show DataW.TrodVars enc _ W' _ s.vars (s.fn H [d0]).vars _
  rw[hsf,hs]
  rfl
end Go.Proofs.YtlniliigcnedmaaGreatDoor
namespace Go.Proofs.YtlniliigcnedmaaGreatDoor
open Go Ax Go.ChangeShapes Go.WideShapes Go.ChangeAt Go.RowKit
set_option maxRecDepth 100000
theorem red_small {l:List Md} (hc:checkI l=0) (hl:l.length≤60) (hsz: ∀x∈l,smallN x) {ds:List Nat} {kd:Nat} (hD:DenseOf l.length (fun a b=>RR l a<RR l b) ds kd): ∀x∈redT l ds kd,smallN x:=by
 intro x hx
 have ok:=okT_of hc
 obtain ⟨k,hk,rfl⟩:=List.mem_map.1 hx
 have hk:=List.mem_range.1 hk
 have hf:firstOf ds k<l.length:=by
  obtain ⟨a,ha⟩:=hD.surj k hk
  have hal:a<ds.length:=(List.getElem?_eq_some_iff.1 ha).1
  have hav:ds.getD a 0=k:=by rw[List.getD_eq_getElem?_getD,ha];rfl
  unfold firstOf
  obtain ⟨j,h1,h2,h3,_⟩:=fidx_spec (p:=fun i=>(ds.map fun z:Nat=>(z:Int))[i]? ==some (k:Int)) ds.length 0 ((fidx_nonneg _ _ _).2 ⟨a,by omega,by omega,by simp[ha]⟩)
  rw[h3]
  have:=hD.len
  simp
  omega
 have hm:=hsz _ (mdAt_mem hf)
 have h64:=ok.h64 _ (mdAt_mem hf)
 have hb:=(basesEx ok.good hf).length ok.good hf
 refine ⟨?_,hm.2.1,hm.2.2⟩
 show (List.map _ _).length<_
 rw[List.length_map]
 split
 ·omega
 ·rw[eN_len];omega
set_option maxHeartbeats 4000000 in
theorem k8:LawT1 8:=by
 intro m s l hs hb
 refine w8 ?_
 simp
 refine C_of (k13 m) ?_
 rintro _ m1 ⟨rfl,hm1⟩
 simp
 refine C_of (k14 s l 12 m1 (hs.mono hm1) (by omega)) ?_
 rintro _ m2 ⟨rfl,hm2⟩
 have hm02:=hm1.trans hm2
 cases hsm:(decide ((l.length:Int)≤12)&&l.all fun x=>decide (x.elems.length≤6)&&decide (x.names.length≤6))
 ·simp
 have hf:=fits_of hb hsm
 have hln:l.length≤60:=by have:=hf.n;omega
 simp
 by_cases hc:checkI l=0
 ·refine C_of (k28f s l m2 (hs.mono hm02) hf.sm (fun x hx=>(hf.h40 x hx).2) (T13.of hf.n) hc) ?_
  rintro v3 m3 ⟨hm3,ds,kd,hD,h3⟩
  have hrs:=red_small hc hln hf.sm hD
  have hrl:(redT l ds kd).length<2^62:=by rw[redT_len];have:=hD.le;omega
  have hdl:ds.length<2^62:=by rw[hD.len];omega
  have h262:=k29 s l m3 (hs.mono (hm02.trans hm3)) hf.sm hf.h40 hln hc ds kd hD
  rcases h3 with ⟨t,n,rfl,hn,ht,hok⟩|⟨rfl,kb,hkb,hbad⟩
  ·simp
   refine C_of h262 ?_
   rintro v4 m4 ⟨hm4,h4⟩
   rcases h4 with ⟨t4,n4,rfl,hn4,ht4,_⟩|⟨rfl,kb,hkb,hbad⟩
   ·simp
    refine C_of (k30 t t4 (redT l ds kd) m4 (ht.tab.mono hm4) ht4.tab hrs hrl) ?_
    rintro _ m5 ⟨rfl,hm5⟩
    simp
    refine C_of (k27 n n4 (ds.map fun z:Nat=>(z:Int)) m5 ((ints_of_nat hn).mono (hm4.trans hm5)) ((ints_of_nat hn4).mono hm5) (by simpa using hdl)) ?_
    rintro _ m6 ⟨rfl,hm6⟩
    simp
   ·exact absurd hbad (hok kb hkb)
  ·simp
   refine C_of h262 ?_
   rintro v4 m4 ⟨hm4,h4⟩
   rcases h4 with ⟨t4,n4,rfl,hn4,ht4,hok⟩|⟨rfl,_⟩
   ·exact absurd hbad (hok kb hkb)
   ·simp
    refine C_of (k30 .nilslice .nilslice [] m4 (RTab.nil0 _) (RTab.nil0 _) (by simp) (by simp)) ?_
    rintro _ m5 ⟨rfl,hm5⟩
    simp
    refine C_of (k27 .nilslice .nilslice [] m5 Sl.nil Sl.nil (by simp)) ?_
    rintro _ m6 ⟨rfl,hm6⟩
    simp
 ·have hal:ACalls Tryz.prog 28 [s] m2 fun v m'=>m2<+:m'∧v= .tuple [.nilslice,.nilslice,.int .i64 (checkI l)]:=by
   refine w28 ?_
   simp
   refine C_of (k52 s l m2 (hs.mono hm02) hf.sm (by omega)) ?_
   rintro _ m3 ⟨rfl,hm3⟩
   simp[bneT hc]
   exact hm3
  refine C_of hal ?_
  rintro _ m3 ⟨hm3,rfl⟩
  have hre:ACalls Tryz.prog 29 [s] m3 fun v m'=>m3<+:m'∧v= .tuple [.nilslice,.nilslice,.int .i64 (checkI l)]:=by
   refine w29 ?_
   simp
   refine C_of (k59 s l m3 (hs.mono (hm02.trans hm3)) hf.sm (by omega)) ?_
   rintro _ m4 ⟨rfl,hm4⟩
   simp[bneT hc]
   exact hm4
  simp
  refine C_of hre ?_
  rintro _ m4 ⟨hm4,rfl⟩
  simp
  refine C_of (k30 .nilslice .nilslice [] m4 (RTab.nil0 _) (RTab.nil0 _) (by simp) (by simp)) ?_
  rintro _ m5 ⟨rfl,hm5⟩
  simp
  refine C_of (k27 .nilslice .nilslice [] m5 Sl.nil Sl.nil (by simp)) ?_
  rintro _ m6 ⟨rfl,hm6⟩
  simp
end Go.Proofs.YtlniliigcnedmaaGreatDoor
namespace Go.Proofs.YtlniliigcnedmaaGreatDoor
open Go Ax Go.ChangeShapes Go.WideShapes Go.ChangeAt Go.RowKit
set_option maxRecDepth 100000
end Go.Proofs.YtlniliigcnedmaaGreatDoor
