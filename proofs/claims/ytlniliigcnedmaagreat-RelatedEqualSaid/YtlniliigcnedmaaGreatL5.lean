/- Modes related firmly, walked in the framework Ax.  Conditions: none beyond those stated.  Conditions: none beyond those stated. -/
import Derived.Test.YtlniliigcnedmaaGreatL4
import Derived.ProofKit
import Derived.SizedLaws
import Derived.SliceStrings
import Derived.Deep.Slices
import Derived.DataElems
import Derived.Test.YtlniliigcnedmaaGreatRows
import Derived.OpenShut
set_option linter.unusedSimpArgs false
set_option linter.unusedVariables false
namespace Go.Proofs.YtlniliigcnedmaaGreat
open Go Ax
set_option maxRecDepth 100000
def CmpOkC (S:Nat→Prop) (m0:AMem) (g:FuncId) (fs cs:List AVal) (D:Int→Prop) (C:Int→Int→Int):Prop:=
 ∀a b,D a→D b→ ∀m',Ch S m0 m'→ACalls Tryz.prog g (fs++ [.int .i64 a,.int .i64 b]++cs) m' fun v m''=>v= .int .i64 (C a b)∧m'<+:m''
set_option maxHeartbeats 4000000 in
theorem k133c (t:AVal) (ty:TypeId) (lo:Nat) (m0:AMem) (hlo:m0.length≤lo) (g:FuncId) (fs cs:List AVal) (C:Int→Int→Int) (D:Int→Prop) (hC:Ord C D) (m:AMem) (hcmp:CmpOkC (fun b=>t.blk=some b) m g fs cs D C) (xs:List Int) (hD: ∀x∈xs,D x) (hn:xs.length<2^62) (hm:m0<+:m) (hX:OwL (AVal.int .i64) lo m ty t xs):
  ACalls Tryz.prog 133 [t,.int .i64 0,.int .i64 xs.length,.func (.func g) fs cs] m fun _ m'=>m0<+:m'∧Ch (fun b=>t.blk=some b) m m'∧ ∃ys,OwL (AVal.int .i64) lo m' ty t ys∧ys.Perm xs∧SortedTo C ys ys.length:=by
 refine w133 ?_
 simp
 rw[wrap64 (x:=1) (by omega) (by omega)]
 obtain ⟨I,hI⟩: ∃I:Nat→AFrame→AMem→Prop,∀q a m',I q a m'↔(∃(i:Nat) (ys:List Int),i+q=xs.length+1∧1≤i∧a=h133_0 t (.int .i64 0) (.int .i64 xs.length) (.func (.func g) fs cs) (.int .i64 i)∧m0<+:m'∧Ch (fun b=>t.blk=some b) m m'∧OwL (AVal.int .i64) lo m' ty t ys∧ys.Perm xs∧SortedTo C ys i):=⟨_,fun _ _ _=>Iff.rfl⟩
 refine W_loop I xs.length ((hI _ _ _).2 ⟨1,xs,by omega,by omega,rfl,hm,.refl _ _,hX,.refl _,fun p q a b h1 h2=>by omega⟩) ?_
 clear hX hm
 rintro q a m1 hIn
 obtain ⟨i,ys,hk,hi1,rfl,hm1,hch1,hY,hperm,hsort⟩:=(hI _ _ _).1 hIn
 clear hIn
 have hyl:=hperm.length_eq
 simp
 refine bbind_dec (fun hil=>?_) fun hil=>?_
 ·have hw:=step64 hil hn
  obtain ⟨q,rfl⟩: ∃q',q=q'+1:=⟨q-1,by omega⟩
  simp
  obtain ⟨I2,hI2⟩: ∃I:Nat→AFrame→AMem→Prop,∀q a m',I q a m'↔(∃(ys:List Int),a=h133_1 t (.int .i64 0) (.int .i64 xs.length) (.func (.func g) fs cs) (.int .i64 i) (.int .i64 q)∧m0<+:m'∧Ch (fun b=>t.blk=some b) m m'∧OwL (AVal.int .i64) lo m' ty t ys∧ys.Perm xs∧InsInv C ys i q):=⟨_,fun _ _ _=>Iff.rfl⟩
  refine W_loop I2 i ((hI2 _ _ _).2 ⟨ys,rfl,hm1,hch1,hY,hperm,.start hsort⟩) ?_
  clear hm1 hch1 hY hperm hsort hyl
  rintro j a m2 hIn
  obtain ⟨ys,rfl,hm2,hch2,hY,hperm,hins⟩:=(hI2 _ _ _).1 hIn
  clear hIn
  have hyl:=hperm.length_eq
  have hDy: ∀x∈ys,D x:=fun x hx=>hD x (hperm.mem_iff.1 hx)
  have hji:=hins.le
  simp
  have done: ∀m3,m2<+:m3→(j=0∨ ∀a b,ys[j]? =some a→ys[j-1]? =some b→ ¬C a b<0)→I q (h133_0 t (.int .i64 0) (.int .i64 xs.length) (.func (.func g) fs cs) (.int .i64 (i+1:Nat))) m3:=fun m3 hm3 hs=>(hI _ _ _).2 ⟨i+1,ys,by omega,by omega,rfl,hm2.trans hm3,hch2.trans (.of_prefix hm3),hY.mono hm3,hperm,hins.stop hC hDy hs⟩
  refine W_draw (fun _ _ _=>True) (by simp[maxDst]) ?_
  refine D_pc 0 14 [14,15,16] ?_
  by_cases hj:0<j
  ·have hj':(0:Int)<j:=by omega
   obtain ⟨j,rfl⟩: ∃j',j=j'+1:=⟨j-1,by omega⟩
   simp only[Nat.add_sub_cancel] at done
   have hj1:j+1<ys.length:=by omega
   have hj0:j<ys.length:=by omega
   obtain ⟨b1,o1,hb1,hp1,hl1,_⟩:=hY.at hj1
   obtain ⟨b0,o0,hb0,hp0,hl0,_⟩:=hY.at hj0
   have hx:ys[j+1]? =some ys[j+1]:=List.getElem?_eq_getElem hj1
   have hy:ys[j]? =some ys[j]:=List.getElem?_eq_getElem hj0
   have hDx:=hDy _ (List.getElem_mem hj1)
   have hDy':=hDy _ (List.getElem_mem hj0)
   have hswapP:=List.set_set_perm hj1 hj0
   generalize hxx:ys[j+1]=x at*
   generalize hyy:ys[j]=y at*
   simp only[Int.natCast_add,Int.cast_ofNat_Int] at hp1 hj' ⊢
   have hpj:IntKind.i64.wrap (j:Int)=j:=wrap64 (by omega) (by omega)
   simp[hj',hp1,hl1,hpj,hp0,hl0]
   intro fs' hfs'
   refine D_Xg rfl rfl (b:=true) (by simp) (fun _ m5 hm5 _=>?_) (fun h=>absurd rfl h)
   simp
   have hcall:=hcmp x y hDx hDy' m5 (hch2.trans (.of_prefix hm5))
   simp at hcall
   refine C_of hcall ?_
   rintro _ m6 ⟨rfl,hm6⟩
   refine ⟨by simp[lateOf],?_⟩
   refine D_pc 15 2 [] ?_
   simp
   intro fs'' hfs''
   refine D_end fun m7 hm7 _=>?_
   simp
   have hm27:=(hm5.trans hm6).trans hm7
   refine bbind_dec (fun hlt=>?_) fun hlt=>?_
   ·simp
    refine W_draw (fun _ _ _=>True) (by simp[maxDst]) ?_
    refine D_pc 0 15 [15,16,17] ?_
    simp[hp1,hpj,hp0,loadE_mono hm27 hl1,loadE_mono hm27 hl0]
    intro fs3 _
    refine D_W rfl rfl fun m8 hm8 _=>?_
    have hY8:=hY.mono (hm27.trans hm8)
    obtain ⟨b1',o1',hb1',hp1',_,hst1⟩:=hY8.at hj1
    obtain ⟨rfl,rfl⟩:b1'=b1∧o1'=o1:=by have:=(hp1' .i64).symm.trans (by simpa using hp1 .i64);simpa using this
    obtain ⟨m9,hst9,hch9,hY9⟩:=hst1 y
    simp[hst9]
    refine D_pc 16 1 [17] ?_
    simp[hp0]
    intro fs4 _
    refine D_W rfl rfl fun m10 hm10 _=>?_
    have hY10:=hY9.mono hm10
    obtain ⟨b0',o0',hb0',hp0',_,hst0⟩:=hY10.at (i:=j) (by simpa using hj0)
    obtain ⟨rfl,rfl⟩:b0'=b0∧o0'=o0:=by have:=(hp0' .i64).symm.trans (hp0 .i64);simpa using this
    obtain ⟨m11,hst11,hch11,hY11⟩:=hst0 x
    simp[hst11]
    refine D_end fun m12 hm12 _=>?_
    simp[hpj]
    have hcc:Ch (fun b=>t.blk=some b) m2 m12:=((((Ch.of_prefix (hm27.trans hm8)).trans (hch9.weaken fun b _ hb=>by rw[hb];exact hb1')).trans (.of_prefix hm10)).trans (hch11.weaken fun b _ hb=>by rw[hb];exact hb0')).trans (.of_prefix hm12)
    refine ⟨j,by omega,(hI2 _ _ _).2 ⟨_,rfl,hcc.pre hm2 fun b hb hbb=>?_,hch2.trans hcc,hY11.mono hm12,?_,hins.swap hx hy hlt⟩⟩
    ·have:=(hY.blk_lo hbb).1;omega
    ·exact (by simpa using hswapP:((ys.set (j+1) y).set j x).Perm ys).trans hperm
   ·simp[hw]
    have hd:=done m7 hm27 (.inr fun a b ha hb=>by rw[hx] at ha;cases ha;rw[hy] at hb;cases hb;exact hlt)
    exact ⟨q,by omega,by simpa using hd⟩
  ·obtain rfl:j=0:=by omega
   simp
   intro fs' hfs'
   refine D_Xg rfl rfl (b:=false) (by simp) (fun h=>by cases h) (fun _ m5 hm5 _=>⟨by simp[lateOf],?_⟩)
   refine D_pc 15 2 [] ?_
   simp
   intro fs'' hfs''
   refine D_end fun m7 hm7 _=>?_
   simp[hw]
   exact ⟨q,by omega,by simpa using done m7 (hm5.trans hm7) (.inl rfl)⟩
 ·simp
  refine ⟨hm1,hch1,ys,hY,hperm,?_⟩
  by_cases h1:i=ys.length
  ·rw[←h1];exact hsort
  ·intro p q' a b h1' h2 h3 h4
   exact hsort p q' a b h1' (by omega) h3 h4
theorem k172c (t:AVal) (ty:TypeId) (lo:Nat) (m0:AMem) (hlo:m0.length≤lo) (g:FuncId) (fs cs:List AVal) (C:Int→Int→Int) (D:Int→Prop) (hC:Ord C D) (m:AMem) (hcmp:CmpOkC (fun b=>t.blk=some b) m g fs cs D C) (xs:List Int) (hD: ∀x∈xs,D x) (hn:xs.length≤19) (hm:m0<+:m) (hX:OwL (AVal.int .i64) lo m ty t xs):
  ACalls Tryz.prog 172 [t,.int .i64 xs.length,.func (.func g) fs cs] m fun _ m'=>m0<+:m'∧Ch (fun b=>t.blk=some b) m m'∧ ∃ys,OwL (AVal.int .i64) lo m' ty t ys∧ys.Perm xs∧SortedTo C ys ys.length:=by
 refine w172 ?_
 have hnle: ¬(20:Int)≤xs.length:=by omega
 have hnlt: ¬(20:Int)<xs.length:=by omega
 simp
 refine W_loop (fun _ a m'=>m'=m∧a=h172_0 t (.int .i64 xs.length) (.func (.func g) fs cs) (.int .i64 20) (.int .i64 0) (.int .i64 20)) 0 ⟨rfl,rfl⟩ ?_
 rintro n a m1 ⟨rfl,rfl⟩
 simp[hnle]
 refine C_of (k133c t ty lo m0 hlo g fs cs C D hC m1 hcmp xs hD (by omega) hm hX) ?_
 rintro v m2 h
 simp
 refine W_loop (fun _ a m'=>m'=m2∧a=h172_1 t (.int .i64 xs.length) (.func (.func g) fs cs) (.int .i64 20)) 0 ⟨rfl,rfl⟩ ?_
 rintro n a m3 ⟨rfl,rfl⟩
 simp[hnlt]
 exact h
theorem k165c (t:AVal) (ty:TypeId) (lo:Nat) (m0:AMem) (hlo:m0.length≤lo) (g:FuncId) (fs cs:List AVal) (C:Int→Int→Int) (D:Int→Prop) (hC:Ord C D) (m:AMem) (hcmp:CmpOkC (fun b=>t.blk=some b) m g fs cs D C) (xs:List Int) (hD: ∀x∈xs,D x) (hn:xs.length≤19) (hm:m0<+:m) (hX:OwL (AVal.int .i64) lo m ty t xs):
  ACalls Tryz.prog 165 [t,.func (.func g) fs cs] m fun _ m'=>m0<+:m'∧Ch (fun b=>t.blk=some b) m m'∧ ∃ys,OwL (AVal.int .i64) lo m' ty t ys∧ys.Perm xs∧SortedTo C ys ys.length:=by
 refine w165 ?_
 simp[hX.len]
 refine C_of (k172c t ty lo m0 hlo g fs cs C D hC m hcmp xs hD hn hm hX) ?_
 rintro v m' h
 simp
 exact h
set_option maxHeartbeats 4000000 in
theorem k148 (s:AVal) (l:List Md) (m:AMem) (hs:RTab m s l) (hsz: ∀x∈l,smallN x) (hnm: ∀x∈l,x.names.length<2^40) (hn:T13 l) (hc:checkI l=0):
  ACalls Tryz.prog 148 [s] m fun v m'=>m<+:m'∧ ∃ds k,OwL natI m.length m' 3 v ds∧DenseOf l.length (fun a b=>RR l a<RR l b) ds k:=by
 refine w148 ?_
 have h60:=hn.len
 obtain ⟨hsl,hsc⟩:=hs.self
 simp[hsl,hsc]
 have hb1:=readB_new m [s] 22 none
 have hm1:m<+:m++ [.own [s] 22 none]:=List.prefix_append _ _
 have hl1:(m++ [ABlk.own [s] 22 none]).length=m.length+1:=by simp
 generalize m++ [.own [s] 22 none]=m1 at*
 generalize hbb:m.length=b1 at*
 refine C_of (k162 s l m1 (hs.mono hm1) hsz hnm hn hc) ?_
 rintro v2 m2 ⟨hm2,⟨t,nn,ds,kd,rfl,hX,hD⟩|rfl⟩
 ·simp
  exact ⟨hm1.trans hm2,ds,hX.lo' (by omega),kd,hD⟩
 have hc1:8*(l.length:Int)≤281474976710656:=by omega
 have hc2:(l.length:Int)≤9223372036854775807:=by omega
 have hm02:=hm1.trans hm2
 simp[bx (readB_mono hm2 hb1),hs.len,hc1,hc2]
 generalize hnl:l.length=n at*
 have hX0:OwL natI m2.length (m2++ [.own (List.replicate n (.int .i64 0)) 3 none]) 3 (.slice m2.length 0 n n none) (List.replicate n 0):=OwL.rep (f:=natI) m2 3 n 0
 have hm3:m2<+:m2++ [.own (List.replicate n (.int .i64 0)) 3 none]:=List.prefix_append _ _
 generalize AVal.slice m2.length 0 n n none=t6 at*
 generalize m2++ [.own (List.replicate n (.int .i64 0)) 3 none]=m3 at*
 obtain ⟨I,hI⟩: ∃I:Nat→AFrame→AMem→Prop,∀q a m',I q a m'↔(∃(i:Nat) (xs:List Nat),i+q=n∧a=h148_0 (.ptr b1 0) t6 (.int .i64 n) (.int .i64 i)∧m2<+:m'∧OwL natI m2.length m' 3 t6 xs∧xs.length=n∧ ∀(j:Nat),j<i→xs[j]? =some j):=⟨_,fun _ _ _=>Iff.rfl⟩
 refine W_loop I n ((hI _ _ _).2 ⟨0,_,by simp,rfl,hm3,hX0,by simp,fun j hj=>by omega⟩) ?_
 clear hX0 hm3
 rintro q a m3 hIn
 obtain ⟨i,xs,hk,rfl,hm3,hX,hxl,hxj⟩:=(hI _ _ _).1 hIn
 clear hIn
 simp
 refine bbind_dec (fun hin=>?_) fun hin=>?_
 ·have hw:=step64 hin (by omega)
  obtain ⟨q,rfl⟩: ∃q',q=q'+1:=⟨q-1,by omega⟩
  obtain ⟨b6,o6,hb6,hp6,_,hst⟩:=hX.at (i:=i) (by omega)
  obtain ⟨m4,hst4,hch4,hX4⟩:=hst i
  simp only[natI] at hst4
  simp[hp6,hst4,hw]
  refine ⟨q,by omega,(hI _ _ _).2 ⟨i+1,xs.set i i,by omega,by simp,hch4.pre hm3 fun b hb=>?_,hX4,by simpa using hxl,fun j hj=>?_⟩⟩
  ·have:=(hX.blk_lo hb6).1;omega
  ·rw[List.getElem?_set]
   by_cases hji:i=j
   ·subst hji;rw[if_pos rfl,if_pos (by omega)]
   ·rw[if_neg hji];exact hxj j (by omega)
 have hxs:xs=List.range n:=by
  refine List.ext_getElem? fun j=>?_
  by_cases hj:j<n
  ·rw[hxj j (by omega),List.getElem?_range hj]
  ·rw[List.getElem?_eq_none (by omega),List.getElem?_eq_none (by simp;omega)]
 subst hxs
 simp
 clear hI I hk hin
 rw[store_new1 _ _ _ _ _ rfl rfl]
 have hb8:=readB_new m3 [.func (.func 163) [] [.ptr b1 0]] 115 none
 have hm4:m3<+:m3++ [.own [.func (.func 163) [] [.ptr b1 0]] 115 none]:=List.prefix_append _ _
 generalize m3++ [.own [.func (.func 163) [] [.ptr b1 0]] 115 none]=m4 at*
 generalize hb8e:m3.length=b8 at*
 have hb8n: ∀b,t6.blk=some b→b≠b8:=fun b hb=>by have:=(hX.blk_lo hb).2;omega
 simp
 have hX4:=hX.mono hm4
 have hm24:=hm3.trans hm4
 have hrl:((List.range n).map fun x:Nat=>(x:Int)).length=n:=by simp
 refine C_of (k165c t6 3 m2.length m2 (Nat.le_refl _) 166 [] [.ptr b8 0] (cmpRR l) (fun x=>0≤x∧x<n) (cmpRR_ord l _) m4 ?_ ((List.range n).map fun x:Nat=>(x:Int)) (fun x hx=>?_) (by omega) hm24 (perm_cells hX4)) ?_
 ·intro a b ha hb m' hch'
  obtain ⟨a,rfl⟩: ∃a':Nat,a=a':=⟨a.toNat,by omega⟩
  obtain ⟨b,rfl⟩: ∃b':Nat,b=b':=⟨b.toNat,by omega⟩
  have hm2':m2<+:m':=hch'.pre hm24 fun b hb h=>by have:=(hX.blk_lo h).1;omega
  exact k166 s l a b b1 b8 m' (hs.mono (hm02.trans hm2')) (readB_mono (hm2.trans hm2') hb1) (hch'.read (fun h=>hb8n _ h rfl) hb8) hsz (by omega) hc (by omega) (by omega)
 ·obtain ⟨j,hj,rfl⟩:=List.mem_map.1 hx
  have:=List.mem_range.1 hj
  omega
 rintro v m5 ⟨hm5,hch5,ys,hY,hperm,hsort⟩
 have hyl:ys.length=n:=by rw[hperm.length_eq];simp
 have hyD: ∀x∈ys,0≤x∧x<n:=fun x hx=>by
  obtain ⟨j,hj,rfl⟩:=List.mem_map.1 (hperm.mem_iff.1 hx)
  have:=List.mem_range.1 hj
  omega
 have hb15:=readB_mono (hm2.trans hm5) hb1
 have hb85:=hch5.read (fun h=>hb8n _ h rfl) hb8
 have hm05:=hm02.trans hm5
 simp[bx hb15,hs.len,hnl,hc1,hc2]
 have hX0:OwL natI m5.length (m5++ [.own (List.replicate n (.int .i64 0)) 3 none]) 3 (.slice m5.length 0 n n none) (List.replicate n 0):=OwL.rep (f:=natI) m5 3 n 0
 have hm6:m5<+:m5++ [.own (List.replicate n (.int .i64 0)) 3 none]:=List.prefix_append _ _
 generalize AVal.slice m5.length 0 n n none=t9 at*
 generalize m5++ [.own (List.replicate n (.int .i64 0)) 3 none]=m6 at*
 have hl6:=hY.len
 simp[hl6]
 rw[hyl]
 obtain ⟨I,hI⟩: ∃I:Nat→AFrame→AMem→Prop,∀q a m',I q a m'↔(∃(i:Nat) (ds:List Nat),i+q=n∧a=h148_1 t6 (.ptr b8 0) t9 (.int .i64 (kk (cmpRR l) ys (i-1):Nat)) t6 (.int .i64 n) (.int .i64 i)∧m5<+:m'∧OwL natI m5.length m' 3 t9 ds∧ds.length=n∧ ∀(j:Nat) y,j<i→ys[j]? =some y→ds[y.toNat]? =some (kk (cmpRR l) ys j)):=⟨_,fun _ _ _=>Iff.rfl⟩
 refine W_loop I n ((hI _ _ _).2 ⟨0,_,by simp,rfl,hm6,hX0,by simp,fun j _ hj=>by omega⟩) ?_
 clear hX0 hm6 hl6
 rintro q a m6 hIn
 obtain ⟨i,ds,hk,rfl,hm6,hds,hdl,hdj⟩:=(hI _ _ _).1 hIn
 clear hIn
 simp
 refine bbind_dec (fun hin=>?_) fun hin=>?_
 ·have hw:=step64 hin (by omega)
  obtain ⟨q,rfl⟩: ∃q',q=q'+1:=⟨q-1,by omega⟩
  have hiy:i<ys.length:=by omega
  obtain ⟨b6,o6,hb6,hp6,hl6,_⟩:=(hY.mono hm6).at hiy
  have hDi:=hyD _ (List.getElem_mem hiy)
  have hyi:ys[i]? =some ys[i]:=List.getElem?_eq_getElem hiy
  -- the store
  have fin: ∀m7,m6<+:m7→ ∃b8' o8,(∀k,iaddrE 1 t9 (.int k ys[i])=some (.ptr b8' o8))∧ ∃m8,storeE m7 1 (.ptr b8' o8) (.int .i64 (kk (cmpRR l) ys i:Nat))=some (.undef,m8)∧I q (h148_1 t6 (.ptr b8 0) t9 (.int .i64 (kk (cmpRR l) ys i:Nat)) t6 (.int .i64 n) (.int .i64 (i+1:Nat))) m8:=by
   intro m7 hm7
   have hds7:=hds.mono hm7
   obtain ⟨y,hy⟩: ∃y:Nat,ys[i]=y:=⟨(ys[i]).toNat,by omega⟩
   rw[hy] at hyi ⊢
   obtain ⟨b8',o8,hb8',hp8,_,hst8⟩:=hds7.at (i:=y) (by omega)
   obtain ⟨m8,hst,hch8,hds8⟩:=hst8 (kk (cmpRR l) ys i)
   refine ⟨b8',o8,hp8,m8,hst,(hI _ _ _).2 ⟨i+1,ds.set y (kk (cmpRR l) ys i),by omega,rfl,hch8.pre (hm6.trans hm7) fun b hb=>?_,hds8,by simpa using hdl,fun j z hj hz=>?_⟩⟩
   ·have:=(hds7.blk_lo hb8').1;omega
   ·by_cases hji:j=i
    ·subst hji
     rw[hyi] at hz;cases hz
     rw[Int.toNat_natCast,List.getElem?_set_self (by omega)]
    ·have hne:y≠z.toNat:=by
      intro h
      have hzD:=hyD z (List.mem_of_getElem? hz)
      have hzy:z=(y:Int):=by omega
      rw[hzy] at hz
      have hnd:ys.Nodup:=by
       rw[hperm.nodup_iff]
       refine List.Pairwise.map _ (fun a b hab=>?_) List.nodup_range
       intro h;exact hab (by omega)
      obtain ⟨h1,h2⟩:=List.getElem?_eq_some_iff.1 hz
      obtain ⟨h3,h4⟩:=List.getElem?_eq_some_iff.1 hyi
      have hpw:=List.pairwise_iff_getElem.1 hnd
      rcases Nat.lt_trichotomy j i with h5|h5|h5
      ·exact hpw j i h1 h3 h5 (h2.trans h4.symm)
      ·exact hji h5
      ·exact hpw i j h3 h1 h5 (h4.trans h2.symm)
     rw[List.getElem?_set_ne hne]
     exact hdj j z (by omega) hz
  by_cases hi0:i=0
  ·subst hi0
   obtain ⟨b8',o8,hp8,m8,hst8,hI8⟩:=fin m6 (List.prefix_refl _)
   simp only[kk] at hst8 hI8
   simp at hst8 hp6
   simp[hp6,hl6]
   refine W_draw (fun _ _ _=>True) (by simp[maxDst]) ?_
   refine D_pc 0 10 [10,11] ?_
   simp
   intro _ _
   refine D_Xg rfl rfl (b:=false) (by simp) (fun h=>by cases h) (fun _ m7 hm7 _=>⟨by simp[lateOf],?_⟩)
   refine D_P rfl trivial ?_
   simp
   refine D_end fun m9 hm9 _=>?_
   obtain ⟨b8',o8,hp8,m8,hst8,hI8⟩:=fin m9 (hm7.trans hm9)
   simp only[kk] at hst8 hI8
   simp at hst8
   simp[hp8,hst8,kk,wrap64 (x:=1)]
   exact ⟨q,by omega,by simpa using hI8⟩
  ·obtain ⟨i,rfl⟩: ∃i',i=i'+1:=⟨i-1,by omega⟩
   have hi':(0:Int)<(i:Int)+1:=by omega
   have hwi:IntKind.i64.wrap (i:Int)=i:=wrap64 (by omega) (by omega)
   have hil:i<ys.length:=by omega
   obtain ⟨b5,o5,_,hp5,hl5,_⟩:=(hY.mono hm6).at hil
   have hDj:=hyD _ (List.getElem_mem hil)
   simp only[Int.natCast_add,Int.cast_ofNat_Int,Nat.add_sub_cancel] at hp6 hw fin ⊢
   have hkk:kk (cmpRR l) ys (i+1)=kk (cmpRR l) ys i+(if cmpRR l ys[i] ys[i+1]≠0 then 1 else 0):=by
    rw[kk];simp[List.getD,hil,hiy]
   have hle:cmpRR l ys[i] ys[i+1]≤0:=hsort i (i+1) _ _ (by omega) hiy (List.getElem?_eq_getElem hil) (List.getElem?_eq_getElem hiy)
   generalize hyA:ys[i]=ya at*
   generalize hyB:ys[i+1]=yb at*
   obtain ⟨a,rfl⟩: ∃a':Nat,ya=a':=⟨ya.toNat,by omega⟩
   obtain ⟨b,rfl⟩: ∃b':Nat,yb=b':=⟨yb.toNat,by omega⟩
   simp[hp6,hl6]
   refine W_draw (fun _ _ _=>True) (by simp[maxDst]) ?_
   refine D_pc 0 10 [10,11] ?_
   simp[hi',bx (readB_mono hm6 hb85),hwi,hp5,hl5]
   intro _ _
   refine D_Xg rfl rfl (b:=true) (by simp) (fun _ m7 hm7 _=>?_) (fun h=>absurd rfl h)
   simp
   have hm57:=hm6.trans hm7
   refine C_of (k163 s l a b b1 m7 (hs.mono (hm05.trans hm57)) (readB_mono hm57 hb15) hsz (by omega) hc (by omega) (by omega)) ?_
   rintro _ m8 ⟨rfl,hm8⟩
   refine ⟨by simp[lateOf],?_⟩
   refine D_P rfl trivial ?_
   simp
   refine D_end fun m9 hm9 _=>?_
   obtain ⟨b8',o8,hp8,m10,hst10,hI10⟩:=fin m9 ((hm7.trans hm8).trans hm9)
   have hlt:RR l a<RR l b↔cmpRR l a b≠0:=by
    have h1:cmpRR l a b<0↔RR l a<RR l b:=by
     unfold cmpRR
     rw[cmpI_lt]
     simp
    omega
   simp
   by_cases hcc:cmpRR l a b=0
   ·have hn': ¬RR l a<RR l b:=fun h=>(hlt.1 h) hcc
    rw[hkk] at hst10 hI10
    simp[hcc] at hst10 hI10
    simp[hn',hp8,hst10,hw]
    exact ⟨q,by omega,hI10⟩
   ·have hn':RR l a<RR l b:=hlt.2 hcc
    rw[hkk] at hst10 hI10
    simp[hcc] at hst10 hI10
    have hwk:IntKind.i64.wrap ((kk (cmpRR l) ys i:Int)+1)=(kk (cmpRR l) ys i:Int)+1:=by
     have:kk (cmpRR l) ys i≤i:=kk_le _ ys i
     exact wrap64 (by omega) (by omega)
    simp[hn',hwk,hp8,hst10,hw]
    exact ⟨q,by omega,hI10⟩
 ·have hin':i=n:=by omega
  subst hin'
  simp
  have hdense:=DenseOf.of_kk (cmpRR_ord l _) hperm hsort hdl fun j hj=>hdj j _ (by omega) (List.getElem?_eq_getElem hj)
  refine ⟨hm05.trans hm6,ds,hds.lo' ?_,_,hdense.congr fun a b _ _=>?_⟩
  ·have:=hm05.length_le;omega
  ·unfold cmpRR
   rw[cmpI_lt]
   simp
end Go.Proofs.YtlniliigcnedmaaGreat
namespace Go.Proofs.YtlniliigcnedmaaGreat
open Go Ax
set_option maxRecDepth 100000
theorem store_two {m:AMem} {b:Nat} {z0 z1 c0 c1:AVal} {ty:TypeId} {g:Option Nat} (h:m[b]? =some (.own [z0,z1] ty g)) (h0:c0.one=true) (h1:c1.one=true): ∃m',storeE m 2 (.ptr b 0) (.agg [c0,c1])=some (.undef,m')∧m'[b]? =some (.own [c0,c1] ty g)∧Ch (fun c=>c=b) m m':=by
 refine ⟨m.set b (.own [c0,c1] ty g),?_,List.getElem?_set_self (List.getElem?_eq_some_iff.1 h).1,Ch.setS _ rfl⟩
 have hc:(AVal.agg [c0,c1]).cells= [c0,c1]:=rfl
 simp only[storeE,hc,writeB,h]
 simp[h0,h1,setN]
set_option maxHeartbeats 2000000 in
theorem k110 (s t:AVal) (l:List Md) (ms:List Int) (m:AMem) (hs:RTab m s l) (ht:RInts m t ms) (hsz: ∀x∈l,smallN x) (hnm: ∀x∈l,x.names.length<2^40) (hn:T13 l) (hm:ms.length<2^62):
  ACalls Tryz.prog 110 [s,t] m fun v m'=>m<+:m'∧((rightI l ms≠0∧v= .tuple [.agg [.nilslice,.nilslice],.int .i64 (rightI l ms)])∨(rightI l ms=0∧ ∃ro ds k,v= .tuple [.agg [s,ro],.int .i64 0]∧OwL natI m.length m' 3 ro ds∧DenseOf l.length (fun a b=>RR l a<RR l b) ds k)):=by
 refine w110 ?_
 have h60:=hn.len
 obtain ⟨hsl,hsc⟩:=hs.self
 simp[hsl,hsc]
 obtain ⟨hb2,hb4,hm1⟩:=two_box m [s] [.nilslice,.nilslice] 22 124
 have hbo:(m++ [ABlk.own [s] 22 none,.own [.nilslice,.nilslice] 124 none])[m.length+1]? =some (.own [.nilslice,.nilslice] 124 none):=by simp[List.getElem?_append_right]
 have hml:(m++ [ABlk.own [s] 22 none,.own [.nilslice,.nilslice] 124 none]).length=m.length+2:=by simp
 generalize m++ [.own [s] 22 none,.own [.nilslice,.nilslice] 124 none]=m1 at*
 generalize hbb:m.length=b2 at*
 simp[bx hb2]
 refine C_of (k21 s l m1 (hs.mono hm1) hsz (by omega)) ?_
 rintro _ m2 ⟨rfl,hm2⟩
 simp
 have hbo2:=own_mono hbo hm2
 generalize hE:rightI l ms=E
 unfold rightI at hE
 refine bbind_intro (fun h=>?_) fun h=>?_
 ·have h:checkI l≠0:=by simpa using h
  rw[if_pos h] at hE
  obtain ⟨m3,hst,hbo3,hch⟩:=store_two (c0:= .nilslice) (c1:= .nilslice) hbo2 rfl rfl
  simp[fillA,hst]
  simp[bxW (own_read hbo3),readN]
  refine ⟨hch.pre (hm1.trans hm2) fun b hb e=>by omega,.inl ⟨by omega,by rw[hE]⟩⟩
 have h:checkI l=0:=by simpa using h
 rw[if_neg (by simp[h])] at hE
 simp
 have hb22:=readB_mono hm2 hb2
 refine C_of (k22 t ms (outB l.length) m2 (ht.mono (hm1.trans hm2)) hm 147 [] [.ptr b2 0] ?_) ?_
 ·intro x _ m' hm'
  refine (k147 s l x b2 m' (hs.mono ((hm1.trans hm2).trans hm')) (readB_mono hm' hb22)).mono ?_
  rintro _ _ ⟨rfl,rfl⟩
  exact ⟨rfl,List.prefix_refl _⟩
 rintro _ m3 ⟨rfl,hm3⟩
 have hbo3:=own_mono hbo2 hm3
 have hm03:=(hm1.trans hm2).trans hm3
 simp
 refine bbind_intro (fun h'=>?_) fun h'=>?_
 ·rw[if_pos h'] at hE
  obtain ⟨m4,hst,hbo4,hch⟩:=store_two (c0:= .nilslice) (c1:= .nilslice) hbo3 rfl rfl
  simp[fillA,hst]
  simp[bxW (own_read hbo4),readN]
  exact ⟨hch.pre hm03 fun b hb e=>by omega,by omega,by omega⟩
 ·rw[if_neg (by rw[h'];simp)] at hE
  simp
  have hb23:=readB_mono hm3 hb22
  refine W_draw (fun _ _ _=>True) (by simp[maxDst]) ?_
  refine D_pc 0 2 [2,3,4,5] ?_
  simp[bx hb23]
  intro _ _
  refine D_X rfl rfl fun m5 hm5 _=>?_
  have hm05:=hm03.trans hm5
  simp
  refine C_of (k148 s l m5 (hs.mono hm05) hsz hnm hn h) ?_
  rintro ro m6 ⟨hm6,ds,k,hX,hD⟩
  refine ⟨by simp[lateOf,ROp.ev,readB_mono (hm5.trans hm6) hb23],?_⟩
  refine D_P rfl trivial ?_
  have hrs:=(Ow.sl hX).self
  simp[fillA,setN,hsl,hsc,hrs.1,hrs.2]
  refine D_W rfl rfl fun m7 hm7 _=>?_
  have hbo7:=own_mono hbo3 ((hm5.trans hm6).trans hm7)
  obtain ⟨m8,hst,hbo8,hch⟩:=store_two (c0:=s) (c1:=ro) hbo7 hsl hrs.1
  simp[hst]
  refine D_P rfl trivial ?_
  simp
  refine D_end fun m9 hm9 _=>?_
  simp[bxW (own_read (own_mono hbo8 hm9)),readN]
  have hm08:=hch.pre ((hm05.trans hm6).trans hm7) fun b hb e=>by omega
  refine ⟨hm08.trans hm9,.inr ⟨hE.symm,ds,((OwL.mono hX hm7).ch hch fun b hb e=>?_).mono hm9|>.lo' ?_,k,hD⟩⟩
  ·have:=(hX.blk_lo hb).1
   have:=hm5.length_le;have:=(List.getElem?_eq_some_iff.1 hbo3).1
   omega
  ·have:=hm05.length_le;omega
end Go.Proofs.YtlniliigcnedmaaGreat
namespace Go.Proofs.YtlniliigcnedmaaGreat
open Go Ax
theorem SortedBy.ex (r:Nat→Nat) (ms:List Nat): ∃zs,SortedBy r ms zs:=by
 suffices h: ∀ms:List Nat,∃zs,SortedBy r ms.reverse zs by
  have:=h ms.reverse
  rwa[List.reverse_reverse] at this
 intro ms
 induction ms with
 |nil=>exact ⟨[],SortedBy.nil⟩
 |cons y ms ih=>
  obtain ⟨zs,h⟩:=ih
  rw[List.reverse_cons]
  have key: ∀k,k≤zs.length→(∀(j:Nat) z,j<k→zs[j]? =some z→r z<r y)→ ∃zs',SortedBy r (ms.reverse++ [y]) zs':=by
   intro k hk
   generalize hq:zs.length-k=q
   induction q generalizing k with
   |zero=>
    intro hlt
    exact ⟨_,h.put hk hlt fun z hz=>by rw[List.getElem?_eq_none (by omega)] at hz;cases hz⟩
   |succ q ih=>
    intro hlt
    have hkl:k<zs.length:=by omega
    have hz:zs[k]? =some zs[k]:=List.getElem?_eq_getElem hkl
    rcases Nat.lt_trichotomy (r zs[k]) (r y) with h1|h1|h1
    ·exact ih (k+1) (by omega) (by omega) fun j z hj hjz=>by
      by_cases hjk:j=k
      ·subst hjk;rw[hz] at hjz;cases hjz;exact h1
      ·exact hlt j z (by omega) hjz
    ·exact ⟨_,h.hit hkl h1⟩
    ·exact ⟨_,h.put hk hlt fun z hz'=>by rw[hz] at hz';cases hz';omega⟩
  exact key 0 (Nat.zero_le _) fun j z hj=>by omega
theorem basesEx {l:List Md} (hg:goodT l) {x:Nat} (hx:x<l.length):BasesOk l x (basesOf l x):=by
 cases hu:isU (mdAt l x)
 ·exact (⟨fun h=>(by rw[hu] at h;cases h),fun _=>rfl⟩:BasesOk l x [x]).ok
 ·obtain ⟨O,_,h2⟩:=basesSome l hg x hx
  obtain ⟨zs,h3⟩:=SortedBy.ex (RR l) O
  exact (⟨fun _=>⟨O,fun j=>by rw[h2];unfold IsBase;rw[if_pos hu],h3⟩,fun h=>by rw[hu] at h;cases h⟩:BasesOk l x zs).ok
theorem basesOf_sub {l:List Md} (hg:goodT l) {x z:Nat} (hx:x<l.length) (hz:z∈basesOf l x):IsBase l x z:=by
 have h:=basesEx hg hx
 unfold IsBase
 cases hu:isU (mdAt l x)
 ·rw[h.el hu,List.mem_singleton] at hz
  rw[if_neg (by simp)];exact hz
 ·obtain ⟨O,h1,h2⟩:=h.un hu
  rw[if_pos rfl]
  exact (h1 z).1 (h2.sub z hz)
theorem basesOf_cov {l:List Md} (hg:goodT l) {x j:Nat} (hx:x<l.length) (hj:IsBase l x j): ∃z∈basesOf l x,RR l z=RR l j:=by
 have h:=basesEx hg hx
 unfold IsBase at hj
 cases hu:isU (mdAt l x)
 ·rw[hu,if_neg (by simp)] at hj
  exact ⟨x,by rw[h.el hu];simp,by rw[hj]⟩
 ·rw[hu,if_pos rfl] at hj
  obtain ⟨O,h1,h2⟩:=h.un hu
  obtain ⟨z,h3,h4,_⟩:=h2.cov j ((h1 j).2 hj)
  exact ⟨z,h3,h4⟩
def hasRR (l:List Md) (x v:Nat):Prop:= ∃j,IsBase l x j∧RR l j=RR l v
theorem atI_basesOf {l:List Md} (hg:goodT l) {x v:Nat} (hx:x<l.length):0≤atI (RR l) (basesOf l x) v↔hasRR l x v:=by
 rw[atI_nonneg]
 constructor
 ·rintro ⟨z,h1,h2⟩;exact ⟨z,basesOf_sub hg hx h1,h2⟩
 ·rintro ⟨j,h1,h2⟩
  obtain ⟨z,h3,h4⟩:=basesOf_cov hg hx h1
  exact ⟨z,h3,by rw[h4,h2]⟩
theorem SameOrd.eq {n:Nat} {r r':Nat→Nat} (h:SameOrd n r r') {a b:Nat} (ha:a<n) (hb:b<n):r a=r b↔r' a=r' b:=by
 have h1:=h a b ha hb
 have h2:=h b a hb ha
 omega
theorem SortedBy.congrO {r r':Nat→Nat} {ms zs:List Nat} {n:Nat} (hn: ∀x∈ms,x<n) (hr:SameOrd n r r') (h:SortedBy r ms zs):SortedBy r' ms zs:=by
 refine ⟨?_,h.sub,fun y hy=>?_⟩
 ·exact List.Pairwise.imp_of_mem (fun {a b} ha hb hab=>(hr a b (hn a (h.sub a ha)) (hn b (h.sub b hb))).1 hab) h.asc
 ·obtain ⟨z,h1,h2,h3⟩:=h.cov y hy
  exact ⟨z,h1,(hr.eq (hn z (h.sub z h1)) (hn y hy)).1 h2,h3⟩
theorem once_eq {l:List Md} (hg:goodT l) {r:Nat→Nat} (h:SameOrd l.length r (RR l)) {x:Nat} (hx:x<l.length) (hu:isU (mdAt l x)=true) {O zs:List Nat} (hO: ∀j,j∈O↔IsBase l x j) (hs:SortedBy r O zs):zs=basesOf l x:=by
 refine BasesOk.eq ⟨fun _=>⟨O,fun j=>?_,hs.congrO (n:=l.length) (fun x' hx'=>((hO x').1 hx').lt hg hx) h⟩,fun h'=>by rw[hu] at h';cases h'⟩
 rw[hO];unfold IsBase;rw[if_pos hu]
end Go.Proofs.YtlniliigcnedmaaGreat
namespace Go.Proofs.YtlniliigcnedmaaGreat
open Go Ax
theorem firstC_kind {x y:Md} (h:firstC x y=0):x.kind=y.kind:=by
 rw[firstC_eq] at h
 unfold thenC at h
 split at h
 ·rename_i h1;exact absurd h h1
 ·rename_i h1
  have h1:pullC Md.kind x y=0:=by simpa using h1
  exact cmpI_zero.1 h1
theorem R_eq_down {l:List Md} {a b:Nat} (ha:a<l.length) (hb:b<l.length) {d:Nat}: ∀e,R l (d+e) a=R l (d+e) b→R l d a=R l d b
 |0,h=>h
 |e+1,h=>by
  refine R_eq_down ha hb e ?_
  rcases Nat.lt_trichotomy (R l (d+e) a) (R l (d+e) b) with h1|h1|h1
  ·have:=R_refine l (d+e) ha h1;rw[←Nat.add_assoc] at h;omega
  ·exact h1
  ·have:=R_refine l (d+e) hb h1;rw[←Nat.add_assoc] at h;omega
theorem R_eq_cmp {l:List Md} {a b d:Nat} (ha:a<l.length) (hb:b<l.length) (h:R l (d+1) a=R l (d+1) b):cmpR l (R l d) d a b=0:=by
 have h1:=R_lt l d (b:=b) ha
 have h2:=R_lt l d (b:=a) hb
 have h3:=(cmpR_ord l (R l d) d).anti a b trivial trivial
 have h4:=(cmpR_ord l (R l d) d).anti b a trivial trivial
 omega
theorem RR_kind {l:List Md} {a b:Nat} (ha:a<l.length) (hb:b<l.length) (h:RR l a=RR l b):(mdAt l a).kind=(mdAt l b).kind:=by
 have h1:R l (1+l.length) a=R l (1+l.length) b:=by rw[Nat.add_comm];exact h
 have h2:=R_eq_cmp (d:=0) ha hb (R_eq_down ha hb l.length h1)
 unfold cmpR thenC at h2
 have h0:cmpI (R l 0 a:Nat) (R l 0 b:Nat)=0:=cmpI_zero.2 rfl
 simp[h0] at h2
 exact firstC_kind h2
theorem RR_isU {l:List Md} {a b:Nat} (ha:a<l.length) (hb:b<l.length) (h:RR l a=RR l b):isU (mdAt l a)=isU (mdAt l b):=by
 unfold isU
 rw[RR_kind ha hb h]
def led (f:Nat→Nat) (a:Nat):Bool:=(List.range a).all fun b=>f b !=f a
theorem led_iff {f:Nat→Nat} {a:Nat}:led f a=true↔ ∀b,b<a→f b≠f a:=by
 simp[led,List.all_eq_true]
theorem leader {f:Nat→Nat}: ∀(a:Nat),∃e,e≤a∧f e=f a∧led f e=true:=by
 intro a
 induction a using Nat.strongRecOn with
 |ind a ih=>
  by_cases h:led f a=true
  ·exact ⟨a,Nat.le_refl _,rfl,h⟩
  ·have: ∃b,b<a∧f b=f a:=by
    by_cases hx: ∃b,b<a∧f b=f a
    ·exact hx
    ·exact absurd (led_iff.2 fun b hb he=>hx ⟨b,hb,he⟩) h
   obtain ⟨b,h1,h2⟩:=this
   obtain ⟨e,h3,h4,h5⟩:=ih b h1
   exact ⟨e,by omega,by rw[h4,h2],h5⟩
theorem lead_grow {l:List Md} {d:Nat} (hs: ¬SameOrd l.length (R l (d+1)) (R l d)):(List.range l.length).countP (led (R l d))<(List.range l.length).countP (led (R l (d+1))):=by
 have down: ∀a b,a<l.length→b<l.length→R l (d+1) a=R l (d+1) b→R l d a=R l d b:=fun a b ha hb h=>R_eq_down (d:=d) ha hb 1 h
 have hmono: ∀a∈List.range l.length,led (R l d) a=true→led (R l (d+1)) a=true:=fun a ha h=>by
  have ha:=List.mem_range.1 ha
  exact led_iff.2 fun b hb he=>led_iff.1 h b hb (down b a (by omega) ha he)
 -- two of one class that part
 have: ∃a b,a<l.length∧b<l.length∧R l d a=R l d b∧R l (d+1) a≠R l (d+1) b:=by
  by_cases hx: ∃a b,a<l.length∧b<l.length∧R l d a=R l d b∧R l (d+1) a≠R l (d+1) b
  ·exact hx
  ·refine absurd ?_ hs
   intro a b ha hb
   constructor
   ·intro h
    rcases Nat.lt_trichotomy (R l d a) (R l d b) with h1|h1|h1
    ·exact h1
    ·exact absurd ⟨a,b,ha,hb,h1,by omega⟩ hx
    ·have:=R_refine l d hb h1;omega
   ·intro h;exact R_refine l d ha h
 obtain ⟨a,b,ha,hb,he,hne⟩:=this
 obtain ⟨e,h1,h2,h3⟩:=leader (f:=R l d) a
 have: ∃x,x<l.length∧R l d x=R l d e∧R l (d+1) x≠R l (d+1) e:=by
  by_cases h:R l (d+1) a=R l (d+1) e
  ·exact ⟨b,hb,by omega,by omega⟩
  ·exact ⟨a,ha,h2.symm,h⟩
 obtain ⟨x,hx,hxe,hxn⟩:=this
 obtain ⟨y,h4,h5,h6⟩:=leader (f:=R l (d+1)) x
 have hye:R l d y=R l d e:=by rw[down y x (by omega) hx h5,hxe]
 have hyne:y≠e:=fun h=>hxn (by rw[←h5,h])
 refine countP_lt (x:=y) hmono (List.mem_range.2 (by omega)) ?_ h6
 cases hl:led (R l d) y with
 |false=>rfl
 |true=>
  exfalso
  rcases Nat.lt_trichotomy y e with h|h|h
  ·exact led_iff.1 h3 y h hye
  ·exact hyne h
  ·exact led_iff.1 hl e h hye.symm
theorem R_stab_ex {l:List Md} (hl:l≠ []): ∃d,d≠0∧d≤l.length∧SameOrd l.length (R l (d+1)) (R l d):=by
 have hpos:0<l.length:=List.length_pos_iff.2 hl
 have key: ∀d,(∃d',d'≠0∧d'≤d∧SameOrd l.length (R l (d'+1)) (R l d'))∨d+1≤(List.range l.length).countP (led (R l (d+1))):=by
  intro d
  induction d with
  |zero=>
   right
   have:0<(List.range l.length).countP (led (R l (0+1))):=List.countP_pos_iff.2 ⟨0,List.mem_range.2 hpos,by simp[led]⟩
   omega
  |succ d ih=>
   rcases ih with ⟨d',h1,h2,h3⟩|ih
   ·exact .inl ⟨d',h1,by omega,h3⟩
   ·by_cases hs:SameOrd l.length (R l (d+1+1)) (R l (d+1))
    ·exact .inl ⟨d+1,by omega,Nat.le_refl _,hs⟩
    ·have:=lead_grow hs;right;omega
 rcases key l.length with h|h
 ·exact h
 ·have:(List.range l.length).countP (led (R l (l.length+1)))≤(List.range l.length).length:=List.countP_le_length
  simp at this
  omega
theorem RR_stable {l:List Md} (hg:goodT l):SameOrd l.length (R l (l.length+2)) (RR l):=by
 by_cases hl:l= []
 ·subst hl;intro a b ha;cases ha
 ·obtain ⟨d,h1,h2,h3⟩:=R_stab_ex hl
  have hst:=R_stable hg h1 h3
  intro a b ha hb
  have e1: ∀x,x<l.length→R l (l.length+2) x=R l d x:=fun x hx=>by have:=hst (l.length+2-d) x hx;rwa[show d+(l.length+2-d)=l.length+2 by omega] at this
  have e2: ∀x,x<l.length→RR l x=R l d x:=fun x hx=>by have:=hst (l.length+1-d) x hx;rwa[show d+(l.length+1-d)=l.length+1 by omega] at this
  rw[e1 a ha,e1 b hb,e2 a ha,e2 b hb]
theorem lexC_zero: ∀{xs ys:List Int},lexC cmpI xs ys=0→xs=ys
 | [],[],_=>rfl
 | [],_::_,h=>by simp[lexC] at h
 |_::_,[],h=>by simp[lexC] at h
 |x::xs,y::ys,h=>by
  simp only[lexC] at h
  split at h
  ·rename_i h1;exact absurd h h1
  ·rename_i h1
   have h1:cmpI x y=0:=by simpa using h1
   rw[cmpI_zero.1 h1,lexC_zero h]
theorem RR_key {l:List Md} (hg:goodT l) {a b:Nat} (ha:a<l.length) (hb:b<l.length) (h:RR l a=RR l b):keyOf l (RR l) a=keyOf l (RR l) b:=by
 have h2:R l (l.length+1+1) a=R l (l.length+1+1) b:=((RR_stable hg).eq ha hb).2 h
 have h3:=R_eq_cmp ha hb h2
 unfold cmpR thenC at h3
 have h0:cmpI (R l (l.length+1) a:Nat) (R l (l.length+1) b:Nat)=0:=cmpI_zero.2 (by have:R l (l.length+1) a=R l (l.length+1) b:=h;rw[this])
 simp[h0] at h3
 exact lexC_zero h3
theorem hasRR_congr {l:List Md} (hg:goodT l) {a b v:Nat} (ha:a<l.length) (hb:b<l.length) (h:RR l a=RR l b):hasRR l a v↔hasRR l b v:=by
 have hu:=RR_isU ha hb h
 have hk:=RR_key hg ha hb h
 have hbd: ∀x,x<l.length→RR l x<l.length:=fun x hx=>R_bound l _ hx
 unfold hasRR IsBase
 cases hub:isU (mdAt l b)
 ·rw[hub] at hu
  simp only[hu,Bool.false_eq_true,if_false]
  constructor
  ·rintro ⟨j,rfl,h2⟩;exact ⟨b,rfl,by rw[←h,h2]⟩
  ·rintro ⟨j,rfl,h2⟩;exact ⟨a,rfl,by rw[h,h2]⟩
 ·rw[hub] at hu
  simp only[hu,if_true]
  have k1:=((keyOf_isKey hg hbd a).un hu).2
  have k2:=((keyOf_isKey hg hbd b).un hub).2
  constructor
  ·rintro ⟨j,h1,h2⟩
   obtain ⟨j',h3,h4⟩:=(k2 (RR l v:Nat)).1 (hk▸(k1 (RR l v:Nat)).2 ⟨j,h1,by rw[h2]⟩)
   exact ⟨j',h3,by omega⟩
  ·rintro ⟨j,h1,h2⟩
   obtain ⟨j',h3,h4⟩:=(k1 (RR l v:Nat)).1 (hk▸(k2 (RR l v:Nat)).2 ⟨j,h1,by rw[h2]⟩)
   exact ⟨j',h3,by omega⟩
end Go.Proofs.YtlniliigcnedmaaGreat
namespace Go.Proofs.YtlniliigcnedmaaGreat
open Go Ax
set_option maxRecDepth 100000
theorem uniB_iff {l:List Md} (hg:goodT l) {a b:Nat} (ha:a<l.length) (hb:b<l.length):uniB l a b=true↔isU (mdAt l b)=true∧RR l a≠RR l b∧ ∀x,IsBase l a x→hasRR l b x:=by
 unfold uniB
 rw[Bool.and_eq_true,Bool.and_eq_true,List.all_eq_true,and_assoc]
 refine and_congr_right fun _=>and_congr ?_ ?_
 ·rw[Bool.not_eq_true',beq_eq_false_iff_ne]
 ·constructor
  ·intro h x hx
   obtain ⟨z,h1,h2⟩:=basesOf_cov hg ha hx
   have h3:=h z h1
   rw[decide_eq_true_iff,atI_basesOf hg hb] at h3
   obtain ⟨j,h4,h5⟩:=h3
   exact ⟨j,h4,by omega⟩
  ·intro h x hx
   rw[decide_eq_true_iff,atI_basesOf hg hb]
   exact h x (basesOf_sub hg ha hx)
theorem dense_same {l:List Md} {ds:List Nat} {k:Nat} (hD:DenseOf l.length (fun a b=>RR l a<RR l b) ds k):SameOrd l.length (fun a=>ds.getD a 0) (RR l):=hD.sameOrd
theorem tabBox (m:AMem) (s ro:AVal) (h0:s.one=true) (h1:ro.one=true):storeE (m++ [.own [.nilslice,.nilslice] 124 none]) 2 (.ptr m.length 0) (.agg [s,ro])=some (.undef,m++ [.own [s,ro] 124 none]):=
 store_new m [.nilslice,.nilslice] [s,ro] 124 none 2 rfl rfl (by simp only[List.all_cons,List.all_nil,h0,h1];rfl)
theorem k114 (s ro t:AVal) (l:List Md) (rk zs:List Nat) (x b1 b2:Nat) (m:AMem) (hs:RTab m s l) (hro:RInts m ro (rk.map fun z:Nat=>(z:Int))) (ht:RInts m t (zs.map fun z:Nat=>(z:Int))) (hz: ∀z∈zs,z<rk.length) (hx:x<rk.length) (hn:zs.length<2^62) (hb1:readB m b1=some [s,ro]) (hb2:readB m b2=some [t]):
  ACalls Tryz.prog 114 [.int .i64 x,.ptr b1 0,.ptr b2 0] m fun v m'=>v= .bool (!(zs.any fun z=>rk.getD z 0==rk.getD x 0))∧m<+:m':=by
 refine w114 ?_
 simp[bxW hb1,readN,bx hb2]
 refine C_of (k113 s ro t rk zs x m hs.self hro ht hz hx hn) ?_
 rintro _ m2 ⟨rfl,hm2⟩
 simp[hm2]
open Classical in
theorem any_hasRR {l:List Md} (hg:goodT l) {r:Nat→Nat} (h:SameOrd l.length r (RR l)) {O:List Nat} {x v:Nat} (hx:x<l.length) (hv:v<l.length) (hO: ∀j,j∈O↔IsBase l x j):(O.any fun z=>r z==r v)=decide (hasRR l x v):=by
 rw[Bool.eq_iff_iff,List.any_eq_true,decide_eq_true_iff]
 constructor
 ·rintro ⟨z,h1,h2⟩
  have h3:=(hO z).1 h1
  exact ⟨z,h3,(h.eq (h3.lt hg hx) hv).1 (by simpa using h2)⟩
 ·rintro ⟨z,h1,h2⟩
  exact ⟨z,(hO z).2 h1,by simpa using (h.eq (h1.lt hg hx) hv).2 h2⟩
set_option maxHeartbeats 4000000 in
open Classical in
theorem k84 (s:AVal) (l:List Md) (u v:Int) (m:AMem) (hs:RTab m s l) (hsz: ∀x∈l,smallN x) (hnm: ∀x∈l,x.names.length<2^40) (hn:T13 l):
  ACalls Tryz.prog 84 [s,.int .i64 u,.int .i64 v] m fun w m'=>w=uniV l u v∧m<+:m':=by
 refine w84 ?_
 have h60:=hn.len
 obtain ⟨hsl,hsc⟩:=hs.self
 simp[fillA,setN]
 have hA:=two_ints m u v
 have hm1:m<+:m++ [.own [.int .i64 u,.int .i64 v] 3 none]:=List.prefix_append _ _
 generalize AVal.slice m.length 0 2 2 none=t1 at*
 generalize m++ [.own [.int .i64 u,.int .i64 v] 3 none]=m1 at*
 refine C_of (k110 s t1 l [u,v] m1 (hs.mono hm1) hA.ints hsz hnm hn (by simp)) ?_
 rintro _ m2 ⟨hm2,⟨hr,rfl⟩|⟨hr,ro,ds,k,rfl,hX,hD⟩⟩
 ·simp
  rw[tabBox _ _ _ rfl rfl]
  have hm3:m2<+:m2++ [.own [.nilslice,.nilslice] 124 none]:=List.prefix_append _ _
  generalize m2++ [.own [.nilslice,.nilslice] 124 none]=m3 at*
  simp[bneT hr,uniV,hr]
  exact (hm1.trans hm2).trans hm3
 obtain ⟨hc,a,b,rfl,rfl,ha,hb⟩:=right2 hr
 have ok:=okT_of hc
 have hrs:=(Ow.sl hX).self
 have hso:=dense_same hD
 have hU:uniV l a b= .tuple [.bool (uniB l a b),.int .i64 0]:=by simp[uniV,hr]
 rw[hU]
 have hUB:=uniB_iff ok.good ha hb
 generalize uniB l a b=U at*
 simp
 rw[tabBox _ _ _ hsl hrs.1]
 have hb8:=readB_new m2 [s,ro] 124 none
 have hm3:m2<+:m2++ [.own [s,ro] 124 none]:=List.prefix_append _ _
 generalize m2++ [.own [s,ro] 124 none]=m3 at*
 generalize m2.length=b8 at*
 have hm03:=(hm1.trans hm2).trans hm3
 have hRo:=(ints_of_nat hX).mono hm3
 simp[bxW hb8,readN]
 refine C_of (k111 s ro l b m3 (hs.mono hm03) hrs hb) ?_
 rintro _ m4 ⟨rfl,hm4⟩
 simp
 have hm04:=hm03.trans hm4
 cases hub:isU (mdAt l b)
 ·simp
  refine ⟨?_,hm04⟩
  cases U with
  |false=>rfl
  |true=>have:=(hUB.1 rfl).1;rw[hub] at this;cases this
 have hb84:=readB_mono hm4 hb8
 simp[bxW hb84,readN]
 refine C_of (k112n s ro l b hb m4 (hs.mono hm04) hrs ok.good ok.len ok.h64) ?_
 rintro v5 m5 ⟨hm5,P,hP,hPn,hPm⟩
 have hps:=(Ow.sl hP).self
 have hPb:IsBases l b P:=⟨hPn,hPm⟩
 have hPl:=hPb.length ok.good hb
 have hPlt:=hPb.lt ok.good hb
 simp
 rw[store_new1 _ _ _ _ _ hps.2 hps.1]
 have hb10:=readB_new m5 [v5] 23 none
 have hm6:m5<+:m5++ [.own [v5] 23 none]:=List.prefix_append _ _
 generalize m5++ [.own [v5] 23 none]=m6 at*
 generalize m5.length=b10 at*
 have hb86:=readB_mono (hm5.trans hm6) hb84
 have hm06:=(hm04.trans hm5).trans hm6
 have hm36:=(hm4.trans hm5).trans hm6
 have hP6:=(ints_of_nat hP).mono hm6
 simp[bxW hb86,readN]
 refine C_of (k111 s ro l a m6 (hs.mono hm06) hrs ha) ?_
 rintro _ m7 ⟨rfl,hm7⟩
 have hm07:=hm06.trans hm7
 have hb87:=readB_mono hm7 hb86
 have hb107:=readB_mono hm7 hb10
 have hany: ∀w,w<l.length→(P.any fun z=>ds.getD z 0==ds.getD w 0)=decide (hasRR l b w):=fun w hw=>any_hasRR ok.good hso hb hw hPm
 simp
 cases hua:isU (mdAt l a)
 ·simp[bxW hb87,readN,bx hb107]
  refine C_of (k113 s ro v5 ds P a m7 hs.self (hRo.mono (hm36.trans hm7)) (hP6.mono hm7) (fun z hz=>by rw[hD.len];exact hPlt z hz) (by rw[hD.len];exact ha) (by omega)) ?_
  rintro _ m8 ⟨rfl,hm8⟩
  simp only[hany a ha]
  simp
  refine ⟨?_,hm07.trans hm8⟩
  rw[Bool.eq_iff_iff,decide_eq_true_iff,hUB]
  constructor
  ·intro h
   refine ⟨hub,fun e=>?_,fun x hx=>?_⟩
   ·have:=RR_isU ha hb e;rw[hua,hub] at this;cases this
   ·unfold IsBase at hx
    rw[hua,if_neg (by simp)] at hx
    subst hx;exact h
  ·rintro ⟨_,_,h⟩
   refine h a ?_
   unfold IsBase
   rw[hua,if_neg (by simp)]
 simp
 obtain ⟨ba,oa,hpa,hla⟩:=ranksAt hRo (x:=a) (by rw[hD.len];exact ha)
 obtain ⟨bb,ob,hpb,hlb⟩:=ranksAt hRo (x:=b) (by rw[hD.len];exact hb)
 have hla:=hla m7 (hm36.trans hm7)
 have hlb:=hlb m7 (hm36.trans hm7)
 have heq:ds.getD a 0=ds.getD b 0↔RR l a=RR l b:=hso.eq ha hb
 refine W_draw (fun _ _ _=>True) (by simp[maxDst]) ?_
 refine D_pc 0 14 [15,14,16,17,18,19,20] ?_
 generalize hxa:ds.getD a 0=ra at*
 generalize hxb:ds.getD b 0=rb at*
 by_cases hab:ra=rb
 ·subst hab
  simp[bx hb87,hpa,hla,hpb,hlb]
  intro _ _
  refine D_skip rfl rfl rfl ?_
  refine D_Xg rfl rfl (b:=false) (by simp) (fun h=>by cases h) (fun _ m8 hm8 _=>⟨by simp[lateOf],?_⟩)
  refine D_Xg rfl rfl (b:=false) (by simp) (fun h=>by cases h) (fun _ m9 hm9 _=>⟨by simp[lateOf],?_⟩)
  refine D_pc 17 4 [] ?_
  simp
  intro _ _
  refine D_end fun m10 hm10 _=>?_
  simp
  refine ⟨?_,((hm07.trans hm8).trans hm9).trans hm10⟩
  cases U with
  |false=>rfl
  |true=>exact absurd (heq.1 rfl) (hUB.1 rfl).2.1
 ·have hab': ¬(ra:Int)=rb:=by omega
  simp[bx hb87,hpa,hla,hpb,hlb,bneT hab',bxW hb87,readN]
  intro _ _
  refine D_P rfl rfl ?_
  simp
  refine D_Xg rfl rfl (b:=true) (by simp) (fun _ m8 hm8 _=>?_) (fun h=>absurd rfl h)
  simp
  refine C_of (k112n s ro l a ha m8 (hs.mono (hm07.trans hm8)) hrs ok.good ok.len ok.h64) ?_
  rintro v9 m9 ⟨hm9,O,hO,hOn,hOm⟩
  have hOb:IsBases l a O:=⟨hOn,hOm⟩
  have hOl:=hOb.length ok.good ha
  have hOlt:=hOb.lt ok.good ha
  refine ⟨by simp[lateOf],?_⟩
  refine D_Xg rfl rfl (b:=true) (by simp) (fun _ m10 hm10 _=>?_) (fun h=>absurd rfl h)
  simp
  have hm7t:=(hm8.trans hm9).trans hm10
  have hR7:=hRo.mono (hm36.trans hm7)
  refine C_of (k22 v9 (O.map fun z:Nat=>(z:Int)) (fun z=> !(P.any fun y=>ds.getD y 0==ds.getD z.toNat 0)) m10 ((ints_of_nat hO).mono hm10) (by simp;omega) 114 [] [.ptr b8 0,.ptr b10 0] ?_) ?_
  ·intro z hz m' hm'
   obtain ⟨z,hz',rfl⟩:=List.mem_map.1 hz
   have hmt:=hm7t.trans hm'
   exact k114 s ro v5 l ds P z b8 b10 m' (hs.mono (hm07.trans hmt)) (hR7.mono hmt) ((hP6.mono hm7).mono hmt) (fun y hy=>by rw[hD.len];exact hPlt y hy) (by rw[hD.len];exact hOlt z hz') (by omega) (readB_mono hmt hb87) (readB_mono hmt hb107)
  rintro _ m11 ⟨rfl,hm11⟩
  refine ⟨by simp[lateOf],?_⟩
  have hval:(!((O.map fun z:Nat=>(z:Int)).any fun z=> !(P.any fun y=>ds.getD y 0==ds.getD z.toNat 0)))=U:=by
   rw[Bool.eq_iff_iff,hUB,Bool.not_eq_true',List.any_eq_false]
   constructor
   ·intro h
    refine ⟨hub,fun e=>hab (heq.2 e),fun x hx=>?_⟩
    have h1:=h (x:Int) (List.mem_map.2 ⟨x,(hOm x).2 hx,rfl⟩)
    rw[Int.toNat_natCast,hany x (hx.lt ok.good ha)] at h1
    simpa using h1
   ·rintro ⟨_,_,h⟩ z hz
    obtain ⟨x,hx,rfl⟩:=List.mem_map.1 hz
    have hxb:=(hOm x).1 hx
    rw[Int.toNat_natCast,hany x (hxb.lt ok.good ha)]
    simpa using h x hxb
  refine D_P rfl rfl ?_
  rw[←hval]
  generalize ((O.map fun z:Nat=>(z:Int)).any fun z=> !(P.any fun y=>ds.getD y 0==ds.getD z.toNat 0))=B
  simp
  refine D_P rfl trivial ?_
  simp
  refine D_P rfl trivial ?_
  simp
  refine D_P rfl trivial ?_
  simp
  refine D_end fun m12 hm12 _=>?_
  simp
  exact (hm07.trans (hm7t.trans hm11)).trans hm12
end Go.Proofs.YtlniliigcnedmaaGreat
namespace Go.Proofs.YtlniliigcnedmaaGreat
open Go Ax
set_option maxRecDepth 100000
theorem fidx_first {p:Nat→Bool}: ∀(n i:Nat),(fidx p i n= -1∧ ∀k,i≤k→k<i+n→p k=false)∨ ∃j,i≤j∧j<i+n∧fidx p i n=(j:Int)∧p j=true∧ ∀k,i≤k→k<j→p k=false
 |0,i=> .inl ⟨rfl,fun k h1 h2=>by omega⟩
 |n+1,i=>by
  rw[fidx]
  split
  ·rename_i hp;exact .inr ⟨i,Nat.le_refl _,by omega,rfl,hp,fun k h1 h2=>by omega⟩
  ·rename_i hp
   have hp:p i=false:=by simpa using hp
   rcases fidx_first (p:=p) n (i+1) with ⟨h1,h2⟩|⟨j,h1,h2,h3,h4,h5⟩
   ·refine .inl ⟨h1,fun k k1 k2=>?_⟩
    by_cases hk:k=i
    ·subst hk;exact hp
    ·exact h2 k (by omega) (by omega)
   ·refine .inr ⟨j,by omega,by omega,h3,h4,fun k k1 k2=>?_⟩
    by_cases hk:k=i
    ·subst hk;exact hp
    ·exact h5 k (by omega) k2
end Go.Proofs.YtlniliigcnedmaaGreat
namespace Go.Proofs.YtlniliigcnedmaaGreat
open Go Ax
set_option maxRecDepth 100000
abbrev chunk (cs:List AVal) (i:Nat):List AVal:=(cs.drop (i*6)).take 6
def OwB (m0:AMem) (lo:Nat) (m:AMem) (s:AVal) (l:List Md):Prop:= ∃cs,Ow lo m 6 40 s l.length cs∧ ∀(i:Nat) x,l[i]? =some x→RMode m0 (chunk cs i) x
def OwT (lo:Nat) (m:AMem) (s:AVal) (l:List Md):Prop:= ∃cs,Ow lo m 6 40 s l.length cs∧ ∀(i:Nat) x,l[i]? =some x→ ∀m',Ch (fun b=>s.blk=some b∨b<lo) m m'→RMode m' (chunk cs i) x
theorem OwT.tab {lo:Nat} {m:AMem} {s:AVal} {l:List Md} (h:OwT lo m s l):RTab m s l:=by
 obtain ⟨cs,h1,h2⟩:=h
 exact ⟨cs,h1.sl,fun i x hx=>h2 i x hx m (.refl _ _)⟩
theorem OwT.mono {lo:Nat} {m m':AMem} {s:AVal} {l:List Md} (h:OwT lo m s l) (hm:m<+:m'):OwT lo m' s l:=by
 obtain ⟨cs,h1,h2⟩:=h
 exact ⟨cs,h1.mono hm,fun i x hx m'' hc=>h2 i x hx m'' ((Ch.of_prefix hm).trans hc)⟩
theorem OwB.mono {lo:Nat} {m0 m m':AMem} {s:AVal} {l:List Md} (h:OwB m0 lo m s l) (hm:m<+:m'):OwB m0 lo m' s l:=by
 obtain ⟨cs,h1,h2⟩:=h
 exact ⟨cs,h1.mono hm,h2⟩
theorem OwB.tab {lo:Nat} {m0 m:AMem} {s:AVal} {l:List Md} (h:OwB m0 lo m s l) (hm:m0<+:m):RTab m s l:=by
 obtain ⟨cs,h1,h2⟩:=h
 exact ⟨cs,h1.sl,fun i x hx=>(h2 i x hx).mono hm⟩
theorem OwB.ch {S:Nat→Prop} {lo:Nat} {m0 m m':AMem} {s:AVal} {l:List Md} (h:OwB m0 lo m s l) (hc:Ch S m m') (hs: ∀b,s.blk=some b→ ¬S b):OwB m0 lo m' s l:=by
 obtain ⟨cs,h1,h2⟩:=h
 exact ⟨cs,h1.ch hc hs,h2⟩
theorem OwB.blk_lo {lo:Nat} {m0 m:AMem} {s:AVal} {l:List Md} (h:OwB m0 lo m s l) {b:Nat} (hb:s.blk=some b):lo≤b∧b<m.length:=by
 obtain ⟨cs,h1,_⟩:=h
 exact h1.blk_lo hb
theorem OwT.blk_lo {lo:Nat} {m:AMem} {s:AVal} {l:List Md} (h:OwT lo m s l) {b:Nat} (hb:s.blk=some b):lo≤b∧b<m.length:=by
 obtain ⟨cs,h1,_⟩:=h
 exact h1.blk_lo hb
theorem chunk_append {cs c:List AVal} {n:Nat} (hl:cs.length=n*6) {i:Nat} (hi:i<n):chunk (cs++c) i=chunk cs i:=by
 unfold chunk
 rw[List.drop_append_of_le_length (by omega),List.take_append_of_le_length (by simp;omega)]
theorem chunk_last {cs c:List AVal} {n:Nat} (hl:cs.length=n*6) (hc:c.length=6):chunk (cs++c) n=c:=by
 unfold chunk
 rw[List.drop_append,hl,Nat.sub_self,List.drop_eq_nil_of_le (by omega)]
 simp only[List.nil_append,List.drop_zero]
 exact List.take_of_length_le (by omega)
theorem push_get {l:List Md} {x y:Md} {i:Nat} (h:(l++ [x])[i]? =some y):(i<l.length∧l[i]? =some y)∨(i=l.length∧y=x):=by
 rcases Nat.lt_or_ge i l.length with hlt|hge
 ·rw[List.getElem?_append_left hlt] at h;exact .inl ⟨hlt,h⟩
 ·rw[List.getElem?_append_right hge] at h
  cases hk:i-l.length with
  |zero=>rw[hk] at h;simp at h;exact .inr ⟨by omega,h.symm⟩
  |succ k=>rw[hk] at h;simp at h
theorem OwB.push {m0:AMem} {lo:Nat} {m:AMem} {s:AVal} {l:List Md} (h:OwB m0 lo m s l) (hlo:lo≤m.length) {c:List AVal} {x:Md} (hx:RMode m0 c x) (hn:l.length<2^30):
  ∃s' m',appendE m 6 80 40 s 1 c=some (s',m')∧Ch (fun b=>s.blk=some b) m m'∧OwB m0 lo m' s' (l++ [x])∧(∀b,s'.blk=some b→s.blk=some b∨m.length≤b):=by
 obtain ⟨cs,h1,h2⟩:=h
 have hcl:=hx.all
 have hl:=h1.sl.length
 obtain ⟨s',m',e,hch,h3,h4⟩:=h1.append hlo (k:=1) (xs:=c) (bytes:=80) (by omega) hcl.2 (by decide) (by omega)
 refine ⟨s',m',e,hch,⟨cs++c,by simpa using h3,fun i y hy=>?_⟩,h4⟩
 rcases push_get hy with ⟨hi,hy⟩|⟨rfl,rfl⟩
 ·rw[chunk_append hl hi];exact h2 i y hy
 ·rw[chunk_last hl hcl.1];exact hx
theorem OwT.push {lo:Nat} {m:AMem} {s:AVal} {l:List Md} (h:OwT lo m s l) (hlo:lo≤m.length) {c:List AVal} {x:Md} (hx: ∀m',Ch (fun b=>s.blk=some b∨b<lo) m m'→RMode m' c x) (hn:l.length<2^30):
  ∃s' m',appendE m 6 80 40 s 1 c=some (s',m')∧Ch (fun b=>s.blk=some b) m m'∧OwT lo m' s' (l++ [x])∧(∀b,s'.blk=some b→s.blk=some b∨m.length≤b):=by
 obtain ⟨cs,h1,h2⟩:=h
 have hcl:=(hx m (.refl _ _)).all
 have hl:=h1.sl.length
 obtain ⟨s',m',e,hch,h3,h4⟩:=h1.append hlo (k:=1) (xs:=c) (bytes:=80) (by omega) hcl.2 (by decide) (by omega)
 refine ⟨s',m',e,hch,⟨cs++c,by simpa using h3,fun i y hy m2 hc2=>?_⟩,h4⟩
 have hcc:Ch (fun b=>s.blk=some b∨b<lo) m m2:=by
  have a1:Ch (fun b=>(s.blk=some b∨b<lo)∨m.length≤b) m m':=hch.weaken fun b _ hb=> .inl (.inl hb)
  have a2:Ch (fun b=>(s.blk=some b∨b<lo)∨m.length≤b) m' m2:=hc2.weaken fun b _ hb=>by
   rcases hb with hb|hb
   ·rcases h4 b hb with h|h
    ·exact .inl (.inl h)
    ·exact .inr h
   ·exact .inl (.inr hb)
  exact (a1.trans a2).weaken fun b hb h=>by rcases h with h|h;exact h;omega
 rcases push_get hy with ⟨hi,hy⟩|⟨rfl,rfl⟩
 ·rw[chunk_append hl hi];exact h2 i y hy m2 hcc
 ·rw[chunk_last hl hcl.1];exact hx m2 hcc
def TabS (S:Nat→Prop) (m:AMem) (s:AVal) (l:List Md):Prop:= ∃cs,∀m',Ch S m m'→Sl m' 6 s l.length cs∧ ∀(i:Nat) x,l[i]? =some x→RMode m' ((cs.drop (i*6)).take 6) x
theorem TabS.weaken {S T:Nat→Prop} {m:AMem} {s:AVal} {l:List Md} (h:TabS S m s l) (hs: ∀b,T b→S b):TabS T m s l:=by
 obtain ⟨cs,h⟩:=h
 exact ⟨cs,fun m' hc=>h m' (hc.weaken fun b _=>hs b)⟩
theorem TabS.next {S:Nat→Prop} {m m':AMem} {s:AVal} {l:List Md} (h:TabS S m s l) (hc:Ch S m m'):TabS S m' s l:=by
 obtain ⟨cs,h⟩:=h
 exact ⟨cs,fun m'' hc'=>h m'' (hc.trans hc')⟩
theorem TabS.mono {S:Nat→Prop} {m m':AMem} {s:AVal} {l:List Md} (h:TabS S m s l) (hm:m<+:m'):TabS S m' s l:=h.next (.of_prefix hm)
theorem TabS.tab {S:Nat→Prop} {m:AMem} {s:AVal} {l:List Md} (h:TabS S m s l):RTab m s l:=by
 obtain ⟨cs,h⟩:=h
 exact ⟨cs,h m (.refl _ _)⟩
theorem TabS.nil {S:Nat→Prop} {m:AMem}:TabS S m .nilslice []:=⟨[],fun _ _=>⟨Sl.nil,by simp⟩⟩
theorem RTab.tabS {S:Nat→Prop} {m0 m:AMem} {s:AVal} {l:List Md} (h:RTab m0 s l) (hm:m0<+:m) (hs: ∀b,b<m0.length→ ¬S b):TabS S m s l:=by
 obtain ⟨cs,h1,h2⟩:=h
 exact ⟨cs,fun m' hc=>by have hp:=hc.pre hm hs;exact ⟨h1.mono hp,fun i x hx=>(h2 i x hx).mono hp⟩⟩
theorem OwT.tabS {lo:Nat} {m:AMem} {s:AVal} {l:List Md} (h:OwT lo m s l):TabS (fun b=>b<lo) m s l:=by
 obtain ⟨cs,h1,h2⟩:=h
 refine ⟨cs,fun m' hc=>?_⟩
 have h1':=h1.ch hc fun b hb e=>by have:=(h1.blk_lo hb).1;omega
 exact ⟨h1'.sl,fun i x hx=>h2 i x hx m' (hc.weaken fun b _ hb=> .inr hb)⟩
theorem tab_all {m:AMem} {cs:List AVal} {l:List Md} (hl:cs.length=l.length*6) (h: ∀(i:Nat) x,l[i]? =some x→RMode m (chunk cs i) x):cs.all AVal.one=true:=by
 rw[List.all_eq_true]
 intro y hy
 obtain ⟨i,hi,rfl⟩:=List.getElem_of_mem hy
 have hq:i / 6<l.length:=by omega
 have:=(h (i / 6) l[i / 6] (List.getElem?_eq_getElem hq)).all.2
 rw[List.all_eq_true] at this
 refine this _ ?_
 have hg:(chunk cs (i / 6))[i%6]? =some cs[i]:=by
  unfold chunk
  rw[List.getElem?_take,if_pos (by omega),List.getElem?_drop,List.getElem?_eq_getElem (by omega)]
  congr 2
  omega
 exact List.mem_of_getElem? hg
theorem k119 (s:AVal) (l:List Md) (m0 m:AMem) (hm0:m0<+:m) (hs:RTab m0 s l) (hn:l.length<2^30):ACalls Tryz.prog 119 [s] m fun v m'=>m<+:m'∧OwB m0 m.length m' v l:=by
 refine w119 ?_
 obtain ⟨cs,hsl,hmd⟩:=hs
 replace hsl:=hsl.mono hm0
 have hcl:=hsl.length
 have hall:=tab_all hcl hmd
 have hsc:=hsl.cells
 rcases hsl with ⟨rfl,hx,rfl⟩|⟨b,o,cap,gr,rfl,h1,h2⟩
 ·have hx:l= []:=by simpa using hx
  subst hx
  simp
  exact ⟨[],.nil,by simp⟩
 ·simp
  have hsl:Sl m 6 (.slice b o l.length cap gr) l.length cs:= .inr ⟨b,o,cap,gr,rfl,h1,h2⟩
  have hN:Ow m.length (m++ [.own [] 40 none]) 6 40 (.slice m.length 0 0 0 none) 0 []:=Ow.new (by simp) (by simp)
  have hm1:m<+:m++ [.own [] 40 none]:=List.prefix_append _ _
  have hsc:=(hsl.mono hm1).cells
  simp[fillA] at hsc ⊢
  generalize m++ [.own [] 40 none]=m1 at*
  obtain ⟨t',m2,happ,hch,hO,hbl⟩:=hN.append (by have:=hm1.length_le;omega) (k:=l.length) (xs:=cs) (bytes:=80) hcl hall (by decide) (by omega)
  simp[hsc,happ]
  rw[List.nil_append,Nat.zero_add] at hO
  exact ⟨hch.pre hm1 fun b hb h=>(by simp[AVal.blk] at h;omega),cs,hO,hmd⟩
end Go.Proofs.YtlniliigcnedmaaGreat
namespace Go.Proofs.YtlniliigcnedmaaGreat
open Go Ax
set_option maxRecDepth 100000
set_option maxHeartbeats 4000000 in
theorem k151 (s:AVal) (c:List AVal) (l:List Md) (x:Md) (m:AMem) (hs:RTab m s l) (hx:RMode m c x) (hsz: ∀y∈l++ [x],y.elems.length<2^40∧y.names.length<2^40) (hn:l.length<2^20):
  ACalls Tryz.prog 151 [s,.agg c] m fun v m'=>m<+:m'∧OwT m.length m' v (l++ [x]):=by
 have hx0:=hx
 have hcl:=hx.all
 obtain ⟨e,nm,rfl,he,hnm⟩:=hx
 refine w151 ?_
 have h1:=Sl.one he
 have h2:=Sl.one hnm
 have hw:IntKind.i64.wrap ((l.length:Int)+1)=((l.length+1:Nat):Int):=by rw[wrap64 (by omega) (by omega)];omega
 have hc0:(0:Int)≤l.length+1:=by omega
 have hc1:80*((l.length:Int)+1)≤281474976710656:=by omega
 have hc2:(l.length:Int)+1≤9223372036854775807:=by omega
 simp[h1,h2,hs.len,hw,hc0,hc1,hc2]
 have hb0:readB (m++ [ABlk.own [.int .i64 x.kind,.int .i64 x.size,e,nm,.int .i64 x.dims,.bool x.flex] 40 none,ABlk.own (List.replicate (l.length+1) [AVal.int .i64 0,AVal.int .i64 0,AVal.nilslice,AVal.nilslice,AVal.int .i64 0,AVal.bool false]).flatten 40 none]) m.length=some [.int .i64 x.kind,.int .i64 x.size,e,nm,.int .i64 x.dims,.bool x.flex]:=by simp[readB,ABlk.cells]
 have hm02:m<+:m++ [ABlk.own [.int .i64 x.kind,.int .i64 x.size,e,nm,.int .i64 x.dims,.bool x.flex] 40 none,ABlk.own (List.replicate (l.length+1) [AVal.int .i64 0,AVal.int .i64 0,AVal.nilslice,AVal.nilslice,AVal.int .i64 0,AVal.bool false]).flatten 40 none]:=List.prefix_append _ _
 have hl02:(m++ [ABlk.own [.int .i64 x.kind,.int .i64 x.size,e,nm,.int .i64 x.dims,.bool x.flex] 40 none,ABlk.own (List.replicate (l.length+1) [AVal.int .i64 0,AVal.int .i64 0,AVal.nilslice,AVal.nilslice,AVal.int .i64 0,AVal.bool false]).flatten 40 none]).length=m.length+2:=by simp
 have hO:OwT m.length (m++ [ABlk.own [.int .i64 x.kind,.int .i64 x.size,e,nm,.int .i64 x.dims,.bool x.flex] 40 none,ABlk.own (List.replicate (l.length+1) [AVal.int .i64 0,AVal.int .i64 0,AVal.nilslice,AVal.nilslice,AVal.int .i64 0,AVal.bool false]).flatten 40 none]) (.slice (m.length+1) 0 0 (l.length+1) none) []:=by
  refine ⟨[],.inr ⟨m.length+1,0,l.length+1,none,(List.replicate (l.length+1) [AVal.int .i64 0,AVal.int .i64 0,AVal.nilslice,AVal.nilslice,AVal.int .i64 0,AVal.bool false]).flatten,none,rfl,by omega,by rw[List.getElem?_append_right (by omega)];simp,by simp[readN],by simp,by simp,by simp[List.all_flatten],.inl rfl⟩,by simp⟩
 have hob: ∀b,(AVal.slice (m.length+1) 0 0 (l.length+1) none).blk=some b→b=m.length+1:=fun b hb=>by simp[AVal.blk] at hb;omega
 generalize AVal.slice (m.length+1) 0 0 (l.length+1) none=out at*
 generalize m++ [ABlk.own [.int .i64 x.kind,.int .i64 x.size,e,nm,.int .i64 x.dims,.bool x.flex] 40 none,ABlk.own (List.replicate (l.length+1) [AVal.int .i64 0,AVal.int .i64 0,AVal.nilslice,AVal.nilslice,AVal.int .i64 0,AVal.bool false]).flatten 40 none]=m2 at*
 refine W_draw (fun i w m'=>i=1→OwB m m2.length m' w l) (by simp[maxDst]) ?_
 have: ∀(j:Nat) (m':AMem),noFacts j m':=fun _ _=>trivial
 refine D_pre 0 1 [1,2,3,6,4,5] (by simp only[List.drop_zero,List.drop_succ_cons,List.take_succ_cons,List.take_zero];rfl) rfl rfl ‹_› ?_
 simp
 intro _ _
 refine D_C rfl trivial rfl (fun m' hm' _=>(k119 s l m m' (hm02.trans hm') hs (by omega)).mono ?_) ?_ ?_ ?_
 ·rintro w m'' ⟨g1,cs,g2,g3⟩
  exact ⟨g1,fun _=>⟨cs,g2.lo hm'.length_le,g3⟩⟩
 ·obtain ⟨cs,g2,g3⟩:=hs
  have hcl2:=g2.length
  exact ⟨_,_,List.prefix_append _ _,fun _=>⟨cs,Ow.new hcl2 (tab_all hcl2 g3),g3⟩⟩
 ·rintro w m' m'' hm hk h
  exact (hk h).mono hm
 rintro w m4 hm4 hw4
 clear hw4
 refine D_R rfl trivial ⟨_,List.prefix_refl _,fun _ h=>by cases h⟩ ?_
 simp[bxW hb0,readN]
 refine D_A rfl trivial ?_
 simp[fillA,setN,h1,h2]
 intro b'
 refine D_P rfl trivial ?_
 simp
 refine D_W rfl rfl fun m5 hm5 hf=>?_
 have g13:=hf 1
 have g15:=hf 3
 simp[upd] at g13 g15
 have hsc:sliceCells m5 6 (.slice b' 0 1 1 none)=some (1,[.int .i64 x.kind,.int .i64 x.size,e,nm,.int .i64 x.dims,.bool x.flex]):=by simp[sliceCells,readB,g15,ABlk.cells,readN]
 obtain ⟨t16,m6,happ,hch6,hB,hbl⟩:=g13.push hm5.length_le hx0 (by omega)
 have hm26:m2<+:m6:=hch6.pre hm5 fun b hb h=>by have:=(g13.blk_lo h).1;omega
 simp[hsc,happ]
 refine D_P rfl trivial ?_
 have htl:=(hB.tab (hm02.trans hm26)).len
 simp[htl]
 refine D_end fun m7 hm7 _=>?_
 simp
 replace hB:=hB.mono hm7
 replace hm26:=hm26.trans hm7
 replace hO:=hO.mono hm26
 replace htl:=(hB.tab (hm02.trans hm26)).len
 clear g13 g15 hsc happ hch6 hbl hm5 hb0 hm4
 have hlen:(l++ [x]).length=l.length+1:=by simp
 generalize hL:l++ [x]=L at*
 have hm27:=hm26.length_le
 obtain ⟨I,hI⟩: ∃I:Nat→AFrame→AMem→Prop,∀q a m',I q a m'↔(∃(k:Nat) (o:AVal),k+q=L.length∧a=h151_0 o t16 (.int .i64 ((l.length:Int)+1)) (.int .i64 k)∧m<+:m'∧Ch (fun b=>b=m.length+1) m7 m'∧OwT m.length m' o (L.take k)∧ ∀b,o.blk=some b→b=m.length+1∨m7.length≤b):=⟨_,fun _ _ _=>Iff.rfl⟩
 refine W_loop I L.length ((hI _ _ _).2 ⟨0,out,by simp,by simp,hm02.trans hm26,.refl _ _,by simpa using hO,fun b hb=> .inl (hob b hb)⟩) ?_
 clear hO hob
 rintro q a m8 hIn
 obtain ⟨k,o,hk,rfl,hm8,hch8,hO,hob⟩:=(hI _ _ _).1 hIn
 clear hIn
 simp
 refine bbind_dec (fun hkl=>?_) fun hkl=>?_
 ·have hkl:k<L.length:=by omega
  have hw:=step64 (k:=k) (n:=L.length) hkl (by omega)
  obtain ⟨q,rfl⟩: ∃q',q=q'+1:=⟨q-1,by omega⟩
  have hT8:=(hB.ch hch8 fun b hb e=>by have:=(hB.blk_lo hb).1;omega).tab hm8
  obtain ⟨bx',ox,c,h4,h5,_,_,h6⟩:=hT8.atC hkl
  simp[h4,h5]
  have hcl:=h6.all
  rw[store_new _ _ c _ _ 6 hcl.1 rfl hcl.2]
  have hb7:(m8++ [ABlk.own c 40 none])[m8.length]? =some (.own c 40 none):=by simp
  have hm89:m8<+:m8++ [ABlk.own c 40 none]:=List.prefix_append _ _
  have hl9:(m8++ [ABlk.own c 40 none]).length=m8.length+1:=by simp
  have hsy:=hsz _ (List.getElem_mem hkl)
  simp
  generalize hy:L[k]=y at*
  generalize m8++ [ABlk.own c 40 none]=m9 at*
  generalize hb7e:m8.length=b7 at*
  obtain ⟨e2,nm2,c0,c1,c2,c3,c4,c5,he2,hnm2,rfl⟩:=h6.get
  replace he2:=he2.mono hm89
  replace hnm2:=hnm2.mono hm89
  refine W_draw (fun i v m'=>(i=2→OwL (AVal.int .i64) m9.length m' 3 v y.elems)∧(i=5→OwL AVal.str m9.length m' 9 v y.names)) (by simp[maxDst]) ?_
  have: ∀(j:Nat) (m':AMem),noFacts j m':=fun _ _=>trivial
  refine D_pre 0 2 [2,3,4,5,6,7,8,9] (by simp only[List.drop_zero,List.drop_succ_cons,List.take_succ_cons,List.take_zero];rfl) rfl rfl ‹_› ?_
  simp[bx (own_read hb7)]
  intro _ _
  refine D_C rfl trivial rfl (fun m' hm' _=>(k117 e2 y.elems m' (he2.mono hm') (by omega)).mono ?_) ?_ ?_ ?_
  ·rintro w m'' ⟨g1,g2⟩
   exact ⟨g1,fun _=>g2.lo' hm'.length_le,by simp⟩
  ·exact ⟨_,_,List.prefix_append _ _,fun _=>OwL.new m9 3 y.elems,by simp⟩
  ·rintro w m' m'' hm hk
   exact ⟨fun h=>(hk.1 h).mono hm,fun h=>(hk.2 h).mono hm⟩
  rintro v2 m10 hm10 hv2
  have v2s:=(Ow.sl (hv2.1 rfl)).self
  clear hv2 hm10
  refine D_P rfl trivial ?_
  simp
  refine D_R rfl trivial ⟨_,List.prefix_refl _,fun _ h=>by cases h⟩ ?_
  simp[bx (own_read hb7)]
  refine D_C rfl trivial rfl (fun m' hm' _=>(k120 nm2 y.names m' (hnm2.mono hm') (by omega)).mono ?_) ?_ ?_ ?_
  ·rintro w m'' ⟨g1,g2,_⟩
   exact ⟨g1,by simp,fun _=>g2.lo' hm'.length_le⟩
  ·exact ⟨_,_,List.prefix_append _ _,by simp,fun _=>OwL.new m9 9 y.names⟩
  ·rintro w m' m'' hm hk
   exact ⟨fun h=>(hk.1 h).mono hm,fun h=>(hk.2 h).mono hm⟩
  rintro v5 m10 hm10 hv5
  have v5s:=(Ow.sl (hv5.2 rfl)).self
  clear hv5 hm10
  refine D_P rfl trivial ?_
  simp
  refine D_W rfl rfl fun m10 hm10 hf=>?_
  have g2:=hf 2
  have g5:=hf 5
  simp[upd] at g2 g5
  have hb10:=own_mono hb7 hm10
  obtain ⟨m11,hst,hb11,hch11⟩:=fld_store (i:=2) hb10 (by simp) v2s.2 v2s.1
  simp[hst]
  refine D_P rfl trivial ?_
  simp
  refine D_W rfl rfl fun m12 hm12 _=>?_
  have hb12:=own_mono hb11 hm12
  obtain ⟨m13,hst13,hb13,hch13⟩:=fld_store (i:=3) hb12 (by simp) v5s.2 v5s.1
  simp[hst13]
  refine D_end fun m14 hm14 _=>?_
  have hb14:=own_mono hb13 hm14
  simp at hb14
  have hchx:Ch (fun b=>b=b7) m10 m14:=((hch11.trans (.of_prefix hm12)).trans hch13).trans (.of_prefix hm14)
  have g2':=g2.ch hchx fun b hb e=>by have:=(g2.blk_lo hb).1;omega
  have g5':=g5.ch hchx fun b hb e=>by have:=(g5.blk_lo hb).1;omega
  have hm814:m8<+:m14:=hchx.pre (hm89.trans hm10) fun b hb e=>by omega
  have hO14:=hO.mono hm814
  have hsc:sliceCells (m14++ [ABlk.own [.int .i64 y.kind,.int .i64 y.size,v2,v5,.int .i64 y.dims,.bool y.flex] 40 none]) 6 (.slice m14.length 0 1 1 none)=some (1,[.int .i64 y.kind,.int .i64 y.size,v2,v5,.int .i64 y.dims,.bool y.flex]):=by simp[sliceCells,readB,ABlk.cells,readN]
  have hm1415:m14<+:m14++ [ABlk.own [.int .i64 y.kind,.int .i64 y.size,v2,v5,.int .i64 y.dims,.bool y.flex] 40 none]:=List.prefix_append _ _
  have hol: ∀b,o.blk=some b→m.length≤b∧b<m8.length:=fun b hb=>hO.blk_lo hb
  simp[bxW (own_read hb14),readN,fillA,setN,v2s.1,v5s.1]
  generalize m14++ [ABlk.own [.int .i64 y.kind,.int .i64 y.size,v2,v5,.int .i64 y.dims,.bool y.flex] 40 none]=m15 at*
  have hm815:=hm814.trans hm1415
  have hl815:=hm815.length_le
  obtain ⟨o',m16,happ,hch16,hO16,hob16⟩:=(hO14.mono hm1415).push (c:= [.int .i64 y.kind,.int .i64 y.size,v2,v5,.int .i64 y.dims,.bool y.flex]) (x:=y) (by have:=hm8.length_le;omega) (fun m' hc=>⟨v2,v5,rfl,((g2'.mono hm1415).ch hc fun b hb e=>by have:=(g2.blk_lo hb).1;have:=hm8.length_le;rcases e with e|e;have:=hol b e;omega;omega).ints,Ow.sl ((g5'.mono hm1415).ch hc fun b hb e=>by have:=(g5.blk_lo hb).1;have:=hm8.length_le;rcases e with e|e;have:=hol b e;omega;omega)⟩) (by simp;omega)
  simp[hsc,happ,hw]
  refine ⟨q,by omega,(hI _ _ _).2 ⟨k+1,o',by omega,by simp,hch16.pre (hm8.trans hm815) fun b hb e=>by have:=hol b e;omega,(hch8.andThen (.of_prefix (S:=fun _=>False) hm815) fun b hb h=>h.elim).andThen hch16 fun b hb h=>?_,?_,fun b hb=>?_⟩⟩
  ·rcases hob b h with h|h
   ·exact h
   ·omega
  ·rw[List.take_add_one,List.getElem?_eq_getElem hkl,hy]
   exact hO16
  ·rcases hob16 b hb with h|h
   ·exact hob b h
   ·have:=hch8.len;right;omega
 ·have hkl:k=L.length:=by omega
  subst hkl
  rw[List.take_length] at hO
  simp
  exact ⟨hm8,hO⟩
end Go.Proofs.YtlniliigcnedmaaGreat
namespace Go.Proofs.YtlniliigcnedmaaGreat
open Go Ax
set_option maxRecDepth 100000
def slice3E (esz:Nat) (v hi mx:AVal):Option AVal:=match v with
 | .nilslice=>(bdE (some hi) 0).bind fun h=>(bdE (some mx) 0).bind fun m=>evSlice esz .nilslice 0 h (some m)
 | .slice b o n k ex=>(bdE (some hi) n).bind fun h=>(bdE (some mx) 0).bind fun m=>evSlice esz (.slice b o n k ex) 0 h (some m)
 |_=>none
theorem ev_slice3 (a:AFrame) (esz:Nat) (x hi mx:Arg):POp.ev a (.slice esz x none (some hi) (some mx))=slice3E esz (a.ev x) (a.ev hi) (a.ev mx):=by
 simp only[POp.ev,bnd_eq,slice3E]
 cases a.ev x<;>rfl
theorem slice3C {m:AMem} {s:AVal} {cs:List AVal} {L:List Md} (h1:Sl m 6 s L.length cs) (h2: ∀(i:Nat) x,L[i]? =some x→RMode m ((cs.drop (i*6)).take 6) x) {n:Nat} (hn:n≤L.length): ∃s',slice3E 6 s (.int .i64 n) (.int .i64 n)=some s'∧Sl m 6 s' (L.take n).length (cs.take (n*6))∧ ∀(i:Nat) x,(L.take n)[i]? =some x→RMode m (((cs.take (n*6)).drop (i*6)).take 6) x:=by
 have hcl:=h1.length
 have hmd: ∀(i:Nat) x,(L.take n)[i]? =some x→RMode m (((cs.take (n*6)).drop (i*6)).take 6) x:=by
  intro i x hx
  have hi:i<n:=by
   have:=(List.getElem?_eq_some_iff.1 hx).1
   simp at this;omega
  rw[List.getElem?_take,if_pos hi] at hx
  have:=h2 i x hx
  rw[List.drop_take,List.take_take,Nat.min_eq_left (by omega)]
  exact this
 have hlt:(L.take n).length=n:=by simp;omega
 rcases h1 with ⟨rfl,hl,rfl⟩|⟨b,o,cap,gr,rfl,⟨hc,hg⟩,h3⟩
 ·obtain rfl:n=0:=by omega
  exact ⟨.nilslice,by simp[slice3E,bdE,evSlice],by simpa using Sl.nil,by simp⟩
 ·refine ⟨.slice b o n n none,?_,?_,hmd⟩
  ·simp[slice3E,bdE,evSlice]
   omega
  ·rw[hlt]
   refine .inr ⟨b,o,n,none,rfl,⟨Nat.le_refl _,.inl rfl⟩,?_⟩
   by_cases h0:n=0
   ·subst h0;exact .inl ⟨rfl,by simp⟩
   ·rcases h3 with ⟨h3,_⟩|⟨_,bl,h4,h5⟩
    ·omega
    ·refine .inr ⟨h0,bl,h4,?_⟩
     have:=readN_sub h5 (i:=0) (k:=n*6) (by omega)
     simpa using this
theorem RTab.slice3 {m:AMem} {s:AVal} {L:List Md} (h:RTab m s L) {n:Nat} (hn:n≤L.length): ∃s',slice3E 6 s (.int .i64 n) (.int .i64 n)=some s'∧RTab m s' (L.take n):=by
 obtain ⟨cs,h1,h2⟩:=h
 obtain ⟨s',h3,h4,h5⟩:=slice3C h1 h2 hn
 exact ⟨s',h3,_,h4,h5⟩
theorem TabS.slice3 {S:Nat→Prop} {m:AMem} {s:AVal} {L:List Md} (h:TabS S m s L) {n:Nat} (hn:n≤L.length): ∃s',slice3E 6 s (.int .i64 n) (.int .i64 n)=some s'∧TabS S m s' (L.take n):=by
 obtain ⟨cs,h⟩:=h
 obtain ⟨h1,h2⟩:=h m (.refl _ _)
 obtain ⟨s',h3,_,_⟩:=slice3C h1 h2 hn
 refine ⟨s',h3,cs.take (n*6),fun m' hc=>?_⟩
 obtain ⟨h1,h2⟩:=h m' hc
 obtain ⟨s2,h6,h7,h8⟩:=slice3C h1 h2 hn
 rw[h3] at h6
 cases h6
 exact ⟨h7,h8⟩
noncomputable def findI (l:List Md) (x:Md):Option Nat:=
 if (l.length:Int)∈x.elems then none
 else if checkI (l++ [x])≠0 then none
 else if fidx (fun i=>RR (l++ [x]) i==RR (l++ [x]) l.length) 0 (l.length+1)=l.length then none
 else some (fidx (fun i=>RR (l++ [x]) i==RR (l++ [x]) l.length) 0 (l.length+1)).toNat
noncomputable def putI (l:List Md) (x:Md):List Md×Int×Int:=
 if checkI l≠0 then ([],0,checkI l)
 else match findI l x with
  |some i=>(l,i,0)
  |none=>if checkI (l++ [x])≠0 then ([],0,checkI (l++ [x])) else (l++ [x],l.length,0)
theorem k150 (s:AVal) (c:List AVal) (l:List Md) (x:Md) (m:AMem) (hs:RTab m s l) (hx:RMode m c x) (hsz: ∀y∈l++ [x],smallN y) (h40: ∀y∈l++ [x],y.elems.length<2^40∧y.names.length<2^40) (hn:T60 (l++ [x])):
  ACalls Tryz.prog 150 [s,.agg c] m fun v m'=>m<+:m'∧v= .tuple [.int .i64 ((findI l x).getD 0:Nat),.bool (findI l x).isSome]:=by
 have hx0:=hx
 have hcl:=hx.all
 obtain ⟨e,nm,rfl,he,hnm⟩:=hx
 refine w150 ?_
 have h60:=hn.len
 rw[List.length_append,List.length_singleton] at h60
 have h1:=Sl.one he
 have h2:=Sl.one hnm
 simp[h1,h2,hs.len]
 have hb0:=readB_new m [.int .i64 x.kind,.int .i64 x.size,e,nm,.int .i64 x.dims,.bool x.flex] 40 none
 have hm01:m<+:m++ [.own [.int .i64 x.kind,.int .i64 x.size,e,nm,.int .i64 x.dims,.bool x.flex] 40 none]:=List.prefix_append _ _
 generalize m++ [.own [.int .i64 x.kind,.int .i64 x.size,e,nm,.int .i64 x.dims,.bool x.flex] 40 none]=m1 at*
 generalize m.length=b3 at*
 have hxs:=hsz x (by simp)
 refine C_of (k167 e x.elems _ m1 (he.mono hm01) hxs.1) ?_
 rintro _ m2 ⟨rfl,rfl⟩
 by_cases hin:(l.length:Int)∈x.elems
 ·simp[hin,findI]
  exact hm01
 ·simp[hin,bxW hb0,readN]
  refine C_of (k151 s _ l x m2 (hs.mono hm01) (hx0.mono hm01) h40 (by omega)) ?_
  rintro v3 m3 ⟨hm3,hT⟩
  have hlL:(l++ [x]).length=l.length+1:=by simp
  simp
  refine C_of (k21 v3 (l++ [x]) m3 hT.tab hsz (by omega)) ?_
  rintro _ m4 ⟨rfl,hm4⟩
  have hfind:findI l x=if checkI (l++ [x])≠0 then none else if fidx (fun i=>RR (l++ [x]) i==RR (l++ [x]) l.length) 0 (l.length+1)=l.length then none else some (fidx (fun i=>RR (l++ [x]) i==RR (l++ [x]) l.length) 0 (l.length+1)).toNat:=by
   unfold findI
   rw[if_neg hin]
  have hm04:=(hm01.trans hm3).trans hm4
  by_cases hc:checkI (l++ [x])=0
  ·have ok:=okT_of hc
   simp[hc]
   refine C_of (k25 v3 (l++ [x]) m4 (hT.mono hm4).tab ok.good hn hsz ok.h64) ?_
   rintro v5 m5 ⟨hm5,ds,kd,hX,hD⟩
   have hXi:=ints_of_nat hX
   have hdl:=hD.len
   obtain ⟨b1,o1,g1,g2⟩:=hXi.at (i:=l.length) (by simp;omega)
   simp[hs.len,g1,g2]
   have hnd:l.length<ds.length:=by omega
   refine C_of (k168 v5 _ (ds[l.length]:Nat) m5 hXi (by simp;omega)) ?_
   rintro _ m6 ⟨rfl,rfl⟩
   have hF:fidx (fun i=>(ds.map fun z:Nat=>(z:Int))[i]? ==some ((ds[l.length]:Nat):Int)) 0 (ds.map fun z:Nat=>(z:Int)).length=fidx (fun i=>RR (l++ [x]) i==RR (l++ [x]) l.length) 0 (l.length+1):=by
    rw[List.length_map,hdl,hlL]
    refine fidx_congr _ _ fun j _ hj=>?_
    have hso:=hD.sameOrd.eq (a:=j) (b:=l.length) (by omega) (by omega)
    have e1:ds.getD j 0=ds[j]'(by omega):=by simp[List.getD,show j<ds.length by omega]
    have e2:ds.getD l.length 0=ds[l.length]:=by simp[List.getD,hnd]
    rw[e1,e2] at hso
    rw[Bool.eq_iff_iff]
    simp[show j<ds.length by omega]
    rw[←hso]
    omega
   rw[hF]
   have hge:0≤fidx (fun i=>RR (l++ [x]) i==RR (l++ [x]) l.length) 0 (l.length+1):=(fidx_nonneg _ _ _).2 ⟨l.length,by omega,by omega,by simp⟩
   rw[if_neg (by simp[hc])] at hfind
   generalize fidx (fun i=>RR (l++ [x]) i==RR (l++ [x]) l.length) 0 (l.length+1)=F at*
   by_cases hFl:F=l.length
   ·rw[if_pos hFl] at hfind
    subst hFl
    simp[hs.len,hfind]
    exact hm04.trans hm5
   ·rw[if_neg hFl] at hfind
    simp[hs.len,hfind,beqF hFl]
    exact ⟨hm04.trans hm5,by omega⟩
  ·have:findI l x=none:=by rw[hfind,if_pos hc]
   simp[bneT hc,this]
   exact hm04
theorem RTab.nil0 (m:AMem):RTab m .nilslice []:=⟨[],Sl.nil,by simp⟩
theorem k118f (s:AVal) (c:List AVal) (l:List Md) (x:Md) (m:AMem) (hs:RTab m s l) (hx:RMode m c x) (hsz: ∀y∈l++ [x],smallN y) (h40: ∀y∈l++ [x],y.elems.length<2^40∧y.names.length<2^40) (hn:T60 (l++ [x])):
  ACalls Tryz.prog 118 [s,.agg c] m fun v m'=>m<+:m'∧ ∃t,v= .tuple [t,.int .i64 (putI l x).2.1,.int .i64 (putI l x).2.2]∧TabS (fun b=>b<m.length) m' t (putI l x).1:=by
 have hx0:=hx
 have hcl:=hx.all
 obtain ⟨e,nm,rfl,he,hnm⟩:=hx
 refine w118 ?_
 have h60:=hn.len
 rw[List.length_append,List.length_singleton] at h60
 have h1:=Sl.one he
 have h2:=Sl.one hnm
 simp[h1,h2]
 have hb0:=readB_new m [.int .i64 x.kind,.int .i64 x.size,e,nm,.int .i64 x.dims,.bool x.flex] 40 none
 have hm01:m<+:m++ [.own [.int .i64 x.kind,.int .i64 x.size,e,nm,.int .i64 x.dims,.bool x.flex] 40 none]:=List.prefix_append _ _
 generalize m++ [.own [.int .i64 x.kind,.int .i64 x.size,e,nm,.int .i64 x.dims,.bool x.flex] 40 none]=m1 at*
 generalize hb3:m.length=b3 at*
 have hlL:(l++ [x]).length=l.length+1:=by simp
 refine C_of (k21 s l m1 (hs.mono hm01) (fun y hy=>hsz y (by simp[hy])) (by omega)) ?_
 rintro _ m2 ⟨rfl,hm2⟩
 have hm02:=hm01.trans hm2
 by_cases hc:checkI l=0
 ·have hp:putI l x=match findI l x with
   |some i=>(l,(i:Int),0)
   |none=>if checkI (l++ [x])≠0 then ([],0,checkI (l++ [x])) else (l++ [x],(l.length:Int),0):=by
   unfold putI
   rw[if_neg (by simp[hc])]
  simp[hc,bxW (readB_mono hm2 hb0),readN]
  refine C_of (k150 s _ l x m2 (hs.mono hm02) (hx0.mono hm02) hsz h40 hn) ?_
  rintro _ m3 ⟨hm3,rfl⟩
  have hm03:=hm02.trans hm3
  cases hf:findI l x with
  |some i=>
   rw[hf] at hp
   simp only at hp
   simp[bxW (readB_mono (hm2.trans hm3) hb0),readN]
   refine C_of (k151 s _ l x m3 (hs.mono hm03) (hx0.mono hm03) h40 (by omega)) ?_
   rintro v4 m4 ⟨hm4,hT⟩
   obtain ⟨s',g1,g2⟩:=RTab.slice3 hT.tab (n:=l.length) (by omega)
   rw[List.take_left'] at g2
   ·simp[hs.len,ev_slice3,g1,hp]
    obtain ⟨s2,q1,q2⟩:=TabS.slice3 hT.tabS (n:=l.length) (by omega)
    rw[List.take_left' rfl] at q2
    rw[g1] at q1
    cases q1
    exact ⟨hm03.trans hm4,q2.weaken fun b hb=>by have:=hm03.length_le;omega⟩
   ·rfl
  |none=>
   rw[hf] at hp
   simp only at hp
   simp[bxW (readB_mono (hm2.trans hm3) hb0),readN]
   refine C_of (k151 s _ l x m3 (hs.mono hm03) (hx0.mono hm03) h40 (by omega)) ?_
   rintro v4 m4 ⟨hm4,hT⟩
   simp
   refine C_of (k21 v4 (l++ [x]) m4 hT.tab hsz (by omega)) ?_
   rintro _ m5 ⟨rfl,hm5⟩
   have hm05:=(hm03.trans hm4).trans hm5
   by_cases hc2:checkI (l++ [x])=0
   ·rw[if_neg (by simp[hc2])] at hp
    simp[hc2,hp,hs.len]
    exact ⟨hm05,(hT.mono hm5).tabS.weaken fun b hb=>by have:=hm03.length_le;omega⟩
   ·rw[if_pos hc2] at hp
    simp[bneT hc2,hp]
    exact ⟨hm05,TabS.nil⟩
 ·have hp:putI l x=([],0,checkI l):=by
   unfold putI
   rw[if_pos hc]
  simp[bneT hc,hp]
  exact ⟨hm02,TabS.nil⟩
end Go.Proofs.YtlniliigcnedmaaGreat
namespace Go.Proofs.YtlniliigcnedmaaGreat
open Go Ax
open Relation
set_option maxRecDepth 100000
def unionOf (zs:List Nat):Md:=⟨12,0,zs.map fun z:Nat=>(z:Int),[],0,false⟩
theorem mdAt_app {l:List Md} {x:Md} {i:Nat} (h:i<l.length):mdAt (l++ [x]) i=mdAt l i:=by
 unfold mdAt
 rw[List.getElem?_append_left h]
theorem mdAt_last {l:List Md} {x:Md}:mdAt (l++ [x]) l.length=x:=by
 unfold mdAt
 rw[List.getElem?_concat_length]
 rfl
theorem step_same {l:List Md} {a b:Nat} (ha:a<l.length) (hb:b<l.length) (hk:(mdAt l a).kind=(mdAt l b).kind) (he:(mdAt l a).elems=(mdAt l b).elems) {y:Nat} (h:stepR l isU a y):stepR l isU b y:=by
 obtain ⟨x,h1,h2,h3⟩:=h
 rw[mdAt_eq ha,mdAt_eq hb] at hk he
 rw[List.getElem?_eq_getElem ha] at h1
 cases h1
 refine ⟨l[b],List.getElem?_eq_getElem hb,?_,by rw[←he];exact h3⟩
 unfold isU at h2 ⊢
 rw[←hk];exact h2
theorem part_same {l:List Md} {a b:Nat} (ha:a<l.length) (hb:b<l.length) (hk:(mdAt l a).kind=(mdAt l b).kind) (he:(mdAt l a).elems=(mdAt l b).elems) {j:Nat} (h:IsPart l a j):IsPart l b j:=by
 refine ⟨?_,h.2⟩
 have:=h.1
 clear h
 induction this with
 |single h=>exact .single (step_same ha hb hk he h)
 |tail _ h ih=>exact .tail ih h
theorem stepR_app {l:List Md} {x:Md} (hg:goodT l) {p:Md→Bool} {a b:Nat} (ha:a<l.length):stepR (l++ [x]) p a b↔stepR l p a b∧b<l.length:=by
 unfold stepR
 rw[List.getElem?_append_left ha]
 constructor
 ·rintro ⟨y,h1,h2,h3⟩
  have:=hg y (List.mem_of_getElem? h1) _ h3
  exact ⟨⟨y,h1,h2,h3⟩,by omega⟩
 ·exact fun h=>h.1
theorem tg_app {l:List Md} {x:Md} (hg:goodT l) {p:Md→Bool} {a b:Nat} (ha:a<l.length) (h:TransGen (stepR (l++ [x]) p) a b):TransGen (stepR l p) a b∧b<l.length:=by
 induction h with
 |single h=>have:=(stepR_app hg ha).1 h;exact ⟨.single this.1,this.2⟩
 |tail _ h ih=>have:=(stepR_app hg ih.2).1 h;exact ⟨.tail ih.1 this.1,this.2⟩
section
variable {l:List Md} {zs:List Nat}
theorem part_old {x:Md} (hg:goodT l) {a j:Nat} (ha:a<l.length):IsPart (l++ [x]) a j↔IsPart l a j:=by
 constructor
 ·rintro ⟨h1,h2⟩
  obtain ⟨h3,h4⟩:=tg_app hg ha h1
  exact ⟨h3,fun y hy=>h2 y (by rw[List.getElem?_append_left h4];exact hy)⟩
 ·intro h
  have hj:=h.lt hg
  refine ⟨?_,fun y hy=>h.2 y (by rwa[List.getElem?_append_left hj] at hy)⟩
  have hT:=h.1
  clear h hj
  have: ∀{b},TransGen (stepR l isU) a b→TransGen (stepR (l++ [x]) isU) a b∧b<l.length:=fun hb=>by
   induction hb with
   | @single b h=>
    have hb':b<l.length:=by obtain ⟨y,h1,_,h3⟩:=h;have:=hg y (List.mem_of_getElem? h1) _ h3;omega
    exact ⟨.single ((stepR_app hg ha).2 ⟨h,hb'⟩),hb'⟩
   | @tail c b _ h ih=>
    have hb':b<l.length:=by obtain ⟨y,h1,_,h3⟩:=h;have:=hg y (List.mem_of_getElem? h1) _ h3;omega
    exact ⟨.tail ih.1 ((stepR_app hg ih.2).2 ⟨h,hb'⟩),hb'⟩
  exact (this hT).1
theorem part_new (hz: ∀z∈zs,z<l.length∧isU (mdAt l z)=false) {j:Nat}:IsPart (l++ [unionOf zs]) l.length j↔j∈zs:=by
 have hnu: ∀z∈zs,∀y,(l++ [unionOf zs])[z]? =some y→isU y=false:=fun z h y hy=>by
  obtain ⟨h1,h2⟩:=hz z h
  rw[List.getElem?_append_left h1] at hy
  rw[mdAt_eq h1] at h2
  rw[List.getElem?_eq_getElem h1] at hy
  cases hy
  exact h2
 have h1: ∀b,stepR (l++ [unionOf zs]) isU l.length b→b∈zs:=fun b ⟨y,h1,_,h3⟩=>by
  rw[List.getElem?_concat_length] at h1
  cases h1
  obtain ⟨z,hz1,hz2⟩:=List.mem_map.1 h3
  have:z=b:=by omega
  exact this▸hz1
 constructor
 ·rintro ⟨h,_⟩
  have: ∀{b},TransGen (stepR (l++ [unionOf zs]) isU) l.length b→b∈zs:=fun hb=>by
   induction hb with
   |single h=>exact h1 _ h
   |tail _ h ih=>
    obtain ⟨y,g1,g2,_⟩:=h
    rw[hnu _ ih y g1] at g2
    cases g2
  exact this h
 ·intro h
  exact ⟨.single ⟨unionOf zs,by rw[List.getElem?_concat_length],by simp[isU,unionOf],List.mem_map.2 ⟨j,h,rfl⟩⟩,hnu j h⟩
theorem part_in {x j:Nat} (h:IsPart l x j):x<l.length:=by
 have: ∀{b},TransGen (stepR l isU) x b→x<l.length:=fun hb=>by
  induction hb with
  |single h=>obtain ⟨y,h1,_⟩:=h;exact (List.getElem?_eq_some_iff.1 h1).1
  |tail _ _ ih=>exact ih
 exact this h.1
theorem part_head {x j:Nat} (hx:x<l.length) (h:IsPart l x j):isU (mdAt l x)=true:=by
 have: ∀{b},TransGen (stepR l isU) x b→isU (mdAt l x)=true:=fun hb=>by
  induction hb with
  |single h=>obtain ⟨y,h1,h2,_⟩:=h;rw[List.getElem?_eq_getElem hx] at h1;cases h1;rw[mdAt_eq hx];exact h2
  |tail _ _ ih=>exact ih
 exact this h.1
theorem sub_le {xs ys:List Nat} (h:xs.Nodup) (hs: ∀x∈xs,x∈ys):xs.length≤ys.length:=List.Nodup.length_le_of_subset h hs
theorem T13.of (hn:l.length≤13):T13 l:=by
 refine ⟨by omega,fun hg x O h1 h2=>?_⟩
 cases O with
 |nil=>simp
 |cons j O=>
  have hx:=part_in (h2 j (by simp))
  have hxu:=part_head hx (h2 j (by simp))
  have hxO:x∉j::O:=fun h=>by
   have:=(h2 x h).2 l[x] (List.getElem?_eq_getElem hx)
   rw[mdAt_eq hx] at hxu
   rw[hxu] at this
   cases this
  have:=nodup_le l.length (x::j::O) (List.nodup_cons.2 ⟨hxO,h1⟩) fun z hz=>by
    rcases List.mem_cons.1 hz with rfl|hz
    ·exact hx
    ·exact (h2 z hz).lt hg
  simp at this ⊢
  omega
theorem T13.union (h:T13 l) (hg:goodT l) (h59:l.length<19) (hz: ∀z∈zs,z<l.length∧isU (mdAt l z)=false) (hz12:zs.length≤12):T13 (l++ [unionOf zs]):=by
 refine ⟨by simp;omega,fun _ x O h1 h2=>?_⟩
 rcases Nat.lt_trichotomy x l.length with hx|rfl|hx
 ·exact h.few hg x O h1 fun j hj=>(part_old hg hx).1 (h2 j hj)
 ·exact Nat.le_trans (sub_le h1 fun j hj=>(part_new hz).1 (h2 j hj)) hz12
 ·cases O with
  |nil=>simp
  |cons j O=>have:=part_in (h2 j (by simp));simp at this;omega
end
theorem T13.bases {l:List Md} (h:T13 l) (hg:goodT l) {x:Nat} (hx:x<l.length):(basesOf l x).length≤12:=by
 have hb:=fun z hz=>basesOf_sub hg hx (z:=z) hz
 cases hu:isU (mdAt l x)
 ·rw[(basesEx hg hx).el hu];simp
 ·refine h.few hg x _ ?_ fun z hz=>?_
  ·obtain ⟨O,_,h2⟩:=(basesEx hg hx).un hu
   exact h2.asc.imp fun hab=>by intro e;subst e;omega
  ·have:=hb z hz
   unfold IsBase at this
   rw[if_pos hu] at this
   exact this
end Go.Proofs.YtlniliigcnedmaaGreat
namespace Go.Proofs.YtlniliigcnedmaaGreat
open Go Ax
set_option maxRecDepth 100000
open Classical in
noncomputable def leftI (l:List Md) (u v:Nat):List Nat:=(basesOf l u).filter fun z=> !decide (hasRR l v z)
end Go.Proofs.YtlniliigcnedmaaGreat
namespace Go.Proofs.YtlniliigcnedmaaGreat
open Go Ax
open Relation
set_option maxRecDepth 100000
def mdU (k:Int) (es:List Int):Md:=⟨k,0,es,[],0,false⟩
theorem noCycle {l:List Md} (hd: ∀(a:Nat) x,l[a]? =some x→ ∀e∈x.elems,0≤e∧e<(a:Int)) {p:Md→Bool} {a b:Nat} (h:TransGen (stepR l p) a b):b<a:=by
 have one: ∀a b,stepR l p a b→b<a:=by
  rintro a b ⟨x,h1,_,h2⟩
  have:=hd a x h1 _ h2
  omega
 induction h with
 |single h=>exact one _ _ h
 |tail _ h ih=>have:=one _ _ h;omega
theorem check_of {l:List Md} (hn:l.length≤512) (h1: ∀x∈l,oneI x l.length=0) (hv:l.any (voidsB l)=false) (hd: ∀(a:Nat) x,l[a]? =some x→ ∀e∈x.elems,0≤e∧e<(a:Int)) (hr: ∀x∈l,rowStruct x=false):checkI l=0:=by
 unfold checkI
 rw[if_neg (by omega),if_neg,if_neg (by rw[hv];simp),if_neg,if_neg]
 ·rintro ⟨x,_,_,e,_,hf⟩
  have: ∀m,¬FlexP l m:=by
   intro m h
   cases h with
   |flex h1 h2=>rw[hr _ (List.mem_of_getElem? h1)] at h2;cases h2
   |step h1 _=>obtain ⟨x,h1,h2,_⟩:=h1;rw[hr _ (List.mem_of_getElem? h1)] at h2;cases h2
  exact this _ hf
 ·rintro ⟨r,_,h|h⟩
  ·have:=noCycle hd h;omega
  ·have:=noCycle hd h;omega
 ·intro h
  apply h
  rw[firstI_zero]
  intro y hy
  obtain ⟨x,hx,rfl⟩:=List.mem_map.1 hy
  exact h1 x hx
end Go.Proofs.YtlniliigcnedmaaGreat
namespace Go.Proofs.YtlniliigcnedmaaGreat
open Go Ax
set_option maxRecDepth 100000
theorem k10 (s:AVal) (l:List Md) (a b:Nat) (m:AMem) (hs:RTab m s l) (hsz: ∀x∈l,smallN x) (hn:T13 l) (hc:checkI l=0) (ha:a<l.length) (hb:b<l.length):
  ACalls Tryz.prog 10 [s,.int .i64 a,.int .i64 b] m fun v m'=>v= .tuple [.bool (decide (RR l a=RR l b)),.int .i64 0]∧m<+:m':=by
 refine w10 ?_
 have h60:=hn.len
 have ok:=okT_of hc
 simp[fillA,setN]
 have hA:=two_ints m a b
 have hm1:m<+:m++ [.own [.int .i64 (a:Int),.int .i64 (b:Int)] 3 none]:=List.prefix_append _ _
 generalize AVal.slice m.length 0 2 2 none=t1 at*
 generalize m++ [.own [.int .i64 (a:Int),.int .i64 (b:Int)] 3 none]=m1 at*
 refine C_of (k24 s t1 l [(a:Int),(b:Int)] m1 (hs.mono hm1) hA.ints hsz (by omega) (by simp)) ?_
 rintro _ m2 ⟨rfl,hm2⟩
 rw[rightI_two hc ha hb]
 simp
 refine C_of (k25 s l m2 (hs.mono (hm1.trans hm2)) ok.good hn.t60 hsz ok.h64) ?_
 rintro v3 m3 ⟨hm3,ds,kd,hX,hD⟩
 have hXi:=ints_of_nat hX
 obtain ⟨ba,oa,hpa,hla⟩:=ranksAt hXi (x:=a) (by rw[hD.len];exact ha)
 obtain ⟨bb,ob,hpb,hlb⟩:=ranksAt hXi (x:=b) (by rw[hD.len];exact hb)
 have hla:=hla m3 (List.prefix_refl _)
 have hlb:=hlb m3 (List.prefix_refl _)
 have heq:=hD.sameOrd.eq ha hb
 generalize ds.getD a 0=x at*
 generalize ds.getD b 0=y at*
 have hxy:((x:Int)==(y:Int))=decide (RR l a=RR l b):=by
  rw[Bool.eq_iff_iff,decide_eq_true_iff,←heq]
  simp
  omega
 simp
 refine W_drawPR (by simp[maxDst]) rfl rfl ?_
 simp[hpa,hla,hpb,hlb,hxy]
 intro m4 hm4
 exact ((hm1.trans hm2).trans hm3).trans hm4
theorem uniV_ok {l:List Md} {a b:Nat} (hc:checkI l=0) (ha:a<l.length) (hb:b<l.length):uniV l a b= .tuple [.bool (uniB l a b),.int .i64 0]:=by
 simp[uniV,rightI_two hc ha hb]
theorem hasRR_rr {l:List Md} {c x y:Nat} (h:hasRR l c x) (e:RR l x=RR l y):hasRR l c y:=by
 obtain ⟨j,h1,h2⟩:=h
 exact ⟨j,h1,h2.trans e⟩
theorem uniB_twin1 {l:List Md} (hg:goodT l) {a b c:Nat} (ha:a<l.length) (hb:b<l.length) (hc:c<l.length) (e:RR l a=RR l b):uniB l a c=uniB l b c:=by
 have key: ∀{a b:Nat},a<l.length→b<l.length→RR l a=RR l b→uniB l a c=true→uniB l b c=true:=by
  intro a b ha hb e h
  obtain ⟨h1,h2,h3⟩:=(uniB_iff hg ha hc).1 h
  refine (uniB_iff hg hb hc).2 ⟨h1,by rw[←e];exact h2,fun x hx=>?_⟩
  obtain ⟨j,h4,h5⟩:=(hasRR_congr hg ha hb e).2 ⟨x,hx,rfl⟩
  exact hasRR_rr (h3 j h4) h5
 rw[Bool.eq_iff_iff]
 exact ⟨key ha hb e,key hb ha e.symm⟩
theorem uniB_twin2 {l:List Md} (hg:goodT l) {a b c:Nat} (ha:a<l.length) (hb:b<l.length) (hc:c<l.length) (e:RR l a=RR l b):uniB l c a=uniB l c b:=by
 have key: ∀{a b:Nat},a<l.length→b<l.length→RR l a=RR l b→uniB l c a=true→uniB l c b=true:=by
  intro a b ha hb e h
  obtain ⟨h1,h2,h3⟩:=(uniB_iff hg hc ha).1 h
  exact (uniB_iff hg hc hb).2 ⟨by rw[←RR_isU ha hb e];exact h1,by rw[←e];exact h2,fun x hx=>(hasRR_congr hg ha hb e).1 (h3 x hx)⟩
 rw[Bool.eq_iff_iff]
 exact ⟨key ha hb e,key hb ha e.symm⟩
end Go.Proofs.YtlniliigcnedmaaGreat
namespace Go.Proofs.YtlniliigcnedmaaGreat
open Go Ax
set_option maxRecDepth 100000
theorem w61 {args m R} (h:W Tryz.prog (.seq (.reg [qi 6 0,qb 7 false,qi 8 0]) (.kill [0,1,2] (.seq (.seq (.reg [qv 18 0,qv 19 1,qv 20 2,⟨some 21,.A (.bslice 3 2 [(.int .i64 0)] [(0,(1,(.t 19))),(1,(1,(.t 20)))]),none⟩,qc 22 19 [(.t 18),(.t 21)],qv 9 22]) (.kill [0,1,2,9] (.seq (.reg [qv 23 9,qk 24 .neq 23 0]) (.kill [0,1,2,9,24] (.cond (.t 24) (.seq (.reg [qv 25 9,qi 6 0,qb 7 false,qv 8 25]) .ret) .skip))))) (.kill [0,1,2] (.seq (.reg [qv 26 1,qv 10 26]) (.kill [0,2,10] (.seq (.reg [qi 11 0]) (.block 0 (.kill [0,2,10,11] (.loop (.fin [0,2,10,11] (.seq (.block 1 (.seq (.reg [qv 30 0,qv 31 10,qv 32 2,qc 33 91 [(.t 30),(.t 31),(.t 32)],qv 29 33,qx 34 29 0,qx 35 29 1,qv 12 34,qv 13 35]) (.kill [0,2,10,11,12,13] (.seq (.seq (.reg [qv 36 13,qk 37 .neq 36 0]) (.kill [0,2,10,11,12,13,37] (.cond (.t 37) (.seq (.reg [qv 38 13,qi 6 0,qb 7 false,qv 8 38]) .ret) .skip))) (.kill [0,2,10,11,12] (.seq (.reg [qv 40 0,qv 41 10,qv 42 2,qc 43 92 [(.t 40),(.t 41),(.t 42)],qv 39 43,qx 44 39 0,qx 45 39 1,qv 14 44,qv 15 45]) (.kill [0,2,10,11,12,14] (.seq (.seq (.reg [qv 46 12,qv 47 46,⟨some 48,.P (.mov (.t 14)),(some (47,false))⟩,⟨some 49,.P (.pick (.t 47) (.c (.bool true)) (.t 48)),none⟩]) (.kill [0,2,10,11,49] (.cond (.t 49) (.seq (.reg [qv 50 11,qv 6 50,qb 7 true,qi 8 0]) .ret) .skip))) (.kill [0,2,10,11] (.seq (.reg [qv 52 0,qv 53 10,qc 54 93 [(.t 52),(.t 53)],qv 51 54,qx 55 51 0,qx 56 51 1,qx 57 51 2,qv 16 55,qv 17 56,qv 13 57]) (.kill [2,11,13,16,17] (.seq (.seq (.reg [qv 58 13,qk 59 .eql 58 7]) (.kill [2,11,13,16,17,59] (.cond (.t 59) (.seq (.reg [qi 6 0,qb 7 false,qi 8 0]) .ret) .skip))) (.kill [2,11,13,16,17] (.seq (.seq (.reg [qv 60 13,qk 61 .neq 60 0]) (.kill [2,11,13,16,17,61] (.cond (.t 61) (.seq (.reg [qv 62 13,qi 6 0,qb 7 false,qv 8 62]) .ret) .skip))) (.kill [2,11,16,17] (.reg [qv 63 16,qv 64 17,qv 0 63,qv 10 64])))))))))))))))) (.kill [0,2,10,11] (.reg [qv 27 11,qk 28 .add 27 1,qv 11 28])))))))))))))) (E [(.tmp 6),(.tmp 7),(.tmp 8)] R .mk) .mk (mat 65 (sArgs 0 args)) m) (hl:Nat.ble args.length 65=true:=by rfl):ACalls Tryz.prog 61 args m R:=walk mix (by kernel_rfl) (Nat.le_of_ble_eq_true hl) h
abbrev h61_0 (t0 t2 t10 t11:AVal):AFrame:=mat 65 [(0,t0),(2,t2),(10,t10),(11,t11)]
theorem w11 {args m R} (h:W Tryz.prog (.seq (.reg [⟨some 6,.A (.alloc 34 [(.bool false),(.int .i64 0),(.int .i64 0),(.bool false)]),none⟩,qb 7 false,qi 8 0]) (.kill [0,1,2,4,6] (.seq (.seq (.reg [qv 10 0,qv 11 1,qv 12 2,⟨some 13,.A (.bslice 3 2 [(.int .i64 0)] [(0,(1,(.t 11))),(1,(1,(.t 12)))]),none⟩,qc 14 15 [(.t 10),(.t 13)],qv 9 14]) (.kill [0,1,2,4,6,9] (.seq (.reg [qv 15 9,qk 16 .neq 15 0]) (.kill [0,1,2,4,6,9,16] (.cond (.t 16) (.seq (.reg [⟨some 17,.P (.build [(.bool false),(.int .i64 0),(.int .i64 0),(.bool false)] []),none⟩,qv 18 9,⟨none,.W (.store 4 (.t 6) (.t 17)),none⟩,qb 7 false,qv 8 18]) .ret) .skip))))) (.kill [0,1,2,4,6] (.seq (.reg [qv 19 0,qv 20 1,qv 21 2,qc 22 17 [(.t 19),(.t 20),(.t 21)],qx 23 22 0,qx 24 22 1,qx 25 22 2,⟨none,.W (.store 4 (.t 6) (.t 23)),none⟩,qv 7 24,qv 8 25]) .ret))))) (E [(.cell 6 4 true),(.tmp 7),(.tmp 8)] R .mk) .mk (mat 26 (sArgs 0 args)) m) (hl:Nat.ble args.length 26=true:=by rfl):ACalls Tryz.prog 11 args m R:=walk mix (by kernel_rfl) (Nat.le_of_ble_eq_true hl) h
theorem w20 {args m R} (h:W Tryz.prog (.seq (.reg [⟨some 6,.A (.alloc 49 [(.bool false),(.int .i64 0),(.int .i64 0),(.bool false)]),none⟩,qb 7 false,qi 8 0]) (.kill [0,1,2,4,6] (.seq (.seq (.reg [qv 15 0,qv 16 1,qv 17 2,⟨some 18,.A (.bslice 3 2 [(.int .i64 0)] [(0,(1,(.t 16))),(1,(1,(.t 17)))]),none⟩,qc 19 19 [(.t 15),(.t 18)],qv 9 19]) (.kill [0,1,2,4,6,9] (.seq (.reg [qv 20 9,qk 21 .neq 20 0]) (.kill [0,1,2,4,6,9,21] (.cond (.t 21) (.seq (.reg [⟨some 22,.P (.build [(.bool false),(.int .i64 0),(.int .i64 0),(.bool false)] []),none⟩,qv 23 9,⟨none,.W (.store 4 (.t 6) (.t 22)),none⟩,qb 7 false,qv 8 23]) .ret) .skip))))) (.kill [0,1,2,4,6] (.seq (.reg [qv 25 0,qv 26 1,qv 27 2,qc 28 34 [(.t 25),(.t 26),(.t 27),(.c (.bool true))],qv 24 28,qx 29 24 0,qx 30 24 1,qx 31 24 2,⟨some 10,.A (.alloc 49 [(.bool false),(.int .i64 0),(.int .i64 0),(.bool false)]),none⟩,⟨none,.W (.store 4 (.t 10) (.t 29)),none⟩,qv 11 30,qv 12 31]) (.kill [0,1,2,4,6,10,11,12] (.seq (.seq (.reg [qv 32 12,qk 33 .neq 32 0]) (.kill [0,1,2,4,6,10,11,12,33] (.cond (.t 33) (.seq (.reg [⟨some 34,.R (.load 4 true (.t 10)),none⟩,qv 35 11,qv 36 12,⟨none,.W (.store 4 (.t 6) (.t 34)),none⟩,qv 7 35,qv 8 36]) .ret) .skip))) (.kill [0,1,2,4,6,10,11] (.seq (.reg [qv 38 0,qv 39 2,qv 40 1,qc 41 34 [(.t 38),(.t 39),(.t 40),(.c (.bool false))],qv 37 41,qx 42 37 0,qx 43 37 1,qx 44 37 2,⟨some 13,.A (.alloc 49 [(.bool false),(.int .i64 0),(.int .i64 0),(.bool false)]),none⟩,⟨none,.W (.store 4 (.t 13) (.t 42)),none⟩,qv 14 43,qv 12 44]) (.kill [4,6,10,11,12,13,14] (.seq (.seq (.reg [qv 45 12,qk 46 .neq 45 0]) (.kill [4,6,10,11,12,13,14,46] (.cond (.t 46) (.seq (.reg [⟨some 47,.R (.load 4 true (.t 13)),none⟩,qv 48 14,qv 49 12,⟨none,.W (.store 4 (.t 6) (.t 47)),none⟩,qv 7 48,qv 8 49]) .ret) .skip))) (.kill [4,6,10,11,13,14] (.seq (.seq (.reg [qv 50 11,qv 51 50,⟨some 52,.P (.mov (.t 14)),(some (51,true))⟩,⟨some 53,.P (.un .not (.t 52)),(some (51,true))⟩,⟨some 54,.P (.mov (.t 53)),(some (51,true))⟩,⟨some 55,.P (.faddr 2 (.t 10)),(some (54,false))⟩,⟨some 56,.R (.load 1 false (.t 55)),(some (54,false))⟩,⟨some 57,.P (.faddr 2 (.t 13)),(some (54,false))⟩,⟨some 58,.R (.load 1 false (.t 57)),(some (54,false))⟩,⟨some 59,.P (.bin .leq (.t 56) (.t 58)),(some (54,false))⟩,⟨some 60,.P (.pick (.t 54) (.c (.bool true)) (.t 59)),(some (51,true))⟩,⟨some 61,.P (.pick (.t 51) (.t 60) (.c (.bool false))),none⟩]) (.kill [4,6,10,11,13,14,61] (.cond (.t 61) (.seq (.reg [⟨some 62,.R (.load 4 true (.t 10)),none⟩,qv 63 11,⟨none,.W (.store 4 (.t 6) (.t 62)),none⟩,qv 7 63,qi 8 0]) .ret) .skip))) (.kill [4,6,13,14] (.seq (.reg [⟨some 64,.R (.load 4 true (.t 13)),none⟩,qv 65 14,⟨none,.W (.store 4 (.t 6) (.t 64)),none⟩,qv 7 65,qi 8 0]) .ret))))))))))))))) (E [(.cell 6 4 true),(.tmp 7),(.tmp 8)] R .mk) .mk (mat 66 (sArgs 0 args)) m) (hl:Nat.ble args.length 66=true:=by rfl):ACalls Tryz.prog 20 args m R:=walk mix (by kernel_rfl) (Nat.le_of_ble_eq_true hl) h
theorem w9 {args m R} (h:W Tryz.prog (.seq (.reg [⟨some 2,.A (.box 22 (.t 0)),none⟩,qb 4 false]) (.kill [1,2] (.seq (.reg [ql 5 2,qc 6 21 [(.t 5)],qk 7 .eql 6 0,qv 8 7,⟨some 9,.P (.mov (.t 1)),(some (8,true))⟩,⟨some 10,.P (.mkfn (.func 23) [] [(.t 2)]),(some (8,true))⟩,⟨some 11,.C (.c (.func (.func 22) [] [])) [(.t 9),(.t 10)],(some (8,true))⟩,⟨some 12,.P (.un .not (.t 11)),(some (8,true))⟩,⟨some 13,.P (.pick (.t 8) (.t 12) (.c (.bool false))),none⟩,qv 4 13]) .ret))) (E [(.tmp 4)] R .mk) .mk (mat 14 (sArgs 0 args)) m) (hl:Nat.ble args.length 14=true:=by rfl):ACalls Tryz.prog 9 args m R:=walk mix (by kernel_rfl) (Nat.le_of_ble_eq_true hl) h
theorem w55 {args m R} (h:W Tryz.prog (.seq (.reg [⟨some 4,.P (.mov (.c .nilslice)),none⟩,qi 5 0,qi 6 0]) (.kill [0,1] (.seq (.seq (.reg [qv 12 0,qv 13 1,⟨some 14,.A (.bslice 3 1 [(.int .i64 0)] [(0,(1,(.t 13)))]),none⟩,qc 15 15 [(.t 12),(.t 14)],qv 7 15]) (.kill [0,1,7] (.seq (.reg [qv 16 7,qk 17 .neq 16 0]) (.kill [0,1,7,17] (.cond (.t 17) (.seq (.reg [qv 18 7,⟨some 4,.P (.mov (.c .nilslice)),none⟩,qi 5 0,qv 6 18]) .ret) .skip))))) (.kill [0,1] (.seq (.reg [qv 19 0,qv 20 1,qa 21 6 19 20,⟨some 22,.R (.load 6 true (.t 21)),none⟩,⟨some 8,.A (.alloc 40 [(.int .i64 0),(.int .i64 0),.nilslice,.nilslice,(.int .i64 0),(.bool false)]),none⟩,⟨none,.W (.store 6 (.t 8) (.t 22)),none⟩]) (.kill [0,8] (.seq (.block 0 (.seq (.reg [⟨some 24,.P (.faddr 0 (.t 8)),none⟩,ql 25 24,qk 26 .eql 25 9,qv 23 26]) (.kill [0,8,23] (.cond (.t 23) (.seq (.reg [qv 28 0,⟨some 29,.P (.faddr 2 (.t 8)),none⟩,ql 30 29,⟨some 31,.P (.iaddr 1 (.t 30) (qz 0)),none⟩,ql 32 31,qc 33 85 [(.t 28),(.t 32)],qv 27 33,qx 34 27 0,qx 35 27 1,qx 36 27 2,qv 9 34,qv 10 35,qv 11 36]) (.kill [9,10,11] (.seq (.seq (.reg [qv 37 11,qk 38 .neq 37 0]) (.kill [9,10,11,38] (.cond (.t 38) (.seq (.reg [qv 39 11,⟨some 4,.P (.mov (.c .nilslice)),none⟩,qi 5 0,qv 6 39]) .ret) .skip))) (.kill [9,10] (.seq (.reg [qv 40 9,qc 41 86 [(.t 40)],qv 42 9,qv 43 10,qc 44 87 [(.t 42),(.t 43)],qv 4 41,qv 5 44,qi 6 0]) .ret))))) (.seq (.reg [⟨some 46,.P (.faddr 0 (.t 8)),none⟩,ql 47 46,qk 48 .eql 47 13,qv 49 48,⟨some 50,.P (.faddr 2 (.t 8)),(some (49,true))⟩,⟨some 51,.R (.load 1 false (.t 50)),(some (49,true))⟩,⟨some 52,.P (.len (.t 51)),(some (49,true))⟩,⟨some 53,.P (.bin .eql (.t 52) (qz 1)),(some (49,true))⟩,⟨some 54,.P (.pick (.t 49) (.t 53) (.c (.bool false))),none⟩,qv 55 54,⟨some 56,.P (.mov (.t 0)),(some (55,true))⟩,⟨some 57,.P (.faddr 2 (.t 8)),(some (55,true))⟩,⟨some 58,.R (.load 1 false (.t 57)),(some (55,true))⟩,⟨some 59,.P (.iaddr 1 (.t 58) (qz 0)),(some (55,true))⟩,⟨some 60,.R (.load 1 false (.t 59)),(some (55,true))⟩,⟨some 61,.P (.iaddr 6 (.t 56) (.t 60)),(some (55,true))⟩,⟨some 62,.P (.faddr 0 (.t 61)),(some (55,true))⟩,⟨some 63,.R (.load 1 false (.t 62)),(some (55,true))⟩,⟨some 64,.P (.bin .neq (.t 63) (qz 0)),(some (55,true))⟩,⟨some 65,.P (.pick (.t 55) (.t 64) (.c (.bool false))),none⟩,qv 45 65]) (.kill [0,8,45] (.cond (.t 45) (.seq (.draw false [qv 66 0,qc 67 86 [(.t 66)],qv 68 0,⟨some 69,.P (.faddr 2 (.t 8)),none⟩,ql 70 69,⟨some 71,.P (.iaddr 1 (.t 70) (qz 0)),none⟩,ql 72 71,qc 73 87 [(.t 68),(.t 72)],qv 4 67,qv 5 73,qi 6 0] [[],[],[],[],[],[],[],[1],[1,7],[1,7],[1,7]] [[],[],[],[],[],[],[],[],[],[],[]] [0,1,2,3,4,5,6,7,8,9,10]) .ret) .skip))))))) (.kill [] (.seq (.reg [⟨some 4,.P (.mov (.c .nilslice)),none⟩,qi 5 0,qi 6 7]) .ret))))))))) (E [(.tmp 4),(.tmp 5),(.tmp 6)] R .mk) .mk (mat 74 (sArgs 0 args)) m) (hl:Nat.ble args.length 74=true:=by rfl):ACalls Tryz.prog 55 args m R:=walk mix (by kernel_rfl) (Nat.le_of_ble_eq_true hl) h
theorem w93 {args m R} (h:W Tryz.prog (.seq (.reg [⟨some 4,.P (.mov (.c .nilslice)),none⟩,qi 5 0,qi 6 0]) (.kill [0,1] (.seq (.seq (.reg [qv 14 0,qv 15 1,⟨some 16,.A (.bslice 3 1 [(.int .i64 0)] [(0,(1,(.t 15)))]),none⟩,qc 17 19 [(.t 14),(.t 16)],qv 7 17]) (.kill [0,1,7] (.seq (.reg [qv 18 7,qk 19 .neq 18 0]) (.kill [0,1,7,19] (.cond (.t 19) (.seq (.reg [qv 20 7,⟨some 4,.P (.mov (.c .nilslice)),none⟩,qi 5 0,qv 6 20]) .ret) .skip))))) (.kill [0,1] (.seq (.reg [qv 21 0,qv 22 1,qa 23 6 21 22,⟨some 24,.R (.load 6 true (.t 23)),none⟩,⟨some 8,.A (.alloc 40 [(.int .i64 0),(.int .i64 0),.nilslice,.nilslice,(.int .i64 0),(.bool false)]),none⟩,⟨none,.W (.store 6 (.t 8) (.t 24)),none⟩]) (.kill [0,8] (.seq (.seq (.reg [⟨some 25,.P (.faddr 0 (.t 8)),none⟩,ql 26 25,qk 27 .eql 26 13,qv 28 27,⟨some 29,.P (.faddr 2 (.t 8)),(some (28,true))⟩,⟨some 30,.R (.load 1 false (.t 29)),(some (28,true))⟩,⟨some 31,.P (.len (.t 30)),(some (28,true))⟩,⟨some 32,.P (.bin .eql (.t 31) (qz 1)),(some (28,true))⟩,⟨some 33,.P (.pick (.t 28) (.t 32) (.c (.bool false))),none⟩,qv 34 33,⟨some 35,.P (.mov (.t 0)),(some (34,true))⟩,⟨some 36,.P (.faddr 2 (.t 8)),(some (34,true))⟩,⟨some 37,.R (.load 1 false (.t 36)),(some (34,true))⟩,⟨some 38,.P (.iaddr 1 (.t 37) (qz 0)),(some (34,true))⟩,⟨some 39,.R (.load 1 false (.t 38)),(some (34,true))⟩,⟨some 40,.P (.iaddr 6 (.t 35) (.t 39)),(some (34,true))⟩,⟨some 41,.P (.faddr 0 (.t 40)),(some (34,true))⟩,⟨some 42,.R (.load 1 false (.t 41)),(some (34,true))⟩,⟨some 43,.P (.bin .neq (.t 42) (qz 0)),(some (34,true))⟩,⟨some 44,.P (.pick (.t 34) (.t 43) (.c (.bool false))),none⟩,qv 45 44,⟨some 46,.P (.faddr 0 (.t 8)),(some (45,false))⟩,⟨some 47,.R (.load 1 false (.t 46)),(some (45,false))⟩,⟨some 48,.P (.bin .eql (.t 47) (qz 9)),(some (45,false))⟩,⟨some 49,.P (.pick (.t 45) (.c (.bool true)) (.t 48)),none⟩]) (.kill [0,8,49] (.cond (.t 49) (.seq (.reg [qv 50 0,qc 51 131 [(.t 50)],qv 9 51,qi 10 0]) (.kill [8,9] (.seq (.reg [⟨some 52,.P (.faddr 2 (.t 8)),none⟩,ql 53 52,⟨some 54,.P (.iaddr 1 (.t 53) (qz 0)),none⟩,ql 55 54,qv 11 55]) (.kill [8,9,11] (.seq (.seq (.reg [⟨some 56,.P (.faddr 0 (.t 8)),none⟩,ql 57 56,qk 58 .eql 57 9]) (.kill [9,11,58] (.cond (.t 58) (.seq (.reg [qv 60 9,qv 61 11,qc 62 132 [(.t 60),(.t 61)],qv 59 62,qx 63 59 0,qx 64 59 1,qx 65 59 2,qv 9 63,qv 11 64,qv 10 65]) (.kill [9,10,11] (.seq (.reg [qv 66 10,qk 67 .neq 66 0]) (.kill [9,10,11,67] (.cond (.t 67) (.seq (.reg [qv 68 10,⟨some 4,.P (.mov (.c .nilslice)),none⟩,qi 5 0,qv 6 68]) .ret) .skip))))) .skip))) (.kill [9,11] (.seq (.reg [qv 69 9,qc 70 127 [(.t 69)],qv 12 70]) (.kill [9,11,12] (.seq (.reg [qi 13 0]) (.block 0 (.kill [9,11,12,13] (.loop (.fin [9,11,12,13] (.seq (.seq (.reg [qv 71 13,qv 72 9,qn 73 72,qo 74 .lss 71 73]) (.kill [9,11,12,13,74] (.cond (.t 74) .skip (.exit 0)))) (.kill [9,11,12,13] (.seq (.block 1 (.seq (.draw true [qv 77 12,qv 78 13,qa 79 1 77 78,ql 80 79,qv 81 12,qv 82 11,qa 83 1 81 82,ql 84 83,qo 85 .eql 80 84] [[],[],[],[],[],[],[],[],[]] [[],[],[],[],[],[],[],[],[]] [0,1,2,3,4,5,6,7,8]) (.kill [9,11,12,13,85] (.cond (.t 85) (.seq (.reg [qv 86 9,qv 87 13,qv 4 86,qv 5 87,qi 6 0]) .ret) .skip)))) (.kill [9,11,12,13] (.reg [qv 75 13,qk 76 .add 75 1,qv 13 76])))))))))))))))))) .skip))) (.kill [] (.seq (.reg [⟨some 4,.P (.mov (.c .nilslice)),none⟩,qi 5 0,qi 6 7]) .ret))))))))) (E [(.tmp 4),(.tmp 5),(.tmp 6)] R .mk) .mk (mat 88 (sArgs 0 args)) m) (hl:Nat.ble args.length 88=true:=by rfl):ACalls Tryz.prog 93 args m R:=walk mix (by kernel_rfl) (Nat.le_of_ble_eq_true hl) h
abbrev h93_0 (t9 t11 t12 t13:AVal):AFrame:=mat 88 [(9,t9),(11,t11),(12,t12),(13,t13)]
theorem w7 {args m R} (h:W Tryz.prog (.seq (.reg [qb 6 false,qi 7 0]) (.kill [0,1,2] (.seq (.seq (.reg [qv 13 1,qn 14 13,qv 15 2,qn 16 15,qo 17 .neq 14 16]) (.kill [0,1,2,17] (.cond (.t 17) (.seq (.reg [qv 18 0,qc 19 15 [(.t 18),(.c .nilslice)],qb 6 false,qv 7 19]) .ret) .skip))) (.kill [0,1,2] (.seq (.seq (.reg [qv 20 0,qv 21 1,qv 22 2,⟨some 23,.A (.bslice 23 2 [.nilslice] [(0,(1,(.t 21))),(1,(1,(.t 22)))]),none⟩,qc 24 16 [(.t 23)],qc 25 15 [(.t 20),(.t 24)],qv 8 25]) (.kill [0,1,2,8] (.seq (.reg [qv 26 8,qk 27 .neq 26 0]) (.kill [0,1,2,8,27] (.cond (.t 27) (.seq (.reg [qv 28 8,qb 6 false,qv 7 28]) .ret) .skip))))) (.kill [0,1,2] (.seq (.seq (.reg [qv 29 1,qn 30 29,qi 31 0]) (.kill [0,1,2,30,31] (.block 0 (.kill [0,1,2,30,31] (.loop (.fin [0,1,2,30,31] (.seq (.reg [qo 32 .lss 31 30]) (.seq (.cond (.t 32) .skip (.exit 0)) (.kill [0,1,2,30,31] (.seq (.block 1 (.seq (.reg [qv 33 31,qv 9 33]) (.kill [0,1,2,9,30,31] (.seq (.draw false [qv 35 0,qv 36 1,qv 37 9,qa 38 1 36 37,ql 39 38,qv 40 2,qv 41 9,qa 42 1 40 41,ql 43 42,qc 44 17 [(.t 35),(.t 39),(.t 43)],qv 34 44,qx 45 34 0,qx 46 34 1,qx 47 34 2,⟨some 10,.A (.alloc 34 [(.bool false),(.int .i64 0),(.int .i64 0),(.bool false)]),none⟩,⟨none,.W (.store 4 (.t 10) (.t 45)),none⟩,qv 11 46,qv 12 47] [[],[],[],[],[],[],[],[],[],[],[9],[9],[9],[9],[],[9,14],[9,14],[9,14]] [[],[],[],[],[],[],[],[],[],[],[],[],[],[],[],[],[],[]] [0,1,2,3,4,5,6,7,8,9,10,11,12,13,14,15,16,17]) (.kill [0,1,2,11,12,30,31] (.seq (.reg [qv 48 11,⟨some 49,.P (.un .not (.t 48)),none⟩,qv 50 49,⟨some 51,.P (.mov (.t 12)),(some (50,false))⟩,⟨some 52,.P (.bin .neq (.t 51) (qz 0)),(some (50,false))⟩,⟨some 53,.P (.pick (.t 50) (.c (.bool true)) (.t 52)),none⟩]) (.kill [0,1,2,12,30,31,53] (.cond (.t 53) (.seq (.reg [qv 54 12,qb 6 false,qv 7 54]) .ret) .skip)))))))) (.kill [0,1,2,30,31] (.reg [qk 55 .add 31 1,qv 31 55])))))))))))) (.kill [] (.seq (.reg [qb 6 true,qi 7 0]) .ret))))))))) (E [(.tmp 6),(.tmp 7)] R .mk) .mk (mat 56 (sArgs 0 args)) m) (hl:Nat.ble args.length 56=true:=by rfl):ACalls Tryz.prog 7 args m R:=walk mix (by kernel_rfl) (Nat.le_of_ble_eq_true hl) h
abbrev h7_0 (t0 t1 t2 t30 t31:AVal):AFrame:=mat 56 [(0,t0),(1,t1),(2,t2),(30,t30),(31,t31)]
theorem w8 {args m R} (h:W Tryz.prog (.seq (.reg [qb 6 false,qi 7 0]) (.kill [0,1,2] (.seq (.seq (.reg [qv 14 0,qc 15 18 [(.t 14)],qv 8 15]) (.kill [0,1,2,8] (.seq (.reg [qv 16 8,qk 17 .neq 16 0]) (.kill [0,1,2,8,17] (.cond (.t 17) (.seq (.reg [qv 18 8,qb 6 false,qv 7 18]) .ret) .skip))))) (.kill [0,1,2] (.seq (.seq (.reg [qv 19 1,qn 20 19,qv 21 2,qn 22 21,qo 23 .neq 20 22]) (.kill [0,1,2,23] (.cond (.t 23) (.seq (.reg [qb 6 false,qi 7 0]) .ret) .skip))) (.kill [0,1,2] (.seq (.seq (.reg [qv 24 0,⟨some 25,.A (.bslice 3 0 [(.int .i64 0)] []),none⟩,qv 26 1,⟨some 27,.W (.append 1 8 3 false (.t 25) (.t 26)),none⟩,qv 28 2,⟨some 29,.W (.append 1 8 3 false (.t 27) (.t 28)),none⟩,qc 30 19 [(.t 24),(.t 29)],qv 9 30]) (.kill [0,1,2,9] (.seq (.reg [qv 31 9,qk 32 .neq 31 0]) (.kill [0,1,2,9,32] (.cond (.t 32) (.seq (.reg [qv 33 9,qb 6 false,qv 7 33]) .ret) .skip))))) (.kill [0,1,2] (.seq (.seq (.reg [qi 10 0]) (.block 0 (.kill [0,1,2,10] (.loop (.fin [0,1,2,10] (.seq (.seq (.reg [qv 34 10,qv 35 1,qn 36 35,qo 37 .lss 34 36]) (.kill [0,1,2,10,37] (.cond (.t 37) .skip (.exit 0)))) (.kill [0,1,2,10] (.seq (.block 1 (.seq (.draw false [qv 41 0,qv 42 1,qv 43 10,qa 44 1 42 43,ql 45 44,qv 46 2,qv 47 10,qa 48 1 46 47,ql 49 48,qc 50 20 [(.t 41),(.t 45),(.t 49)],qv 40 50,qx 51 40 0,qx 52 40 1,qx 53 40 2,⟨some 11,.A (.alloc 49 [(.bool false),(.int .i64 0),(.int .i64 0),(.bool false)]),none⟩,⟨none,.W (.store 4 (.t 11) (.t 51)),none⟩,qv 12 52,qv 13 53] [[],[],[],[],[],[],[],[],[],[],[9],[9],[9],[9],[],[9,14],[9,14],[9,14]] [[],[],[],[],[],[],[],[],[],[],[],[],[],[],[],[],[],[]] [0,1,2,3,4,5,6,7,8,9,10,11,12,13,14,15,16,17]) (.kill [0,1,2,10,12,13] (.seq (.reg [qv 54 12,⟨some 55,.P (.un .not (.t 54)),none⟩,qv 56 55,⟨some 57,.P (.mov (.t 13)),(some (56,false))⟩,⟨some 58,.P (.bin .neq (.t 57) (qz 0)),(some (56,false))⟩,⟨some 59,.P (.pick (.t 56) (.c (.bool true)) (.t 58)),none⟩]) (.kill [0,1,2,10,13,59] (.cond (.t 59) (.seq (.reg [qv 60 13,qb 6 false,qv 7 60]) .ret) .skip)))))) (.kill [0,1,2,10] (.reg [qv 38 10,qk 39 .add 38 1,qv 10 39])))))))))) (.kill [] (.seq (.reg [qb 6 true,qi 7 0]) .ret))))))))))) (E [(.tmp 6),(.tmp 7)] R .mk) .mk (mat 61 (sArgs 0 args)) m) (hl:Nat.ble args.length 61=true:=by rfl):ACalls Tryz.prog 8 args m R:=walk mix (by kernel_rfl) (Nat.le_of_ble_eq_true hl) h
abbrev h8_0 (t0 t1 t2 t10:AVal):AFrame:=mat 61 [(0,t0),(1,t1),(2,t2),(10,t10)]
theorem w15 {args m R} (h:W Tryz.prog (.seq (.reg [⟨some 2,.A (.box 22 (.t 0)),none⟩,qi 4 0]) (.kill [1,2] (.seq (.seq (.reg [ql 6 2,qc 7 21 [(.t 6)],qv 5 7]) (.kill [1,2,5] (.seq (.reg [qv 8 5,qk 9 .neq 8 0]) (.kill [1,2,5,9] (.cond (.t 9) (.seq (.reg [qv 10 5,qv 4 10]) .ret) .skip))))) (.kill [1,2] (.seq (.seq (.reg [qv 11 1,⟨some 12,.P (.mkfn (.func 28) [] [(.t 2)]),none⟩,qc 13 22 [(.t 11),(.t 12)]]) (.kill [13] (.cond (.t 13) (.seq (.reg [qi 4 11]) .ret) .skip))) (.kill [] (.seq (.reg [qi 4 0]) .ret))))))) (E [(.tmp 4)] R .mk) .mk (mat 14 (sArgs 0 args)) m) (hl:Nat.ble args.length 14=true:=by rfl):ACalls Tryz.prog 15 args m R:=walk mix (by kernel_rfl) (Nat.le_of_ble_eq_true hl) h
theorem w26 {args m R} (h:W Tryz.prog (.seq (.reg [qi 6 0,qb 7 false,qb 8 false,qi 9 0]) (.kill [0,1,2,6] (.seq (.reg [qv 16 1,qv 10 16]) (.kill [0,2,6,10] (.block 0 (.kill [0,2,6,10] (.loop (.fin [0,2,6,10] (.seq (.block 1 (.seq (.reg [qv 20 0,qv 21 10,qv 22 2,qc 23 54 [(.t 20),(.t 21),(.t 22)],qv 19 23,qx 24 19 0,qx 25 19 1,qv 11 24,qv 12 25]) (.kill [0,2,6,10,11,12] (.seq (.seq (.reg [qv 26 11,qv 27 26,⟨some 28,.P (.mov (.t 12)),(some (27,false))⟩,⟨some 29,.P (.pick (.t 27) (.c (.bool true)) (.t 28)),none⟩]) (.kill [0,2,6,10,11,29] (.cond (.t 29) (.seq (.reg [qv 30 6,qv 31 11,⟨some 32,.P (.un .not (.t 31)),none⟩,qv 6 30,qv 7 32,qb 8 true,qi 9 0]) .ret) .skip))) (.kill [0,2,6,10] (.seq (.reg [qv 34 0,qv 35 10,qc 36 55 [(.t 34),(.t 35)],qv 33 36,qx 37 33 0,qx 38 33 1,qx 39 33 2,qv 13 37,qv 14 38,qv 15 39]) (.kill [2,6,13,14,15] (.seq (.seq (.reg [qv 40 15]) (.block 2 (.seq (.reg [qk 43 .eql 40 0,qv 42 43]) (.kill [2,6,13,14,15,40,42] (.cond (.t 42) .skip (.seq (.reg [qk 45 .eql 40 7,qv 44 45]) (.kill [15,44] (.cond (.t 44) (.seq (.reg [qi 6 0,qb 7 false,qb 8 false,qi 9 0]) .ret) (.seq (.reg [qv 41 15,qi 6 0,qb 7 false,qb 8 false,qv 9 41]) .ret))))))))) (.kill [2,6,13,14] (.reg [qv 46 13,qv 47 14,qv 0 46,qv 10 47])))))))))) (.kill [0,2,6,10] (.reg [qv 17 6,qk 18 .add 17 1,qv 6 18]))))))))))) (E [(.tmp 6),(.tmp 7),(.tmp 8),(.tmp 9)] R .mk) .mk (mat 48 (sArgs 0 args)) m) (hl:Nat.ble args.length 48=true:=by rfl):ACalls Tryz.prog 26 args m R:=walk mix (by kernel_rfl) (Nat.le_of_ble_eq_true hl) h
abbrev h26_0 (t0 t2 t6 t10:AVal):AFrame:=mat 48 [(0,t0),(2,t2),(6,t6),(10,t10)]
theorem w91 {args m R} (h:W Tryz.prog (.seq (.reg [qb 6 false,qi 7 0]) (.kill [0,1,2] (.seq (.seq (.reg [qv 10 0,qv 11 1,qv 12 2,⟨some 13,.A (.bslice 3 2 [(.int .i64 0)] [(0,(1,(.t 11))),(1,(1,(.t 12)))]),none⟩,qc 14 124 [(.t 10),(.t 13)],qv 8 14]) (.kill [0,1,2,8] (.seq (.reg [qv 15 8,qk 16 .neq 15 0]) (.kill [0,1,2,8,16] (.cond (.t 16) (.seq (.reg [qv 17 8,qb 6 false,qv 7 17]) .ret) .skip))))) (.kill [0,1,2] (.seq (.seq (.draw true [qv 18 1,qv 19 2,qo 20 .eql 18 19,qv 21 20,⟨some 22,.P (.mov (.t 0)),(some (21,false))⟩,⟨some 23,.P (.mov (.t 1)),(some (21,false))⟩,⟨some 24,.P (.iaddr 6 (.t 22) (.t 23)),(some (21,false))⟩,⟨some 25,.R (.load 6 true (.t 24)),(some (21,false))⟩,⟨some 26,.P (.mov (.t 0)),(some (21,false))⟩,⟨some 27,.P (.mov (.t 2)),(some (21,false))⟩,⟨some 28,.P (.iaddr 6 (.t 26) (.t 27)),(some (21,false))⟩,⟨some 29,.R (.load 6 true (.t 28)),(some (21,false))⟩,⟨some 30,.C (.c (.func (.func 128) [] [])) [(.t 25),(.t 29)],(some (21,false))⟩,⟨some 31,.P (.bin .neq (.t 30) (qz 0)),(some (21,false))⟩,⟨some 32,.P (.pick (.t 21) (.c (.bool true)) (.t 31)),none⟩,qv 33 32,⟨some 34,.P (.mov (.t 0)),(some (33,false))⟩,⟨some 35,.P (.mov (.t 1)),(some (33,false))⟩,⟨some 36,.P (.iaddr 6 (.t 34) (.t 35)),(some (33,false))⟩,⟨some 37,.P (.faddr 2 (.t 36)),(some (33,false))⟩,⟨some 38,.R (.load 1 false (.t 37)),(some (33,false))⟩,⟨some 39,.P (.mov (.t 0)),(some (33,false))⟩,⟨some 40,.P (.mov (.t 2)),(some (33,false))⟩,⟨some 41,.P (.iaddr 6 (.t 39) (.t 40)),(some (33,false))⟩,⟨some 42,.P (.faddr 2 (.t 41)),(some (33,false))⟩,⟨some 43,.R (.load 1 false (.t 42)),(some (33,false))⟩,⟨some 44,.C (.c (.func (.func 129) [] [])) [(.t 38),(.t 43)],(some (33,false))⟩,⟨some 45,.P (.pick (.t 33) (.c (.bool true)) (.t 44)),none⟩] [[],[],[],[],[],[],[],[],[],[],[],[],[],[12],[12],[12],[12],[12],[12],[12],[12],[12],[12],[12],[12],[12],[12],[12,26]] [[],[],[],[],[],[],[],[],[],[],[],[],[],[],[],[],[],[],[],[],[],[],[],[],[],[],[],[]] [0,1,2,3,4,5,6,7,8,9,10,11,12,13,14,15,16,17,18,19,20,21,22,23,24,25,26,27]) (.kill [0,1,2,45] (.cond (.t 45) (.seq (.draw true [qv 46 1,qv 47 2,qo 48 .eql 46 47,qv 49 48,⟨some 50,.P (.mov (.t 0)),(some (49,false))⟩,⟨some 51,.P (.mov (.t 1)),(some (49,false))⟩,⟨some 52,.P (.iaddr 6 (.t 50) (.t 51)),(some (49,false))⟩,⟨some 53,.R (.load 6 true (.t 52)),(some (49,false))⟩,⟨some 54,.P (.mov (.t 0)),(some (49,false))⟩,⟨some 55,.P (.mov (.t 2)),(some (49,false))⟩,⟨some 56,.P (.iaddr 6 (.t 54) (.t 55)),(some (49,false))⟩,⟨some 57,.R (.load 6 true (.t 56)),(some (49,false))⟩,⟨some 58,.C (.c (.func (.func 128) [] [])) [(.t 53),(.t 57)],(some (49,false))⟩,⟨some 59,.P (.bin .eql (.t 58) (qz 0)),(some (49,false))⟩,⟨some 60,.P (.pick (.t 49) (.c (.bool true)) (.t 59)),none⟩,qv 6 60,qi 7 0] [[],[],[],[],[],[],[],[],[],[],[],[],[],[12],[12],[12],[12]] [[],[],[],[],[],[],[],[],[],[],[],[],[],[],[],[],[]] [0,1,2,3,4,5,6,7,8,9,10,11,12,13,14,15,16]) .ret) .skip))) (.kill [0,1,2] (.seq (.reg [qv 61 0,qc 62 127 [(.t 61)],qv 9 62]) (.kill [1,2,9] (.seq (.draw true [qv 63 9,qv 64 1,qa 65 1 63 64,ql 66 65,qv 67 9,qv 68 2,qa 69 1 67 68,ql 70 69,qo 71 .eql 66 70,qv 6 71,qi 7 0] [[],[],[],[],[],[],[],[],[],[],[]] [[],[],[],[],[],[],[],[],[],[],[]] [0,1,2,3,4,5,6,7,8,9,10]) .ret))))))))) (E [(.tmp 6),(.tmp 7)] R .mk) .mk (mat 72 (sArgs 0 args)) m) (hl:Nat.ble args.length 72=true:=by rfl):ACalls Tryz.prog 91 args m R:=walk mix (by kernel_rfl) (Nat.le_of_ble_eq_true hl) h
end Go.Proofs.YtlniliigcnedmaaGreat
namespace Go.Proofs.YtlniliigcnedmaaGreat
open Go Ax
set_option maxRecDepth 100000
theorem w17 {args m R} (h:W Tryz.prog (.seq (.reg [⟨some 6,.A (.alloc 34 [(.bool false),(.int .i64 0),(.int .i64 0),(.bool false)]),none⟩,qb 7 false,qi 8 0]) (.kill [0,1,2,4,6] (.seq (.reg [⟨some 19,.P (.build [(.bool false),(.int .i64 0),(.int .i64 0),(.bool false)] []),none⟩,⟨some 9,.A (.alloc 34 [(.bool false),(.int .i64 0),(.int .i64 0),(.bool false)]),none⟩,⟨none,.W (.store 4 (.t 9) (.t 19)),none⟩,qb 10 false]) (.kill [0,1,2,4,6,9,10] (.seq (.seq (.reg [qv 20 1,qv 21 2,⟨some 22,.P (.build [(.bool false),(.int .i64 0),(.int .i64 0)] [(0,(1,(.c (.bool true)))),(1,(1,(.t 20))),(2,(1,(.t 21)))]),none⟩,qv 23 2,qv 24 1,⟨some 25,.P (.build [(.bool false),(.int .i64 0),(.int .i64 0)] [(0,(1,(.c (.bool false)))),(1,(1,(.t 23))),(2,(1,(.t 24)))]),none⟩,⟨some 26,.A (.bslice 60 2 [(.bool false),(.int .i64 0),(.int .i64 0)] [(0,(3,(.t 22))),(3,(3,(.t 25)))]),none⟩,qn 27 26,qi 28 0]) (.kill [0,4,6,9,10,26,27,28] (.block 0 (.kill [0,4,6,9,10,26,27,28] (.loop (.fin [0,4,6,9,10,26,27,28] (.seq (.reg [qo 29 .lss 28 27]) (.seq (.cond (.t 29) .skip (.exit 0)) (.kill [0,4,6,9,10,26,27,28] (.seq (.block 1 (.seq (.reg [qa 30 3 26 28,⟨some 31,.R (.load 3 true (.t 30)),none⟩,⟨some 12,.A (.alloc 60 [(.bool false),(.int .i64 0),(.int .i64 0)]),none⟩,⟨none,.W (.store 3 (.t 12) (.t 31)),none⟩]) (.kill [0,4,6,9,10,12,26,27,28] (.seq (.reg [qv 32 0,⟨some 33,.P (.faddr 1 (.t 12)),none⟩,ql 34 33,qc 35 30 [(.t 32),(.t 34)],qn 36 35,qi 37 0]) (.kill [0,4,6,9,10,12,26,27,28,35,36,37] (.block 2 (.kill [0,4,6,9,10,12,26,27,28,35,36,37] (.loop (.fin [0,4,6,9,10,12,26,27,28,35,36,37] (.seq (.reg [qo 38 .lss 37 36]) (.seq (.cond (.t 38) .skip (.exit 2)) (.kill [0,4,6,9,10,12,26,27,28,35,36,37] (.seq (.block 3 (.seq (.reg [qa 39 1 35 37,ql 40 39,qv 14 40]) (.kill [0,4,6,9,10,12,14,26,27,28,35,36,37] (.seq (.reg [qv 42 0,qv 43 14,⟨some 44,.P (.faddr 2 (.t 12)),none⟩,ql 45 44,qc 46 26 [(.t 42),(.t 43),(.t 45)],qv 41 46,qx 47 41 0,qx 48 41 1,qx 49 41 2,qx 50 41 3,qv 15 47,qv 16 48,qv 17 49,qv 18 50]) (.kill [0,4,6,9,10,12,14,15,16,17,18,26,27,28,35,36,37] (.seq (.seq (.reg [qv 51 18,qk 52 .neq 51 0]) (.kill [0,4,6,9,10,12,14,15,16,17,18,26,27,28,35,36,37,52] (.cond (.t 52) (.seq (.reg [⟨some 53,.P (.build [(.bool false),(.int .i64 0),(.int .i64 0),(.bool false)] []),none⟩,qv 54 18,⟨none,.W (.store 4 (.t 6) (.t 53)),none⟩,qb 7 false,qv 8 54]) .ret) .skip))) (.kill [0,4,6,9,10,12,14,15,16,17,26,27,28,35,36,37] (.seq (.reg [qv 55 17,qv 56 55,⟨some 57,.P (.mov (.t 10)),(some (56,true))⟩,⟨some 58,.P (.un .not (.t 57)),(some (56,true))⟩,⟨some 59,.P (.mov (.t 58)),(some (56,true))⟩,⟨some 60,.P (.mov (.t 15)),(some (59,false))⟩,⟨some 61,.P (.faddr 2 (.t 9)),(some (59,false))⟩,⟨some 62,.R (.load 1 false (.t 61)),(some (59,false))⟩,⟨some 63,.P (.bin .lss (.t 60) (.t 62)),(some (59,false))⟩,⟨some 64,.P (.pick (.t 59) (.c (.bool true)) (.t 63)),(some (56,true))⟩,⟨some 65,.P (.pick (.t 56) (.t 64) (.c (.bool false))),none⟩]) (.kill [0,4,6,9,10,12,14,15,16,26,27,28,35,36,37,65] (.cond (.t 65) (.reg [⟨some 66,.P (.faddr 0 (.t 12)),none⟩,ql 67 66,qv 68 14,qv 69 15,qv 70 16,⟨some 71,.P (.build [(.bool false),(.int .i64 0),(.int .i64 0),(.bool false)] [(0,(1,(.t 67))),(1,(1,(.t 68))),(2,(1,(.t 69))),(3,(1,(.t 70)))]),none⟩,⟨none,.W (.store 4 (.t 9) (.t 71)),none⟩,qb 10 true]) .skip)))))))))) (.kill [0,4,6,9,10,12,26,27,28,35,36,37] (.reg [qk 72 .add 37 1,qv 37 72]))))))))))))))) (.kill [0,4,6,9,10,26,27,28] (.reg [qk 73 .add 28 1,qv 28 73])))))))))))) (.kill [4,6,9,10] (.seq (.reg [⟨some 74,.R (.load 4 true (.t 9)),none⟩,qv 75 10,⟨none,.W (.store 4 (.t 6) (.t 74)),none⟩,qv 7 75,qi 8 0]) .ret))))))) (E [(.cell 6 4 true),(.tmp 7),(.tmp 8)] R .mk) .mk (mat 76 (sArgs 0 args)) m) (hl:Nat.ble args.length 76=true:=by rfl):ACalls Tryz.prog 17 args m R:=walk mix (by kernel_rfl) (Nat.le_of_ble_eq_true hl) h
abbrev h17_0 (t0 t4 t6 t9 t10 t26 t27 t28:AVal):AFrame:=mat 76 [(0,t0),(4,t4),(6,t6),(9,t9),(10,t10),(26,t26),(27,t27),(28,t28)]
abbrev h17_1 (t0 t4 t6 t9 t10 t12 t26 t27 t28 t35 t36 t37:AVal):AFrame:=mat 76 [(0,t0),(4,t4),(6,t6),(9,t9),(10,t10),(12,t12),(26,t26),(27,t27),(28,t28),(35,t35),(36,t36),(37,t37)]
theorem w34 {args m R} (h:W Tryz.prog (.seq (.reg [⟨some 8,.A (.alloc 49 [(.bool false),(.int .i64 0),(.int .i64 0),(.bool false)]),none⟩,qb 9 false,qi 10 0]) (.kill [0,1,2,3,4,8] (.seq (.reg [qv 18 0,qv 19 1,qc 20 60 [(.t 18),(.t 19)],qv 11 20]) (.kill [0,2,3,4,8,11] (.seq (.reg [⟨some 21,.P (.build [(.bool false),(.int .i64 0),(.int .i64 0),(.bool false)] []),none⟩,⟨some 12,.A (.alloc 49 [(.bool false),(.int .i64 0),(.int .i64 0),(.bool false)]),none⟩,⟨none,.W (.store 4 (.t 12) (.t 21)),none⟩,qb 13 false]) (.kill [0,2,3,4,8,11,12,13] (.seq (.seq (.reg [qi 14 0]) (.block 0 (.kill [0,2,3,4,8,11,12,13,14] (.loop (.fin [0,2,3,4,8,11,12,13,14] (.seq (.seq (.reg [qv 22 14,qv 23 11,qn 24 23,qo 25 .lss 22 24]) (.kill [0,2,3,4,8,11,12,13,14,25] (.cond (.t 25) .skip (.exit 0)))) (.kill [0,2,3,4,8,11,12,13,14] (.seq (.block 1 (.seq (.reg [qv 29 0,qv 30 11,qv 31 14,qa 32 1 30 31,ql 33 32,qv 34 2,qc 35 61 [(.t 29),(.t 33),(.t 34)],qv 28 35,qx 36 28 0,qx 37 28 1,qx 38 28 2,qv 15 36,qv 16 37,qv 17 38]) (.kill [0,2,3,4,8,11,12,13,14,15,16,17] (.seq (.seq (.reg [qv 39 17,qk 40 .neq 39 0]) (.kill [0,2,3,4,8,11,12,13,14,15,16,17,40] (.cond (.t 40) (.seq (.reg [⟨some 41,.P (.build [(.bool false),(.int .i64 0),(.int .i64 0),(.bool false)] []),none⟩,qv 42 17,⟨none,.W (.store 4 (.t 8) (.t 41)),none⟩,qb 9 false,qv 10 42]) .ret) .skip))) (.kill [0,2,3,4,8,11,12,13,14,15,16] (.seq (.reg [qv 43 16,qv 44 43,⟨some 45,.P (.mov (.t 13)),(some (44,true))⟩,⟨some 46,.P (.un .not (.t 45)),(some (44,true))⟩,⟨some 47,.P (.mov (.t 46)),(some (44,true))⟩,⟨some 48,.P (.mov (.t 15)),(some (47,false))⟩,⟨some 49,.P (.faddr 2 (.t 12)),(some (47,false))⟩,⟨some 50,.R (.load 1 false (.t 49)),(some (47,false))⟩,⟨some 51,.P (.bin .lss (.t 48) (.t 50)),(some (47,false))⟩,⟨some 52,.P (.pick (.t 47) (.c (.bool true)) (.t 51)),(some (44,true))⟩,⟨some 53,.P (.pick (.t 44) (.t 52) (.c (.bool false))),none⟩]) (.kill [0,2,3,4,8,11,12,13,14,15,53] (.cond (.t 53) (.draw false [qv 54 3,qv 55 11,qv 56 14,qa 57 1 55 56,ql 58 57,qv 59 15,qv 60 0,qv 61 11,qv 62 14,qa 63 1 61 62,ql 64 63,qv 65 15,qv 66 2,qc 67 62 [(.t 60),(.t 64),(.t 65),(.t 66)],⟨some 68,.P (.build [(.bool false),(.int .i64 0),(.int .i64 0),(.bool false)] [(0,(1,(.t 54))),(1,(1,(.t 58))),(2,(1,(.t 59))),(3,(1,(.t 67)))]),none⟩,⟨none,.W (.store 4 (.t 12) (.t 68)),none⟩,qb 13 true] [[],[],[],[],[],[],[],[],[],[],[],[],[],[],[13],[13],[13]] [[],[],[],[],[],[],[],[],[],[],[],[],[],[],[],[],[]] [0,1,2,3,4,5,6,7,8,9,10,11,12,13,14,15,16]) .skip)))))))) (.kill [0,2,3,4,8,11,12,13,14] (.reg [qv 26 14,qk 27 .add 26 1,qv 14 27])))))))))) (.kill [4,8,12,13] (.seq (.reg [⟨some 69,.R (.load 4 true (.t 12)),none⟩,qv 70 13,⟨none,.W (.store 4 (.t 8) (.t 69)),none⟩,qv 9 70,qi 10 0]) .ret))))))))) (E [(.cell 8 4 true),(.tmp 9),(.tmp 10)] R .mk) .mk (mat 71 (sArgs 0 args)) m) (hl:Nat.ble args.length 71=true:=by rfl):ACalls Tryz.prog 34 args m R:=walk mix (by kernel_rfl) (Nat.le_of_ble_eq_true hl) h
abbrev h34_0 (t0 t2 t3 t4 t8 t11 t12 t13 t14:AVal):AFrame:=mat 71 [(0,t0),(2,t2),(3,t3),(4,t4),(8,t8),(11,t11),(12,t12),(13,t13),(14,t14)]
theorem w23 {args m R} (h:W Tryz.prog (.seq (.reg [qb 3 false]) (.kill [0,1] (.seq (.reg [qv 4 0,qk 5 .lss 4 0,qv 6 5,⟨some 7,.P (.mov (.t 0)),(some (6,false))⟩,⟨some 8,.R (.load 1 false (.t 1)),(some (6,false))⟩,⟨some 9,.P (.len (.t 8)),(some (6,false))⟩,⟨some 10,.P (.bin .geq (.t 7) (.t 9)),(some (6,false))⟩,⟨some 11,.P (.pick (.t 6) (.c (.bool true)) (.t 10)),none⟩,qv 3 11]) .ret))) (E [(.tmp 3)] R .mk) .mk (mat 12 (sArgs 0 args)) m) (hl:Nat.ble args.length 12=true:=by rfl):ACalls Tryz.prog 23 args m R:=walk mix (by kernel_rfl) (Nat.le_of_ble_eq_true hl) h
theorem w85 {args m R} (h:W Tryz.prog (.seq (.reg [⟨some 2,.A (.box 22 (.t 0)),none⟩,⟨some 4,.P (.mov (.c .nilslice)),none⟩,qi 5 0,qi 6 0]) (.kill [1,2] (.seq (.reg [⟨some 11,.W .mkmap,none⟩,⟨some 7,.A (.alloc 129 [.nilmap]),none⟩,⟨none,.W (.store 1 (.t 7) (.t 11)),none⟩]) (.kill [1,2,7] (.seq (.reg [⟨some 8,.A (.alloc 130 [.nilfunc]),none⟩]) (.seq (.reg [⟨some 12,.P (.mkfn (.func 115) [] [(.t 7),(.t 2),(.t 8)]),none⟩,⟨none,.W (.store 1 (.t 8) (.t 12)),none⟩]) (.kill [1,2,8] (.seq (.reg [ql 14 8,qv 15 1,⟨some 16,.C (.t 14) [(.t 15)],none⟩,qv 13 16,qx 17 13 0,qx 18 13 1,qv 9 17,qv 10 18]) (.kill [2,9,10] (.seq (.seq (.reg [qv 19 10,qk 20 .neq 19 0]) (.kill [2,9,10,20] (.cond (.t 20) (.seq (.reg [qv 21 10,⟨some 4,.P (.mov (.c .nilslice)),none⟩,qi 5 0,qv 6 21]) .ret) .skip))) (.kill [2,9] (.seq (.reg [ql 22 2,qv 23 9,qv 4 22,qv 5 23,qi 6 0]) .ret)))))))))))) (E [(.tmp 4),(.tmp 5),(.tmp 6)] R .mk) .mk (mat 24 (sArgs 0 args)) m) (hl:Nat.ble args.length 24=true:=by rfl):ACalls Tryz.prog 85 args m R:=walk mix (by kernel_rfl) (Nat.le_of_ble_eq_true hl) h
theorem w86 {args m R} (h:W Tryz.prog (.seq (.reg [⟨some 2,.P (.mov (.c .nilslice)),none⟩]) (.kill [0] (.seq (.reg [qv 5 0,qc 6 119 [(.t 5)],qv 3 6]) (.kill [3] (.seq (.seq (.reg [qv 7 3,qn 8 7,qi 9 0]) (.kill [3,8,9] (.block 0 (.kill [3,8,9] (.loop (.fin [3,8,9] (.seq (.reg [qo 10 .lss 9 8]) (.seq (.cond (.t 10) .skip (.exit 0)) (.kill [3,8,9] (.seq (.block 1 (.seq (.reg [qv 11 9,qv 4 11]) (.kill [3,4,8,9] (.draw false [qv 12 3,qv 13 4,qv 14 3,qv 15 4,qv 16 3,qv 17 4,qa 18 6 16 17,⟨some 19,.P (.faddr 2 (.t 18)),none⟩,ql 20 19,qc 21 117 [(.t 20)],qv 22 3,qv 23 4,qa 24 6 22 23,⟨some 25,.P (.faddr 3 (.t 24)),none⟩,ql 26 25,qc 27 120 [(.t 26)],qa 28 6 12 13,⟨some 29,.P (.faddr 2 (.t 28)),none⟩,⟨none,.W (.store 1 (.t 29) (.t 21)),none⟩,qa 30 6 14 15,⟨some 31,.P (.faddr 3 (.t 30)),none⟩,⟨none,.W (.store 1 (.t 31) (.t 27)),none⟩] [[],[],[],[],[],[],[],[],[],[],[],[],[],[],[],[9],[9,15],[9,15],[9,15],[9,15],[9,15],[9,15]] [[],[],[],[],[],[],[],[],[],[],[],[],[],[],[],[],[],[],[],[],[],[]] [0,1,2,3,4,5,6,7,8,9,10,11,12,13,14,15,16,17,18,19,20,21])))) (.kill [3,8,9] (.reg [qk 32 .add 9 1,qv 9 32])))))))))))) (.kill [3] (.seq (.reg [qv 33 3,qv 2 33]) .ret))))))) (E [(.tmp 2)] R .mk) .mk (mat 34 (sArgs 0 args)) m) (hl:Nat.ble args.length 34=true:=by rfl):ACalls Tryz.prog 86 args m R:=walk mix (by kernel_rfl) (Nat.le_of_ble_eq_true hl) h
abbrev h86_0 (t3 t8 t9:AVal):AFrame:=mat 34 [(3,t3),(8,t8),(9,t9)]
theorem w87 {args m R} (h:W Tryz.prog (.seq (.reg [qi 4 0]) (.kill [0,1] (.seq (.seq (.reg [qv 8 1,qi 9 0]) (.block 0 (.kill [0,1,8,9] (.loop (.fin [0,1,8,9] (.seq (.reg [qo 10 .lss 9 8]) (.seq (.cond (.t 10) .skip (.exit 0)) (.kill [0,1,8,9] (.seq (.block 1 (.seq (.reg [qv 11 9,qv 5 11]) (.kill [0,1,5,8,9] (.seq (.reg [qv 13 0,qv 14 5,qv 15 1,qc 16 10 [(.t 13),(.t 14),(.t 15)],qv 12 16,qx 17 12 0,qx 18 12 1,qv 6 17,qv 7 18]) (.kill [0,1,5,6,8,9] (.seq (.reg [qv 19 6]) (.kill [0,1,5,8,9,19] (.cond (.t 19) (.seq (.reg [qv 20 5,qv 4 20]) .ret) .skip)))))))) (.kill [0,1,8,9] (.reg [qk 21 .add 9 1,qv 9 21]))))))))))) (.kill [1] (.seq (.reg [qv 22 1,qv 4 22]) .ret))))) (E [(.tmp 4)] R .mk) .mk (mat 23 (sArgs 0 args)) m) (hl:Nat.ble args.length 23=true:=by rfl):ACalls Tryz.prog 87 args m R:=walk mix (by kernel_rfl) (Nat.le_of_ble_eq_true hl) h
abbrev h87_0 (t0 t1 t8 t9:AVal):AFrame:=mat 23 [(0,t0),(1,t1),(8,t8),(9,t9)]
theorem w132 {args m R} (h:W Tryz.prog (.seq (.reg [⟨some 4,.P (.mov (.c .nilslice)),none⟩,qi 5 0,qi 6 0]) (.kill [0,1] (.seq (.reg [qv 7 0,qv 8 0,qn 9 8,⟨some 10,.A (.mkslice 3 8 [(.int .i64 0)] (.t 9) (.t 9)),none⟩,qv 11 1,qc 12 157 [(.t 7),(.t 10),(.t 11)],qx 13 12 0,qx 14 12 1,qx 15 12 2,qv 4 13,qv 5 14,qv 6 15]) .ret))) (E [(.tmp 4),(.tmp 5),(.tmp 6)] R .mk) .mk (mat 16 (sArgs 0 args)) m) (hl:Nat.ble args.length 16=true:=by rfl):ACalls Tryz.prog 132 args m R:=walk mix (by kernel_rfl) (Nat.le_of_ble_eq_true hl) h
theorem w30 {args m R} (h:W Tryz.prog (.seq (.reg [⟨some 4,.P (.mov (.c .nilslice)),none⟩]) (.kill [0,1] (.seq (.seq (.reg [qv 7 0,qv 8 1,qa 9 6 7 8,⟨some 10,.P (.faddr 0 (.t 9)),none⟩,ql 11 10,qk 12 .eql 11 12]) (.kill [0,1,12] (.cond (.t 12) (.seq (.reg [qv 14 0,qv 15 1,qc 16 56 [(.t 14),(.t 15)],qv 13 16,qx 17 13 0,qx 18 13 1,qv 5 17,qv 6 18]) (.kill [5] (.seq (.reg [qv 19 5,qv 4 19]) .ret))) .skip))) (.kill [1] (.seq (.reg [qv 20 1,⟨some 21,.A (.bslice 3 1 [(.int .i64 0)] [(0,(1,(.t 20)))]),none⟩,qv 4 21]) .ret))))) (E [(.tmp 4)] R .mk) .mk (mat 22 (sArgs 0 args)) m) (hl:Nat.ble args.length 22=true:=by rfl):ACalls Tryz.prog 30 args m R:=walk mix (by kernel_rfl) (Nat.le_of_ble_eq_true hl) h
theorem w16 {args m R} (h:W Tryz.prog (.seq (.reg [⟨some 2,.P (.mov (.c .nilslice)),none⟩]) (.kill [0] (.seq (.reg [qi 3 0]) (.seq (.seq (.reg [qv 9 0,qn 10 9,qi 11 0]) (.block 0 (.kill [0,3,9,10,11] (.loop (.fin [0,3,9,10,11] (.seq (.reg [qo 12 .lss 11 10]) (.seq (.cond (.t 12) .skip (.exit 0)) (.kill [0,3,9,10,11] (.seq (.block 1 (.seq (.reg [qa 13 1 9 11,ql 14 13,qv 5 14]) (.kill [0,3,5,9,10,11] (.seq (.reg [qv 15 3,qv 16 5,qn 17 16,qo 18 .add 15 17,qv 3 18]) (.kill [0,3,9,10,11] (.seq (.reg [qv 19 3,qk 20 .lss 19 0]) (.kill [0,3,9,10,11,20] (.cond (.t 20) .bad .skip)))))))) (.kill [0,3,9,10,11] (.reg [qk 22 .add 11 1,qv 11 22]))))))))))) (.kill [0,3] (.seq (.reg [qv 23 3,qc 24 29 [(.c .nilslice),(.t 23)],qv 6 24]) (.kill [0,6] (.seq (.seq (.reg [qv 25 0,qn 26 25,qi 27 0]) (.kill [6,25,26,27] (.block 2 (.kill [6,25,26,27] (.loop (.fin [6,25,26,27] (.seq (.reg [qo 28 .lss 27 26]) (.seq (.cond (.t 28) .skip (.exit 2)) (.kill [6,25,26,27] (.seq (.block 3 (.seq (.reg [qa 29 1 25 27,ql 30 29,qv 8 30]) (.kill [6,8,25,26,27] (.reg [qv 31 6,qv 32 8,⟨some 33,.W (.append 1 8 3 false (.t 31) (.t 32)),none⟩,qv 6 33])))) (.kill [6,25,26,27] (.reg [qk 34 .add 27 1,qv 27 34])))))))))))) (.kill [6] (.seq (.reg [qv 35 6,qv 2 35]) .ret)))))))))) (E [(.tmp 2)] R .mk) .mk (mat 36 (sArgs 0 args)) m) (hl:Nat.ble args.length 36=true:=by rfl):ACalls Tryz.prog 16 args m R:=walk mix (by kernel_rfl) (Nat.le_of_ble_eq_true hl) h
abbrev h16_0 (t0 t3 t9 t10 t11:AVal):AFrame:=mat 36 [(0,t0),(3,t3),(9,t9),(10,t10),(11,t11)]
abbrev h16_1 (t6 t25 t26 t27:AVal):AFrame:=mat 36 [(6,t6),(25,t25),(26,t26),(27,t27)]
theorem w28 {args m R} (h:W Tryz.prog (.seq (.reg [qb 3 false]) (.kill [0,1] (.seq (.reg [qv 4 0,qk 5 .lss 4 0,qv 6 5,⟨some 7,.P (.mov (.t 0)),(some (6,false))⟩,⟨some 8,.R (.load 1 false (.t 1)),(some (6,false))⟩,⟨some 9,.P (.len (.t 8)),(some (6,false))⟩,⟨some 10,.P (.bin .geq (.t 7) (.t 9)),(some (6,false))⟩,⟨some 11,.P (.pick (.t 6) (.c (.bool true)) (.t 10)),none⟩,qv 3 11]) .ret))) (E [(.tmp 3)] R .mk) .mk (mat 12 (sArgs 0 args)) m) (hl:Nat.ble args.length 12=true:=by rfl):ACalls Tryz.prog 28 args m R:=walk mix (by kernel_rfl) (Nat.le_of_ble_eq_true hl) h
theorem w54 {args m R} (h:W Tryz.prog (.seq (.reg [qb 6 false,qb 7 false]) (.kill [0,1,2] (.seq (.reg [qv 9 0,qv 10 1,qv 11 2,qc 12 10 [(.t 9),(.t 10),(.t 11)],qv 8 12,qx 13 8 0,qx 14 8 1,qv 6 13]) (.kill [0,1,2,6] (.seq (.reg [qv 16 0,qv 17 1,qv 18 2,qc 19 84 [(.t 16),(.t 17),(.t 18)],qv 15 19,qx 20 15 0,qx 21 15 1,qv 7 20]) (.kill [6,7] (.seq (.reg [qv 22 6,qv 23 7,qv 6 22,qv 7 23]) .ret))))))) (E [(.tmp 6),(.tmp 7)] R .mk) .mk (mat 24 (sArgs 0 args)) m) (hl:Nat.ble args.length 24=true:=by rfl):ACalls Tryz.prog 54 args m R:=walk mix (by kernel_rfl) (Nat.le_of_ble_eq_true hl) h
theorem w62 {args m R} (h:W Tryz.prog (.seq (.reg [qb 8 false]) (.kill [0,1,2,3] (.seq (.reg [qv 13 1,qv 9 13]) (.kill [0,2,3,9] (.seq (.seq (.reg [qi 10 0]) (.block 0 (.kill [0,2,3,9,10] (.loop (.fin [0,2,3,9,10] (.seq (.seq (.reg [qv 14 10,qv 15 2,qo 16 .lss 14 15]) (.kill [0,2,3,9,10,16] (.cond (.t 16) .skip (.exit 0)))) (.kill [0,2,3,9,10] (.seq (.block 1 (.reg [qv 20 0,qv 21 9,qc 22 93 [(.t 20),(.t 21)],qv 19 22,qx 23 19 0,qx 24 19 1,qx 25 19 2,qv 0 23,qv 9 24])) (.kill [0,2,3,9,10] (.reg [qv 17 10,qk 18 .add 17 1,qv 10 18])))))))))) (.kill [0,3,9] (.seq (.reg [qv 27 0,qv 28 9,qv 29 3,qc 30 91 [(.t 27),(.t 28),(.t 29)],qv 26 30,qx 31 26 0,qx 32 26 1,qv 11 31,qv 12 32]) (.kill [11] (.seq (.reg [qv 33 11,⟨some 34,.P (.un .not (.t 33)),none⟩,qv 8 34]) .ret))))))))) (E [(.tmp 8)] R .mk) .mk (mat 35 (sArgs 0 args)) m) (hl:Nat.ble args.length 35=true:=by rfl):ACalls Tryz.prog 62 args m R:=walk mix (by kernel_rfl) (Nat.le_of_ble_eq_true hl) h
abbrev h62_0 (t0 t2 t3 t9 t10:AVal):AFrame:=mat 35 [(0,t0),(2,t2),(3,t3),(9,t9),(10,t10)]
theorem w115 {args m R} (h:W Tryz.prog (.seq (.reg [qi 5 0,qi 6 0]) (.kill [0,1,2,3] (.seq (.seq (.reg [ql 18 1,qv 19 0,⟨some 20,.R (.lookup (.int .i64 0) true (.t 18) (.t 19)),none⟩,qv 17 20,qx 21 17 0,qx 22 17 1,qv 7 21,qv 8 22]) (.kill [0,1,2,3,7,8] (.seq (.reg [qv 23 8,qv 24 23,⟨some 25,.R (.load 1 false (.t 2)),(some (24,false))⟩,⟨some 26,.P (.mov (.t 0)),(some (24,false))⟩,⟨some 27,.C (.c (.func (.func 116) [] [])) [(.t 25),(.t 26)],(some (24,false))⟩,⟨some 28,.P (.un .not (.t 27)),(some (24,false))⟩,⟨some 29,.P (.pick (.t 24) (.c (.bool true)) (.t 28)),none⟩]) (.kill [0,1,2,3,7,8,29] (.cond (.t 29) (.seq (.seq (.reg [qv 30 8,⟨some 31,.P (.un .not (.t 30)),none⟩]) (.kill [0,7,31] (.cond (.t 31) (.reg [qv 32 0,qv 7 32]) .skip))) (.kill [7] (.seq (.reg [qv 33 7,qv 5 33,qi 6 0]) .ret))) .skip))))) (.kill [0,1,2,3] (.seq (.reg [ql 34 2,qv 35 0,qa 36 6 34 35,⟨some 37,.R (.load 6 true (.t 36)),none⟩,⟨some 9,.A (.alloc 40 [(.int .i64 0),(.int .i64 0),.nilslice,.nilslice,(.int .i64 0),(.bool false)]),none⟩,⟨none,.W (.store 6 (.t 9) (.t 37)),none⟩]) (.kill [0,1,2,3,9] (.seq (.reg [⟨some 38,.P (.faddr 5 (.t 9)),none⟩,⟨none,.W (.store 1 (.t 38) (.c (.bool false))),none⟩]) (.kill [0,1,2,3,9] (.seq (.reg [⟨some 39,.P (.faddr 2 (.t 9)),none⟩,ql 40 39,qc 41 117 [(.t 40)],⟨some 42,.P (.faddr 2 (.t 9)),none⟩,⟨none,.W (.store 1 (.t 42) (.t 41)),none⟩]) (.kill [0,1,2,3,9] (.seq (.seq (.reg [⟨some 43,.P (.faddr 2 (.t 9)),none⟩,ql 44 43,qn 45 44,qi 46 0]) (.kill [0,1,2,3,9,44,45,46] (.block 0 (.kill [0,1,2,3,9,44,45,46] (.loop (.fin [0,1,2,3,9,44,45,46] (.seq (.reg [qo 47 .lss 46 45]) (.seq (.cond (.t 47) .skip (.exit 0)) (.kill [0,1,2,3,9,44,45,46] (.seq (.block 1 (.seq (.reg [qv 48 46,qa 49 1 44 46,ql 50 49,qv 10 48,qv 11 50]) (.kill [0,1,2,3,9,10,11,44,45,46] (.seq (.reg [ql 52 3,qv 53 11,⟨some 54,.C (.t 52) [(.t 53)],none⟩,qv 51 54,qx 55 51 0,qx 56 51 1,qv 12 55,qv 13 56]) (.kill [0,1,2,3,9,10,12,13,44,45,46] (.seq (.seq (.reg [qv 57 13,qk 58 .neq 57 0]) (.kill [0,1,2,3,9,10,12,13,44,45,46,58] (.cond (.t 58) (.seq (.reg [qv 59 13,qi 5 0,qv 6 59]) .ret) .skip))) (.kill [0,1,2,3,9,10,12,44,45,46] (.reg [⟨some 60,.P (.faddr 2 (.t 9)),none⟩,ql 61 60,qv 62 10,qv 63 12,qa 64 1 61 62,⟨none,.W (.store 1 (.t 64) (.t 63)),none⟩])))))))) (.kill [0,1,2,3,9,44,45,46] (.reg [qk 65 .add 46 1,qv 46 65])))))))))))) (.kill [0,1,2,9] (.seq (.reg [ql 67 2,⟨some 68,.R (.load 6 true (.t 9)),none⟩,qc 69 118 [(.t 67),(.t 68)],qv 66 69,qx 70 66 0,qx 71 66 1,qx 72 66 2,qv 14 70,qv 15 71,qv 16 72]) (.kill [0,1,2,14,15,16] (.seq (.seq (.reg [qv 73 16,qk 74 .neq 73 0]) (.kill [0,1,2,14,15,16,74] (.cond (.t 74) (.seq (.reg [qv 75 16,qi 5 0,qv 6 75]) .ret) .skip))) (.kill [0,1,2,14,15] (.seq (.draw true [ql 76 1,qv 77 0,qv 78 14,qv 79 15,⟨none,.W (.store 1 (.t 2) (.t 78)),none⟩,⟨none,.W (.mapset (.t 76) (.t 77) (.t 79)),none⟩] [[],[],[],[],[],[]] [[],[],[],[],[0],[]] [0,1,2,3,4,5]) (.kill [15] (.seq (.reg [qv 80 15,qv 5 80,qi 6 0]) .ret))))))))))))))))))) (E [(.tmp 5),(.tmp 6)] R .mk) .mk (mat 81 (sArgs 0 args)) m) (hl:Nat.ble args.length 81=true:=by rfl):ACalls Tryz.prog 115 args m R:=walk mix (by kernel_rfl) (Nat.le_of_ble_eq_true hl) h
abbrev h115_0 (t0 t1 t2 t3 t9 t44 t45 t46:AVal):AFrame:=mat 81 [(0,t0),(1,t1),(2,t2),(3,t3),(9,t9),(44,t44),(45,t45),(46,t46)]
theorem w157 {args m R} (h:W Tryz.prog (.seq (.reg [⟨some 6,.P (.mov (.c .nilslice)),none⟩,qi 7 0,qi 8 0]) (.kill [0,1,2] (.seq (.seq (.reg [qv 16 1,qv 17 2,qa 18 1 16 17,ql 19 18,qk 20 .gtr 19 0]) (.kill [0,1,2,20] (.cond (.t 20) (.seq (.draw true [qv 21 0,qv 22 1,qv 23 2,qa 24 1 22 23,ql 25 24,qk 26 .sub 25 1,qv 6 21,qv 7 26,qi 8 0] [[],[],[],[],[],[],[],[],[]] [[],[],[],[],[],[],[],[],[]] [0,1,2,3,4,5,6,7,8]) .ret) .skip))) (.kill [0,1,2] (.seq (.seq (.reg [qv 27 0,qv 28 2,qc 29 169 [(.t 27),(.t 28)],⟨some 30,.P (.un .not (.t 29)),none⟩]) (.kill [0,1,2,30] (.cond (.t 30) (.seq (.reg [qv 31 1,qv 32 2,qv 33 2,qk 34 .add 33 1,qa 35 1 31 32,⟨none,.W (.store 1 (.t 35) (.t 34)),none⟩]) (.kill [0,2] (.seq (.reg [qv 36 0,qv 37 2,qv 6 36,qv 7 37,qi 8 0]) .ret))) .skip))) (.kill [0,1,2] (.seq (.reg [qv 38 0,qv 39 2,qa 40 6 38 39,⟨some 41,.R (.load 6 true (.t 40)),none⟩,qc 42 156 [(.t 41)],⟨some 9,.A (.alloc 40 [(.int .i64 0),(.int .i64 0),.nilslice,.nilslice,(.int .i64 0),(.bool false)]),none⟩,⟨none,.W (.store 6 (.t 9) (.t 42)),none⟩]) (.kill [0,1,2,9] (.seq (.reg [⟨some 43,.P (.faddr 5 (.t 9)),none⟩,⟨none,.W (.store 1 (.t 43) (.c (.bool false))),none⟩]) (.kill [0,1,2,9] (.seq (.seq (.reg [qi 10 0]) (.block 0 (.kill [0,1,2,9,10] (.loop (.fin [0,1,2,9,10] (.seq (.seq (.reg [qv 44 10,⟨some 45,.P (.faddr 2 (.t 9)),none⟩,ql 46 45,qn 47 46,qo 48 .lss 44 47]) (.kill [0,1,2,9,10,48] (.cond (.t 48) .skip (.exit 0)))) (.kill [0,1,2,9,10] (.seq (.block 1 (.seq (.reg [qv 52 0,qv 53 1,⟨some 54,.P (.faddr 2 (.t 9)),none⟩,ql 55 54,qv 56 10,qa 57 1 55 56,ql 58 57,qc 59 157 [(.t 52),(.t 53),(.t 58)],qv 51 59,qx 60 51 0,qx 61 51 1,qx 62 51 2,qv 11 60,qv 12 61,qv 13 62]) (.kill [1,2,9,10,11,12,13] (.seq (.seq (.reg [qv 63 13,qk 64 .neq 63 0]) (.kill [1,2,9,10,11,12,13,64] (.cond (.t 64) (.seq (.reg [qv 65 13,⟨some 6,.P (.mov (.c .nilslice)),none⟩,qi 7 0,qv 8 65]) .ret) .skip))) (.kill [1,2,9,10,11,12] (.draw true [⟨some 66,.P (.faddr 2 (.t 9)),none⟩,ql 67 66,qv 68 10,qv 69 11,qv 70 12,qv 0 69,qa 71 1 67 68,⟨none,.W (.store 1 (.t 71) (.t 70)),none⟩] [[],[],[],[],[],[],[],[]] [[],[],[],[],[],[],[],[]] [0,1,2,3,4,5,6,7])))))) (.kill [0,1,2,9,10] (.reg [qv 49 10,qk 50 .add 49 1,qv 10 50])))))))))) (.kill [0,1,2,9] (.seq (.reg [qv 73 0,⟨some 74,.R (.load 6 true (.t 9)),none⟩,qc 75 170 [(.t 73),(.t 74)],qv 72 75,qx 76 72 0,qx 77 72 1,qx 78 72 2,qv 0 76,qv 14 77,qv 15 78]) (.kill [0,1,2,14,15] (.seq (.reg [qv 79 1,qv 80 2,qv 81 14,qk 82 .add 81 1,qa 83 1 79 80,⟨none,.W (.store 1 (.t 83) (.t 82)),none⟩]) (.kill [0,14,15] (.seq (.reg [qv 84 0,qv 85 14,qv 86 15,qv 6 84,qv 7 85,qv 8 86]) .ret))))))))))))))))) (E [(.tmp 6),(.tmp 7),(.tmp 8)] R .mk) .mk (mat 87 (sArgs 0 args)) m) (hl:Nat.ble args.length 87=true:=by rfl):ACalls Tryz.prog 157 args m R:=walk mix (by kernel_rfl) (Nat.le_of_ble_eq_true hl) h
abbrev h157_0 (t0 t1 t2 t9 t10:AVal):AFrame:=mat 87 [(0,t0),(1,t1),(2,t2),(9,t9),(10,t10)]
end Go.Proofs.YtlniliigcnedmaaGreat
namespace Go.Proofs.YtlniliigcnedmaaGreat
open Go Ax
set_option maxRecDepth 100000
theorem k28 (s:AVal) (l:List Md) (i:Int) (b:Nat) (m:AMem) (hs:RTab m s l) (hb:readB m b=some [s]):ACalls Tryz.prog 28 [.int .i64 i,.ptr b 0] m fun v m'=>v= .bool (outB l.length i)∧m'=m:=by
 refine w28 ?_
 by_cases h1:i<0
 ·simp[h1,outB]
 ·by_cases h2:(l.length:Int)≤i
  ·simp[h1,h2,bx hb,hs.len,outB]
  ·simp[h1,h2,bx hb,hs.len,outB]
   omega
theorem k23 (s:AVal) (l:List Md) (i:Int) (b:Nat) (m:AMem) (hs:RTab m s l) (hb:readB m b=some [s]):ACalls Tryz.prog 23 [.int .i64 i,.ptr b 0] m fun v m'=>v= .bool (outB l.length i)∧m'=m:=by
 refine w23 ?_
 by_cases h1:i<0
 ·simp[h1,outB]
 ·by_cases h2:(l.length:Int)≤i
  ·simp[h1,h2,bx hb,hs.len,outB]
  ·simp[h1,h2,bx hb,hs.len,outB]
   omega
theorem k15 (s t:AVal) (l:List Md) (ms:List Int) (m:AMem) (hs:RTab m s l) (ht:RInts m t ms) (hsz: ∀x∈l,smallN x) (hl:l.length<2^62) (hm:ms.length<2^62):ACalls Tryz.prog 15 [s,t] m fun v m'=>v= .int .i64 (rightI l ms)∧m<+:m':=by
 refine w15 ?_
 obtain ⟨hsl,hsc⟩:=hs.self
 simp[hsl,hsc]
 have hb0:=readB_new m [s] 22 none
 have hm1:m<+:m++ [.own [s] 22 none]:=List.prefix_append _ _
 generalize m++ [.own [s] 22 none]=m1 at*
 generalize m.length=b1 at*
 refine C_of (k21 s l m1 (hs.mono hm1) hsz hl) ?_
 rintro _ m2 ⟨rfl,hm2⟩
 simp
 generalize hE:rightI l ms=E
 unfold rightI at hE
 refine bbind_intro (fun h=>?_) fun h=>?_
 ·have h:checkI l≠0:=by simpa using h
  rw[if_pos h] at hE
  simp[hE,hm1.trans hm2]
 have h:checkI l=0:=by simpa using h
 rw[if_neg (by simp[h])] at hE
 simp
 refine C_of (k22 t ms (outB l.length) m2 (ht.mono (hm1.trans hm2)) hm 28 [] [.ptr b1 0] ?_) ?_
 ·intro x _ m' hm'
  refine (k28 s l x b1 m' (hs.mono ((hm1.trans hm2).trans hm')) (readB_mono (hm2.trans hm') hb0)).mono ?_
  rintro _ _ ⟨rfl,rfl⟩
  exact ⟨rfl,List.prefix_refl _⟩
 rintro _ m3 ⟨rfl,hm3⟩
 simp
 refine bbind_intro (fun h=>?_) fun h=>?_
 ·rw[if_pos h] at hE
  simp[hE,(hm1.trans hm2).trans hm3]
 ·rw[if_neg (by rw[h];simp)] at hE
  simp[←hE,(hm1.trans hm2).trans hm3]
theorem k9 (s t:AVal) (l:List Md) (ms:List Int) (m:AMem) (hs:RTab m s l) (ht:RInts m t ms) (hsz: ∀x∈l,smallN x) (hl:l.length<2^62) (hm:ms.length<2^62):ACalls Tryz.prog 9 [s,t] m fun v m'=>v= .bool (decide (rightI l ms=0))∧m<+:m':=by
 refine w9 ?_
 obtain ⟨hsl,hsc⟩:=hs.self
 simp[hsl,hsc]
 have hb0:=readB_new m [s] 22 none
 have hm1:m<+:m++ [.own [s] 22 none]:=List.prefix_append _ _
 generalize m++ [.own [s] 22 none]=m1 at*
 generalize m.length=b1 at*
 refine C_of (k21 s l m1 (hs.mono hm1) hsz hl) ?_
 rintro _ m2 ⟨rfl,hm2⟩
 by_cases h:checkI l=0
 ·simp[h]
  refine C_of (k22 t ms (outB l.length) m2 (ht.mono (hm1.trans hm2)) hm 23 [] [.ptr b1 0] ?_) ?_
  ·intro x _ m' hm'
   refine (k23 s l x b1 m' (hs.mono ((hm1.trans hm2).trans hm')) (readB_mono (hm2.trans hm') hb0)).mono ?_
   rintro _ _ ⟨rfl,rfl⟩
   exact ⟨rfl,List.prefix_refl _⟩
  rintro _ m3 ⟨rfl,hm3⟩
  simp[(hm1.trans hm2).trans hm3]
  unfold rightI
  rw[if_neg (by simp[h])]
  cases ms.any (outB l.length)<;>simp
 ·have hr:rightI l ms≠0:=by unfold rightI;rw[if_pos h];exact h
  simp[beqF h,hr,hm1.trans hm2]
end Go.Proofs.YtlniliigcnedmaaGreat
namespace Go.Proofs.YtlniliigcnedmaaGreat
open Go Ax
set_option maxRecDepth 100000
theorem agg_store {m:AMem} {b n:Nat} {z cs:List AVal} {ty:TypeId} {g:Option Nat} (h:m[b]? =some (.own z ty g)) (h1:cs.length=n) (h2:z.length=n) (h3:cs.all AVal.one=true): ∃m',storeE m n (.ptr b 0) (.agg cs)=some (.undef,m')∧m'[b]? =some (.own cs ty g)∧Ch (fun c=>c=b) m m':=by
 refine ⟨m.set b (.own cs ty g),?_,List.getElem?_set_self (List.getElem?_eq_some_iff.1 h).1,Ch.setS _ rfl⟩
 have hs:setN z 0 cs=cs:=by
  apply List.ext_getElem?
  intro i
  rw[setN_get _ _ _ _ (by omega)]
  by_cases hi:i<cs.length
  ·rw[if_pos (by omega)];simp
  ·rw[if_neg (by omega),List.getElem?_eq_none (by omega),List.getElem?_eq_none (by omega)]
 simp only[storeE,AVal.cells,h1,writeB,h]
 simp[h3,hs,h1,h2]
def OwM (lo:Nat) (m:AMem) (c:List AVal) (x:Md):Prop:= ∃e nm,c= [.int .i64 x.kind,.int .i64 x.size,e,nm,.int .i64 x.dims,.bool x.flex]∧OwL (AVal.int .i64) lo m 3 e x.elems∧OwL AVal.str lo m 9 nm x.names
theorem OwM.mode {lo:Nat} {m:AMem} {c:List AVal} {x:Md} (h:OwM lo m c x):RMode m c x:=by
 obtain ⟨e,nm,rfl,h1,h2⟩:=h
 exact ⟨e,nm,rfl,h1.ints,Ow.sl h2⟩
theorem OwM.mono {lo:Nat} {m m':AMem} {c:List AVal} {x:Md} (h:OwM lo m c x) (hm:m<+:m'):OwM lo m' c x:=by
 obtain ⟨e,nm,rfl,h1,h2⟩:=h
 exact ⟨e,nm,rfl,h1.mono hm,h2.mono hm⟩
theorem OwM.lo {lo lo':Nat} {m:AMem} {c:List AVal} {x:Md} (h:OwM lo m c x) (hl:lo'≤lo):OwM lo' m c x:=by
 obtain ⟨e,nm,rfl,h1,h2⟩:=h
 exact ⟨e,nm,rfl,h1.lo' hl,h2.lo' hl⟩
theorem OwM.ch {S:Nat→Prop} {lo:Nat} {m m':AMem} {c:List AVal} {x:Md} (h:OwM lo m c x) (hc:Ch S m m') (hs: ∀b,S b→b<lo):OwM lo m' c x:=by
 obtain ⟨e,nm,rfl,h1,h2⟩:=h
 exact ⟨e,nm,rfl,h1.ch hc fun b hb hS=>by have:=(h1.blk_lo hb).1;have:=hs b hS;omega,h2.ch hc fun b hb hS=>by have:=(h2.blk_lo hb).1;have:=hs b hS;omega⟩
theorem cellsInts {m:AMem} {s:AVal} {xs:List Int} (h:RInts m s xs):sliceCells m 1 s=some (xs.length,xs.map fun x=> .int .i64 x):=Sl.cells h
theorem cellsStrs {m:AMem} {s:AVal} {xs:List ByteArray} (h:RStrs m s xs):sliceCells m 1 s=some (xs.length,xs.map fun x=> .str x):=Sl.cells h
set_option maxHeartbeats 2000000 in
theorem k156 (c:List AVal) (x:Md) (m:AMem) (hx:RMode m c x) (hsz:x.elems.length<2^40∧x.names.length<2^40):
  ACalls Tryz.prog 156 [.agg c] m fun v m'=>m<+:m'∧ ∃c',v= .agg c'∧OwM m.length m' c' x:=by
 obtain ⟨e,nm,rfl,he,hnm⟩:=hx
 refine w156 ?_
 have h1:=Sl.one he
 have h2:=Sl.one hnm
 simp[h1,h2]
 have hbA:(m++ [ABlk.own [.int .i64 x.kind,.int .i64 x.size,e,nm,.int .i64 x.dims,.bool x.flex] 40 none,ABlk.own [.int .i64 0,.int .i64 0,.nilslice,.nilslice,.int .i64 0,.bool false] 40 none])[m.length]? =some (ABlk.own [.int .i64 x.kind,.int .i64 x.size,e,nm,.int .i64 x.dims,.bool x.flex] 40 none):=by simp
 have hbB:(m++ [ABlk.own [.int .i64 x.kind,.int .i64 x.size,e,nm,.int .i64 x.dims,.bool x.flex] 40 none,ABlk.own [.int .i64 0,.int .i64 0,.nilslice,.nilslice,.int .i64 0,.bool false] 40 none])[m.length+1]? =some (ABlk.own [.int .i64 0,.int .i64 0,.nilslice,.nilslice,.int .i64 0,.bool false] 40 none):=by rw[List.getElem?_append_right (by omega)];simp
 have hm01:m<+:m++ [ABlk.own [.int .i64 x.kind,.int .i64 x.size,e,nm,.int .i64 x.dims,.bool x.flex] 40 none,ABlk.own [.int .i64 0,.int .i64 0,.nilslice,.nilslice,.int .i64 0,.bool false] 40 none]:=List.prefix_append _ _
 have hl:(m++ [ABlk.own [.int .i64 x.kind,.int .i64 x.size,e,nm,.int .i64 x.dims,.bool x.flex] 40 none,ABlk.own [.int .i64 0,.int .i64 0,.nilslice,.nilslice,.int .i64 0,.bool false] 40 none]).length=m.length+2:=by simp
 generalize m++ [ABlk.own [.int .i64 x.kind,.int .i64 x.size,e,nm,.int .i64 x.dims,.bool x.flex] 40 none,ABlk.own [.int .i64 0,.int .i64 0,.nilslice,.nilslice,.int .i64 0,.bool false] 40 none]=m1 at*
 -- the numbers
 have hN:=OwL.new (f:=AVal.int .i64) m1 3 []
 have hm12:m1<+:m1++ [.own ([].map (AVal.int .i64)) 3 none]:=List.prefix_append _ _
 simp[fillA] at hN ⊢
 replace hm12:m1<+:m1++ [.own [] 3 none]:=hm12
 have hl2:=hm12.length_le
 generalize m1++ [.own [] 3 none]=m2 at*
 have hr2:=bx (own_read (own_mono hbA hm12)) 2
 simp at hr2
 obtain ⟨t1,m3,happ,hch3,hO,hbl⟩:=hN.append (by omega) (by_:=8) (by decide) x.elems (by simp;omega)
 have hm03:m<+:m3:=hch3.pre (hm01.trans hm12) fun b hb h=>by simp[AVal.blk] at h;omega
 have hbA3:=own_ch (own_mono hbA hm12) hch3 fun h=>by simp[AVal.blk] at h;omega
 have hbB3:=own_ch (own_mono hbB hm12) hch3 fun h=>by simp[AVal.blk] at h;omega
 have hO1:OwL (AVal.int .i64) m1.length m3 3 t1 x.elems:=by simpa using hO
 have ts:=(Ow.sl hO1).self
 obtain ⟨m4,hst4,hbA4,hch4⟩:=fld_store (i:=2) hbA3 (by simp) ts.2 ts.1
 simp[hr2,cellsInts (he.mono (hm01.trans hm12)),happ,hst4]
 have hm04:m<+:m4:=hch4.pre hm03 fun b hb h=>by omega
 have hbB4:=own_ch hbB3 hch4 fun h=>by omega
 have hO4:=hO1.ch hch4 fun b hb h=>by have:=(hO1.blk_lo hb).1;omega
 have hl34:m3.length≤m4.length:=hch4.len
 have hl23:m2.length≤m3.length:=hch3.len
 simp at hbA4
 clear hst4 happ hN hr2 hch3 hch4 hO hO1 hbA3 hbB3
 -- the texts
 have hN:=OwL.new (f:=AVal.str) m4 9 []
 have hm45:m4<+:m4++ [.own ([].map AVal.str) 9 none]:=List.prefix_append _ _
 simp[fillA] at hN ⊢
 replace hm45:m4<+:m4++ [.own [] 9 none]:=hm45
 have hl5:=hm45.length_le
 generalize m4++ [.own [] 9 none]=m5 at*
 have hr5:=bx (own_read (own_mono hbA4 hm45)) 3
 simp at hr5
 obtain ⟨t2,m6,happ,hch6,hO,hbl2⟩:=hN.append (by omega) (by_:=16) (by decide) x.names (by simp;omega)
 have hm06:m<+:m6:=hch6.pre (hm04.trans hm45) fun b hb h=>by simp[AVal.blk] at h;have:=hm04.length_le;omega
 have hbA6:=own_ch (own_mono hbA4 hm45) hch6 fun h=>by simp[AVal.blk] at h;have:=hm04.length_le;omega
 have hbB6:=own_ch (own_mono hbB4 hm45) hch6 fun h=>by simp[AVal.blk] at h;omega
 have hO6:OwL AVal.str m4.length m6 9 t2 x.names:=by simpa using hO
 have hI6:=(hO4.mono hm45).ch hch6 fun b hb h=>by simp[AVal.blk] at h;have:=(hO4.blk_lo hb).2;omega
 have ts2:=(Ow.sl hO6).self
 obtain ⟨m7,hst7,hbA7,hch7⟩:=fld_store (i:=3) hbA6 (by simp) ts2.2 ts2.1
 simp[hr5,cellsStrs (hnm.mono (hm04.trans hm45)),happ,hst7]
 have hm07:m<+:m7:=hch7.pre hm06 fun b hb h=>by omega
 have hbB7:=own_ch hbB6 hch7 fun h=>by omega
 have hO7:=hO6.ch hch7 fun b hb h=>by have:=(hO6.blk_lo hb).1;omega
 have hI7:=hI6.ch hch7 fun b hb h=>by have:=(hI6.blk_lo hb).1;omega
 simp at hbA7
 have hrA:=bxW (own_read hbA7) 6
 simp[readN] at hrA
 have hall: [AVal.int .i64 x.kind,.int .i64 x.size,t1,t2,.int .i64 x.dims,.bool x.flex].all AVal.one=true:=by simp[ts.1,ts2.1]
 obtain ⟨m8,hst8,hbB8,hch8⟩:=agg_store (n:=6) hbB7 (cs:= [.int .i64 x.kind,.int .i64 x.size,t1,t2,.int .i64 x.dims,.bool x.flex]) rfl rfl hall
 have hrB:=bxW (own_read hbB8) 6
 simp[readN] at hrB
 simp[hrA,hst8,hrB]
 exact ⟨hch8.pre hm07 fun b hb h=>by omega,t1,t2,rfl,(hI7.ch hch8 fun b hb h=>by have:=(hI7.blk_lo hb).1;omega).lo' (by omega),(hO7.ch hch8 fun b hb h=>by have:=(hO7.blk_lo hb).1;omega).lo' (by omega)⟩
theorem OwT.pushM {lo:Nat} {m:AMem} {s:AVal} {l:List Md} (h:OwT lo m s l) (hlo:lo≤m.length) {c:List AVal} {x:Md} {q:Nat} (hx:OwM q m c x) (hq: ∀b,s.blk=some b→b<q) (hlq:lo≤q) (hn:l.length<2^30):
  ∃s' m',appendE m 6 80 40 s 1 c=some (s',m')∧Ch (fun b=>s.blk=some b) m m'∧OwT lo m' s' (l++ [x])∧(∀b,s'.blk=some b→s.blk=some b∨m.length≤b):=
 h.push hlo (fun _ hc=>(hx.ch hc fun b hb=>by rcases hb with hb|hb;exact hq b hb;omega).mode) hn
theorem lit6 (m:AMem) (c:List AVal) (hc:c.length=6) (g:Option Nat):sliceCells (m++ [.own c 40 g]) 6 (.slice m.length 0 1 1 none)=some (1,c):=by
 simp[sliceCells,readB,ABlk.cells,readN,hc,List.take_of_length_le]
theorem lit6' {m:AMem} {b:Nat} {c:List AVal} {g:Option Nat} (h:m[b]? =some (.own c 40 g)) (hc:c.length=6):sliceCells m 6 (.slice b 0 1 1 none)=some (1,c):=by
 simp[sliceCells,readB,h,ABlk.cells,readN,hc,List.take_of_length_le]
set_option maxHeartbeats 2000000 in
theorem k131 (s:AVal) (l:List Md) (m:AMem) (hs:RTab m s l) (hsz: ∀x∈l,x.elems.length<2^40∧x.names.length<2^40) (hn:l.length<2^20):
  ACalls Tryz.prog 131 [s] m fun v m'=>m<+:m'∧OwT m.length m' v l:=by
 refine w131 ?_
 simp
 obtain ⟨I,hI⟩: ∃I:Nat→AFrame→AMem→Prop,∀q f m',I q f m'↔(∃(k:Nat) (o:AVal),k+q=l.length∧f=h131_0 s o (.int .i64 k)∧m<+:m'∧OwT m.length m' o (l.take k)):=⟨_,fun _ _ _=>Iff.rfl⟩
 refine W_loop I l.length ((hI _ _ _).2 ⟨0,.nilslice,by simp,by simp,List.prefix_refl _,[],.nil,by simp⟩) ?_
 rintro q f m1 hIn
 obtain ⟨k,o,hk,rfl,hm1,hO⟩:=(hI _ _ _).1 hIn
 clear hIn
 simp[(hs.mono hm1).len]
 refine bbind_dec (fun hkl=>?_) fun hkl=>?_
 ·have hkl:k<l.length:=by omega
  have hw:=step64 (k:=k) (n:=l.length) hkl (by omega)
  obtain ⟨q,rfl⟩: ∃q',q=q'+1:=⟨q-1,by omega⟩
  obtain ⟨bx',ox,c,h4,h5,_,_,h6⟩:=(hs.mono hm1).atC hkl
  simp[h4,h5]
  refine C_of (k156 c l[k] m1 h6 (hsz _ (List.getElem_mem hkl))) ?_
  rintro _ m2 ⟨hm2,c',rfl,hM⟩
  have hcl:=hM.mode.all
  have hm23:m2<+:m2++ [ABlk.own c' 40 none]:=List.prefix_append _ _
  have hsc:=lit6 m2 c' hcl.1 none
  have hOb: ∀b,o.blk=some b→b<m1.length:=fun b hb=>(hO.blk_lo hb).2
  obtain ⟨e,nm,hce,_,_⟩:=id hM
  have hfill:fillA [.int .i64 0,.int .i64 0,.nilslice,.nilslice,.int .i64 0,.bool false] [(0,6,.agg c')]=some c':=by
   subst hce
   have h:=hcl.2
   simp only[List.all_cons,List.all_nil,Bool.and_eq_true] at h
   simp[fillA,setN,h.2.2.1,h.2.2.2.1]
  simp[hfill]
  generalize m2++ [ABlk.own c' 40 none]=m3 at*
  have hm13:=hm2.trans hm23
  obtain ⟨o',m4,happ,hch,hO4,_⟩:=(hO.mono hm13).pushM (by have:=(hm1.trans hm13).length_le;omega) (hM.mono hm23) hOb (by have:=hm1.length_le;omega) (by simp;omega)
  simp[hsc,happ,hw]
  refine ⟨q,by omega,(hI _ _ _).2 ⟨k+1,o',by omega,by simp,hch.pre (hm1.trans hm13) fun b hb h=>by have:=(hO.blk_lo h).1;omega,?_⟩⟩
  rw[List.take_add_one,List.getElem?_eq_getElem hkl]
  exact hO4
 ·have hkl:k=l.length:=by omega
  subst hkl
  rw[List.take_length] at hO
  simp
  exact ⟨hm1,hO⟩
end Go.Proofs.YtlniliigcnedmaaGreat
namespace Go.Proofs.YtlniliigcnedmaaGreat.Ax
open Go Go.ChangeShapes Go.WideShapes Go.ChangeAt Go.RowKit
set_option maxRecDepth 100000
def RoMem (m:AMem):Prop:= ∀(b:Nat) blk,m[b]? =some blk→blk.isOwn=false
theorem Sim.nil (w:World):Sim [] [] w:=⟨rfl,by simp,by simp,by simp⟩
theorem RoMem.nil:RoMem []:=by intro b blk h;simp at h
theorem Sim.ro {ρ:List RB} {m:AMem} {w:World} (h:Sim ρ m w) (hm:RoMem m) {a:RB} (cs:List AVal) (ha:a.block<w.heap.size) (hc: ∀(i:Nat) x,cs[i]? =some x→ ∃v,w.cell? (at_ a i)=some v∧VR ρ x v):
  Sim (ρ++ [a]) (m++ [.ro cs]) w∧RoMem (m++ [.ro cs]):=by
 have hp:ρ<+:ρ++ [a]:=List.prefix_append _ _
 have hr:RoMem (m++ [.ro cs]):=by
  intro b blk hb
  rcases Nat.lt_or_ge b m.length with hlt|hge
  ·rw[List.getElem?_append_left hlt] at hb;exact hm b blk hb
  ·rw[List.getElem?_append_right hge] at hb
   cases hk:b-m.length with
   |zero=>rw[hk] at hb;simp at hb;subst hb;rfl
   |succ k=>rw[hk] at hb;simp at hb
 refine ⟨⟨by simp[h.len],?_,?_,?_⟩,hr⟩
 ·intro b blk a' hb ha'
  rcases Nat.lt_or_ge b m.length with hlt|hge
  ·rw[List.getElem?_append_left hlt] at hb
   rw[List.getElem?_append_left (by rw[h.len];exact hlt)] at ha'
   exact (h.ok b blk a' hb ha').mono hp
  ·rw[List.getElem?_append_right hge] at hb
   rw[List.getElem?_append_right (by rw[h.len];exact hge),h.len] at ha'
   cases hk:b-m.length with
   |zero=>
    rw[hk] at hb ha'
    simp only[List.getElem?_cons_zero,Option.some.injEq] at hb ha'
    subst hb ha'
    intro i x hx
    obtain ⟨v,h1,h2⟩:=hc i x hx
    exact ⟨v,h1,VR.mono hp x v h2⟩
   |succ k=>rw[hk] at hb;simp at hb
 ·intro b b' blk blk' a1 a2 _ hb _ _ _ ho
  rw[hr b blk hb] at ho
  simp at ho
 ·intro b a' ha'
  rcases Nat.lt_or_ge b ρ.length with hlt|hge
  ·rw[List.getElem?_append_left hlt] at ha';exact h.bound b a' ha'
  ·rw[List.getElem?_append_right hge] at ha'
   cases hk:b-ρ.length with
   |zero=>rw[hk] at ha';simp at ha';subst ha';exact ha
   |succ k=>rw[hk] at ha';simp at ha'
theorem slice_in {ρ:List RB} {m:AMem} {w:World} (h:Sim ρ m w) (hm:RoMem m) (hne:0<w.heap.size) {a:Addr} {len cap esz:Nat} (hlc:len≤cap)
  (hcell:cap≠0→ ∃v,w.cell? a=some v) {xs:List AVal} (hx:xs.length=len*esz) (hc: ∀(i:Nat) x,xs[i]? =some x→ ∃v,w.cell? (a.add i)=some v∧VR ρ x v):
  ∃ρ' m' s,ρ<+:ρ'∧m<+:m'∧RoMem m'∧Sim ρ' m' w∧VR ρ' s (.slice (some a) len cap)∧Sl m' esz s len xs:=by
 by_cases hcap:cap=0
 ·subst hcap
  obtain rfl:len=0:=by omega
  obtain rfl:xs= []:=List.eq_nil_of_length_eq_zero (by simpa using hx)
  obtain ⟨h1,h2⟩:=h.ro hm (a:=⟨0,0,0,0⟩) [] hne (by simp)
  refine ⟨_,_,.slice m.length 0 0 0 none,List.prefix_append _ _,List.prefix_append _ _,h2,h1,?_,.inr ⟨_,_,_,_,rfl,⟨by omega,.inl rfl⟩,.inl ⟨rfl,rfl⟩⟩⟩
  simp only[VR]
  exact ⟨⟨0,0,0,0⟩,a,0,rfl,by rw[←h.len];simp,by simp,by omega,by simp,by omega,by simp⟩
 ·obtain ⟨v0,hv0⟩:=hcell hcap
  have hs:=World.cell?_spot hv0
  obtain ⟨b,off,sp⟩:=a
  simp only at hs
  subst hs
  have hb:b<w.heap.size:=by
   rcases Nat.lt_or_ge b w.heap.size with hlt|hge
   ·exact hlt
   ·unfold World.cell? at hv0
    simp only[Array.getElem?_eq_none hge] at hv0
    simp at hv0
  obtain ⟨h1,h2⟩:=h.ro hm (a:=⟨b,off,0,0⟩) xs hb fun i x hx=>by
   obtain ⟨v,h1,h2⟩:=hc i x hx
   rw[Go.WideShapes.add_plain] at h1
   exact ⟨v,h1,h2⟩
  refine ⟨_,_,.slice m.length 0 len cap none,List.prefix_append _ _,List.prefix_append _ _,h2,h1,?_,.inr ⟨_,_,_,_,rfl,⟨hlc,.inl rfl⟩,?_⟩⟩
  ·simp only[VR]
   exact ⟨⟨b,off,0,0⟩,_,cap,rfl,by rw[←h.len];simp,by simp,hlc,by simp,by omega,by simp⟩
  ·by_cases hl:len=0
   ·subst hl
    exact .inl ⟨rfl,List.eq_nil_of_length_eq_zero (by simpa using hx)⟩
   ·refine .inr ⟨hl,xs,by simp[readB,ABlk.cells],?_⟩
    have h0:0+len*esz≤xs.length:=by omega
    unfold readN
    rw[if_pos h0,List.drop_zero,List.take_of_length_le (by omega)]
def Enters (w:World) (vs:List Value) (Rep:AMem→List AVal→Prop):Prop:=
 ∀ρ m,Sim ρ m w→RoMem m→ ∃ρ' m' xs,ρ<+:ρ'∧m<+:m'∧RoMem m'∧Sim ρ' m' w∧VRs ρ' xs vs∧Rep m' xs
variable {H:Type} {enc:TypeId×Value→H} {P:Program} {w:World} {base:Nat} {spare:Nat→Bool} {held:Bool}
theorem enters_ints (hne:0<w.heap.size) {t e:TypeId} {fuel:Nat} {cs:List Value} {x:DataW H×List MemPlace} (ht:P.underlying t=some (.slice e)) (he:P.underlying e=some (.int .i64)) (hc:P.cellsOf e=1)
  (h:DataW.trod enc P w base (fun _=>true) held fuel t cs=some x):
  ∃zs:List Int,Enters w cs (fun m xs=> ∃s,xs= [s]∧RInts m s zs)∧(P.bytesOf e=8→ ∀B,(x.1.weights P t).all (· ≤B)=true→zs.length≤B):=by
 rcases open_ints ht he hc h with ⟨rfl,rfl⟩|⟨a,len,cap,zs,rfl,_,hlc,_,hz,rfl,hcell,_⟩
 ·exact ⟨[],fun ρ m hs hm=>⟨ρ,m,[.nilslice],List.prefix_refl _,List.prefix_refl _,hm,hs,by simp[VRs,VR],.nilslice,rfl,Sl.nil⟩,by simp⟩
 ·simp only[if_true] at hz
  refine ⟨zs.take len,fun ρ m hs hm=>?_,?_⟩
  ·obtain ⟨ρ',m',s,h1,h2,h3,h4,h5,h6⟩:=slice_in (esz:=1) hs hm hne hlc (fun hcap=>⟨_,by have:=hcell 0 (by omega);simpa[Addr.add] using this⟩) (xs:=(zs.take len).map fun x=> .int .i64 x) (by simp;omega)
    (fun i x hx=>by
     simp only[List.getElem?_map,Option.map_eq_some_iff] at hx
     obtain ⟨z,hz',rfl⟩:=hx
     have hi:i<zs.length:=by
      have:=(List.getElem?_eq_some_iff.1 hz').1
      simp at this;omega
     have hg:zs[i]? =some z:=by
      rw[List.getElem?_take] at hz'
      split at hz'
      ·exact hz'
      ·simp at hz'
     exact ⟨_,hcell i hi,by simp[VR,List.getD,hg]⟩)
   refine ⟨ρ',m',[s],h1,h2,h3,h4,by simp only[VRs];exact ⟨_,_,rfl,h5,rfl⟩,s,rfl,?_⟩
   have hl:(zs.take len).length=len:=by simp;omega
   unfold RInts
   rw[hl]
   exact h6
  ·intro hb B hB
   simp only[DataW.weights,ht,List.all_cons,Bool.and_eq_true,decide_eq_true_eq] at hB
   have:=hB.1
   rw[hb] at this
   simp[lits] at this ⊢
   omega
theorem enters_strs (hne:0<w.heap.size) {t e:TypeId} {fuel:Nat} {cs:List Value} {x:DataW H×List MemPlace} (ht:P.underlying t=some (.slice e)) (he:P.underlying e=some .string) (hc:P.cellsOf e=1)
  (h:DataW.trod enc P w base (fun _=>true) held fuel t cs=some x):
  ∃zs:List ByteArray,Enters w cs (fun m xs=> ∃s,xs= [s]∧RStrs m s zs)∧(P.bytesOf e=16→ ∀B,(x.1.weights P t).all (· ≤B)=true→zs.length≤B∧ ∀z∈zs,z.size≤B):=by
 rcases open_strings ht he hc h with ⟨rfl,rfl⟩|⟨a,len,cap,zs,rfl,_,hlc,_,hz,rfl,hcell,_⟩
 ·exact ⟨[],fun ρ m hs hm=>⟨ρ,m,[.nilslice],List.prefix_refl _,List.prefix_refl _,hm,hs,by simp[VRs,VR],.nilslice,rfl,Sl.nil⟩,by simp⟩
 ·simp only[if_true] at hz
  refine ⟨zs.take len,fun ρ m hs hm=>?_,?_⟩
  ·obtain ⟨ρ',m',s,h1,h2,h3,h4,h5,h6⟩:=slice_in (esz:=1) hs hm hne hlc (fun hcap=>⟨_,by have:=hcell 0 (by omega);simpa[Addr.add] using this⟩) (xs:=(zs.take len).map fun x=> .str x) (by simp;omega)
    (fun i x hx=>by
     simp only[List.getElem?_map,Option.map_eq_some_iff] at hx
     obtain ⟨z,hz',rfl⟩:=hx
     have hi:i<zs.length:=by
      have:=(List.getElem?_eq_some_iff.1 hz').1
      simp at this;omega
     have hg:zs[i]? =some z:=by
      rw[List.getElem?_take] at hz'
      split at hz'
      ·exact hz'
      ·simp at hz'
     exact ⟨_,hcell i hi,by simp[VR,List.getD,hg]⟩)
   refine ⟨ρ',m',[s],h1,h2,h3,h4,by simp only[VRs];exact ⟨_,_,rfl,h5,rfl⟩,s,rfl,?_⟩
   have hl:(zs.take len).length=len:=by simp;omega
   unfold RStrs
   rw[hl]
   exact h6
  ·intro hb B hB
   simp only[DataW.weights,ht,List.all_cons,Bool.and_eq_true,decide_eq_true_eq,List.all_append] at hB
   obtain ⟨h1,h2,_⟩:=hB
   rw[hb] at h1
   refine ⟨by simp[strs] at h1 ⊢;omega,fun z hz'=>?_⟩
   have key: ∀l:List ByteArray,(DataW.weightsAll (H:=H) P e (strs l)).all (· ≤B)=true→ ∀z∈l,z.size≤B:=by
    intro l
    induction l with
    |nil=>simp
    |cons y ys ih=>
     intro hl z hz
     simp only[strs,List.map_cons,DataW.weightsAll,DataW.weights,List.cons_append,List.nil_append,List.all_cons,Bool.and_eq_true,decide_eq_true_eq] at hl
     rcases List.mem_cons.1 hz with rfl|hz
     ·have:=hl.1;simpa using this
     ·exact ih (by simpa[strs] using hl.2) z hz
   exact key _ h2 z hz'
structure ModeT (P:Program) where
 tT:TypeId
 tM:TypeId
 tI:TypeId
 eI:TypeId
 tS:TypeId
 eS:TypeId
 k0:TypeId
 k1:TypeId
 k4:TypeId
 k5:TypeId
 fs:Array Field
 hT:P.underlying tT=some (.slice tM)
 hM:P.underlying tM=some (.struct fs)
 hI:P.underlying tI=some (.slice eI)
 hi:P.underlying eI=some (.int .i64)
 hS:P.underlying tS=some (.slice eS)
 hs:P.underlying eS=some .string
 h0:P.underlying k0=some (.int .i64)
 h1:P.underlying k1=some (.int .i64)
 h4:P.underlying k4=some (.int .i64)
 h5:P.underlying k5=some .bool
 cM:P.cellsOf tM=6
 ci:P.cellsOf eI=1
 cs:P.cellsOf eS=1
 c0:P.cellsOf k0=1
 c1:P.cellsOf k1=1
 cI:P.cellsOf tI=1
 cS:P.cellsOf tS=1
 c4:P.cellsOf k4=1
 c5:P.cellsOf k5=1
 bi:P.bytesOf eI=8
 bs:P.bytesOf eS=16
 bM:1≤P.bytesOf tM
 sz:fs.size=6
 f0:(fs[0]?).map (fun f=>(f.type,f.offset))=some (k0,0)
 f1:(fs[1]?).map (fun f=>(f.type,f.offset))=some (k1,1)
 f2:(fs[2]?).map (fun f=>(f.type,f.offset))=some (tI,2)
 f3:(fs[3]?).map (fun f=>(f.type,f.offset))=some (tS,3)
 f4:(fs[4]?).map (fun f=>(f.type,f.offset))=some (k4,4)
 f5:(fs[5]?).map (fun f=>(f.type,f.offset))=some (k5,5)
structure MdB (B:Nat) (x:Md):Prop where
 elems:x.elems.length≤B
 names:x.names.length≤B
 each: ∀z∈x.names,z.size≤B
theorem field_of {fs:Array Field} {i:Nat} {t:TypeId} {o:Nat} (h:(fs[i]?).map (fun f=>(f.type,f.offset))=some (t,o)): ∃f,fs[i]? =some f∧f.type=t∧f.offset=o:=by
 cases hf:fs[i]? with
 |none=>rw[hf] at h;simp at h
 |some f=>rw[hf] at h;simp at h;exact ⟨f,rfl,h.1,h.2⟩
theorem weights_parts {e:TypeId} {fs:Array Field} (ht:P.underlying e=some (.struct fs)) {xs:List (DataW H×List MemPlace)} {i:Nat} {f:Field} {y:DataW H×List MemPlace} (hf:fs[i]? =some f) (hy:xs[i]? =some y) {B:Nat}
  (h:((DataW.agg (xs.map (·.1))).weights P e).all (· ≤B)=true):(y.1.weights P f.type).all (· ≤B)=true:=by
 simp only[DataW.weights,ht] at h
 rw[List.all_eq_true] at h ⊢
 intro n hn
 exact h n (DataW.weights_mem_each (j:=i) (t:=f.type) (d:=y.1) (by simp[hf]) (by simp[hy]) n hn)
theorem enters_mode (hne:0<w.heap.size) (T:ModeT P) {fuel:Nat} {cs:List Value} {x:DataW H×List MemPlace} (h:DataW.trod enc P w base (fun _=>true) held fuel T.tM cs=some x):
  ∃md:Md,Enters w cs (fun m xs=>RMode m xs md)∧(∀B,(x.1.weights P T.tM).all (· ≤B)=true→MdB B md):=by
 obtain ⟨xs,n,_,rfl,hl,hxl,hall⟩:=DataW.trod_struct T.hM h
 rw[T.cM] at hl
 rw[T.sz] at hxl
 obtain ⟨c0,c1,c2,c3,c4,c5,rfl⟩: ∃c0 c1 c2 c3 c4 c5,cs= [c0,c1,c2,c3,c4,c5]:=by
  match cs,hl with
  | [c0,c1,c2,c3,c4,c5],_=>exact ⟨_,_,_,_,_,_,rfl⟩
 obtain ⟨x0,x1,x2,x3,x4,x5,rfl⟩: ∃c0 c1 c2 c3 c4 c5,xs= [c0,c1,c2,c3,c4,c5]:=by
  match xs,hxl with
  | [c0,c1,c2,c3,c4,c5],_=>exact ⟨_,_,_,_,_,_,rfl⟩
 obtain ⟨g0,a0,t0,o0⟩:=field_of T.f0
 obtain ⟨g1,a1,t1,o1⟩:=field_of T.f1
 obtain ⟨g2,a2,t2,o2⟩:=field_of T.f2
 obtain ⟨g3,a3,t3,o3⟩:=field_of T.f3
 obtain ⟨g4,a4,t4,o4⟩:=field_of T.f4
 obtain ⟨g5,a5,t5,o5⟩:=field_of T.f5
 have e0:=hall 0 g0 a0
 have e1:=hall 1 g1 a1
 have e2:=hall 2 g2 a2
 have e3:=hall 3 g3 a3
 have e4:=hall 4 g4 a4
 have e5:=hall 5 g5 a5
 rw[t0,o0,T.c0] at e0
 rw[t1,o1,T.c1] at e1
 rw[t2,o2,T.cI] at e2
 rw[t3,o3,T.cS] at e3
 rw[t4,o4,T.c4] at e4
 rw[t5,o5,T.c5] at e5
 simp only[List.drop_zero,List.drop_succ_cons,List.take_succ_cons,List.take_zero,List.getElem?_cons_zero,List.getElem?_cons_succ] at e0 e1 e2 e3 e4 e5
 obtain ⟨n0,q0,rfl,_⟩:=DataW.trod_int T.h0 e0
 obtain ⟨n1,q1,rfl,_⟩:=DataW.trod_int T.h1 e1
 obtain ⟨n4,q4,rfl,_⟩:=DataW.trod_int T.h4 e4
 obtain ⟨n5,q5,rfl⟩:=DataW.trod_bool T.h5 e5
 simp only[List.cons.injEq,and_true] at q0 q1 q4 q5
 subst q0 q1 q4 q5
 obtain ⟨el,hel,hel'⟩:=enters_ints hne T.hI T.hi T.ci e2
 obtain ⟨nm,hnm,hnm'⟩:=enters_strs hne T.hS T.hs T.cs e3
 refine ⟨⟨n0,n1,el,nm,n4,n5⟩,fun ρ m hs hm=>?_,fun B hB=>?_⟩
 ·obtain ⟨ρ1,m1,ys,h1,h2,h3,h4,h5,s,rfl,h6⟩:=hel ρ m hs hm
  obtain ⟨ρ2,m2,ys,k1,k2,k3,k4,k5,s',rfl,k6⟩:=hnm ρ1 m1 h4 h3
  simp only[VRs] at h5 k5
  obtain ⟨_,_,hh,h5,rfl⟩:=h5
  obtain ⟨_,_,hk,k5,rfl⟩:=k5
  simp only[List.cons.injEq,and_true] at hh hk
  subst hh hk
  refine ⟨ρ2,m2,[.int .i64 n0,.int .i64 n1,s,s',.int .i64 n4,.bool n5],h1.trans k1,h2.trans k2,k3,k4,?_,s,s',rfl,h6.mono k2,k6⟩
  simp only[VRs,VR]
  exact ⟨_,_,rfl,rfl,_,_,rfl,rfl,_,_,rfl,VR.mono k1 _ _ h5,_,_,rfl,k5,_,_,rfl,rfl,_,_,rfl,rfl,rfl⟩
 ·have w2:=weights_parts (i:=2) T.hM a2 (y:=x2) (by simp) hB
  have w3:=weights_parts (i:=3) T.hM a3 (y:=x3) (by simp) hB
  rw[t2] at w2
  rw[t3] at w3
  obtain ⟨p1,p2⟩:=hnm' T.bs B w3
  exact ⟨hel' T.bi B w2,p1,p2⟩
theorem weightsAll_mem {e:TypeId} {B:Nat}: ∀{l:List (DataW H)},(DataW.weightsAll P e l).all (· ≤B)=true→ ∀d∈l,(d.weights P e).all (· ≤B)=true
 | [],_,d,hd=>by simp at hd
 |y::ys,h,d,hd=>by
  simp only[DataW.weightsAll,List.all_append,Bool.and_eq_true] at h
  rcases List.mem_cons.1 hd with rfl|hd
  ·exact h.1
  ·exact weightsAll_mem h.2 d hd
theorem enters_tab (T:ModeT P) {fuel:Nat} {cs:List Value} (hne: ∀a len cap,cs= [.slice (some a) len cap]→0<w.heap.size) {x:DataW H×List MemPlace} (h:DataW.trod enc P w base (fun _=>true) held fuel T.tT cs=some x):
  ∃l:List Md,Enters w cs (fun m xs=> ∃s,xs= [s]∧RTab m s l)∧(∀B,(x.1.weights P T.tT).all (· ≤B)=true→l.length≤B∧ ∀md∈l,MdB B md):=by
 rcases Go.Deep.open_slice T.hT h with ⟨rfl,rfl⟩|⟨a,len,cap,mm,n,D,Pl,rfl,_,hlc,_,hmm,rfl,hel⟩
 ·exact ⟨[],fun ρ m hs hm=>⟨ρ,m,[.nilslice],List.prefix_refl _,List.prefix_refl _,hm,hs,by simp[VRs,VR],.nilslice,rfl,[],Sl.nil,by simp⟩,by simp⟩
 ·replace hne:=hne _ _ _ rfl
  simp only[if_true] at hmm
  subst hmm
  rw[T.cM] at hel
  have hmd: ∀i,i<len→ ∃(cs':List Value) (md:Md),w.cells? base (a.add (i*6)) 6=some cs'∧Enters w cs' (fun m xs=>RMode m xs md)∧(∀B,((D i).weights P T.tM).all (· ≤B)=true→MdB B md):=by
   intro i hi
   obtain ⟨cs',h1,h2⟩:=hel i (by omega)
   obtain ⟨md,h3,h4⟩:=enters_mode hne T h2
   exact ⟨cs',md,h1,h3,h4⟩
  have hl: ∃l:List Md,l.length=len∧ ∀(i:Nat) md,l[i]? =some md→ ∃(cs':List Value),w.cells? base (a.add (i*6)) 6=some cs'∧Enters w cs' (fun m xs=>RMode m xs md)∧(∀B,((D i).weights P T.tM).all (· ≤B)=true→MdB B md):=by
   have: ∀k,k≤len→ ∃l:List Md,l.length=k∧ ∀(i:Nat) md,l[i]? =some md→ ∃(cs':List Value),w.cells? base (a.add (i*6)) 6=some cs'∧Enters w cs' (fun m xs=>RMode m xs md)∧(∀B,((D i).weights P T.tM).all (· ≤B)=true→MdB B md):=by
    intro k
    induction k with
    |zero=>exact fun _=>⟨[],rfl,by simp⟩
    |succ k ih=>
     intro hk
     obtain ⟨l,h1,h2⟩:=ih (by omega)
     obtain ⟨cs',md,h3,h4⟩:=hmd k (by omega)
     refine ⟨l++ [md],by simp[h1],fun i md' hi=>?_⟩
     rcases Nat.lt_or_ge i l.length with hlt|hge
     ·rw[List.getElem?_append_left hlt] at hi;exact h2 i md' hi
     ·rw[List.getElem?_append_right hge] at hi
      cases hj:i-l.length with
      |zero=>
       rw[hj] at hi
       simp only[List.getElem?_cons_zero,Option.some.injEq] at hi
       subst hi
       obtain rfl:i=k:=by omega
       exact ⟨cs',h3,h4⟩
      |succ j=>rw[hj] at hi;simp at hi
   exact this len (Nat.le_refl _)
  obtain ⟨l,hlen,hl⟩:=hl
  refine ⟨l,fun ρ m hs hm=>?_,fun B hB=>?_⟩
  ·have key: ∀k,k≤len→ ∃(ρ':List RB) (m':AMem) (xs:List AVal),ρ<+:ρ'∧m<+:m'∧RoMem m'∧Sim ρ' m' w∧xs.length=k*6∧(∀(i:Nat) x,xs[i]? =some x→ ∃v,w.cell? (a.add i)=some v∧VR ρ' x v)∧
     ∀(i:Nat) md,i<k→l[i]? =some md→RMode m' ((xs.drop (i*6)).take 6) md:=by
    intro k
    induction k with
    |zero=>exact fun _=>⟨ρ,m,[],List.prefix_refl _,List.prefix_refl _,hm,hs,rfl,by simp,by omega⟩
    |succ k ih=>
     intro hk
     obtain ⟨ρ1,m1,xs,h1,h2,h3,h4,h5,h6,h7⟩:=ih (by omega)
     obtain ⟨md,hmdk⟩: ∃md,l[k]? =some md:=⟨l[k],List.getElem?_eq_getElem (by omega)⟩
     obtain ⟨cs',c1,c2,_⟩:=hl k md hmdk
     obtain ⟨ρ2,m2,ys,g1,g2,g3,g4,g5,g6⟩:=c2 ρ1 m1 h4 h3
     obtain ⟨_,c3,c4⟩:=World.cells?_some c1
     have hys:ys.length=6:=by rw[←g5.length];exact c3
     refine ⟨ρ2,m2,xs++ys,h1.trans g1,h2.trans g2,g3,g4,by simp[h5,hys];omega,fun i x hx=>?_,fun i md' hi hmd'=>?_⟩
     ·rcases Nat.lt_or_ge i xs.length with hlt|hge
      ·rw[List.getElem?_append_left hlt] at hx
       obtain ⟨v,hv,hr⟩:=h6 i x hx
       exact ⟨v,hv,VR.mono g1 x v hr⟩
      ·rw[List.getElem?_append_right hge] at hx
       have hj:i-xs.length<6:=by rw[←hys];exact (List.getElem?_eq_some_iff.1 hx).1
       obtain ⟨v,hv,hr⟩:=g5.get _ x hx
       refine ⟨v,?_,hr⟩
       have:=c4 (i-xs.length) hj
       rw[Addr.add_add,hv] at this
       rw[←this]
       congr 2
       omega
     ·rcases Nat.lt_or_ge i k with hlt|hge
      ·have:=(h7 i md' hlt hmd').mono g2
       rw[List.drop_append_of_le_length (by omega),List.take_append_of_le_length (by simp;omega)]
       exact this
      ·obtain rfl:i=k:=by omega
       rw[hmdk] at hmd'
       simp only[Option.some.injEq] at hmd'
       subst hmd'
       rw[List.drop_append,h5,Nat.sub_self,List.drop_eq_nil_of_le (by omega)]
       simp only[List.nil_append,List.drop_zero]
       rw[List.take_of_length_le (by omega)]
       exact g6
   obtain ⟨ρ1,m1,xs,h1,h2,h3,h4,h5,h6,h7⟩:=key len (Nat.le_refl _)
   obtain ⟨ρ',m',s,g1,g2,g3,g4,g5,g6⟩:=slice_in (esz:=6) h4 h3 hne hlc (fun hcap=>by
    obtain ⟨cs',c1,_⟩:=hel 0 (by omega)
    obtain ⟨_,c3,c4⟩:=World.cells?_some c1
    have:=c4 0 (by omega)
    rw[Addr.add_add] at this
    rw[List.getElem?_eq_getElem (by omega)] at this
    exact ⟨_,by simpa[Addr.add] using this⟩) h5 h6
   refine ⟨ρ',m',[s],h1.trans g1,h2.trans g2,g3,g4,by simp only[VRs];exact ⟨_,_,rfl,g5,rfl⟩,s,rfl,xs,by rw[hlen];exact g6,fun i md hi=>(h7 i md (by have:=(List.getElem?_eq_some_iff.1 hi).1;omega) hi).mono g2⟩
  ·simp only[DataW.weights,T.hT,List.all_cons,Bool.and_eq_true,decide_eq_true_eq,List.all_append] at hB
   obtain ⟨b1,b2,_⟩:=hB
   refine ⟨?_,fun md hmd=>?_⟩
   ·have:=T.bM
    simp only[List.length_map,List.length_range] at b1
    have h3:len≤(len+(mm-len))*P.bytesOf T.tM:=by
     calc len≤(len+(mm-len))*1:=by omega
      _≤_:=Nat.mul_le_mul_left _ this
    omega
   ·obtain ⟨i,hi,rfl⟩:=List.getElem_of_mem hmd
    obtain ⟨cs',_,_,c5⟩:=hl i l[i] (List.getElem?_eq_getElem hi)
    exact c5 B (weightsAll_mem b2 (D i) (List.mem_map.2 ⟨i,by simp;omega,rfl⟩))
theorem below_of_evol {ρ ρ':List RB} {m m':AMem} {w':World} (hm:RoMem m) (h:Evol ρ m w ρ' m' w'):Below w.heap.size w w':=
 ⟨h.os,h.tape,h.output,h.size,fun k hk=>h.frame k hk fun ⟨b,blk,a,hb,ho,_⟩=>by rw[hm b blk hb] at ho;cases ho⟩
theorem heap_pos {r:Reach} {b0:Nat} {t e:TypeId} {a:Addr} {len cap:Nat} (ht:P.underlying t=some (.slice e)) (hval:Value.okWide P w r b0 t (.slice (some a) len cap)):0<w.heap.size:=by
 simp only[Value.okWide,ht,Cell.okWide,Cell.ok,World.has] at hval
 obtain ⟨_,_,_,_,row,cells,h,_⟩:=hval
 unfold World.shape? at h
 rcases Nat.eq_zero_or_pos w.heap.size with h0|h0
 ·rw[Array.getElem?_eq_none (by omega)] at h
  simp at h
 ·exact h0
end Go.Proofs.YtlniliigcnedmaaGreat.Ax
namespace Go.Proofs.YtlniliigcnedmaaGreat
open Go Ax
set_option maxRecDepth 100000
structure Fits (l:List Md):Prop where
 n:l.length≤13
 n12:l.length≤12
 sm: ∀x∈l,smallN x
 h40: ∀x∈l,x.elems.length<2^40∧x.names.length<2^40
theorem fits_of {l:List Md} (hb: ∀md∈l,MdB reachBytes md) (h:(decide ((l.length:Int)≤12)&&l.all fun x=>decide (x.elems.length≤6)&&decide (x.names.length≤6))=true):Fits l:=by
 rw[Bool.and_eq_true,decide_eq_true_iff,List.all_eq_true] at h
 obtain ⟨h1,h2⟩:=h
 refine ⟨by omega,by omega,fun x hx=>?_,fun x hx=>?_⟩
 ·have:=h2 x hx
  rw[Bool.and_eq_true,decide_eq_true_iff,decide_eq_true_iff] at this
  refine ⟨by omega,by omega,fun s hs=>?_⟩
  have h3:=(hb x hx).each s hs
  have h4:reachBytes<2^62:=by decide
  omega
 ·have:=h2 x hx
  rw[Bool.and_eq_true,decide_eq_true_iff,decide_eq_true_iff] at this
  omega
end Go.Proofs.YtlniliigcnedmaaGreat
namespace Go.Proofs.YtlniliigcnedmaaGreat
open Go Ax
set_option maxRecDepth 100000
theorem k129 (s t:AVal) (xs ys:List Int) (m:AMem) (hs:RInts m s xs) (ht:RInts m t ys) (hn:xs.length<2^62):ACalls Tryz.prog 129 [s,t] m fun v m'=>v= .bool (decide (xs=ys))∧m<+:m':=by
 refine w129 ?_
 by_cases hl:xs.length=ys.length
 rotate_left
 ·have hl': ¬(xs.length:Int)=ys.length:=by omega
  have: ¬xs=ys:=fun e=>hl (by rw[e])
  simp[hs.len,ht.len,bneT hl',this]
 simp[hs.len,ht.len,hl]
 refine W_loop (fun q a m'=> ∃k:Nat,k+q=xs.length∧a=h129_0 s t (.int .i64 k)∧m<+:m'∧ ∀(j:Nat) x,j<k→xs[j]? =some x→ys[j]? =some x) xs.length ⟨0,by simp⟩ ?_
 rintro q a m1 ⟨k,hk,rfl,hm1,he⟩
 simp[(hs.mono hm1).len,hl]
 refine bbind_dec (fun hkl=>?_) fun hkl=>?_
 ·have hkl:k<xs.length:=by omega
  have hw:=step64 hkl hn
  obtain ⟨q,rfl⟩: ∃q',q=q'+1:=⟨q-1,by omega⟩
  obtain ⟨b1,o1,g1,g2⟩:=(hs.mono hm1).at hkl
  obtain ⟨b2,o2,g3,g4⟩:=(ht.mono hm1).at (i:=k) (by omega)
  simp
  refine W_drawPR (by simp[maxDst]) rfl rfl ?_
  simp[g1,g2,g3,g4]
  intro m2 hm2
  by_cases hxy:xs[k]=ys[k]'(by omega)
  ·simp[hxy,hw]
   refine ⟨q,by omega,k+1,by omega,by simp,hm1.trans hm2,fun j x hj hx=>?_⟩
   by_cases hjk:j=k
   ·subst hjk
    rw[List.getElem?_eq_getElem hkl] at hx
    cases hx
    rw[hxy]
    exact List.getElem?_eq_getElem (by omega)
   ·exact he j x (by omega) hx
  ·have: ¬xs=ys:=fun e=>hxy (by subst e;rfl)
   simp[bneT hxy,this]
   exact hm1.trans hm2
 ·have hkl:k=xs.length:=by omega
  subst hkl
  have:xs=ys:=by
   apply List.ext_getElem?
   intro i
   cases hi:xs[i]? with
   |some x=>exact (he i x (List.getElem?_eq_some_iff.1 hi).1 hi).symm
   |none=>exact (List.getElem?_eq_none (by have:=List.getElem?_eq_none_iff.1 hi;omega)).symm
  simp[this]
  exact hm1
end Go.Proofs.YtlniliigcnedmaaGreat
namespace Go.Proofs.YtlniliigcnedmaaGreat
open Go Ax
open Relation
set_option maxRecDepth 100000
theorem RR_first {l:List Md} {a b:Nat} (ha:a<l.length) (hb:b<l.length) (h:RR l a=RR l b):firstC (mdAt l a) (mdAt l b)=0:=by
 have h1:R l (1+l.length) a=R l (1+l.length) b:=by rw[Nat.add_comm];exact h
 have h2:=R_eq_cmp (d:=0) ha hb (R_eq_down ha hb l.length h1)
 unfold cmpR thenC at h2
 have h0:cmpI (R l 0 a:Nat) (R l 0 b:Nat)=0:=cmpI_zero.2 rfl
 simp[h0] at h2
 exact h2
theorem lexC_refl: ∀xs:List Int,lexC cmpI xs xs=0
 | []=>rfl
 |x::xs=>by
  have h:cmpI x x=0:=cmpI_zero.2 rfl
  simp[lexC,h,lexC_refl xs]
theorem R_eq_of {l:List Md} {a b:Nat} (ha:a<l.length) (hb:b<l.length) (hf:firstC (mdAt l a) (mdAt l b)=0) (hk: ∀r,keyOf l r a=keyOf l r b): ∀d,R l d a=R l d b
 |0=>rfl
 |d+1=>by
  have ih:=R_eq_of ha hb hf hk d
  have hc:cmpR l (R l d) d a b=0:=by
   unfold cmpR thenC
   have h0:cmpI (R l d a:Nat) (R l d b:Nat)=0:=cmpI_zero.2 (by rw[ih])
   simp only[h0]
   by_cases hd:d=0
   ·simp[hd,hf]
   ·simp[hd,hk,lexC_refl]
  have h1:=R_lt l d (b:=b) ha
  have h2:=R_lt l d (b:=a) hb
  have h3:=(cmpR_ord l (R l d) d).anti a b trivial trivial
  have h4:=(cmpR_ord l (R l d) d).anti b a trivial trivial
  omega
theorem key_same {l:List Md} {a b:Nat} (ha:a<l.length) (hb:b<l.length) (hk:(mdAt l a).kind=(mdAt l b).kind) (he:(mdAt l a).elems=(mdAt l b).elems) (r:Nat→Nat):keyOf l r a=keyOf l r b:=by
 unfold keyOf
 have hu:isU (mdAt l a)=isU (mdAt l b):=by unfold isU;rw[hk]
 rw[hu,he]
 cases isU (mdAt l b)
 ·rfl
 ·simp only[if_true]
  congr 1
  apply List.filter_congr
  intro v _
  rw[decide_eq_decide]
  exact ⟨fun ⟨j,h1,h2⟩=>⟨j,part_same ha hb hk he h1,h2⟩,fun ⟨j,h1,h2⟩=>⟨j,part_same hb ha hk.symm he.symm h1,h2⟩⟩
theorem RR_same {l:List Md} {a b:Nat} (ha:a<l.length) (hb:b<l.length) (hf:firstC (mdAt l a) (mdAt l b)=0) (he:(mdAt l a).elems=(mdAt l b).elems):RR l a=RR l b:=
 R_eq_of ha hb hf (key_same ha hb (firstC_kind hf) he) _
theorem fidx_at {p:Nat→Bool}: ∀(n i j:Nat),i≤j→j<i+n→p j=true→(∀k,i≤k→k<j→p k=false)→fidx p i n=(j:Int)
 |0,i,j,h1,h2,_,_=>by omega
 |n+1,i,j,h1,h2,h3,h4=>by
  rw[fidx]
  by_cases hij:i=j
  ·subst hij;rw[if_pos h3]
  ·rw[if_neg (by rw[h4 i (Nat.le_refl _) (by omega)];simp)]
   exact fidx_at n (i+1) j (by omega) (by omega) h3 fun k k1 k2=>h4 k (by omega) k2
theorem findI_none {l:List Md} {x:Md} (h: ∃e∈x.elems,outB l.length e=true):findI l x=none:=by
 obtain ⟨e,he,ho⟩:=h
 unfold findI
 split
 ·rfl
 ·rename_i hn
  rw[if_pos]
  intro hc
  have ok:=okT_of hc
  have:=ok.good x (by simp) e he
  have hne:e≠(l.length:Int):=fun h=>hn (h▸he)
  simp[outB] at ho
  simp at this
  omega
theorem findI_ok {l:List Md} {x:Md} (h: ∀e∈x.elems,outB l.length e=false):findI l x=if checkI (l++ [x])≠0 then none else if fidx (fun i=>RR (l++ [x]) i==RR (l++ [x]) l.length) 0 (l.length+1)=l.length then none else some (fidx (fun i=>RR (l++ [x]) i==RR (l++ [x]) l.length) 0 (l.length+1)).toNat:=by
 unfold findI
 rw[if_neg]
 intro hm
 have:=h _ hm
 simp[outB] at this
theorem findI_last {l:List Md} {x:Md} (h: ∀e∈x.elems,outB l.length e=false) (hc:checkI (l++ [x])=0) (hn: ∀i,i<l.length→RR (l++ [x]) i≠RR (l++ [x]) l.length):findI l x=none:=by
 rw[findI_ok h,if_neg (by simp[hc]),if_pos]
 exact fidx_at _ 0 _ (by omega) (by omega) (by simp) fun k _ hk=>by simpa using hn k hk
theorem findI_some {l:List Md} {x:Md} (h: ∀e∈x.elems,outB l.length e=false) (hc:checkI (l++ [x])=0) {j:Nat} (hj:j<l.length) (he:RR (l++ [x]) j=RR (l++ [x]) l.length) (hn: ∀i,i<j→RR (l++ [x]) i≠RR (l++ [x]) l.length):findI l x=some j:=by
 have hF:=fidx_at (p:=fun i=>RR (l++ [x]) i==RR (l++ [x]) l.length) (l.length+1) 0 j (by omega) (by omega) (by simpa using he) fun k _ hk=>by simpa using hn k hk
 rw[findI_ok h,if_neg (by simp[hc]),hF,if_neg (by omega)]
 simp
end Go.Proofs.YtlniliigcnedmaaGreat
namespace Go.Proofs.YtlniliigcnedmaaGreat
open Go Ax
set_option maxRecDepth 100000
set_option maxHeartbeats 8000000 in
theorem k173 (s:AVal) (c:List AVal) (l:List Md) (x:Md) (m:AMem) (hs:RTab m s l) (hx:RMode m c x) (hsz: ∀y∈l++ [x],smallN y) (h40: ∀y∈l++ [x],y.elems.length<2^40∧y.names.length<2^40) (hn:l.length<2^20):
  ACalls Tryz.prog 173 [s,.agg c] m fun v m'=>m<+:m'∧v= .tuple [.int .i64 ((findI l x).getD 0:Nat),.bool (findI l x).isSome]:=by
 have hx0:=hx
 have hcl:=hx.all
 obtain ⟨e,nm,rfl,he,hnm⟩:=hx
 refine w173 ?_
 have h1:=Sl.one he
 have h2:=Sl.one hnm
 simp[h1,h2]
 have hb0:=readB_new m [.int .i64 x.kind,.int .i64 x.size,e,nm,.int .i64 x.dims,.bool x.flex] 40 none
 have hm01:m<+:m++ [.own [.int .i64 x.kind,.int .i64 x.size,e,nm,.int .i64 x.dims,.bool x.flex] 40 none]:=List.prefix_append _ _
 generalize m++ [.own [.int .i64 x.kind,.int .i64 x.size,e,nm,.int .i64 x.dims,.bool x.flex] 40 none]=m1 at*
 generalize m.length=b3 at*
 have hxs:=hsz x (by simp)
 have hx40:=h40 x (by simp)
 -- the elements
 obtain ⟨J,hJ⟩: ∃J:AFrame→AMem→Prop,∀f m',J f m'↔(f.forget [0,3]=mat 83 [(0,s),(3,.ptr b3 0)]∧m1<+:m'∧ ∀e∈x.elems,outB l.length e=false):=⟨_,fun _ _=>Iff.rfl⟩
 refine W_JB J ?_ ?_
 ·obtain ⟨I,hI⟩: ∃I:Nat→AFrame→AMem→Prop,∀q f m',I q f m'↔(∃k:Nat,k+q=x.elems.length∧f=h173_0 s (.ptr b3 0) (.int .i64 k)∧m1<+:m'∧ ∀(j:Nat) e,j<k→x.elems[j]? =some e→outB l.length e=false):=⟨_,fun _ _ _=>Iff.rfl⟩
  refine W_loop I x.elems.length ((hI _ _ _).2 ⟨0,by simp,by simp,List.prefix_refl _,fun _ _ h=>by omega⟩) ?_
  rintro q f m2 hIn
  obtain ⟨k,hk,rfl,hm2,ho⟩:=(hI _ _ _).1 hIn
  clear hIn
  have hm02:=hm01.trans hm2
  simp[bx (readB_mono hm2 hb0),(he.mono hm02).len]
  refine bbind_dec (fun hkl=>?_) fun hkl=>?_
  ·have hkl:k<x.elems.length:=by omega
   have hw:=step64 hkl (by omega)
   obtain ⟨q,rfl⟩: ∃q',q=q'+1:=⟨q-1,by omega⟩
   obtain ⟨b1,o1,g1,g2⟩:=(he.mono hm02).at hkl
   simp[bx (readB_mono hm2 hb0),g1,g2]
   refine C_of (k152 s l x.elems[k] m2 (hs.mono hm02)) ?_
   rintro _ m3 ⟨rfl,rfl⟩
   have hob:outB l.length x.elems[k]= !(decide (0≤x.elems[k])&&decide (x.elems[k]<l.length)):=rfl
   cases hin:(decide (0≤x.elems[k])&&decide (x.elems[k]<l.length))
   ·rw[hin] at hob
    have hf:=findI_none (l:=l) (x:=x) ⟨_,List.getElem_mem hkl,hob⟩
    simp[hf]
    exact hm02
   ·rw[hin] at hob
    simp[hw]
    refine ⟨q,by omega,(hI _ _ _).2 ⟨k+1,by omega,by simp,hm2,fun j e hj hje=>?_⟩⟩
    by_cases hjk:j=k
    ·subst hjk;rw[List.getElem?_eq_getElem hkl] at hje;cases hje;exact hob
    ·exact ho j e (by omega) hje
  ·simp
   refine (hJ _ _).2 ⟨by simp,hm2,fun e he'=>?_⟩
   obtain ⟨j,hj,rfl⟩:=List.getElem_of_mem he'
   exact ho j _ (by omega) (List.getElem?_eq_getElem hj)
 intro f m2 hJ2
 obtain ⟨hf,hm2,hin⟩:=(hJ _ _).1 hJ2
 clear hJ2 hJ
 have hm02:=hm01.trans hm2
 simp[hf]
 -- the table with it
 refine W_draw (fun _ _ _=>True) (by simp[maxDst]) ?_
 have hr2:=bxW (readB_mono hm2 hb0) 6
 simp[readN] at hr2
 refine D_pc 0 1 [2,1,3,4,5,6] ?_
 simp
 intro _ _
 refine D_R rfl trivial ⟨_,List.prefix_refl _,fun _ h=>by cases h⟩ ?_
 simp[hr2]
 refine D_X rfl rfl fun m3 hm3 _=>?_
 simp
 refine C_of (k131 s l m3 (hs.mono (hm02.trans hm3)) (fun y hy=>h40 y (by simp[hy])) hn) ?_
 rintro t4 m4 ⟨hm4,hT⟩
 have hm24:=hm3.trans hm4
 refine ⟨by simp[lateOf,ROp.ev,readB_mono hm24 (readB_mono hm2 hb0),readN],?_⟩
 refine D_X rfl rfl fun m5 hm5 _=>?_
 simp
 refine C_of (k156 _ x m5 (hx0.mono ((hm02.trans hm24).trans hm5)) hx40) ?_
 rintro _ m6 ⟨hm6,c6,rfl,hM⟩
 refine ⟨by simp[lateOf],?_⟩
 have hcl6:=hM.mode.all
 obtain ⟨e6,nm6,hc6,_,_⟩:=id hM
 have hfill:fillA [.int .i64 0,.int .i64 0,.nilslice,.nilslice,.int .i64 0,.bool false] [(0,6,.agg c6)]=some c6:=by
  subst hc6
  have h:=hcl6.2
  simp only[List.all_cons,List.all_nil,Bool.and_eq_true] at h
  simp[fillA,setN,h.2.2.1,h.2.2.2.1]
 refine D_A rfl trivial ?_
 simp[hfill]
 intro b'
 refine D_W rfl rfl fun m7 hm7 hf7=>?_
 have h7:=hf7 4
 simp[upd] at h7
 have hm47:=(hm5.trans hm6).trans hm7
 obtain ⟨t8,m8,happ,hch8,hT8,_⟩:=(hT.mono hm47).pushM (by have:=hm4.length_le;have:=hm47.length_le;omega) (hM.mono hm7) (fun b hb=>by have:=(hT.blk_lo hb).2;have:=hm5.length_le;omega) (by have:=hm4.length_le;have:=hm5.length_le;omega) (by omega)
 simp[lit6' h7 hcl6.1,happ]
 refine D_P rfl trivial ?_
 simp
 refine D_end fun m9 hm9 _=>?_
 have hm38:m3<+:m8:=hch8.pre (hm4.trans hm47) fun b hb h=>by have:=(hT.blk_lo h).1;omega
 have hm29:=(hm3.trans hm38).trans hm9
 have hm09:=hm02.trans hm29
 have hT9:=(hT8.mono hm9).tab
 have hlL:(l++ [x]).length=l.length+1:=by simp
 have hb9:=readB_mono hm29 (readB_mono hm2 hb0)
 clear happ hch8 h7 hT hT8 hM hfill hcl6 hr2
 simp
 refine C_of (k18 t8 (l++ [x]) m9 hT9 hsz (by omega)) ?_
 rintro _ m10 ⟨rfl,hm10⟩
 by_cases hc:checkI (l++ [x])=0
 rotate_left
 ·have hfi:findI l x=none:=by rw[findI_ok hin,if_pos hc]
  simp[bneT hc,hfi]
  exact hm09.trans hm10
 have ok:=okT_of hc
 simp[hc]
 -- the first one that may be equal
 obtain ⟨J,hJ⟩: ∃J:AFrame→AMem→Prop,∀f m',J f m'↔(∃i:Nat,f.forget [0,3,7,8]=mat 83 [(0,s),(3,.ptr b3 0),(7,t8),(8,.int .i64 i)]∧m10<+:m'∧i≤l.length∧(∀j,j<i→firstC (mdAt l j) x≠0)∧(i<l.length→firstC (mdAt l i) x=0)):=⟨_,fun _ _=>Iff.rfl⟩
 refine W_JB J ?_ ?_
 ·obtain ⟨I,hI⟩: ∃I:Nat→AFrame→AMem→Prop,∀q f m',I q f m'↔(∃i:Nat,i+q=l.length∧f=h173_1 s (.ptr b3 0) t8 (.int .i64 i)∧m10<+:m'∧ ∀j,j<i→firstC (mdAt l j) x≠0):=⟨_,fun _ _ _=>Iff.rfl⟩
  refine W_loop I l.length ((hI _ _ _).2 ⟨0,by simp,by simp,List.prefix_refl _,fun _ h=>by omega⟩) ?_
  rintro q f m11 hIn
  obtain ⟨i,hi,rfl,hm11,hne⟩:=(hI _ _ _).1 hIn
  clear hIn
  have hm011:=(hm09.trans hm10).trans hm11
  simp
  refine W_draw (fun _ _ _=>True) (by simp[maxDst]) ?_
  refine D_pc 0 10 [10,11,12] ?_
  by_cases hil:i<l.length
  ·have hil':(i:Int)<l.length:=by omega
   obtain ⟨bi,oi,ci,g1,g2,_,_,g3⟩:=(hs.mono hm011).atC hil
   have hrx:=bxW (readB_mono (hm10.trans hm11) hb9) 6
   simp[readN] at hrx
   simp[(hs.mono hm011).len,hil',g1,g2,hrx]
   intro _ _
   refine D_Xg rfl rfl (b:=true) (by simp) (fun _ m12 hm12 _=>?_) (fun h=>absurd rfl h)
   simp
   have hmi:l[i]∈l++ [x]:=by simp
   refine C_of (k128 ci _ l[i] x m12 (g3.mono hm12) (hx0.mono (hm011.trans hm12)) (hsz _ hmi) hxs (ok.names _ hmi x (by simp))) ?_
   rintro _ m13 ⟨rfl,hm13⟩
   refine ⟨by simp[lateOf],?_⟩
   refine D_pc 11 2 [] ?_
   simp
   intro _ _
   refine D_end fun m14 hm14 _=>?_
   have hm1114:=(hm12.trans hm13).trans hm14
   rw[←mdAt_eq hil]
   by_cases hf0:firstC (mdAt l i) x=0
   ·simp[hf0]
    exact (hJ _ _).2 ⟨i,by simp,hm11.trans hm1114,by omega,hne,fun _=>hf0⟩
   ·have hw:=step64 hil (by omega)
    simp[bneT hf0,hw]
    refine ⟨q-1,by omega,(hI _ _ _).2 ⟨i+1,by omega,by simp,hm11.trans hm1114,fun j hj=>?_⟩⟩
    by_cases hji:j=i
    ·subst hji;exact hf0
    ·exact hne j (by omega)
  ·have hil': ¬(i:Int)<l.length:=by omega
   simp[(hs.mono hm011).len,hil']
   intro _ _
   refine D_Xg rfl rfl (b:=false) (by simp) (fun h=>by cases h) (fun _ m12 hm12 _=>⟨by simp[lateOf],?_⟩)
   refine D_pc 11 2 [] ?_
   simp
   intro _ _
   refine D_end fun m14 hm14 _=>?_
   simp
   exact (hJ _ _).2 ⟨i,by simp,hm11.trans (hm12.trans hm14),by omega,hne,fun h=>absurd h hil⟩
 intro f m11 hJ2
 obtain ⟨i,hf,hm11,hil,hne,hi0⟩:=(hJ _ _).1 hJ2
 clear hJ2 hJ
 have hm011:=(hm09.trans hm10).trans hm11
 have hlast:l.length<(l++ [x]).length:=by omega
 have hneR: ∀j,j<i→RR (l++ [x]) j≠RR (l++ [x]) l.length:=fun j hj h=>by
  have:=RR_first (by omega) hlast h
  rw[mdAt_app (by omega),mdAt_last] at this
  exact hne j hj this
 simp[hf,(hs.mono hm011).len]
 by_cases hin':i=l.length
 ·subst hin'
  have hfi:=findI_last hin hc hneR
  simp[hfi]
  exact hm011
 have hil2:i<l.length:=by omega
 have hi': ¬(i:Int)=l.length:=by omega
 obtain ⟨bi,oi,ei,g1,g2,g3⟩:=hs.elems hil2
 have hrx:=bx (readB_mono (hm10.trans hm11) hb9) 2
 simp at hrx
 have g2':=(g2 m11 hm011).2
 simp[beqF hi']
 refine W_draw (fun _ _ _=>True) (by simp[maxDst]) ?_
 refine D_pc 0 7 [7] ?_
 simp[g1,g2',hrx]
 intro _ _
 refine D_X rfl rfl fun m12 hm12 _=>?_
 simp
 have hli:=hsz l[i] (by simp)
 refine C_of (k129 ei e l[i].elems x.elems m12 (g3.mono (hm011.trans hm12)) (he.mono (hm011.trans hm12)) hli.1) ?_
 rintro _ m13 ⟨rfl,hm13⟩
 refine ⟨by simp[lateOf],?_⟩
 refine D_end fun m14 hm14 _=>?_
 have hm1114:=(hm12.trans hm13).trans hm14
 have hm1014:=hm11.trans hm1114
 have hm014:=hm011.trans hm1114
 by_cases hel:l[i].elems=x.elems
 ·have hRR:RR (l++ [x]) i=RR (l++ [x]) l.length:=by
   refine RR_same (by omega) hlast ?_ ?_
   ·rw[mdAt_app hil2,mdAt_last];exact hi0 hil2
   ·rw[mdAt_app hil2,mdAt_last,mdAt_eq hil2];exact hel
  have hfi:=findI_some hin hc hil2 hRR hneR
  simp[hel,hfi]
  exact hm014
 simp[hel]
 refine C_of (k127 t8 (l++ [x]) m14 (hT9.mono (hm10.trans hm1014)) ok.good ok.len hsz ok.h64 ok.names) ?_
 rintro v15 m15 ⟨hm15,hR⟩
 have hRi:=ints_of_nat hR
 have hrat: ∀j,j<l.length+1→ ∃b o,(∀k,iaddrE 1 v15 (.int k (j:Nat))=some (.ptr b o))∧ ∀m',m15<+:m'→loadE m' 1 false (.ptr b o)=some (.int .i64 (RR (l++ [x]) j:Nat)):=fun j hj=>by
  obtain ⟨b,o,h1,h2⟩:=hRi.at (i:=j) (by simp[Rl_length];omega)
  have hg:(Rl (l++ [x]) ((l++ [x]).length+1))[j]? =some (RR (l++ [x]) j):=Rl_get _ _ (by omega)
  have hg2:(Rl (l++ [x]) ((l++ [x]).length+1))[j]'(by rw[Rl_length];omega)=RR (l++ [x]) j:=by
   have:=List.getElem?_eq_getElem (l:=Rl (l++ [x]) ((l++ [x]).length+1)) (i:=j) (by rw[Rl_length];omega)
   rw[hg] at this;simpa using this.symm
  refine ⟨b,o,h1,fun m' hm'=>?_⟩
  rw[loadE_mono hm' h2]
  simp only[List.getElem_map,hg2]
 obtain ⟨bn,on,gn1,gn2⟩:=hrat l.length (by omega)
 simp
 obtain ⟨I,hI⟩: ∃I:Nat→AFrame→AMem→Prop,∀q f m',I q f m'↔(∃j:Nat,j+q=l.length∧i≤j∧f=h173_2 s v15 (.int .i64 j)∧m15<+:m'∧ ∀k,k<j→RR (l++ [x]) k≠RR (l++ [x]) l.length):=⟨_,fun _ _ _=>Iff.rfl⟩
 refine W_loop I (l.length-i) ((hI _ _ _).2 ⟨i,by omega,by omega,by simp,List.prefix_refl _,hneR⟩) ?_
 rintro q f m16 hIn
 obtain ⟨j,hj,hij,rfl,hm16,hnk⟩:=(hI _ _ _).1 hIn
 clear hIn
 have hm016:=(hm014.trans hm15).trans hm16
 simp[(hs.mono hm016).len]
 refine bbind_dec (fun hjl=>?_) fun hjl=>?_
 ·have hjl:j<l.length:=by omega
  have hw:=step64 hjl (by omega)
  obtain ⟨q,rfl⟩: ∃q',q=q'+1:=⟨q-1,by omega⟩
  obtain ⟨bj,oj,gj1,gj2⟩:=hrat j (by omega)
  have gj:=gj2 m16 hm16
  have gn:=gn2 m16 hm16
  simp
  refine W_drawPR (by simp[maxDst]) rfl rfl ?_
  simp[gj1,gj,(hs.mono hm016).len,gn1,gn]
  intro m17 hm17
  by_cases hRR:RR (l++ [x]) j=RR (l++ [x]) l.length
  ·have hfi:=findI_some hin hc hjl hRR hnk
   simp[hRR,hfi]
   exact hm016.trans hm17
  ·have hRR': ¬((RR (l++ [x]) j:Nat):Int)=(RR (l++ [x]) l.length:Nat):=by omega
   simp[beqF hRR',hw]
   refine ⟨q,by omega,(hI _ _ _).2 ⟨j+1,by omega,by omega,by simp,hm16.trans hm17,fun k hk=>?_⟩⟩
   by_cases hkj:k=j
   ·subst hkj;exact hRR
   ·exact hnk k (by omega)
 ·have hfi:=findI_last hin hc fun k hk=>hnk k (by omega)
  simp[hfi]
  exact hm016
end Go.Proofs.YtlniliigcnedmaaGreat
namespace Go.Proofs.YtlniliigcnedmaaGreat
open Go Ax
set_option maxRecDepth 100000
set_option maxHeartbeats 8000000 in
theorem k170f (s:AVal) (c:List AVal) (l:List Md) (x:Md) (m:AMem) (hs:RTab m s l) (hx:RMode m c x) (hsz: ∀y∈l++ [x],smallN y) (h40: ∀y∈l++ [x],y.elems.length<2^40∧y.names.length<2^40) (hn:l.length<2^20):
  ACalls Tryz.prog 170 [s,.agg c] m fun v m'=>m<+:m'∧ ∃t,v= .tuple [t,.int .i64 (putI l x).2.1,.int .i64 (putI l x).2.2]∧TabS (fun b=>b<m.length) m' t (putI l x).1:=by
 have hx0:=hx
 have hcl:=hx.all
 obtain ⟨e,nm,rfl,he,hnm⟩:=hx
 refine w170 ?_
 have h1:=Sl.one he
 have h2:=Sl.one hnm
 simp[h1,h2]
 have hb0:=readB_new m [.int .i64 x.kind,.int .i64 x.size,e,nm,.int .i64 x.dims,.bool x.flex] 40 none
 have hm01:m<+:m++ [.own [.int .i64 x.kind,.int .i64 x.size,e,nm,.int .i64 x.dims,.bool x.flex] 40 none]:=List.prefix_append _ _
 generalize m++ [.own [.int .i64 x.kind,.int .i64 x.size,e,nm,.int .i64 x.dims,.bool x.flex] 40 none]=m1 at*
 generalize hb3:m.length=b3 at*
 have hlL:(l++ [x]).length=l.length+1:=by simp
 have hx40:=h40 x (by simp)
 refine C_of (k18 s l m1 (hs.mono hm01) (fun y hy=>hsz y (by simp[hy])) (by omega)) ?_
 rintro _ m2 ⟨rfl,hm2⟩
 have hm02:=hm01.trans hm2
 by_cases hc:checkI l=0
 rotate_left
 ·have hp:putI l x=([],0,checkI l):=by
   unfold putI
   rw[if_pos hc]
  simp[bneT hc,hp]
  exact ⟨hm02,TabS.nil⟩
 have hp:putI l x=match findI l x with
   |some i=>(l,(i:Int),0)
   |none=>if checkI (l++ [x])≠0 then ([],0,checkI (l++ [x])) else (l++ [x],(l.length:Int),0):=by
  unfold putI
  rw[if_neg (by simp[hc])]
  all_goals (cases findI l x<;>rfl)
 have hr2:=bxW (readB_mono hm2 hb0) 6
 simp[readN] at hr2
 simp[hc,hr2]
 refine C_of (k173 s _ l x m2 (hs.mono hm02) (hx0.mono hm02) hsz h40 hn) ?_
 rintro _ m3 ⟨hm3,rfl⟩
 have hm03:=hm02.trans hm3
 cases hf:findI l x with
 |some i=>
  rw[hf] at hp
  simp only at hp
  simp
  refine C_of (k131 s l m3 (hs.mono hm03) (fun y hy=>h40 y (by simp[hy])) hn) ?_
  rintro t4 m4 ⟨hm4,hT⟩
  simp[hp]
  exact ⟨hm03.trans hm4,hT.tabS.weaken fun b hb=>by have:=hm03.length_le;omega⟩
 |none=>
  rw[hf] at hp
  simp only at hp
  simp
  have hb3:=readB_mono (hm2.trans hm3) hb0
  refine W_draw (fun _ _ _=>True) (by simp[maxDst]) ?_
  have hr3:=bxW hb3 6
  simp[readN] at hr3
  refine D_pc 0 1 [2,1,3,4,5,6] ?_
  simp
  intro _ _
  refine D_R rfl trivial ⟨_,List.prefix_refl _,fun _ h=>by cases h⟩ ?_
  simp[hr3]
  refine D_X rfl rfl fun m4 hm4 _=>?_
  simp
  refine C_of (k131 s l m4 (hs.mono (hm03.trans hm4)) (fun y hy=>h40 y (by simp[hy])) hn) ?_
  rintro t5 m5 ⟨hm5,hT⟩
  refine ⟨by simp[lateOf,ROp.ev,readB_mono (hm4.trans hm5) hb3,readN],?_⟩
  refine D_X rfl rfl fun m6 hm6 _=>?_
  simp
  refine C_of (k156 _ x m6 (hx0.mono (((hm03.trans hm4).trans hm5).trans hm6)) hx40) ?_
  rintro _ m7 ⟨hm7,c7,rfl,hM⟩
  refine ⟨by simp[lateOf],?_⟩
  have hcl7:=hM.mode.all
  obtain ⟨e7,nm7,hc7,_,_⟩:=id hM
  have hfill:fillA [.int .i64 0,.int .i64 0,.nilslice,.nilslice,.int .i64 0,.bool false] [(0,6,.agg c7)]=some c7:=by
   subst hc7
   have h:=hcl7.2
   simp only[List.all_cons,List.all_nil,Bool.and_eq_true] at h
   simp[fillA,setN,h.2.2.1,h.2.2.2.1]
  refine D_A rfl trivial ?_
  simp[hfill]
  intro b'
  refine D_W rfl rfl fun m8 hm8 hf8=>?_
  have h8:=hf8 4
  simp[upd] at h8
  have hm58:=(hm6.trans hm7).trans hm8
  obtain ⟨t9,m9,happ,hch9,hT9,_⟩:=(hT.mono hm58).pushM (by have:=hm5.length_le;have:=hm58.length_le;omega) (hM.mono hm8) (fun b hb=>by have:=(hT.blk_lo hb).2;have:=hm6.length_le;omega) (by have:=hm5.length_le;have:=hm6.length_le;omega) (by omega)
  simp[lit6' h8 hcl7.1,happ]
  refine D_P rfl trivial ?_
  simp
  refine D_end fun m10 hm10 _=>?_
  have hm49:m4<+:m9:=hch9.pre (hm5.trans hm58) fun b hb h=>by have:=(hT.blk_lo h).1;omega
  have hm310:=(hm4.trans hm49).trans hm10
  have hm010:=hm03.trans hm310
  have hT10:=(hT9.mono hm10).tab
  simp
  refine C_of (k18 t9 (l++ [x]) m10 hT10 hsz (by omega)) ?_
  rintro _ m11 ⟨rfl,hm11⟩
  by_cases hc2:checkI (l++ [x])=0
  ·rw[if_neg (by simp[hc2])] at hp
   simp[hc2,hp,(hs.mono (hm010.trans hm11)).len]
   exact ⟨hm010.trans hm11,(hT9.mono (hm10.trans hm11)).tabS.weaken fun b hb=>by have:=(hm03.trans hm4).length_le;omega⟩
  ·rw[if_pos hc2] at hp
   simp[bneT hc2,hp]
   exact ⟨hm010.trans hm11,TabS.nil⟩
end Go.Proofs.YtlniliigcnedmaaGreat
namespace Go.Proofs.YtlniliigcnedmaaGreat
open Go Ax
set_option maxRecDepth 100000
structure UpTo (f:Nat→Nat) (ms:List Nat) (r:Nat) (zs:List Nat):Prop where
 asc:zs.Pairwise (fun a b=>f a<f b)
 sub: ∀z∈zs,z∈ms∧f z<r
 cov: ∀y∈ms,f y<r→ ∃z∈zs,f z=f y∧z≤y
theorem UpTo.skip {f:Nat→Nat} {ms:List Nat} {r:Nat} {zs:List Nat} (h:UpTo f ms r zs) (hn: ∀y∈ms,f y≠r):UpTo f ms (r+1) zs:=
 ⟨h.asc,fun z hz=>⟨(h.sub z hz).1,by have:=(h.sub z hz).2;omega⟩,fun y hy hl=>h.cov y hy (by have:=hn y hy;omega)⟩
theorem UpTo.take {f:Nat→Nat} {ms:List Nat} {r:Nat} {zs:List Nat} (h:UpTo f ms r zs) {k:Nat} (hk:k∈ms) (hr:f k=r) (hl: ∀y∈ms,f y=r→k≤y):UpTo f ms (r+1) (zs++ [k]):=by
 refine ⟨?_,fun z hz=>?_,fun y hy hlt=>?_⟩
 ·rw[List.pairwise_append]
  refine ⟨h.asc,by simp,fun a ha b hb=>?_⟩
  simp at hb
  subst hb
  have:=(h.sub a ha).2
  omega
 ·rcases List.mem_append.1 hz with hz|hz
  ·exact ⟨(h.sub z hz).1,by have:=(h.sub z hz).2;omega⟩
  ·simp at hz;subst hz;exact ⟨hk,by omega⟩
 ·by_cases he:f y=r
  ·exact ⟨k,by simp,by omega,hl y hy he⟩
  ·obtain ⟨z,h1,h2⟩:=h.cov y hy (by omega)
   exact ⟨z,by simp[h1],h2⟩
end Go.Proofs.YtlniliigcnedmaaGreat
namespace Go.Proofs.YtlniliigcnedmaaGreat
open Go Ax
open Relation
set_option maxRecDepth 100000
theorem rlAt {m:AMem} {r:AVal} {l:List Md} (h:RInts m r ((Rl l (l.length+1)).map fun z:Nat=>(z:Int))) {j:Nat} (hj:j<l.length): ∃b o,(∀k,iaddrE 1 r (.int k (j:Nat))=some (.ptr b o))∧ ∀m',m<+:m'→loadE m' 1 false (.ptr b o)=some (.int .i64 (RR l j:Nat)):=by
 obtain ⟨b,o,h1,h2⟩:=h.at (i:=j) (by simp[Rl_length];omega)
 have hg:(Rl l (l.length+1))[j]? =some (RR l j):=Rl_get _ _ hj
 have hg2:(Rl l (l.length+1))[j]'(by rw[Rl_length];omega)=RR l j:=by
  have:=List.getElem?_eq_getElem (l:=Rl l (l.length+1)) (i:=j) (by rw[Rl_length];omega)
  rw[hg] at this;simpa using this.symm
 refine ⟨b,o,h1,fun m' hm'=>?_⟩
 rw[loadE_mono hm' h2]
 simp only[List.getElem_map,hg2]
theorem k169 (s:AVal) (l:List Md) (i:Nat) (hi:i<l.length) (m:AMem) (hs:RTab m s l) (hsz: ∀x∈l,smallN x) (hc:checkI l=0):
  ACalls Tryz.prog 169 [s,.int .i64 i] m fun v m'=>m<+:m'∧ ∃b,v= .bool b∧(b=true↔FlexP l i):=by
 refine w169 ?_
 have ok:=okT_of hc
 simp
 refine C_of (k18 s l m hs hsz (by have:=ok.len;omega)) ?_
 rintro _ m1 ⟨rfl,hm1⟩
 have hil:(i:Int)<l.length:=by omega
 have hl1:=(hs.mono hm1).len
 have hle:(l.length:Int)≤281474976710656:=by have:=ok.len;omega
 have hle2:(l.length:Int)≤9223372036854775807:=by omega
 simp[hc,hl1,hil,hle,hle2]
 have hN:=OwL.rep (f:=AVal.bool) m1 4 l.length false
 have hm12:m1<+:m1++ [.own (List.replicate l.length (AVal.bool false)) 4 none]:=List.prefix_append _ _
 have hlo:=hm12.length_le
 generalize m1++ [.own (List.replicate l.length (AVal.bool false)) 4 none]=m2 at*
 refine C_of (k33 s l m hs ok.good ok.acy ok.len hsz m1.length hm1.length_le _ (hgt l i+1) i hi (by omega) m2 (List.replicate l.length false) (hm1.trans hm12) hN (by simp) (fun j h=>by
  rw[List.getElem?_replicate] at h
  split at h<;>simp at h)) ?_
 rintro _ m3 ⟨hm3,⟨b,rfl,hb⟩,_⟩
 simp
 refine ⟨hm3,?_⟩
 cases b
 ·exact .inl ⟨rfl,fun h=>by have:=hb.2 h;cases this⟩
 ·exact .inr ⟨rfl,hb.1 rfl⟩
end Go.Proofs.YtlniliigcnedmaaGreat
namespace Go.Proofs.YtlniliigcnedmaaGreat
open Go Ax
set_option maxRecDepth 100000
theorem rightA {l:List Md} {ms:List Int} (h:rightI l ms=0):checkI l=0∧ ∃ns:List Nat,ms=ns.map (fun z:Nat=>(z:Int))∧ ∀z∈ns,z<l.length:=by
 unfold rightI at h
 split at h
 ·omega
 ·rename_i hc
  have hc:checkI l=0:=Decidable.of_not_not hc
  split at h
  ·omega
  ·rename_i ha
   have ha': ∀x∈ms,0≤x∧x<l.length:=fun x hx=>by
    have:=List.any_eq_false.1 (Bool.not_eq_true _▸ha) x hx
    simp[outB] at this
    omega
   refine ⟨hc,ms.map Int.toNat,?_,fun z hz=>?_⟩
   ·rw[List.map_map]
    have: ∀x∈ms,((fun z:Nat=>(z:Int))∘Int.toNat) x=id x:=fun x hx=>by
     have:=ha' x hx
     simp
     omega
    rw[List.map_congr_left this,List.map_id]
   ·obtain ⟨x,hx,rfl⟩:=List.mem_map.1 hz
    have:=ha' x hx
    omega
open Classical in
theorem k116 (s:AVal) (l:List Md) (i:Nat) (hi:i<l.length) (m:AMem) (hs:RTab m s l) (hsz: ∀x∈l,smallN x) (hc:checkI l=0):
  ACalls Tryz.prog 116 [s,.int .i64 i] m fun v m'=>v= .bool (decide (FlexP l i))∧m<+:m':=by
 refine w116 ?_
 have ok:=okT_of hc
 simp
 refine C_of (k21 s l m hs hsz (by have:=ok.len;omega)) ?_
 rintro _ m1 ⟨rfl,hm1⟩
 have hil:(i:Int)<l.length:=by omega
 simp[hc]
 refine C_of (k65 s l i m1 (hs.mono hm1)) ?_
 rintro _ m1 ⟨rfl,rfl⟩
 simp[hil]
 refine C_of (k39 s l m1 (hs.mono hm1) ok.good ok.acy ok.len hsz) ?_
 rintro v m2 ⟨hm2,O,hO,hOl,hOf⟩
 obtain ⟨b,o,_,h1,h2,_⟩:=hO.at (i:=i) (by omega)
 simp[h1,h2]
 refine ⟨?_,hm1.trans hm2⟩
 have:=hOf i
 rw[List.getElem?_eq_getElem (by omega)] at this
 by_cases hf:FlexP l i
 ·have:=this.2 ⟨hi,hf⟩
  simp at this
  simp[this,hf]
 ·have h3: ¬O[i]=true:=fun h=>hf (this.1 (by rw[h])).2
  simp at h3
  simp[h3,hf]
end Go.Proofs.YtlniliigcnedmaaGreat
namespace Go.Proofs.YtlniliigcnedmaaGreat
open Go Ax
set_option maxRecDepth 100000
noncomputable def leastI (l:List Md) (p:Nat):Int:=fidx (fun i=>RR l i==RR l p) 0 l.length
end Go.Proofs.YtlniliigcnedmaaGreat
namespace Go.Proofs.YtlniliigcnedmaaGreat
open Go Ax
open Relation
set_option maxRecDepth 100000
structure CheckOk (l:List Md):Prop where
 len:l.length≤512
 one: ∀x∈l,oneI x l.length=0
 void:l.any (voidsB l)=false
 bad: ∀r,r<l.length→ ¬badM l r
 flex: ∀x∈l,flexOf x=true→ ∀e∈x.elems,¬FlexP l e.toNat
theorem checkOk_iff {l:List Md}:checkI l=0↔CheckOk l:=by
 constructor
 ·intro h
  unfold checkI at h
  split at h
  ·omega
  ·rename_i h1
   split at h
   ·rename_i h2;exact absurd h h2
   ·rename_i h2
    split at h
    ·omega
    ·rename_i h3
     split at h
     ·omega
     ·rename_i h4
      split at h
      ·omega
      ·rename_i h5
       refine ⟨by omega,fun x hx=>?_,by simpa using h3,fun r hr hb=>h4 ⟨r,hr,hb⟩,fun x hx hf e he hp=>h5 ⟨x,hx,hf,e,he,hp⟩⟩
       have h2:firstI (l.map (oneI · l.length))=0:=by simpa using h2
       rw[firstI_zero] at h2
       exact h2 _ (List.mem_map.2 ⟨x,hx,rfl⟩)
 ·intro h
  unfold checkI
  rw[if_neg (by have:=h.len;omega),if_neg,if_neg (by rw[h.void];simp),if_neg (fun ⟨r,hr,hb⟩=>h.bad r hr hb),if_neg (fun ⟨x,hx,hf,e,he,hp⟩=>h.flex x hx hf e he hp)]
  intro hc
  apply hc
  rw[firstI_zero]
  intro y hy
  obtain ⟨x,hx,rfl⟩:=List.mem_map.1 hy
  exact h.one x hx
theorem one_more {x:Md} {n:Nat} (h:oneI x n=0):oneI x (n+1)=0:=by
 obtain ⟨h1,h2,h3,h4⟩:=oneI_zero h
 unfold oneI
 rw[if_neg (by simp[h1]),if_neg,if_neg,if_neg (by rw[h4];simp)]
 ·simp only[List.any_eq_true,not_exists,not_and]
  intro s hs
  simp[h3 s hs]
 ·simp only[List.any_eq_true,not_exists,not_and]
  intro e he
  have:=h2 e he
  simp[outB]
  omega
theorem no_into {l:List Md} {x:Md} (hg:goodT l) (hx: ∀e∈x.elems,0≤e∧e<(l.length:Int)) {p:Md→Bool} {a:Nat}: ¬stepR (l++ [x]) p a l.length:=by
 rintro ⟨y,h1,_,h3⟩
 have hy:y∈l++ [x]:=List.mem_of_getElem? h1
 rcases List.mem_append.1 hy with h|h
 ·have:=hg y h _ h3;omega
 ·simp at h;subst h;have:=hx _ h3;omega
theorem flex_app {l:List Md} {x:Md} (hg:goodT l) {a:Nat} (ha:a<l.length) (h:FlexP (l++ [x]) a):FlexP l a:=by
 induction h with
 |flex h1 h2 h3=>
  rw[List.getElem?_append_left ha] at h1
  exact .flex h1 h2 h3
 |step h1 h2 ih=>
  obtain ⟨y,g1,g2⟩:=h1
  rw[List.getElem?_append_left ha] at g1
  have hb:=hg y (List.mem_of_getElem? g1) _ g2.2
  exact .step ⟨y,g1,g2⟩ (ih (by omega))
end Go.Proofs.YtlniliigcnedmaaGreat
namespace Go.Proofs.YtlniliigcnedmaaGreat
open Go Ax Go.ChangeShapes Go.WideShapes Go.ChangeAt Go.RowKit
set_option maxRecDepth 100000
theorem under22: Tryz.prog.underlying 22=some (.slice 40):=by kernel_rfl
theorem under3: Tryz.prog.underlying 3=some (.int .i64):=by kernel_rfl
theorem under4: Tryz.prog.underlying 4=some .bool:=by kernel_rfl
theorem under33: Tryz.prog.underlying 23=some (.slice 3):=by kernel_rfl
theorem under47: Tryz.prog.underlying 38=some (.slice 9):=by kernel_rfl
theorem under9: Tryz.prog.underlying 9=some .string:=by kernel_rfl
theorem laidOut:laidOutB Tryz.prog=true:=by kernel_rfl
theorem own0:ownKnob Tryz.prog.godebug=none:=by kernel_rfl
noncomputable def fs49:Array Field:=match Tryz.prog.underlying 40 with|some (.struct fs)=>fs|_=> #[]
noncomputable def modeT:ModeT Tryz.prog:=
 {tT:=22,tM:=40,tI:=23,eI:=3,tS:=38,eS:=9,k0:=3,k1:=3,k4:=3,k5:=4,fs:=fs49,
  hT:=under22,hM:=by kernel_rfl,hI:=under33,hi:=under3,hS:=under47,hs:=under9,h0:=under3,h1:=under3,h4:=under3,h5:=under4,
  cM:=by kernel_rfl,ci:=by kernel_rfl,cs:=by kernel_rfl,c0:=by kernel_rfl,c1:=by kernel_rfl,cI:=by kernel_rfl,cS:=by kernel_rfl,c4:=by kernel_rfl,c5:=by kernel_rfl,
  bi:=by kernel_rfl,bs:=by kernel_rfl,bM:=of_decide_eq_true (by kernel_rfl),sz:=by kernel_rfl,f0:=by kernel_rfl,f1:=by kernel_rfl,f2:=by kernel_rfl,f3:=by kernel_rfl,f4:=by kernel_rfl,f5:=by kernel_rfl}
end Go.Proofs.YtlniliigcnedmaaGreat
namespace Go.Proofs.YtlniliigcnedmaaGreat
open Go Ax
open Relation
set_option maxRecDepth 100000
theorem OrdG.zero_trans {α:Type} {c:α→α→Int} {D:α→Prop} (h:OrdG c D) {a b d:α} (ha:D a) (hb:D b) (hd:D d) (h1:c a b=0) (h2:c b d=0):c a d=0:=by
 have e1:=h.trans a b d ha hb hd (by omega) (by omega)
 have e2:=h.trans d b a hd hb ha (by rw[(h.zero hb hd).1 h2];omega) (by rw[(h.zero ha hb).1 h1];omega)
 have:=h.anti a d ha hd
 have:=h.anti d a hd ha
 omega
structure Bisim (l:List Md) (E:Nat→Nat→Prop):Prop where
 lt: ∀a b,E a b→a<l.length∧b<l.length
 first: ∀a b,E a b→firstC (mdAt l a) (mdAt l b)=0
 up: ∀a b j,E a b→isU (mdAt l a)=true→IsPart l a j→ ∃j',IsPart l b j'∧E j j'
 down: ∀a b j,E a b→isU (mdAt l b)=true→IsPart l b j→ ∃j',IsPart l a j'∧E j' j
 len: ∀a b,E a b→isU (mdAt l a)=false→(mdAt l a).elems.length=(mdAt l b).elems.length
 el: ∀(a b k:Nat) (e e':Int),E a b→isU (mdAt l a)=false→(mdAt l a).elems[k]? =some e→(mdAt l b).elems[k]? =some e'→E e.toNat e'.toNat
theorem Bisim.R {l:List Md} {E:Nat→Nat→Prop} (h:Bisim l E): ∀d a b,E a b→R l d a=R l d b
 |0,_,_,_=>rfl
 |d+1,a,b,he=>by
  have ih:=h.R d
  obtain ⟨ha,hb⟩:=h.lt a b he
  have hf:=h.first a b he
  have hu:isU (mdAt l a)=isU (mdAt l b):=by unfold isU;rw[firstC_kind hf]
  have hk:keyOf l (Go.Proofs.YtlniliigcnedmaaGreat.R l d) a=keyOf l (Go.Proofs.YtlniliigcnedmaaGreat.R l d) b:=by
   unfold keyOf
   rw[←hu]
   cases hua:isU (mdAt l a)
   ·rw[if_neg (by simp),if_neg (by simp)]
    refine List.ext_getElem? fun k=>?_
    rw[List.getElem?_map,List.getElem?_map]
    have hl:=h.len a b he hua
    by_cases hkl:k<(mdAt l a).elems.length
    ·rw[List.getElem?_eq_getElem hkl,List.getElem?_eq_getElem (by omega)]
     simp only[Option.map_some,Option.some.injEq,Int.natCast_inj]
     exact ih _ _ (h.el a b k _ _ he hua (List.getElem?_eq_getElem hkl) (List.getElem?_eq_getElem (by omega)))
    ·rw[List.getElem?_eq_none (by omega),List.getElem?_eq_none (by omega)]
   ·rw[if_pos rfl,if_pos rfl]
    congr 1
    apply List.filter_congr
    intro v _
    rw[decide_eq_decide]
    constructor
    ·rintro ⟨j,h1,h2⟩
     obtain ⟨j',h3,h4⟩:=h.up a b j he hua h1
     exact ⟨j',h3,by rw[←ih _ _ h4];exact h2⟩
    ·rintro ⟨j,h1,h2⟩
     obtain ⟨j',h3,h4⟩:=h.down a b j he (by rw[←hu];exact hua) h1
     exact ⟨j',h3,by rw[ih _ _ h4];exact h2⟩
  have hc:cmpR l (Go.Proofs.YtlniliigcnedmaaGreat.R l d) d a b=0:=by
   unfold cmpR thenC
   have h0:cmpI (Go.Proofs.YtlniliigcnedmaaGreat.R l d a:Nat) (Go.Proofs.YtlniliigcnedmaaGreat.R l d b:Nat)=0:=cmpI_zero.2 (by rw[ih a b he])
   simp only[h0]
   by_cases hd:d=0
   ·simp[hd,hf]
   ·simp[hd,hk,lexC_refl]
  have h1:=R_lt l d (b:=b) ha
  have h2:=R_lt l d (b:=a) hb
  have h3:=(cmpR_ord l (Go.Proofs.YtlniliigcnedmaaGreat.R l d) d).anti a b trivial trivial
  have h4:=(cmpR_ord l (Go.Proofs.YtlniliigcnedmaaGreat.R l d) d).anti b a trivial trivial
  omega
theorem Bisim.RR {l:List Md} {E:Nat→Nat→Prop} (h:Bisim l E) {a b:Nat} (he:E a b):RR l a=RR l b:=h.R _ a b he
theorem RR_part {l:List Md} (hg:goodT l) {a b j:Nat} (ha:a<l.length) (hb:b<l.length) (h:RR l a=RR l b) (hu:isU (mdAt l a)=true) (hj:IsPart l a j): ∃j',IsPart l b j'∧RR l j=RR l j':=by
 have hk:=RR_key hg ha hb h
 have hub:isU (mdAt l b)=true:=by unfold isU at hu ⊢;rw[←firstC_kind (RR_first ha hb h)];exact hu
 have hr: ∀a,a<l.length→RR l a<l.length:=fun a ha=>R_bound l _ ha
 have k1:=((keyOf_isKey hg hr a).un hu).2 (RR l j:Int)
 have k2:=((keyOf_isKey hg hr b).un hub).2 (RR l j:Int)
 rw[hk] at k1
 obtain ⟨j',h1,h2⟩:=k2.1 (k1.2 ⟨j,hj,rfl⟩)
 exact ⟨j',h1,by omega⟩
theorem RR_elem {l:List Md} (hg:goodT l) {a b:Nat} (ha:a<l.length) (hb:b<l.length) (h:RR l a=RR l b) (hu:isU (mdAt l a)=false):(mdAt l a).elems.length=(mdAt l b).elems.length∧ ∀(k:Nat) (e e':Int),(mdAt l a).elems[k]? =some e→(mdAt l b).elems[k]? =some e'→RR l e.toNat=RR l e'.toNat:=by
 have hk:=RR_key hg ha hb h
 have hub:isU (mdAt l b)=false:=by unfold isU at hu ⊢;rw[←firstC_kind (RR_first ha hb h)];exact hu
 have hr: ∀a,a<l.length→RR l a<l.length:=fun a ha=>R_bound l _ ha
 have k1:=(keyOf_isKey hg hr a).el hu
 have k2:=(keyOf_isKey hg hr b).el hub
 rw[hk,k2] at k1
 refine ⟨by have:=congrArg List.length k1;simpa using this.symm,fun k e e' h1 h2=>?_⟩
 have:=congrArg (·[k]?) k1
 simp only[List.getElem?_map,h1,h2,Option.map_some,Option.some.injEq,Int.natCast_inj] at this
 exact this.symm
section
variable {l:List Md} {zs:List Nat}
theorem RR_app {x:Md} (hg:goodT l) (hg':goodT (l++ [x])) {a b:Nat} (ha:a<l.length) (hb:b<l.length) (h:RR (l++ [x]) a=RR (l++ [x]) b):RR l a=RR l b:=by
 have hl:(l++ [x]).length=l.length+1:=by simp
 have hel: ∀{a k:Nat} {e:Int},a<l.length→(mdAt l a).elems[k]? =some e→e.toNat<l.length:=fun {a k e} ha h=>by
  have:=hg (mdAt l a) (by rw[mdAt_eq ha];exact List.getElem_mem ha) e (List.mem_of_getElem? h)
  omega
 refine Bisim.RR (E:=fun a b=>a<l.length∧b<l.length∧RR (l++ [x]) a=RR (l++ [x]) b) ⟨fun a b h=>⟨h.1,h.2.1⟩,fun a b h=>?_,fun a b j h hu hj=>?_,fun a b j h hu hj=>?_,fun a b h hu=>?_,fun a b k e e' h hu h1 h2=>?_⟩ ⟨ha,hb,h⟩
 ·have:=RR_first (by omega) (by omega) h.2.2
  rwa[mdAt_app h.1,mdAt_app h.2.1] at this
 ·obtain ⟨j',h1,h2⟩:=RR_part hg' (by omega) (by omega) h.2.2 (by rw[mdAt_app h.1];exact hu) ((part_old hg h.1).2 hj)
  have h1:=(part_old hg h.2.1).1 h1
  exact ⟨j',h1,hj.lt hg,h1.lt hg,h2⟩
 ·obtain ⟨j',h1,h2⟩:=RR_part hg' (by omega) (by omega) h.2.2.symm (by rw[mdAt_app h.2.1];exact hu) ((part_old hg h.2.1).2 hj)
  have h1:=(part_old hg h.1).1 h1
  exact ⟨j',h1,h1.lt hg,hj.lt hg,h2.symm⟩
 ·have:=(RR_elem hg' (by omega) (by omega) h.2.2 (by rw[mdAt_app h.1];exact hu)).1
  rwa[mdAt_app h.1,mdAt_app h.2.1] at this
 ·have:=(RR_elem hg' (by omega) (by omega) h.2.2 (by rw[mdAt_app h.1];exact hu)).2 k e e'
  rw[mdAt_app h.1,mdAt_app h.2.1] at this
  exact ⟨hel h.1 h1,hel h.2.1 h2,this h1 h2⟩
end
end Go.Proofs.YtlniliigcnedmaaGreat
namespace Go.Proofs.YtlniliigcnedmaaGreat
open Go Ax Go.ChangeShapes Go.WideShapes Go.ChangeAt Go.RowKit
set_option maxRecDepth 100000
theorem cells3i: Tryz.prog.cellsOf 3=1:=by kernel_rfl
theorem bytes3: Tryz.prog.bytesOf 3=8:=by kernel_rfl
end Go.Proofs.YtlniliigcnedmaaGreat
namespace Go.Proofs.YtlniliigcnedmaaGreat
open Go Ax
open Relation
set_option maxRecDepth 100000
theorem FlexP.congr {l:List Md} (hg:goodT l) {a:Nat} (h:FlexP l a): ∀{b},a<l.length→b<l.length→RR l a=RR l b→FlexP l b:=by
 induction h with
 | @flex a x h1 h2 h3=>
  intro b ha hb he
  have hf:=RR_first ha hb he
  have hx:mdAt l a=x:=by rw[mdAt_eq ha];rw[List.getElem?_eq_getElem ha] at h1;exact Option.some.inj h1
  rw[hx] at hf
  have hk:=firstC_kind hf
  have hfl:x.flex=(mdAt l b).flex:=by
   have hz: ∀{x y:Int} {xs:List Int},firstNZ (x::xs)=0→x=0∧firstNZ xs=0:=fun {x y xs} h=>by
    rw[firstNZ_cons] at h
    split at h
    ·omega
    ·rename_i h0;exact ⟨by omega,h⟩
   unfold firstC firstL at hf
   have e1:=(hz (y:=0) hf).2
   have e2:=(hz (y:=0) e1).2
   have e3:=(hz (y:=0) e2).2
   have e4:=(hz (y:=0) e3).1
   have:=cmpI_zero.1 e4
   cases hx1:x.flex<;>cases hx2:(mdAt l b).flex<;>simp[bi,hx1,hx2] at this ⊢
  refine .flex (x:=mdAt l b) (by rw[mdAt_eq hb];exact List.getElem?_eq_getElem hb) ?_ ?_
  ·unfold rowStruct at h2 ⊢;rw[←hk];exact h2
  ·rw[←hfl];exact h3
 | @step a c h1 _ ih=>
  intro b ha hb he
  obtain ⟨x,g1,g2,g3⟩:=h1
  have hx:mdAt l a=x:=by rw[mdAt_eq ha];rw[List.getElem?_eq_getElem ha] at g1;exact Option.some.inj g1
  have hf:=RR_first ha hb he
  rw[hx] at hf
  have hk:=firstC_kind hf
  have hua:isU (mdAt l a)=false:=by
   rw[hx]
   unfold rowStruct at g2
   simp only[Bool.or_eq_true,beq_iff_eq] at g2
   simp[isU]
   omega
  obtain ⟨hl,hel⟩:=RR_elem hg ha hb he hua
  rw[hx] at hl hel
  obtain ⟨k,hk1,hk2⟩:=List.mem_iff_getElem.1 g3
  have hkb:k<(mdAt l b).elems.length:=by omega
  have hcl:c<l.length:=by have:=hg x (List.mem_of_getElem? g1) _ g3;omega
  have hmem:(mdAt l b).elems[k]∈(mdAt l b).elems:=List.getElem_mem hkb
  have hbm:=hg (mdAt l b) (by rw[mdAt_eq hb];exact List.getElem_mem hb) _ hmem
  have h5:=hel k _ _ (List.getElem?_eq_getElem hk1) (List.getElem?_eq_getElem hkb)
  rw[hk2,Int.toNat_natCast] at h5
  obtain ⟨d,hd⟩: ∃d:Nat,(mdAt l b).elems[k]=d:=⟨(mdAt l b).elems[k].toNat,by omega⟩
  rw[hd] at h5 hmem hbm
  rw[Int.toNat_natCast] at h5
  refine .step (k:=d) ⟨mdAt l b,by rw[mdAt_eq hb];exact List.getElem?_eq_getElem hb,?_,hmem⟩ (ih hcl (by omega) h5)
  unfold rowStruct at g2 ⊢;rw[←hk];exact g2
theorem least_spec {l:List Md} {u:Nat} (hu:u<l.length): ∃j:Nat,leastI l u=j∧j<l.length∧RR l j=RR l u:=by
 rcases fidx_first (p:=fun i=>RR l i==RR l u) l.length 0 with ⟨_,h3⟩|⟨j,_,hj,h3,h4,_⟩
 ·have:=h3 u (by omega) (by omega)
  simp at this
 ·exact ⟨j,h3,by omega,by simpa using h4⟩
theorem RR_grow {l:List Md} {x:Md} (hg:goodT l) {a b:Nat} (ha:a<l.length) (hb:b<l.length) (h:RR l a=RR l b):RR (l++ [x]) a=RR (l++ [x]) b:=by
 have hl:(l++ [x]).length=l.length+1:=by simp
 have hel: ∀{a k:Nat} {e:Int},a<l.length→(mdAt l a).elems[k]? =some e→e.toNat<l.length:=fun {a k e} ha h=>by
  have:=hg (mdAt l a) (by rw[mdAt_eq ha];exact List.getElem_mem ha) e (List.mem_of_getElem? h)
  omega
 refine Bisim.RR (E:=fun a b=>a<l.length∧b<l.length∧RR l a=RR l b) ⟨fun a b h=>⟨by omega,by omega⟩,fun a b h=>?_,fun a b j h hu hj=>?_,fun a b j h hu hj=>?_,fun a b h hu=>?_,fun a b k e e' h hu h1 h2=>?_⟩ ⟨ha,hb,h⟩
 ·rw[mdAt_app h.1,mdAt_app h.2.1];exact RR_first h.1 h.2.1 h.2.2
 ·rw[mdAt_app h.1] at hu
  have hj':=(part_old hg h.1).1 hj
  obtain ⟨j',h1,h2⟩:=RR_part hg h.1 h.2.1 h.2.2 hu hj'
  exact ⟨j',(part_old hg h.2.1).2 h1,hj'.lt hg,h1.lt hg,h2⟩
 ·rw[mdAt_app h.2.1] at hu
  have hj':=(part_old hg h.2.1).1 hj
  obtain ⟨j',h1,h2⟩:=RR_part hg h.2.1 h.1 h.2.2.symm hu hj'
  exact ⟨j',(part_old hg h.1).2 h1,h1.lt hg,hj'.lt hg,h2.symm⟩
 ·rw[mdAt_app h.1] at hu
  rw[mdAt_app h.1,mdAt_app h.2.1]
  exact (RR_elem hg h.1 h.2.1 h.2.2 hu).1
 ·rw[mdAt_app h.1] at hu h1
  rw[mdAt_app h.2.1] at h2
  exact ⟨hel h.1 h1,hel h.2.1 h2,(RR_elem hg h.1 h.2.1 h.2.2 hu).2 k e e' h1 h2⟩
structure Left (l:List Md) (u part:Nat) (k:List Md) (q:Nat):Prop where
 ck:checkI k=0
 len:k.length≤l.length+1
 ge:l.length≤k.length
 ql:q<k.length
 rr: ∀a b,a<l.length→b<l.length→(RR k a=RR k b↔RR l a=RR l b)
 md: ∀a,a<l.length→mdAt k a=mdAt l a
 parts: ∀a j,a<l.length→(IsPart k a j↔IsPart l a j)
 nf: ¬FlexP k q
 nfp: ∀a,a<l.length→FlexP k a→FlexP l a
 up: ∀j,IsBase k q j→ ∃z∈leftI l u part,RR k j=RR k z
 dn: ∀z∈leftI l u part,∃j,IsBase k q j∧RR k j=RR k z
theorem base_un {l:List Md} {x j:Nat} (hu:isU (mdAt l x)=true):IsBase l x j↔IsPart l x j:=by unfold IsBase;rw[if_pos hu]
theorem base_el {l:List Md} {x j:Nat} (hu:isU (mdAt l x)=false):IsBase l x j↔j=x:=by unfold IsBase;rw[if_neg (by rw[hu];simp)]
section
variable {l:List Md} {u part:Nat}
end
end Go.Proofs.YtlniliigcnedmaaGreat
namespace Go.Proofs.YtlniliigcnedmaaGreat
open Go Ax Go.ChangeShapes Go.WideShapes Go.ChangeAt Go.RowKit
set_option maxRecDepth 100000
set_option maxHeartbeats 2000000 in
theorem k56 (s:AVal) (l:List Md) (x:Nat) (m:AMem) (hs:RTab m s l) (hsz: ∀x∈l,smallN x) (hn:T13 l) (hc:checkI l=0) (hx:x<l.length) (hu:isU (mdAt l x)=true):
  ACalls Tryz.prog 56 [s,.int .i64 x] m fun v m'=>m<+:m'∧ ∃t,v= .tuple [t,.int .i64 0]∧OwL natI m.length m' 3 t (basesOf l x):=by
 have ok:=okT_of hc
 have h60:=hn.len
 refine w56 ?_
 simp[fillA,setN]
 have hA:=OwL.new (f:=AVal.int .i64) m 3 [(x:Int)]
 have hm1:m<+:m++ [.own [.int .i64 x] 3 none]:=List.prefix_append _ _
 simp at hA
 generalize AVal.slice m.length 0 1 1 none=t1 at*
 generalize m++ [.own [.int .i64 (x:Int)] 3 none]=m1 at*
 refine C_of (k24 s t1 l [(x:Int)] m1 (hs.mono hm1) hA.ints hsz (by omega) (by simp)) ?_
 rintro _ m2 ⟨rfl,hm2⟩
 have hr:rightI l [(x:Int)]=0:=by
  unfold rightI
  rw[if_neg (by simp[hc]),if_neg]
  simp[outB]
  omega
 have hm02:=hm1.trans hm2
 obtain ⟨bx',ox,ex,gx1,gx2,_⟩:=hs.elems hx
 have gk:=(gx2 m2 hm02).1
 have hk:l[x].kind=12:=by rw[mdAt_eq hx] at hu;simpa[isU] using hu
 simp[hr,gx1,gk,hk]
 refine C_of (k25 s l m2 (hs.mono hm02) ok.good hn.t60 hsz ok.h64) ?_
 rintro ro m3 ⟨hm3,ds,k,hX,hD⟩
 have hm03:=hm02.trans hm3
 simp
 refine C_of (k88 s ro l ds x hx (by rw[←mdAt_eq hx];exact hu) m3 (hs.mono hm03) (ints_of_nat hX) hD.len ok.good hn hsz) ?_
 rintro v m4 ⟨hm4,O,zs,⟨_,hOm⟩,hZ,hsb⟩
 obtain rfl:=once_eq ok.good (dense_same hD) hx hu (fun j=>by rw[hOm,base_un hu]) hsb
 simp
 exact ⟨hm03.trans hm4,hZ.lo' (by have:=hm03.length_le;omega)⟩
end Go.Proofs.YtlniliigcnedmaaGreat
namespace Go.Proofs.YtlniliigcnedmaaGreat
open Go Ax
open Relation
set_option maxRecDepth 100000
theorem check_app {l:List Md} {x:Md} (hc:checkI l=0) (hn:l.length<512) (hx:oneI x l.length=0) (hv:voidsB l x=false) (hf:flexOf x=true→ ∀e∈x.elems,¬FlexP l e.toNat):checkI (l++ [x])=0:=by
 have ok:=okT_of hc
 have h:=checkOk_iff.1 hc
 obtain ⟨_,hxg,_,_⟩:=oneI_zero hx
 have hva: ∀y:Md,(∀e∈y.elems,0≤e∧e<(l.length:Int))→voidsB l y=false→ ¬voidsB (l++ [x]) y=true:=fun y hy hv hv2=>by
  have hve: ∀e∈y.elems,voidE (l++ [x]) e=voidE l e:=fun e he=>by
   have:=hy e he
   unfold voidE
   rw[List.getElem?_append_left (by omega)]
  rw[←Bool.not_eq_true] at hv
  apply hv
  unfold voidsB at hv2 ⊢
  split at hv2
  ·cases hv2
  ·rename_i h12
   rw[if_neg h12]
   split at hv2
   ·rename_i h13
    rw[if_pos h13]
    rw[List.any_eq_true] at hv2 ⊢
    obtain ⟨e,he,hh⟩:=hv2
    exact ⟨e,he,by rw[←hve e (List.dropLast_subset _ he)];exact hh⟩
   ·rename_i h13
    rw[if_neg h13]
    rw[List.any_eq_true] at hv2 ⊢
    obtain ⟨e,he,hh⟩:=hv2
    exact ⟨e,he,by rw[←hve e he];exact hh⟩
 refine checkOk_iff.2 ⟨by simp;omega,fun y hy=>?_,?_,fun r hr hb=>?_,fun y hy hf' e he hp=>?_⟩
 ·rw[List.length_append,List.length_singleton]
  rcases List.mem_append.1 hy with hy|hy
  ·exact one_more (h.one y hy)
  ·simp at hy;subst hy;exact one_more hx
 ·rw[List.any_eq_false]
  intro y hy
  rcases List.mem_append.1 hy with hy'|hy'
  ·exact hva y (ok.good y hy') (by simpa using List.any_eq_false.1 h.void y hy')
  ·simp at hy';subst hy';exact hva y hxg hv
 ·have key: ∀p:Md→Bool,TransGen (stepR (l++ [x]) p) r r→r<l.length∧TransGen (stepR l p) r r:=fun p hp=>by
   have hrl:r<l.length:=by
    rcases Nat.lt_or_ge r l.length with h|h
    ·exact h
    ·have:r=l.length:=by simp at hr;omega
     subst this
     exfalso
     cases hp with
     |single h=>exact no_into ok.good hxg h
     |tail _ h=>exact no_into ok.good hxg h
   exact ⟨hrl,(tg_app ok.good hrl hp).1⟩
  rcases hb with hb|hb
  ·obtain ⟨h1,h2⟩:=key _ hb;exact h.bad r h1 (.inl h2)
  ·obtain ⟨h1,h2⟩:=key _ hb;exact h.bad r h1 (.inr h2)
 ·rcases List.mem_append.1 hy with hy'|hy'
  ·have:=ok.good y hy' e he
   exact h.flex y hy' hf' e he (flex_app ok.good (by omega) hp)
  ·simp at hy'
   subst hy'
   have:=hxg e he
   exact hf hf' e he (flex_app ok.good (by omega) hp)
inductive Ext (l:List Md):List Md→Prop
 |refl:Ext l l
 |step {k:List Md} {x:Md}:Ext l k→checkI (k++ [x])=0→Ext l (k++ [x])
section
variable {l k:List Md}
theorem FlexP.more {x:Md} {a:Nat} (h:FlexP l a):FlexP (l++ [x]) a:=by
 induction h with
 |flex h1 h2 h3=>exact .flex (by rw[List.getElem?_append_left (List.getElem?_eq_some_iff.1 h1).1];exact h1) h2 h3
 |step h1 _ ih=>
  obtain ⟨y,g1,g2⟩:=h1
  exact .step ⟨y,by rw[List.getElem?_append_left (List.getElem?_eq_some_iff.1 g1).1];exact g1,g2⟩ ih
theorem Ext.trans {j:List Md} (h:Ext l k) (h':Ext k j):Ext l j:=by
 induction h' with
 |refl=>exact h
 |step _ hc ih=>exact .step ih hc
theorem Ext.len (h:Ext l k):l.length≤k.length:=by
 induction h with
 |refl=>omega
 |step _ _ ih=>simp;omega
theorem Ext.check (h:Ext l k) (hc:checkI l=0):checkI k=0:=by cases h<;>assumption
theorem Ext.get (h:Ext l k) {a:Nat} (ha:a<l.length):k[a]? =l[a]? :=by
 induction h with
 |refl=>rfl
 |step h' _ ih=>rw[List.getElem?_append_left (by have:=h'.len;omega),ih]
theorem Ext.md (h:Ext l k) {a:Nat} (ha:a<l.length):mdAt k a=mdAt l a:=by unfold mdAt;rw[h.get ha]
theorem Ext.rr (h:Ext l k) (hc:checkI l=0) {a b:Nat} (ha:a<l.length) (hb:b<l.length):RR k a=RR k b↔RR l a=RR l b:=by
 induction h with
 |refl=>exact Iff.rfl
 |step h' hc' ih=>
  have hck:=h'.check hc
  have hl:=h'.len
  rw[←ih]
  exact ⟨fun e=>RR_app (okT_of hck).good (okT_of hc').good (by omega) (by omega) e,fun e=>RR_grow (okT_of hck).good (by omega) (by omega) e⟩
theorem Ext.flex (h:Ext l k) (hc:checkI l=0) {a:Nat} (ha:a<l.length):FlexP k a↔FlexP l a:=by
 induction h with
 |refl=>exact Iff.rfl
 |step h' hc' ih=>
  have hck:=h'.check hc
  have hl:=h'.len
  rw[←ih]
  exact ⟨fun e=>flex_app (okT_of hck).good (by omega) e,fun e=>e.more⟩
theorem Ext.part (h:Ext l k) (hc:checkI l=0) {a j:Nat} (ha:a<l.length):IsPart k a j↔IsPart l a j:=by
 induction h with
 |refl=>exact Iff.rfl
 |step h' hc' ih=>
  have hck:=h'.check hc
  have hl:=h'.len
  rw[←ih]
  exact part_old (okT_of hck).good (by omega)
theorem Ext.base (h:Ext l k) (hc:checkI l=0) {a j:Nat} (ha:a<l.length):IsBase k a j↔IsBase l a j:=by
 unfold IsBase
 rw[h.md ha]
 split
 ·exact h.part hc ha
 ·exact Iff.rfl
end
theorem firstC_all {x y:Md} (h:firstC x y=0):x.kind=y.kind∧x.size=y.size∧x.dims=y.dims∧x.flex=y.flex∧(x.kind≠12→x.elems.length=y.elems.length)∧lexC cmpS x.names y.names=0:=by
 have hz: ∀{x:Int} {xs:List Int},firstNZ (x::xs)=0→x=0∧firstNZ xs=0:=fun {x xs} h=>by
  rw[firstNZ_cons] at h
  split at h
  ·omega
  ·rename_i h0;exact ⟨by omega,h⟩
 unfold firstC firstL at h
 obtain ⟨h1,h⟩:=hz h
 obtain ⟨h2,h⟩:=hz h
 obtain ⟨h3,h⟩:=hz h
 obtain ⟨h4,h⟩:=hz h
 obtain ⟨h5,h⟩:=hz h
 obtain ⟨h6,h⟩:=hz h
 refine ⟨cmpI_zero.1 h1,cmpI_zero.1 h2,cmpI_zero.1 h3,?_,fun hk=>?_,h6⟩
 ·have:=cmpI_zero.1 h4
  cases hx1:x.flex<;>cases hx2:y.flex<;>simp[bi,hx1,hx2] at this ⊢
 ·unfold lenC at h5
  rw[if_neg hk] at h5
  have:=cmpI_zero.1 h5
  omega
def sameX (l:List Md) (i:Nat) (x:Md):Prop:=firstC (mdAt l i) x=0∧ ∀(k:Nat) (e e':Int),(mdAt l i).elems[k]? =some e→x.elems[k]? =some e'→RR l e.toNat=RR l e'.toNat
theorem elem_lt {l:List Md} (hg:goodT l) {a k:Nat} {e:Int} (ha:a<l.length) (h:(mdAt l a).elems[k]? =some e):0≤e∧e.toNat<l.length:=by
 have:=hg (mdAt l a) (by rw[mdAt_eq ha];exact List.getElem_mem ha) e (List.mem_of_getElem? h)
 omega
theorem last_iff {l:List Md} {x:Md} (hc:checkI l=0) (hc':checkI (l++ [x])=0) (hx: ∀e∈x.elems,0≤e∧e<(l.length:Int)) (hu:isU x=false) {i:Nat} (hi:i<l.length):RR (l++ [x]) i=RR (l++ [x]) l.length↔sameX l i x:=by
 have hg:=(okT_of hc).good
 have hg':=(okT_of hc').good
 have hl:(l++ [x]).length=l.length+1:=by simp
 constructor
 ·intro h
  have hf:=RR_first (by omega) (by omega) h
  rw[mdAt_app hi,mdAt_last] at hf
  have hui:isU (mdAt (l++ [x]) i)=false:=by
   rw[mdAt_app hi];unfold isU at hu ⊢;rw[firstC_kind hf];exact hu
  refine ⟨hf,fun k e e' h1 h2=>?_⟩
  have:=(RR_elem hg' (by omega) (by omega) h hui).2 k e e' (by rw[mdAt_app hi];exact h1) (by rw[mdAt_last];exact h2)
  have b1:=elem_lt hg hi h1
  have b2:=hx e' (List.mem_of_getElem? h2)
  exact RR_app hg hg' b1.2 (by omega) this
 ·rintro ⟨hf,he⟩
  have hfa:=firstC_all hf
  have hui:isU (mdAt l i)=false:=by unfold isU at hu ⊢;rw[hfa.1];exact hu
  have hk12:(mdAt l i).kind≠12:=by intro h;simp[isU,h] at hui
  refine Bisim.RR (E:=fun a b=>(a<l.length+1∧b<l.length+1∧RR (l++ [x]) a=RR (l++ [x]) b)∨(a=i∧b=l.length)) ⟨fun a b h=>by omega,fun a b h=>?_,fun a b j h hua hj=>?_,fun a b j h hub hj=>?_,fun a b h hua=>?_,fun a b k e e' h hua h1 h2=>?_⟩ (.inr ⟨rfl,rfl⟩)
  ·rcases h with h|⟨rfl,rfl⟩
   ·exact RR_first (by omega) (by omega) h.2.2
   ·rw[mdAt_app hi,mdAt_last];exact hf
  ·rcases h with h|⟨rfl,rfl⟩
   ·obtain ⟨j',h1,h2⟩:=RR_part hg' (by omega) (by omega) h.2.2 hua hj
    have b1:=hj.lt hg'
    have b2:=h1.lt hg'
    exact ⟨j',h1,.inl ⟨by omega,by omega,h2⟩⟩
   ·rw[mdAt_app hi,hui] at hua;cases hua
  ·rcases h with h|⟨rfl,rfl⟩
   ·obtain ⟨j',h1,h2⟩:=RR_part hg' (by omega) (by omega) h.2.2.symm hub hj
    have b1:=hj.lt hg'
    have b2:=h1.lt hg'
    exact ⟨j',h1,.inl ⟨by omega,by omega,h2.symm⟩⟩
   ·rw[mdAt_last,hu] at hub;cases hub
  ·rcases h with h|⟨rfl,rfl⟩
   ·exact (RR_elem hg' (by omega) (by omega) h.2.2 hua).1
   ·rw[mdAt_app hi,mdAt_last];exact hfa.2.2.2.2.1 hk12
  ·rcases h with h|⟨rfl,rfl⟩
   ·have b1:=elem_lt hg' (by omega) h1
    have b2:=elem_lt hg' (by omega) h2
    exact .inl ⟨by omega,by omega,(RR_elem hg' (by omega) (by omega) h.2.2 hua).2 k e e' h1 h2⟩
   ·rw[mdAt_app hi] at h1
    rw[mdAt_last] at h2
    have b1:=elem_lt hg hi h1
    have b2:=hx e' (List.mem_of_getElem? h2)
    exact .inl ⟨by omega,by omega,RR_grow hg b1.2 (by omega) (he k e e' h1 h2)⟩
theorem putI_check {l l2:List Md} {x:Md} {n:Int} (hc:checkI l=0) (h:putI l x=(l2,n,0)):checkI (l++ [x])=0:=by
 by_cases hcc:checkI (l++ [x])=0
 ·exact hcc
 ·exfalso
  have hf:findI l x=none:=by
   unfold findI
   split
   ·rfl
   ·first|rfl|rw[if_pos hcc]
  unfold putI at h
  rw[if_neg (by simp[hc]),hf] at h
  simp only[ne_eq,hcc,not_false_eq_true,if_true,Prod.mk.injEq] at h
  exact h.2.2
open Classical in
theorem putI_row {l:List Md} {x:Md} (hc:checkI l=0) (hc':checkI (l++ [x])=0) (hx: ∀e∈x.elems,0≤e∧e<(l.length:Int)) (hu:isU x=false):
  (∃j:Nat,j<l.length∧putI l x=(l,(j:Int),0)∧sameX l j x∧ ∀i,i<j→ ¬sameX l i x)∨(putI l x=(l++ [x],(l.length:Int),0)∧ ∀i,i<l.length→ ¬sameX l i x):=by
 have hin: ∀e∈x.elems,outB l.length e=false:=fun e he=>by
  have:=hx e he
  simp[outB];omega
 rcases fidx_first (p:=fun i=>decide (sameX l i x)) l.length 0 with ⟨_,h2⟩|⟨j,_,hj,h1,h2,h3⟩
 ·have hno: ∀i,i<l.length→ ¬sameX l i x:=fun i hi=>by simpa using h2 i (by omega) (by omega)
  refine .inr ⟨?_,hno⟩
  have hf:=findI_last hin hc' fun i hi e=>hno i hi ((last_iff hc hc' hx hu hi).1 e)
  unfold putI
  rw[if_neg (by simp[hc]),hf]
  simp only[ne_eq,hc',not_true_eq_false,if_false]
 ·have hjl:j<l.length:=by omega
  have hs:sameX l j x:=by simpa using h2
  have hno: ∀i,i<j→ ¬sameX l i x:=fun i hi=>by simpa using h3 i (by omega) hi
  refine .inl ⟨j,hjl,?_,hs,hno⟩
  have hf:=findI_some hin hc' hjl ((last_iff hc hc' hx hu hjl).2 hs) fun i hi e=>hno i hi ((last_iff hc hc' hx hu (by omega)).1 e)
  unfold putI
  rw[if_neg (by simp[hc]),hf]
def deflX (y:Md) (es:List Nat):Md:=⟨y.kind,y.size,es.map fun z:Nat=>(z:Int),y.names,y.dims,false⟩
inductive DefL:List Md→List Nat→List Md→List Nat→Prop
 |nil {l:List Md}:DefL l [] l []
 |flat {l l':List Md} {m:Nat} {ms ns:List Nat}: ¬FlexP l m→DefL l ms l' ns→DefL l (m::ms) l' (m::ns)
 |flex {l l1 l2 l':List Md} {m n:Nat} {ms ns es:List Nat}:FlexP l m→DefL l ((mdAt l m).elems.map Int.toNat) l1 es→putI l1 (deflX (mdAt l m) es)=(l2,(n:Int),0)→DefL l2 ms l' ns→DefL l (m::ms) l' (n::ns)
theorem DefL.det {l l':List Md} {ms ns:List Nat} (h:DefL l ms l' ns): ∀{l'':List Md} {ns':List Nat},DefL l ms l'' ns'→l'=l''∧ns=ns':=by
 induction h with
 |nil=>intro l'' ns' h';cases h';exact ⟨rfl,rfl⟩
 |flat hf _ ih=>
  intro l'' ns' h'
  cases h' with
  |flat _ h2=>obtain ⟨rfl,rfl⟩:=ih h2;exact ⟨rfl,rfl⟩
  |flex h1 _ _ _=>exact absurd h1 hf
 |flex hf _ hp _ ih1 ih2=>
  intro l'' ns' h'
  cases h' with
  |flat h1 _=>exact absurd hf h1
  |flex _ h1 h2 h3=>
   obtain ⟨rfl,rfl⟩:=ih1 h1
   rw[hp] at h2
   simp only[Prod.mk.injEq,Int.natCast_inj,and_true] at h2
   obtain ⟨rfl,rfl⟩:=h2
   obtain ⟨rfl,rfl⟩:=ih2 h3
   exact ⟨rfl,rfl⟩
theorem DefL.append {l l1 l':List Md} {ms ns ms' ns':List Nat} (h:DefL l ms l1 ns) (h':DefL l1 ms' l' ns'):DefL l (ms++ms') l' (ns++ns'):=by
 induction h with
 |nil=>exact h'
 |flat hf _ ih=>exact .flat hf (ih h')
 |flex hf h1 hp _ _ ih=>exact .flex hf h1 hp (ih h')
theorem deflX_range {l:List Md} {y:Md} {es:List Nat} (h: ∀e∈es,e<l.length): ∀e∈(deflX y es).elems,0≤e∧e<(l.length:Int):=fun e he=>by
 obtain ⟨z,hz,rfl⟩:=List.mem_map.1 he
 have:=h z hz
 omega
theorem rs_isU {y:Md} (h:rowStruct y=true):isU y=false:=by
 unfold rowStruct at h
 simp only[Bool.or_eq_true,beq_iff_eq] at h
 simp[isU]
 omega
theorem FlexP.rs {l:List Md} {m:Nat} (h:FlexP l m):m<l.length∧rowStruct (mdAt l m)=true:=by
 cases h with
 |flex h1 h2 _=>
  obtain ⟨h3,rfl⟩:=List.getElem?_eq_some_iff.1 h1
  exact ⟨h3,by rw[mdAt_eq h3];exact h2⟩
 |step h1 _=>
  obtain ⟨x,h1,h2,_⟩:=h1
  obtain ⟨h3,rfl⟩:=List.getElem?_eq_some_iff.1 h1
  exact ⟨h3,by rw[mdAt_eq h3];exact h2⟩
theorem sameX_nflex {l:List Md} {y:Md} {es:List Nat} (hc:checkI l=0) (hr: ∀e∈es,e<l.length∧ ¬FlexP l e) {j:Nat} (hj:j<l.length) (h:sameX l j (deflX y es)): ¬FlexP l j:=by
 intro hp
 have hg:=(okT_of hc).good
 have hfa:=firstC_all h.1
 cases hp with
 | @flex _ x h1 _ h3=>
  have:mdAt l j=x:=by unfold mdAt;rw[h1];rfl
  rw[this] at hfa
  rw[hfa.2.2.2.1] at h3
  cases h3
 | @step _ c h1 h2=>
  obtain ⟨x,g1,g2,g3⟩:=h1
  have hx:mdAt l j=x:=by unfold mdAt;rw[g1];rfl
  have hk12:(mdAt l j).kind≠12:=by
   rw[hx];unfold rowStruct at g2;simp only[Bool.or_eq_true,beq_iff_eq] at g2;omega
  have hle:=hfa.2.2.2.2.1 hk12
  rw[←hx] at g3
  obtain ⟨k,hk,hke⟩:=List.mem_iff_getElem.1 g3
  have hkd:k<(deflX y es).elems.length:=by omega
  have hk2:k<es.length:=by simpa[deflX] using hkd
  have:=h.2 k _ _ (List.getElem?_eq_getElem hk) (List.getElem?_eq_getElem hkd)
  rw[hke] at this
  have hd:(deflX y es).elems[k]=(es[k]:Int):=by simp[deflX]
  rw[hd,Int.toNat_natCast,Int.toNat_natCast] at this
  have hes:=hr es[k] (List.getElem_mem hk2)
  exact hes.2 (h2.congr hg h2.rs.1 hes.1 this)
theorem last_nflex {l:List Md} {y:Md} {es:List Nat} (hc:checkI l=0) (hr: ∀e∈es,e<l.length∧ ¬FlexP l e): ¬FlexP (l++ [deflX y es]) l.length:=by
 intro hp
 have hg:=(okT_of hc).good
 cases hp with
 |flex h1 _ h3=>
  rw[List.getElem?_concat_length] at h1
  simp only[Option.some.injEq] at h1
  subst h1
  cases h3
 | @step _ c h1 h2=>
  obtain ⟨x,g1,g2,g3⟩:=h1
  rw[List.getElem?_concat_length] at g1
  simp only[Option.some.injEq] at g1
  subst g1
  obtain ⟨z,hz,he⟩:=List.mem_map.1 g3
  have hzc:z=c:=by omega
  subst hzc
  have:=hr z hz
  exact this.2 (flex_app hg this.1 h2)
structure DefOk (l:List Md) (ms:List Nat) (l':List Md) (ns:List Nat):Prop where
 ext:Ext l l'
 len:ns.length=ms.length
 at_: ∀(i m n:Nat),ms[i]? =some m→ns[i]? =some n→n<l'.length∧(mdAt l' n).kind=(mdAt l m).kind∧ ¬FlexP l' n∧(¬FlexP l m→n=m)
theorem elems_lt {l:List Md} (hg:goodT l) {m:Nat} (hm:m<l.length): ∀e∈(mdAt l m).elems.map Int.toNat,e<l.length:=fun e he=>by
 obtain ⟨z,hz,rfl⟩:=List.mem_map.1 he
 have:=hg (mdAt l m) (by rw[mdAt_eq hm];exact List.getElem_mem hm) z hz
 omega
theorem put_defl {l l1 l2:List Md} {m n:Nat} {es:List Nat} (hc1:checkI l1=0) (hf:FlexP l m) (hr: ∀e∈es,e<l1.length∧ ¬FlexP l1 e) (hp:putI l1 (deflX (mdAt l m) es)=(l2,(n:Int),0)):
  Ext l1 l2∧checkI (l1++ [deflX (mdAt l m) es])=0∧n<l2.length∧(mdAt l2 n).kind=(mdAt l m).kind∧ ¬FlexP l2 n∧l2.length≤l1.length+1:=by
 have hc':=putI_check hc1 hp
 have hu:isU (deflX (mdAt l m) es)=false:=by
  have:=rs_isU hf.rs.2
  unfold isU at this ⊢;exact this
 rcases putI_row hc1 hc' (deflX_range fun e he=>(hr e he).1) hu with ⟨j,hj,h1,h2,_⟩|⟨h1,h2⟩
 ·rw[hp] at h1
  simp only[Prod.mk.injEq,Int.natCast_inj,and_true] at h1
  obtain ⟨rfl,rfl⟩:=h1
  exact ⟨.refl,hc',hj,(firstC_all h2.1).1,sameX_nflex hc1 hr hj h2,by omega⟩
 ·rw[hp] at h1
  simp only[Prod.mk.injEq,Int.natCast_inj,and_true] at h1
  obtain ⟨rfl,rfl⟩:=h1
  exact ⟨.step .refl hc',hc',by simp,by rw[mdAt_last];rfl,last_nflex hc1 hr,by simp⟩
theorem DefL.ok {l l':List Md} {ms ns:List Nat} (h:DefL l ms l' ns):checkI l=0→(∀m∈ms,m<l.length)→DefOk l ms l' ns:=by
 induction h with
 |nil=>exact fun _ _=>⟨.refl,rfl,fun i m n h=>by simp at h⟩
 | @flat l l' m ms ns hf _ ih=>
  intro hc hm
  obtain ⟨e,hl,ha⟩:=ih hc fun x hx=>hm x (List.mem_cons_of_mem _ hx)
  have hml:=hm m List.mem_cons_self
  have:=e.len
  refine ⟨e,by simp[hl],fun i x n h1 h2=>?_⟩
  cases i with
  |zero=>
   simp only[List.getElem?_cons_zero,Option.some.injEq] at h1 h2
   subst h1 h2
   exact ⟨by omega,by rw[e.md hml],fun h=>hf ((e.flex hc hml).1 h),fun _=>rfl⟩
  |succ i=>exact ha i x n (by simpa using h1) (by simpa using h2)
 | @flex l l1 l2 l' m n ms ns es hf _ hp _ ih1 ih2=>
  intro hc hm
  have hg:=(okT_of hc).good
  have hml:=hm m List.mem_cons_self
  obtain ⟨e1,hl1,ha1⟩:=ih1 hc (elems_lt hg hml)
  have hc1:=e1.check hc
  have hr: ∀e∈es,e<l1.length∧ ¬FlexP l1 e:=fun e he=>by
   obtain ⟨k,hk,rfl⟩:=List.mem_iff_getElem.1 he
   have hk':k<((mdAt l m).elems.map Int.toNat).length:=by omega
   have:=ha1 k _ _ (List.getElem?_eq_getElem hk') (List.getElem?_eq_getElem hk)
   exact ⟨this.1,this.2.2.1⟩
  obtain ⟨e12,_,hn2,hk2,hf2,_⟩:=put_defl hc1 hf hr hp
  have e2:=e1.trans e12
  have hc2:=e2.check hc
  have hl2:=e2.len
  obtain ⟨e3,hl3,ha3⟩:=ih2 hc2 fun x hx=>by have:=hm x (List.mem_cons_of_mem _ hx);omega
  have hl3':=e3.len
  refine ⟨e2.trans e3,by simp[hl3],fun i x y h1 h2=>?_⟩
  cases i with
  |zero=>
   simp only[List.getElem?_cons_zero,Option.some.injEq] at h1 h2
   subst h1 h2
   exact ⟨by omega,by rw[e3.md hn2,hk2],fun h=>hf2 ((e3.flex hc2 hn2).1 h),fun h=>absurd hf h⟩
  |succ i=>
   simp only[List.getElem?_cons_succ] at h1 h2
   have hxl:=hm x (List.mem_cons_of_mem _ (List.mem_of_getElem? h1))
   obtain ⟨b1,b2,b3,b4⟩:=ha3 i x y h1 h2
   exact ⟨b1,by rw[b2,e2.md hxl],b3,fun h=>b4 fun h'=>h ((e2.flex hc hxl).1 h')⟩
theorem defl_check {l l1:List Md} {m:Nat} {es:List Nat} (hc:checkI l=0) (hn:l1.length<512) (hm:m<l.length) (hrs:rowStruct (mdAt l m)=true) (e1:Ext l l1) (hl:es.length=(mdAt l m).elems.length) (ha: ∀(k:Nat) (e:Int) (n:Nat),(mdAt l m).elems[k]? =some e→es[k]? =some n→n<l1.length∧(mdAt l1 n).kind=(mdAt l e.toNat).kind):checkI (l1++ [deflX (mdAt l m) es])=0:=by
 have hmem:mdAt l m∈l:=by rw[mdAt_eq hm];exact List.getElem_mem hm
 have h:=checkOk_iff.1 hc
 have hg:=(okT_of hc).good
 have hone:=h.one _ hmem
 obtain ⟨o1,o2,o3,o4⟩:=oneI_zero hone
 have hk:(mdAt l m).kind=10∨(mdAt l m).kind=11:=by
  unfold rowStruct at hrs;simpa only[Bool.or_eq_true,beq_iff_eq] using hrs
 have hes: ∀(k:Nat) (n:Nat),es[k]? =some n→ ∃e,(mdAt l m).elems[k]? =some e∧n<l1.length∧(mdAt l1 n).kind=(mdAt l e.toNat).kind:=fun k n hn=>by
  have hk2:k<(mdAt l m).elems.length:=by
   have:=(List.getElem?_eq_some_iff.1 hn).1;omega
  exact ⟨_,List.getElem?_eq_getElem hk2,ha k _ n (List.getElem?_eq_getElem hk2) hn⟩
 have hin: ∀e∈es,e<l1.length:=fun e he=>by
  obtain ⟨k,hk,rfl⟩:=List.mem_iff_getElem.1 he
  obtain ⟨_,_,h1,_⟩:=hes k _ (List.getElem?_eq_getElem hk)
  exact h1
 refine check_app (e1.check hc) hn ?_ ?_ fun hf=>?_
 ·have hsh:shapeI (deflX (mdAt l m) es)=0:=by
   obtain ⟨s1,s2,s3,s4⟩:=shapeI_zero o1
   obtain ⟨p1,p2,p3,p4,p5,p6⟩:=s3
   unfold shapeI
   rw[if_neg (by simp only[deflX];omega),if_pos,if_neg (by simp only[deflX,List.length_map];omega)]
   have hlen:(deflX (mdAt l m) es).elems.length=(mdAt l m).elems.length:=by simp[deflX,hl]
   refine ⟨?_,?_,?_,p4,p5,fun h=>by cases h⟩
   ·rw[hlen];exact p1
   ·unfold most at p2 ⊢;rw[hlen];exact p2
   ·unfold nNames at p3 ⊢;rw[hlen];exact p3
  unfold oneI
  rw[if_neg (by simp[hsh]),if_neg,if_neg,if_neg (by simp only[deflX];rw[o4];simp)]
  ·simp only[List.any_eq_true,not_exists,not_and]
   intro s hs
   simp[o3 s hs]
  ·simp only[List.any_eq_true,not_exists,not_and]
   intro e he
   have:=deflX_range hin e he
   simp[outB];omega
 ·have hv:=List.any_eq_false.1 h.void _ hmem
  unfold voidsB at hv ⊢
  have q12: ¬(mdAt l m).kind=12:=by omega
  have q13: ¬(mdAt l m).kind=13:=by omega
  rw[if_neg q12,if_neg q13] at hv
  rw[if_neg (by simp only[deflX];exact q12),if_neg (by simp only[deflX];exact q13),List.any_eq_false]
  intro e he hv2
  apply hv
  obtain ⟨z,hz,rfl⟩:=List.mem_map.1 he
  obtain ⟨k,hk,rfl⟩:=List.mem_iff_getElem.1 hz
  obtain ⟨e,h1,h2,h3⟩:=hes k _ (List.getElem?_eq_getElem hk)
  rw[List.any_eq_true]
  refine ⟨e,List.mem_of_getElem? h1,?_⟩
  have hb:=elem_lt hg hm h1
  unfold voidE at hv2 ⊢
  rw[Int.toNat_natCast,List.getElem?_eq_getElem h2] at hv2
  rw[List.getElem?_eq_getElem hb.2]
  rw[mdAt_eq h2,mdAt_eq hb.2] at h3
  simpa only[Option.any_some,h3] using hv2
 ·exfalso
  unfold flexOf at hf
  simp only[deflX,Bool.or_eq_true,beq_iff_eq] at hf
  omega
theorem sameX_ext {l k:List Md} {x:Md} (e:Ext l k) (hc:checkI l=0) (hx: ∀e∈x.elems,0≤e∧e<(l.length:Int)) {i:Nat} (hi:i<l.length):sameX k i x↔sameX l i x:=by
 have hg:=(okT_of hc).good
 unfold sameX
 rw[e.md hi]
 refine and_congr_right fun _=>⟨fun h j a b h1 h2=>?_,fun h j a b h1 h2=>?_⟩
 ·have b1:=elem_lt hg hi h1
  have b2:=hx b (List.mem_of_getElem? h2)
  exact (e.rr hc b1.2 (by omega)).1 (h j a b h1 h2)
 ·have b1:=elem_lt hg hi h1
  have b2:=hx b (List.mem_of_getElem? h2)
  exact (e.rr hc b1.2 (by omega)).2 (h j a b h1 h2)
theorem DefL.stable {l l':List Md} {ms ns:List Nat} (h:DefL l ms l' ns):checkI l=0→(∀m∈ms,m<l.length)→ ∀{k:List Md},Ext l' k→k.length<512→DefL k ms k ns:=by
 induction h with
 |nil=>exact fun _ _ _ _ _=> .nil
 | @flat l l' m ms ns hf h ih=>
  intro hc hm k e hn
  have hms:=fun x hx=>hm x (List.mem_cons_of_mem _ hx)
  have hml:=hm m List.mem_cons_self
  have e1:=(h.ok hc hms).ext.trans e
  exact .flat (fun h=>hf ((e1.flex hc hml).1 h)) (ih hc hms e hn)
 | @flex l l1 l2 l' m n ms ns es hf h1 hp h2 ih1 ih2=>
  intro hc hm k e hn
  have hms:=fun x hx=>hm x (List.mem_cons_of_mem _ hx)
  have hml:=hm m List.mem_cons_self
  have hg:=(okT_of hc).good
  have ok1:=h1.ok hc (elems_lt hg hml)
  have hc1:=ok1.ext.check hc
  have hr: ∀e∈es,e<l1.length∧ ¬FlexP l1 e:=fun e he=>by
   obtain ⟨k,hk,rfl⟩:=List.mem_iff_getElem.1 he
   have hk':k<((mdAt l m).elems.map Int.toNat).length:=by have:=ok1.len;omega
   have:=ok1.at_ k _ _ (List.getElem?_eq_getElem hk') (List.getElem?_eq_getElem hk)
   exact ⟨this.1,this.2.2.1⟩
  obtain ⟨e12,hc12,hn2,hk2,hf2,_⟩:=put_defl hc1 hf hr hp
  have e2:=ok1.ext.trans e12
  have hc2:=e2.check hc
  have hl2:=e2.len
  have hms2: ∀x∈ms,x<l2.length:=fun x hx=>by have:=hms x hx;omega
  have ok2:=h2.ok hc2 hms2
  have e2k:=ok2.ext.trans e
  have e1k:=e12.trans e2k
  have ek:=e2.trans e2k
  have hck:=ek.check hc
  have hu:isU (deflX (mdAt l m) es)=false:=by
   have:=rs_isU hf.rs.2
   unfold isU at this ⊢;exact this
  have hl1k:=e1k.len
  have hl2k:=e2k.len
  have hx1:=deflX_range (l:=l1) (y:=mdAt l m) (es:=es) fun e he=>(hr e he).1
  have hxk:=deflX_range (l:=k) (y:=mdAt l m) (es:=es) fun e he=>by have:=(hr e he).1;omega
  have hcx:checkI (k++ [deflX (mdAt l m) es])=0:=by
   have hlen:=ok1.len
   rw[List.length_map] at hlen
   refine defl_check hc hn hml hf.rs.2 ek hlen fun i e n h3 h4=>?_
   have:=ok1.at_ i e.toNat n (by rw[List.getElem?_map,h3];rfl) h4
   exact ⟨by omega,by rw[e1k.md this.1];exact this.2.1⟩
  have hput:putI k (deflX (mdAt k m) es)=(k,(n:Int),0):=by
   rw[ek.md hml]
   have hsn:sameX l2 n (deflX (mdAt l m) es)∧ ∀i,i<n→ ¬sameX l2 i (deflX (mdAt l m) es):=by
    rcases putI_row hc1 hc12 hx1 hu with ⟨j,hj,g1,g2,g3⟩|⟨g1,g2⟩
    ·rw[hp] at g1
     simp only[Prod.mk.injEq,Int.natCast_inj,and_true] at g1
     obtain ⟨rfl,rfl⟩:=g1
     exact ⟨g2,g3⟩
    ·rw[hp] at g1
     simp only[Prod.mk.injEq,Int.natCast_inj,and_true] at g1
     obtain ⟨rfl,rfl⟩:=g1
     refine ⟨⟨by rw[mdAt_last];exact firstC_ord.self trivial,fun i a b h3 h4=>?_⟩,fun i hi h3=>g2 i hi ((sameX_ext e12 hc1 hx1 hi).1 h3)⟩
     rw[mdAt_last] at h3
     rw[h3] at h4
     simp only[Option.some.injEq] at h4
     rw[h4]
   have hx2:=deflX_range (l:=l2) (y:=mdAt l m) (es:=es) fun e he=>by have:=(hr e he).1;have:=e12.len;omega
   have hsk:=(sameX_ext e2k hc2 hx2 hn2).2 hsn.1
   rcases putI_row hck hcx hxk hu with ⟨j,hj,g1,g2,g3⟩|⟨g1,g2⟩
   ·have hjn:j=n:=by
     rcases Nat.lt_trichotomy j n with h|h|h
     ·exact absurd ((sameX_ext e2k hc2 hx2 (by omega)).1 g2) (hsn.2 j h)
     ·exact h
     ·exact absurd hsk (g3 n h)
    rw[g1,hjn]
   ·exact absurd hsk (g2 n (by omega))
  refine .flex ((ek.flex hc hml).2 hf) ?_ hput (ih2 hc2 hms2 e hn)
  rw[ek.md hml]
  exact ih1 hc (elems_lt hg hml) e1k hn
end Go.Proofs.YtlniliigcnedmaaGreat
namespace Go.Proofs.YtlniliigcnedmaaGreat
open Go Ax
open Relation
set_option maxRecDepth 100000
theorem DefL.es {l l1:List Md} {m:Nat} {es:List Nat} (hc:checkI l=0) (hm:m<l.length) (h1:DefL l ((mdAt l m).elems.map Int.toNat) l1 es):es.length=(mdAt l m).elems.length∧ ∀e∈es,e<l1.length∧ ¬FlexP l1 e:=by
 have ok1:=h1.ok hc (elems_lt (okT_of hc).good hm)
 have hl:=ok1.len
 rw[List.length_map] at hl
 refine ⟨hl,fun e he=>?_⟩
 obtain ⟨k,hk,rfl⟩:=List.mem_iff_getElem.1 he
 have hk':k<((mdAt l m).elems.map Int.toNat).length:=by simp;omega
 have:=ok1.at_ k _ _ (List.getElem?_eq_getElem hk') (List.getElem?_eq_getElem hk)
 exact ⟨this.1,this.2.2.1⟩
theorem defl_put {l l1:List Md} {m:Nat} {es:List Nat} (hc:checkI l=0) (hf:FlexP l m) (h1:DefL l ((mdAt l m).elems.map Int.toNat) l1 es) (hn:l1.length<512): ∃(l2:List Md) (n:Nat),putI l1 (deflX (mdAt l m) es)=(l2,(n:Int),0):=by
 have hm:=hf.rs.1
 have ok1:=h1.ok hc (elems_lt (okT_of hc).good hm)
 obtain ⟨hl,hr⟩:=h1.es hc hm
 have hcx:checkI (l1++ [deflX (mdAt l m) es])=0:=defl_check hc hn hm hf.rs.2 ok1.ext hl fun i e n h3 h4=>by
  have:=ok1.at_ i e.toNat n (by rw[List.getElem?_map,h3];rfl) h4
  exact ⟨this.1,this.2.1⟩
 have hu:isU (deflX (mdAt l m) es)=false:=by
  have:=rs_isU hf.rs.2
  unfold isU at this ⊢;exact this
 rcases putI_row (ok1.ext.check hc) hcx (deflX_range fun e he=>(hr e he).1) hu with ⟨j,_,g1,_,_⟩|⟨g1,_⟩
 ·exact ⟨_,_,g1⟩
 ·exact ⟨_,_,g1⟩
theorem put_cases {l1 l2:List Md} {x:Md} {n:Int} (hc1:checkI l1=0) (h:putI l1 x=(l2,n,0)):l2=l1∨l2=l1++ [x]:=by
 unfold putI at h
 rw[if_neg (by simp[hc1])] at h
 split at h
 ·simp only[Prod.mk.injEq] at h;exact .inl h.1.symm
 ·split at h
  ·rename_i hc;simp only[Prod.mk.injEq] at h;exact absurd h.2.2 hc
  ·simp only[Prod.mk.injEq] at h;exact .inr h.1.symm
theorem DefL.mem {l l':List Md} {ms ns:List Nat} (h:DefL l ms l' ns):checkI l=0→(∀m∈ms,m<l.length)→ ∀y∈l',∃z∈l,z.elems.length=y.elems.length∧z.names=y.names:=by
 induction h with
 |nil=>exact fun _ _ y hy=>⟨y,hy,rfl,rfl⟩
 |flat _ _ ih=>exact fun hc hm=>ih hc fun x hx=>hm x (List.mem_cons_of_mem _ hx)
 | @flex l l1 l2 l' m n ms ns es hf h1 hp h2 ih1 ih2=>
  intro hc hm y hy
  have hml:=hm m List.mem_cons_self
  have hel:=elems_lt (okT_of hc).good hml
  have ok1:=h1.ok hc hel
  have hc1:=ok1.ext.check hc
  obtain ⟨hl,hr⟩:=h1.es hc hml
  obtain ⟨e12,_⟩:=put_defl hc1 hf hr hp
  have hl2:=(ok1.ext.trans e12).len
  obtain ⟨z,hz,g1,g2⟩:=ih2 (e12.check hc1) (fun x hx=>by have:=hm x (List.mem_cons_of_mem _ hx);omega) y hy
  have:z∈l1∨z=deflX (mdAt l m) es:=by
   rcases put_cases hc1 hp with rfl|rfl
   ·exact .inl hz
   ·simpa using hz
  rcases this with hz|rfl
  ·obtain ⟨w,hw,g3,g4⟩:=ih1 hc hel z hz
   exact ⟨w,hw,by omega,by rw[g4,g2]⟩
  ·refine ⟨mdAt l m,by rw[mdAt_eq hml];exact List.getElem_mem hml,?_,?_⟩
   ·rw[←g1];simp[deflX,hl]
   ·rw[←g2];rfl
def Few (l:List Md):Prop:= ∀(x:Nat) (O:List Nat),O.Nodup→(∀j∈O,IsPart l x j)→O.length≤12
theorem Few.more {l:List Md} {x:Md} (h:Few l) (hg:goodT l) (hu:isU x=false):Few (l++ [x]):=fun a O hO hj=>by
 cases O with
 |nil=>simp
 |cons o O=>
  have ha:=part_in (hj o List.mem_cons_self)
  rw[List.length_append,List.length_singleton] at ha
  by_cases hal:a<l.length
  ·exact h a (o::O) hO fun j hj'=>(part_old hg hal).1 (hj j hj')
  ·obtain rfl:a=l.length:=by omega
   have:=part_head (by simp) (hj o List.mem_cons_self)
   rw[mdAt_last,hu] at this
   cases this
theorem DefL.few {l l':List Md} {ms ns:List Nat} (h:DefL l ms l' ns):checkI l=0→(∀m∈ms,m<l.length)→Few l→Few l':=by
 induction h with
 |nil=>exact fun _ _ h=>h
 |flat _ _ ih=>exact fun hc hm=>ih hc fun x hx=>hm x (List.mem_cons_of_mem _ hx)
 | @flex l l1 l2 l' m n ms ns es hf h1 hp h2 ih1 ih2=>
  intro hc hm hfw
  have hml:=hm m List.mem_cons_self
  have hel:=elems_lt (okT_of hc).good hml
  have ok1:=h1.ok hc hel
  have hc1:=ok1.ext.check hc
  obtain ⟨hl,hr⟩:=h1.es hc hml
  obtain ⟨e12,_⟩:=put_defl hc1 hf hr hp
  have hl2:=(ok1.ext.trans e12).len
  refine ih2 (e12.check hc1) (fun x hx=>by have:=hm x (List.mem_cons_of_mem _ hx);omega) ?_
  have hfw1:=ih1 hc hel hfw
  rcases put_cases hc1 hp with rfl|rfl
  ·exact hfw1
  ·refine hfw1.more (okT_of hc1).good ?_
   have:=rs_isU hf.rs.2
   unfold isU at this ⊢;exact this
def Stb (l:List Md) (j:Nat):Prop:= ∃n,DefL l [j] l [n]
open Classical in
noncomputable def pot (l:List Md):Nat:=l.length+(List.range l.length).countP fun j=>decide (FlexP l j∧ ¬Stb l j)
theorem DefL.inv {l l':List Md} {m:Nat} {ns:List Nat} (hf:FlexP l m) (h:DefL l [m] l' ns): ∃(l1:List Md) (es:List Nat) (n:Nat),DefL l ((mdAt l m).elems.map Int.toNat) l1 es∧putI l1 (deflX (mdAt l m) es)=(l',(n:Int),0)∧ns= [n]:=by
 cases h with
 |flat h1 _=>exact absurd hf h1
 |flex _ h1 h2 h3=>cases h3;exact ⟨_,_,_,h1,h2,rfl⟩
open Classical in
theorem DefL.pot {l l':List Md} {ms ns:List Nat} (h:DefL l ms l' ns):checkI l=0→(∀m∈ms,m<l.length)→pot l<512→Go.Proofs.YtlniliigcnedmaaGreat.pot l'≤Go.Proofs.YtlniliigcnedmaaGreat.pot l:=by
 induction h with
 |nil=>exact fun _ _ _=>Nat.le_refl _
 |flat _ _ ih=>exact fun hc hm=>ih hc fun x hx=>hm x (List.mem_cons_of_mem _ hx)
 | @flex l l1 l2 l' m n ms ns es hf h1 hp h2 ih1 ih2=>
  intro hc hm hpl
  have hml:=hm m List.mem_cons_self
  have hel:=elems_lt (okT_of hc).good hml
  have ok1:=h1.ok hc hel
  have hc1:=ok1.ext.check hc
  have hg1:=(okT_of hc1).good
  obtain ⟨hl,hr⟩:=h1.es hc hml
  obtain ⟨e12,hcx,hn2,_,_,hl12⟩:=put_defl hc1 hf hr hp
  have e2:=ok1.ext.trans e12
  have hl1:=ok1.ext.len
  have hl2:=e2.len
  have hp1:=ih1 hc hel hpl
  have hle: ∀k:List Md,k.length≤Go.Proofs.YtlniliigcnedmaaGreat.pot k:=fun k=>by unfold Go.Proofs.YtlniliigcnedmaaGreat.pot;omega
  have hp2:Go.Proofs.YtlniliigcnedmaaGreat.pot l2≤Go.Proofs.YtlniliigcnedmaaGreat.pot l1:=by
   rcases put_cases hc1 hp with rfl|he
   ·exact Nat.le_refl _
   ·have hfl1:FlexP l1 m:=(ok1.ext.flex hc hml).2 hf
    have hll:l2.length=l1.length+1:=by rw[he];simp
    have hnf: ¬FlexP l2 l1.length:=by rw[he];exact last_nflex hc1 hr
    have hno: ¬Stb l1 m:=by
     rintro ⟨n',hd⟩
     obtain ⟨k1,es',n2,d1,d2,_⟩:=hd.inv hfl1
     have hl1':=hle l1
     have hs:=h1.stable hc hel .refl (by omega)
     rw[←ok1.ext.md hml] at hs
     obtain ⟨rfl,rfl⟩:=hs.det d1
     rw[ok1.ext.md hml,hp,he] at d2
     simp only[Prod.mk.injEq] at d2
     have:=congrArg List.length d2.1
     simp at this
    have hpos:0<(List.range l1.length).countP fun j=>decide (FlexP l1 j∧ ¬Stb l1 j):=List.countP_pos_iff.2 ⟨m,List.mem_range.2 (by omega),by simp[hfl1,hno]⟩
    have hpe:Go.Proofs.YtlniliigcnedmaaGreat.pot l1=l1.length+(List.range l1.length).countP fun j=>decide (FlexP l1 j∧ ¬Stb l1 j):=rfl
    have h512:l2.length<512:=by omega
    have hyes:Stb l2 m:=⟨n,(DefL.flex hf h1 hp .nil).stable hc (by simpa using hml) .refl h512⟩
    have hcnt:((List.range l2.length).countP fun j=>decide (FlexP l2 j∧ ¬Stb l2 j))<(List.range l1.length).countP fun j=>decide (FlexP l1 j∧ ¬Stb l1 j):=by
     rw[hll,List.range_succ,List.countP_append]
     have h0:([l1.length]:List Nat).countP (fun j=>decide (FlexP l2 j∧ ¬Stb l2 j))=0:=by simp[hnf]
     rw[h0,Nat.add_zero]
     refine countP_lt (x:=m) (fun j hj hd=>?_) (List.mem_range.2 (by omega)) (by simp[hyes]) (by simp[hfl1,hno])
     have hj:=List.mem_range.1 hj
     simp only[decide_eq_true_eq] at hd ⊢
     have hfj:=(e12.flex hc1 hj).1 hd.1
     refine ⟨hfj,fun hs=>hd.2 ?_⟩
     obtain ⟨n',hd'⟩:=hs
     exact ⟨n',hd'.stable hc1 (by simpa using hj) e12 h512⟩
    unfold Go.Proofs.YtlniliigcnedmaaGreat.pot
    omega
  have hp':=ih2 (e12.check hc1) (fun x hx=>by have:=hm x (List.mem_cons_of_mem _ hx);omega) (by omega)
  omega
theorem nflex_ex {l:List Md} (hc:checkI l=0): ∀(n a:Nat),hgt l a<n→a<l.length→ ∃b,b<l.length∧ ¬FlexP l b
 |0,_,h,_=>by omega
 |n+1,a,h,ha=>by
  by_cases hf:FlexP l a
  ·have ok:=okT_of hc
   have hmem:mdAt l a∈l:=by rw[mdAt_eq ha];exact List.getElem_mem ha
   have hone:=(oneI_zero ((checkOk_iff.1 hc).one _ hmem)).1
   obtain ⟨_,_,hs,_⟩:=shapeI_zero hone
   have hrs:=hf.rs.2
   have hk:(mdAt l a).kind=10∨(mdAt l a).kind=11:=by
    unfold rowStruct at hrs;simpa only[Bool.or_eq_true,beq_iff_eq] using hrs
   have h1:1≤(mdAt l a).elems.length:=by
    have:=hs.1
    unfold least at this
    rw[if_pos (by omega)] at this
    omega
   have he:=elem_lt ok.good ha (List.getElem?_eq_getElem h1)
   have hst:stepF l a ((mdAt l a).elems[0]).toNat:=⟨mdAt l a,by rw[mdAt_eq ha];exact List.getElem?_eq_getElem ha,hrs,by rw[Int.toNat_of_nonneg he.1];exact List.getElem_mem h1⟩
   have:=hgt_lt ok.good ok.acy hst
   exact nflex_ex hc n _ (by omega) he.2
  ·exact ⟨a,ha,hf⟩
open Classical in
theorem pot_le {l:List Md} (hc:checkI l=0) (hn:l.length≤10):pot l≤19:=by
 unfold pot
 by_cases h0:l.length=0
 ·simp[h0]
 ·obtain ⟨b,hb,hnf⟩:=nflex_ex hc _ 0 (Nat.lt_succ_self _) (by omega)
  have:(List.range l.length).countP (fun j=>decide (FlexP l j∧ ¬Stb l j))<(List.range l.length).countP fun _=>true:=
   countP_lt (x:=b) (fun _ _ _=>rfl) (List.mem_range.2 hb) (by simp[hnf]) rfl
  simp only[List.countP_true,List.length_range] at this
  omega
structure Room (l:List Md):Prop where
 ck:checkI l=0
 pot:pot l≤19
 few:Few l
 sm: ∀y∈l,smallN y
 h40: ∀y∈l,y.elems.length<2^40∧y.names.length<2^40
theorem Room.len {l:List Md} (h:Room l):l.length≤19:=by
 have:=h.pot
 unfold Go.Proofs.YtlniliigcnedmaaGreat.pot at this
 omega
theorem Room.t13 {l:List Md} (h:Room l):T13 l:=⟨h.len,fun _=>h.few⟩
theorem Room.defl {l l':List Md} {ms ns:List Nat} (h:Room l) (hm: ∀m∈ms,m<l.length) (hd:DefL l ms l' ns):Room l':=by
 have hmm:=hd.mem h.ck hm
 have hp:=h.pot
 refine ⟨(hd.ok h.ck hm).ext.check h.ck,Nat.le_trans (hd.pot h.ck hm (by omega)) hp,hd.few h.ck hm h.few,fun y hy=>?_,fun y hy=>?_⟩
 ·obtain ⟨z,hz,g1,g2⟩:=hmm y hy
  have:=h.sm z hz
  unfold smallN at this ⊢
  rw[←g1,←g2]
  exact this
 ·obtain ⟨z,hz,g1,g2⟩:=hmm y hy
  rw[←g1,←g2]
  exact h.h40 z hz
end Go.Proofs.YtlniliigcnedmaaGreat
namespace Go.Proofs.YtlniliigcnedmaaGreat
open Go Ax
open Relation
set_option maxRecDepth 100000
theorem defl_ex {l0:List Md} (hc:checkI l0=0): ∀(n:Nat) (ms:List Nat),(∀m∈ms,m<l0.length∧hgt l0 m<n)→ ∀l,Ext l0 l→Room l→ ∃l' ns,DefL l ms l' ns
 |_,[],_,l,_,_=>⟨l,[],.nil⟩
 |0,m::ms,h,_,_,_=>by have:=h m List.mem_cons_self;omega
 |n+1,m::ms,h,l,e,hr=>by
  have hm:=h m List.mem_cons_self
  have hl:=e.len
  have ok:=okT_of hc
  by_cases hf:FlexP l m
  ·have hf0:=(e.flex hc hm.1).1 hf
   have hel: ∀x∈(mdAt l m).elems.map Int.toNat,x<l0.length∧hgt l0 x<n:=fun x hx=>by
    rw[e.md hm.1] at hx
    obtain ⟨z,hz,rfl⟩:=List.mem_map.1 hx
    have hmem:mdAt l0 m∈l0:=by rw[mdAt_eq hm.1];exact List.getElem_mem hm.1
    have hzb:=ok.good _ hmem z hz
    have hst:stepF l0 m z.toNat:=⟨mdAt l0 m,by rw[mdAt_eq hm.1];exact List.getElem?_eq_getElem hm.1,hf0.rs.2,by rw[Int.toNat_of_nonneg hzb.1];exact hz⟩
    have:=hgt_lt ok.good ok.acy hst
    omega
   obtain ⟨l1,es,h1⟩:=defl_ex hc n _ hel l e hr
   have hr1:=hr.defl (fun x hx=>by have:=hel x hx;omega) h1
   obtain ⟨l2,q,hp⟩:=defl_put hr.ck hf h1 (by have:=hr1.len;omega)
   have hd:=DefL.flex hf h1 hp .nil
   have hr2:=hr.defl (by simp;omega) hd
   obtain ⟨l',ns,h2⟩:=defl_ex hc (n+1) ms (fun x hx=>h x (List.mem_cons_of_mem _ hx)) l2 (e.trans (hd.ok hr.ck (by simp;omega)).ext) hr2
   exact ⟨l',q::ns,.flex hf h1 hp h2⟩
  ·obtain ⟨l',ns,h2⟩:=defl_ex hc (n+1) ms (fun x hx=>h x (List.mem_cons_of_mem _ hx)) l e hr
   exact ⟨l',m::ns,.flat hf h2⟩
open Classical in
noncomputable def deflI (l:List Md) (m:Nat):List Md×Nat:=if h: ∃p:List Md×Nat,DefL l [m] p.1 [p.2] then h.choose else (l,m)
theorem DefL.eq {l l':List Md} {m n:Nat} (h:DefL l [m] l' [n]):deflI l m=(l',n):=by
 have hex: ∃p:List Md×Nat,DefL l [m] p.1 [p.2]:=⟨(l',n),h⟩
 unfold deflI
 rw[dif_pos hex]
 have:=hex.choose_spec.det h
 refine Prod.ext this.1 ?_
 simpa using this.2
theorem deflI_spec {l:List Md} (hr:Room l) {m:Nat} (hm:m<l.length):DefL l [m] (deflI l m).1 [(deflI l m).2]:=by
 obtain ⟨l',ns,h⟩:=defl_ex hr.ck (hgt l m+1) [m] (by simp;omega) l .refl hr
 have hl:=(h.ok hr.ck (by simp;omega)).len
 obtain ⟨n,rfl⟩: ∃n,ns= [n]:=List.length_eq_one_iff.1 (by simpa using hl)
 rw[h.eq]
 exact h
noncomputable def leastN (l:List Md) (p:Nat):Nat:=(leastI l p).toNat
theorem leastN_spec {l:List Md} {p:Nat} (hp:p<l.length):leastI l p=(leastN l p:Nat)∧leastN l p<l.length∧RR l (leastN l p)=RR l p:=by
 obtain ⟨j,h1,h2,h3⟩:=least_spec hp
 have:leastN l p=j:=by unfold leastN;rw[h1];rfl
 rw[this]
 exact ⟨h1,h2,h3⟩
def headE (l:List Md) (m:Nat):Nat:=((mdAt l m).elems.getD 0 0).toNat
def lead (l:List Md) (m:Nat):Prop:=(mdAt l m).kind=9∨((mdAt l m).kind=13∧(mdAt l m).elems.length=1)
instance (l:List Md) (m:Nat):Decidable (lead l m):=by unfold lead;infer_instance
inductive Lead (l:List Md):Nat→Nat→Prop
 |stop {a:Nat}: ¬lead l a→Lead l a 0
 |go {a t:Nat}:lead l a→Lead l (headE l a) t→Lead l a (t+1)
theorem lead_elem {l:List Md} (hc:checkI l=0) {a:Nat} (ha:a<l.length) (h:lead l a):(mdAt l a).elems[0]? =some (headE l a:Int)∧headE l a<l.length:=by
 have hmem:mdAt l a∈l:=by rw[mdAt_eq ha];exact List.getElem_mem ha
 have hone:=(oneI_zero ((checkOk_iff.1 hc).one _ hmem)).1
 obtain ⟨_,_,hs,_⟩:=shapeI_zero hone
 have h1:1≤(mdAt l a).elems.length:=by
  rcases h with h|h
  ·have:=hs.1
   unfold least at this
   rw[if_pos (by omega)] at this
   omega
  ·omega
 have h0:=List.getElem?_eq_getElem (l:=(mdAt l a).elems) h1
 have he:=elem_lt (okT_of hc).good ha h0
 have hh:headE l a=((mdAt l a).elems[0]).toNat:=by unfold headE;rw[List.getD_eq_getElem?_getD,h0];rfl
 refine ⟨?_,by rw[hh];exact he.2⟩
 rw[h0,hh,Int.toNat_of_nonneg he.1]
theorem Lead.ext {l k:List Md} (e:Ext l k) (hc:checkI l=0) {a t:Nat} (h:Lead l a t):a<l.length→Lead k a t:=by
 have hm: ∀{a:Nat},a<l.length→(lead k a↔lead l a):=fun ha=>by unfold lead;rw[e.md ha]
 induction h with
 |stop h=>exact fun ha=> .stop fun h'=>h ((hm ha).1 h')
 | @go a t h _ ih=>
  intro ha
  have hh:headE k a=headE l a:=by unfold headE;rw[e.md ha]
  exact .go ((hm ha).2 h) (by rw[hh];exact ih (lead_elem hc ha h).2)
theorem lead_congr {l:List Md} (hc:checkI l=0) {a b:Nat} (ha:a<l.length) (hb:b<l.length) (he:RR l a=RR l b) (h:lead l a):lead l b:=by
 have hk:=RR_kind ha hb he
 rcases h with h|⟨h,h1⟩
 ·exact .inl (by rw[←hk];exact h)
 ·refine .inr ⟨by rw[←hk];exact h,?_⟩
  rw[←(RR_elem (okT_of hc).good ha hb he (by simp[isU,h])).1]
  exact h1
theorem head_congr {l:List Md} (hc:checkI l=0) {a b:Nat} (ha:a<l.length) (hb:b<l.length) (he:RR l a=RR l b) (h:lead l a):RR l (headE l a)=RR l (headE l b):=by
 have hu:isU (mdAt l a)=false:=by
  rcases h with h|h<;>simp[isU,h]
 have:=(RR_elem (okT_of hc).good ha hb he hu).2 0 _ _ (lead_elem hc ha h).1 (lead_elem hc hb (lead_congr hc ha hb he h)).1
 simpa using this
theorem Lead.congr {l:List Md} (hc:checkI l=0) {a t:Nat} (h:Lead l a t): ∀{b:Nat},a<l.length→b<l.length→RR l a=RR l b→Lead l b t:=by
 induction h with
 |stop h=>exact fun ha hb he=> .stop fun h'=>h (lead_congr hc hb ha he.symm h')
 | @go a t h _ ih=>
  intro b ha hb he
  have h':=lead_congr hc ha hb he h
  exact .go h' (ih (lead_elem hc ha h).2 (lead_elem hc hb h').2 (head_congr hc ha hb he h))
theorem Lead.det {l:List Md} {a t t':Nat} (h:Lead l a t) (h':Lead l a t'):t=t':=by
 induction h generalizing t' with
 |stop h=>cases h' with
  |stop _=>rfl
  |go h1 _=>exact absurd h1 h
 |go h _ ih=>cases h' with
  |stop h1=>exact absurd h h1
  |go _ h1=>rw[ih h1]
open Classical in
noncomputable def hgtG (l:List Md) (a:Nat):Nat:=(List.range l.length).countP fun j=>decide (TransGen (stepR l (fun x=> !yangB x)) a j)
open Classical in
theorem Lead.ex {l:List Md} (hc:checkI l=0): ∀(n a:Nat),hgtG l a<n→a<l.length→ ∃t,t<n∧Lead l a t
 |0,_,h,_=>by omega
 |n+1,a,h,ha=>by
  by_cases hl:lead l a
  ·obtain ⟨h0,hb⟩:=lead_elem hc ha hl
   have hy:yangB (mdAt l a)=false:=by
    rcases hl with hl|hl
    ·simp[yangB,hl]
    ·simp[yangB,hl]
   have hst:stepR l (fun x=> !yangB x) a (headE l a):=⟨mdAt l a,by rw[mdAt_eq ha];exact List.getElem?_eq_getElem ha,by simp[hy],List.mem_of_getElem? h0⟩
   have hlt:hgtG l (headE l a)<hgtG l a:=by
    unfold hgtG
    refine countP_lt (x:=headE l a) (fun j _ hj=>?_) (List.mem_range.2 hb) ?_ ?_
    ·simp only[decide_eq_true_eq] at hj ⊢
     exact TransGen.head' hst hj
    ·simp only[decide_eq_false_iff_not]
     exact fun h=>(checkOk_iff.1 hc).bad _ hb (.inr h)
    ·simp only[decide_eq_true_eq]
     exact .single hst
   obtain ⟨t,ht,h1⟩:=Lead.ex hc n (headE l a) (by omega) hb
   exact ⟨t+1,by omega,.go hl h1⟩
  ·exact ⟨0,by omega,.stop hl⟩
theorem Lead.has {l:List Md} (hr:Room l) {a:Nat} (ha:a<l.length): ∃t,t≤19∧Lead l a t:=by
 obtain ⟨t,h1,h2⟩:=Lead.ex hr.ck (hgtG l a+1) a (by omega) ha
 have hle:hgtG l a≤l.length:=by
  unfold hgtG
  refine Nat.le_trans List.countP_le_length ?_
  simp
 have:=hr.len
 exact ⟨t,by omega,h2⟩
noncomputable def downI (l:List Md) (m:Nat):Option (List Md×Nat):=
 if (mdAt l m).kind=9 then some ((deflI l (headE l m)).1,leastN (deflI l (headE l m)).1 (deflI l (headE l m)).2)
 else if (mdAt l m).kind=13∧(mdAt l m).elems.length=1∧(mdAt l (headE l m)).kind≠0 then some (l,leastN l (headE l m)) else none
theorem down_ok {l l':List Md} {m n:Nat} (hr:Room l) (hm:m<l.length) (h:downI l m=some (l',n)):lead l m∧Room l'∧Ext l l'∧n<l'.length∧(∀t,Lead l m t→ ∃t',t'<t∧Lead l' n t'):=by
 unfold downI at h
 split at h
 ·rename_i hk
  have hl:lead l m:= .inl hk
  obtain ⟨_,hh⟩:=lead_elem hr.ck hm hl
  have hd:=deflI_spec hr hh
  simp only[Option.some.injEq,Prod.mk.injEq] at h
  obtain ⟨rfl,rfl⟩:=h
  generalize deflI l (headE l m)=p at*
  obtain ⟨k,d⟩:=p
  simp only at*
  have hrk:=hr.defl (by simpa using hh) hd
  have ok:=hd.ok hr.ck (by simpa using hh)
  have hat:=ok.at_ 0 _ _ rfl rfl
  obtain ⟨_,h2,h3⟩:=leastN_spec hat.1
  refine ⟨hl,hrk,ok.ext,h2,fun t ht=>?_⟩
  cases ht with
  |stop h=>exact absurd hl h
  | @go _ t _ ht=>
   refine ⟨t,by omega,?_⟩
   by_cases hf:FlexP l (headE l m)
   ·have hrs:=hf.rs.2
    have hkk:(mdAt l (headE l m)).kind=10∨(mdAt l (headE l m)).kind=11:=by
     unfold rowStruct at hrs;simpa only[Bool.or_eq_true,beq_iff_eq] using hrs
    have ht0:t=0:=ht.det (.stop fun h=>by rcases h with h|h<;>omega)
    subst ht0
    refine (Lead.stop fun h=>?_:Lead k d 0).congr hrk.ck hat.1 h2 h3.symm
    rcases h with h|h<;>omega
   ·have hdl:d=headE l m:=hat.2.2.2 hf
    subst hdl
    exact (ht.ext ok.ext hr.ck hh).congr hrk.ck hat.1 h2 h3.symm
 ·split at h
  ·rename_i hk
   have hl:lead l m:= .inr ⟨hk.1,hk.2.1⟩
   obtain ⟨_,hh⟩:=lead_elem hr.ck hm hl
   simp only[Option.some.injEq,Prod.mk.injEq] at h
   obtain ⟨rfl,rfl⟩:=h
   obtain ⟨_,h2,h3⟩:=leastN_spec hh
   refine ⟨hl,hr,.refl,h2,fun t ht=>?_⟩
   cases ht with
   |stop h=>exact absurd hl h
   | @go _ t _ ht=>exact ⟨t,by omega,ht.congr hr.ck hh h2 h3.symm⟩
  ·cases h
open Classical in
noncomputable def firmI:Nat→List Md→Nat→Nat→Option (Nat×Bool)
 |0,_,_,_=>none
 |F+1,l,m,to=>
  if RR l m=RR l to∨uniB l m to=true then some (0,!decide (RR l m=RR l to))
  else match downI l m with
   |none=>none
   |some (l',n)=>(firmI F l' n to).map fun p=>(p.1+1,p.2)
def better:Option (Bool×Nat×Nat×Bool)→Option (Bool×Nat×Nat×Bool)→Option (Bool×Nat×Nat×Bool)
 |none,x=>x
 |some w,none=>some w
 |some w,some x=>if x.2.2.1<w.2.2.1 then some x else some w
theorem better_none (x:Option (Bool×Nat×Nat×Bool)):better x none=x:=by cases x<;>rfl
theorem better_assoc (x y z:Option (Bool×Nat×Nat×Bool)):better (better x y) z=better x (better y z):=by
 cases x with
 |none=>rfl
 |some x=>
  cases y with
  |none=>cases z<;>rfl
  |some y=>
   cases z with
   |none=>simp only[better_none]
   |some z=>
    obtain ⟨x1,x2,x3,x4⟩:=x
    obtain ⟨y1,y2,y3,y4⟩:=y
    obtain ⟨z1,z2,z3,z4⟩:=z
    by_cases h1:y3<x3<;>by_cases h2:z3<y3<;>by_cases h3:z3<x3<;>simp[better,h1,h2,h3]<;>omega
def oneW (l:List Md) (first:Bool) (to z:Nat) (F:Option (Nat×Bool)):Option (Bool×Nat×Nat×Bool):=F.map fun p=>(first,z,p.1,p.2)
noncomputable def halfI (l:List Md) (first:Bool) (to:Nat) (zs:List Nat):Option (Bool×Nat×Nat×Bool):=zs.foldl (fun best z=>better best (oneW l first to z (firmI 100 l z to))) none
theorem half_from (l:List Md) (first:Bool) (to:Nat): ∀(zs:List Nat) (x:Option (Bool×Nat×Nat×Bool)),zs.foldl (fun best z=>better best (oneW l first to z (firmI 100 l z to))) x=better x (halfI l first to zs)
 | [],x=>(better_none x).symm
 |z::zs,x=>by
  unfold halfI
  rw[List.foldl_cons,List.foldl_cons,half_from l first to zs,half_from l first to zs,better_assoc]
  rfl
theorem half_snoc (l:List Md) (first:Bool) (to:Nat) (zs:List Nat) (z:Nat):halfI l first to (zs++ [z])=better (halfI l first to zs) (oneW l first to z (firmI 100 l z to)):=by
 unfold halfI
 rw[List.foldl_append]
 rfl
noncomputable def relI (l:List Md) (a b:Nat):Option (Bool×Nat×Nat×Bool):=better (halfI l true b (basesOf l a)) (halfI l false a (basesOf l b))
theorem better_some {x y:Option (Bool×Nat×Nat×Bool)}:(better x y).isSome=(x.isSome||y.isSome):=by
 cases x<;>cases y<;>simp[better]
 split<;>rfl
theorem half_some {l:List Md} {first:Bool} {to:Nat}: ∀{zs:List Nat},(halfI l first to zs).isSome=zs.any fun z=>(firmI 100 l z to).isSome
 | []=>rfl
 |z::zs=>by
  have:=half_from l first to zs (better none (oneW l first to z (firmI 100 l z to)))
  unfold halfI
  rw[List.foldl_cons,this,better_some,half_some,List.any_cons]
  congr 1
  show (oneW l first to z (firmI 100 l z to)).isSome=_
  unfold oneW
  rw[Option.isSome_map]
end Go.Proofs.YtlniliigcnedmaaGreat
namespace Go.Proofs.YtlniliigcnedmaaGreat
open Go Ax
set_option maxRecDepth 100000
theorem leastN_at {l:List Md} {k x:Nat} (hk:k<l.length) (h:RR l k=RR l x) (hn: ∀j,j<k→RR l j≠RR l x):leastN l x=k:=by
 unfold leastN leastI
 rw[fidx_at l.length 0 k (by omega) (by omega) (by simpa using h) (fun j _ hj=>by simpa using hn j hj)]
 rfl
theorem Room.nm {l:List Md} (h:Room l): ∀x∈l,x.names.length<2^40:=fun x hx=>(h.h40 x hx).2
theorem k87 (s:AVal) (l:List Md) (x:Nat) (m:AMem) (hs:RTab m s l) (hr:Room l) (hx:x<l.length):
  ACalls Tryz.prog 87 [s,.int .i64 x] m fun v m'=>v= .int .i64 (leastN l x:Nat)∧m<+:m':=by
 refine w87 ?_
 have hn:=hr.t13
 have hl:=hr.len
 simp
 obtain ⟨I,hI⟩: ∃I:Nat→AFrame→AMem→Prop,∀q f m',I q f m'↔(∃k:Nat,k+q=x∧f=h87_0 s (.int .i64 x) (.int .i64 x) (.int .i64 k)∧m<+:m'∧ ∀j,j<k→RR l j≠RR l x):=⟨_,fun _ _ _=>Iff.rfl⟩
 refine W_loop I x ((hI _ _ _).2 ⟨0,by simp,by simp,List.prefix_refl _,by simp⟩) ?_
 rintro q f m1 hIn
 obtain ⟨k,hk,rfl,hm1,hno⟩:=(hI _ _ _).1 hIn
 clear hIn
 simp
 refine bbind_dec (fun hkl=>?_) fun hkl=>?_
 ·have hkl:k<x:=by omega
  have hw:=step64 (k:=k) (n:=x) hkl (by omega)
  obtain ⟨q,rfl⟩: ∃q',q=q'+1:=⟨q-1,by omega⟩
  simp
  refine C_of (k10 s l k x m1 (hs.mono hm1) hr.sm hn hr.ck (by omega) hx) ?_
  rintro _ m2 ⟨rfl,hm2⟩
  by_cases he:RR l k=RR l x
  ·simp[he,leastN_at (by omega) he hno,hm1.trans hm2]
  ·simp[he,hw]
   refine ⟨q,by omega,(hI _ _ _).2 ⟨k+1,by omega,by simp,hm1.trans hm2,fun j hj=>?_⟩⟩
   by_cases hjk:j=k
   ·subst hjk;exact he
   ·exact hno j (by omega)
 ·have hkl:k=x:=by omega
  subst hkl
  simp[leastN_at hx rfl hno,hm1]
theorem k54 (s:AVal) (l:List Md) (a b:Nat) (m:AMem) (hs:RTab m s l) (hr:Room l) (ha:a<l.length) (hb:b<l.length):
  ACalls Tryz.prog 54 [s,.int .i64 a,.int .i64 b] m fun v m'=>v= .tuple [.bool (decide (RR l a=RR l b)),.bool (uniB l a b)]∧m<+:m':=by
 refine w54 ?_
 simp
 refine C_of (k10 s l a b m hs hr.sm hr.t13 hr.ck ha hb) ?_
 rintro _ m1 ⟨rfl,hm1⟩
 simp
 refine C_of (k84 s l a b m1 (hs.mono hm1) hr.sm hr.nm hr.t13) ?_
 rintro _ m2 ⟨rfl,hm2⟩
 rw[uniV_ok hr.ck ha hb]
 simp[hm1.trans hm2]
theorem k30 (s:AVal) (l:List Md) (x:Nat) (m:AMem) (hs:RTab m s l) (hr:Room l) (hx:x<l.length):
  ACalls Tryz.prog 30 [s,.int .i64 x] m fun v m'=>m<+:m'∧OwL natI m.length m' 3 v (basesOf l x):=by
 refine w30 ?_
 have hg:=(okT_of hr.ck).good
 obtain ⟨bx',ox,ex,gx1,gx2,_⟩:=hs.elems hx
 have gk:=(gx2 m (List.prefix_refl _)).1
 simp[gx1,gk]
 by_cases hu:isU (mdAt l x)=true
 ·have hk:l[x].kind=12:=by rw[mdAt_eq hx] at hu;simpa[isU] using hu
  simp[hk]
  refine C_of (k56 s l x m hs hr.sm hr.t13 hr.ck hx hu) ?_
  rintro _ m1 ⟨hm1,t,rfl,hT⟩
  simp
  exact ⟨hm1,hT⟩
 ·have hu:isU (mdAt l x)=false:=by simpa using hu
  have hk: ¬l[x].kind=12:=by rw[mdAt_eq hx] at hu;simpa[isU] using hu
  have hb:basesOf l x= [x]:=(basesEx hg hx).el hu
  simp[beqF hk,fillA,setN,hb]
  have:=OwL.new (f:=natI) m 3 [x]
  simpa using this
end Go.Proofs.YtlniliigcnedmaaGreat
namespace Go.Proofs.YtlniliigcnedmaaGreat
open Go Ax
open Relation
set_option maxRecDepth 100000
theorem TabS.atC {S:Nat→Prop} {m:AMem} {s:AVal} {l:List Md} (h:TabS S m s l) {i:Nat} (hi:i<l.length): ∃b o c,(∀k,iaddrE 6 s (.int k i)=some (.ptr b o))∧loadE m 6 true (.ptr b o)=some (.agg c)∧ ∀m',Ch S m m'→RMode m' c l[i]:=by
 obtain ⟨cs,h⟩:=h
 obtain ⟨h1,_⟩:=h m (.refl _ _)
 obtain ⟨b,o,g1,_,g3⟩:=h1.at hi
 exact ⟨b,o,_,g1,g3,fun m' hc=>(h m' hc).2 i _ (List.getElem?_eq_getElem hi)⟩
theorem lookup_at {m:AMem} {b:Nat} {es:List (Int×AVal)} (h:m[b]? =some (.mp es)) (z:AVal) (ok:Bool) (n:Int):lookupE m z ok (.map b) (.int .i64 n)=some (if ok then .tuple [(findE es n).getD z,.bool (findE es n).isSome] else (findE es n).getD z):=by
 simp only[lookupE,h]
theorem mapset_at {m:AMem} {b:Nat} {es:List (Int×AVal)} (h:m[b]? =some (.mp es)) (n:Int) (v:AVal):mapsetE m (.map b) (.int .i64 n) v=some (.undef,m.set b (.mp (setE es n v))):=by
 simp only[mapsetE,h]
theorem findE_setE (k n:Int) (v:AVal): ∀es:List (Int×AVal),findE (setE es k v) n=if k=n then some v else findE es n
 | []=>by simp[setE,findE]
 |(a,x)::es=>by
  simp only[setE]
  split
  ·rename_i h
   subst h
   simp only[findE]
   split<;>rfl
  ·rename_i h
   simp only[findE,findE_setE k n v es]
   by_cases ha:a=n
   ·subst ha
    rw[if_pos rfl,if_neg (fun h'=>h h'.symm),if_pos rfl]
   ·rw[if_neg ha,if_neg ha]
theorem set_ch {m:AMem} {b:Nat} (x:ABlk) {S:Nat→Prop} (h:S b):Ch S m (m.set b x):=Ch.setS x h
structure DSt (S:Nat→Prop) (bd bl bf bm:Nat) (m:AMem) (l:List Md) (es:List (Int×AVal)):Prop where
 rd:readB m bd=some [.map bm]
 rl: ∃s,m[bl]? =some (.own [s] 22 none)∧TabS S m s l
 rf:readB m bf=some [.func (.func 115) [] [.ptr bd 0,.ptr bl 0,.ptr bf 0]]
 mp:m[bm]? =some (.mp es)
 ne:bd≠bl∧bd≠bm∧bf≠bl∧bf≠bm∧bl≠bm
theorem DSt.mono {S:Nat→Prop} {bd bl bf bm:Nat} {m m':AMem} {l:List Md} {es:List (Int×AVal)} (h:DSt S bd bl bf bm m l es) (hm:m<+:m'):DSt S bd bl bf bm m' l es:=by
 obtain ⟨s,h1,h2⟩:=h.rl
 exact ⟨readB_mono hm h.rd,⟨s,own_mono h1 hm,h2.mono hm⟩,readB_mono hm h.rf,own_mono h.mp hm,h.ne⟩
theorem DSt.lt {S:Nat→Prop} {bd bl bf bm:Nat} {m:AMem} {l:List Md} {es:List (Int×AVal)} (h:DSt S bd bl bf bm m l es):bd<m.length∧bl<m.length∧bf<m.length∧bm<m.length:=by
 obtain ⟨s,h1,h2⟩:=h.rl
 exact ⟨readB_lt h.rd,(List.getElem?_eq_some_iff.1 h1).1,readB_lt h.rf,(List.getElem?_eq_some_iff.1 h.mp).1⟩
theorem DSt.ch {S T:Nat→Prop} {bd bl bf bm:Nat} {m m':AMem} {l:List Md} {es:List (Int×AVal)} (h:DSt S bd bl bf bm m l es) (hc:Ch T m m') (hT: ∀b,b<m.length→T b→S b∧b≠bd∧b≠bl∧b≠bf∧b≠bm):DSt S bd bl bf bm m' l es:=by
 obtain ⟨s,h1,h2⟩:=h.rl
 obtain ⟨a1,a2,a3,a4⟩:=h.lt
 exact ⟨hc.read (fun t=>(hT _ a1 t).2.1 rfl) h.rd,⟨s,hc.keep _ _ h1 fun t=>(hT _ a2 t).2.2.1 rfl,h2.next (hc.weaken fun b hb t=>(hT b hb t).1)⟩,hc.read (fun t=>(hT _ a3 t).2.2.2.1 rfl) h.rf,hc.keep _ _ h.mp fun t=>(hT _ a4 t).2.2.2.2 rfl,h.ne⟩
theorem DSt.weaken {S T:Nat→Prop} {bd bl bf bm:Nat} {m:AMem} {l:List Md} {es:List (Int×AVal)} (h:DSt S bd bl bf bm m l es) (hs: ∀b,b<m.length→T b→S b):DSt T bd bl bf bm m l es:=by
 obtain ⟨s,h1,cs,h2⟩:=h.rl
 exact ⟨h.rd,⟨s,h1,cs,fun m' hc=>h2 m' (hc.weaken hs)⟩,h.rf,h.mp,h.ne⟩
def DMap (l0 l:List Md) (es:List (Int×AVal)):Prop:= ∀k v,findE es k=some v→ ∃j n:Nat,k=j∧v= .int .i64 n∧j<l0.length∧DefL l [j] l [n]
theorem DMap.ext {l0 l l':List Md} {es:List (Int×AVal)} (h:DMap l0 l es) (e0:Ext l0 l) (hc:checkI l=0) (e:Ext l l') (hn:l'.length<512):DMap l0 l' es:=fun k v hk=>by
 obtain ⟨j,n,a,b,c,d⟩:=h k v hk
 have:=e0.len
 exact ⟨j,n,a,b,c,d.stable hc (by simp;omega) e hn⟩
def Bx2 (bl bm:Nat) (b:Nat):Prop:=b=bl∨b=bm
set_option maxHeartbeats 8000000 in
theorem k115 (bd bl bf bm:Nat) (l0:List Md) (hc0:checkI l0=0): ∀(n i:Nat),i<l0.length→hgt l0 i<n→ ∀(S:Nat→Prop) (l:List Md) (es:List (Int×AVal)) (m:AMem),S bl→S bm→(∀b,S b→b<m.length)→Ext l0 l→Room l→DMap l0 l es→DSt S bd bl bf bm m l es→
  ACalls Tryz.prog 115 [.int .i64 i,.ptr bd 0,.ptr bl 0,.ptr bf 0] m fun v m'=>Ch (Bx2 bl bm) m m'∧ ∃l' es',∃r:Nat,v= .tuple [.int .i64 r,.int .i64 0]∧DefL l [i] l' [r]∧DMap l0 l' es'∧DSt S bd bl bf bm m' l' es':=by
 intro n
 induction n with
 |zero=>intro i _ h;omega
 |succ n ih=>
  intro i hi hh S l es m hSl hSm hSlt e0 hr hD hS
  refine w115 ?_
  have hl:=e0.len
  have hil:i<l.length:=by omega
  have hcl:=hr.ck
  have hrl:=hr.len
  have ok0:=okT_of hc0
  obtain ⟨s,hbl,hT⟩:=hS.rl
  obtain ⟨q1,q2,q3,q4⟩:=hS.lt
  simp[bx hS.rd,lookup_at hS.mp]
  cases hf:findE es (i:Int) with
  |some v=>
   obtain ⟨j,r,hj,rfl,_,hd⟩:=hD _ _ hf
   obtain rfl:i=j:=by omega
   simp
   exact ⟨.refl _ _,l,es,r,rfl,hd,hD,hS⟩
  |none=>
  simp[bx (own_read hbl)]
  refine C_of (k116 s l i hil m hT.tab hr.sm hcl) ?_
  rintro _ m1 ⟨rfl,hm1⟩
  by_cases hfx:FlexP l i
  rotate_left
  ·simp[hfx]
   exact ⟨.of_prefix hm1,l,es,i,rfl,.flat hfx .nil,hD,hS.mono hm1⟩
  simp[hfx]
  have hm1l:=hm1.length_le
  have hS1:=hS.mono hm1
  have hbl1:=own_mono hbl hm1
  obtain ⟨bx',ox,c,g1,g2,g3⟩:=(hT.mono hm1).atC hil
  have h6:=g3 m1 (.refl _ _)
  have hcl6:=h6.all
  simp[bx (own_read hbl1),g1,g2]
  rw[store_new _ _ c _ _ 6 hcl6.1 rfl hcl6.2]
  obtain ⟨e,nm,_,_,_,_,_,_,he,hnm,rfl⟩:=h6.get
  have hxe:mdAt l i=l[i]:=mdAt_eq hil
  have hxm:l[i]∈l:=List.getElem_mem hil
  have hx40:=hr.h40 _ hxm
  have hsx:=hr.sm _ hxm
  have hgx:=(okT_of hcl).good _ hxm
  have hb9:(m1++ [ABlk.own [.int .i64 l[i].kind,.int .i64 l[i].size,e,nm,.int .i64 l[i].dims,.bool l[i].flex] 40 none])[m1.length]? =some (.own [.int .i64 l[i].kind,.int .i64 l[i].size,e,nm,.int .i64 l[i].dims,.bool l[i].flex] 40 none):=by simp
  have hm12:m1<+:m1++ [ABlk.own [.int .i64 l[i].kind,.int .i64 l[i].size,e,nm,.int .i64 l[i].dims,.bool l[i].flex] 40 none]:=List.prefix_append _ _
  simp
  generalize m1++ [ABlk.own [.int .i64 l[i].kind,.int .i64 l[i].size,e,nm,.int .i64 l[i].dims,.bool l[i].flex] 40 none]=m2 at*
  generalize hb9e:m1.length=b9 at*
  obtain ⟨m3,hst3,hb93,hch3⟩:=fld_store (i:=5) (v:= .bool false) hb9 (by simp) rfl rfl
  simp at hb93
  simp[hst3,bx (own_read hb93)]
  have hc13:Ch S m1 m3:=Ch.andThen (.of_prefix hm12) hch3 fun b hb h=>by omega
  have he3:=(g3 m3 hc13)
  obtain ⟨e',nm',he'q,he3,_⟩:=he3
  simp at he'q
  obtain ⟨rfl,rfl⟩:=he'q
  refine C_of (k117 e l[i].elems m3 he3 (by omega)) ?_
  rintro t m4 ⟨hm34,hX⟩
  have ts:=(Ow.sl hX).self
  have hb94:=own_mono hb93 hm34
  obtain ⟨m5,hst5,hb95,hch5⟩:=fld_store (i:=2) (v:=t) hb94 (by simp) ts.2 ts.1
  simp at hb95
  simp[hst5,bx (own_read hb95)]
  have hml3:=hch3.len
  have hb9m2:b9<m2.length:=(List.getElem?_eq_some_iff.1 hb9).1
  have hXb: ∀b,t.blk=some b→m3.length≤b:=fun b hb=>(hX.blk_lo hb).1
  have hX5:=hX.ch hch5 fun b hb h=>by have:=hXb b hb;omega
  have hc15:Ch S m1 m5:=Ch.andThen (hc13.trans (.of_prefix hm34)) hch5 fun b hb h=>by omega
  have hcB:Ch (Bx2 bl bm) m1 m5:=Ch.andThen ((Ch.andThen (.of_prefix hm12) hch3 fun b hb h=>by omega).trans (.of_prefix hm34)) hch5 fun b hb h=>by omega
  have hm15:m1<+:m5:=Ch.pre (Ch.andThen ((Ch.andThen (T:=fun c=>c=b9) (S:=fun _=>False) (.of_prefix hm12) hch3 fun b hb h=>by omega).trans (.of_prefix hm34)) hch5 fun b hb h=>by omega) (List.prefix_refl _) fun _ _ h=>h
  have hS5:DSt (fun b=>S b∨m1.length≤b) bd bl bf bm m5 l es:=(DSt.weaken (T:=fun b=>S b∨m1.length≤b) hS1 fun b hb h=>by rcases h with h|h;exact h;omega).mono hm15
  simp[hX5.len]
  clear hst3 hst5 hch3 hch5 hX hb9 hb93 hb94 hm12 hm34
  have hfi:FlexP l0 i:=(e0.flex hc0 hi).1 hfx
  have hel:l[i].elems=(mdAt l i).elems:=by rw[hxe]
  have hm5l:=hm15.length_le
  have hXlo: ∀b,t.blk=some b→m1.length<b:=fun b hb=>by have:=hXb b hb;omega
  obtain ⟨I,hI⟩: ∃I:Nat→AFrame→AMem→Prop,∀q f m',I q f m'↔(∃(k:Nat) (lk:List Md) (ek:List (Int×AVal)) (ns:List Nat),k+q=l[i].elems.length∧ns.length=k∧f=h115_0 (.int .i64 i) (.ptr bd 0) (.ptr bl 0) (.ptr bf 0) (.ptr b9 0) t (.int .i64 l[i].elems.length) (.int .i64 k)∧DefL l ((l[i].elems.map Int.toNat).take k) lk ns∧Room lk∧Ext l0 lk∧DMap l0 lk ek∧DSt (fun b=>S b∨t.blk=some b) bd bl bf bm m' lk ek∧Ch (Bx2 bl bm) m1 m'∧b9<m'.length∧m'[b9]? =some (.own [.int .i64 l[i].kind,.int .i64 l[i].size,t,nm,.int .i64 l[i].dims,.bool false] 40 none)∧OwL (AVal.int .i64) (b9+1) m' 3 t (ns.map (fun z:Nat=>(z:Int))++l[i].elems.drop k)):=⟨_,fun _ _ _=>Iff.rfl⟩
  refine W_loop I l[i].elems.length ((hI _ _ _).2 ⟨0,l,es,[],by simp,rfl,by simp,by simpa using DefL.nil,hr,e0,hD,DSt.weaken hS5 (fun b hb h=>?_),hcB,(List.getElem?_eq_some_iff.1 hb95).1,hb95,by simpa using hX5.lo' (by omega)⟩) ?_
  ·rcases h with h|h
   ·exact .inl h
   ·have:=hXlo b h;right;omega
  rintro q f m6 hIn
  obtain ⟨k,lk,ek,ns,hk,hnl,rfl,hDk,hrk,e0k,hmk,hSk,hck,hb9l,hb9k,hXk⟩:=(hI _ _ _).1 hIn
  clear hIn
  simp
  refine bbind_dec (fun hkl=>?_) fun hkl=>?_
  ·have hkl:k<l[i].elems.length:=by omega
   have hw:=step64 (k:=k) (n:=l[i].elems.length) hkl (by omega)
   obtain ⟨q,rfl⟩: ∃q',q=q'+1:=⟨q-1,by omega⟩
   have hxl:(ns.map (fun z:Nat=>(z:Int))++l[i].elems.drop k).length=l[i].elems.length:=by simp;omega
   obtain ⟨bt,ot,hbt,hpt,hlt,hstt⟩:=hXk.at (i:=k) (by omega)
   have hxk:(ns.map (fun z:Nat=>(z:Int))++l[i].elems.drop k)[k]'(by omega)=l[i].elems[k]:=by
    rw[List.getElem_append_right (by simp;omega)]
    simp[hnl]
   rw[hxk] at hlt
   obtain ⟨z,hz⟩: ∃z:Nat,l[i].elems[k]=z:=⟨(l[i].elems[k]).toNat,by have:=(hgx _ (List.getElem_mem hkl)).1;omega⟩
   rw[hz] at hlt
   have hzl:z<l0.length∧hgt l0 z<n:=by
    have hmd:mdAt l i=mdAt l0 i:=e0.md hi
    have hmem:(z:Int)∈(mdAt l0 i).elems:=by rw[←hmd,←hel,←hz];exact List.getElem_mem hkl
    have hgz:=ok0.good (mdAt l0 i) (by rw[mdAt_eq hi];exact List.getElem_mem hi) _ hmem
    have hst:stepF l0 i z:=⟨mdAt l0 i,by rw[mdAt_eq hi];exact List.getElem?_eq_getElem hi,hfi.rs.2,hmem⟩
    have:=hgt_lt ok0.good ok0.acy hst
    omega
   simp[hpt,hlt,bx hSk.rf]
   have hbtl:=(hXk.blk_lo hbt).2
   refine C_of (ih z hzl.1 hzl.2 (fun b=>S b∨t.blk=some b) lk ek m6 (.inl hSl) (.inl hSm) (fun b hb=>?_) e0k hrk hmk hSk) ?_
   ·rcases hb with hb|hb
    ·have:=hSlt b hb;have:=hck.len;omega
    ·exact (hXk.blk_lo hb).2
   rintro _ m7 ⟨hch7,l7,es7,r,rfl,hd7,hm7,hS7⟩
   have hx7:=hd7.ok hrk.ck (by have:=e0k.len;simp;omega)
   have hr7:=hrk.defl (by have:=e0k.len;simp;omega) hd7
   have hnb: ∀b,Bx2 bl bm b→b<m.length:=fun b hb=>by rcases hb with rfl|rfl<;>assumption
   have hb97:=hch7.keep _ _ hb9k fun h=>by have:=hnb _ h;omega
   have hX7:=hXk.ch hch7 fun b hb h=>by have:=hnb _ h;have:=(hXk.blk_lo hb).1;omega
   obtain ⟨bt7,ot7,hbt7,hpt7,_,hstt7⟩:=hX7.at (i:=k) (by omega)
   obtain ⟨m8,hst8,hch8,hX8⟩:=hstt7 (r:Int)
   simp[bx (own_read hb97),hpt7,hst8,hw]
   have hbt7l:=hX7.blk_lo hbt7
   have hb98:=hch8.keep _ _ hb97 fun h=>by omega
   have hS8:=DSt.ch hS7 hch8 fun b hb h=>by
    subst h
    exact ⟨.inr hbt7,by omega,by omega,by omega,by omega⟩
   refine ⟨q,by omega,(hI _ _ _).2 ⟨k+1,l7,es7,ns++ [r],by omega,by simp[hnl],by simp,?_,hr7,e0k.trans hx7.ext,hm7,hS8,(hck.trans hch7).andThen hch8 fun b hb h=>by omega,by have:=hch7.len;have:=hch8.len;omega,hb98,?_⟩⟩
   ·rw[List.take_add_one,List.getElem?_map,List.getElem?_eq_getElem hkl,hz]
    exact hDk.append hd7
   ·have:(ns.map (fun z:Nat=>(z:Int))++l[i].elems.drop k).set k (r:Int)=(ns++ [r]).map (fun z:Nat=>(z:Int))++l[i].elems.drop (k+1):=by
     rw[List.set_append_right _ _ (by simp;omega)]
     have h0:k-(ns.map (fun z:Nat=>(z:Int))).length=0:=by simp[hnl]
     rw[h0,List.drop_eq_getElem_cons hkl,List.set_cons_zero]
     simp
    rw[←this]
    exact hX8
  ·have hkl:k=l[i].elems.length:=by omega
   subst hkl
   rw[List.take_of_length_le (by simp)] at hDk
   rw[List.drop_length,List.append_nil] at hXk
   have hDk':DefL l ((mdAt l i).elems.map Int.toNat) lk ns:=by rw[hxe];exact hDk
   obtain ⟨l2,r,hput⟩:=defl_put hcl hfx hDk' (by have:=hrk.len;omega)
   have hdi:DefL l [i] l2 [r]:= .flex hfx hDk' hput .nil
   have hr2:=hr.defl (by simp;omega) hdi
   have hx2:=hdi.ok hcl (by simp;omega)
   obtain ⟨hel2,hrs2⟩:=hDk'.es hcl hil
   obtain ⟨ek2,hck2,_⟩:=put_defl hrk.ck hfx hrs2 hput
   obtain ⟨sk,hblk,hTk⟩:=hSk.rl
   obtain ⟨p1,p2,p3,p4⟩:=hSk.lt
   obtain ⟨e6,nm6,he6,_,hnm6⟩:=g3 m6 (hck.weaken fun b _ h=>by rcases h with rfl|rfl<;>assumption)
   simp at he6
   obtain ⟨rfl,rfl⟩:=he6
   have hdx:deflX (mdAt l i) ns=⟨l[i].kind,l[i].size,ns.map fun z:Nat=>(z:Int),l[i].names,l[i].dims,false⟩:=by rw[hxe];rfl
   have hRM:RMode m6 [.int .i64 l[i].kind,.int .i64 l[i].size,t,nm,.int .i64 l[i].dims,.bool false] (deflX (mdAt l i) ns):=by
    rw[hdx]
    exact ⟨t,nm,rfl,hXk.ints,hnm6⟩
   have hb9r:=bxW (own_read hb9k) 6
   simp[readN] at hb9r
   simp[bx (own_read hblk),hb9r]
   have hnsl:ns.length=l[i].elems.length:=hnl
   have hsmx: ∀y∈lk++ [deflX (mdAt l i) ns],smallN y:=fun y hy=>by
    rcases List.mem_append.1 hy with hy|hy
    ·exact hrk.sm y hy
    ·simp at hy
     subst hy
     rw[hdx]
     refine ⟨by have:=hsx.1;simp;omega,hsx.2.1,hsx.2.2⟩
   have h40x: ∀y∈lk++ [deflX (mdAt l i) ns],y.elems.length<2^40∧y.names.length<2^40:=fun y hy=>by
    rcases List.mem_append.1 hy with hy|hy
    ·exact hrk.h40 y hy
    ·simp at hy
     subst hy
     rw[hdx]
     exact ⟨by have:=hx40.1;simp;omega,hx40.2⟩
   have hux:isU (deflX (mdAt l i) ns)=false:=by
    have:=rs_isU hfx.rs.2
    unfold isU at this ⊢;exact this
   have hT60:T60 (lk++ [deflX (mdAt l i) ns]):=⟨by have:=hrk.len;simp;omega,fun _=>hrk.few.more (okT_of hrk.ck).good hux⟩
   refine C_of (k118f sk _ lk (deflX (mdAt l i) ns) m6 hTk.tab hRM hsmx h40x hT60) ?_
   rintro _ m7 ⟨hm67,t14,rfl,hT14⟩
   rw[hput] at hT14
   simp only[hput]
   simp
   have ts14:=hT14.tab.self
   have hS7:=hSk.mono hm67
   have hrd7:=hS7.rd
   refine W_draw (fun _ _ _=>True) (by simp[maxDst]) ?_
   refine D_pc 0 4 [4,5] ?_
   simp[bx hrd7]
   intro _ _
   refine D_X rfl rfl fun m8 hm8 _=>?_
   have hbl8:=own_mono (own_mono hblk hm67) hm8
   have hne:=hSk.ne
   have hcA:Ch (fun b=>b=bl) m8 (m8.set bl (.own [t14] 22 none)):=set_ch _ rfl
   have hrd9:=hcA.read (fun h=>hne.1 h) (readB_mono hm8 hrd7)
   simp
   rw[store_at hbl8 ts14.2 ts14.1]
   simp
   refine ⟨by simp[lateOf,bx hrd9],?_⟩
   refine D_W rfl rfl fun m9 hm9 _=>?_
   have hmp8:=own_mono hS7.mp hm8
   have hmp8':(m8.set bl (.own [t14] 22 none))[bm]? =some (.mp ek):=by rw[List.getElem?_set_ne hne.2.2.2.2];exact hmp8
   have hmp9:=own_mono hmp8' hm9
   simp
   rw[mapset_at hmp9]
   simp
   refine D_end fun m10 hm10 _=>?_
   simp
   have hcC:Ch (fun b=>b=bm) m9 (m9.set bm (.mp (setE ek i (.int .i64 r)))):=set_ch _ rfl
   have hc810:Ch (Bx2 bl bm) m8 m10:=(((hcA.weaken fun b _ h=> .inl h).trans (.of_prefix hm9)).trans (hcC.weaken fun b _ h=> .inr h)).trans (.of_prefix hm10)
   have hc610:Ch (Bx2 bl bm) m6 m10:=(Ch.of_prefix (hm67.trans hm8)).trans hc810
   refine ⟨(Ch.of_prefix hm1).trans (hck.trans hc610),l2,setE ek i (.int .i64 r),r,rfl,hdi,fun k v hkv=>?_,?_⟩
   ·rw[findE_setE] at hkv
    split at hkv
    ·rename_i hki
     simp only[Option.some.injEq] at hkv
     exact ⟨i,r,hki.symm,hkv.symm,hi,hdi.stable hcl (by simp;omega) .refl (by have:=hr2.len;omega)⟩
    ·exact hmk.ext e0k hrk.ck ek2 (by have:=hr2.len;omega) k v hkv
   ·have hbl9:(m8.set bl (.own [t14] 22 none))[bl]? =some (.own [t14] 22 none):=by
     rw[List.getElem?_set_self (List.getElem?_eq_some_iff.1 hbl8).1]
    have hbl10:m10[bl]? =some (.own [t14] 22 none):=by
     refine own_mono ?_ hm10
     rw[List.getElem?_set_ne (fun h=>hne.2.2.2.2 h.symm)]
     exact own_mono hbl9 hm9
    have hmp10:m10[bm]? =some (.mp (setE ek i (.int .i64 r))):=by
     refine own_mono ?_ hm10
     rw[List.getElem?_set_self (List.getElem?_eq_some_iff.1 hmp9).1]
    have hnB: ¬Bx2 bl bm bd:=fun h=>by rcases h with h|h;exact hne.1 h;exact hne.2.1 h
    have hnF: ¬Bx2 bl bm bf:=fun h=>by rcases h with h|h;exact hne.2.2.1 h;exact hne.2.2.2.1 h
    refine ⟨hc610.read hnB hSk.rd,⟨t14,hbl10,?_⟩,hc610.read hnF hSk.rf,hmp10,hne⟩
    refine TabS.weaken (S:=fun b=>b<m6.length) (hT14.next ((Ch.of_prefix hm8).trans (hc810.weaken fun b _ h=>by rcases h with rfl|rfl<;>omega))) fun b hb=>?_
    have:=hSlt b hb
    have:=hck.len
    omega
end Go.Proofs.YtlniliigcnedmaaGreat
namespace Go.Proofs.YtlniliigcnedmaaGreat
open Go Ax
open Relation
set_option maxRecDepth 100000
set_option maxHeartbeats 4000000 in
theorem k85 (s:AVal) (l:List Md) (i:Nat) (m:AMem) (hs:RTab m s l) (hr:Room l) (hi:i<l.length):
  ACalls Tryz.prog 85 [s,.int .i64 i] m fun v m'=>m<+:m'∧ ∃t,v= .tuple [t,.int .i64 (deflI l i).2,.int .i64 0]∧RTab m' t (deflI l i).1:=by
 refine w85 ?_
 obtain ⟨hsl,hsc⟩:=hs.self
 simp[hsl,hsc]
 have a0:(m++ [ABlk.own [s] 22 none,ABlk.mp [],ABlk.own [AVal.nilmap] 129 none])[m.length]? =some (.own [s] 22 none):=by simp
 have a1:(m++ [ABlk.own [s] 22 none,ABlk.mp [],ABlk.own [AVal.nilmap] 129 none])[m.length+1]? =some (.mp []):=by rw[List.getElem?_append_right (by omega)];simp
 have a2:(m++ [ABlk.own [s] 22 none,ABlk.mp [],ABlk.own [AVal.nilmap] 129 none])[m.length+1+1]? =some (.own [.nilmap] 129 none):=by rw[List.getElem?_append_right (by omega),show m.length+1+1-m.length=2 by omega];rfl
 have am:m<+:(m++ [ABlk.own [s] 22 none,ABlk.mp [],ABlk.own [AVal.nilmap] 129 none]):=List.prefix_append _ _
 have al:(m++ [ABlk.own [s] 22 none,ABlk.mp [],ABlk.own [AVal.nilmap] 129 none]).length=m.length+3:=by simp
 generalize m++ [ABlk.own [s] 22 none,ABlk.mp [],ABlk.own [AVal.nilmap] 129 none]=M1 at*
 rw[store_at a2 rfl rfl]
 simp
 have hc2:Ch (fun b=>b=m.length+1+1) M1 (M1.set (m.length+1+1) (.own [.map (m.length+1)] 129 none)):=Ch.setS _ rfl
 have b2:(M1.set (m.length+1+1) (.own [.map (m.length+1)] 129 none))[m.length+1+1]? =some (.own [.map (m.length+1)] 129 none):=List.getElem?_set_self (by omega)
 have bl:(M1.set (m.length+1+1) (.own [.map (m.length+1)] 129 none)).length=m.length+3:=by simp[al]
 generalize M1.set (m.length+1+1) (.own [.map (m.length+1)] 129 none)=M2 at*
 have b0:=hc2.keep _ _ a0 (by omega)
 have b1:=hc2.keep _ _ a1 (by omega)
 have bm:=hc2.pre am (by intro b hb;omega)
 have c8:(M2++ [ABlk.own [AVal.nilfunc] 130 none])[m.length+3]? =some (.own [.nilfunc] 130 none):=by rw[←bl];simp
 have cm:M2<+:M2++ [ABlk.own [AVal.nilfunc] 130 none]:=List.prefix_append _ _
 rw[al,store_at c8 rfl rfl]
 try simp only[bl]
 generalize hM3:M2++ [ABlk.own [AVal.nilfunc] 130 none]=M3 at*
 have hc4:Ch (fun b=>b=m.length+3) M3 (M3.set (m.length+3) (.own [.func (.func 115) [] [.ptr (m.length+1+1) 0,.ptr m.length 0,.ptr (m.length+3) 0]] 130 none)):=Ch.setS _ rfl
 have d8:(M3.set (m.length+3) (.own [.func (.func 115) [] [.ptr (m.length+1+1) 0,.ptr m.length 0,.ptr (m.length+3) 0]] 130 none))[m.length+3]? =some (.own [.func (.func 115) [] [.ptr (m.length+1+1) 0,.ptr m.length 0,.ptr (m.length+3) 0]] 130 none):=List.getElem?_set_self (List.getElem?_eq_some_iff.1 c8).1
 generalize M3.set (m.length+3) (.own [.func (.func 115) [] [.ptr (m.length+1+1) 0,.ptr m.length 0,.ptr (m.length+3) 0]] 130 none)=M4 at*
 have d0:=hc4.keep _ _ (own_mono b0 cm) (by omega)
 have d1:=hc4.keep _ _ (own_mono b1 cm) (by omega)
 have d2:=hc4.keep _ _ (own_mono b2 cm) (by omega)
 have dm:=hc4.pre (bm.trans cm) (by intro b hb;omega)
 simp[bl,bx (own_read d8)]
 have hdl:=(List.getElem?_eq_some_iff.1 d8).1
 have hS:DSt (Bx2 m.length (m.length+1)) (m.length+1+1) m.length (m.length+3) (m.length+1) M4 l []:=
  ⟨own_read d2,⟨s,d0,RTab.tabS hs dm fun b hb h=>by rcases h with h|h<;>omega⟩,own_read d8,d1,by omega⟩
 refine C_of (k115 (m.length+1+1) m.length (m.length+3) (m.length+1) l hr.ck (hgt l i+1) i hi (by omega) (Bx2 m.length (m.length+1)) l [] M4 (.inl rfl) (.inr rfl) (fun b hb=>by rcases hb with h|h<;>omega) .refl hr (fun k v h=>by simp[findE] at h) hS) ?_
 rintro _ m5 ⟨hc5,l',es',r,rfl,hd,_,hS5⟩
 obtain ⟨t,hbl,hT⟩:=hS5.rl
 rw[hd.eq]
 simp[bx (own_read hbl)]
 exact ⟨hc5.pre dm fun b hb h=>by rcases h with h|h<;>omega,hT.tab⟩
end Go.Proofs.YtlniliigcnedmaaGreat
