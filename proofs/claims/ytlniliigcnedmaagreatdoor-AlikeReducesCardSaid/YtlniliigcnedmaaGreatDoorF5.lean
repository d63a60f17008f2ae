/- Layer 10's laws.  Conditions: none beyond those stated. -/
import Derived.Test.YtlniliigcnedmaaGreatDoorF4
set_option linter.unusedSimpArgs false
set_option linter.unusedVariables false
namespace Go.Proofs.YtlniliigcnedmaaGreatDoor
open Go Ax
set_option maxRecDepth 100000
theorem k116 (b:Bool) (m:AMem):ACalls Tryz.prog 116 [.bool b] m fun v m'=>v= .int .i64 (if b then 1 else 0)∧m'=m:=by
 refine w116 ?_
 cases b<;>simp
theorem k96 (b:Bool) (m:AMem):ACalls Tryz.prog 96 [.bool b] m fun v m'=>v= .int .i64 (if b then 1 else 0)∧m'=m:=by
 refine w96 ?_
 cases b<;>simp
theorem kk_le (C:Int→Int→Int) (ys:List Int): ∀j,kk C ys j≤j
 |0=>by simp[kk]
 |j+1=>by have:=kk_le C ys j;rw[kk];split<;>omega
theorem perm_cells {m:AMem} {s:AVal} {lo:Nat} {ty:TypeId} {xs:List Nat} (h:OwL natI lo m ty s xs):OwL (AVal.int .i64) lo m ty s (xs.map fun x:Nat=>(x:Int)):=by
 unfold OwL at h ⊢
 rw[List.length_map,List.map_map]
 exact h
set_option maxHeartbeats 4000000 in
theorem k79 (n:Nat) (hn:n<256) (g:FuncId) (fs cs:List AVal) (C:Int→Int→Int) (m:AMem) (hC:Ord C (fun x=>0≤x∧x<n)) (hcmp:CmpOk m g fs cs (fun x=>0≤x∧x<n) C):
  ACalls Tryz.prog 79 [.int .i64 n,.func (.func g) fs cs] m fun v m'=>m<+:m'∧ ∃t ds k,v= .tuple [t,.int .i64 (k:Nat)]∧OwL natI m.length m' 3 t ds∧DenseOf n (fun a b=>C a b<0) ds k:=by
 refine w79 ?_
 have hc1:8*(n:Int)≤281474976710656:=by omega
 have hc2:(n:Int)≤9223372036854775807:=by omega
 simp[hc1,hc2]
 have hX0:OwL natI m.length (m++ [.own (List.replicate n (.int .i64 0)) 3 none]) 3 (.slice m.length 0 n n none) (List.replicate n 0):=OwL.rep (f:=natI) m 3 n 0
 have hm1:m<+:m++ [.own (List.replicate n (.int .i64 0)) 3 none]:=List.prefix_append _ _
 have hbl:(AVal.slice m.length 0 n n none).blk=some m.length:=rfl
 generalize AVal.slice m.length 0 n n none=t6 at*
 generalize m++ [.own (List.replicate n (.int .i64 0)) 3 none]=m1 at*
 obtain ⟨I,hI⟩: ∃I:Nat→AFrame→AMem→Prop,∀q a m',I q a m'↔(∃(i:Nat) (xs:List Nat),i+q=n∧a=h79_0 (.int .i64 n) (.func (.func g) fs cs) t6 (.int .i64 n) (.int .i64 i)∧m<+:m'∧OwL natI m.length m' 3 t6 xs∧xs.length=n∧ ∀(j:Nat),j<i→xs[j]? =some j):=⟨_,fun _ _ _=>Iff.rfl⟩
 refine W_loop I n ((hI _ _ _).2 ⟨0,_,by simp,rfl,hm1,hX0,by simp,fun j hj=>by omega⟩) ?_
 clear hX0 hm1
 rintro q a m2 hIn
 obtain ⟨i,xs,hk,rfl,hm2,hX,hxl,hxj⟩:=(hI _ _ _).1 hIn
 clear hIn
 simp
 refine bbind_dec (fun hin=>?_) fun hin=>?_
 ·have hw:=step64 hin (by omega)
  obtain ⟨q,rfl⟩: ∃q',q=q'+1:=⟨q-1,by omega⟩
  obtain ⟨b6,o6,hb6,hp6,_,hst⟩:=hX.at (i:=i) (by omega)
  obtain ⟨m3,hst3,hch3,hX3⟩:=hst i
  simp only[natI] at hst3
  simp[hp6,hst3,hw]
  refine ⟨q,by omega,(hI _ _ _).2 ⟨i+1,xs.set i i,by omega,by simp,hch3.pre hm2 fun b hb=>?_,hX3,by simpa using hxl,fun j hj=>?_⟩⟩
  ·have:=(hX.blk_lo hb6).1;omega
  ·rw[List.getElem?_set]
   by_cases hji:i=j
   ·subst hji;rw[if_pos rfl,if_pos (by omega)]
   ·rw[if_neg hji];exact hxj j (by omega)
 have hxs:xs=List.range n:=by
  refine List.ext_getElem? fun j=>?_
  by_cases hj:j<n
  ·rw[hxj j (by omega),List.getElem?_range hj]
  ·rw[List.getElem?_eq_none (by omega),List.getElem?_eq_none (by simp;omega)]
 subst hxs
 simp
 clear hI I hk hin
 have hrl:((List.range n).map fun x:Nat=>(x:Int)).length=n:=by simp
 refine C_of (k103 t6 3 m.length m (Nat.le_refl _) g fs cs C _ hC hcmp ((List.range n).map fun x:Nat=>(x:Int)) (fun x hx=>?_) (by omega) m2 hm2 (perm_cells hX)) ?_
 ·obtain ⟨j,hj,rfl⟩:=List.mem_map.1 hx
  have:=List.mem_range.1 hj
  omega
 rintro v m3 ⟨hm3,hch3,ys,hY,hperm,hsort⟩
 have hyl:ys.length=n:=by rw[hperm.length_eq];simp
 have hyD: ∀x∈ys,0≤x∧x<n:=fun x hx=>by
  obtain ⟨j,hj,rfl⟩:=List.mem_map.1 (hperm.mem_iff.1 hx)
  have:=List.mem_range.1 hj
  omega
 simp[hc1,hc2]
 have hX0:OwL natI m3.length (m3++ [.own (List.replicate n (.int .i64 0)) 3 none]) 3 (.slice m3.length 0 n n none) (List.replicate n 0):=OwL.rep (f:=natI) m3 3 n 0
 have hm4:m3<+:m3++ [.own (List.replicate n (.int .i64 0)) 3 none]:=List.prefix_append _ _
 have hap: ∀b,t6.blk=some b→(AVal.slice m3.length 0 n n none).blk≠some b:=fun b hb hbb=>by
  have:=(hY.blk_lo hb).2
  simp[AVal.blk] at hbb
  omega
 generalize AVal.slice m3.length 0 n n none=t8 at*
 generalize m3++ [.own (List.replicate n (.int .i64 0)) 3 none]=m4 at*
 replace hX0:=hX0.lo' hm3.length_le
 replace hY:=hY.mono hm4
 replace hm4:=hm3.trans hm4
 have hl6:=hY.len
 simp[hl6]
 rw[hyl]
 obtain ⟨I,hI⟩: ∃I:Nat→AFrame→AMem→Prop,∀q a m',I q a m'↔(∃(i:Nat) (ds:List Nat),i+q=n∧a=h79_1 (.int .i64 n) (.func (.func g) fs cs) t6 t8 (.int .i64 (kk C ys (i-1):Nat)) t6 (.int .i64 n) (.int .i64 i)∧m<+:m'∧OwL (AVal.int .i64) m.length m' 3 t6 ys∧OwL natI m.length m' 3 t8 ds∧ds.length=n∧ ∀(j:Nat) y,j<i→ys[j]? =some y→ds[y.toNat]? =some (kk C ys j)):=⟨_,fun _ _ _=>Iff.rfl⟩
 refine W_loop I n ((hI _ _ _).2 ⟨0,_,by simp,rfl,hm4,hY,hX0,by simp,fun j _ hj=>by omega⟩) ?_
 clear hX0 hm4 hl6 hY hX hm3 hm2
 rintro q a m5 hIn
 obtain ⟨i,ds,hk,rfl,hm5,hY,hds,hdl,hdj⟩:=(hI _ _ _).1 hIn
 clear hIn
 simp
 refine bbind_dec (fun hin=>?_) fun hin=>?_
 ·have hw:=step64 hin (by omega)
  obtain ⟨q,rfl⟩: ∃q',q=q'+1:=⟨q-1,by omega⟩
  have hiy:i<ys.length:=by omega
  obtain ⟨b6,o6,hb6,hp6,hl6,_⟩:=hY.at hiy
  have hDi:=hyD _ (List.getElem_mem hiy)
  have hyi:ys[i]? =some ys[i]:=List.getElem?_eq_getElem hiy
  -- the store
  have fin: ∀m7,m5<+:m7→ ∃b8 o8,(∀k,iaddrE 1 t8 (.int k ys[i])=some (.ptr b8 o8))∧ ∃m8,storeE m7 1 (.ptr b8 o8) (.int .i64 (kk C ys i:Nat))=some (.undef,m8)∧I q (h79_1 (.int .i64 n) (.func (.func g) fs cs) t6 t8 (.int .i64 (kk C ys i:Nat)) t6 (.int .i64 n) (.int .i64 (i+1:Nat))) m8:=by
   intro m7 hm7
   have hY7:=hY.mono hm7
   have hds7:=hds.mono hm7
   obtain ⟨y,hy⟩: ∃y:Nat,ys[i]=y:=⟨(ys[i]).toNat,by omega⟩
   rw[hy] at hyi ⊢
   obtain ⟨b8,o8,hb8,hp8,_,hst8⟩:=hds7.at (i:=y) (by omega)
   obtain ⟨m8,hst,hch8,hds8⟩:=hst8 (kk C ys i)
   refine ⟨b8,o8,hp8,m8,hst,(hI _ _ _).2 ⟨i+1,ds.set y (kk C ys i),by omega,rfl,hch8.pre (hm5.trans hm7) fun b hb=>?_,hY7.ch hch8 fun b hb hbb=>?_,hds8,by simpa using hdl,fun j z hj hz=>?_⟩⟩
   ·have:=(hds7.blk_lo hb8).1;omega
   ·exact hap b hb (by rw[hb8,hbb])
   ·by_cases hji:j=i
    ·subst hji
     rw[hyi] at hz;cases hz
     rw[Int.toNat_natCast,List.getElem?_set_self (by omega)]
    ·have hne:y≠z.toNat:=by
      intro h
      have hzD:=hyD z (List.mem_of_getElem? hz)
      have hzy:z=(y:Int):=by omega
      rw[hzy] at hz
      have hnd:ys.Nodup:=by
       rw[hperm.nodup_iff]
       refine List.Pairwise.map _ (fun a b hab=>?_) List.nodup_range
       intro h;exact hab (by omega)
      obtain ⟨h1,h2⟩:=List.getElem?_eq_some_iff.1 hz
      obtain ⟨h3,h4⟩:=List.getElem?_eq_some_iff.1 hyi
      have hpw:=List.pairwise_iff_getElem.1 hnd
      rcases Nat.lt_trichotomy j i with h5|h5|h5
      ·exact hpw j i h1 h3 h5 (h2.trans h4.symm)
      ·exact hji h5
      ·exact hpw i j h3 h1 h5 (h4.trans h2.symm)
     rw[List.getElem?_set_ne hne]
     exact hdj j z (by omega) hz
  by_cases hi0:i=0
  ·subst hi0
   obtain ⟨b8,o8,hp8,m8,hst8,hI8⟩:=fin m5 (List.prefix_refl _)
   simp only[kk] at hst8 hI8
   simp at hst8 hp6
   simp[hp6,hl6,hp8,hst8,kk,wrap64 (x:=1)]
   exact ⟨q,by omega,by simpa using hI8⟩
  ·obtain ⟨i,rfl⟩: ∃i',i=i'+1:=⟨i-1,by omega⟩
   have hi':(0:Int)<(i:Int)+1:=by omega
   have hwi:IntKind.i64.wrap (i:Int)=i:=wrap64 (by omega) (by omega)
   have hil:i<ys.length:=by omega
   obtain ⟨b5,o5,_,hp5,hl5,_⟩:=hY.at hil
   have hcall:=hcmp ys[i] ys[i+1] (hyD _ (List.getElem_mem hil)) hDi m5 hm5
   simp at hcall
   simp only[Int.natCast_add,Int.cast_ofNat_Int,Nat.add_sub_cancel] at hp6 hw fin ⊢
   have hkk:kk C ys (i+1)=kk C ys i+(if C ys[i] ys[i+1]≠0 then 1 else 0):=by
    rw[kk];simp[List.getD,hil,hiy]
   simp[hp6,hl6,hi',hwi,hp5,hl5]
   refine C_of hcall ?_
   rintro _ m6 ⟨rfl,hm6⟩
   obtain ⟨b8,o8,hp8,m8,hst8,hI8⟩:=fin m6 hm6
   simp
   by_cases hc:C ys[i] ys[i+1]=0
   ·rw[hkk] at hst8 hI8
    simp[hc] at hst8 hI8
    simp[hc,hp8,hst8,hw]
    exact ⟨q,by omega,hI8⟩
   ·rw[hkk] at hst8 hI8
    simp[hc] at hst8 hI8
    have hwk:IntKind.i64.wrap ((kk C ys i:Int)+1)=(kk C ys i:Int)+1:=by
     have:kk C ys i≤i:=by
      exact kk_le C ys i
     exact wrap64 (by omega) (by omega)
    simp[bneT hc,hwk,hp8,hst8,hw]
    exact ⟨q,by omega,hI8⟩
 ·have hin':i=n:=by omega
  subst hin'
  simp
  refine C_of (k116 _ m5) ?_
  rintro _ _ ⟨rfl,rfl⟩
  have hdense:=DenseOf.of_kk hC hperm hsort hdl fun j hj=>hdj j _ (by omega) (List.getElem?_eq_getElem hj)
  have hkn:kk C ys (i-1)≤i:=by
   have: ∀j,kk C ys j≤j:=by
    intro j
    induction j with
    |zero=>simp[kk]
    |succ i ih=>rw[kk];split<;>omega
   have:=this (i-1);omega
  by_cases hn0:i=0
  ·subst hn0
   simp[kk]
   rw[wrap64 (x:=0) (by omega) (by omega)]
   refine ⟨hm5,t8,ds,0,by simp,hds,by simpa using hdense⟩
  ·have h0:0<i:=by omega
   simp[h0]
   rw[wrap64 (by omega) (by omega)]
   refine ⟨hm5,t8,ds,kk C ys (i-1)+1,by simp,hds,by simpa[hn0] using hdense⟩
end Go.Proofs.YtlniliigcnedmaaGreatDoor
namespace Go.Proofs.YtlniliigcnedmaaGreatDoor
open Go Ax
set_option maxRecDepth 100000
theorem cmpI_lt {a b:Int}:cmpI a b<0↔a<b:=by unfold cmpI;split<;>(try split)<;>omega
theorem cmpI_gt {a b:Int}:0<cmpI a b↔b<a:=by unfold cmpI;split<;>(try split)<;>omega
theorem cmpI_le {a b:Int}:cmpI a b≤0↔a≤b:=by unfold cmpI;split<;>(try split)<;>omega
theorem cmpI_zero {a b:Int}:cmpI a b=0↔a=b:=by unfold cmpI;split<;>(try split)<;>omega
theorem cmpI_ord:Ord cmpI (fun _=>True):=⟨fun a b _ _=>by rw[cmpI_lt,cmpI_gt],fun a b c _ _ _ h1 h2=>by rw[cmpI_le] at*;omega⟩
def lexC {α:Type} (c:α→α→Int):List α→List α→Int
 | [],[]=>0
 | [],_::_=> -1
 |_::_,[]=>1
 |x::xs,y::ys=>if c x y≠0 then c x y else lexC c xs ys
theorem lexC_nil {α:Type} (c:α→α→Int) (ys:List α):lexC c [] ys=if ys.length=0 then 0 else-1:=by cases ys<;>simp[lexC]
theorem k87 (s t:AVal) (xs ys:List Int) (m:AMem) (hs:RInts m s xs) (ht:RInts m t ys) (hn:xs.length<2^62):ACalls Tryz.prog 87 [s,t] m fun v m'=>v= .int .i64 (lexC cmpI xs ys)∧m'=m:=by
 refine w87 ?_
 simp[hs.len]
 generalize hL:lexC cmpI xs ys=L
 refine W_loop (fun n a m'=> ∃k:Nat,k+n=xs.length∧a=h87_0 s t s (.int .i64 xs.length) (.int .i64 k)∧m'=m∧k≤ys.length∧lexC cmpI (xs.drop k) (ys.drop k)=L) xs.length ⟨0,by simp[hL]⟩ ?_
 rintro n a m ⟨k,hk,rfl,rfl,hky,hi⟩
 simp
 refine bbind_dec (fun h=>?_) fun h=>?_
 ·have hw:=step64 h hn
  obtain ⟨n,rfl⟩: ∃n',n=n'+1:=⟨n-1,by omega⟩
  obtain ⟨b1,o1,h1,h2⟩:=hs.at h
  rw[List.drop_eq_getElem_cons h] at hi
  by_cases hy:k<ys.length
  ·obtain ⟨b3,o3,h3,h4⟩:=ht.at hy
   rw[List.drop_eq_getElem_cons hy] at hi
   have hy': ¬ys.length≤k:=by omega
   simp[h1,h2,ht.len,hy',h3,h4]
   refine C_of (k86 xs[k] ys[k] m) ?_
   rintro _ _ ⟨rfl,rfl⟩
   simp only[lexC] at hi
   by_cases hc:cmpI xs[k] ys[k]=0
   ·simp[hc] at hi
    simp[hc,hw]
    exact ⟨n,by omega,k+1,by omega,by simp,by omega,hi⟩
   ·simp[hc] at hi
    have hL0: ¬L=0:=by rw[←hi];exact hc
    simp[hi,bneT hL0]
  ·have hy':ys.length≤k:=by omega
   rw[List.drop_eq_nil_of_le hy'] at hi
   simp only[lexC] at hi
   simp[h1,h2,ht.len,hy',hi]
 ·have hkx:k=xs.length:=by omega
  subst hkx
  rw[List.drop_eq_nil_of_le (Nat.le_refl _),lexC_nil,List.length_drop] at hi
  by_cases hlt:xs.length<ys.length
  ·rw[if_neg (by omega)] at hi
   simp[hs.len,ht.len,hlt,hi]
  ·rw[if_pos (by omega)] at hi
   simp[hs.len,ht.len,hlt,hi]
def cmpS (a b:ByteArray):Int:=if Op.bytesLess a.toList b.toList then-1 else if !(Op.bytesLess a.toList b.toList||a.toList==b.toList) then 1 else 0
theorem k186 (a:ByteArray) (m:AMem):ACalls Tryz.prog 186 [.str a] m fun v m'=>v= .bool false∧m'=m:=by
 refine w186 ?_
 simp[binStr]
theorem k156 (a b:ByteArray) (m:AMem):ACalls Tryz.prog 156 [.str a,.str b] m fun v m'=>v= .int .i64 (cmpS a b)∧m'=m:=by
 refine w156 ?_
 simp
 refine C_of (k186 a m) ?_
 rintro _ _ ⟨rfl,rfl⟩
 simp
 refine C_of (k186 b _) ?_
 rintro _ _ ⟨rfl,rfl⟩
 simp[binStr]
 cases h:Op.bytesLess a.toList b.toList
 ·cases h':a.toList==b.toList
  ·simp[binStr,h,h',cmpS]
  ·simp[binStr,h,h',cmpS]
 ·simp[cmpS,h]
theorem k117 (s t:AVal) (xs ys:List ByteArray) (m:AMem) (hs:RStrs m s xs) (ht:RStrs m t ys) (hn:xs.length<2^62):ACalls Tryz.prog 117 [s,t] m fun v m'=>v= .int .i64 (lexC cmpS xs ys)∧m'=m:=by
 refine w117 ?_
 simp[hs.len]
 generalize hL:lexC cmpS xs ys=L
 refine W_loop (fun n a m'=> ∃k:Nat,k+n=xs.length∧a=h117_0 s t s (.int .i64 xs.length) (.int .i64 k)∧m'=m∧k≤ys.length∧lexC cmpS (xs.drop k) (ys.drop k)=L) xs.length ⟨0,by simp[hL]⟩ ?_
 rintro n a m ⟨k,hk,rfl,rfl,hky,hi⟩
 simp
 refine bbind_dec (fun h=>?_) fun h=>?_
 ·have hw:=step64 h hn
  obtain ⟨n,rfl⟩: ∃n',n=n'+1:=⟨n-1,by omega⟩
  obtain ⟨b1,o1,h1,h2⟩:=hs.at h
  rw[List.drop_eq_getElem_cons h] at hi
  by_cases hy:k<ys.length
  ·obtain ⟨b3,o3,h3,h4⟩:=ht.at hy
   rw[List.drop_eq_getElem_cons hy] at hi
   have hy': ¬ys.length≤k:=by omega
   simp[h1,h2,ht.len,hy',h3,h4]
   refine C_of (k156 xs[k] ys[k] m) ?_
   rintro _ _ ⟨rfl,rfl⟩
   simp only[lexC] at hi
   by_cases hc:cmpS xs[k] ys[k]=0
   ·simp[hc] at hi
    simp[hc,hw]
    exact ⟨n,by omega,k+1,by omega,by simp,by omega,hi⟩
   ·simp[hc] at hi
    have hL0: ¬L=0:=by rw[←hi];exact hc
    simp[hi,bneT hL0]
  ·have hy':ys.length≤k:=by omega
   rw[List.drop_eq_nil_of_le hy'] at hi
   simp only[lexC] at hi
   simp[h1,h2,ht.len,hy',hi]
 ·have hkx:k=xs.length:=by omega
  subst hkx
  rw[List.drop_eq_nil_of_le (Nat.le_refl _),lexC_nil,List.length_drop] at hi
  by_cases hlt:xs.length<ys.length
  ·rw[if_neg (by omega)] at hi
   simp[hs.len,ht.len,hlt,hi]
  ·rw[if_pos (by omega)] at hi
   simp[hs.len,ht.len,hlt,hi]
theorem k163 (a b:Int) (m:AMem):ACalls Tryz.prog 163 [.int .i64 a,.int .i64 b] m fun v m'=>v= .bool (decide (a<b))∧m<+:m':=by
 refine w163 ?_
 simp
 refine C_of (k119 a m) ?_
 rintro _ _ ⟨rfl,rfl⟩
 simp
set_option maxHeartbeats 4000000 in
theorem k157 (t:AVal) (ty:TypeId) (lo:Nat) (m0:AMem) (hlo:m0.length≤lo) (xs:List Int) (hn:xs.length<2^62) (m:AMem) (hm:m0<+:m) (hX:OwL (AVal.int .i64) lo m ty t xs):
  ACalls Tryz.prog 157 [t,.int .i64 0,.int .i64 xs.length] m fun _ m'=>m0<+:m'∧Ch (fun b=>t.blk=some b) m m'∧ ∃ys,OwL (AVal.int .i64) lo m' ty t ys∧ys.Perm xs∧SortedTo cmpI ys ys.length:=by
 refine w157 ?_
 have hC:=cmpI_ord
 have hD: ∀x∈xs,True:=fun _ _=>trivial
 simp
 rw[wrap64 (x:=1) (by omega) (by omega)]
 obtain ⟨I,hI⟩: ∃I:Nat→AFrame→AMem→Prop,∀q a m',I q a m'↔(∃(i:Nat) (ys:List Int),i+q=xs.length+1∧1≤i∧a=h157_0 t (.int .i64 0) (.int .i64 xs.length) (.int .i64 i)∧m0<+:m'∧Ch (fun b=>t.blk=some b) m m'∧OwL (AVal.int .i64) lo m' ty t ys∧ys.Perm xs∧SortedTo cmpI ys i):=⟨_,fun _ _ _=>Iff.rfl⟩
 refine W_loop I xs.length ((hI _ _ _).2 ⟨1,xs,by omega,by omega,rfl,hm,.refl _ _,hX,.refl _,fun p q a b h1 h2=>by omega⟩) ?_
 clear hX hm
 rintro q a m1 hIn
 obtain ⟨i,ys,hk,hi1,rfl,hm1,hch1,hY,hperm,hsort⟩:=(hI _ _ _).1 hIn
 clear hIn
 have hyl:=hperm.length_eq
 simp
 refine bbind_dec (fun hil=>?_) fun hil=>?_
 ·have hw:=step64 hil hn
  obtain ⟨q,rfl⟩: ∃q',q=q'+1:=⟨q-1,by omega⟩
  simp
  obtain ⟨I2,hI2⟩: ∃I:Nat→AFrame→AMem→Prop,∀q a m',I q a m'↔(∃(ys:List Int),a=h157_1 t (.int .i64 0) (.int .i64 xs.length) (.int .i64 i) (.int .i64 q)∧m0<+:m'∧Ch (fun b=>t.blk=some b) m m'∧OwL (AVal.int .i64) lo m' ty t ys∧ys.Perm xs∧InsInv cmpI ys i q):=⟨_,fun _ _ _=>Iff.rfl⟩
  refine W_loop I2 i ((hI2 _ _ _).2 ⟨ys,rfl,hm1,hch1,hY,hperm,.start hsort⟩) ?_
  clear hm1 hch1 hY hperm hsort hyl
  rintro j a m2 hIn
  obtain ⟨ys,rfl,hm2,hch2,hY,hperm,hins⟩:=(hI2 _ _ _).1 hIn
  clear hIn
  have hyl:=hperm.length_eq
  have hDy: ∀x∈ys,True:=fun _ _=>trivial
  have hji:=hins.le
  simp
  have done: ∀m3,m2<+:m3→(j=0∨ ∀a b,ys[j]? =some a→ys[j-1]? =some b→ ¬cmpI a b<0)→I q (h157_0 t (.int .i64 0) (.int .i64 xs.length) (.int .i64 (i+1:Nat))) m3:=fun m3 hm3 hs=>(hI _ _ _).2 ⟨i+1,ys,by omega,by omega,rfl,hm2.trans hm3,hch2.trans (.of_prefix hm3),hY.mono hm3,hperm,hins.stop hC hDy hs⟩
  refine W_draw (fun _ _ _=>True) (by simp[maxDst]) ?_
  refine D_pc 0 13 [13,14] ?_
  by_cases hj:0<j
  ·have hj':(0:Int)<j:=by omega
   obtain ⟨j,rfl⟩: ∃j',j=j'+1:=⟨j-1,by omega⟩
   simp only[Nat.add_sub_cancel] at done
   have hj1:j+1<ys.length:=by omega
   have hj0:j<ys.length:=by omega
   obtain ⟨b1,o1,hb1,hp1,hl1,_⟩:=hY.at hj1
   obtain ⟨b0,o0,hb0,hp0,hl0,_⟩:=hY.at hj0
   have hx:ys[j+1]? =some ys[j+1]:=List.getElem?_eq_getElem hj1
   have hy:ys[j]? =some ys[j]:=List.getElem?_eq_getElem hj0
   have hDx:=hDy _ (List.getElem_mem hj1)
   have hDy':=hDy _ (List.getElem_mem hj0)
   have hswapP:=List.set_set_perm hj1 hj0
   generalize hxx:ys[j+1]=x at*
   generalize hyy:ys[j]=y at*
   simp only[Int.natCast_add,Int.cast_ofNat_Int] at hp1 hj' ⊢
   have hpj:IntKind.i64.wrap (j:Int)=j:=wrap64 (by omega) (by omega)
   simp[hj',hp1,hl1,hpj,hp0,hl0]
   intro fs' hfs'
   refine D_Xg rfl rfl (b:=true) (by simp) (fun _ m5 hm5 _=>?_) (fun h=>absurd rfl h)
   simp
   refine C_of (k163 x y m5) ?_
   rintro _ m6 ⟨rfl,hm6⟩
   refine ⟨by simp[lateOf],?_⟩
   refine D_pc 14 1 [] ?_
   simp
   intro fs'' hfs''
   refine D_end fun m7 hm7 _=>?_
   simp
   have hm27:=(hm5.trans hm6).trans hm7
   refine bbind_dec (fun hlt=>?_) fun hlt=>?_
   ·have hlt:cmpI x y<0:=cmpI_lt.2 hlt
    simp
    refine W_draw (fun _ _ _=>True) (by simp[maxDst]) ?_
    refine D_pc 0 15 [15,16,17] ?_
    simp[hp1,hpj,hp0,loadE_mono hm27 hl1,loadE_mono hm27 hl0]
    intro fs3 _
    refine D_W rfl rfl fun m8 hm8 _=>?_
    have hY8:=hY.mono (hm27.trans hm8)
    obtain ⟨b1',o1',hb1',hp1',_,hst1⟩:=hY8.at hj1
    obtain ⟨rfl,rfl⟩:b1'=b1∧o1'=o1:=by have:=(hp1' .i64).symm.trans (by simpa using hp1 .i64);simpa using this
    obtain ⟨m9,hst9,hch9,hY9⟩:=hst1 y
    simp[hst9]
    refine D_pc 16 1 [17] ?_
    simp[hp0]
    intro fs4 _
    refine D_W rfl rfl fun m10 hm10 _=>?_
    have hY10:=hY9.mono hm10
    obtain ⟨b0',o0',hb0',hp0',_,hst0⟩:=hY10.at (i:=j) (by simpa using hj0)
    obtain ⟨rfl,rfl⟩:b0'=b0∧o0'=o0:=by have:=(hp0' .i64).symm.trans (hp0 .i64);simpa using this
    obtain ⟨m11,hst11,hch11,hY11⟩:=hst0 x
    simp[hst11]
    refine D_end fun m12 hm12 _=>?_
    simp[hpj]
    have hcc:Ch (fun b=>t.blk=some b) m2 m12:=((((Ch.of_prefix (hm27.trans hm8)).trans (hch9.weaken fun b _ hb=>by rw[hb];exact hb1')).trans (.of_prefix hm10)).trans (hch11.weaken fun b _ hb=>by rw[hb];exact hb0')).trans (.of_prefix hm12)
    refine ⟨j,by omega,(hI2 _ _ _).2 ⟨_,rfl,hcc.pre hm2 fun b hb hbb=>?_,hch2.trans hcc,hY11.mono hm12,?_,hins.swap hx hy hlt⟩⟩
    ·have:=(hY.blk_lo hbb).1;omega
    ·exact (by simpa using hswapP:((ys.set (j+1) y).set j x).Perm ys).trans hperm
   ·simp[hw]
    have hd:=done m7 hm27 (.inr fun a b ha hb=>by rw[hx] at ha;cases ha;rw[hy] at hb;cases hb;exact fun h=>hlt (cmpI_lt.1 h))
    exact ⟨q,by omega,by simpa using hd⟩
  ·obtain rfl:j=0:=by omega
   simp
   intro fs' hfs'
   refine D_Xg rfl rfl (b:=false) (by simp) (fun h=>by cases h) (fun _ m5 hm5 _=>⟨by simp[lateOf],?_⟩)
   refine D_pc 14 1 [] ?_
   simp
   intro fs'' hfs''
   refine D_end fun m7 hm7 _=>?_
   simp[hw]
   exact ⟨q,by omega,by simpa using done m7 (hm5.trans hm7) (.inl rfl)⟩
 ·simp
  refine ⟨hm1,hch1,ys,hY,hperm,?_⟩
  by_cases h1:i=ys.length
  ·rw[←h1];exact hsort
  ·intro p q' a b h1' h2 h3 h4
   exact hsort p q' a b h1' (by omega) h3 h4
theorem k118 (t:AVal) (ty:TypeId) (lo:Nat) (m0:AMem) (hlo:m0.length≤lo) (xs:List Int) (hn:xs.length≤12) (z:AVal) (m:AMem) (hm:m0<+:m) (hX:OwL (AVal.int .i64) lo m ty t xs):
  ACalls Tryz.prog 118 [t,.int .i64 0,.int .i64 xs.length,z] m fun _ m'=>m0<+:m'∧Ch (fun b=>t.blk=some b) m m'∧ ∃ys,OwL (AVal.int .i64) lo m' ty t ys∧ys.Perm xs∧SortedTo cmpI ys ys.length:=by
 refine w118 ?_
 simp
 refine W_loop (fun _ a m'=>m'=m∧ ∃x y,a=h118_0 t (.int .i64 0) (.int .i64 xs.length) z x y) 0 ⟨rfl,_,_,rfl⟩ ?_
 rintro n a m ⟨rfl,x,y,rfl⟩
 have hw:IntKind.i64.wrap (xs.length:Int)=xs.length:=wrap64 (by omega) (by omega)
 have hle:(xs.length:Int)≤12:=by omega
 simp[hw,hle]
 refine C_of (k157 t ty lo m0 hlo xs (by omega) m hm hX) ?_
 rintro v m' h
 simp
 exact h
theorem k82 (t:AVal) (ty:TypeId) (lo:Nat) (m0:AMem) (hlo:m0.length≤lo) (xs:List Int) (hn:xs.length≤12) (m:AMem) (hm:m0<+:m) (hX:OwL (AVal.int .i64) lo m ty t xs):
  ACalls Tryz.prog 82 [t] m fun _ m'=>m0<+:m'∧Ch (fun b=>t.blk=some b) m m'∧ ∃ys,OwL (AVal.int .i64) lo m' ty t ys∧ys.Perm xs∧SortedTo cmpI ys ys.length:=by
 refine w82 ?_
 have hw:IntKind.u64.wrap (xs.length:Int)=xs.length:=by
  simp only[IntKind.wrap,IntKind.bits,IntKind.signed,Bool.false_and]
  simp
  omega
 simp[hX.len,hw]
 refine C_of (k115 xs.length (by omega) m) ?_
 rintro _ _ ⟨⟨z,rfl⟩,rfl⟩
 simp
 refine C_of (k118 t ty lo m0 hlo xs hn _ _ hm hX) ?_
 rintro v m' h
 simp
 exact h
end Go.Proofs.YtlniliigcnedmaaGreatDoor
namespace Go.Proofs.YtlniliigcnedmaaGreatDoor
open Go Ax
set_option maxRecDepth 100000
theorem upd_triv (i:Nat) {fs:Facts} (h: ∀j m',fs j m'): ∀j m',upd fs i (fun _=>True) j m':=fun j m'=>by
 unfold upd
 split
 ·trivial
 ·exact h j m'
def bi (b:Bool):Int:=if b then 1 else 0
def lenC (x y:Md):Int:=if x.kind=12 then 0 else cmpI x.elems.length y.elems.length
def firstL (x y:Md):List Int:= [cmpI x.kind y.kind,cmpI x.size y.size,cmpI x.dims y.dims,cmpI (bi x.flex) (bi y.flex),lenC x y,lexC cmpS x.names y.names]
def firstC (x y:Md):Int:=firstNZ (firstL x y)
def ks92 (x y:Md):Nat→AVal→AMem→Prop:=fun i v _=>v= .int .i64 (
 if i=4 then cmpI x.kind y.kind else if i=9 then cmpI x.size y.size else if i=14 then cmpI x.dims y.dims else if i=17 then bi x.flex else if i=20 then bi y.flex
 else if i=21 then cmpI (bi x.flex) (bi y.flex) else if i=27 then lexC cmpS x.names y.names else firstC x y)
set_option maxHeartbeats 4000000 in
theorem k81 (cx cy:List AVal) (x y:Md) (m:AMem) (hx:RMode m cx x) (hy:RMode m cy y) (hsx:smallN x) (hsy:smallN y):ACalls Tryz.prog 81 [.agg cx,.agg cy] m fun v m'=>v= .int .i64 (firstC x y)∧m<+:m':=by
 obtain ⟨ex,nx,rfl,hex,hnx⟩:=hx
 obtain ⟨ey,ny,rfl,hey,hny⟩:=hy
 refine w81 ?_
 have h1:=Sl.one hex
 have h2:=Sl.one hnx
 have h3:=Sl.one hey
 have h4:=Sl.one hny
 simp[h1,h2,h3,h4]
 have hb1:=readB_new m [.int .i64 x.kind,.int .i64 x.size,ex,nx,.int .i64 x.dims,.bool x.flex] 39 none
 have hm1:m<+:m++ [.own [.int .i64 x.kind,.int .i64 x.size,ex,nx,.int .i64 x.dims,.bool x.flex] 39 none]:=List.prefix_append _ _
 have hlen:(m++ [ABlk.own [.int .i64 x.kind,.int .i64 x.size,ex,nx,.int .i64 x.dims,.bool x.flex] 39 none]).length=m.length+1:=by simp
 have hb2:=readB_new (m++ [.own [.int .i64 x.kind,.int .i64 x.size,ex,nx,.int .i64 x.dims,.bool x.flex] 39 none]) [.int .i64 y.kind,.int .i64 y.size,ey,ny,.int .i64 y.dims,.bool y.flex] 39 none
 have hm2:m++ [.own [.int .i64 x.kind,.int .i64 x.size,ex,nx,.int .i64 x.dims,.bool x.flex] 39 none]<+:m++ [.own [.int .i64 x.kind,.int .i64 x.size,ex,nx,.int .i64 x.dims,.bool x.flex] 39 none]++ [.own [.int .i64 y.kind,.int .i64 y.size,ey,ny,.int .i64 y.dims,.bool y.flex] 39 none]:=List.prefix_append _ _
 replace hb1:=readB_mono hm2 hb1
 replace hm1:=hm1.trans hm2
 rw[hlen] at hb2
 simp only[List.append_assoc,List.singleton_append] at hb1 hb2 hm1
 generalize m++ [.own [.int .i64 x.kind,.int .i64 x.size,ex,nx,.int .i64 x.dims,.bool x.flex] 39 none,.own [.int .i64 y.kind,.int .i64 y.size,ey,ny,.int .i64 y.dims,.bool y.flex] 39 none]=m1 at hb1 hb2 hm1 ⊢
 clear hlen hm2
 replace hex:=RInts.mono hex hm1
 replace hey:=RInts.mono hey hm1
 replace hnx:=RStrs.mono hnx hm1
 replace hny:=RStrs.mono hny hm1
 simp[bx hb1]
 generalize m.length=b1 at*
 generalize b1+1=b2 at*
 refine bbind_J (fun a m'=>a.forget [2,3,5]=mat 46 [(2,.ptr b1 0),(3,.ptr b2 0),(5,.int .i64 (lenC x y))]∧m'=m1) ?_ ?_
 ·by_cases c:x.kind=12
  ·simp[c,lenC]
  ·simp[bneT c,bx hb1,bx hb2,hex.len,hey.len]
   refine C_of (k86 _ _ m1) ?_
   rintro _ _ ⟨rfl,rfl⟩
   simp[lenC,c]
 rintro a m1 ⟨ha,rfl⟩
 simp[ha]
 refine W_draw (ks92 x y) (by simp[maxDst]) ?_
 have: ∀(j:Nat) (m':AMem),noFacts j m':=fun _ _=>trivial
 refine D_pre 0 4 [4,5,6,7,8,9,10,11,12,13,14,15,16,17,18,19,20,21,22,23,24,25,26,27,28,29,30] (by simp only[List.drop_zero,List.drop_succ_cons,List.take_succ_cons,List.take_zero];rfl) rfl rfl ‹_› ?_
 simp[bx hb1,bx hb2,hex.len,hey.len]
 intro _ _
 refine D_Cv (.int .i64 (cmpI x.kind y.kind)) rfl trivial rfl rfl (fun m' hm' _=>(k86 _ _ m').mono fun v m'' h=>⟨by rw[h.2];exact List.prefix_refl _,h.1⟩) ?_
 have:=upd_triv 4 ‹∀(j:Nat) (m':AMem),_›
 refine D_pre 5 4 [9,10,11,12,13,14,15,16,17,18,19,20,21,22,23,24,25,26,27,28,29,30] (by simp only[List.drop_zero,List.drop_succ_cons,List.take_succ_cons,List.take_zero];rfl) rfl rfl ‹_› ?_
 simp[bx hb1,bx hb2,hex.len,hey.len]
 intro _ _
 refine D_Cv (.int .i64 (cmpI x.size y.size)) rfl trivial rfl rfl (fun m' hm' _=>(k86 _ _ m').mono fun v m'' h=>⟨by rw[h.2];exact List.prefix_refl _,h.1⟩) ?_
 have:=upd_triv 9 ‹∀(j:Nat) (m':AMem),_›
 refine D_pre 10 4 [14,15,16,17,18,19,20,21,22,23,24,25,26,27,28,29,30] (by simp only[List.drop_zero,List.drop_succ_cons,List.take_succ_cons,List.take_zero];rfl) rfl rfl ‹_› ?_
 simp[bx hb1,bx hb2,hex.len,hey.len]
 intro _ _
 refine D_Cv (.int .i64 (cmpI x.dims y.dims)) rfl trivial rfl rfl (fun m' hm' _=>(k86 _ _ m').mono fun v m'' h=>⟨by rw[h.2];exact List.prefix_refl _,h.1⟩) ?_
 have:=upd_triv 14 ‹∀(j:Nat) (m':AMem),_›
 refine D_pre 15 2 [17,18,19,20,21,22,23,24,25,26,27,28,29,30] (by simp only[List.drop_zero,List.drop_succ_cons,List.take_succ_cons,List.take_zero];rfl) rfl rfl ‹_› ?_
 simp[bx hb1,bx hb2,hex.len,hey.len]
 intro _ _
 refine D_Cv (.int .i64 (bi x.flex)) rfl trivial rfl rfl (fun m' hm' _=>(k116 _ m').mono fun v m'' h=>⟨by rw[h.2];exact List.prefix_refl _,h.1⟩) ?_
 have:=upd_triv 17 ‹∀(j:Nat) (m':AMem),_›
 refine D_pre 18 2 [20,21,22,23,24,25,26,27,28,29,30] (by simp only[List.drop_zero,List.drop_succ_cons,List.take_succ_cons,List.take_zero];rfl) rfl rfl ‹_› ?_
 simp[bx hb1,bx hb2,hex.len,hey.len]
 intro _ _
 refine D_Cv (.int .i64 (bi y.flex)) rfl trivial rfl rfl (fun m' hm' _=>(k116 _ m').mono fun v m'' h=>⟨by rw[h.2];exact List.prefix_refl _,h.1⟩) ?_
 have:=upd_triv 20 ‹∀(j:Nat) (m':AMem),_›
 refine D_Cv (.int .i64 (cmpI (bi x.flex) (bi y.flex))) rfl trivial rfl rfl (fun m' hm' _=>(k86 _ _ m').mono fun v m'' h=>⟨by rw[h.2];exact List.prefix_refl _,h.1⟩) ?_
 have:=upd_triv 21 ‹∀(j:Nat) (m':AMem),_›
 refine D_pre 22 5 [27,28,29,30] (by simp only[List.drop_zero,List.drop_succ_cons,List.take_succ_cons,List.take_zero];rfl) rfl rfl ‹_› ?_
 simp[bx hb1,bx hb2,hex.len,hey.len]
 intro _ _
 refine D_Cv (.int .i64 (lexC cmpS x.names y.names)) rfl trivial rfl rfl (fun m' hm' _=>(k117 nx ny _ _ m' (hnx.mono hm') (hny.mono hm') hsx.2.1).mono fun v m'' h=>⟨by rw[h.2];exact List.prefix_refl _,h.1⟩) ?_
 have:=upd_triv 27 ‹∀(j:Nat) (m':AMem),_›
 refine D_A rfl trivial ?_
 simp[fillA,setN]
 intro b
 refine D_Cv (.int .i64 (firstC x y)) rfl trivial rfl rfl (fun m' hm' hp=>?_) ?_
 ·have h28:=hp 28 (by simp)
  simp[upd] at h28
  refine (k85 (.slice b 0 6 6 none) (firstL x y) m' ?_ (by simp[firstL])).mono fun v m'' h=>⟨by rw[h.2];exact List.prefix_refl _,h.1⟩
  refine .inr ⟨b,0,6,none,rfl,⟨by simp[firstL],.inl rfl⟩,.inr ⟨by simp[firstL],_,by simp[readB,h28,ABlk.cells];rfl,by simp[firstL,readN]⟩⟩
 refine D_P rfl trivial ?_
 simp
 refine D_end fun m2 hm2 _=>?_
 simp[hm1.trans hm2]
end Go.Proofs.YtlniliigcnedmaaGreatDoor
namespace Go.Proofs.YtlniliigcnedmaaGreatDoor
open Go Ax
set_option maxRecDepth 100000
def cp (ys:List Int):Nat→List Int
 |0=> []
 |j+1=>if j≠0∧ys[j]? =ys[j-1]? then cp ys j else cp ys j++ [ys.getD j 0]
theorem cp_length (ys:List Int): ∀j,(cp ys j).length≤j
 |0=>by simp[cp]
 |j+1=>by
  have:=cp_length ys j
  rw[cp]
  split
  ·omega
  ·simp;omega
@[simp] theorem ev_clear (a:AFrame) (m:AMem) (z:List AVal) (x:Arg):WOp.ev a m (.clear z x)=clearE m z (a.ev x):=rfl
theorem Ax.OwL.clear {α:Type} {f:α→AVal} [hf:Cell f] {lo:Nat} {m:AMem} {ty:TypeId} {s:AVal} {xs:List α} (h:OwL f lo m ty s xs) {i:Nat} (hi:i<xs.length) (z:α): ∃s' m',sliceE 1 s (some (.int .i64 i)) none=some s'∧clearE m [f z] s'=some (.undef,m')∧Ch (fun b=>s.blk=some b) m m'∧OwL f lo m' ty s (xs.take i++List.replicate (xs.length-i) z):=by
 rcases h with ⟨_,h1,_⟩|⟨b,o,cap,gr,bl,gr',rfl,h1,h2,h3,h4,h5,h6,h7⟩
 ·omega
 have hl3:=readN_length h3
 refine ⟨.slice b (o+i) (xs.length-i) (cap-i) gr,m.set b (.own (setN bl (o+i) (List.replicate (xs.length-i) (f z))) ty gr'),?_,?_,Ch.setS _ rfl,?_⟩
 ·simp only[sliceE,bdE,evSlice]
  simp
  exact ⟨by omega,h4,by rcases h7 with h|h<;>simp[h]⟩
 ·have hfl:(List.replicate (xs.length-i) [f z]).flatten=List.replicate (xs.length-i) (f z):=by
   generalize xs.length-i=q
   induction q with
   |zero=>rfl
   |succ q ih=>rw[List.replicate_succ,List.flatten_cons,ih];rfl
  simp only[clearE]
  rw[if_neg (by omega),hfl]
  simp only[writeB,h2]
  rw[if_pos ⟨by simp;omega,by simp[hf.one]⟩]
  rfl
 ·refine .inr ⟨b,o,cap,gr,_,gr',by simp;omega,h1,List.getElem?_set_self (List.getElem?_eq_some_iff.1 h2).1,?_,by simp;omega,by rw[setN_length];exact h5,all_setN h6 (by simp[hf.one]),h7⟩
  unfold readN
  rw[setN_length,if_pos (by simp;omega)]
  congr 1
  refine List.ext_getElem? fun q=>?_
  rw[List.getElem?_take]
  have hlen:(xs.take i++List.replicate (xs.length-i) z).length=xs.length:=by simp;omega
  rw[hlen,Nat.mul_one]
  by_cases hq:q<xs.length
  ·rw[if_pos hq,List.getElem?_drop,setN_get _ _ _ _ (by simp;omega),List.map_append]
   simp only[List.length_replicate]
   by_cases hqi:q<i
   ·rw[if_neg (by omega),List.getElem?_append_left (by simp;omega)]
    have:=readN_get h3 (i:=q) (by omega)
    rw[this]
    simp[hqi]
   ·rw[if_pos (by omega),List.getElem?_append_right (by simp;omega)]
    simp
    rw[List.getElem?_replicate,List.getElem?_replicate]
    rw[if_pos (by omega),if_pos (by omega)]
    try rfl
  ·rw[if_neg hq,List.getElem?_eq_none (by simp;omega)]
set_option maxHeartbeats 4000000 in
theorem k83 (t:AVal) (ty:TypeId) (lo:Nat) (m0:AMem) (hlo:m0.length≤lo) (ys:List Int) (hn:ys.length<2^62) (m:AMem) (hm:m0<+:m) (hX:OwL (AVal.int .i64) lo m ty t ys):
  ACalls Tryz.prog 83 [t] m fun v m'=>m0<+:m'∧Ch (fun b=>t.blk=some b) m m'∧OwL (AVal.int .i64) lo m' ty v (cp ys ys.length)∧v.blk=t.blk:=by
 refine w83 ?_
 simp[hX.len]
 refine bbind_dec (fun h2=>?_) fun h2=>?_
 ·have hcp:cp ys ys.length=ys:=by
   match ys,h2 with
   | [],_=>rfl
   | [a],_=>simp[cp]
   |a::b::r,h2=>simp at h2;omega
  simp[hm,hcp,hX]
  exact .refl _ _
 simp
 obtain ⟨I,hI⟩: ∃I:Nat→AFrame→AMem→Prop,∀q a m',I q a m'↔(∃(k:Nat),k+q=ys.length∧1≤k∧a=h83_0 t (.int .i64 k)∧m<+:m'∧cp ys k=ys.take k):=⟨_,fun _ _ _=>Iff.rfl⟩
 have h1:cp ys 1=ys.take 1:=by
  match ys,h2 with
  | [],h2=>simp at h2
  |a::r,_=>simp[cp]
 refine W_loop I (ys.length-1) ((hI _ _ _).2 ⟨1,by omega,by omega,rfl,List.prefix_refl _,h1⟩) ?_
 rintro q a m1 hIn
 obtain ⟨k,hk,hk1,rfl,hm1,hcp⟩:=(hI _ _ _).1 hIn
 clear hIn
 replace hX:=hX.mono hm1
 have hch:Ch (fun b=>t.blk=some b) m m1:= .of_prefix hm1
 replace hm:=hm.trans hm1
 simp[hX.len]
 refine bbind_dec (fun hkl=>?_) fun hkl=>?_
 ·have hw:=step64 hkl hn
  obtain ⟨q,rfl⟩: ∃q',q=q'+1:=⟨q-1,by omega⟩
  have hp:=pred64 (n:=k) (by omega) (by omega)
  obtain ⟨b1,o1,_,hp1,hl1,_⟩:=hX.at hkl
  obtain ⟨b0,o0,_,hp0,hl0,_⟩:=hX.at (i:=k-1) (by omega)
  simp
  refine W_drawPR (by simp[maxDst]) rfl rfl ?_
  simp[hp1,hl1,hp,hp0,hl0]
  intro m2 hm2
  replace hX:=hX.mono hm2
  have hch2:=hch.trans (.of_prefix hm2)
  replace hm:=hm.trans hm2
  by_cases heq:ys[k]=ys[k-1]
  rotate_left
  ·have hcp':cp ys (k+1)=ys.take (k+1):=by
    rw[cp,if_neg,hcp]
    ·rw[List.take_add_one,List.getElem?_eq_getElem hkl];simp[List.getD,hkl]
    ·rintro ⟨_,h⟩
     rw[List.getElem?_eq_getElem hkl,List.getElem?_eq_getElem (by omega)] at h
     exact heq (by simpa using h)
   simp[beqF heq,hw]
   exact ⟨q,by omega,(hI _ _ _).2 ⟨k+1,by omega,by omega,by simp,hm1.trans hm2,hcp'⟩⟩
  simp[heq]
  clear hp1 hl1 hp0 hl0
  obtain ⟨s2,hs2,_,_⟩:=hX.drop (i:=k) (by omega)
  have hs2': ∀(j:Nat),j<ys.length-k→ ∀kd,iaddrE 1 s2 (.int kd j)=iaddrE 1 t (.int kd (k+j:Nat)):=by
   intro j hj kd
   rcases hX with ⟨_,h1,_⟩|⟨b,o,cap,gr,bl,gr',rfl,_⟩
   ·omega
   ·have:=hs2 .i64
    simp only[sliceE,bdE,evSlice] at this
    simp at this
    obtain ⟨_,rfl⟩:=this
    have h3:((j:Int)<((ys.length-k:Nat):Int)):=by omega
    have h4:(((k+j:Nat):Int)<(ys.length:Int)):=by omega
    simp only[iaddrE]
    rw[if_pos ⟨by omega,by exact_mod_cast h3⟩,if_pos ⟨by omega,by exact_mod_cast h4⟩]
    simp
    omega
  have hs2l:lenE s2=some (.int .i64 (ys.length-k:Nat)):=by
   rcases hX with ⟨_,h1,_⟩|⟨b,o,cap,gr,bl,gr',rfl,_⟩
   ·omega
   ·have:=hs2 .i64
    simp only[sliceE,bdE,evSlice] at this
    simp at this
    obtain ⟨_,rfl⟩:=this
    rfl
  simp[hs2]
  obtain ⟨J,hJ⟩: ∃I:Nat→AFrame→AMem→Prop,∀q a m',I q a m'↔(∃(z p:Nat) (zs:List Int),1≤p∧p+q=ys.length-k∧a=h83_1 t (.int .i64 z) s2 (.int .i64 p)∧m0<+:m'∧Ch (fun b=>t.blk=some b) m m'∧OwL (AVal.int .i64) lo m' ty t zs∧zs.length=ys.length∧z+1≤k+p∧(∀j,z≤j→zs[j]? =ys[j]?)∧zs.take z=cp ys (k+p)):=⟨_,fun _ _ _=>Iff.rfl⟩
  have hcp1:ys.take k=cp ys (k+1):=by
   rw[cp,if_pos,hcp]
   refine ⟨by omega,?_⟩
   rw[List.getElem?_eq_getElem hkl,List.getElem?_eq_getElem (by omega),heq]
  refine W_loop J (ys.length-k-1) ((hJ _ _ _).2 ⟨k,1,ys,by omega,by omega,rfl,hm,hch2,hX,rfl,by omega,fun _ _=>rfl,hcp1⟩) ?_
  clear hX hm hch hch2 hm2
  rintro q2 a m3 hIn
  obtain ⟨z,p,zs,hp1,hpq,rfl,hm,hch,hZ,hzl,hzk,hze,hzt⟩:=(hJ _ _ _).1 hIn
  clear hIn
  simp[hs2l]
  refine bbind_dec (fun hpl=>?_) fun hpl=>?_
  ·have hpl:p<ys.length-k:=by omega
   have hwp:=step64 hpl (by omega)
   obtain ⟨q2,rfl⟩: ∃q',q2=q'+1:=⟨q2-1,by omega⟩
   have hpp:=pred64 (n:=p) (by omega) (by omega)
   obtain ⟨b1,o1,_,hp1',hl1,_⟩:=hZ.at (i:=k+p) (by omega)
   obtain ⟨b0,o0,_,hp0,hl0,_⟩:=hZ.at (i:=k+p-1) (by omega)
   have e1:=hs2' p hpl .i64
   have e0:=hs2' (p-1) (by omega) .i64
   rw[hp1' .i64] at e1
   rw[show k+(p-1)=k+p-1 by omega,hp0 .i64] at e0
   have v1:zs[k+p]'(by omega)=ys[k+p]'(by omega):=by
    have:=hze (k+p) (by omega)
    rw[List.getElem?_eq_getElem (by omega),List.getElem?_eq_getElem (by omega)] at this
    simpa using this
   have v0:zs[k+p-1]'(by omega)=ys[k+p-1]'(by omega):=by
    have:=hze (k+p-1) (by omega)
    rw[List.getElem?_eq_getElem (by omega),List.getElem?_eq_getElem (by omega)] at this
    simpa using this
   rw[v1] at hl1
   rw[v0] at hl0
   simp
   refine W_drawPR (by simp[maxDst]) rfl rfl ?_
   simp[e1,hl1,hpp,e0,hl0]
   intro m4 hm4
   have hZ4:=hZ.mono hm4
   by_cases hne:ys[k+p]'(by omega)=ys[k+p-1]'(by omega)
   ·have hcp':cp ys (k+p+1)=cp ys (k+p):=by
     rw[cp,if_pos]
     refine ⟨by omega,?_⟩
     rw[List.getElem?_eq_getElem (by omega),List.getElem?_eq_getElem (by omega),hne]
    simp[hne,hwp]
    exact ⟨q2,by omega,(hJ _ _ _).2 ⟨z,p+1,zs,by omega,by omega,by simp,hm.trans hm4,hch.trans (.of_prefix hm4),hZ4,hzl,by omega,hze,by rw[hzt,←hcp'];rfl⟩⟩
   ·have hcp':cp ys (k+p+1)=cp ys (k+p)++ [ys[k+p]'(by omega)]:=by
     rw[cp,if_neg]
     ·simp[List.getD,show k+p<ys.length by omega]
     ·rintro ⟨_,h⟩
      rw[List.getElem?_eq_getElem (by omega),List.getElem?_eq_getElem (by omega)] at h
      exact hne (by simpa using h)
    have hwz:=step64 (k:=z) (n:=ys.length) (by omega) hn
    obtain ⟨bz,oz,hbz,hpz,_,hstz⟩:=hZ4.at (i:=z) (by omega)
    obtain ⟨m5,hst,hch5,hZ5⟩:=hstz (ys[k+p]'(by omega))
    simp[bneT hne,e1,loadE_mono hm4 hl1,hpz,hst,hwz,hwp]
    refine ⟨q2,by omega,(hJ _ _ _).2 ⟨z+1,p+1,zs.set z (ys[k+p]'(by omega)),by omega,by omega,by simp,hch5.pre (hm.trans hm4) fun b hb=>?_,(hch.trans (.of_prefix hm4)).trans (hch5.weaken fun b _ hb=>by rw[hb];exact hbz),hZ5,by simpa using hzl,by omega,fun j hj=>?_,?_⟩⟩
    ·have:=(hZ4.blk_lo hbz).1;omega
    ·rw[List.getElem?_set_ne (by omega)];exact hze j (by omega)
    ·rw[show k+(p+1)=k+p+1 by omega,hcp',←hzt,List.take_add_one,List.getElem?_set_self (by omega)]
     simp[List.take_set]
     exact List.set_eq_of_length_le (by simp;omega)
  ·have hpe:k+p=ys.length:=by omega
   obtain ⟨s3,m4,hs3,hcl,hch4,hZ4⟩:=hZ.clear (i:=z) (by omega) 0
   obtain ⟨s4,hs4,hZ5,hbl⟩:=hZ4.take (i:=z) (by simp;omega)
   simp[hs3,hcl,hs4]
   rw[List.take_append_of_le_length (by simp;omega),List.take_take,Nat.min_self,hzt,hpe] at hZ5
   exact ⟨hch4.pre hm fun b hb hbb=>by have:=(hZ.blk_lo hbb).1;omega,hch.trans hch4,hZ5,hbl⟩
 ·have hkl:k=ys.length:=by omega
  subst hkl
  rw[List.take_length] at hcp
  simp[hm,hcp,hX]
  exact hch
end Go.Proofs.YtlniliigcnedmaaGreatDoor
namespace Go.Proofs.YtlniliigcnedmaaGreatDoor
open Go Ax
open Relation
set_option maxRecDepth 100000
theorem k102 (v:AVal) (O:List Bool) (i:Nat) (b:Nat) (m:AMem) (hb:loadE m 1 false (.ptr b 0)=some v) (hO:RBools m v O) (hi:i<O.length):ACalls Tryz.prog 102 [.int .i64 i,.ptr b 0] m fun r m'=>r= .bool O[i]∧m'=m:=by
 refine w102 ?_
 obtain ⟨b',o,h1,h2⟩:=hO.at hi
 simp[hb,h1,h2]
open Classical in
set_option maxHeartbeats 4000000 in
theorem k52 (s:AVal) (l:List Md) (m:AMem) (hs:RTab m s l) (hsz: ∀x∈l,smallN x) (hl:l.length<2^62):
  ACalls Tryz.prog 52 [s] m fun v m'=>v= .int .i64 (checkI l)∧m<+:m':=by
 refine w52 ?_
 simp[hs.len]
 generalize hC:checkI l=C
 unfold checkI at hC
 refine bbind_dec (fun h=>?_) fun h=>?_
 ·rw[if_pos (by omega)] at hC
  simp[←hC]
 rw[if_neg (by omega)] at hC
 have hn:l.length≤512:=by omega
 simp[hs.len]
 have hlen:(l.map (oneI · l.length)).length=l.length:=by simp
 obtain ⟨I,hI⟩: ∃I:Nat→AFrame→AMem→Prop,∀q a m',I q a m'↔(∃(k:Nat),k+q=l.length∧a=h52_0 s s (.int .i64 l.length) (.int .i64 k)∧m<+:m'∧ ∀j (hj:j<l.length),j<k→oneI l[j] l.length=0):=⟨_,fun _ _ _=>Iff.rfl⟩
 refine W_loop I l.length ((hI _ _ _).2 ⟨0,by simp,rfl,List.prefix_refl _,fun _ _ h=>by omega⟩) ?_
 rintro q a m1 hIn
 obtain ⟨k,hk,rfl,hm1,hz⟩:=(hI _ _ _).1 hIn
 clear hIn
 simp
 refine bbind_dec (fun hkl=>?_) fun hkl=>?_
 ·have hw:=step64 hkl hl
  obtain ⟨q,rfl⟩: ∃q',q=q'+1:=⟨q-1,by omega⟩
  obtain ⟨bx',ox,c,h4,h5,_,_,h6⟩:=hs.atC hkl
  replace h5:=loadE_mono hm1 h5
  have hcl:=h6.all
  simp[h4,h5]
  rw[store_new _ _ c _ _ 6 hcl.1 rfl hcl.2]
  have hb:=readB_new m1 c 39 none
  have hm2:m1<+:m1++ [.own c 39 none]:=List.prefix_append _ _
  replace hm2:=hm1.trans hm2
  have hrn:readN c 0 6=some c:=by unfold readN;rw[if_pos (by omega),List.drop_zero,List.take_of_length_le (by omega)]
  generalize m1++ [.own c 39 none]=m2 at*
  simp[bxW hb,hrn]
  refine C_of (k97 s l c l[k] m2 (hs.mono hm2) (h6.mono hm2) (hsz _ (List.getElem_mem hkl))) ?_
  rintro _ m3 ⟨rfl,hm3⟩
  simp
  refine bbind_intro (fun h1=>?_) fun h1=>?_
  ·have h1:oneI l[k] l.length≠0:=by simpa using h1
   have:firstI (l.map (oneI · l.length))=oneI l[k] l.length:=by
    rw[firstI_at (k:=k) (by rw[hlen];exact hkl) (fun j hj hjk=>by simpa using hz j (by rw[hlen] at hj;exact hj) hjk) (by simpa using h1)]
    simp
   rw[this,if_pos h1] at hC
   simp[hC,hm2.trans hm3]
  ·simp[hw]
   refine ⟨q,by omega,(hI _ _ _).2 ⟨k+1,by omega,by simp,hm2.trans hm3,fun j hj hjk=>?_⟩⟩
   by_cases hjk':j=k
   ·subst hjk';simpa using h1
   ·exact hz j hj (by omega)
 have hf:firstI (l.map (oneI · l.length))=0:=by
  rw[firstI_zero]
  intro x hx
  obtain ⟨y,hy,rfl⟩:=List.mem_map.1 hx
  obtain ⟨j,hj,rfl⟩:=List.mem_iff_getElem.1 hy
  exact hz j hj (by omega)
 rw[if_neg (by simp[hf])] at hC
 have hg:=goodT_of hf
 have hone:=fun {x} (hx:x∈l)=>one_of hf hx
 simp[hs.len]
 clear hI I hz hk hkl
 obtain ⟨I,hI⟩: ∃I:Nat→AFrame→AMem→Prop,∀q a m',I q a m'↔(∃(k:Nat),k+q=l.length∧a=h52_1 s s (.int .i64 l.length) (.int .i64 k)∧m<+:m'∧ ∀j (hj:j<l.length),j<k→voidsB l l[j]=false):=⟨_,fun _ _ _=>Iff.rfl⟩
 refine W_loop I l.length ((hI _ _ _).2 ⟨0,by simp,rfl,hm1,fun _ _ h=>by omega⟩) ?_
 clear hm1
 rintro q a m1 hIn
 obtain ⟨k,hk,rfl,hm1,hz⟩:=(hI _ _ _).1 hIn
 clear hIn
 simp
 refine bbind_dec (fun hkl=>?_) fun hkl=>?_
 ·have hw:=step64 hkl hl
  obtain ⟨q,rfl⟩: ∃q',q=q'+1:=⟨q-1,by omega⟩
  obtain ⟨bx',ox,c,h4,h5,_,_,h6⟩:=hs.atC hkl
  replace h5:=loadE_mono hm1 h5
  have hcl:=h6.all
  simp[h4,h5]
  rw[store_new _ _ c _ _ 6 hcl.1 rfl hcl.2]
  have hb:=readB_new m1 c 39 none
  have hm2:m1<+:m1++ [.own c 39 none]:=List.prefix_append _ _
  replace hm2:=hm1.trans hm2
  have hrn:readN c 0 6=some c:=by unfold readN;rw[if_pos (by omega),List.drop_zero,List.take_of_length_le (by omega)]
  generalize m1++ [.own c 39 none]=m2 at*
  have hxm:l[k]∈l:=List.getElem_mem hkl
  simp[bxW hb,hrn]
  refine C_of (k98 s l c l[k] m2 (hs.mono hm2) (h6.mono hm2) (hg _ hxm) (proc_of (hone hxm)) (hsz _ hxm)) ?_
  rintro _ m3 ⟨rfl,hm3⟩
  simp
  refine bbind_intro (fun h1=>?_) fun h1=>?_
  ·rw[if_pos (any_true hkl h1)] at hC
   simp[←hC,hm2.trans hm3]
  ·simp[hw]
   refine ⟨q,by omega,(hI _ _ _).2 ⟨k+1,by omega,by simp,hm2.trans hm3,fun j hj hjk=>?_⟩⟩
   by_cases hjk':j=k
   ·subst hjk';exact h1
   ·exact hz j hj (by omega)
 rw[if_neg (by rw[any_false fun j hj=>hz j hj (by omega)];simp)] at hC
 simp
 clear hI I hz hk hkl
 refine C_of (k100 s l m1 (hs.mono hm1) hg hn hsz) ?_
 rintro v m2 ⟨hm2,T,hT,hTl,hTj⟩
 replace hm2:=hm1.trans hm2
 simp
 refine C_of (k99 v T false m2 hT.bools (by omega)) ?_
 rintro _ m2 ⟨rfl,rfl⟩
 simp
 have hbad:(T.any fun x=> !x)=true↔ ∃r,r<l.length∧badM l r:=by
  rw[←okM_false,List.any_eq_true]
  constructor
  ·rintro ⟨x,hx,h1⟩
   obtain ⟨j,hj,rfl⟩:=List.mem_iff_getElem.1 hx
   refine ⟨j,by omega,fun hok=>?_⟩
   have:=(hTj j).2 ⟨by omega,hok⟩
   rw[List.getElem?_eq_getElem hj] at this
   simp at this
   rw[this] at h1
   cases h1
  ·rintro ⟨j,hj,hok⟩
   refine ⟨T[j]'(by omega),List.getElem_mem _,?_⟩
   cases hc:T[j]'(by omega)
   ·rfl
   ·exact absurd ((hTj j).1 (by rw[List.getElem?_eq_getElem (by omega),hc])).2 hok
 refine bbind_intro (fun h1=>?_) fun h1=>?_
 ·rw[if_pos (hbad.1 h1)] at hC
  simp[←hC,hm2]
 have hnb: ¬ ∃r,r<l.length∧badM l r:=fun h=>by rw[hbad.2 h] at h1;cases h1
 rw[if_neg hnb] at hC
 have hac:=acyc_of hnb
 simp
 refine C_of (k101 s l m2 (hs.mono hm2) hg hac hn hsz) ?_
 rintro v' m3 ⟨hm3,O,hO,hOl,hOj⟩
 replace hm3:=hm2.trans hm3
 have hvc:v'.cells= [v']∧v'.one=true:=(Ow.sl hO).self.symm
 simp
 rw[store_new1 _ _ _ _ _ hvc.1 hvc.2]
 have hb8:=readB_new m3 [v'] 120 none
 have hm4:m3<+:m3++ [.own [v'] 120 none]:=List.prefix_append _ _
 replace hO:=hO.mono hm4
 replace hm4:=hm3.trans hm4
 generalize m3++ [.own [v'] 120 none]=m4 at*
 generalize m3.length=b8 at*
 simp[hs.len]
 obtain ⟨I,hI⟩: ∃I:Nat→AFrame→AMem→Prop,∀q a m',I q a m'↔(∃(k:Nat),k+q=l.length∧a=h52_2 (.ptr b8 0) s (.int .i64 l.length) (.int .i64 k)∧m4<+:m'∧ ∀j (hj:j<l.length),j<k→ ¬(flexOf l[j]=true∧ ∃e∈l[j].elems,FlexP l e.toNat)):=⟨_,fun _ _ _=>Iff.rfl⟩
 refine W_loop I l.length ((hI _ _ _).2 ⟨0,by simp,rfl,List.prefix_refl _,fun _ _ h=>by omega⟩) ?_
 rintro q a m5 hIn
 obtain ⟨k,hk,rfl,hm5,hz⟩:=(hI _ _ _).1 hIn
 clear hIn
 simp
 refine bbind_dec (fun hkl=>?_) fun hkl=>?_
 ·have hw:=step64 hkl hl
  obtain ⟨q,rfl⟩: ∃q',q=q'+1:=⟨q-1,by omega⟩
  obtain ⟨bx',ox,c,h4,h5,_,_,h6⟩:=hs.atC hkl
  have hm45:=hm4.trans hm5
  replace h5:=loadE_mono hm45 h5
  have hcl:=h6.all
  simp[h4,h5]
  rw[store_new _ _ c _ _ 6 hcl.1 rfl hcl.2]
  have hb:=readB_new m5 c 39 none
  have hm6:m5<+:m5++ [.own c 39 none]:=List.prefix_append _ _
  generalize m5++ [.own c 39 none]=m6 at*
  generalize m5.length=b10 at*
  have hxm:l[k]∈l:=List.getElem_mem hkl
  obtain ⟨e,nm,c0,c1,c2,c3,c4,c5,he,hnm,rfl⟩:=h6.get
  have hgx:=hg _ hxm
  have hszx:=hsz _ hxm
  have hmem: ∀(j:Nat) (hj:j<l.length),j<k+1→(¬(flexOf l[k]=true∧ ∃e∈l[k].elems,FlexP l e.toNat))→ ¬(flexOf l[j]=true∧ ∃e∈l[j].elems,FlexP l e.toNat):=fun j hj hjk hn=>by
   by_cases hjk':j=k
   ·subst hjk';exact hn
   ·exact hz j hj (by omega)
  have hyes:flexOf l[k]=true→(∃e∈l[k].elems,FlexP l e.toNat)→C=7:=fun h1 h2=>by
   rw[if_pos ⟨l[k],hxm,h1,h2⟩] at hC;exact hC.symm
  generalize l[k]=x at*
  have hm56:=hm5.trans hm6
  by_cases hfx:flexOf x=true
  rotate_left
  ·have hx12: ¬x.kind=12:=fun h=>hfx (by simp[flexOf,h])
   have hx13: ¬x.kind=13:=fun h=>hfx (by simp[flexOf,h])
   simp[bx hb,beqF hx12,beqF hx13,hw]
   exact ⟨q,by omega,(hI _ _ _).2 ⟨k+1,by omega,by simp,hm56,fun j hj hjk=>hmem j hj hjk fun h=>hfx h.1⟩⟩
  have call: ∀y∈x.elems,∀m',m6<+:m'→ACalls Tryz.prog 102 ([]++ [.int .i64 y]++ [.ptr b8 0]) m' fun v m''=>v= .bool ((O[y.toNat]?).getD false)∧m'<+:m'':=by
   intro y hy m' hm'
   have:=hgx y hy
   obtain ⟨j,rfl⟩: ∃j:Nat,y=j:=⟨y.toNat,by omega⟩
   have hj:j<O.length:=by omega
   refine (k102 v' O j b8 m' (by rw[bx (readB_mono (hm56.trans hm') hb8)];rfl) ((hO.bools).mono (hm56.trans hm')) hj).mono ?_
   rintro _ _ ⟨rfl,rfl⟩
   simp[hj]
  have hany:x.elems.any (fun y=>(O[y.toNat]?).getD false)=true↔ ∃e∈x.elems,FlexP l e.toNat:=by
   rw[List.any_eq_true]
   constructor
   ·rintro ⟨y,hy,h1⟩
    have hgy:=hgx y hy
    have hj:y.toNat<O.length:=by omega
    rw[List.getElem?_eq_getElem hj] at h1
    simp at h1
    exact ⟨y,hy,((hOj _).1 (by rw[List.getElem?_eq_getElem hj,h1])).2⟩
   ·rintro ⟨y,hy,h1⟩
    have hgy:=hgx y hy
    refine ⟨y,hy,?_⟩
    rw[(hOj _).2 ⟨by omega,h1⟩];rfl
  have rest: ∀m7,m6<+:m7→m<+:m7:=fun m7 hm7=>(hm45.trans hm6).trans hm7
  by_cases h12:x.kind=12
  ·simp[bx hb,h12]
   refine C_of (k36 e _ _ m6 (he.mono (hm45.trans hm6)) hszx.1 _ [] [.ptr b8 0] call) ?_
   rintro _ m7 ⟨rfl,hm7⟩
   simp
   refine bbind_intro (fun h1=>?_) fun h1=>?_
   ·simp[hyes hfx (hany.1 h1),rest m7 hm7]
   ·simp[hw]
    exact ⟨q,by omega,(hI _ _ _).2 ⟨k+1,by omega,by simp,hm56.trans hm7,fun j hj hjk=>hmem j hj hjk fun h=>by rw[hany.2 h.2] at h1;cases h1⟩⟩
  ·have h13:x.kind=13:=by simp[flexOf] at hfx;omega
   simp[bx hb,h13]
   refine C_of (k36 e _ _ m6 (he.mono (hm45.trans hm6)) hszx.1 _ [] [.ptr b8 0] call) ?_
   rintro _ m7 ⟨rfl,hm7⟩
   simp
   refine bbind_intro (fun h1=>?_) fun h1=>?_
   ·simp[hyes hfx (hany.1 h1),rest m7 hm7]
   ·simp[hw]
    exact ⟨q,by omega,(hI _ _ _).2 ⟨k+1,by omega,by simp,hm56.trans hm7,fun j hj hjk=>hmem j hj hjk fun h=>by rw[hany.2 h.2] at h1;cases h1⟩⟩
 ·rw[if_neg] at hC
  ·simp[←hC,hm4.trans hm5]
  ·rintro ⟨x,hx,h1⟩
   obtain ⟨j,hj,rfl⟩:=List.mem_iff_getElem.1 hx
   exact hz j hj (by omega) h1
end Go.Proofs.YtlniliigcnedmaaGreatDoor
namespace Go.Proofs.YtlniliigcnedmaaGreatDoor
open Go Ax
open Relation
set_option maxRecDepth 100000
theorem voids_iff (l:List Md) (x:Md):voidsB l x=true↔ ∃(k:Nat) (e:Int),x.elems[k]? =some e∧voidE l e=true∧ ¬(x.kind=13∧k+1=x.elems.length)∧ ¬x.kind=12:=by
 unfold voidsB
 by_cases h12:x.kind=12
 ·rw[if_pos h12]
  constructor
  ·intro h;cases h
  ·rintro ⟨_,_,_,_,_,h⟩;exact absurd h12 h
 ·rw[if_neg h12]
  by_cases h13:x.kind=13
  ·rw[if_pos h13,List.any_eq_true]
   constructor
   ·rintro ⟨e,he,h⟩
    obtain ⟨k,hk,rfl⟩:=List.mem_iff_getElem.1 he
    rw[List.length_dropLast] at hk
    exact ⟨k,x.elems[k],List.getElem?_eq_getElem (by omega),by simpa using h,fun h=>by omega,h12⟩
   ·rintro ⟨k,e,h1,h2,h3,_⟩
    obtain ⟨hk,rfl⟩:=List.getElem?_eq_some_iff.1 h1
    have:k<x.elems.dropLast.length:=by
     rw[List.length_dropLast]
     have:=fun h=>h3 ⟨h13,h⟩
     omega
    exact ⟨x.elems[k],List.mem_iff_getElem.2 ⟨k,this,by simp⟩,h2⟩
  ·rw[if_neg h13,List.any_eq_true]
   constructor
   ·rintro ⟨e,he,h⟩
    obtain ⟨k,hk,rfl⟩:=List.mem_iff_getElem.1 he
    exact ⟨k,x.elems[k],List.getElem?_eq_getElem hk,h,fun h=>h13 h.1,h12⟩
   ·rintro ⟨k,e,h1,h2,_,_⟩
    exact ⟨e,List.mem_of_getElem? h1,h2⟩
theorem Ax.RTab.elems {m:AMem} {s:AVal} {l:List Md} (h:RTab m s l) {i:Nat} (hi:i<l.length): ∃b o e,(∀k,iaddrE 6 s (.int k i)=some (.ptr b o))∧(∀m',m<+:m'→loadE m' 1 false (.ptr b o)=some (.int .i64 l[i].kind)∧loadE m' 1 false (.ptr b (o+2))=some e)∧RInts m e l[i].elems:=by
 obtain ⟨b,o,e,nm,h1,_,h2,_,h3,_,_,_,h4,_⟩:=h.at hi
 exact ⟨b,o,e,h1,fun m' hm=>⟨loadE_mono hm h2,loadE_mono hm h3⟩,h4⟩
theorem stepsP_1:stepsP 1=fun x=> !yinB x:=by funext x;simp[stepsP]
theorem stepsP_2:stepsP 2=fun x=> !yangB x:=by funext x;simp[stepsP]
open Classical in
set_option maxHeartbeats 4000000 in
theorem k59 (s:AVal) (l:List Md) (m:AMem) (hs:RTab m s l) (hsz: ∀x∈l,smallN x) (hl:l.length<2^62):
  ACalls Tryz.prog 59 [s] m fun v m'=>v= .int .i64 (checkI l)∧m<+:m':=by
 refine w59 ?_
 simp[hs.len]
 generalize hC:checkI l=C
 unfold checkI at hC
 refine bbind_dec (fun h=>?_) fun h=>?_
 ·rw[if_pos (by omega)] at hC
  simp[←hC]
 rw[if_neg (by omega)] at hC
 have hn:l.length≤512:=by omega
 simp
 have hlen:(l.map (oneI · l.length)).length=l.length:=by simp
 obtain ⟨I,hI⟩: ∃I:Nat→AFrame→AMem→Prop,∀q a m',I q a m'↔(∃(k:Nat),k+q=l.length∧a=h59_0 s (.int .i64 k)∧m<+:m'∧ ∀j (hj:j<l.length),j<k→oneI l[j] l.length=0):=⟨_,fun _ _ _=>Iff.rfl⟩
 refine W_loop I l.length ((hI _ _ _).2 ⟨0,by simp,rfl,List.prefix_refl _,fun _ _ h=>by omega⟩) ?_
 rintro q a m1 hIn
 obtain ⟨k,hk,rfl,hm1,hz⟩:=(hI _ _ _).1 hIn
 clear hIn
 simp[hs.len]
 refine bbind_dec (fun hkl=>?_) fun hkl=>?_
 ·have hw:=step64 hkl hl
  obtain ⟨q,rfl⟩: ∃q',q=q'+1:=⟨q-1,by omega⟩
  obtain ⟨bx',ox,c,h4,h5,_,_,h6⟩:=hs.atC hkl
  replace h5:=loadE_mono hm1 h5
  simp[h4,h5,hs.len]
  refine C_of (k107 c l[k] l.length m1 (h6.mono hm1) (hsz _ (List.getElem_mem hkl))) ?_
  rintro _ m3 ⟨rfl,hm3⟩
  simp
  refine bbind_intro (fun h1=>?_) fun h1=>?_
  ·have h1:oneI l[k] l.length≠0:=by simpa using h1
   have:firstI (l.map (oneI · l.length))=oneI l[k] l.length:=by
    rw[firstI_at (k:=k) (by rw[hlen];exact hkl) (fun j hj hjk=>by simpa using hz j (by rw[hlen] at hj;exact hj) hjk) (by simpa using h1)]
    simp
   rw[this,if_pos h1] at hC
   simp[hC,hm1.trans hm3]
  ·simp[hw]
   refine ⟨q,by omega,(hI _ _ _).2 ⟨k+1,by omega,by simp,hm1.trans hm3,fun j hj hjk=>?_⟩⟩
   by_cases hjk':j=k
   ·subst hjk';simpa using h1
   ·exact hz j hj (by omega)
 have hf:firstI (l.map (oneI · l.length))=0:=by
  rw[firstI_zero]
  intro x hx
  obtain ⟨y,hy,rfl⟩:=List.mem_map.1 hx
  obtain ⟨j,hj,rfl⟩:=List.mem_iff_getElem.1 hy
  exact hz j hj (by omega)
 rw[if_neg (by simp[hf])] at hC
 have hg:=goodT_of hf
 have hone:=fun {x} (hx:x∈l)=>one_of hf hx
 simp
 clear hI I hz hk hkl
 obtain ⟨I,hI⟩: ∃I:Nat→AFrame→AMem→Prop,∀q a m',I q a m'↔(∃(k:Nat),k+q=l.length∧a=h59_1 s (.int .i64 k)∧m<+:m'∧ ∀j (hj:j<l.length),j<k→voidsB l l[j]=false):=⟨_,fun _ _ _=>Iff.rfl⟩
 refine W_loop I l.length ((hI _ _ _).2 ⟨0,by simp,rfl,hm1,fun _ _ h=>by omega⟩) ?_
 clear hm1
 rintro q a m1 hIn
 obtain ⟨k,hk,rfl,hm1,hz⟩:=(hI _ _ _).1 hIn
 clear hIn
 simp[hs.len]
 refine bbind_dec (fun hkl=>?_) fun hkl=>?_
 ·have hw:=step64 hkl hl
  obtain ⟨q,rfl⟩: ∃q',q=q'+1:=⟨q-1,by omega⟩
  obtain ⟨bk,ok,e,h4,h5,he⟩:=hs.elems hkl
  have hxm:l[k]∈l:=List.getElem_mem hkl
  have hmem: ∀(j:Nat) (hj:j<l.length),j<k+1→voidsB l l[k]=false→voidsB l l[j]=false:=fun j hj hjk hn=>by
   by_cases hjk':j=k
   ·subst hjk';exact hn
   ·exact hz j hj (by omega)
  have hyes:voidsB l l[k]=true→C=7:=fun h1=>by
   rw[if_pos (any_true hkl h1)] at hC;exact hC.symm
  have hgx:=hg _ hxm
  have hszx:=hsz _ hxm
  have h13:=proc_of (hone hxm)
  generalize l[k]=x at*
  simp
  obtain ⟨I2,hI2⟩: ∃I:Nat→AFrame→AMem→Prop,∀q a m',I q a m'↔(∃(z:Nat),z+q=x.elems.length∧a=h59_2 s (.int .i64 k) (.int .i64 z)∧m<+:m'∧ ∀(j:Nat) e,j<z→x.elems[j]? =some e→ ¬(voidE l e=true∧ ¬(x.kind=13∧j+1=x.elems.length)∧ ¬x.kind=12)):=⟨_,fun _ _ _=>Iff.rfl⟩
  refine W_loop I2 x.elems.length ((hI2 _ _ _).2 ⟨0,by simp,rfl,hm1,fun _ _ h=>by omega⟩) ?_
  clear hm1
  rintro p a m1 hIn
  obtain ⟨z,hk2,rfl,hm1,hz2⟩:=(hI2 _ _ _).1 hIn
  clear hIn
  obtain ⟨h5a,h5b⟩:=h5 m1 hm1
  simp[h4,h5b,(he.mono hm1).len]
  refine bbind_dec (fun hzl=>?_) fun hzl=>?_
  ·have hw2:=step64 hzl hszx.1
   obtain ⟨p,rfl⟩: ∃p',p=p'+1:=⟨p-1,by omega⟩
   obtain ⟨b1,o1,hp1,hl1⟩:=(he.mono hm1).at hzl
   have hgy:=hgx _ (List.getElem_mem hzl)
   have hee:x.elems[z]? =some x.elems[z]:=List.getElem?_eq_getElem hzl
   generalize x.elems[z]=ek at*
   obtain ⟨j,rfl⟩: ∃j:Nat,ek=j:=⟨ek.toNat,by omega⟩
   have hj:j<l.length:=by omega
   obtain ⟨bj,oj,ej,h6,h7,_⟩:=hs.elems hj
   obtain ⟨h7a,_⟩:=h7 m1 hm1
   have hv:voidE l (j:Int)=(l[j].kind==0):=by simp[voidE,hj]
   have next: ¬(voidE l (j:Int)=true∧ ¬(x.kind=13∧z+1=x.elems.length)∧ ¬x.kind=12)→I2 p (h59_2 s (.int .i64 k) (.int .i64 (z+1:Nat))) m1:=fun hno=>by
    refine (hI2 _ _ _).2 ⟨z+1,by omega,rfl,hm1,fun j' e' hj' he'=>?_⟩
    by_cases hjz:j'=z
    ·subst hjz
     rw[hee] at he';cases he'
     exact hno
    ·exact hz2 j' e' (by omega) he'
   have stop:(voidE l (j:Int)=true∧ ¬(x.kind=13∧z+1=x.elems.length)∧ ¬x.kind=12)→C=7:=fun hyes'=>hyes ((voids_iff l x).2 ⟨z,_,hee,hyes'⟩)
   have hpl:x.kind=13→IntKind.i64.wrap ((x.elems.length:Int)-1)=((x.elems.length-1:Nat):Int):=fun h=>pred64 (by have:=h13 h;omega) hszx.1
   have hbe:(x.kind=13)→((z:Int)==((x.elems.length-1:Nat):Int))=decide (z+1=x.elems.length):=fun h=>by
    have:=h13 h
    rw[Bool.eq_iff_iff]
    simp
    omega
   by_cases c13:x.kind=13
   ·have hp13:=hpl c13
    have hb13:=hbe c13
    by_cases cz:z+1=x.elems.length
    ·cases cv:(l[j].kind==0)
     ·simp[h4,h5a,h5b,c13,(he.mono hm1).len,hp13,hb13,cz,hp1,hl1,h6,h7a,cv,hw2]
      exact ⟨p,by omega,by simpa using next (by rw[hv,cv];simp)⟩
     ·simp[h4,h5a,h5b,c13,(he.mono hm1).len,hp13,hb13,cz,hp1,hl1,h6,h7a,cv,hw2]
      exact ⟨p,by omega,by simpa using next (fun h=>h.2.1 ⟨c13,cz⟩)⟩
    ·cases cv:(l[j].kind==0)
     ·simp[h4,h5a,h5b,c13,(he.mono hm1).len,hp13,hb13,cz,hp1,hl1,h6,h7a,cv,hw2]
      exact ⟨p,by omega,by simpa using next (by rw[hv,cv];simp)⟩
     ·simp[h4,h5a,h5b,c13,(he.mono hm1).len,hp13,hb13,cz,hp1,hl1,h6,h7a,cv,hw2]
      exact ⟨(stop ⟨by rw[hv,cv],fun h=>cz h.2,by omega⟩).symm,hm1⟩
   ·by_cases c12:x.kind=12
    ·cases cv:(l[j].kind==0)
     ·simp[h4,h5a,h5b,c12,hp1,hl1,h6,h7a,cv,hw2]
      exact ⟨p,by omega,by simpa using next (by rw[hv,cv];simp)⟩
     ·simp[h4,h5a,h5b,c12,hp1,hl1,h6,h7a,cv,hw2]
      exact ⟨p,by omega,by simpa using next (fun h=>h.2.2 c12)⟩
    ·cases cv:(l[j].kind==0)
     ·simp[h4,h5a,h5b,beqF c13,hp1,hl1,h6,h7a,cv,hw2]
      exact ⟨p,by omega,by simpa using next (by rw[hv,cv];simp)⟩
     ·simp[h4,h5a,h5b,beqF c13,bneT c12,hp1,hl1,h6,h7a,cv,hw2]
      exact ⟨(stop ⟨by rw[hv,cv],fun h=>c13 h.1,c12⟩).symm,hm1⟩
  ·simp[hw]
   refine ⟨q,by omega,(hI _ _ _).2 ⟨k+1,by omega,by simp,hm1,fun j hj hjk=>hmem j hj hjk ?_⟩⟩
   rw[←Bool.not_eq_true,voids_iff]
   rintro ⟨j',e',h1,h2⟩
   have:=(List.getElem?_eq_some_iff.1 h1).1
   exact hz2 j' e' (by omega) h1 h2
 rw[if_neg (by rw[any_false fun j hj=>hz j hj (by omega)];simp)] at hC
 simp
 clear hI I hz hk hkl
 obtain ⟨I,hI⟩: ∃I:Nat→AFrame→AMem→Prop,∀q a m',I q a m'↔(∃(k:Nat),k+q=l.length∧a=h59_3 s (.int .i64 k)∧m<+:m'∧ ∀j,j<k→ ¬badM l j):=⟨_,fun _ _ _=>Iff.rfl⟩
 refine W_loop I l.length ((hI _ _ _).2 ⟨0,by simp,rfl,hm1,fun _ h=>by omega⟩) ?_
 clear hm1
 rintro q a m1 hIn
 obtain ⟨k,hk,rfl,hm1,hz⟩:=(hI _ _ _).1 hIn
 clear hIn
 simp[hs.len]
 refine bbind_dec (fun hkl=>?_) fun hkl=>?_
 ·have hw:=step64 hkl hl
  obtain ⟨q,rfl⟩: ∃q',q=q'+1:=⟨q-1,by omega⟩
  have hyes:badM l k→C=10:=fun h1=>by
   rw[if_pos ⟨k,hkl,h1⟩] at hC;exact hC.symm
  simp
  refine C_of (k108 s l k 1 hkl m1 (hs.mono hm1) hg hn hsz) ?_
  rintro v m2 ⟨hm2,R,hR,hRl,hRj⟩
  obtain ⟨b1,o1,_,h1,h2,_⟩:=hR.at (i:=k) (by omega)
  have hRk:R[k]'(by omega)=true↔badY l k:=by
   have:=hRj k
   rw[List.getElem?_eq_getElem (by omega),Option.some.injEq,stepsP_1] at this
   exact this
  replace hm2:=hm1.trans hm2
  cases cR:R[k]'(by omega)
  rotate_left
  ·simp[h1,h2,cR]
   exact ⟨(hyes (.inl (hRk.1 cR))).symm,hm2⟩
  simp[h1,h2,cR]
  have hY: ¬badY l k:=fun h=>by rw[hRk.2 h] at cR;cases cR
  refine C_of (k108 s l k 2 hkl m2 (hs.mono hm2) hg hn hsz) ?_
  rintro v2 m3 ⟨hm3,R2,hR2,hRl2,hRj2⟩
  obtain ⟨b3,o3,_,h3,h4,_⟩:=hR2.at (i:=k) (by omega)
  have hRk2:R2[k]'(by omega)=true↔badG l k:=by
   have:=hRj2 k
   rw[List.getElem?_eq_getElem (by omega),Option.some.injEq,stepsP_2] at this
   exact this
  replace hm3:=hm2.trans hm3
  cases cR2:R2[k]'(by omega)
  rotate_left
  ·simp[h3,h4,cR2]
   exact ⟨(hyes (.inr (hRk2.1 cR2))).symm,hm3⟩
  simp[h3,h4,cR2,hw]
  have hG: ¬badG l k:=fun h=>by rw[hRk2.2 h] at cR2;cases cR2
  refine ⟨q,by omega,(hI _ _ _).2 ⟨k+1,by omega,by simp,hm3,fun j hjk=>?_⟩⟩
  by_cases hjk':j=k
  ·subst hjk';exact fun h=>h.elim hY hG
  ·exact hz j (by omega)
 have hnb: ¬ ∃r,r<l.length∧badM l r:=fun ⟨r,hr,h⟩=>hz r (by omega) h
 rw[if_neg hnb] at hC
 have hac:=acyc_of hnb
 simp
 clear hI I hz hk hkl
 have hc1:(l.length:Int)≤281474976710656:=by omega
 have hc2:(l.length:Int)≤9223372036854775807:=by omega
 simp[hs.len,hc1,hc2]
 have hN0:=OwL.rep (f:=AVal.bool) m1 4 l.length false
 have hm2:m1<+:m1++ [.own (List.replicate l.length (.bool false)) 4 none]:=List.prefix_append _ _
 generalize AVal.slice m1.length 0 l.length l.length none=t at*
 generalize m1++ [.own (List.replicate l.length (.bool false)) 4 none]=m2 at*
 replace hm2:=hm1.trans hm2
 have hlo:=hm1.length_le
 generalize m1.length=lo at*
 obtain ⟨I,hI⟩: ∃I:Nat→AFrame→AMem→Prop,∀q a m',I q a m'↔(∃(k:Nat) (N:List Bool),k+q=l.length∧a=h59_4 s t (.int .i64 k)∧m<+:m'∧OwL AVal.bool lo m' 4 t N∧N.length=l.length∧(∀(j:Nat),N[j]? =some true→ ¬FlexP l j)∧ ∀j (hj:j<l.length),j<k→ ¬(flexOf l[j]=true∧ ∃e∈l[j].elems,FlexP l e.toNat)):=⟨_,fun _ _ _=>Iff.rfl⟩
 refine W_loop I l.length ((hI _ _ _).2 ⟨0,_,by simp,rfl,hm2,hN0,by simp,fun j hj=>(by rw[List.getElem?_replicate] at hj;split at hj<;>cases hj),fun _ _ h=>by omega⟩) ?_
 clear hN0 hm2
 rintro q a m3 hIn
 obtain ⟨k,N,hk,rfl,hm3,hN,hNl,hNs,hz⟩:=(hI _ _ _).1 hIn
 clear hIn
 simp[hs.len]
 refine bbind_dec (fun hkl=>?_) fun hkl=>?_
 ·have hw:=step64 hkl hl
  obtain ⟨q,rfl⟩: ∃q',q=q'+1:=⟨q-1,by omega⟩
  obtain ⟨bk,ok,e,h4,h5,he⟩:=hs.elems hkl
  have hxm:l[k]∈l:=List.getElem_mem hkl
  have hmem: ∀(j:Nat) (hj:j<l.length),j<k+1→(¬(flexOf l[k]=true∧ ∃e∈l[k].elems,FlexP l e.toNat))→ ¬(flexOf l[j]=true∧ ∃e∈l[j].elems,FlexP l e.toNat):=fun j hj hjk hn=>by
   by_cases hjk':j=k
   ·subst hjk';exact hn
   ·exact hz j hj (by omega)
  have hyes:flexOf l[k]=true→(∃e∈l[k].elems,FlexP l e.toNat)→C=7:=fun h1 h2=>by
   rw[if_pos ⟨l[k],hxm,h1,h2⟩] at hC;exact hC.symm
  have hgx:=hg _ hxm
  have hszx:=hsz _ hxm
  generalize l[k]=x at*
  simp
  obtain ⟨I2,hI2⟩: ∃I:Nat→AFrame→AMem→Prop,∀q a m',I q a m'↔(∃(z:Nat) (N:List Bool),z+q=x.elems.length∧a=h59_5 s t (.int .i64 k) (.int .i64 z)∧m<+:m'∧OwL AVal.bool lo m' 4 t N∧N.length=l.length∧(∀(j:Nat),N[j]? =some true→ ¬FlexP l j)∧ ∀(j:Nat) e,j<z→x.elems[j]? =some e→ ¬(flexOf x=true∧FlexP l e.toNat)):=⟨_,fun _ _ _=>Iff.rfl⟩
  refine W_loop I2 x.elems.length ((hI2 _ _ _).2 ⟨0,N,by simp,rfl,hm3,hN,hNl,hNs,fun _ _ h=>by omega⟩) ?_
  clear hm3 hN hNl hNs
  rintro p a m3 hIn
  obtain ⟨z,N,hk2,rfl,hm3,hN,hNl,hNs,hz2⟩:=(hI2 _ _ _).1 hIn
  clear hIn
  obtain ⟨h5a,h5b⟩:=h5 m3 hm3
  simp[h4,h5b,(he.mono hm3).len]
  refine bbind_dec (fun hzl=>?_) fun hzl=>?_
  ·have hw2:=step64 hzl hszx.1
   obtain ⟨p,rfl⟩: ∃p',p=p'+1:=⟨p-1,by omega⟩
   obtain ⟨b1,o1,hp1,hl1⟩:=(he.mono hm3).at hzl
   have hgy:=hgx _ (List.getElem_mem hzl)
   have hem:x.elems[z]∈x.elems:=List.getElem_mem hzl
   have hee:x.elems[z]? =some x.elems[z]:=List.getElem?_eq_getElem hzl
   generalize x.elems[z]=ek at*
   obtain ⟨j,rfl⟩: ∃j:Nat,ek=j:=⟨ek.toNat,by omega⟩
   have hj:j<l.length:=by omega
   have next: ∀(m':AMem) N',m<+:m'→OwL AVal.bool lo m' 4 t N'→N'.length=l.length→(∀(j:Nat),N'[j]? =some true→ ¬FlexP l j)→ ¬(flexOf x=true∧FlexP l j)→I2 p (h59_5 s t (.int .i64 k) (.int .i64 (z+1:Nat))) m':=fun m' N' h1 h2 h3 h4 hno=>by
    refine (hI2 _ _ _).2 ⟨z+1,N',by omega,rfl,h1,h2,h3,h4,fun j' e' hj' he'=>?_⟩
    by_cases hjz:j'=z
    ·subst hjz
     rw[hee] at he';cases he'
     simpa using hno
    ·exact hz2 j' e' (by omega) he'
   by_cases hfx:flexOf x=true
   rotate_left
   ·have hx12: ¬x.kind=12:=fun h=>hfx (by simp[flexOf,h])
    have hx13: ¬x.kind=13:=fun h=>hfx (by simp[flexOf,h])
    simp[h4,h5a,beqF hx12,beqF hx13,hw2]
    exact ⟨p,by omega,by simpa using next m3 N hm3 hN hNl hNs fun h=>hfx h.1⟩
   have call:=k109 s l m hs hg hac hn hsz lo hlo t (hgt l j+1) j hj (by omega) m3 N hm3 hN hNl hNs
   by_cases h12:x.kind=12
   ·simp[h4,h5a,h5b,h12,hp1,hl1]
    refine C_of call ?_
    rintro _ m4 ⟨hm4,⟨b,rfl,hbf⟩,_,N',hN',hNl',hNs'⟩
    simp
    refine bbind_intro (fun h1=>?_) fun h1=>?_
    ·simp[hm4]
     exact (hyes hfx ⟨_,hem,by simpa using hbf.1 h1⟩).symm
    ·simp[hw2]
     exact ⟨p,by omega,by simpa using next m4 N' hm4 hN' hNl' hNs' fun h=>by rw[hbf.2 h.2] at h1;cases h1⟩
   ·have h13:x.kind=13:=by simp[flexOf] at hfx;omega
    simp[h4,h5a,h5b,h13,hp1,hl1]
    refine C_of call ?_
    rintro _ m4 ⟨hm4,⟨b,rfl,hbf⟩,_,N',hN',hNl',hNs'⟩
    simp
    refine bbind_intro (fun h1=>?_) fun h1=>?_
    ·simp[hm4]
     exact (hyes hfx ⟨_,hem,by simpa using hbf.1 h1⟩).symm
    ·simp[hw2]
     exact ⟨p,by omega,by simpa using next m4 N' hm4 hN' hNl' hNs' fun h=>by rw[hbf.2 h.2] at h1;cases h1⟩
  ·simp[hw]
   refine ⟨q,by omega,(hI _ _ _).2 ⟨k+1,N,by omega,by simp,hm3,hN,hNl,hNs,fun j hj hjk=>hmem j hj hjk ?_⟩⟩
   rintro ⟨h1,e',he',h2⟩
   obtain ⟨j',hj',rfl⟩:=List.mem_iff_getElem.1 he'
   exact hz2 j' _ (by omega) (List.getElem?_eq_getElem hj') ⟨h1,h2⟩
 ·rw[if_neg] at hC
  ·simp[←hC,hm3]
  ·rintro ⟨x,hx,h1⟩
   obtain ⟨j,hj,rfl⟩:=List.mem_iff_getElem.1 hx
   exact hz j hj (by omega) h1
end Go.Proofs.YtlniliigcnedmaaGreatDoor
namespace Go.Proofs.YtlniliigcnedmaaGreatDoor
open Go Ax
open Relation
set_option maxRecDepth 100000
def isU (x:Md):Bool:=x.kind==12
theorem RIn.dropQ {l:List Md} {p:Md→Bool} {m:Nat} {S:List Bool} {Q:List Nat} {x k e:Nat} (h:RIn l p m S (Q++ [e]) x k) {y:Md} (hy:l[e]? =some y) (hp:p y=false):RIn l p m S Q x k where
 len:=h.len
 q:=fun z hz=>h.q z (List.mem_append_left _ hz)
 s:=h.s
 xr:=h.xr
 px:=h.px
 c:=fun z hz=>by
  rcases h.c z hz with h1|h1|h1
  ·rcases List.mem_append.1 h1 with h2|h2
   ·exact .inl h2
   ·rw[List.mem_singleton] at h2
    subst h2
    refine .inr (.inr fun w hw=>?_)
    obtain ⟨y',h3,h4,_⟩:=hw
    rw[hy] at h3;cases h3
    rw[hp] at h4;cases h4
  ·exact .inr (.inl h1)
  ·exact .inr (.inr h1)
 d:=h.d
def OutOk (l:List Md) (S:List Bool) (O:List Nat):Prop:=O.Nodup∧ ∀i,i∈O↔S[i]? =some true∧ ∀y,l[i]? =some y→isU y=false
def Ap (s t:AVal):Prop:= ∀b,s.blk=some b→t.blk≠some b
theorem Ap.symm {s t:AVal} (h:Ap s t):Ap t s:=fun b h1 h2=>h b h2 h1
set_option maxHeartbeats 4000000 in
theorem k78 (s:AVal) (l:List Md) (i:Nat) (hi:i<l.length) (hu:isU l[i]=true) (m:AMem) (hs:RTab m s l) (hg:goodT l) (hn:l.length≤512) (hsz: ∀x∈l,smallN x):
  ACalls Tryz.prog 78 [s,.int .i64 i,.nilslice] m fun v m'=>m<+:m'∧ ∃O,OwL natI m.length m' 3 v O∧O.Nodup∧ ∀j,j∈O↔TransGen (stepR l isU) i j∧ ∀y,l[j]? =some y→isU y=false:=by
 refine w78 ?_
 have hc1:(l.length:Int)≤281474976710656:=by omega
 have hc2:(l.length:Int)≤9223372036854775807:=by omega
 simp[hs.len,hc1,hc2]
 have hS0:=OwL.rep (f:=AVal.bool) m 4 l.length false
 have hm1:m<+:m++ [.own (List.replicate l.length (.bool false)) 4 none]:=List.prefix_append _ _
 have ha:(AVal.slice m.length 0 l.length l.length none).blk=some m.length:=rfl
 have hl1:(m++ [ABlk.own (List.replicate l.length (.bool false)) 4 none]).length=m.length+1:=by simp
 generalize AVal.slice m.length 0 l.length l.length none=t7 at*
 generalize m++ [.own (List.replicate l.length (.bool false)) 4 none]=m1 at*
 have hQ0:=OwL.new (f:=natI) m1 3 [i]
 simp[setN,fillA] at hQ0 ⊢
 obtain ⟨I,hI⟩: ∃I:Nat→AFrame→AMem→Prop,∀n a m',I n a m'↔(∃S Q O t7 t8 t2,cntF S+Q.length=n∧a=h78_0 s t2 t7 t8∧m<+:m'∧OwL AVal.bool m.length m' 4 t7 S∧OwL natI m.length m' 3 t8 Q∧OwL natI m.length m' 3 t2 O∧Ap t7 t8∧Ap t7 t2∧Ap t8 t2∧RInv l isU i S Q∧(∀z∈Q,∀y,l[z]? =some y→isU y=true)∧OutOk l S O∧O.length+cntF S≤l.length∧n≤l.length+1):=⟨_,fun _ _ _=>Iff.rfl⟩
 refine W_loop I (l.length+1) ((hI _ _ _).2 ⟨List.replicate l.length false,[i],[],t7,_,.nilslice,?_,rfl,hm1.trans (List.prefix_append _ _),hS0.mono (List.prefix_append _ _),OwL.lo' hQ0 (by omega),OwL.nil,?_,fun _ _ h=>(by cases h),fun _ _ h=>(by cases h),RInv.init hi,fun z hz y hy=>?_,⟨List.nodup_nil,fun j=>?_⟩,?_,by omega⟩) ?_
 ·simp[cntF]
 ·intro b hb
  rw[ha] at hb
  cases hb
  simp[AVal.blk,hl1]
 ·rw[List.mem_singleton] at hz
  subst hz
  rw[List.getElem?_eq_getElem hi] at hy;cases hy
  exact hu
 ·rw[List.getElem?_replicate]
  split<;>simp
 ·simp[cntF]
 rintro n a m2 hIn
 obtain ⟨S,Q,O,t7,t8,t2,hcnt,rfl,hm2,hS,hQ,hO,hap1,hap2,hap3,hinv,hQu,hOk,hOl,hnn⟩:=(hI _ _ _).1 hIn
 clear hIn
 simp[hQ.len]
 refine bbind_dec (fun h=>?_) fun h=>?_
 ·have hql:0<Q.length:=h
  obtain ⟨x,Q',rfl⟩: ∃x Q',Q=x::Q':=by
   cases Q with
   |nil=>simp at hql
   |cons x Q'=>exact ⟨x,Q',rfl⟩
  have hx:=hinv.q x List.mem_cons_self
  obtain ⟨b8,o8,_,h2,h3,_⟩:=hQ.at hql
  obtain ⟨bx',ox,c,h4,h5,_,_,h6⟩:=hs.atC hx.1
  replace h5:=loadE_mono hm2 h5
  obtain ⟨t8',h7,h8,h9⟩:=hQ.drop (i:=1) (by simp)
  simp at h2 h3 h7 h8
  simp[h2,h3,h4,h5,h7,hQ.len]
  have hcl:=h6.all
  rw[store_new _ _ c _ _ 6 hcl.1 rfl hcl.2]
  have hb:=readB_new m2 c 39 none
  have hm24:m2<+:m2++ [.own c 39 none]:=List.prefix_append _ _
  generalize m2++ [.own c 39 none]=m4 at*
  generalize m2.length=b9 at*
  obtain ⟨e,nm,c0,c1,c2,c3,c4,c5,he,hnm,rfl⟩:=h6.get
  have hQ': ∀z,z∈x::Q'↔z∈Q'∨z=x:=fun z=>by rw[List.mem_cons];exact Or.comm
  have hlx:l[x]? =some l[x]:=List.getElem?_eq_getElem hx.1
  have hxm:l[x]∈l:=List.getElem_mem hx.1
  have hms:=hm2.trans hm24
  have hin:=hinv.enter hQ' hlx (hQu x List.mem_cons_self _ hlx)
  have hQu': ∀z∈Q',∀y,l[z]? =some y→isU y=true:=fun z hz=>hQu z (List.mem_cons_of_mem _ hz)
  have hmu:cntF S+Q'.length+1=n:=by simp at hcnt;omega
  simp[h7,bx hb,(he.mono hms).len]
  obtain ⟨I2,hI2⟩: ∃I:Nat→AFrame→AMem→Prop,∀q a m',I q a m'↔(∃k S Q O t7 t8 t2,k+q=l[x].elems.length∧a=h78_1 s t2 t7 t8 e (.int .i64 l[x].elems.length) (.int .i64 (k:Nat))∧m<+:m'∧OwL AVal.bool m.length m' 4 t7 S∧OwL natI m.length m' 3 t8 Q∧OwL natI m.length m' 3 t2 O∧Ap t7 t8∧Ap t7 t2∧Ap t8 t2∧RIn l isU i S Q x k∧(∀z∈Q,∀y,l[z]? =some y→isU y=true)∧OutOk l S O∧O.length+cntF S≤l.length∧cntF S+Q.length+1≤n):=⟨_,fun _ _ _=>Iff.rfl⟩
  refine W_loop I2 l[x].elems.length ((hI2 _ _ _).2 ⟨0,S,Q',O,t7,t8',t2,by simp,rfl,hms,hS.mono hm24,OwL.mono h8 hm24,hO.mono hm24,by intro b hb;rw[h9];exact hap1 b hb,hap2,by intro b hb;rw[h9] at hb;exact hap3 b hb,hin,hQu',hOk,hOl,by omega⟩) ?_
  clear hin hmu hS hO hap1 hap2 hap3 hQu' hOk hOl
  rintro q a m5 hIn
  obtain ⟨k,S,Q,O,t7,t8,t2,hk,rfl,hm5,hS,hQ,hO,hap1,hap2,hap3,hin,hQu,hOk,hOl,hmu⟩:=(hI2 _ _ _).1 hIn
  clear hIn
  simp
  refine bbind_dec (fun h=>?_) fun h=>?_
  ·obtain ⟨b1,o1,hp1,hl1⟩:=(he.mono hm5).at h
   have hgx:=hg _ hxm _ (List.getElem_mem h)
   have hee:l[x].elems[k]? =some l[x].elems[k]:=List.getElem?_eq_getElem h
   have hw:=step64 h (hsz _ hxm).1
   obtain ⟨q,rfl⟩: ∃q',q=q'+1:=⟨q-1,by omega⟩
   revert hl1 hgx hee
   generalize l[x].elems[k]=ek
   intro hl1 hgx hee
   obtain ⟨j,rfl⟩: ∃j:Nat,ek=j:=⟨ek.toNat,by omega⟩
   have hj:j<S.length:=by rw[hin.len];omega
   have hjl:j<l.length:=by omega
   have hlj:l[j]? =some l[j]:=List.getElem?_eq_getElem hjl
   obtain ⟨b7,o7,hb7,hp7,hl7,hst7⟩:=hS.at hj
   -- the mark
   have mark: ∀m6 S' Q O t8 t2,m<+:m6→OwL AVal.bool m.length m6 4 t7 S→OwL natI m.length m6 3 t8 Q→OwL natI m.length m6 3 t2 O→Ap t7 t8→Ap t7 t2→Ap t8 t2→S'=S.set j true→RIn l isU i S' Q x (k+1)→(∀z∈Q,∀y,l[z]? =some y→isU y=true)→OutOk l S' O→O.length+cntF S'≤l.length→cntF S'+Q.length+1≤n→
     ∃m7,storeE m6 1 (.ptr b7 o7) (.bool true)=some (.undef,m7)∧I2 q (h78_1 s t2 t7 t8 e (.int .i64 l[x].elems.length) (.int .i64 (k+1:Nat))) m7:=by
    intro m6 S' Q O t8 t2 g1 g2 g3 g4 g5 g6 g7 g8 g9 g10 g11 g12 g13
    subst g8
    obtain ⟨b7',o7',hb7',hp7',_,hst7'⟩:=g2.at hj
    obtain ⟨rfl,rfl⟩:b7'=b7∧o7'=o7:=by have:=(hp7' .i64).symm.trans (hp7 .i64);simpa using this
    obtain ⟨m7,hst,hch,hS7⟩:=hst7' true
    exact ⟨m7,hst,(hI2 _ _ _).2 ⟨k+1,_,Q,O,t7,t8,t2,by omega,rfl,hch.pre g1 fun b hb=>by have:=(g2.blk_lo hb7').1;omega,hS7,g3.ch hch fun b hb hbb=>g5 b7' hb7' (by rw[←hbb];exact hb),g4.ch hch fun b hb hbb=>g6 b7' hb7' (by rw[←hbb];exact hb),g5,g6,g7,g9,g10,g11,g12,g13⟩⟩
   simp[hp1,hl1,hp7,hl7]
   by_cases hsj:S[j]=true
   ·have hset:S.set j true=S:=by
     refine List.ext_getElem? fun z=>?_
     rw[List.getElem?_set]
     split
     ·rename_i hz;subst hz;rw[List.getElem?_eq_getElem hj,hsj]
     ·rfl
    have hsj':S[(j:Int).toNat]? =some true:=by rw[Int.toNat_natCast,List.getElem?_eq_getElem hj,hsj]
    obtain ⟨m7,hst,hI7⟩:=mark m5 S Q O t8 t2 hm5 hS hQ hO hap1 hap2 hap3 hset.symm (hin.seen hlx hee hsj') hQu hOk hOl hmu
    simp[hsj,hp7,hst,hw]
    exact ⟨q,by omega,by simpa using hI7⟩
   ·have hsf:S[j]=false:=by simpa using hsj
    have hsf':S[j]? =some false:=by rw[List.getElem?_eq_getElem hj,hsf]
    have hcf:=cntF_set hsf'
    obtain ⟨bj,oj,ej,h10,h11,_⟩:=hs.elems hjl
    obtain ⟨h11a,_⟩:=h11 m5 hm5
    have hun:=hin.unseen hg hlx hee
    rw[Int.toNat_natCast] at hun
    have hOmem: ∀z,(S.set j true)[z]? =some true↔z=j∨S[z]? =some true:=fun z=>by
     constructor
     ·exact of_set
     ·rintro (rfl|h)
      ·rw[List.getElem?_set_self hj]
      ·exact set_true h
    have hm6:m5<+:m5++ [.own [.int .i64 (j:Int)] 3 none]:=List.prefix_append _ _
    have hml:m.length≤(m5++ [ABlk.own [.int .i64 (j:Int)] 3 none]).length:=by have:=hm5.length_le;simp;omega
    by_cases hju:isU l[j]=true
    ·have hk12:l[j].kind=12:=by simpa[isU] using hju
     obtain ⟨t8'',m8,happ,hch8,hQ8,hbl⟩:=(hQ.mono hm6).push hml (by_:=8) (by decide) j (by omega)
     simp only[natI] at happ
     obtain ⟨m9,hst,hI9⟩:=mark m8 _ (Q++ [j]) O t8'' t2 (hch8.pre (hm5.trans hm6) fun b hb hbb=>by have:=(hQ.blk_lo hbb).1;omega) ((hS.mono hm6).ch hch8 fun b hb hbb=>hap1 b hb hbb) hQ8 ((hO.mono hm6).ch hch8 fun b hb hbb=>hap3 b hbb hb)
      (fun b hb hbb=>by
       rcases hbl b hbb with h1|h1
       ·exact hap1 b hb h1
       ·have:=(hS.blk_lo hb).2;simp at h1;omega)
      hap2
      (fun b hb hbb=>by
       rcases hbl b hb with h1|h1
       ·exact hap3 b h1 hbb
       ·have:=(hO.blk_lo hbb).2;simp at h1;omega)
      rfl hun (fun z hz y hy=>by
       rcases List.mem_append.1 hz with hz|hz
       ·exact hQu z hz y hy
       ·rw[List.mem_singleton] at hz;subst hz;rw[hlj] at hy;cases hy;exact hju)
      ⟨hOk.1,fun z=>by
       rw[hOk.2,hOmem]
       constructor
       ·rintro ⟨h1,h2⟩;exact ⟨.inr h1,h2⟩
       ·rintro ⟨rfl|h1,h2⟩
        ·have:=h2 _ hlj;rw[hju] at this;cases this
        ·exact ⟨h1,h2⟩⟩ (by omega) (by simp;omega)
     simp[hsf,h10,h11a,hk12,fillA,setN,happ,hp7,hst,hw]
     exact ⟨q,by omega,by simpa using hI9⟩
    ·have hju:isU l[j]=false:=by simpa using hju
     have hk12: ¬l[j].kind=12:=by simpa[isU] using hju
     obtain ⟨t2'',m8,happ,hch8,hO8,hbl⟩:=(hO.mono hm6).push hml (by_:=8) (by decide) j (by omega)
     simp only[natI] at happ
     have hjO:j∉O:=fun h=>by have:=((hOk.2 j).1 h).1;rw[hsf'] at this;cases this
     obtain ⟨m9,hst,hI9⟩:=mark m8 _ Q (O++ [j]) t8 t2'' (hch8.pre (hm5.trans hm6) fun b hb hbb=>by have:=(hO.blk_lo hbb).1;omega) ((hS.mono hm6).ch hch8 fun b hb hbb=>hap2 b hb hbb) ((hQ.mono hm6).ch hch8 fun b hb hbb=>hap3 b hb hbb) hO8
      hap1
      (fun b hb hbb=>by
       rcases hbl b hbb with h1|h1
       ·exact hap2 b hb h1
       ·have:=(hS.blk_lo hb).2;simp at h1;omega)
      (fun b hb hbb=>by
       rcases hbl b hbb with h1|h1
       ·exact hap3 b hb h1
       ·have:=(hQ.blk_lo hb).2;simp at h1;omega)
      rfl (hun.dropQ hlj hju) hQu
      ⟨List.nodup_append.2 ⟨hOk.1,by simp,fun a ha b hb=>by rw[List.mem_singleton] at hb;subst hb;exact fun h=>hjO (h▸ha)⟩,fun z=>by
       rw[List.mem_append,List.mem_singleton,hOk.2,hOmem]
       constructor
       ·rintro (⟨h1,h2⟩|rfl)
        ·exact ⟨.inr h1,h2⟩
        ·exact ⟨.inl rfl,fun y hy=>by rw[hlj] at hy;cases hy;exact hju⟩
       ·rintro ⟨rfl|h1,h2⟩
        ·exact .inr rfl
        ·exact .inl ⟨h1,h2⟩⟩ (by simp;omega) (by omega)
     simp[hsf,h10,h11a,beqF hk12,fillA,setN,happ,hp7,hst,hw]
     exact ⟨q,by omega,by simpa using hI9⟩
  ·simp
   refine ⟨cntF S+Q.length,by omega,(hI _ _ _).2 ⟨S,Q,O,t7,t8,t2,rfl,by simp,hm5,hS,hQ,hO,hap1,hap2,hap3,hin.leave fun y hy=>?_,hQu,hOk,hOl,by omega⟩⟩
   rw[hlx] at hy;cases hy
   omega
 ·obtain rfl:Q= []:=by
   cases Q with
   |nil=>rfl
   |cons _ _=>simp at h
  simp
  exact ⟨hm2,O,hO,hOk.1,fun j=>by rw[hOk.2,hinv.done]⟩
end Go.Proofs.YtlniliigcnedmaaGreatDoor
namespace Go.Proofs.YtlniliigcnedmaaGreatDoor
open Go Ax
structure OrdG {α:Type} (c:α→α→Int) (D:α→Prop):Prop where
 anti: ∀a b,D a→D b→(c a b<0↔0<c b a)
 trans: ∀a b d,D a→D b→D d→c a b≤0→c b d≤0→c a d≤0
section
variable {α β:Type} {c c1 c2:α→α→Int} {D:α→Prop}
theorem OrdG.zero (h:OrdG c D) {a b:α} (ha:D a) (hb:D b):c a b=0↔c b a=0:=by
 have h1:=h.anti a b ha hb
 have h2:=h.anti b a hb ha
 omega
theorem OrdG.self (h:OrdG c D) {a:α} (ha:D a):c a a=0:=by have:=h.anti a a ha ha;omega
theorem OrdG.ge (h:OrdG c D) {a b:α} (ha:D a) (hb:D b):0≤c a b↔c b a≤0:=by
 have h1:=h.anti a b ha hb
 have h2:=h.anti b a hb ha
 omega
theorem OrdG.lt_le (h:OrdG c D) {a b d:α} (ha:D a) (hb:D b) (hd:D d) (h1:c a b<0) (h2:c b d≤0):c a d<0:=by
 have h3:=h.trans a b d ha hb hd (by omega) h2
 by_cases h4:c a d=0
 ·have h5:=(h.zero ha hd).1 h4
  have h6:=h.trans b d a hb hd ha h2 (by omega)
  have:=h.anti a b ha hb
  omega
 ·omega
theorem OrdG.le_lt (h:OrdG c D) {a b d:α} (ha:D a) (hb:D b) (hd:D d) (h1:c a b≤0) (h2:c b d<0):c a d<0:=by
 have h3:=h.trans a b d ha hb hd h1 (by omega)
 by_cases h4:c a d=0
 ·have h5:=(h.zero ha hd).1 h4
  have h6:=h.trans d a b hd ha hb (by omega) h1
  have:=h.anti b d hb hd
  omega
 ·omega
def thenC (c1 c2:α→α→Int) (a b:α):Int:=if c1 a b≠0 then c1 a b else c2 a b
theorem OrdG.then (h1:OrdG c1 D) (h2:OrdG c2 D):OrdG (thenC c1 c2) D:=by
 refine ⟨fun a b ha hb=>?_,fun a b d ha hb hd k1 k2=>?_⟩
 ·have e1:=h1.anti a b ha hb
  have e2:=h1.zero ha hb
  have e3:=h2.anti a b ha hb
  unfold thenC
  by_cases h:c1 a b=0
  ·have h':=e2.1 h
   simp[h,h',e3]
  ·have h': ¬c1 b a=0:=fun x=>h (e2.2 x)
   simp[h,h',e1]
 ·unfold thenC at k1 k2 ⊢
  have t1:=h1.trans a b d ha hb hd
  by_cases hab:c1 a b=0
  ·by_cases hbd:c1 b d=0
   ·have had:c1 a d=0:=by
     have u1:=t1 (by omega) (by omega)
     have u2:=h1.trans d b a hd hb ha (by have:=(h1.zero hb hd).1 hbd;omega) (by have:=(h1.zero ha hb).1 hab;omega)
     have:=h1.ge ha hd
     omega
    simp[hab] at k1
    simp[hbd] at k2
    simp[had]
    exact h2.trans a b d ha hb hd k1 k2
   ·simp[hbd] at k2
    have:=h1.le_lt ha hb hd (by omega) (by omega:c1 b d<0)
    simp[show ¬c1 a d=0 by omega];omega
  ·simp[hab] at k1
   by_cases hbd:c1 b d=0
   ·have:=h1.lt_le ha hb hd (by omega:c1 a b<0) (by omega)
    simp[show ¬c1 a d=0 by omega];omega
   ·simp[hbd] at k2
    have:=h1.lt_le ha hb hd (by omega:c1 a b<0) (by omega)
    simp[show ¬c1 a d=0 by omega];omega
theorem OrdG.pull {E:β→Prop} (h:OrdG c D) (f:β→α) (hf: ∀x,E x→D (f x)):OrdG (fun a b=>c (f a) (f b)) E:=
 ⟨fun a b ha hb=>h.anti _ _ (hf a ha) (hf b hb),fun a b d ha hb hd=>h.trans _ _ _ (hf a ha) (hf b hb) (hf d hd)⟩
theorem cmpI_ordG:OrdG cmpI (fun _=>True):=⟨cmpI_ord.anti,cmpI_ord.trans⟩
theorem OrdG.lex (h:OrdG c D):OrdG (lexC c) (fun xs=> ∀x∈xs,D x):=by
 have anti: ∀xs ys:List α,(∀x∈xs,D x)→(∀x∈ys,D x)→(lexC c xs ys<0↔0<lexC c ys xs):=by
  intro xs
  induction xs with
  |nil=>intro ys _ _;cases ys<;>simp[lexC]
  |cons x xs ih=>
   intro ys hx hy
   cases ys with
   |nil=>simp[lexC]
   |cons y ys=>
    have dx:=hx x List.mem_cons_self
    have dy:=hy y List.mem_cons_self
    have:=ih ys (fun z hz=>hx z (List.mem_cons_of_mem _ hz)) (fun z hz=>hy z (List.mem_cons_of_mem _ hz))
    simp only[lexC]
    by_cases h0:c x y=0
    ·have h0':=(h.zero dx dy).1 h0
     simp[h0,h0',this]
    ·have h0': ¬c y x=0:=fun e=>h0 ((h.zero dx dy).2 e)
     simp[h0,h0',h.anti x y dx dy]
 refine ⟨anti,fun xs=>?_⟩
 induction xs with
 |nil=>
  intro ys zs _ _ _ h1 h2
  cases zs<;>simp[lexC]
 |cons x xs ih=>
  intro ys zs hx hy hz h1 h2
  cases ys with
  |nil=>simp[lexC] at h1
  |cons y ys=>
   cases zs with
   |nil=>simp[lexC] at h2
   |cons z zs=>
    have dx:=hx x List.mem_cons_self
    have dy:=hy y List.mem_cons_self
    have dz:=hz z List.mem_cons_self
    have ih':=ih ys zs (fun z hz=>hx z (List.mem_cons_of_mem _ hz)) (fun z hz=>hy z (List.mem_cons_of_mem _ hz)) (fun w hw=>hz w (List.mem_cons_of_mem _ hw))
    simp only[lexC] at h1 h2 ⊢
    by_cases hxy:c x y=0
    ·by_cases hyz:c y z=0
     ·have hxz:c x z=0:=by
       have u1:=h.trans x y z dx dy dz (by omega) (by omega)
       have u2:=h.trans z y x dz dy dx (by have:=(h.zero dy dz).1 hyz;omega) (by have:=(h.zero dx dy).1 hxy;omega)
       have:=h.ge dx dz
       omega
      simp[hxy] at h1
      simp[hyz] at h2
      simp[hxz]
      exact ih' h1 h2
     ·simp[hyz] at h2
      have:=h.le_lt dx dy dz (by omega) (by omega:c y z<0)
      simp[show ¬c x z=0 by omega];omega
    ·simp[hxy] at h1
     by_cases hyz:c y z=0
     ·have:=h.lt_le dx dy dz (by omega:c x y<0) (by omega)
      simp[show ¬c x z=0 by omega];omega
     ·simp[hyz] at h2
      have:=h.lt_le dx dy dz (by omega:c x y<0) (by omega)
      simp[show ¬c x z=0 by omega];omega
end
def cmpB (a b:UInt8):Int:=cmpI a.toNat b.toNat
theorem cmpB_ord:OrdG cmpB (fun _=>True):=cmpI_ordG.pull (fun a:UInt8=>(a.toNat:Int)) fun _ _=>trivial
theorem bytes_lex: ∀(x y:List UInt8),(Op.bytesLess x y=true↔lexC cmpB x y<0)∧(x=y↔lexC cmpB x y=0)
 | [],[]=>by simp[Op.bytesLess,lexC]
 | [],_::_=>by simp[Op.bytesLess,lexC]
 |_::_,[]=>by simp[Op.bytesLess,lexC]
 |a::x,b::y=>by
  have ih:=bytes_lex x y
  have e:a=b↔cmpB a b=0:=by
   unfold cmpB
   rw[cmpI_zero]
   constructor
   ·rintro rfl;rfl
   ·intro h;exact UInt8.toNat_inj.1 (by omega)
  have hlt:a<b↔cmpB a b<0:=by
   unfold cmpB
   rw[cmpI_lt,UInt8.lt_iff_toNat_lt]
   omega
  simp only[Op.bytesLess,lexC]
  by_cases h:cmpB a b=0
  ·have hab:=e.2 h
   subst hab
   have hn: ¬a<a:=fun h'=>by have:=hlt.1 h';omega
   simp[h,ih.1,ih.2]
  ·have hab:a≠b:=fun h'=>h (e.1 h')
   simp[h,hab,hlt]
theorem cmpS_eq (a b:ByteArray):cmpS a b=lexC cmpB a.toList b.toList:=by
 obtain ⟨h1,h2⟩:=bytes_lex a.toList b.toList
 have hr: ∀xs ys:List UInt8,lexC cmpB xs ys= -1∨lexC cmpB xs ys=0∨lexC cmpB xs ys=1:=by
  intro xs
  induction xs with
  |nil=>intro ys;cases ys<;>simp[lexC]
  |cons x xs ih=>
   intro ys
   cases ys with
   |nil=>simp[lexC]
   |cons y ys=>
    simp only[lexC]
    by_cases h:cmpB x y=0
    ·simp[h];exact ih ys
    ·simp[h]
     unfold cmpB cmpI at*
     split<;>(try split)<;>simp_all
 unfold cmpS
 have h3:=hr a.toList b.toList
 cases h:Op.bytesLess a.toList b.toList
 ·have hn: ¬lexC cmpB a.toList b.toList<0:=fun h'=>by rw[h1.2 h'] at h;cases h
  by_cases he:a.toList=b.toList
  ·have:=h2.1 he
   simp[he] at this ⊢
   omega
  ·have: ¬lexC cmpB a.toList b.toList=0:=fun h'=>he (h2.2 h')
   simp[he]
   omega
 ·have:=h1.1 h
  simp
  omega
theorem cmpS_ord:OrdG cmpS (fun _=>True):=by
 have:=(cmpB_ord.lex).pull (fun a:ByteArray=>a.toList) (E:=fun _=>True) fun _ _ _ _=>trivial
 refine ⟨fun a b ha hb=>by rw[cmpS_eq,cmpS_eq];exact this.anti a b ha hb,fun a b d ha hb hd=>by rw[cmpS_eq,cmpS_eq,cmpS_eq];exact this.trans a b d ha hb hd⟩
def lenK (x:Md):Int:=if x.kind=12 then 0 else x.elems.length
def pullC (f:Md→Int) (x y:Md):Int:=cmpI (f x) (f y)
theorem pullC_ord (f:Md→Int):OrdG (pullC f) (fun _=>True):=cmpI_ordG.pull f fun _ _=>trivial
theorem firstC_eq (x y:Md):firstC x y=thenC (pullC Md.kind) (thenC (pullC Md.size) (thenC (pullC Md.dims) (thenC (pullC fun x=>bi x.flex) (thenC (pullC lenK) fun x y=>lexC cmpS x.names y.names)))) x y:=by
 unfold firstC firstL thenC pullC
 simp only[firstNZ_cons]
 have h0:firstNZ []=0:=rfl
 rw[h0]
 by_cases hk:cmpI x.kind y.kind=0
 ·have hkk:x.kind=y.kind:=cmpI_zero.1 hk
  have hl:lenC x y=cmpI (lenK x) (lenK y):=by
   unfold lenC lenK
   rw[←hkk]
   split
   ·rfl
   ·rfl
  rw[hl]
  generalize cmpI (lenK x) (lenK y)=a5
  generalize lexC cmpS x.names y.names=a6
  by_cases h6:a6=0<;>simp[h6]
 ·simp[hk]
theorem firstC_ord:OrdG firstC (fun _=>True):=by
 have h:=(pullC_ord Md.kind).then ((pullC_ord Md.size).then ((pullC_ord Md.dims).then ((pullC_ord fun x=>bi x.flex).then ((pullC_ord lenK).then ((cmpS_ord.lex).pull (fun x:Md=>x.names) (E:=fun _=>True) fun _ _ _ _=>trivial)))))
 refine ⟨fun a b ha hb=>by rw[firstC_eq,firstC_eq];exact h.anti a b ha hb,fun a b d ha hb hd=>by rw[firstC_eq,firstC_eq,firstC_eq];exact h.trans a b d ha hb hd⟩
end Go.Proofs.YtlniliigcnedmaaGreatDoor
namespace Go.Proofs.YtlniliigcnedmaaGreatDoor
open Go Ax
open Relation
def mdAt (l:List Md) (a:Nat):Md:=(l[a]?).getD ⟨0,0,[],[],0,false⟩
theorem mdAt_eq {l:List Md} {a:Nat} (h:a<l.length):mdAt l a=l[a]:=by simp[mdAt,h]
def IsPart (l:List Md) (m j:Nat):Prop:=TransGen (stepR l isU) m j∧ ∀y,l[j]? =some y→isU y=false
theorem IsPart.lt {l:List Md} (hg:goodT l) {m j:Nat} (h:IsPart l m j):j<l.length:=by
 have:=h.1
 cases this with
 |single h1=>obtain ⟨x,h2,_,h3⟩:=h1;have:=hg x (List.mem_of_getElem? h2) _ h3;omega
 |tail _ h1=>obtain ⟨x,h2,_,h3⟩:=h1;have:=hg x (List.mem_of_getElem? h2) _ h3;omega
open Classical in
noncomputable def keyOf (l:List Md) (r:Nat→Nat) (m:Nat):List Int:=
 if isU (mdAt l m) then ((List.range l.length).filter fun v=>decide (∃j,IsPart l m j∧r j=v)).map fun v:Nat=>(v:Int)
 else (mdAt l m).elems.map fun e=>(r e.toNat:Int)
noncomputable def cmpR (l:List Md) (r:Nat→Nat) (d:Nat) (a b:Nat):Int:=
 thenC (fun a b=>cmpI (r a) (r b)) (fun a b=>if d=0 then firstC (mdAt l a) (mdAt l b) else lexC cmpI (keyOf l r a) (keyOf l r b)) a b
def cntC (n:Nat) (c:Nat→Nat→Int) (i:Nat):Nat:=(List.range n).countP fun j=>decide (c j i<0)
noncomputable def R (l:List Md):Nat→Nat→Nat
 |0,_=>0
 |d+1,i=>cntC l.length (cmpR l (R l d) d) i
noncomputable def RR (l:List Md):Nat→Nat:=R l (l.length+1)
theorem cmpR_ord (l:List Md) (r:Nat→Nat) (d:Nat):OrdG (cmpR l r d) (fun _=>True):=by
 have h1:OrdG (fun a b:Nat=>cmpI (r a) (r b)) (fun _=>True):=cmpI_ordG.pull (fun a:Nat=>(r a:Int)) fun _ _=>trivial
 by_cases hd:d=0
 ·have h2:OrdG (fun a b:Nat=>firstC (mdAt l a) (mdAt l b)) (fun _=>True):=firstC_ord.pull (mdAt l) fun _ _=>trivial
  have:=h1.then h2
  unfold cmpR
  simpa[hd] using this
 ·have h2:OrdG (fun a b:Nat=>lexC cmpI (keyOf l r a) (keyOf l r b)) (fun _=>True):=(cmpI_ordG.lex).pull (keyOf l r) fun _ _ _ _=>trivial
  have:=h1.then h2
  unfold cmpR
  simpa[hd] using this
theorem cntC_lt {n:Nat} {c:Nat→Nat→Int} (h:OrdG c (fun _=>True)) {a b:Nat} (ha:a<n):cntC n c a<cntC n c b↔c a b<0:=by
 constructor
 ·intro hlt
  by_cases hc:c a b<0
  ·exact hc
  ·exfalso
   have hba:c b a≤0:=(h.ge trivial trivial).1 (by omega)
   have:cntC n c b≤cntC n c a:=List.countP_mono_left fun j _ hj=>by
    simp only[decide_eq_true_eq] at hj ⊢
    exact h.lt_le trivial trivial trivial hj hba
   omega
 ·intro hc
  refine countP_lt (x:=a) (fun j _ hj=>?_) (List.mem_range.2 ha) ?_ ?_
  ·simp only[decide_eq_true_eq] at hj ⊢
   exact h.lt_le trivial trivial trivial hj (by omega)
  ·have:=h.self (a:=a) trivial
   simp;omega
  ·simpa using hc
theorem R_lt (l:List Md) (d:Nat) {a b:Nat} (ha:a<l.length):R l (d+1) a<R l (d+1) b↔cmpR l (R l d) d a b<0:=cntC_lt (cmpR_ord l (R l d) d) ha
theorem R_bound (l:List Md) (d:Nat) {a:Nat} (ha:a<l.length):R l d a<l.length:=by
 cases d with
 |zero=>simp only[R];omega
 |succ d=>
  have h:(List.range l.length).countP (fun j=>decide (cmpR l (R l d) d j a<0))<(List.range l.length).countP fun _=>true:=by
   refine countP_lt (x:=a) (fun _ _ _=>rfl) (List.mem_range.2 ha) ?_ rfl
   have:=(cmpR_ord l (R l d) d).self (a:=a) trivial
   simp;omega
  simpa[R,cntC] using h
theorem R_refine (l:List Md) (d:Nat) {a b:Nat} (ha:a<l.length) (h:R l d a<R l d b):R l (d+1) a<R l (d+1) b:=by
 rw[R_lt l d ha]
 unfold cmpR thenC
 have:cmpI (R l d a) (R l d b)<0:=cmpI_lt.2 (by omega)
 simp only
 rw[if_pos (by omega)]
 exact this
structure IsKey (l:List Md) (r:Nat→Nat) (m:Nat) (K:List Int):Prop where
 un:isU (mdAt l m)=true→K.Pairwise (· < ·)∧ ∀v,v∈K↔ ∃j,IsPart l m j∧(r j:Int)=v
 el:isU (mdAt l m)=false→K=(mdAt l m).elems.map fun e=>(r e.toNat:Int)
theorem keyOf_isKey {l:List Md} (hg:goodT l) {r:Nat→Nat} (hr: ∀a,a<l.length→r a<l.length) (m:Nat):IsKey l r m (keyOf l r m):=by
 refine ⟨fun hu=>?_,fun hu=>?_⟩
 ·unfold keyOf
  rw[if_pos hu]
  refine ⟨?_,fun v=>?_⟩
  ·refine List.Pairwise.map _ (R:=fun a b:Nat=>a<b) (fun a b hab=>by omega) ?_
   exact List.Pairwise.filter _ List.pairwise_lt_range
  ·simp only[List.mem_map,List.mem_filter,List.mem_range,decide_eq_true_eq]
   constructor
   ·rintro ⟨w,⟨_,j,h1,h2⟩,rfl⟩
    exact ⟨j,h1,by rw[h2]⟩
   ·rintro ⟨j,h1,rfl⟩
    exact ⟨r j,⟨hr j (h1.lt hg),j,h1,rfl⟩,rfl⟩
 ·unfold keyOf
  rw[if_neg (by rw[hu];simp)]
theorem pw_ext: ∀{xs ys:List Int},xs.Pairwise (· < ·)→ys.Pairwise (· < ·)→(∀v,v∈xs↔v∈ys)→xs=ys
 | [],[],_,_,_=>rfl
 | [],y::ys,_,_,h=>by have:=(h y).2 List.mem_cons_self;cases this
 |x::xs,[],_,_,h=>by have:=(h x).1 List.mem_cons_self;cases this
 |x::xs,y::ys,hx,hy,h=>by
  rw[List.pairwise_cons] at hx hy
  have hxy:x=y:=by
   have h1:=(h x).1 List.mem_cons_self
   have h2:=(h y).2 List.mem_cons_self
   rcases List.mem_cons.1 h1 with h1|h1
   ·exact h1
   ·rcases List.mem_cons.1 h2 with h2|h2
    ·exact h2.symm
    ·have:=hy.1 x h1
     have:=hx.1 y h2
     omega
  subst hxy
  rw[pw_ext hx.2 hy.2 fun v=>?_]
  constructor
  ·intro hv
   rcases List.mem_cons.1 ((h v).1 (List.mem_cons_of_mem _ hv)) with rfl|h1
   ·have:=hx.1 v hv;omega
   ·exact h1
  ·intro hv
   rcases List.mem_cons.1 ((h v).2 (List.mem_cons_of_mem _ hv)) with rfl|h1
   ·have:=hy.1 v hv;omega
   ·exact h1
def SameOrd (n:Nat) (r r':Nat→Nat):Prop:= ∀a b,a<n→b<n→(r a<r b↔r' a<r' b)
theorem SameOrd.cmp {n:Nat} {r r':Nat→Nat} (h:SameOrd n r r') {a b:Nat} (ha:a<n) (hb:b<n):cmpI (r a) (r b)=cmpI (r' a) (r' b):=by
 have h1:=h a b ha hb
 have h2:=h b a hb ha
 have c1:((r a:Int)<r b)↔((r' a:Int)<r' b):=by omega
 have c2:((r b:Int)<r a)↔((r' b:Int)<r' a):=by omega
 simp only[cmpI,c1,c2]
theorem IsKey.reps {l:List Md} (hg:goodT l) {r r':Nat→Nat} (h:SameOrd l.length r r') {m:Nat} (hm:m<l.length) {K K':List Int} (hK:IsKey l r m K) (hK':IsKey l r' m K'): ∃us:List Nat,(∀u∈us,u<l.length)∧K=us.map (fun u=>(r u:Int))∧K'=us.map (fun u=>(r' u:Int)):=by
 cases hu:isU (mdAt l m)
 ·refine ⟨(mdAt l m).elems.map Int.toNat,fun u hu=>?_,by rw[hK.el hu,List.map_map];rfl,by rw[hK'.el hu,List.map_map];rfl⟩
  obtain ⟨e,he,rfl⟩:=List.mem_map.1 hu
  rw[mdAt_eq hm] at he
  have:=hg _ (List.getElem_mem hm) e he
  omega
 ·obtain ⟨h1,h2⟩:=hK.un hu
  obtain ⟨h3,h4⟩:=hK'.un hu
  -- a part for each value
  have hrep: ∀L:List Int,(∀v∈L,∃j,IsPart l m j∧(r j:Int)=v)→ ∃us:List Nat,(∀u∈us,IsPart l m u)∧L=us.map (fun u=>(r u:Int)):=by
   intro L
   induction L with
   |nil=>intro _;exact ⟨[],by simp,rfl⟩
   |cons v L ih=>
    intro hv
    obtain ⟨j,h5,h6⟩:=hv v List.mem_cons_self
    obtain ⟨us,h7,h8⟩:=ih fun w hw=>hv w (List.mem_cons_of_mem _ hw)
    exact ⟨j::us,fun u hu=>(List.mem_cons.1 hu).elim (fun e=>e▸h5) (h7 u),by rw[List.map_cons,←h8,h6]⟩
  obtain ⟨us,h5,h6⟩:=hrep K fun v hv=>(h2 v).1 hv
  refine ⟨us,fun u hu=>(h5 u hu).lt hg,h6,pw_ext h3 ?_ fun v=>?_⟩
  ·rw[h6,List.pairwise_map] at h1
   rw[List.pairwise_map]
   refine List.Pairwise.imp_of_mem (fun {a b} ha hb hab=>?_) h1
   have:=(h a b ((h5 a ha).lt hg) ((h5 b hb).lt hg)).1 (by omega)
   omega
  ·rw[h4]
   constructor
   ·rintro ⟨j,h7,rfl⟩
    have:(r j:Int)∈K:=(h2 _).2 ⟨j,h7,rfl⟩
    rw[h6] at this
    obtain ⟨u,h8,h9⟩:=List.mem_map.1 this
    have hju:=(h5 u h8).lt hg
    have hjl:=h7.lt hg
    have e1:=h j u hjl hju
    have e2:=h u j hju hjl
    refine List.mem_map.2 ⟨u,h8,?_⟩
    have n1: ¬r' j<r' u:=fun x=>by have:=e1.2 x;omega
    have n2: ¬r' u<r' j:=fun x=>by have:=e2.2 x;omega
    omega
   ·intro hv
    obtain ⟨u,h8,rfl⟩:=List.mem_map.1 hv
    exact ⟨u,h5 u h8,rfl⟩
theorem lex_same {n:Nat} {r r':Nat→Nat} (h:SameOrd n r r'): ∀{us vs:List Nat},(∀u∈us,u<n)→(∀u∈vs,u<n)→lexC cmpI (us.map fun u=>(r u:Int)) (vs.map fun u=>(r u:Int))=lexC cmpI (us.map fun u=>(r' u:Int)) (vs.map fun u=>(r' u:Int))
 | [],[],_,_=>rfl
 | [],_::_,_,_=>rfl
 |_::_,[],_,_=>rfl
 |u::us,v::vs,h1,h2=>by
  simp only[List.map_cons,lexC]
  rw[h.cmp (h1 u List.mem_cons_self) (h2 v List.mem_cons_self),lex_same h (fun u hu=>h1 u (List.mem_cons_of_mem _ hu)) (fun u hu=>h2 u (List.mem_cons_of_mem _ hu))]
theorem IsKey.cmp {l:List Md} (hg:goodT l) {r r':Nat→Nat} (h:SameOrd l.length r r') {a b:Nat} (ha:a<l.length) (hb:b<l.length) {K K' L L':List Int} (hK:IsKey l r a K) (hK':IsKey l r' a K') (hL:IsKey l r b L) (hL':IsKey l r' b L'):lexC cmpI K L=lexC cmpI K' L':=by
 obtain ⟨us,h1,rfl,rfl⟩:=hK.reps hg h ha hK'
 obtain ⟨vs,h2,rfl,rfl⟩:=hL.reps hg h hb hL'
 exact lex_same h h1 h2
theorem SameOrd.refl (n:Nat) (r:Nat→Nat):SameOrd n r r:=fun _ _ _ _=>Iff.rfl
theorem next_same {l:List Md} (hg:goodT l) {d:Nat} (hd:d≠0) {r:Nat→Nat} (h:SameOrd l.length r (R l d)) {a b:Nat} (ha:a<l.length) (hb:b<l.length) {K L:List Int} (hK:IsKey l r a K) (hL:IsKey l r b L):
  thenC (fun a b=>cmpI (r a) (r b)) (fun _ _=>lexC cmpI K L) a b=cmpR l (R l d) d a b:=by
 have h1:=h.cmp ha hb
 have h2:=IsKey.cmp hg h ha hb hK (keyOf_isKey hg (fun _ h=>R_bound l d h) a) hL (keyOf_isKey hg (fun _ h=>R_bound l d h) b)
 unfold cmpR thenC
 simp only[h1,h2,if_neg hd]
theorem R_count (l:List Md) (d:Nat) {i:Nat}:R l (d+1) i=cntC l.length (fun a b=>if R l (d+1) a<R l (d+1) b then-1 else 0) i:=by
 conv=>lhs;rw[R]
 unfold cntC
 refine List.countP_congr fun j hj=>?_
 have hj:=List.mem_range.1 hj
 simp only[decide_eq_true_eq]
 rw[←R_lt l d hj]
 split<;>simp_all
theorem R_stable {l:List Md} (hg:goodT l) {d:Nat} (hd:d≠0) (h:SameOrd l.length (R l (d+1)) (R l d)): ∀e,∀a,a<l.length→R l (d+e) a=R l d a:=by
 have step: ∀f,f≠0→(∀a,a<l.length→R l f a=R l d a)→SameOrd l.length (R l (f+1)) (R l (d+1)):=by
  intro f hf hfd a b ha hb
  rw[R_lt l f ha,R_lt l d ha]
  have hs:SameOrd l.length (R l f) (R l d):=fun a b ha hb=>by rw[hfd a ha,hfd b hb]
  have:=next_same hg hd hs ha hb (keyOf_isKey hg (fun _ h=>R_bound l f h) a) (keyOf_isKey hg (fun _ h=>R_bound l f h) b)
  rw[←this]
  unfold cmpR
  rw[show (fun a b=>if f=0 then firstC (mdAt l a) (mdAt l b) else lexC cmpI (keyOf l (R l f) a) (keyOf l (R l f) b))=fun a b=>lexC cmpI (keyOf l (R l f) a) (keyOf l (R l f) b) by funext a b;rw[if_neg hf]]
  unfold thenC
  exact Iff.rfl
 have same_eq: ∀f g,f≠0→g≠0→SameOrd l.length (R l f) (R l g)→ ∀a,a<l.length→R l f a=R l g a:=by
  intro f g hf hg' hs a ha
  obtain ⟨f,rfl⟩: ∃f',f=f'+1:=⟨f-1,by omega⟩
  obtain ⟨g,rfl⟩: ∃g',g=g'+1:=⟨g-1,by omega⟩
  rw[R_count,R_count]
  unfold cntC
  refine List.countP_congr fun j hj=>?_
  have hj:=List.mem_range.1 hj
  have:=hs j a hj ha
  simp only[this]
 intro e
 induction e with
 |zero=>intro a _;rfl
 |succ e ih=>
  intro a ha
  refine same_eq (d+e+1) d (by omega) hd ?_ a ha
  intro x y hx hy
  rw[step (d+e) (by omega) ih x y hx hy]
  exact h x y hx hy
theorem DenseOf.low {n k k':Nat} {lt lt':Nat→Nat→Prop} {ds ds':List Nat} (h:DenseOf n lt ds k) (h':DenseOf n lt' ds' k') (hr: ∀a b,a<n→b<n→lt a b→lt' a b): ∀(x a x':Nat),ds[a]? =some x→ds'[a]? =some x'→x≤x':=by
 intro x
 induction x with
 |zero=>intro _ _ _ _;omega
 |succ x ih=>
  intro a x' hx hx'
  have hxk:=h.bound a _ hx
  obtain ⟨b,hb⟩:=h.surj x (by omega)
  have hbn:b<n:=by rw[←h.len];exact (List.getElem?_eq_some_iff.1 hb).1
  have han:a<n:=by rw[←h.len];exact (List.getElem?_eq_some_iff.1 hx).1
  have hb':ds'[b]? =some (ds'[b]'(by rw[h'.len];exact hbn)):=List.getElem?_eq_getElem _
  have h1:=ih b _ hb hb'
  have h2:=hr b a hbn han ((h.ord b a _ _ hb hx).1 (by omega))
  have h3:=(h'.ord b a _ _ hb' hx').2 h2
  omega
theorem DenseOf.high {n k k':Nat} {lt lt':Nat→Nat→Prop} {ds ds':List Nat} (h:DenseOf n lt ds k) (h':DenseOf n lt' ds' k') (hr: ∀a b,a<n→b<n→lt a b→lt' a b): ∀(z a x x':Nat),ds[a]? =some x→ds'[a]? =some x'→k=x+1+z→x'+1+z≤k':=by
 intro z
 induction z with
 |zero=>
  intro a x x' _ hx' _
  have:=h'.bound a _ hx'
  omega
 |succ z ih=>
  intro a x x' hx hx' hk
  obtain ⟨b,hb⟩:=h.surj (x+1) (by omega)
  have hbn:b<n:=by rw[←h.len];exact (List.getElem?_eq_some_iff.1 hb).1
  have han:a<n:=by rw[←h.len];exact (List.getElem?_eq_some_iff.1 hx).1
  have hb':ds'[b]? =some (ds'[b]'(by rw[h'.len];exact hbn)):=List.getElem?_eq_getElem _
  have h1:=ih b _ _ hb hb' (by omega)
  have h2:=hr a b han hbn ((h.ord a b _ _ hx hb).1 (by omega))
  have h3:=(h'.ord a b _ _ hx' hb').2 h2
  omega
theorem DenseOf.mono {n k k':Nat} {lt lt':Nat→Nat→Prop} {ds ds':List Nat} (h:DenseOf n lt ds k) (h':DenseOf n lt' ds' k') (hr: ∀a b,a<n→b<n→lt a b→lt' a b):k≤k':=by
 by_cases hk:k=0
 ·omega
 ·obtain ⟨a,ha⟩:=h.surj 0 (by omega)
  have han:a<n:=by rw[←h.len];exact (List.getElem?_eq_some_iff.1 ha).1
  have ha':ds'[a]? =some (ds'[a]'(by rw[h'.len];exact han)):=List.getElem?_eq_getElem _
  have:=h.high h' hr (k-1) a _ _ ha ha' (by omega)
  omega
theorem DenseOf.same {n k:Nat} {lt lt':Nat→Nat→Prop} {ds ds':List Nat} (h:DenseOf n lt ds k) (h':DenseOf n lt' ds' k) (hr: ∀a b,a<n→b<n→lt a b→lt' a b): ∀a b,a<n→b<n→(lt' a b↔lt a b):=by
 have e: ∀(a x x':Nat),ds[a]? =some x→ds'[a]? =some x'→x=x':=by
  intro a x x' hx hx'
  have h1:=h.low h' hr x a x' hx hx'
  have h2:=h.bound a _ hx
  have h3:=h.high h' hr (k-x-1) a x x' hx hx' (by omega)
  omega
 intro a b ha hb
 have ga:ds[a]? =some (ds[a]'(by rw[h.len];exact ha)):=List.getElem?_eq_getElem _
 have gb:ds[b]? =some (ds[b]'(by rw[h.len];exact hb)):=List.getElem?_eq_getElem _
 have ga':ds'[a]? =some (ds'[a]'(by rw[h'.len];exact ha)):=List.getElem?_eq_getElem _
 have gb':ds'[b]? =some (ds'[b]'(by rw[h'.len];exact hb)):=List.getElem?_eq_getElem _
 rw[←h.ord a b _ _ ga gb,←h'.ord a b _ _ ga' gb',e a _ _ ga ga',e b _ _ gb gb']
end Go.Proofs.YtlniliigcnedmaaGreatDoor
namespace Go.Proofs.YtlniliigcnedmaaGreatDoor
open Go Ax
theorem pigeon: ∀(k:Nat) (xs:List Nat),(∀v,v<k→v∈xs)→k≤xs.length
 |0,_,_=>Nat.zero_le _
 |k+1,xs,h=>by
  have h1:k≤(xs.filter fun x=>x !=k).length:=pigeon k _ fun v hv=>by
   rw[List.mem_filter]
   exact ⟨h v (by omega),by simp;omega⟩
  have h2:(xs.filter fun x=>x !=k).length<xs.length:=by
   rw[List.length_filter_lt_length_iff_exists]
   exact ⟨k,h k (by omega),by simp⟩
  omega
theorem nodup_le: ∀(n:Nat) (xs:List Nat),xs.Nodup→(∀x∈xs,x<n)→xs.length≤n
 |0,[],_,_=>Nat.le_refl _
 |0,x::_,_,h=>by have:=h x List.mem_cons_self;omega
 |n+1,xs,hd,h=>by
  have h1:(xs.filter fun x=>x !=n).length≤n:=nodup_le n _ (hd.filter _) fun x hx=>by
   rw[List.mem_filter] at hx
   have h2:=h x hx.1
   have h3:x≠n:=by simpa using hx.2
   omega
  have h2:xs.length≤(xs.filter fun x=>x !=n).length+1:=by
   have hc:xs.count n≤1:=by
    exact List.nodup_iff_count.1 hd n
   have:=List.length_eq_countP_add_countP (fun x=>x !=n) (l:=xs)
   rw[List.countP_eq_length_filter] at this
   have h3:xs.countP (fun a=> !(a !=n))=xs.count n:=by
    rw[List.count_eq_countP]
    refine List.countP_congr fun x _=>?_
    simp
   simp only[Bool.not_eq_true] at this
   have h4:xs.countP (fun a=>decide ((a !=n)=false))=xs.countP (fun a=> !(a !=n)):=List.countP_congr fun x _=>by simp
   omega
  omega
theorem DenseOf.congr {n k:Nat} {lt lt':Nat→Nat→Prop} {ds:List Nat} (h:DenseOf n lt ds k) (hl: ∀a b,a<n→b<n→(lt a b↔lt' a b)):DenseOf n lt' ds k:=
 ⟨h.len,fun a b x y hx hy=>by
  have ha:=(List.getElem?_eq_some_iff.1 hx).1
  have hb:=(List.getElem?_eq_some_iff.1 hy).1
  rw[h.len] at ha hb
  rw[h.ord a b x y hx hy,hl a b ha hb],h.bound,h.surj⟩
theorem DenseOf.le {n k:Nat} {lt:Nat→Nat→Prop} {ds:List Nat} (h:DenseOf n lt ds k):k≤n:=by
 rw[←h.len]
 refine pigeon k ds fun v hv=>?_
 obtain ⟨a,ha⟩:=h.surj v hv
 exact List.mem_of_getElem? ha
theorem DenseOf.pos {n k:Nat} {lt:Nat→Nat→Prop} {ds:List Nat} (h:DenseOf n lt ds k) (hn:n≠0):1≤k:=by
 have h0:ds[0]? =some (ds[0]'(by rw[h.len];omega)):=List.getElem?_eq_getElem _
 have:=h.bound 0 _ h0
 omega
theorem DenseOf.sameOrd {n k:Nat} {r:Nat→Nat} {ds:List Nat} (h:DenseOf n (fun a b=>r a<r b) ds k):SameOrd n (fun a=>ds.getD a 0) r:=by
 intro a b ha hb
 have ga:ds[a]? =some (ds[a]'(by rw[h.len];exact ha)):=List.getElem?_eq_getElem _
 have gb:ds[b]? =some (ds[b]'(by rw[h.len];exact hb)):=List.getElem?_eq_getElem _
 have:=h.ord a b _ _ ga gb
 simp only[List.getD,ga,gb,Option.getD_some]
 exact this
theorem cp_sorted {ys:List Int} (hs:SortedTo cmpI ys ys.length): ∀j,j≤ys.length→(cp ys j).Pairwise (· < ·)∧(∀v,v∈cp ys j↔v∈ys.take j)∧(j≠0→ ∃w,(cp ys j).getLast? =some w∧ys[j-1]? =some w)
 |0,_=>by simp[cp]
 |j+1,hj=>by
  obtain ⟨h1,h2,h3⟩:=cp_sorted hs j (by omega)
  have hyj:ys[j]? =some (ys[j]'(by omega)):=List.getElem?_eq_getElem _
  have htk:ys.take (j+1)=ys.take j++ [ys[j]'(by omega)]:=by rw[List.take_add_one,hyj];rfl
  rw[cp]
  split
  ·rename_i hc
   refine ⟨h1,fun v=>?_,fun _=>?_⟩
   ·rw[htk,h2]
    simp only[List.mem_append,List.mem_singleton]
    constructor
    ·exact .inl
    ·rintro (h|rfl)
     ·exact h
     ·have hjm:ys[j-1]? =some (ys[j]'(by omega)):=by rw[←hc.2,hyj]
      exact List.mem_iff_getElem?.2 ⟨j-1,by rw[List.getElem?_take,if_pos (by omega)];exact hjm⟩
   ·obtain ⟨w,h4,h5⟩:=h3 hc.1
    exact ⟨w,h4,by rw[Nat.add_sub_cancel,hc.2];exact h5⟩
  ·rename_i hc
   have hgd:ys.getD j 0=ys[j]'(by omega):=by simp[List.getD,hyj]
   rw[hgd]
   refine ⟨?_,fun v=>?_,fun _=>⟨ys[j]'(by omega),by simp,by rw[Nat.add_sub_cancel];exact hyj⟩⟩
   ·rw[List.pairwise_append]
    refine ⟨h1,by simp,fun v hv w hw=>?_⟩
    rw[List.mem_singleton] at hw
    subst hw
    have hv':=(h2 v).1 hv
    obtain ⟨p,hp,hpv⟩:=List.mem_iff_getElem.1 hv'
    rw[List.length_take] at hp
    rw[List.getElem_take] at hpv
    have hle:=hs p j _ _ (by omega) (by omega) (List.getElem?_eq_getElem (by omega)) hyj
    rw[cmpI_le,hpv] at hle
    by_cases he:v=ys[j]'(by omega)
    ·exfalso
     refine hc ⟨by omega,?_⟩
     -- what stands between is the same
     have hpj:=hs p (j-1)
     have hjl:ys[j-1]? =some (ys[j-1]'(by omega)):=List.getElem?_eq_getElem _
     have h6:=hs (j-1) j _ _ (by omega) (by omega) hjl hyj
     rw[cmpI_le] at h6
     rw[hyj,hjl]
     by_cases hpj':p=j-1
     ·subst hpj'
      rw[←he,hpv]
     ·have h7:=hs p (j-1) _ _ (by omega) (by omega) (List.getElem?_eq_getElem (by omega)) hjl
      rw[cmpI_le,hpv] at h7
      congr 1
      omega
    ·omega
   ·rw[htk]
    simp only[List.mem_append,List.mem_singleton,h2]
end Go.Proofs.YtlniliigcnedmaaGreatDoor
namespace Go.Proofs.YtlniliigcnedmaaGreatDoor
open Go Ax
open Relation
structure PInv (l:List Md) (m:Nat) (S:List Bool) (Q:List Nat):Prop where
 len:S.length=l.length
 q: ∀z∈Q,z<l.length∧(z=m∨TransGen (stepR l isU) m z)
 s: ∀(z:Nat),S[z]? =some true→z=m∨TransGen (stepR l isU) m z
 c: ∀(z:Nat),S[z]? =some true→ ∀y,stepR l isU z y→y∈Q∨S[y]? =some true
 m0:m∈Q∨S[m]? =some true
variable {l:List Md} {m x:Nat} {S:List Bool} {Q Q':List Nat}
theorem PInv.init (hm:m<l.length):PInv l m (List.replicate l.length false) [m] where
 len:=by simp
 q:=fun z hz=>by rw[List.mem_singleton] at hz;subst hz;exact ⟨hm,.inl rfl⟩
 s:=fun z hz=>by rw[List.getElem?_replicate] at hz;split at hz<;>cases hz
 c:=fun z hz=>by rw[List.getElem?_replicate] at hz;split at hz<;>cases hz
 m0:= .inl (List.mem_singleton.2 rfl)
theorem PInv.skip (h:PInv l m S (x::Q)) (hx:S[x]? =some true):PInv l m S Q where
 len:=h.len
 q:=fun z hz=>h.q z (List.mem_cons_of_mem _ hz)
 s:=h.s
 c:=fun z hz y hy=>by
  rcases h.c z hz y hy with h1|h1
  ·rcases List.mem_cons.1 h1 with rfl|h1
   ·exact .inr hx
   ·exact .inl h1
  ·exact .inr h1
 m0:=by
  rcases h.m0 with h1|h1
  ·rcases List.mem_cons.1 h1 with rfl|h1
   ·exact .inr hx
   ·exact .inl h1
  ·exact .inr h1
theorem PInv.mark (hg:goodT l) (h:PInv l m S (x::Q)) {y:Md} (hy:l[x]? =some y) (hQ:isU y=true→Q'=Q++y.elems.map Int.toNat) (hQ2:isU y=false→Q'=Q):PInv l m (S.set x true) Q' where
 len:=by simpa using h.len
 q:=fun z hz=>by
  cases hu:isU y
  ·rw[hQ2 hu] at hz;exact h.q z (List.mem_cons_of_mem _ hz)
  ·rw[hQ hu] at hz
   rcases List.mem_append.1 hz with hz|hz
   ·exact h.q z (List.mem_cons_of_mem _ hz)
   ·obtain ⟨e,he,rfl⟩:=List.mem_map.1 hz
    have hge:=hg y (List.mem_of_getElem? hy) e he
    refine ⟨by omega,.inr ?_⟩
    have hst:stepR l isU x e.toNat:=⟨y,hy,hu,by rw[Int.toNat_of_nonneg hge.1];exact he⟩
    rcases (h.q x List.mem_cons_self).2 with h1|h1
    ·rw[←h1];exact .single hst
    ·exact .tail h1 hst
 s:=fun z hz=>by
  rcases of_set hz with rfl|hz
  ·exact (h.q z List.mem_cons_self).2
  ·exact h.s z hz
 c:=fun z hz w hw=>by
  have sub: ∀v∈Q,v∈Q':=fun v hv=>by
   cases hu:isU y
   ·rw[hQ2 hu];exact hv
   ·rw[hQ hu];exact List.mem_append_left _ hv
  have hxl:x<S.length:=by rw[h.len];exact (h.q x List.mem_cons_self).1
  rcases of_set hz with rfl|hz
  ·obtain ⟨y',h1,h2,h3⟩:=hw
   rw[hy] at h1;cases h1
   rw[hQ h2]
   exact .inl (List.mem_append_right _ (List.mem_map.2 ⟨_,h3,by simp⟩))
  ·rcases h.c z hz w hw with h1|h1
   ·rcases List.mem_cons.1 h1 with rfl|h1
    ·exact .inr (List.getElem?_set_self hxl)
    ·exact .inl (sub w h1)
   ·exact .inr (set_true h1)
 m0:=by
  have hxl:x<S.length:=by rw[h.len];exact (h.q x List.mem_cons_self).1
  rcases h.m0 with h1|h1
  ·rcases List.mem_cons.1 h1 with rfl|h1
   ·exact .inr (List.getElem?_set_self hxl)
   ·cases hu:isU y
    ·rw[hQ2 hu];exact .inl h1
    ·rw[hQ hu];exact .inl (List.mem_append_left _ h1)
  ·exact .inr (set_true h1)
theorem PInv.done (h:PInv l m S []) (z:Nat):S[z]? =some true↔z=m∨TransGen (stepR l isU) m z:=by
 refine ⟨h.s z,?_⟩
 have hm:S[m]? =some true:=h.m0.resolve_left (by simp)
 rintro (rfl|ht)
 ·exact hm
 ·induction ht with
  |single h1=>exact (h.c m hm _ h1).resolve_left (by simp)
  |tail _ h1 ih=>exact (h.c _ ih _ h1).resolve_left (by simp)
def sumTo (f:Nat→Nat):Nat→Nat
 |0=>0
 |n+1=>sumTo f n+f n
theorem sumTo_one {f g:Nat→Nat} {x:Nat} (h: ∀z,z≠x→f z=g z): ∀n,(x<n→sumTo f n+g x=sumTo g n+f x)∧(n≤x→sumTo f n=sumTo g n)
 |0=>⟨fun h=>by omega,fun _=>rfl⟩
 |n+1=>by
  obtain ⟨h1,h2⟩:=sumTo_one h n
  refine ⟨fun hx=>?_,fun hx=>?_⟩
  ·simp only[sumTo]
   by_cases hn:x=n
   ·subst hn
    have:=h2 (Nat.le_refl _)
    omega
   ·have:=h1 (by omega)
    have:=h n (by omega)
    omega
  ·simp only[sumTo]
   have:=h2 (by omega)
   have:=h n (by omega)
   omega
theorem sumTo_le {f:Nat→Nat} {c:Nat} (h: ∀z,f z≤c): ∀n,sumTo f n≤c*n
 |0=>by simp[sumTo]
 |n+1=>by have:=sumTo_le h n;have:=h n;simp only[sumTo,Nat.mul_add];omega
def wtS (l:List Md) (S:List Bool):Nat:=sumTo (fun z=>if S[z]? =some false then (mdAt l z).elems.length else 0) l.length
theorem wtS_set (hx:S[x]? =some false) (hl:x<l.length):wtS l (S.set x true)+(mdAt l x).elems.length=wtS l S:=by
 have:=(sumTo_one (f:=fun z=>if (S.set x true)[z]? =some false then (mdAt l z).elems.length else 0) (g:=fun z=>if S[z]? =some false then (mdAt l z).elems.length else 0) (x:=x) (fun z hz=>by
  rw[List.getElem?_set_ne (fun h=>hz h.symm)]) l.length).1 hl
 simp only[hx,if_true] at this
 rw[List.getElem?_set_self (List.getElem?_eq_some_iff.1 hx).1] at this
 simp at this
 unfold wtS
 omega
theorem wtS_le (h64: ∀x∈l,x.elems.length≤64):wtS l S≤64*l.length:=by
 refine sumTo_le (fun z=>?_) _
 split
 ·unfold mdAt
  cases hz:l[z]? with
  |none=>simp
  |some y=>exact h64 y (List.mem_of_getElem? hz)
 ·omega
structure SortedBy (r:Nat→Nat) (ms zs:List Nat):Prop where
 asc:zs.Pairwise (fun a b=>r a<r b)
 sub: ∀z∈zs,z∈ms
 cov: ∀y∈ms,∃z∈zs,r z=r y∧z≤y
variable {r:Nat→Nat} {ms zs:List Nat} {y k:Nat}
theorem SortedBy.nil:SortedBy r [] []:=⟨.nil,by simp,by simp⟩
theorem SortedBy.hit (h:SortedBy r ms zs) (hk:k<zs.length) (he:r zs[k]=r y):SortedBy r (ms++ [y]) (if y<zs[k] then zs.set k y else zs):=by
 split
 ·rename_i hlt
  refine ⟨?_,fun z hz=>?_,fun w hw=>?_⟩
  ·rw[List.pairwise_iff_getElem]
   have h0:=List.pairwise_iff_getElem.1 h.asc
   intro i j hi hj hij
   rw[List.length_set] at hi hj
   have:=h0 i j hi hj hij
   rw[List.getElem_set,List.getElem_set]
   split
   ·rename_i hki
    subst hki
    rw[if_neg (by omega),←he]
    exact this
   ·split
    ·rename_i hkj
     subst hkj
     rw[←he]
     exact this
    ·exact this
  ·rcases List.mem_or_eq_of_mem_set hz with hz|rfl
   ·exact List.mem_append_left _ (h.sub z hz)
   ·exact List.mem_append_right _ (List.mem_singleton.2 rfl)
  ·rcases List.mem_append.1 hw with hw|hw
   ·obtain ⟨z,hz,h1,h2⟩:=h.cov w hw
    obtain ⟨j,hj,rfl⟩:=List.mem_iff_getElem.1 hz
    by_cases hjk:j=k
    ·subst hjk
     exact ⟨y,List.mem_iff_getElem.2 ⟨j,by simpa using hj,by simp⟩,by rw[←he,h1],by omega⟩
    ·exact ⟨zs[j],List.mem_iff_getElem.2 ⟨j,by simpa using hj,by rw[List.getElem_set_ne (fun e=>hjk e.symm)]⟩,h1,h2⟩
   ·rw[List.mem_singleton] at hw
    subst hw
    exact ⟨w,List.mem_iff_getElem.2 ⟨k,by simpa using hk,by simp⟩,rfl,Nat.le_refl _⟩
 ·refine ⟨h.asc,fun z hz=>List.mem_append_left _ (h.sub z hz),fun w hw=>?_⟩
  rcases List.mem_append.1 hw with hw|hw
  ·exact h.cov w hw
  ·rw[List.mem_singleton] at hw
   subst hw
   exact ⟨zs[k],List.getElem_mem hk,he,by omega⟩
theorem SortedBy.put (h:SortedBy r ms zs) (hk:k≤zs.length) (hlt: ∀(j:Nat) z,j<k→zs[j]? =some z→r z<r y) (hge: ∀z,zs[k]? =some z→ ¬r z<r y∧ ¬r z=r y):SortedBy r (ms++ [y]) (zs.take k++ [y]++zs.drop k):=by
 refine ⟨?_,fun z hz=>?_,fun w hw=>?_⟩
 ·have h1:=h.asc
  rw[←List.take_append_drop k zs,List.pairwise_append] at h1
  obtain ⟨a1,a2,a3⟩:=h1
  have hy1: ∀z∈zs.take k,r z<r y:=fun z hz=>by
   obtain ⟨j,hj,rfl⟩:=List.mem_iff_getElem.1 hz
   rw[List.length_take] at hj
   rw[List.getElem_take]
   exact hlt j _ (by omega) (List.getElem?_eq_getElem (by omega))
  have hy2: ∀z∈zs.drop k,r y<r z:=fun z hz=>by
   cases hd:zs.drop k with
   |nil=>rw[hd] at hz;cases hz
   |cons w ws=>
    have hw:zs[k]? =some w:=by
     have:=congrArg (·[0]?) hd
     simpa using this
    have:=hge w hw
    rw[hd] at hz a2
    rcases List.mem_cons.1 hz with rfl|hz
    ·omega
    ·have:=(List.pairwise_cons.1 a2).1 z hz
     omega
  rw[List.pairwise_append]
  refine ⟨?_,a2,fun z hz w hw=>?_⟩
  ·rw[List.pairwise_append]
   exact ⟨a1,by simp,fun z hz w hw=>by rw[List.mem_singleton] at hw;subst hw;exact hy1 z hz⟩
  ·rcases List.mem_append.1 hz with hz|hz
   ·exact a3 z hz w hw
   ·rw[List.mem_singleton] at hz;subst hz;exact hy2 w hw
 ·rcases List.mem_append.1 hz with hz|hz
  ·rcases List.mem_append.1 hz with hz|hz
   ·exact List.mem_append_left _ (h.sub z (List.mem_of_mem_take hz))
   ·exact List.mem_append_right _ hz
  ·exact List.mem_append_left _ (h.sub z (List.mem_of_mem_drop hz))
 ·rcases List.mem_append.1 hw with hw|hw
  ·obtain ⟨z,hz,h1⟩:=h.cov w hw
   rw[←List.take_append_drop k zs] at hz
   rcases List.mem_append.1 hz with hz|hz
   ·exact ⟨z,List.mem_append_left _ (List.mem_append_left _ hz),h1⟩
   ·exact ⟨z,List.mem_append_right _ hz,h1⟩
  ·rw[List.mem_singleton] at hw
   subst hw
   exact ⟨w,List.mem_append_left _ (List.mem_append_right _ (List.mem_singleton.2 rfl)),rfl,Nat.le_refl _⟩
end Go.Proofs.YtlniliigcnedmaaGreatDoor
namespace Go.Proofs.YtlniliigcnedmaaGreatDoor
open Go Ax
set_option maxRecDepth 100000
def RRows (m:AMem) (s:AVal) (ks:List (List Int)):Prop:= ∃svs,Sl m 1 s ks.length svs∧ ∀(i:Nat) K,ks[i]? =some K→ ∃sv,svs[i]? =some sv∧RInts m sv K
theorem RRows.mono {m m':AMem} {s:AVal} {ks:List (List Int)} (h:RRows m s ks) (hm:m<+:m'):RRows m' s ks:=by
 obtain ⟨svs,h1,h2⟩:=h
 refine ⟨svs,h1.mono hm,fun i K hK=>?_⟩
 obtain ⟨sv,h3,h4⟩:=h2 i K hK
 exact ⟨sv,h3,h4.mono hm⟩
theorem RRows.at {m:AMem} {s:AVal} {ks:List (List Int)} (h:RRows m s ks) {i:Nat} (hi:i<ks.length): ∃b o sv,(∀k,iaddrE 1 s (.int k i)=some (.ptr b o))∧loadE m 1 false (.ptr b o)=some sv∧RInts m sv ks[i]:=by
 obtain ⟨svs,h1,h2⟩:=h
 obtain ⟨sv,h3,h4⟩:=h2 i _ (List.getElem?_eq_getElem hi)
 obtain ⟨b,o,h5,h6,_⟩:=h1.at hi
 refine ⟨b,o,sv,h5,?_,h4⟩
 have:=h6 0 (by omega)
 simpa[h3] using this
set_option maxHeartbeats 2000000 in
theorem k80 (s:AVal) (l:List Md) (a b:Nat) (b1:Nat) (m:AMem) (hb1:readB m b1=some [s]) (hs:RTab m s l) (hsz: ∀x∈l,smallN x) (ha:a<l.length) (hb:b<l.length):ACalls Tryz.prog 80 [.int .i64 a,.int .i64 b,.ptr b1 0] m fun v m'=>v= .int .i64 (firstC (mdAt l a) (mdAt l b))∧m<+:m':=by
 refine w80 ?_
 obtain ⟨ba,oa,ca,h1,h2,_,_,h3⟩:=hs.atC ha
 obtain ⟨bb,ob,cb,h4,h5,_,_,h6⟩:=hs.atC hb
 simp
 refine W_draw (fun _ _ _=>True) (by simp[maxDst]) ?_
 refine D_pc 0 8 [8,9] ?_
 simp[bx hb1,h1,h2,h4,h5]
 intro fs' hfs'
 refine D_X rfl rfl fun m5 hm5 _=>?_
 simp
 refine C_of (k81 ca cb _ _ m5 (h3.mono hm5) (h6.mono hm5) (hsz _ (List.getElem_mem ha)) (hsz _ (List.getElem_mem hb))) ?_
 rintro _ m6 ⟨rfl,hm6⟩
 refine ⟨by simp[lateOf],?_⟩
 refine D_pc 9 1 [] ?_
 simp
 intro fs'' _
 refine D_end fun m7 hm7 _=>?_
 simp[mdAt_eq ha,mdAt_eq hb]
 exact (hm5.trans hm6).trans hm7
def ks95 (x y z:Int):Nat→AVal→AMem→Prop:=fun i v _=>v= .int .i64 (if i=8 then x else if i=17 then y else z)
set_option maxHeartbeats 2000000 in
theorem k84 (vr vl:AVal) (ds:List Int) (ks:List (List Int)) (a b:Nat) (b6 b8:Nat) (m:AMem) (hb6:readB m b6=some [vr]) (hb8:readB m b8=some [vl]) (hr:RInts m vr ds) (hk:RRows m vl ks) (ha:a<ds.length) (hb:b<ds.length) (hl:ks.length=ds.length) (hsz: ∀K∈ks,K.length<2^62):
  ACalls Tryz.prog 84 [.int .i64 a,.int .i64 b,.ptr b6 0,.ptr b8 0] m fun v m'=>v= .int .i64 (firstNZ [cmpI ds[a] ds[b],lexC cmpI (ks[a]'(by omega)) (ks[b]'(by omega))])∧m<+:m':=by
 refine w84 ?_
 obtain ⟨ba,oa,h1,h2⟩:=hr.at ha
 obtain ⟨bb,ob,h3,h4⟩:=hr.at hb
 obtain ⟨bc,oc,sa,h5,h6,h7⟩:=hk.at (i:=a) (by omega)
 obtain ⟨bd,od,sb,h8,h9,h10⟩:=hk.at (i:=b) (by omega)
 have hsa:=hsz _ (List.getElem_mem (show a<ks.length by omega))
 generalize ds[a]=x at*
 generalize ds[b]=y at*
 generalize ks[a]'(by omega)=K at*
 generalize ks[b]'(by omega)=L at*
 simp
 refine W_draw (ks95 (cmpI x y) (lexC cmpI K L) (firstNZ [cmpI x y,lexC cmpI K L])) (by simp[maxDst]) ?_
 have: ∀(j:Nat) (m':AMem),noFacts j m':=fun _ _=>trivial
 refine D_pre 0 8 [8,9,10,11,12,13,14,15,16,17,18,19,20] (by simp only[List.drop_zero,List.drop_succ_cons,List.take_succ_cons,List.take_zero];rfl) rfl rfl ‹_› ?_
 simp[bx hb6,h1,h2,h3,h4]
 intro _ _
 refine D_Cv (.int .i64 (cmpI x y)) rfl trivial rfl rfl (fun m' hm' _=>(k86 _ _ m').mono fun v m'' h=>⟨by rw[h.2];exact List.prefix_refl _,h.1⟩) ?_
 have:=upd_triv 8 ‹∀(j:Nat) (m':AMem),_›
 refine D_pre 9 8 [17,18,19,20] (by simp only[List.drop_zero,List.drop_succ_cons,List.take_succ_cons,List.take_zero];rfl) rfl rfl ‹_› ?_
 simp[bx hb8,h5,h6,h8,h9]
 intro _ _
 refine D_Cv (.int .i64 (lexC cmpI K L)) rfl trivial rfl rfl (fun m' hm' _=>(k87 sa sb K L m' (h7.mono hm') (h10.mono hm') hsa).mono fun v m'' h=>⟨by rw[h.2];exact List.prefix_refl _,h.1⟩) ?_
 have:=upd_triv 17 ‹∀(j:Nat) (m':AMem),_›
 refine D_A rfl trivial ?_
 simp[fillA,setN]
 intro b
 refine D_Cv (.int .i64 (firstNZ [cmpI x y,lexC cmpI K L])) rfl trivial rfl rfl (fun m' hm' hp=>?_) ?_
 ·have h18:=hp 18 (by simp)
  simp[upd] at h18
  refine (k85 (.slice b 0 2 2 none) [cmpI x y,lexC cmpI K L] m' ?_ (by simp)).mono fun v m'' h=>⟨by rw[h.2];exact List.prefix_refl _,h.1⟩
  refine .inr ⟨b,0,2,none,rfl,⟨by simp,.inl rfl⟩,.inr ⟨by simp,_,by simp[readB,h18,ABlk.cells];rfl,by simp[readN]⟩⟩
 refine D_P rfl trivial ?_
 simp
 refine D_end fun m2 hm2 _=>?_
 simp[hm2]
end Go.Proofs.YtlniliigcnedmaaGreatDoor
namespace Go.Proofs.YtlniliigcnedmaaGreatDoor
open Go Ax
set_option maxRecDepth 100000
abbrev Sv:={v:AVal // v.cells= [v]∧v.one=true}
abbrev svV:Sv→AVal:=Subtype.val
instance:Cell svV:=⟨fun x=>x.2.1,fun x=>x.2.2⟩
def svNil:Sv:=⟨.nilslice,rfl,rfl⟩
def Stab (S:Nat→Prop) (m:AMem) (s:AVal) (xs:List Int):Prop:= ∀m',Ch S m m'→RInts m' s xs
theorem Stab.here {S:Nat→Prop} {m:AMem} {s:AVal} {xs:List Int} (h:Stab S m s xs):RInts m s xs:=h m (.refl _ _)
theorem Stab.next {S:Nat→Prop} {m m':AMem} {s:AVal} {xs:List Int} (h:Stab S m s xs) (hc:Ch S m m'):Stab S m' s xs:=fun m'' h'=>h m'' (hc.trans h')
theorem Stab.mono {S:Nat→Prop} {m m':AMem} {s:AVal} {xs:List Int} (h:Stab S m s xs) (hm:m<+:m'):Stab S m' s xs:=h.next (.of_prefix hm)
def PL (l:List Md) (j:Nat) (K:List Int):Prop:=(isU (mdAt l j)=true→ ∃O:List Nat,K=(O.map fun z:Nat=>(z:Int))∧O.Nodup∧ ∀z,z∈O↔IsPart l j z)∧(isU (mdAt l j)=false→K=(mdAt l j).elems)
theorem readB_lt {m:AMem} {b:Nat} {cs:List AVal} (h:readB m b=some cs):b<m.length:=by
 simp only[readB,Option.bind_eq_some_iff] at h
 obtain ⟨blk,h1,_⟩:=h
 exact (List.getElem?_eq_some_iff.1 h1).1
theorem list_of {α:Type} {p:Nat→α→Prop}: ∀n,(∀j,j<n→ ∃x,p j x)→ ∃xs:List α,xs.length=n∧ ∀(j:Nat) x,xs[j]? =some x→p j x
 |0,_=>⟨[],rfl,fun j x h=>by simp at h⟩
 |n+1,h=>by
  obtain ⟨xs,h1,h2⟩:=list_of n fun j hj=>h j (by omega)
  obtain ⟨x,hx⟩:=h n (by omega)
  refine ⟨xs++ [x],by simp[h1],fun j y hy=>?_⟩
  by_cases hj:j<n
  ·rw[List.getElem?_append_left (by omega)] at hy;exact h2 j y hy
  ·rw[List.getElem?_append_right (by omega)] at hy
   have hjn:j=n:=by
    have:=(List.getElem?_eq_some_iff.1 hy).1
    simp at this;omega
   subst hjn
   simp[h1] at hy
   subst hy
   exact hx
theorem ints_of_nat {m:AMem} {lo:Nat} {ty:TypeId} {s:AVal} {xs:List Nat} (h:OwL natI lo m ty s xs):RInts m s (xs.map fun z:Nat=>(z:Int)):=(perm_cells h).ints
structure T60 (l:List Md):Prop where
 len:l.length≤60
 few:goodT l→ ∀(x:Nat) (O:List Nat),O.Nodup→(∀j∈O,IsPart l x j)→O.length≤12
structure T13 (l:List Md):Prop where
 len:l.length≤19
 few:goodT l→ ∀(x:Nat) (O:List Nat),O.Nodup→(∀j∈O,IsPart l x j)→O.length≤12
theorem T13.t60 {l:List Md} (h:T13 l):T60 l:=⟨by have:=h.len;omega,h.few⟩
set_option maxHeartbeats 8000000 in
theorem k44 (s:AVal) (l:List Md) (m:AMem) (hs:RTab m s l) (hg:goodT l) (hn:T60 l) (hsz: ∀x∈l,smallN x) (h64: ∀x∈l,x.elems.length≤64):
  ACalls Tryz.prog 44 [s] m fun v m'=>m<+:m'∧ ∃ds k,OwL natI m.length m' 3 v ds∧DenseOf l.length (fun a b=>RR l a<RR l b) ds k:=by
 refine w44 ?_
 have h60:=hn.len
 obtain ⟨hsl,hsc⟩:=hs.self
 have hc1:24*(l.length:Int)≤281474976710656:=by omega
 have hc2:(l.length:Int)≤9223372036854775807:=by omega
 simp[hsl,hsc]
 have hb1:=readB_new m [s] 22 none
 have hm1:m<+:m++ [.own [s] 22 none]:=List.prefix_append _ _
 have hlen1:(m++ [ABlk.own [s] 22 none]).length=m.length+1:=by simp
 generalize m++ [.own [s] 22 none]=m1 at*
 simp[bx hb1,hs.len,hc1,hc2]
 have hX0:OwL svV m1.length (m1++ [.own (List.replicate l.length .nilslice) 36 none]) 36 (.slice m1.length 0 l.length l.length none) (List.replicate l.length svNil):=OwL.rep (f:=svV) m1 36 l.length svNil
 have hm2:m1<+:m1++ [.own (List.replicate l.length .nilslice) 36 none]:=List.prefix_append _ _
 have hbl:(AVal.slice m1.length 0 l.length l.length none).blk=some m1.length:=rfl
 generalize AVal.slice m1.length 0 l.length l.length none=t3 at*
 generalize m1++ [.own (List.replicate l.length .nilslice) 36 none]=m2 at*
 replace hb1:=readB_mono hm2 hb1
 have hX0:=hX0.lo' (lo':=m.length) (by omega)
 simp[bx hb1,hs.len]
 obtain ⟨I,hI⟩: ∃I:Nat→AFrame→AMem→Prop,∀q a m',I q a m'↔(∃(i:Nat) (svs:List Sv),i+q=l.length∧a=h44_0 (.ptr m.length 0) t3 s (.int .i64 l.length) (.int .i64 i)∧m<+:m'∧readB m' m.length=some [s]∧OwL svV m.length m' 36 t3 svs∧svs.length=l.length∧ ∀(j:Nat),j<i→ ∃sv K,svs[j]? =some sv∧PL l j K∧Stab (fun b=>t3.blk=some b) m' sv.val K):=⟨_,fun _ _ _=>Iff.rfl⟩
 refine W_loop I l.length ((hI _ _ _).2 ⟨0,_,by simp,rfl,hm1.trans hm2,hb1,hX0,by simp,fun j hj=>by omega⟩) ?_
 clear hb1 hX0
 rintro q a m3 hIn
 obtain ⟨i,svs,hk,rfl,hm3,hb1,hX,hXl,hXj⟩:=(hI _ _ _).1 hIn
 clear hIn
 simp
 refine bbind_dec (fun hil=>?_) fun hil=>?_
 ·have hw:=step64 hil (by omega)
  obtain ⟨q,rfl⟩: ∃q',q=q'+1:=⟨q-1,by omega⟩
  obtain ⟨bx',ox,c,h4,h5,_,_,h6⟩:=hs.atC hil
  replace h5:=loadE_mono hm3 h5
  have hcl:=h6.all
  simp[h4,h5]
  rw[store_new _ _ c _ _ 6 hcl.1 rfl hcl.2]
  have hb5:=readB_new m3 c 39 none
  have hm4:m3<+:m3++ [.own c 39 none]:=List.prefix_append _ _
  have h35:t3.blk≠some m3.length:=fun h=>by have:=(hX.blk_lo h).2;omega
  generalize m3++ [.own c 39 none]=m4 at*
  generalize m3.length=b5 at*
  obtain ⟨e,nm,c0,c1,c2,c3,c4,c5,he,hnm,rfl⟩:=h6.get
  obtain ⟨hel,hec⟩:=Sl.self he
  have hX4:=hX.mono hm4
  obtain ⟨b3,o3,hb3,hp3,_,hst3⟩:=hX4.at (i:=i) (by omega)
  obtain ⟨m5,hst5,hch5,hX5⟩:=hst3 ⟨e,hec,hel⟩
  simp only[svV] at hst5
  have hm34:=hm3.trans hm4
  have hm5:m<+:m5:=hch5.pre hm34 fun b hb=>by have:=(hX4.blk_lo hb3).1;omega
  have hne1:m.length≠b3:=fun h=>by rw[hbl] at hb3;simp at hb3;omega
  have hb15:=hch5.read (fun h=>hne1 h) (readB_mono hm4 hb1)
  have hb55:=hch5.read (fun h=>h35 (by rw[hb3,←h])) hb5
  have hcs:Ch (fun b=>t3.blk=some b) m3 m5:=(Ch.of_prefix hm4).trans (hch5.weaken fun b _ hb=>by rw[hb];exact hb3)
  simp[bx hb5,hp3,hst5,bx hb55]
  have hmd:mdAt l i=l[i]:=mdAt_eq hil
  have hstabE: ∀m',m<+:m'→Stab (fun b=>t3.blk=some b) m' e l[i].elems:=fun m' hm' m'' hc=>he.mono (hc.pre hm' fun b hb hbb=>by rw[hbl] at hbb;simp at hbb;omega)
  by_cases hu:isU l[i]=true
  ·have hk12:l[i].kind=12:=by simpa[isU] using hu
   simp[hk12,bx hb15]
   refine C_of (k78 s l i hil hu m5 (hs.mono hm5) hg (by omega) hsz) ?_
   rintro v m6 ⟨hm6,O,hO,hOn,hOm⟩
   have hX6:=hX5.mono hm6
   obtain ⟨b3',o3',hb3',hp3',_,hst3'⟩:=hX6.at (i:=i) (by simp;omega)
   obtain ⟨rfl,rfl⟩:b3'=b3∧o3'=o3:=by have:=(hp3' .i64).symm.trans (hp3 .i64);simpa using this
   obtain ⟨hvl,hvc⟩:=Sl.self (Ow.sl hO)
   obtain ⟨m7,hst7,hch7,hX7⟩:=hst3' ⟨v,hvc,hvl⟩
   simp only[svV] at hst7
   have hm6':=hm5.trans hm6
   have hcs7:Ch (fun b=>t3.blk=some b) m5 m7:=(Ch.of_prefix hm6).trans (hch7.weaken fun b _ hb=>by rw[hb];exact hb3)
   simp[hp3,hst7,hw]
   refine ⟨q,by omega,(hI _ _ _).2 ⟨i+1,_,by omega,by simp,hch7.pre hm6' fun b hb=>by have:=(hX4.blk_lo hb3).1;omega,hch7.read (fun h=>hne1 h) (readB_mono hm6 hb15),hX7,by simpa using hXl,fun j hj=>?_⟩⟩
   by_cases hji:j=i
   ·subst hji
    refine ⟨⟨v,hvc,hvl⟩,_,by rw[List.getElem?_set_self (by simp;omega)],⟨fun _=>⟨O,rfl,hOn,hOm⟩,fun h=>by rw[hmd,hu] at h;cases h⟩,fun m8 hc8=>?_⟩
    have hvb: ∀b,v.blk=some b→ ¬t3.blk=some b:=fun b hb hbb=>by
     have h1:=(hO.blk_lo hb).1
     have h2:=(hX5.blk_lo hbb).2
     omega
    exact ints_of_nat ((hO.ch (hch7.weaken (T:=fun b=>t3.blk=some b) fun b _ hb=>by rw[hb];exact hb3) hvb).ch hc8 hvb)
   ·obtain ⟨sv,K,h7,h8,h9⟩:=hXj j (by omega)
    refine ⟨sv,K,?_,h8,(h9.next hcs).next hcs7⟩
    rw[List.getElem?_set_ne (fun h=>hji h.symm),List.getElem?_set_ne (fun h=>hji h.symm)]
    exact h7
  ·have hu:isU l[i]=false:=by simpa using hu
   have hk12: ¬l[i].kind=12:=by simpa[isU] using hu
   simp[beqF hk12,hw]
   refine ⟨q,by omega,(hI _ _ _).2 ⟨i+1,_,by omega,by simp,hm5,hb15,hX5,by simpa using hXl,fun j hj=>?_⟩⟩
   by_cases hji:j=i
   ·subst hji
    exact ⟨_,_,by rw[List.getElem?_set_self (by omega)],⟨fun h=>by (rw[hmd,hu] at h;cases h),fun _=>by rw[hmd]⟩,hstabE m5 hm5⟩
   ·obtain ⟨sv,K,h7,h8,h9⟩:=hXj j (by omega)
    refine ⟨sv,K,?_,h8,h9.next hcs⟩
    rw[List.getElem?_set_ne (fun h=>hji h.symm)]
    exact h7
 have hil:i=l.length:=by omega
 subst hil
 simp
 clear hI I hk
 have hparts: ∀j,j<l.length→ ∃b o sv K,(∀k,iaddrE 1 t3 (.int k j)=some (.ptr b o))∧loadE m3 1 false (.ptr b o)=some sv∧RInts m3 sv K∧PL l j K:=fun j hj=>by
  obtain ⟨sv,K,h1,h2,h3⟩:=hXj j hj
  obtain ⟨b,o,_,h4,h5,_⟩:=hX.at (i:=j) (by omega)
  refine ⟨b,o,sv.val,K,h4,?_,h3.here,h2⟩
  rw[h5]
  rw[List.getElem?_eq_getElem (by omega)] at h1
  simp only[Option.some.injEq] at h1
  rw[h1]
 clear hX hXl hXj hbl hm1 hm2
 simp[bx hb1,hs.len]
 have hCf:Ord (fun a b=>firstC (mdAt l a.toNat) (mdAt l b.toNat)) (fun x=>0≤x∧x<l.length):=by
  have h:=firstC_ord.pull (fun a:Int=>mdAt l a.toNat) (E:=fun x:Int=>0≤x∧x<(l.length:Int)) fun _ _=>trivial
  exact ⟨h.anti,h.trans⟩
 refine C_of (k79 l.length (by omega) 80 [] [.ptr m.length 0] _ m3 hCf fun a b ha hb m' hm'=>?_) ?_
 ·obtain ⟨a,rfl⟩: ∃a':Nat,a=a':=⟨a.toNat,by omega⟩
  obtain ⟨b,rfl⟩: ∃b':Nat,b=b':=⟨b.toNat,by omega⟩
  have:=k80 s l a b m.length m' (readB_mono hm' hb1) (hs.mono (hm3.trans hm')) hsz (by omega) (by omega)
  simpa using this
 rintro v m4 ⟨hm4,t,ds,k,rfl,hds,hdense⟩
 replace hdense:DenseOf l.length (fun a b=>R l 1 a<R l 1 b) ds k:=hdense.congr fun a b ha hb=>by
  rw[R_lt l 0 ha]
  unfold cmpR thenC
  simp[R,cmpI]
 obtain ⟨htl,htc⟩:=Sl.self (Ow.sl hds)
 simp
 rw[store_new1 _ _ _ _ _ htc htl]
 have hb6:(m4++ [ABlk.own [t] 36 none])[m4.length]? =some (.own [t] 36 none):=by simp
 have hm5:m4<+:m4++ [.own [t] 36 none]:=List.prefix_append _ _
 have hlo6:m3.length≤m4.length:=hm4.length_le
 have hap6:t.blk≠some m4.length:=fun h=>by have:=(hds.blk_lo h).2;omega
 replace hds:=hds.mono hm5
 replace hm4:=hm4.trans hm5
 generalize m4++ [.own [t] 36 none]=m5 at*
 generalize m4.length=b6 at*
 simp
 clear hm5 hCf
 obtain ⟨J,hJ⟩: ∃I:Nat→AFrame→AMem→Prop,∀q a m',I q a m'↔(∃(d k:Nat) (vr:AVal) (ds:List Nat),k+q=l.length∧1≤d∧(d≤k∨d=1)∧DenseOf l.length (fun a b=>R l d a<R l d b) ds k∧a=h44_1 (.ptr m.length 0) t3 (.ptr b6 0) (.int .i64 k)∧m3<+:m'∧m'[b6]? =some (.own [vr] 36 none)∧vr.blk≠some b6∧OwL natI m.length m' 3 vr ds):=⟨_,fun _ _ _=>Iff.rfl⟩
 have hk:=hdense.le
 refine W_loop J (l.length-k) ((hJ _ _ _).2 ⟨1,k,t,ds,by omega,by omega,.inr rfl,hdense,rfl,hm4,hb6,hap6,hds.lo' hm3.length_le⟩) ?_
 clear hds hap6 hb6 hdense htl htc hm4 hk
 rintro q a m4 hIn
 obtain ⟨d,k,vr,ds,hkq,hd1,hdk,hdense,rfl,hm4,hb6,hap6,hds⟩:=(hJ _ _ _).1 hIn
 clear hIn
 have hb1':=readB_mono hm4 hb1
 have hm04:=hm3.trans hm4
 have hr6:readB m4 b6=some [vr]:=by simp[readB,hb6,ABlk.cells]
 simp[bx hb1',hs.len,hc1,hc2]
 rw[store_at (z:= .nilslice) (ty:=99) (g:=none) (by simp) rfl rfl]
 simp[List.set_append]
 have hX0:OwL svV m4.length (m4++ [.own (List.replicate l.length .nilslice) 36 none,.own [.slice m4.length 0 l.length l.length none] 99 none]) 36 (.slice m4.length 0 l.length l.length none) (List.replicate l.length svNil):=by
  have:=OwL.of_get (f:=svV) (m:=m4++ [.own (List.replicate l.length .nilslice) 36 none,.own [.slice m4.length 0 l.length l.length none] 99 none]) (b:=m4.length) (lo:=m4.length) (ty:=36) (xs:=List.replicate l.length svNil) (by simp[svNil]) (Nat.le_refl _)
  simpa using this
 have hb8:readB (m4++ [.own (List.replicate l.length .nilslice) 36 none,.own [.slice m4.length 0 l.length l.length none] 99 none]) (m4.length+1)=some [.slice m4.length 0 l.length l.length none]:=by simp[readB,ABlk.cells]
 have hm5:m4<+:m4++ [.own (List.replicate l.length .nilslice) 36 none,.own [.slice m4.length 0 l.length l.length none] 99 none]:=List.prefix_append _ _
 have hbl:(AVal.slice m4.length 0 l.length l.length none).blk=some m4.length:=rfl
 generalize AVal.slice m4.length 0 l.length l.length none=tl at*
 generalize m4++ [.own (List.replicate l.length .nilslice) 36 none,.own [tl] 99 none]=m5 at*
 have hb15:=readB_mono hm5 hb1'
 simp[bx hb15,hs.len]
 have hvr:vr.blk≠some m4.length:=fun h=>by have:=(hds.blk_lo h).2;omega
 obtain ⟨I,hI⟩: ∃I:Nat→AFrame→AMem→Prop,∀q a m',I q a m'↔(∃(i:Nat) (svs:List Sv),i+q=l.length∧a=h44_2 (.ptr m.length 0) t3 (.ptr b6 0) (.int .i64 k) (.ptr (m4.length+1) 0) s (.int .i64 l.length) (.int .i64 i)∧m4<+:m'∧readB m' (m4.length+1)=some [tl]∧OwL svV m4.length m' 36 tl svs∧svs.length=l.length∧(∀(j:Nat),i≤j→j<l.length→svs[j]? =some svNil)∧ ∀(j:Nat),j<i→ ∃sv K,svs[j]? =some sv∧IsKey l (fun a=>ds.getD a 0) j K∧K.length<2^62∧OwL (AVal.int .i64) m4.length m' 3 sv.val K∧Ap tl sv.val):=⟨_,fun _ _ _=>Iff.rfl⟩
 refine W_loop I l.length ((hI _ _ _).2 ⟨0,_,by simp,rfl,hm5,hb8,hX0,by simp,fun j _ hj=>by rw[List.getElem?_replicate,if_pos hj],fun j hj=>by omega⟩) ?_
 clear hX0 hb8 hm5 hb15
 rintro q2 a m5 hIn
 obtain ⟨i,svs,hiq,rfl,hm5,hb8,hX,hXl,hXn,hXj⟩:=(hI _ _ _).1 hIn
 clear hIn
 simp
 refine bbind_dec (fun hil=>?_) fun hil=>?_
 ·have hw:=step64 hil (by omega)
  obtain ⟨q2,rfl⟩: ∃q',q2=q'+1:=⟨q2-1,by omega⟩
  obtain ⟨bx',ox,c,h4,h5,_,_,h6⟩:=hs.atC hil
  replace h5:=loadE_mono (hm04.trans hm5) h5
  have hcl:=h6.all
  obtain ⟨bp,op,sp,P,hpp,hpl,hpr,hPL⟩:=hparts i hil
  simp[h4,h5]
  rw[store_new _ _ c _ _ 6 hcl.1 rfl hcl.2]
  have hb10:=readB_new m5 c 39 none
  have hm6:m5<+:m5++ [.own c 39 none]:=List.prefix_append _ _
  have hlen6:(m5++ [ABlk.own c 39 none]).length=m5.length+1:=by simp
  have h10:tl.blk≠some m5.length:=fun h=>by have:=(hX.blk_lo h).2;omega
  generalize m5++ [.own c 39 none]=m6 at*
  have hlo6':=hm5.length_le
  generalize hb10e:m5.length=b10 at*
  obtain ⟨e,nm,c0,c1,c2,c3,c4,c5,he,hnm,rfl⟩:=h6.get
  have hmd:mdAt l i=l[i]:=mdAt_eq hil
  have hm46:=hm5.trans hm6
  have hpl6:=loadE_mono (hm4.trans hm46) hpl
  simp[hpp,hpl6,(hpr.mono (hm4.trans hm46)).len]
  have hPlt: ∀x∈P,0≤x∧x<l.length:=fun x hx=>by
   cases hu:isU (mdAt l i)
   ·rw[hPL.2 hu,hmd] at hx
    exact hg _ (List.getElem_mem hil) x hx
   ·obtain ⟨O,rfl,_,hO⟩:=hPL.1 hu
    obtain ⟨z,hz,rfl⟩:=List.mem_map.1 hx
    have:=((hO z).1 hz).lt hg
    omega
  have hPl:P.length<2^40:=by
   cases hu:isU (mdAt l i)
   ·rw[hPL.2 hu,hmd]
    have:=h64 _ (List.getElem_mem hil)
    omega
   ·obtain ⟨O,rfl,hOn,hO⟩:=hPL.1 hu
    have:=nodup_le l.length O hOn fun x hx=>((hO x).1 hx).lt hg
    simp;omega
  have hb8lt:=readB_lt hb8
  have hb86:=readB_mono hm6 hb8
  have hX6:=hX.mono hm6
  have hr0: ∀(x:Int),0≤x→x<l.length→ ∃bv ov,(∀k,iaddrE 1 vr (.int k x)=some (.ptr bv ov))∧ ∀m',m4<+:m'→loadE m' 1 false (.ptr bv ov)=some (.int .i64 (ds.getD x.toNat 0:Nat)):=fun x hx1 hx2=>by
   obtain ⟨z,rfl⟩: ∃z:Nat,x=z:=⟨x.toNat,by omega⟩
   have hzl:z<ds.length:=by rw[hdense.len];omega
   obtain ⟨bv,ov,_,h1,h2,_⟩:=hds.at hzl
   exact ⟨bv,ov,h1,fun m' hm'=>by rw[loadE_mono hm' h2];simp[List.getD,hzl]⟩
  obtain ⟨K,hK⟩: ∃I:Nat→AFrame→AMem→Prop,∀q a m',I q a m'↔(∃(z:Nat) (svs:List Sv) (cv:Sv),z+q=P.length∧a=h44_3 (.ptr m.length 0) t3 (.ptr b6 0) (.int .i64 k) (.ptr (m4.length+1) 0) (.int .i64 i) (.ptr b10 0) s (.int .i64 l.length) (.int .i64 i) sp (.int .i64 P.length) (.int .i64 z)∧m4<+:m'∧b10<m'.length∧readB m' (m4.length+1)=some [tl]∧readB m' b10=some [.int .i64 l[i].kind,.int .i64 l[i].size,e,nm,.int .i64 l[i].dims,.bool l[i].flex]∧OwL svV m4.length m' 36 tl svs∧svs.length=l.length∧(∀(j:Nat),i<j→j<l.length→svs[j]? =some svNil)∧(∀(j:Nat),j<i→ ∃sv K,svs[j]? =some sv∧IsKey l (fun a=>ds.getD a 0) j K∧K.length<2^62∧OwL (AVal.int .i64) m4.length m' 3 sv.val K∧Ap tl sv.val∧ ∀b,sv.val.blk=some b→b<b10+1)∧svs[i]? =some cv∧OwL (AVal.int .i64) (b10+1) m' 3 cv.val ((P.take z).map fun x=>(ds.getD x.toNat 0:Int))∧Ap tl cv.val):=⟨_,fun _ _ _=>Iff.rfl⟩
  refine W_loop K P.length ((hK _ _ _).2 ⟨0,svs,svNil,by simp,rfl,hm46,by omega,hb86,hb10,hX6,hXl,fun j h1 h2=>hXn j (by omega) h2,fun j hj=>?_,hXn i (Nat.le_refl _) hil,by simpa[svNil] using OwL.nil,fun _ _ h=>(by cases h)⟩) ?_
  ·obtain ⟨sv,K,g1,g2,g3,g4,g5⟩:=hXj j hj
   exact ⟨sv,K,g1,g2,g3,g4.mono hm6,g5,fun b hb=>by have:=(g4.blk_lo hb).2;omega⟩
  clear hX hXn hXj hX6 hb86 hb10 hb8 hm5 hm6 hm46 hXl h5
  rintro q3 a m7 hIn
  obtain ⟨z,svs,cv,hzq,rfl,hm7,hb10l,hb8,hb10,hX,hXl,hXn,hXj,hcv,hcur,hapc⟩:=(hK _ _ _).1 hIn
  clear hIn
  simp
  refine bbind_dec (fun hzl=>?_) fun hzl=>?_
  ·have hwz:=step64 hzl (by omega)
   obtain ⟨q3,rfl⟩: ∃q',q3=q'+1:=⟨q3-1,by omega⟩
   obtain ⟨bq,oq,hpq,hlq⟩:=(hpr.mono (hm4.trans hm7)).at hzl
   have hPz:=hPlt _ (List.getElem_mem hzl)
   have hPz':P[z]? =some P[z]:=List.getElem?_eq_getElem hzl
   generalize P[z]=x at*
   obtain ⟨bv,ov,hpv,hlv⟩:=hr0 x hPz.1 hPz.2
   obtain ⟨bt,ot,hbt,hpt,hlt,_⟩:=hX.at (i:=i) (by omega)
   have hlt':loadE m7 1 false (.ptr bt ot)=some cv.val:=by
    rw[hlt]
    rw[List.getElem?_eq_getElem (by omega)] at hcv
    simp only[Option.some.injEq] at hcv
    rw[hcv]
   have hr67:=readB_mono hm7 hr6
   generalize hy:(ds.getD x.toNat 0:Nat)=y at*
   simp[hpq,hlq]
   refine W_draw (fun _ _ _=>True) (by simp[maxDst]) ?_
   refine D_pc 0 10 [10,11,12,13] ?_
   simp[bx hb8,hpt,hlt',bx hr67,hpv,hlv m7 hm7]
   intro fs' hfs'
   refine D_A rfl trivial ?_
   simp[fillA,setN]
   intro bl
   refine D_X rfl rfl fun m8 hm8 hf=>?_
   have hf10:=hf 10
   simp[upd] at hf10
   have hsc8:sliceCells m8 1 (.slice bl 0 1 1 none)=some (1,[.int .i64 y]):=by simp[sliceCells,readB,hf10,ABlk.cells,readN]
   have hcur8:=hcur.mono hm8
   obtain ⟨cv',m9,happ,hch9,hcur9,hbl9⟩:=hcur8.push (by have:=hm8.length_le;omega) (by_:=8) (by decide) (y:Int) (by simp;omega)
   have hcb: ∀b,cv.val.blk=some b→b10<b:=fun b hb=>by have:=(hcur.blk_lo hb).1;omega
   have hX8:=hX.mono hm8
   have hX9:=hX8.ch hch9 fun b hb hbb=>hapc b hb hbb
   have hm79:m4<+:m9:=hch9.pre (hm7.trans hm8) fun b hb hbb=>by have:=hcb b hbb;omega
   have hb89:=hch9.read (fun hb=>by have:=hcb _ hb;omega) (readB_mono hm8 hb8)
   have hb109:=hch9.read (fun hb=>by have:=hcb _ hb;omega) (readB_mono hm8 hb10)
   simp[hsc8,happ]
   refine ⟨by simp[lateOf,ROp.ev,hb89],?_⟩
   refine D_pc 12 1 [13] ?_
   simp[hpt]
   intro fs3 _
   refine D_W rfl rfl fun m10 hm10 _=>?_
   have hX10:=hX9.mono hm10
   have hcur10:=hcur9.mono hm10
   obtain ⟨hcl',hcc'⟩:=Sl.self (Ow.sl hcur10)
   obtain ⟨bt',ot',hbt',hpt',_,hstt⟩:=hX10.at (i:=i) (by omega)
   obtain ⟨rfl,rfl⟩:bt'=bt∧ot'=ot:=by have:=(hpt' .i64).symm.trans (hpt .i64);simpa using this
   obtain ⟨m11,hst11,hch11,hX11⟩:=hstt ⟨cv',hcc',hcl'⟩
   simp only[svV] at hst11
   simp[hst11]
   refine D_end fun m12 hm12 _=>?_
   simp[hwz]
   have htb: ∀b,b=bt'→m4.length≤b:=fun b hb=>by have:=(hX10.blk_lo hbt').1;omega
   have hapc':Ap tl cv':=fun b hb hbb=>by
    rcases hbl9 b hbb with h1|h1
    ·exact hapc b hb h1
    ·have:=(hX8.blk_lo hb).2;omega
   have hbtl:tl.blk=some m4.length:=by assumption
   have hbte:bt'=m4.length:=by rw[hbtl] at hbt';simpa using hbt'.symm
   refine ⟨q3,by omega,(hK _ _ _).2 ⟨z+1,svs.set i ⟨cv',hcc',hcl'⟩,⟨cv',hcc',hcl'⟩,by omega,by simp,(hch11.pre (hm79.trans hm10) fun b hb hbb=>by have:=htb b hbb;omega).trans hm12,?_,readB_mono hm12 (hch11.read (by omega) (readB_mono hm10 hb89)),readB_mono hm12 (hch11.read (by omega) (readB_mono hm10 hb109)),hX11.mono hm12,by simpa using hXl,fun j h1 h2=>?_,fun j hj=>?_,List.getElem?_set_self (by omega),?_,hapc'⟩⟩
   ·have h1:=hm8.length_le
    have h2:=hch9.len
    have h3:=hm10.length_le
    have h4:=hch11.len
    have h5:=hm12.length_le
    omega
   ·rw[List.getElem?_set_ne (by omega)];exact hXn j h1 h2
   ·obtain ⟨sv,K,g1,g2,g3,g4,g5,g6⟩:=hXj j hj
    refine ⟨sv,K,by rw[List.getElem?_set_ne (by omega)];exact g1,g2,g3,?_,g5,g6⟩
    refine ((((g4.mono hm8).ch hch9 fun b hb hbb=>?_).mono hm10).ch hch11 fun b hb hbb=>?_).mono hm12
    ·have:=g6 b hb;have:=hcb b hbb;omega
    ·exact g5 b (by rw[hbt',hbb]) hb
   ·have htk:P.take (z+1)=P.take z++ [x]:=by rw[List.take_add_one,hPz'];rfl
    rw[htk,List.map_append]
    have hyy: [(y:Int)]= [x].map fun x=>(ds.getD x.toNat 0:Int):=by simp[←hy]
    rw[←hyy]
    exact (hcur10.ch hch11 fun b hb hbb=>hapc' b (by rw[hbt',hbb]) hb).mono hm12
  ·have hzl:z=P.length:=by omega
   subst hzl
   rw[List.take_length] at hcur
   simp[bx hb10]
   have hbtl:tl.blk=some m4.length:=by assumption
   have next: ∀m' (svs':List Sv) (sv:Sv) K',m4<+:m'→readB m' (m4.length+1)=some [tl]→OwL svV m4.length m' 36 tl svs'→svs'.length=l.length→(∀(j:Nat),i<j→j<l.length→svs'[j]? =some svNil)→
     (∀(j:Nat),j<i→ ∃sv K,svs'[j]? =some sv∧IsKey l (fun a=>ds.getD a 0) j K∧K.length<2^62∧OwL (AVal.int .i64) m4.length m' 3 sv.val K∧Ap tl sv.val)→svs'[i]? =some sv→IsKey l (fun a=>ds.getD a 0) i K'→K'.length<2^62→OwL (AVal.int .i64) m4.length m' 3 sv.val K'→Ap tl sv.val→
     I q2 (h44_2 (.ptr m.length 0) t3 (.ptr b6 0) (.int .i64 k) (.ptr (m4.length+1) 0) s (.int .i64 l.length) (.int .i64 (i+1:Nat))) m':=by
    intro m' svs' sv K' g1 g2 g3 g4 g5 g6 g7 g8 g9 g10 g11
    refine (hI _ _ _).2 ⟨i+1,svs',by omega,rfl,g1,g2,g3,g4,fun j h1 h2=>g5 j (by omega) h2,fun j hj=>?_⟩
    by_cases hji:j=i
    ·subst hji;exact ⟨sv,K',g7,g8,g9,g10,g11⟩
    ·exact g6 j (by omega)
   cases hu:isU l[i]
   ·have hk12: ¬l[i].kind=12:=by simpa[isU] using hu
    simp[beqF hk12,hw]
    have hN:=next m7 svs cv _ hm7 hb8 hX hXl hXn (fun j hj=>by
     obtain ⟨sv,K,g1,g2,g3,g4,g5,_⟩:=hXj j hj
     exact ⟨sv,K,g1,g2,g3,g4,g5⟩) hcv ⟨fun h=>by (rw[hmd,hu] at h;cases h),fun _=>by rw[hPL.2 (by rw[hmd];exact hu)]⟩ (by simp;omega) (hcur.lo' (by omega)) hapc
    exact ⟨q2,by omega,by simpa using hN⟩
   ·have hk12:l[i].kind=12:=by simpa[isU] using hu
    obtain ⟨O,hPO,hOn,hOm⟩:=hPL.1 (by rw[hmd];exact hu)
    have hP12:P.length≤12:=by
     rw[hPO,List.length_map]
     exact hn.few hg i O hOn fun j hj=>(hOm j).1 hj
    obtain ⟨bt,ot,hbt,hpt,hlt,_⟩:=hX.at (i:=i) (by omega)
    have hcvv:svs[i]'(by omega)=cv:=by
     rw[List.getElem?_eq_getElem (by omega)] at hcv
     simpa using hcv
    rw[hcvv] at hlt
    simp only[svV] at hlt
    simp[hk12,bx hb8,hpt,hlt]
    have hcb: ∀b,cv.val.blk=some b→b10<b:=fun b hb=>by have:=(hcur.blk_lo hb).1;omega
    refine C_of (k82 cv.val 3 (b10+1) m4 (by omega) _ (by simp;omega) m7 hm7 hcur) ?_
    rintro v8 m8 ⟨hm8,hch8,ys,hys,hperm,hsort⟩
    have hb88:=hch8.read (fun hb=>by have:=hcb _ hb;omega) hb8
    have hX8:=hX.ch hch8 fun b hb hbb=>hapc b hb hbb
    have hlt8:loadE m8 1 false (.ptr bt ot)=some cv.val:=by
     obtain ⟨bt',ot',_,hpt',hlt',_⟩:=hX8.at (i:=i) (by omega)
     obtain ⟨rfl,rfl⟩:bt'=bt∧ot'=ot:=by have:=(hpt' .i64).symm.trans (hpt .i64);simpa using this
     rw[hlt',hcvv]
    have hyl:=hperm.length_eq
    simp
    refine W_draw (fun _ _ _=>True) (by simp[maxDst]) ?_
    refine D_pc 0 6 [6,7,8] ?_
    simp[bx hb88,hpt,hlt8]
    intro fs' hfs'
    refine D_X rfl rfl fun m9 hm9 _=>?_
    simp
    refine C_of (k83 cv.val 3 (b10+1) m4 (by omega) ys (by rw[hyl];simp;omega) m9 (hm8.trans hm9) (hys.mono hm9)) ?_
    rintro v m10 ⟨hm10,hch10,hcp,hvb⟩
    have hb810:=hch10.read (fun hb=>by have:=hcb _ hb;omega) (readB_mono hm9 hb88)
    have hX10:=(hX8.mono hm9).ch hch10 fun b hb hbb=>hapc b hb hbb
    refine ⟨by simp[lateOf,ROp.ev,hb810],?_⟩
    refine D_pc 7 1 [8] ?_
    simp[hpt]
    intro fs3 _
    refine D_W rfl rfl fun m11 hm11 _=>?_
    have hX11:=hX10.mono hm11
    have hcp11:=hcp.mono hm11
    obtain ⟨hvl,hvc⟩:=Sl.self (Ow.sl hcp11)
    obtain ⟨bt',ot',hbt',hpt',_,hstt⟩:=hX11.at (i:=i) (by omega)
    obtain ⟨rfl,rfl⟩:bt'=bt∧ot'=ot:=by have:=(hpt' .i64).symm.trans (hpt .i64);simpa using this
    obtain ⟨m12,hst12,hch12,hX12⟩:=hstt ⟨v,hvc,hvl⟩
    simp only[svV] at hst12
    simp[hst12]
    refine D_end fun m13 hm13 _=>?_
    simp[hw]
    have hbte:bt'=m4.length:=by rw[hbtl] at hbt;simpa using hbt.symm
    have hapv:Ap tl v:=fun b hb hbb=>hapc b hb (by rw[←hvb];exact hbb)
    have hsc:=cp_sorted (ys:=ys) hsort ys.length (Nat.le_refl _)
    rw[List.take_length] at hsc
    have hN:=next m13 (svs.set i ⟨v,hvc,hvl⟩) ⟨v,hvc,hvl⟩ (cp ys ys.length) ((hch12.pre (hm10.trans hm11) fun b hb hbb=>by omega).trans hm13) (readB_mono hm13 (hch12.read (by omega) (readB_mono hm11 hb810))) (hX12.mono hm13) (by simpa using hXl) (fun j h1 h2=>by rw[List.getElem?_set_ne (by omega)];exact hXn j h1 h2) (fun j hj=>by
     obtain ⟨sv,K,g1,g2,g3,g4,g5,g6⟩:=hXj j hj
     refine ⟨sv,K,by rw[List.getElem?_set_ne (by omega)];exact g1,g2,g3,?_,g5⟩
     refine (((((g4.ch hch8 fun b hb hbb=>?_).mono hm9).ch hch10 fun b hb hbb=>?_).mono hm11).ch hch12 fun b hb hbb=>?_).mono hm13
     ·have:=g6 b hb;have:=hcb b hbb;omega
     ·have:=g6 b hb;have:=hcb b hbb;omega
     ·exact g5 b (by rw[hbt,hbb]) hb) (List.getElem?_set_self (by omega)) ⟨fun _=>⟨hsc.1,fun v=>by
      rw[hsc.2.1,hperm.mem_iff,List.mem_map]
      constructor
      ·rintro ⟨x,hx,rfl⟩
       rw[hPO] at hx
       obtain ⟨z,hz,rfl⟩:=List.mem_map.1 hx
       exact ⟨z,(hOm z).1 hz,by simp⟩
      ·rintro ⟨z,hz,rfl⟩
       exact ⟨z,by rw[hPO];exact List.mem_map.2 ⟨z,(hOm z).2 hz,rfl⟩,by simp⟩⟩,fun h=>by (rw[hmd,hu] at h;cases h)⟩ (by
      have h1:=cp_length ys ys.length
      have h2:ys.length=P.length:=by simpa using hyl
      omega) (((hcp11.ch hch12 fun b hb hbb=>hapv b (by rw[hbt,hbb]) hb).mono hm13).lo' (by omega)) hapv
    exact ⟨q2,by omega,by simpa using hN⟩
 ·have hil:i=l.length:=by omega
  subst hil
  simp
  have hm05:=hm04.trans hm5
  have hb15:=readB_mono (hm4.trans hm5) hb1
  obtain ⟨ks,hksl,hks⟩:=list_of l.length (p:=fun j K=> ∃sv,svs[j]? =some sv∧IsKey l (fun a=>ds.getD a 0) j K∧K.length<2^62∧RInts m5 sv.val K) fun j hj=>by
   obtain ⟨sv,K,g1,g2,g3,g4,_⟩:=hXj j hj
   exact ⟨K,sv,g1,g2,g3,g4.ints⟩
  have hrr:RRows m5 tl ks:=by
   refine ⟨svs.map svV,?_,fun j K hK=>?_⟩
   ·have:=Ow.sl hX
    rw[hXl] at this
    rw[hksl];exact this
   ·obtain ⟨sv,g1,_,_,g4⟩:=hks j K hK
    exact ⟨sv.val,by rw[List.getElem?_map,g1];rfl,g4⟩
  have hr65:=readB_mono hm5 hr6
  have hdsi:RInts m5 vr (ds.map fun z:Nat=>(z:Int)):=(ints_of_nat hds).mono hm5
  have hso:=hdense.sameOrd
  have hd0:d≠0:=by omega
  have hOrd:Ord (fun a b=>cmpR l (R l d) d a.toNat b.toNat) (fun x=>0≤x∧x<l.length):=by
   have h:=(cmpR_ord l (R l d) d).pull (fun a:Int=>a.toNat) (E:=fun x:Int=>0≤x∧x<(l.length:Int)) fun _ _=>trivial
   exact ⟨h.anti,h.trans⟩
  simp[bx hb15,hs.len]
  refine C_of (k79 l.length (by omega) 84 [] [.ptr b6 0,.ptr (m4.length+1) 0] _ m5 hOrd fun a b ha hb m' hm'=>?_) ?_
  ·obtain ⟨a,rfl⟩: ∃a':Nat,a=a':=⟨a.toNat,by omega⟩
   obtain ⟨b,rfl⟩: ∃b':Nat,b=b':=⟨b.toNat,by omega⟩
   have hal:a<ds.length:=by rw[hdense.len];omega
   have hbl':b<ds.length:=by rw[hdense.len];omega
   have hksa:ks[a]? =some (ks[a]'(by omega)):=List.getElem?_eq_getElem _
   have hksb:ks[b]? =some (ks[b]'(by omega)):=List.getElem?_eq_getElem _
   obtain ⟨_,_,ka,_⟩:=hks a _ hksa
   obtain ⟨_,_,kb,_⟩:=hks b _ hksb
   have hnx:=next_same hg hd0 hso (a:=a) (b:=b) (by omega) (by omega) ka kb
   have:=k84 vr tl (ds.map fun z:Nat=>(z:Int)) ks a b b6 (m4.length+1) m' (readB_mono hm' hr65) (readB_mono hm' hb8) (hdsi.mono hm') (hrr.mono hm') (by simpa using hal) (by simpa using hbl') (by simp;rw[hksl,hdense.len]) fun K hK=>by
    obtain ⟨j,hj,rfl⟩:=List.mem_iff_getElem.1 hK
    obtain ⟨_,_,_,h,_⟩:=hks j _ (List.getElem?_eq_getElem hj)
    exact h
   refine (show ACalls Tryz.prog 84 ([]++ [.int .i64 (a:Int),.int .i64 (b:Int)]++ [.ptr b6 0,.ptr (m4.length+1) 0]) m' _ from this).mono fun v m'' h=>⟨?_,h.2⟩
   rw[h.1]
   congr 1
   rw[Int.toNat_natCast,Int.toNat_natCast,←hnx]
   simp only[thenC,firstNZ_cons]
   have h0:firstNZ []=0:=rfl
   rw[h0]
   simp only[List.getElem_map,List.getD,List.getElem?_eq_getElem hal,List.getElem?_eq_getElem hbl',Option.getD_some]
   split
   ·rfl
   ·split<;>simp_all
  rintro v m8 ⟨hm8,t',ds',k',rfl,hds',hdense'⟩
  replace hdense':DenseOf l.length (fun a b=>R l (d+1) a<R l (d+1) b) ds' k':=hdense'.congr fun a b ha hb=>by
   rw[R_lt l d ha,Int.toNat_natCast,Int.toNat_natCast]
  have hle:k≤k':=hdense.mono hdense' fun a b ha _ h=>R_refine l d ha h
  have hm08:=hm05.trans hm8
  simp
  by_cases hkk:k'=k
  ·subst hkk
   simp[hm08]
   refine ⟨ds',hds'.lo' (by have:=hm04.length_le;have:=hm5.length_le;omega),k',hdense'.congr fun a b ha hb=>?_⟩
   have hsame:SameOrd l.length (R l (d+1)) (R l d):=fun a b ha hb=>hdense.same hdense' (fun a b ha _ h=>R_refine l d ha h) a b ha hb
   have hst:=R_stable hg hd0 hsame
   have hdn:d≤l.length+1:=by
    have:=hdense.le
    omega
   have e1: ∀a,a<l.length→RR l a=R l (d+1) a:=fun a ha=>by
    have h1:=hst (l.length+1-d) a ha
    rw[show d+(l.length+1-d)=l.length+1 by omega] at h1
    rw[RR,h1,hst 1 a ha]
   rw[e1 a ha,e1 b hb]
  ·have hkk': ¬((k':Int)=k):=by omega
   have hb68:m8[b6]? =some (.own [vr] 36 none):=prefix_get (hm5.trans hm8) hb6
   obtain ⟨htl,htc⟩:=Sl.self (Ow.sl hds')
   simp[beqF hkk']
   rw[store_at hb68 htc htl]
   simp
   have hb6l:b6<m4.length:=(List.getElem?_eq_some_iff.1 hb6).1
   have hch:Ch (fun b=>b=b6) m8 (m8.set b6 (.own [t'] 36 none)):=Ch.setS _ rfl
   have hdn:=hdense'.le
   have hkpos:l.length≠0→1≤k:=hdense.pos
   have hb6l5:m4.length≤m5.length:=hm5.length_le
   refine ⟨l.length-k',by omega,(hJ _ _ _).2 ⟨d+1,k',t',ds',by omega,by omega,by omega,hdense',by simp,hch.pre ((hm4.trans hm5).trans hm8) fun b hb hbb=>by omega,by rw[List.getElem?_set_self (List.getElem?_eq_some_iff.1 hb68).1],fun h=>by have:=(hds'.blk_lo h).1;omega,(hds'.ch hch fun b hb hbb=>by have:=(hds'.blk_lo hb).1;omega).lo' (by have:=hm04.length_le;omega)⟩⟩
end Go.Proofs.YtlniliigcnedmaaGreatDoor
namespace Go.Proofs.YtlniliigcnedmaaGreatDoor
open Go Ax
open Relation
set_option maxRecDepth 100000
theorem k91 (a b:Int) (m:AMem):ACalls Tryz.prog 91 [.int .i64 a,.int .i64 b] m fun v m'=>v= .int .i64 (cmpI a b)∧m'=m:=by
 refine w91 ?_
 by_cases h:a<b
 ·simp[h,cmpI]
 ·by_cases h':b<a
  ·simp[h,h',cmpI]
  ·simp[h,h',cmpI]
theorem ints_append {m:AMem} {s:AVal} {xs:List Int} (h:RInts m s xs):sliceCells m 1 s=some (xs.length,xs.map fun x=> .int .i64 x):=Sl.cells h
theorem toNat_map {xs:List Int} {n:Nat} (h: ∀x∈xs,0≤x∧x<n):(xs.map fun x=>AVal.int .i64 x)=(xs.map Int.toNat).map natI:=by
 rw[List.map_map]
 refine List.map_congr_left fun x hx=>?_
 have:=h x hx
 simp only[Function.comp,natI]
 rw[Int.toNat_of_nonneg this.1]
set_option maxHeartbeats 4000000 in
theorem k56 (s:AVal) (l:List Md) (i:Nat) (hi:i<l.length) (hu:isU l[i]=true) (m:AMem) (hs:RTab m s l) (hg:goodT l) (hn:l.length≤512) (h64: ∀x∈l,x.elems.length≤64):
  ACalls Tryz.prog 56 [s,.int .i64 i] m fun v m'=>m<+:m'∧ ∃O,OwL natI m.length m' 3 v O∧O.Nodup∧ ∀j,j∈O↔IsPart l i j:=by
 refine w56 ?_
 have hc1:(l.length:Int)≤281474976710656:=by omega
 have hc2:(l.length:Int)≤9223372036854775807:=by omega
 simp[hs.len,hc1,hc2]
 have hS0:=OwL.rep (f:=AVal.bool) m 4 l.length false
 have hm1:m<+:m++ [.own (List.replicate l.length (.bool false)) 4 none]:=List.prefix_append _ _
 have ha:(AVal.slice m.length 0 l.length l.length none).blk=some m.length:=rfl
 have hl1:(m++ [ABlk.own (List.replicate l.length (.bool false)) 4 none]).length=m.length+1:=by simp
 generalize AVal.slice m.length 0 l.length l.length none=t6 at*
 generalize m++ [.own (List.replicate l.length (.bool false)) 4 none]=m1 at*
 have hQ0:=OwL.new (f:=natI) m1 3 [i]
 simp[setN,fillA] at hQ0 ⊢
 have hw0:wtS l (List.replicate l.length false)≤64*l.length:=wtS_le h64
 obtain ⟨I,hI⟩: ∃I:Nat→AFrame→AMem→Prop,∀n a m',I n a m'↔(∃S Q O t6 t7 t5 k,(Q.drop k).length+wtS l S=n∧a=h56_0 s t5 t6 t7 (.int .i64 (k:Nat))∧m<+:m'∧OwL AVal.bool m.length m' 4 t6 S∧OwL natI m.length m' 3 t7 Q∧OwL natI m.length m' 3 t5 O∧Ap t6 t7∧Ap t6 t5∧Ap t7 t5∧PInv l i S (Q.drop k)∧OutOk l S O∧O.length+cntF S≤l.length∧Q.length+wtS l S≤64*l.length+1):=⟨_,fun _ _ _=>Iff.rfl⟩
 refine W_loop I (1+wtS l (List.replicate l.length false)) ((hI _ _ _).2 ⟨List.replicate l.length false,[i],[],t6,_,.nilslice,0,by simp,rfl,hm1.trans (List.prefix_append _ _),hS0.mono (List.prefix_append _ _),OwL.lo' hQ0 (by omega),OwL.nil,?_,fun _ _ h=>(by cases h),fun _ _ h=>(by cases h),PInv.init hi,⟨List.nodup_nil,fun j=>?_⟩,?_,by simp;omega⟩) ?_
 ·intro b hb
  rw[ha] at hb
  cases hb
  simp[AVal.blk,hl1]
 ·rw[List.getElem?_replicate]
  split<;>simp
 ·simp[cntF]
 rintro n a m2 hIn
 obtain ⟨S,Q,O,t6,t7,t5,k,hcnt,rfl,hm2,hS,hQ,hO,hap1,hap2,hap3,hinv,hOk,hOl,hQw⟩:=(hI _ _ _).1 hIn
 clear hIn
 simp[hQ.len]
 refine bbind_dec (fun h=>?_) fun h=>?_
 ·have hql:k<Q.length:=h
  have hw:=step64 (k:=k) (n:=Q.length) hql (by omega)
  have hdrop:Q.drop k=Q[k]::Q.drop (k+1):=List.drop_eq_getElem_cons hql
  rw[hdrop] at hinv
  have hx:=hinv.q Q[k] List.mem_cons_self
  obtain ⟨b7,o7,_,h2,h3,_⟩:=hQ.at hql
  have hdl:(Q.drop k).length=(Q.drop (k+1)).length+1:=by rw[hdrop];rfl
  generalize Q[k]=x at*
  have hlx:l[x]? =some l[x]:=List.getElem?_eq_getElem hx.1
  have hxm:l[x]∈l:=List.getElem_mem hx.1
  have hmd:mdAt l x=l[x]:=mdAt_eq hx.1
  have hxS:x<S.length:=by rw[hinv.len];exact hx.1
  obtain ⟨b6,o6,hb6,h4,h5,hst6⟩:=hS.at hxS
  simp only[natI] at h3
  simp[h2,h3,h4,h5]
  by_cases hsx:S[x]=true
  ·simp[hsx,hw]
   exact ⟨n-1,by omega,(hI _ _ _).2 ⟨S,Q,O,t6,t7,t5,k+1,by omega,by simp,hm2,hS,hQ,hO,hap1,hap2,hap3,hinv.skip (by rw[List.getElem?_eq_getElem hxS,hsx]),hOk,hOl,hQw⟩⟩
  have hsf:S[x]=false:=by simpa using hsx
  have hsf':S[x]? =some false:=by rw[List.getElem?_eq_getElem hxS,hsf]
  have hcf:=cntF_set hsf'
  have hwt:=wtS_set (l:=l) hsf' hx.1
  rw[hmd] at hwt
  obtain ⟨m3,hst,hch3,hS3⟩:=hst6 true
  have hm3:m<+:m3:=hch3.pre hm2 fun b hb=>by have:=(hS.blk_lo hb6).1;omega
  have hQ3:=hQ.ch hch3 fun b hb hbb=>hap1 b6 hb6 (by rw[←hbb];exact hb)
  have hO3:=hO.ch hch3 fun b hb hbb=>hap2 b6 hb6 (by rw[←hbb];exact hb)
  obtain ⟨bj,oj,e,h10,h11,he⟩:=hs.elems hx.1
  obtain ⟨h11a,h11b⟩:=h11 m3 hm3
  have hOmem: ∀z,(S.set x true)[z]? =some true↔z=x∨S[z]? =some true:=fun z=>by
   constructor
   ·exact of_set
   ·rintro (rfl|h)
    ·rw[List.getElem?_set_self hxS]
    ·exact set_true h
  by_cases hxu:isU l[x]=true
  ·have hk12:l[x].kind=12:=by simpa[isU] using hxu
   have hgx:=hg _ hxm
   have hsc:=ints_append (he.mono hm3)
   rw[toNat_map hgx] at hsc
   have h64x:=h64 _ hxm
   obtain ⟨t7',m4,happ,hch4,hQ4,hbl⟩:=hQ3.append (by have:=hm3.length_le;omega) (by_:=8) (by decide) (l[x].elems.map Int.toNat) (by simp;omega)
   simp only[List.length_map] at happ
   rw[List.map_map] at happ hsc
   have hdd:(Q++l[x].elems.map Int.toNat).drop (k+1)=Q.drop (k+1)++l[x].elems.map Int.toNat:=List.drop_append_of_le_length (by omega)
   simp[hsf,h4,hst,h10,h11a,h11b,hk12,hsc,happ,hw]
   refine ⟨n-1,by omega,(hI _ _ _).2 ⟨S.set x true,_,O,t6,t7',t5,k+1,?_,by simp,hch4.pre hm3 fun b hb hbb=>by have:=(hQ3.blk_lo hbb).1;omega,hS3.ch hch4 fun b hb hbb=>hap1 b hb hbb,hQ4,hO3.ch hch4 fun b hb hbb=>hap3 b hbb hb,fun b hb hbb=>?_,hap2,fun b hb hbb=>?_,?_,⟨hOk.1,fun z=>?_⟩,by omega,?_⟩⟩
   ·rw[hdd,List.length_append,List.length_map];omega
   ·rcases hbl b hbb with h1|h1
    ·exact hap1 b hb h1
    ·have:=(hS3.blk_lo hb).2;omega
   ·rcases hbl b hb with h1|h1
    ·exact hap3 b h1 hbb
    ·have:=(hO3.blk_lo hbb).2;omega
   ·rw[hdd]
    exact hinv.mark hg hlx (fun _=>rfl) fun h=>by rw[hxu] at h;cases h
   ·rw[hOk.2,hOmem]
    constructor
    ·rintro ⟨h1,h2⟩;exact ⟨.inr h1,h2⟩
    ·rintro ⟨rfl|h1,h2⟩
     ·have:=h2 _ hlx;rw[hxu] at this;cases this
     ·exact ⟨h1,h2⟩
   ·rw[List.length_append,List.length_map];omega
  ·have hxu:isU l[x]=false:=by simpa using hxu
   have hk12: ¬l[x].kind=12:=by simpa[isU] using hxu
   have hm6:m3<+:m3++ [.own [.int .i64 (x:Int)] 3 none]:=List.prefix_append _ _
   have hml:m.length≤(m3++ [ABlk.own [.int .i64 (x:Int)] 3 none]).length:=by have:=hm3.length_le;simp;omega
   obtain ⟨t5',m4,happ,hch4,hO4,hbl⟩:=(hO3.mono hm6).push hml (by_:=8) (by decide) x (by omega)
   simp only[natI] at happ
   have hxO:x∉O:=fun h=>by have:=((hOk.2 x).1 h).1;rw[hsf'] at this;cases this
   simp[hsf,h4,hst,h10,h11a,beqF hk12,fillA,setN,happ,hw]
   refine ⟨(Q.drop (k+1)).length+wtS l (S.set x true),by omega,(hI _ _ _).2 ⟨S.set x true,Q,O++ [x],t6,t7,t5',k+1,rfl,by simp,hch4.pre (hm3.trans hm6) fun b hb hbb=>by have:=(hO3.blk_lo hbb).1;omega,(hS3.mono hm6).ch hch4 fun b hb hbb=>hap2 b hb hbb,(hQ3.mono hm6).ch hch4 fun b hb hbb=>hap3 b hb hbb,hO4,hap1,fun b hb hbb=>?_,fun b hb hbb=>?_,?_,⟨List.nodup_append.2 ⟨hOk.1,by simp,fun a ha b hb=>by rw[List.mem_singleton] at hb;subst hb;exact fun h=>hxO (h▸ha)⟩,fun z=>?_⟩,by simp;omega,by omega⟩⟩
   ·rcases hbl b hbb with h1|h1
    ·exact hap2 b hb h1
    ·have:=(hS3.blk_lo hb).2;simp at h1;omega
   ·rcases hbl b hbb with h1|h1
    ·exact hap3 b hb h1
    ·have:=(hQ3.blk_lo hb).2;simp at h1;omega
   ·exact hinv.mark hg hlx (fun h=>by rw[hxu] at h;cases h) fun _=>rfl
   ·rw[List.mem_append,List.mem_singleton,hOk.2,hOmem]
    constructor
    ·rintro (⟨h1,h2⟩|rfl)
     ·exact ⟨.inr h1,h2⟩
     ·exact ⟨.inl rfl,fun y hy=>by rw[hlx] at hy;cases hy;exact hxu⟩
    ·rintro ⟨rfl|h1,h2⟩
     ·exact .inr rfl
     ·exact .inl ⟨h1,h2⟩
 ·have hd:Q.drop k= []:=List.drop_eq_nil_of_le (by omega)
  rw[hd] at hinv
  simp
  refine ⟨hm2,O,hO,hOk.1,fun j=>?_⟩
  rw[hOk.2,hinv.done]
  constructor
  ·rintro ⟨rfl|h1,h2⟩
   ·have:=h2 _ (List.getElem?_eq_getElem hi);rw[hu] at this;cases this
   ·exact ⟨h1,h2⟩
  ·rintro ⟨h1,h2⟩;exact ⟨.inr h1,h2⟩
end Go.Proofs.YtlniliigcnedmaaGreatDoor
namespace Go.Proofs.YtlniliigcnedmaaGreatDoor
open Go Ax
set_option maxRecDepth 100000
set_option maxHeartbeats 4000000 in
theorem k55 (s rs:AVal) (ms rk:List Nat) (m:AMem) (hs:RInts m s (ms.map fun z:Nat=>(z:Int))) (hr:RInts m rs (rk.map fun z:Nat=>(z:Int))) (hb: ∀x∈ms,x<rk.length) (hn:ms.length<2^40):
  ACalls Tryz.prog 55 [s,rs] m fun v m'=>m<+:m'∧ ∃zs,OwL natI m.length m' 3 v zs∧SortedBy (fun a=>rk.getD a 0) ms zs:=by
 obtain ⟨r,hre⟩: ∃r:Nat→Nat,r=fun a=>rk.getD a 0:=⟨_,rfl⟩
 have hrx: ∀x,rk.getD x 0=r x:=fun x=>by rw[hre]
 rw[←hre]
 refine w55 ?_
 simp
 have hsl:=hs.len
 simp at hsl
 obtain ⟨I,hI⟩: ∃I:Nat→AFrame→AMem→Prop,∀n a m',I n a m'↔(∃(i:Nat) (zs:List Nat) (t:AVal),i+n=ms.length∧a=h55_0 s rs t (.int .i64 i)∧m<+:m'∧OwL natI m.length m' 3 t zs∧zs.length≤i∧SortedBy r (ms.take i) zs):=⟨_,fun _ _ _=>Iff.rfl⟩
 refine W_loop I ms.length ((hI _ _ _).2 ⟨0,[],.nilslice,by simp,rfl,List.prefix_refl _,OwL.nil,by simp,by simpa using SortedBy.nil⟩) ?_
 rintro n a m1 hIn
 obtain ⟨i,zs,t,hk,rfl,hm1,hZ,hZl,hSB⟩:=(hI _ _ _).1 hIn
 clear hIn
 simp[hsl]
 refine bbind_dec (fun hil=>?_) fun hil=>?_
 ·have hw:=step64 hil (by omega)
  obtain ⟨n,rfl⟩: ∃n',n=n'+1:=⟨n-1,by omega⟩
  have hyy:ms[i]? =some ms[i]:=List.getElem?_eq_getElem hil
  have htk:ms.take (i+1)=ms.take i++ [ms[i]]:=by rw[List.take_add_one,hyy];rfl
  have hyb:=hb _ (List.getElem_mem hil)
  have hsat: ∀m',m<+:m'→ ∃b o,(∀k,iaddrE 1 s (.int k i)=some (.ptr b o))∧loadE m' 1 false (.ptr b o)=some (.int .i64 (ms[i]:Nat)):=fun m' hm'=>by
   obtain ⟨b,o,h1,h2⟩:=(hs.mono hm').at (i:=i) (by simpa using hil)
   exact ⟨b,o,h1,by simpa using h2⟩
  have hrat: ∀x,x<rk.length→ ∃b o,(∀k,iaddrE 1 rs (.int k (x:Nat))=some (.ptr b o))∧ ∀m',m<+:m'→loadE m' 1 false (.ptr b o)=some (.int .i64 (r x:Nat)):=fun x hx=>by
   obtain ⟨b,o,h1,h2⟩:=hr.at (i:=x) (by simpa using hx)
   exact ⟨b,o,h1,fun m' hm'=>by rw[loadE_mono hm' h2,←hrx];simp[List.getD,hx]⟩
  have hzb: ∀z∈zs,z<rk.length:=fun z hz=>hb z (List.mem_of_mem_take (hSB.sub z hz))
  generalize ms[i]=y at*
  obtain ⟨by',oy,hyp,hyl⟩:=hrat y hyb
  simp
  refine W_JB (fun a m'=> ∃k:Nat,a.forget [0,1,5,6,7]=mat 93 [(0,s),(1,rs),(5,t),(6,.int .i64 i),(7,.int .i64 k)]∧m1<+:m'∧k≤zs.length∧(∀(j:Nat) z,j<k→zs[j]? =some z→r z<r y)∧ ∀z,zs[k]? =some z→ ¬r z<r y) ?_ ?_
  ·obtain ⟨I2,hI2⟩: ∃I:Nat→AFrame→AMem→Prop,∀n a m',I n a m'↔(∃(k:Nat),k+n=zs.length∧a=h55_1 s rs t (.int .i64 i) (.int .i64 k)∧m1<+:m'∧ ∀(j:Nat) z,j<k→zs[j]? =some z→r z<r y):=⟨_,fun _ _ _=>Iff.rfl⟩
   refine W_loop I2 zs.length ((hI2 _ _ _).2 ⟨0,by simp,rfl,List.prefix_refl _,fun _ _ h=>by omega⟩) ?_
   rintro n2 a m2 hIn
   obtain ⟨k,hk2,rfl,hm2,hlt⟩:=(hI2 _ _ _).1 hIn
   clear hIn
   replace hZ:=hZ.mono hm2
   replace hm1:=hm1.trans hm2
   simp
   refine W_drawPR (by simp[maxDst]) rfl rfl ?_
   by_cases hkl:k<zs.length
   ·have hzz:zs[k]? =some zs[k]:=List.getElem?_eq_getElem hkl
    have hzb':=hzb _ (List.getElem_mem hkl)
    obtain ⟨bz,oz,hbz,hpz,hlz,hstz⟩:=hZ.at hkl
    have hwk:=step64 hkl (by omega)
    obtain ⟨n2,rfl⟩: ∃n',n2=n'+1:=⟨n2-1,by omega⟩
    obtain ⟨br,or,hpr,hlr⟩:=hrat _ hzb'
    obtain ⟨bs,os,hps,hls⟩:=hsat m2 hm1
    simp only[natI] at hlz
    simp[hZ.len,hkl,hpz,hlz,hpr,hlr m2 hm1,hps,hls,hyp,hyl m2 hm1]
    intro m3 hm3
    refine bbind_dec (fun hc=>?_) fun hc=>?_
    ·simp[hwk]
     refine ⟨n2,by omega,(hI2 _ _ _).2 ⟨k+1,by omega,by simp,hm2.trans hm3,fun j z hj hz=>?_⟩⟩
     by_cases hjk:j=k
     ·subst hjk;rw[hzz] at hz;cases hz;exact hc
     ·exact hlt j z (by omega) hz
    ·simp
     exact ⟨k,rfl,hm2.trans hm3,by omega,fun j z hj hz=>hlt j z hj hz,fun z hz=>by rw[hzz] at hz;cases hz;omega⟩
   ·simp[hZ.len,hkl]
    intro m3 hm3
    exact ⟨k,rfl,hm2.trans hm3,by omega,fun j z hj hz=>hlt j z hj hz,fun z hz=>by rw[List.getElem?_eq_none (by omega)] at hz;cases hz⟩
  rintro a m2 ⟨k,ha,hm2,hkz,hlt,hge⟩
  replace hZ:=hZ.mono hm2
  replace hm1:=hm1.trans hm2
  simp[ha]
  refine W_drawPR (by simp[maxDst]) rfl rfl ?_
  by_cases hhit: ∃hkl:k<zs.length,r zs[k]=r y
  ·obtain ⟨hkl,heq⟩:=hhit
   have hzb':=hzb _ (List.getElem_mem hkl)
   obtain ⟨bz,oz,hbz,hpz,hlz,hstz⟩:=hZ.at hkl
   have hput:=hSB.hit (y:=y) hkl heq
   obtain ⟨br,or,hpr,hlr⟩:=hrat _ hzb'
   obtain ⟨bs,os,hps,hls⟩:=hsat m2 hm1
   simp only[natI] at hlz
   generalize zs[k]=z at*
   simp[hZ.len,hkl,hpz,hlz,hpr,hlr m2 hm1,hps,hls,hyp,hyl m2 hm1,heq]
   intro m3 hm3
   have hls3:=loadE_mono hm3 hls
   have hlz3:=loadE_mono hm3 hlz
   refine W_drawPR (by simp[maxDst]) rfl rfl ?_
   simp[hps,hls3,hpz,hlz3]
   intro m4 hm4
   have hZ4:=hZ.mono (hm3.trans hm4)
   refine bbind_dec (fun hlt=>?_) fun hlt=>?_
   ·obtain ⟨bz',oz',hbz',hpz',_,hstz'⟩:=hZ4.at hkl
    obtain ⟨rfl,rfl⟩:bz'=bz∧oz'=oz:=by have:=(hpz' .i64).symm.trans (hpz .i64);simpa using this
    obtain ⟨m5,hst,hch,hZ5⟩:=hstz' y
    simp only[natI] at hst
    rw[if_pos hlt] at hput
    simp[hps,loadE_mono hm4 hls3,hpz,hst,hw]
    exact ⟨n,by omega,(hI _ _ _).2 ⟨i+1,zs.set k y,t,by omega,by simp,hch.pre ((hm1.trans hm3).trans hm4) fun b hb=>by have:=(hZ4.blk_lo hbz').1;omega,hZ5,by simp;omega,by rw[htk];exact hput⟩⟩
   ·rw[if_neg hlt] at hput
    simp[hw]
    exact ⟨n,by omega,(hI _ _ _).2 ⟨i+1,zs,t,by omega,by simp,(hm1.trans hm3).trans hm4,hZ4,by omega,by rw[htk];exact hput⟩⟩
  ·have hne: ∀z,zs[k]? =some z→ ¬r z=r y:=fun z hz he=>hhit ⟨(List.getElem?_eq_some_iff.1 hz).1,by rw[(List.getElem?_eq_some_iff.1 hz).2];exact he⟩
   have hput:=hSB.put (y:=y) hkz (fun j z hj hz=>hlt j z hj hz) fun z hz=>⟨hge z hz,hne z hz⟩
   obtain ⟨bs,os,hps,hls⟩:=hsat m2 hm1
   by_cases hkl:k<zs.length
   ·have hzz:zs[k]? =some zs[k]:=List.getElem?_eq_getElem hkl
    have hzb':=hzb _ (List.getElem_mem hkl)
    obtain ⟨bz,oz,hbz,hpz,hlz,hstz⟩:=hZ.at hkl
    obtain ⟨br,or,hpr,hlr⟩:=hrat _ hzb'
    have hnz: ¬((r zs[k]:Int)=r y):=fun h=>hne _ hzz (by omega)
    simp only[natI] at hlz
    simp[hZ.len,hkl,hpz,hlz,hpr,hlr m2 hm1,hps,hls,hyp,hyl m2 hm1,beqF hnz]
    intro m3 hm3
    have hbk: ∀b,t.blk=some b→b<m3.length:=fun b hb=>by have:=(hZ.blk_lo hb).2;have:=hm3.length_le;omega
    have hm13:=hm1.trans hm3
    have hle3:=hm13.length_le
    have hZ3:=(hZ.mono hm3)
    have hN0:=OwL.new (f:=natI) m3 3 []
    have hm3a:m3<+:m3++ [.own [] 3 none]:=List.prefix_append _ _
    have hla:(m3++ [ABlk.own [] 3 none]).length=m3.length+1:=by simp
    have hb0:(AVal.slice m3.length 0 0 0 none).blk=some m3.length:=rfl
    simp only[List.map_nil,List.length_nil] at hN0
    simp[fillA]
    generalize AVal.slice m3.length 0 0 0 none=s0 at*
    generalize m3++ [.own [] 3 none]=m3a at*
    obtain ⟨t1,h1,h2,_⟩:=(hZ3.mono hm3a).take (i:=k) hkz
    have hAB:(zs.take k).length+(zs.drop k).length=zs.length:=by simp;omega
    generalize hA:zs.take k=A at*
    generalize hB:zs.drop k=B at*
    have hc1:=(Ow.sl h2).cells
    obtain ⟨s1,m4,happ1,hch1,hN1,hbl1⟩:=hN0.append (by omega) (by_:=8) (by decide) A (by show (0+A.length)*8≤_;omega)
    simp only[List.nil_append] at hN1
    have hZ4:=(hZ3.mono hm3a).ch hch1 fun b hb hbb=>by have:=hbk b hb;rw[hb0] at hbb;simp at hbb;omega
    have hm4:m<+:m4:=hch1.pre (hm13.trans hm3a) fun b hb hbb=>by rw[hb0] at hbb;simp at hbb;omega
    obtain ⟨bs',os',hps',hls'⟩:=hsat m4 hm4
    have hch1l:=hch1.len
    simp[h1,hc1,happ1,hps',hls',fillA,setN]
    have hm4a:m4<+:m4++ [.own [.int .i64 (y:Int)] 3 none]:=List.prefix_append _ _
    obtain ⟨s2,m5,happ2,hch2,hN2,hbl2⟩:=(hN1.mono hm4a).push (by simp;omega) (by_:=8) (by decide) y (by omega)
    simp only[natI] at happ2
    have hlo1: ∀b,s1.blk=some b→m3.length≤b:=fun b hb=>(hN1.blk_lo hb).1
    have hZ5:=(hZ4.mono hm4a).ch hch2 fun b hb hbb=>by have:=hbk b hb;have:=hlo1 b hbb;omega
    have hm5:m<+:m5:=hch2.pre (hm4.trans hm4a) fun b hb hbb=>by have:=hlo1 b hbb;omega
    obtain ⟨t2,h3,h4,_⟩:=hZ5.drop (i:=k) hkz
    rw[hB] at h4
    have hc2:=(Ow.sl h4).cells
    have hch2l:=hch2.len
    have hm4al:=hm4a.length_le
    obtain ⟨s3,m6,happ3,hch3,hN3,hbl3⟩:=hN2.append (by omega) (by_:=8) (by decide) B (by simp;omega)
    have hlo2: ∀b,s2.blk=some b→m3.length≤b:=fun b hb=>(hN2.blk_lo hb).1
    have hm6:m<+:m6:=hch3.pre hm5 fun b hb hbb=>by have:=hlo2 b hbb;omega
    simp[happ2,h3,hc2,happ3,hw]
    exact ⟨n,by omega,(hI _ _ _).2 ⟨i+1,_,s3,by omega,by simp,hm6,hN3.lo' (by omega),by simp;omega,by (rw[htk];exact hput)⟩⟩
   ·simp[hZ.len,hkl]
    intro m3 hm3
    have hbk: ∀b,t.blk=some b→b<m3.length:=fun b hb=>by have:=(hZ.blk_lo hb).2;have:=hm3.length_le;omega
    have hm13:=hm1.trans hm3
    have hle3:=hm13.length_le
    have hZ3:=(hZ.mono hm3)
    have hN0:=OwL.new (f:=natI) m3 3 []
    have hm3a:m3<+:m3++ [.own [] 3 none]:=List.prefix_append _ _
    have hla:(m3++ [ABlk.own [] 3 none]).length=m3.length+1:=by simp
    have hb0:(AVal.slice m3.length 0 0 0 none).blk=some m3.length:=rfl
    simp only[List.map_nil,List.length_nil] at hN0
    simp[fillA]
    generalize AVal.slice m3.length 0 0 0 none=s0 at*
    generalize m3++ [.own [] 3 none]=m3a at*
    obtain ⟨t1,h1,h2,_⟩:=(hZ3.mono hm3a).take (i:=k) hkz
    have hAB:(zs.take k).length+(zs.drop k).length=zs.length:=by simp;omega
    generalize hA:zs.take k=A at*
    generalize hB:zs.drop k=B at*
    have hc1:=(Ow.sl h2).cells
    obtain ⟨s1,m4,happ1,hch1,hN1,hbl1⟩:=hN0.append (by omega) (by_:=8) (by decide) A (by show (0+A.length)*8≤_;omega)
    simp only[List.nil_append] at hN1
    have hZ4:=(hZ3.mono hm3a).ch hch1 fun b hb hbb=>by have:=hbk b hb;rw[hb0] at hbb;simp at hbb;omega
    have hm4:m<+:m4:=hch1.pre (hm13.trans hm3a) fun b hb hbb=>by rw[hb0] at hbb;simp at hbb;omega
    obtain ⟨bs',os',hps',hls'⟩:=hsat m4 hm4
    have hch1l:=hch1.len
    simp[h1,hc1,happ1,hps',hls',fillA,setN]
    have hm4a:m4<+:m4++ [.own [.int .i64 (y:Int)] 3 none]:=List.prefix_append _ _
    obtain ⟨s2,m5,happ2,hch2,hN2,hbl2⟩:=(hN1.mono hm4a).push (by simp;omega) (by_:=8) (by decide) y (by omega)
    simp only[natI] at happ2
    have hlo1: ∀b,s1.blk=some b→m3.length≤b:=fun b hb=>(hN1.blk_lo hb).1
    have hZ5:=(hZ4.mono hm4a).ch hch2 fun b hb hbb=>by have:=hbk b hb;have:=hlo1 b hbb;omega
    have hm5:m<+:m5:=hch2.pre (hm4.trans hm4a) fun b hb hbb=>by have:=hlo1 b hbb;omega
    obtain ⟨t2,h3,h4,_⟩:=hZ5.drop (i:=k) hkz
    rw[hB] at h4
    have hc2:=(Ow.sl h4).cells
    have hch2l:=hch2.len
    have hm4al:=hm4a.length_le
    obtain ⟨s3,m6,happ3,hch3,hN3,hbl3⟩:=hN2.append (by omega) (by_:=8) (by decide) B (by simp;omega)
    have hlo2: ∀b,s2.blk=some b→m3.length≤b:=fun b hb=>(hN2.blk_lo hb).1
    have hm6:m<+:m6:=hch3.pre hm5 fun b hb hbb=>by have:=hlo2 b hbb;omega
    simp[happ2,h3,hc2,happ3,hw]
    exact ⟨n,by omega,(hI _ _ _).2 ⟨i+1,_,s3,by omega,by simp,hm6,hN3.lo' (by omega),by simp;omega,by (rw[htk];exact hput)⟩⟩
 ·have:i=ms.length:=by omega
  subst this
  rw[List.take_length] at hSB
  simp
  exact ⟨hm1,zs,hZ,hSB⟩
end Go.Proofs.YtlniliigcnedmaaGreatDoor
namespace Go.Proofs.YtlniliigcnedmaaGreatDoor
open Go Ax
set_option maxRecDepth 100000
theorem SortedBy.isKey {l:List Md} {r:Nat→Nat} {a:Nat} {O zs:List Nat} (hu:isU (mdAt l a)=true) (hO: ∀j,j∈O↔IsPart l a j) (h:SortedBy r O zs):IsKey l r a (zs.map fun z=>(r z:Int)):=by
 refine ⟨fun _=>⟨?_,fun v=>?_⟩,fun h'=>by rw[hu] at h';cases h'⟩
 ·rw[List.pairwise_map]
  exact h.asc.imp fun hab=>by omega
 ·rw[List.mem_map]
  constructor
  ·rintro ⟨z,hz,rfl⟩
   exact ⟨z,(hO z).1 (h.sub z hz),rfl⟩
  ·rintro ⟨j,hj,rfl⟩
   obtain ⟨z,hz,h1,_⟩:=h.cov j ((hO j).2 hj)
   exact ⟨z,hz,by rw[h1]⟩
theorem lexC_len {xs ys:List Int} (h:xs= []∨ys= []):lexC cmpI xs ys=cmpI xs.length ys.length:=by
 rcases h with rfl|rfl
 ·cases ys with
  |nil=>rfl
  |cons y ys=>simp only[lexC,cmpI,List.length_cons,List.length_nil];rw[if_pos (by omega)]
 ·cases xs with
  |nil=>rfl
  |cons x xs=>simp only[lexC,cmpI,List.length_cons,List.length_nil];rw[if_neg (by omega),if_pos (by omega)]
set_option maxHeartbeats 4000000 in
theorem k92 (s rs:AVal) (l:List Md) (rk:List Nat) (a b:Nat) (m:AMem) (hs:RTab m s l) (hr:RInts m rs (rk.map fun z:Nat=>(z:Int))) (hrl:rk.length=l.length) (hrn: ∀x,x<l.length→rk.getD x 0<l.length) (hg:goodT l) (hn:l.length≤512) (h64: ∀x∈l,x.elems.length≤64) (ha:a<l.length) (hb:b<l.length) (huu:isU (mdAt l a)=isU (mdAt l b)):
  ACalls Tryz.prog 92 [s,rs,.int .i64 a,.int .i64 b] m fun v m'=>v= .int .i64 (lexC cmpI (keyOf l (fun x=>rk.getD x 0) a) (keyOf l (fun x=>rk.getD x 0) b))∧m<+:m':=by
 obtain ⟨r,hre⟩: ∃r:Nat→Nat,r=fun a=>rk.getD a 0:=⟨_,rfl⟩
 have hrx: ∀x,rk.getD x 0=r x:=fun x=>by rw[hre]
 simp only[hrx] at hrn
 rw[←hre]
 have hkey: ∀X Y,IsKey l r a X→IsKey l r b Y→lexC cmpI (keyOf l r a) (keyOf l r b)=lexC cmpI X Y:=fun X Y hX hY=>IsKey.cmp hg (SameOrd.refl _ r) ha hb (keyOf_isKey hg hrn a) hX (keyOf_isKey hg hrn b) hY
 generalize lexC cmpI (keyOf l r a) (keyOf l r b)=L at*
 refine w92 ?_
 obtain ⟨ba,oa,ea,h1,h2,hea⟩:=hs.elems ha
 obtain ⟨bb,ob,eb,h3,h4,heb⟩:=hs.elems hb
 have hmda:=mdAt_eq ha
 have hmdb:=mdAt_eq hb
 have hga:=hg _ (List.getElem_mem ha)
 have hgb:=hg _ (List.getElem_mem hb)
 have h64a:=h64 _ (List.getElem_mem ha)
 have h64b:=h64 _ (List.getElem_mem hb)
 simp
 refine W_drawPR (by simp[maxDst]) rfl rfl ?_
 simp[h1,(h2 m (List.prefix_refl _)).2,h3,(h4 m (List.prefix_refl _)).2]
 intro m1 hm1
 simp[h1,(h2 m1 hm1).1]
 refine bbind_J (fun a' m'=> ∃(tx ty:AVal) (X Y:List Nat),a'.forget [1,9,10]=mat 74 [(1,rs),(9,tx),(10,ty)]∧m<+:m'∧RInts m' tx (X.map fun z:Nat=>(z:Int))∧RInts m' ty (Y.map fun z:Nat=>(z:Int))∧(∀z∈X,z<l.length)∧(∀z∈Y,z<l.length)∧X.length<2^61∧Y.length<2^61∧IsKey l r a (X.map fun z=>(r z:Int))∧IsKey l r b (Y.map fun z=>(r z:Int))) ?_ ?_
 ·by_cases hu:isU l[a]=true
  ·have hk:l[a].kind=12:=by simpa[isU] using hu
   have hua:isU (mdAt l a)=true:=by rw[hmda];exact hu
   have hub:isU (mdAt l b)=true:=by rw[←huu];exact hua
   have hub':isU l[b]=true:=by rw[←hmdb];exact hub
   simp[hk]
   refine C_of (k56 s l a ha hu m1 (hs.mono hm1) hg hn h64) ?_
   rintro v2 m2 ⟨hm2,O,hO,hOn,hOm⟩
   have hOl:=nodup_le l.length O hOn fun x hx=>((hOm x).1 hx).lt hg
   simp
   refine C_of (k55 v2 rs O rk m2 (ints_of_nat hO) (hr.mono (hm1.trans hm2)) (fun x hx=>by rw[hrl];exact ((hOm x).1 hx).lt hg) (by omega)) ?_
   rintro v3 m3 ⟨hm3,zs,hzs,hsb⟩
   rw[←hre] at hsb
   simp
   have hm13:=(hm1.trans hm2).trans hm3
   refine C_of (k56 s l b hb hub' m3 (hs.mono hm13) hg hn h64) ?_
   rintro v4 m4 ⟨hm4,O',hO',hOn',hOm'⟩
   have hOl':=nodup_le l.length O' hOn' fun x hx=>((hOm' x).1 hx).lt hg
   simp
   refine C_of (k55 v4 rs O' rk m4 (ints_of_nat hO') (hr.mono (hm13.trans hm4)) (fun x hx=>by rw[hrl];exact ((hOm' x).1 hx).lt hg) (by omega)) ?_
   rintro v5 m5 ⟨hm5,zs',hzs',hsb'⟩
   rw[←hre] at hsb'
   simp
   have hzl:zs.length≤l.length:=nodup_le l.length zs (hsb.asc.imp fun hab=>by intro e;subst e;omega) fun z hz=>((hOm z).1 (hsb.sub z hz)).lt hg
   have hzl':zs'.length≤l.length:=nodup_le l.length zs' (hsb'.asc.imp fun hab=>by intro e;subst e;omega) fun z hz=>((hOm' z).1 (hsb'.sub z hz)).lt hg
   exact ⟨v3,v5,rfl,(hm13.trans hm4).trans hm5,zs,(ints_of_nat hzs).mono (hm4.trans hm5),zs',ints_of_nat hzs',fun z hz=>((hOm z).1 (hsb.sub z hz)).lt hg,fun z hz=>((hOm' z).1 (hsb'.sub z hz)).lt hg,by omega,by omega,hsb.isKey hua hOm,hsb'.isKey hub hOm'⟩
  ·have hu':isU l[a]=false:=by simpa using hu
   have hk: ¬l[a].kind=12:=by simpa[isU] using hu'
   have hua:isU (mdAt l a)=false:=by rw[hmda];exact hu'
   have hub:isU (mdAt l b)=false:=by rw[←huu];exact hua
   simp[beqF hk]
   have conv: ∀xs:List Int,(∀e∈xs,0≤e∧e<(l.length:Int))→((xs.map Int.toNat).map fun z:Nat=>(z:Int))=xs:=fun xs hx=>by
    rw[List.map_map]
    conv=>rhs;rw[←List.map_id xs]
    refine List.map_congr_left fun e he=>?_
    have:=hx e he
    simp only[Function.comp,id]
    omega
   refine ⟨ea,eb,rfl,hm1,l[a].elems.map Int.toNat,by rw[conv _ hga];exact hea.mono hm1,l[b].elems.map Int.toNat,by rw[conv _ hgb];exact heb.mono hm1,fun z hz=>?_,fun z hz=>?_,by simp;omega,by simp;omega,⟨fun h=>(by rw[hua] at h;cases h),fun _=>by rw[hmda,List.map_map];rfl⟩,⟨fun h=>(by rw[hub] at h;cases h),fun _=>by rw[hmdb,List.map_map];rfl⟩⟩
   ·obtain ⟨e,he,rfl⟩:=List.mem_map.1 hz
    have:=hga e he;omega
   ·obtain ⟨e,he,rfl⟩:=List.mem_map.1 hz
    have:=hgb e he;omega
 rintro a' m2 ⟨tx,ty,X,Y,hfr,hm2,hX,hY,hXl,hYl,hX61,hY61,hKX,hKY⟩
 have hL:=hkey _ _ hKX hKY
 simp[hfr]
 clear h1 h2 h3 h4 hm1
 obtain ⟨I,hI⟩: ∃I:Nat→AFrame→AMem→Prop,∀n a m',I n a m'↔(∃(k:Nat),k+n=X.length∧k≤Y.length∧a=h92_0 rs tx ty (.int .i64 k)∧m2<+:m'∧L=lexC cmpI ((X.drop k).map fun z=>(r z:Int)) ((Y.drop k).map fun z=>(r z:Int))):=⟨_,fun _ _ _=>Iff.rfl⟩
 refine W_loop I X.length ((hI _ _ _).2 ⟨0,by simp,by omega,rfl,List.prefix_refl _,hL⟩) ?_
 rintro n a m3 hIn
 obtain ⟨k,hk,hkY,rfl,hm3,hLk⟩:=(hI _ _ _).1 hIn
 clear hIn
 have hxl:=(hX.mono hm3).len
 have hyl:=(hY.mono hm3).len
 simp at hxl hyl
 by_cases hkx:k<X.length
 ·by_cases hky:k<Y.length
  ·have hw:=step64 hkx (by omega)
   obtain ⟨n,rfl⟩: ∃n',n=n'+1:=⟨n-1,by omega⟩
   obtain ⟨b1,o1,h1,h2⟩:=(hX.mono hm3).at (i:=k) (by simpa using hkx)
   obtain ⟨b2,o2,h3,h4⟩:=(hY.mono hm3).at (i:=k) (by simpa using hky)
   simp at h2 h4
   rw[List.drop_eq_getElem_cons hkx,List.drop_eq_getElem_cons hky,List.map_cons,List.map_cons] at hLk
   simp only[lexC] at hLk
   have hXk:=hXl _ (List.getElem_mem hkx)
   have hYk:=hYl _ (List.getElem_mem hky)
   generalize X[k]=x at*
   generalize Y[k]=y at*
   obtain ⟨b3,o3,h5,h6⟩:=(hr.mono (hm2.trans hm3)).at (i:=x) (by simp;omega)
   obtain ⟨b4,o4,h7,h8⟩:=(hr.mono (hm2.trans hm3)).at (i:=y) (by simp;omega)
   have h6':loadE m3 1 false (.ptr b3 o3)=some (.int .i64 (r x:Nat)):=by rw[h6,←hrx];simp[List.getD,show x<rk.length by omega]
   have h8':loadE m3 1 false (.ptr b4 o4)=some (.int .i64 (r y:Nat)):=by rw[h8,←hrx];simp[List.getD,show y<rk.length by omega]
   simp[hxl,hyl,hkx,hky]
   refine W_draw (fun _ _ _=>True) (by simp[maxDst]) ?_
   refine D_pc 0 14 [14,15] ?_
   simp[h1,h2,h5,h6',h3,h4,h7,h8']
   intro fs' _
   refine D_X rfl rfl fun m4 hm4 _=>?_
   simp
   refine C_of (k91 _ _ m4) ?_
   rintro _ _ ⟨rfl,rfl⟩
   refine ⟨by simp[lateOf],?_⟩
   refine D_pc 15 1 [] ?_
   simp
   intro fs2 _
   refine D_end fun m5 hm5 _=>?_
   have hm35:=hm4.trans hm5
   by_cases hc:cmpI (r x) (r y)=0
   ·simp[hc] at hLk
    simp[hc,hw]
    exact ⟨n,by omega,(hI _ _ _).2 ⟨k+1,by omega,by omega,by simp,hm3.trans hm35,by simpa using hLk⟩⟩
   ·simp[hc] at hLk
    simp[bneT hc,hLk]
    exact (hm2.trans hm3).trans hm35
  ·have hkY':k=Y.length:=by omega
   rw[hkY',List.drop_length,List.map_nil,lexC_len (.inr rfl)] at hLk
   simp[hxl,hyl,hkx,hky]
   refine C_of (k91 _ _ m3) ?_
   rintro _ _ ⟨rfl,rfl⟩
   simp[hm2.trans hm3]
   rw[hLk]
   simp[cmpI]
   have e1: ¬X.length<Y.length:=by omega
   have e2:Y.length<X.length:=by omega
   simp[e1,e2,show ¬(((X.length-Y.length:Nat):Int)<0) by omega,show ((0:Int)<((X.length-Y.length:Nat):Int)) by omega]
   try omega
 ·have hkX':k=X.length:=by omega
  rw[hkX',List.drop_length,List.map_nil,lexC_len (.inl rfl)] at hLk
  simp[hxl,hyl,hkx]
  refine C_of (k91 _ _ m3) ?_
  rintro _ _ ⟨rfl,rfl⟩
  simp[hm2.trans hm3]
  rw[hLk]
  have e1: ¬Y.length<X.length:=by omega
  by_cases e2:X.length<Y.length
  ·simp[cmpI,e2];omega
  ·simp[cmpI,e1,e2];omega
end Go.Proofs.YtlniliigcnedmaaGreatDoor
namespace Go.Proofs.YtlniliigcnedmaaGreatDoor
open Go Ax
set_option maxRecDepth 100000
theorem firstNZ_at: ∀{xs:List Int} {k:Nat} {c:Int},xs[k]? =some c→(∀j,j<k→xs[j]? =some 0)→c≠0→firstNZ xs=c
 | [],k,c,h,_,_=>by simp at h
 |x::xs,0,c,h,_,hc=>by simp at h;subst h;rw[firstNZ_cons,if_pos hc]
 |x::xs,k+1,c,h,h0,hc=>by
  have h1:=h0 0 (by omega)
  simp at h1
  rw[firstNZ_cons,if_neg (by simp[h1])]
  exact firstNZ_at (k:=k) (by simpa using h) (fun j hj=>by have:=h0 (j+1) (by omega);simpa using this) hc
def fiveOf (x:Md):List Int:= [x.kind,x.size,x.dims,bi x.flex,x.elems.length]
set_option maxHeartbeats 8000000 in
theorem k50 (cx cy:List AVal) (x y:Md) (m:AMem) (hx:RMode m cx x) (hy:RMode m cy y) (hsx:smallN x) (hsy:smallN y) (hnm:x.kind=y.kind→(¬x.kind=12→x.elems.length=y.elems.length)→x.names.length=y.names.length):ACalls Tryz.prog 50 [.agg cx,.agg cy] m fun v m'=>v= .int .i64 (firstC x y)∧m<+:m':=by
 obtain ⟨ex,nx,rfl,hex,hnx⟩:=hx
 obtain ⟨ey,ny,rfl,hey,hny⟩:=hy
 refine w50 ?_
 have h1:=Sl.one hex
 have h2:=Sl.one hnx
 have h3:=Sl.one hey
 have h4:=Sl.one hny
 simp[h1,h2,h3,h4]
 have hb1:=readB_new m [.int .i64 x.kind,.int .i64 x.size,ex,nx,.int .i64 x.dims,.bool x.flex] 39 none
 have hm1:m<+:m++ [.own [.int .i64 x.kind,.int .i64 x.size,ex,nx,.int .i64 x.dims,.bool x.flex] 39 none]:=List.prefix_append _ _
 have hlen:(m++ [ABlk.own [.int .i64 x.kind,.int .i64 x.size,ex,nx,.int .i64 x.dims,.bool x.flex] 39 none]).length=m.length+1:=by simp
 have hb2:=readB_new (m++ [.own [.int .i64 x.kind,.int .i64 x.size,ex,nx,.int .i64 x.dims,.bool x.flex] 39 none]) [.int .i64 y.kind,.int .i64 y.size,ey,ny,.int .i64 y.dims,.bool y.flex] 39 none
 have hm2:m++ [.own [.int .i64 x.kind,.int .i64 x.size,ex,nx,.int .i64 x.dims,.bool x.flex] 39 none]<+:m++ [.own [.int .i64 x.kind,.int .i64 x.size,ex,nx,.int .i64 x.dims,.bool x.flex] 39 none]++ [.own [.int .i64 y.kind,.int .i64 y.size,ey,ny,.int .i64 y.dims,.bool y.flex] 39 none]:=List.prefix_append _ _
 replace hb1:=readB_mono hm2 hb1
 replace hm1:=hm1.trans hm2
 rw[hlen] at hb2
 simp only[List.append_assoc,List.singleton_append] at hb1 hb2 hm1
 generalize m++ [.own [.int .i64 x.kind,.int .i64 x.size,ex,nx,.int .i64 x.dims,.bool x.flex] 39 none,.own [.int .i64 y.kind,.int .i64 y.size,ey,ny,.int .i64 y.dims,.bool y.flex] 39 none]=m1 at hb1 hb2 hm1 ⊢
 clear hlen hm2
 replace hex:=RInts.mono hex hm1
 replace hey:=RInts.mono hey hm1
 replace hnx:=RStrs.mono hnx hm1
 replace hny:=RStrs.mono hny hm1
 generalize m.length=b1 at*
 generalize b1+1=b2 at*
 refine W_draw (fun i v _=>v= .int .i64 (if x.flex then 1 else 0)) (by simp[maxDst]) ?_
 have: ∀(j:Nat) (m':AMem),noFacts j m':=fun _ _=>trivial
 refine D_pre 0 8 [8,9,10,11,12,13] (by simp only[List.drop_zero,List.drop_succ_cons,List.take_succ_cons,List.take_zero];rfl) rfl rfl ‹_› ?_
 simp[bx hb1]
 intro _ _
 refine D_Cv (.int .i64 (if x.flex then 1 else 0)) rfl trivial rfl rfl (fun m' hm' _=>(k96 _ m').mono fun v m'' h=>⟨by rw[h.2];exact List.prefix_refl _,h.1⟩) ?_
 have:=upd_triv 8 ‹∀(j:Nat) (m':AMem),_›
 refine D_pre 9 3 [12,13] (by simp only[List.drop_zero,List.drop_succ_cons,List.take_succ_cons,List.take_zero];rfl) rfl rfl ‹_› ?_
 simp[bx hb1,hex.len]
 intro _ _
 refine D_A rfl trivial ?_
 simp[fillA,setN]
 intro a1
 refine D_P rfl trivial ?_
 simp
 refine D_end fun m2 hm2 hf=>?_
 have h12:=hf 12
 simp[upd] at h12
 have hA:RInts m2 (.slice a1 0 5 5 none) (fiveOf x):= .inr ⟨a1,0,5,none,rfl,⟨by simp[fiveOf],.inl rfl⟩,.inr ⟨by simp[fiveOf],_,by simp[readB,h12,ABlk.cells];rfl,by simp[fiveOf,readN,bi]⟩⟩
 clear h12 hf
 replace hb1:=readB_mono hm2 hb1
 replace hb2:=readB_mono hm2 hb2
 replace hm1:=hm1.trans hm2
 replace hex:=RInts.mono hex hm2
 replace hey:=RInts.mono hey hm2
 replace hnx:=RStrs.mono hnx hm2
 replace hny:=RStrs.mono hny hm2
 clear hm2
 simp
 refine W_draw (fun i v _=>v= .int .i64 (if y.flex then 1 else 0)) (by simp[maxDst]) ?_
 have: ∀(j:Nat) (m':AMem),noFacts j m':=fun _ _=>trivial
 refine D_pre 0 8 [8,9,10,11,12,13] (by simp only[List.drop_zero,List.drop_succ_cons,List.take_succ_cons,List.take_zero];rfl) rfl rfl ‹_› ?_
 simp[bx hb2]
 intro _ _
 refine D_Cv (.int .i64 (if y.flex then 1 else 0)) rfl trivial rfl rfl (fun m' hm' _=>(k96 _ m').mono fun v m'' h=>⟨by rw[h.2];exact List.prefix_refl _,h.1⟩) ?_
 have:=upd_triv 8 ‹∀(j:Nat) (m':AMem),_›
 refine D_pre 9 3 [12,13] (by simp only[List.drop_zero,List.drop_succ_cons,List.take_succ_cons,List.take_zero];rfl) rfl rfl ‹_› ?_
 simp[bx hb2,hey.len]
 intro _ _
 refine D_A rfl trivial ?_
 simp[fillA,setN]
 intro a2
 refine D_P rfl trivial ?_
 simp
 refine D_end fun m3 hm3 hf=>?_
 have h12:=hf 12
 simp[upd] at h12
 have hB:RInts m3 (.slice a2 0 5 5 none) (fiveOf y):= .inr ⟨a2,0,5,none,rfl,⟨by simp[fiveOf],.inl rfl⟩,.inr ⟨by simp[fiveOf],_,by simp[readB,h12,ABlk.cells];rfl,by simp[fiveOf,readN,bi]⟩⟩
 clear h12 hf
 replace hA:=RInts.mono hA hm3
 replace hb1:=readB_mono hm3 hb1
 replace hb2:=readB_mono hm3 hb2
 replace hm1:=hm1.trans hm3
 replace hnx:=RStrs.mono hnx hm3
 replace hny:=RStrs.mono hny hm3
 clear hm3 hex hey
 have hAl:=hA.len
 have hlA:(fiveOf x).length=5:=rfl
 have hlB:(fiveOf y).length=5:=rfl
 rw[hlA] at hAl
 generalize hta:AVal.slice a1 0 5 5 none=ta at*
 generalize htb:AVal.slice a2 0 5 5 none=tb at*
 generalize hF:firstC x y=F
 have hcom: ∀(k:Nat) a b,k<4→(fiveOf x)[k]? =some a→(fiveOf y)[k]? =some b→(firstL x y)[k]? =some (cmpI a b):=fun k a b hk h1 h2=>by
  match k,hk with
  |0,_=>simp[fiveOf] at h1 h2;subst h1 h2;rfl
  |1,_=>simp[fiveOf] at h1 h2;subst h1 h2;rfl
  |2,_=>simp[fiveOf] at h1 h2;subst h1 h2;rfl
  |3,_=>simp[fiveOf] at h1 h2;subst h1 h2;rfl
 have hcom4: ∀a b,¬x.kind=12→(fiveOf x)[4]? =some a→(fiveOf y)[4]? =some b→(firstL x y)[4]? =some (cmpI a b):=fun a b hk h1 h2=>by
  simp[fiveOf] at h1 h2
  subst h1 h2
  simp[firstL,lenC,hk]
 simp
 refine W_JB (fun a m'=>a.forget [2,3]=mat 100 [(2,.ptr b1 0),(3,.ptr b2 0)]∧m3<+:m'∧ ∀j,j<5→(firstL x y)[j]? =some 0) ?_ ?_
 ·obtain ⟨I,hI⟩: ∃I:Nat→AFrame→AMem→Prop,∀n a m',I n a m'↔(∃(k:Nat),k+n=5∧a=h50_0 (.ptr b1 0) (.ptr b2 0) ta tb (.int .i64 k)∧m3<+:m'∧ ∀j,j<k→(firstL x y)[j]? =some 0):=⟨_,fun _ _ _=>Iff.rfl⟩
  refine W_loop I 5 ((hI _ _ _).2 ⟨0,by simp,rfl,List.prefix_refl _,fun _ h=>by omega⟩) ?_
  rintro n a m4 hIn
  obtain ⟨k,hk,rfl,hm4,hz⟩:=(hI _ _ _).1 hIn
  clear hIn
  have hb14:=readB_mono hm4 hb1
  simp[hAl]
  refine bbind_dec (fun hk5=>?_) fun hk5=>?_
  ·have hk5:k<5:=by omega
   have hw:=step64 hk5 (by omega)
   obtain ⟨n,rfl⟩: ∃n',n=n'+1:=⟨n-1,by omega⟩
   obtain ⟨o1,p1,h5,h6⟩:=(hA.mono hm4).at (i:=k) (by omega)
   obtain ⟨o2,p2,h7,h8⟩:=(hB.mono hm4).at (i:=k) (by omega)
   have hx5:(fiveOf x)[k]? =some ((fiveOf x)[k]'(by omega)):=List.getElem?_eq_getElem _
   have hy5:(fiveOf y)[k]? =some ((fiveOf y)[k]'(by omega)):=List.getElem?_eq_getElem _
   generalize (fiveOf x)[k]'(by omega)=xa at*
   generalize (fiveOf y)[k]'(by omega)=ya at*
   by_cases hbr:k=4∧x.kind=12
   ·obtain ⟨rfl,h12⟩:=hbr
    simp[bx hb14,h12]
    refine ⟨hm4,fun j hj=>?_⟩
    by_cases hj4:j=4
    ·subst hj4;simp[firstL,lenC,h12]
    ·exact hz j (by omega)
   have hval:(firstL x y)[k]? =some (cmpI xa ya):=by
    by_cases hk4:k=4
    ·subst hk4;exact hcom4 xa ya (fun h=>hbr ⟨rfl,h⟩) hx5 hy5
    ·exact hcom k xa ya (by omega) hx5 hy5
   have hpass: ∀j,j<k+1→cmpI xa ya=0→(firstL x y)[j]? =some 0:=fun j hj hc=>by
    by_cases hjk:j=k
    ·subst hjk;rw[hval,hc]
    ·exact hz j (by omega)
   have hret:cmpI xa ya≠0→F=cmpI xa ya:=fun hc=>by
    rw[←hF];exact firstNZ_at hval hz hc
   by_cases hk4:k=4
   ·have h12: ¬x.kind=12:=fun h=>hbr ⟨hk4,h⟩
    have hk4':(k:Int)=4:=by omega
    simp only[hk4'] at h5 h7 hw ⊢
    simp[bx hb14,beqF h12]
    refine W_draw (fun _ _ _=>True) (by simp[maxDst]) ?_
    refine D_pc 0 8 [8,9] ?_
    simp[h5,h6,h7,h8]
    intro fs' _
    refine D_X rfl rfl fun m5 hm5 _=>?_
    simp
    refine C_of (k91 _ _ m5) ?_
    rintro _ _ ⟨rfl,rfl⟩
    refine ⟨by simp[lateOf],?_⟩
    refine D_pc 9 1 [] ?_
    simp
    intro fs2 _
    refine D_end fun m6 hm6 _=>?_
    by_cases hc:cmpI xa ya=0
    ·simp[hc,hw]
     refine ⟨n,by omega,(hI _ _ _).2 ⟨k+1,by omega,by simp[hk4',wrap64 (x:=5)],(hm4.trans hm5).trans hm6,fun j hj=>hpass j hj hc⟩⟩
    ·simp[bneT hc,hret hc]
     exact ((hm1.trans hm4).trans hm5).trans hm6
   ·have hk4': ¬(k:Int)=4:=by omega
    simp[beqF hk4']
    refine W_draw (fun _ _ _=>True) (by simp[maxDst]) ?_
    refine D_pc 0 8 [8,9] ?_
    simp[h5,h6,h7,h8]
    intro fs' _
    refine D_X rfl rfl fun m5 hm5 _=>?_
    simp
    refine C_of (k91 _ _ m5) ?_
    rintro _ _ ⟨rfl,rfl⟩
    refine ⟨by simp[lateOf],?_⟩
    refine D_pc 9 1 [] ?_
    simp
    intro fs2 _
    refine D_end fun m6 hm6 _=>?_
    by_cases hc:cmpI xa ya=0
    ·simp[hc,hw]
     refine ⟨n,by omega,(hI _ _ _).2 ⟨k+1,by omega,by simp,(hm4.trans hm5).trans hm6,fun j hj=>hpass j hj hc⟩⟩
    ·simp[bneT hc,hret hc]
     exact ((hm1.trans hm4).trans hm5).trans hm6
  ·simp
   exact ⟨hm4,fun j hj=>hz j (by omega)⟩
 rintro a m4 ⟨ha,hm4,hz⟩
 clear hA hB hAl hcom hcom4
 have hkind:x.kind=y.kind:=by have:=hz 0 (by omega);simp[firstL] at this;exact cmpI_zero.1 this
 have hlens: ¬x.kind=12→x.elems.length=y.elems.length:=fun h=>by
  have:=hz 4 (by omega);simp[firstL,lenC,h] at this;have:=cmpI_zero.1 this;omega
 have hnl:=hnm hkind hlens
 have hFn:F=lexC cmpS x.names y.names:=by
  rw[←hF]
  have e0:=hz 0 (by omega);have e1:=hz 1 (by omega);have e2:=hz 2 (by omega);have e3:=hz 3 (by omega);have e4:=hz 4 (by omega)
  simp[firstL] at e0 e1 e2 e3 e4
  unfold firstC firstL
  have h0:firstNZ []=0:=rfl
  simp only[firstNZ_cons,e0,e1,e2,e3,e4,h0]
  by_cases h6:lexC cmpS x.names y.names=0<;>simp[h6]
 simp[ha]
 obtain ⟨I,hI⟩: ∃I:Nat→AFrame→AMem→Prop,∀n a m',I n a m'↔(∃(k:Nat),k+n=x.names.length∧a=h50_1 (.ptr b1 0) (.ptr b2 0) (.int .i64 k)∧m4<+:m'∧F=lexC cmpS (x.names.drop k) (y.names.drop k)):=⟨_,fun _ _ _=>Iff.rfl⟩
 refine W_loop I x.names.length ((hI _ _ _).2 ⟨0,by simp,rfl,List.prefix_refl _,by simpa using hFn⟩) ?_
 rintro n a m5 hIn
 obtain ⟨k,hk,rfl,hm5,hFk⟩:=(hI _ _ _).1 hIn
 clear hIn
 have hm35:=hm4.trans hm5
 have hb15:=readB_mono hm35 hb1
 have hb25:=readB_mono hm35 hb2
 by_cases hkx:k<x.names.length
 ·have hky:k<y.names.length:=by omega
  have hw:=step64 hkx hsx.2.1
  obtain ⟨n,rfl⟩: ∃n',n=n'+1:=⟨n-1,by omega⟩
  obtain ⟨o1,p1,h5,h6⟩:=(hnx.mono hm35).at hkx
  obtain ⟨o2,p2,h7,h8⟩:=(hny.mono hm35).at hky
  rw[List.drop_eq_getElem_cons hkx,List.drop_eq_getElem_cons hky] at hFk
  simp only[lexC] at hFk
  generalize x.names[k]=xa at*
  generalize y.names[k]=ya at*
  simp[bx hb15,bx hb25,(hnx.mono hm35).len,(hny.mono hm35).len,hkx,hky]
  refine W_drawPR (by simp[maxDst]) rfl rfl ?_
  simp[bx hb15,bx hb25,h5,h6,h7,h8,binStr]
  intro m6 hm6
  have hb16:=readB_mono hm6 hb15
  have hb26:=readB_mono hm6 hb25
  by_cases he:xa.toList=ya.toList
  ·have hc:cmpS xa ya=0:=by
    have hb:Op.bytesLess ya.toList ya.toList=false:=by
     have:=(bytes_lex ya.toList ya.toList).1
     have h0:=(bytes_lex ya.toList ya.toList).2.1 rfl
     rw[←Bool.not_eq_true,this,h0];omega
    simp[cmpS,he,hb]
   simp[hc] at hFk
   simp[he,hw]
   exact ⟨n,by omega,(hI _ _ _).2 ⟨k+1,by omega,by simp,hm5.trans hm6,hFk⟩⟩
  ·have hne:(xa.toList==ya.toList)=false:=by simpa using he
   have hbl:=bytes_lex xa.toList ya.toList
   have hc:cmpS xa ya≠0:=by
    rw[cmpS_eq];exact fun h=>he (hbl.2.2 h)
   rw[if_pos hc] at hFk
   simp[hne]
   refine W_draw (fun _ _ _=>True) (by simp[maxDst]) ?_
   refine D_pc 0 11 [11,12,13,14] ?_
   simp[bx hb16,bx hb26,h5,h7,loadE_mono hm6 h6,loadE_mono hm6 h8,binStr]
   intro fs' _
   refine D_X rfl rfl fun m7 hm7 _=>?_
   simp
   refine C_of (k96 _ m7) ?_
   rintro _ _ ⟨rfl,rfl⟩
   refine ⟨by simp[lateOf],?_⟩
   have hmm: ∀m8,m6<+:m8→m<+:m8:=fun m8 h=>(((hm1.trans hm4).trans hm5).trans hm6).trans h
   cases hbb:Op.bytesLess xa.toList ya.toList
   ·have hv:cmpS xa ya=1:=by simp[cmpS,hbb,hne]
    refine D_pc 12 3 [] ?_
    simp[hbb,hne,wrap64 (x:=2),wrap64 (x:=1)]
    intro fs2 _
    refine D_end fun m8 hm8 _=>?_
    simp[hFk,hv,hmm m8 (hm7.trans hm8)]
   ·have hv:cmpS xa ya= -1:=by simp[cmpS,hbb]
    refine D_pc 12 3 [] ?_
    simp[hbb,wrap64 (x:=0),wrap64 (x:= -1)]
    intro fs2 _
    refine D_end fun m8 hm8 _=>?_
    simp[hFk,hv,hmm m8 (hm7.trans hm8)]
 ·have hd:F=0:=by
   rw[hFk,List.drop_eq_nil_of_le (by omega),List.drop_eq_nil_of_le (by omega)];rfl
  simp[bx hb15,bx hb25,(hnx.mono hm35).len,(hny.mono hm35).len,hkx]
  exact ⟨hd.symm,(hm1.trans hm4).trans hm5⟩
end Go.Proofs.YtlniliigcnedmaaGreatDoor
namespace Go.Proofs.YtlniliigcnedmaaGreatDoor
open Go Ax
set_option maxRecDepth 100000
def namesOk (l:List Md):Prop:= ∀x∈l,∀y∈l,x.kind=y.kind→(¬x.kind=12→x.elems.length=y.elems.length)→x.names.length=y.names.length
noncomputable def Rl (l:List Md) (d:Nat):List Nat:=(List.range l.length).map (R l d)
theorem Rl_get (l:List Md) (d:Nat) {x:Nat} (hx:x<l.length):(Rl l d)[x]? =some (R l d x):=by simp[Rl,hx]
theorem Rl_getD (l:List Md) (d:Nat) {x:Nat} (hx:x<l.length):(Rl l d).getD x 0=R l d x:=by simp[List.getD,Rl_get l d hx]
theorem Rl_length (l:List Md) (d:Nat):(Rl l d).length=l.length:=by simp[Rl]
theorem R_zero_cmp {l:List Md} {d a b:Nat} (ha:a<l.length) (hb:b<l.length) (h:R l (d+1) a=R l (d+1) b):cmpR l (R l d) d a b=0:=by
 have h1:=R_lt l d (a:=a) (b:=b) ha
 have h2:=R_lt l d (a:=b) (b:=a) hb
 have h3:=(cmpR_ord l (R l d) d).anti b a trivial trivial
 omega
theorem R_kind {l:List Md}: ∀(d:Nat) {a b:Nat},a<l.length→b<l.length→d≠0→R l d a=R l d b→(mdAt l a).kind=(mdAt l b).kind
 |0,_,_,_,_,h,_=>absurd rfl h
 |d+1,a,b,ha,hb,_,h=>by
  have h0:=R_zero_cmp ha hb h
  unfold cmpR thenC at h0
  simp only at h0
  by_cases hc:cmpI (R l d a) (R l d b)=0
  ·by_cases hd:d=0
   ·simp only[hc,hd] at h0
    simp at h0
    rw[firstC_eq] at h0
    unfold thenC pullC at h0
    simp only at h0
    by_cases hk:cmpI (mdAt l a).kind (mdAt l b).kind=0
    ·exact cmpI_zero.1 hk
    ·rw[if_pos hk] at h0;exact absurd h0 hk
   ·exact R_kind d ha hb hd (by have:=cmpI_zero.1 hc;omega)
  ·rw[if_pos hc] at h0;exact absurd h0 hc
set_option maxHeartbeats 8000000 in
theorem k48 (s:AVal) (l:List Md) (m:AMem) (hs:RTab m s l) (hg:goodT l) (hn:l.length≤512) (hsz: ∀x∈l,smallN x) (h64: ∀x∈l,x.elems.length≤64) (hnm:namesOk l):
  ACalls Tryz.prog 48 [s] m fun v m'=>m<+:m'∧OwL natI m.length m' 3 v (Rl l (l.length+1)):=by
 refine w48 ?_
 have hc1:8*(l.length:Int)≤281474976710656:=by omega
 have hc2:(l.length:Int)≤9223372036854775807:=by omega
 have hwn:IntKind.i64.wrap ((l.length:Int)+1)=l.length+1:=wrap64 (by omega) (by omega)
 simp[hs.len,hc1,hc2]
 have hX0:OwL natI m.length (m++ [.own (List.replicate l.length (.int .i64 0)) 3 none]) 3 (.slice m.length 0 l.length l.length none) (Rl l 0):=by
  have:=OwL.rep (f:=natI) m 3 l.length 0
  have he:Rl l 0=List.replicate l.length 0:=by
   refine List.ext_getElem? fun j=>?_
   by_cases hj:j<l.length
   ·rw[Rl_get l 0 hj,List.getElem?_replicate,if_pos hj];rfl
   ·rw[List.getElem?_eq_none (by rw[Rl_length];omega),List.getElem?_eq_none (by simp;omega)]
  rw[he];exact this
 have hm1:m<+:m++ [.own (List.replicate l.length (.int .i64 0)) 3 none]:=List.prefix_append _ _
 generalize AVal.slice m.length 0 l.length l.length none=t3 at*
 generalize m++ [.own (List.replicate l.length (.int .i64 0)) 3 none]=m1 at*
 obtain ⟨J0,hJ0⟩: ∃J:AFrame→AMem→Prop,∀a m',J a m'↔ ∃t,a.forget [3]=mat 93 [(3,t)]∧m<+:m'∧OwL natI m.length m' 3 t (Rl l (l.length+1)):=⟨_,fun _ _=>Iff.rfl⟩
 refine W_JB J0 ?_ (fun a m' h=>by
  obtain ⟨t,ha,h1,h2⟩:=(hJ0 _ _).1 h
  simp[ha,h1,h2])
 obtain ⟨I,hI⟩: ∃I:Nat→AFrame→AMem→Prop,∀q a m',I q a m'↔(∃(d:Nat) (t3:AVal),d+q=l.length+1∧a=h48_0 s t3 (.int .i64 (d+1:Nat))∧m<+:m'∧OwL natI m.length m' 3 t3 (Rl l d)):=⟨_,fun _ _ _=>Iff.rfl⟩
 refine W_loop I (l.length+1) ((hI _ _ _).2 ⟨0,t3,by omega,rfl,hm1,hX0⟩) ?_
 clear hX0 hm1
 rintro q a m2 hIn
 obtain ⟨d,t3,hdq,rfl,hm2,hR⟩:=(hI _ _ _).1 hIn
 clear hIn
 simp[hs.len,hwn]
 refine bbind_dec (fun hdl=>?_) fun hdl=>?_
 rotate_left
 ·have hd:d=l.length+1:=by omega
  subst hd
  simp
  exact (hJ0 _ _).2 ⟨t3,by simp,hm2,hR⟩
 have hdl:d≤l.length:=by omega
 obtain ⟨q,rfl⟩: ∃q',q=q'+1:=⟨q-1,by omega⟩
 have hwd:IntKind.i64.wrap ((d:Int)+1+1)=(d:Int)+1+1:=wrap64 (by omega) (by omega)
 have hc1':=hc1
 simp[hs.len,hc1,hc2]
 have hN0:OwL natI m2.length (m2++ [.own (List.replicate l.length (.int .i64 0)) 3 none]) 3 (.slice m2.length 0 l.length l.length none) (List.replicate l.length 0):=OwL.rep (f:=natI) m2 3 l.length 0
 have hm3:m2<+:m2++ [.own (List.replicate l.length (.int .i64 0)) 3 none]:=List.prefix_append _ _
 have hap:Ap t3 (.slice m2.length 0 l.length l.length none):=fun b hb hbb=>by have:=(hR.blk_lo hb).2;simp[AVal.blk] at hbb;omega
 generalize AVal.slice m2.length 0 l.length l.length none=t5 at*
 generalize m2++ [.own (List.replicate l.length (.int .i64 0)) 3 none]=m3 at*
 replace hN0:=hN0.lo' hm2.length_le
 replace hR:=hR.mono hm3
 replace hm3:=hm2.trans hm3
 -- the comparison
 have hcmp:=cmpR_ord l (R l d) d
 obtain ⟨J,hJ⟩: ∃I:Nat→AFrame→AMem→Prop,∀q a m',I q a m'↔(∃(i:Nat) (N:List Nat) (same:Bool),i+q=l.length∧a=h48_1 s t3 (.int .i64 (d+1:Nat)) t5 (.bool same) (.int .i64 i)∧m<+:m'∧OwL natI m.length m' 3 t3 (Rl l d)∧OwL natI m.length m' 3 t5 N∧N.length=l.length∧(∀(j:Nat),j<i→N[j]? =some (R l (d+1) j))∧(∀(j:Nat),i≤j→j<l.length→N[j]? =some 0)∧(same=true↔ ∀j,j<i→R l (d+1) j=R l d j)):=⟨_,fun _ _ _=>Iff.rfl⟩
 obtain ⟨J1,hJ1⟩: ∃J:AFrame→AMem→Prop,∀a m',J a m'↔ ∃same:Bool,a.forget [0,4,5,6]=mat 93 [(0,s),(4,.int .i64 (d+1:Nat)),(5,t5),(6,.bool same)]∧m<+:m'∧OwL natI m.length m' 3 t5 (Rl l (d+1))∧(same=true↔ ∀j,j<l.length→R l (d+1) j=R l d j):=⟨_,fun _ _=>Iff.rfl⟩
 refine W_JB J1 ?_ ?_
 rotate_left
 ·intro a m4 h1
  obtain ⟨same,ha,hm4,hR',hsame⟩:=(hJ1 _ _).1 h1
  clear h1
  simp[ha]
  cases same
  ·simp[hwd]
   exact ⟨q,by omega,(hI _ _ _).2 ⟨d+1,t5,by omega,by simp,hm4,hR'⟩⟩
  ·by_cases hd1:(1:Int)<(d:Int)+1
   ·simp[hd1]
    have hs1:=hsame.1 rfl
    have hd0:d≠0:=by omega
    have hst:=R_stable hg hd0 (fun a b ha hb=>by rw[hs1 a ha,hs1 b hb])
    have:Rl l (l.length+1)=Rl l (d+1):=by
     unfold Rl
     refine List.map_congr_left fun j hj=>?_
     have hj:=List.mem_range.1 hj
     have h1:=hst (l.length+1-d) j hj
     rw[show d+(l.length+1-d)=l.length+1 by omega] at h1
     rw[h1,hs1 j hj]
    rw[←this] at hR'
    exact (hJ0 _ _).2 ⟨t5,by simp,hm4,hR'⟩
   ·have hd0:d=0:=by omega
    subst hd0
    simp[wrap64 (x:=2)]
    exact ⟨q,by omega,(hI _ _ _).2 ⟨1,t5,by omega,by simp,hm4,hR'⟩⟩
 refine W_loop J l.length ((hJ _ _ _).2 ⟨0,_,true,by simp,by simp,hm3,hR,hN0,by simp,fun j hj=>by omega,fun j _ hj=>by rw[List.getElem?_replicate,if_pos hj],by simp⟩) ?_
 clear hN0 hm3 hR
 rintro q2 a m3 hIn
 obtain ⟨i,N,same,hiq,rfl,hm3,hR,hN,hNl,hNd,hN0,hsame⟩:=(hJ _ _ _).1 hIn
 clear hIn
 simp[hs.len]
 refine bbind_dec (fun hil=>?_) fun hil=>?_
 rotate_left
 ·have hil:i=l.length:=by omega
  subst hil
  have hNR:N=Rl l (d+1):=by
   refine List.ext_getElem? fun j=>?_
   by_cases hj:j<l.length
   ·rw[hNd j hj,Rl_get l _ hj]
   ·rw[List.getElem?_eq_none (by omega),List.getElem?_eq_none (by rw[Rl_length];omega)]
  subst hNR
  simp
  exact (hJ1 _ _).2 ⟨same,by simp,hm3,hN,hsame⟩
 have hwi:=step64 hil (by omega)
 obtain ⟨q2,rfl⟩: ∃q',q2=q'+1:=⟨q2-1,by omega⟩
 simp
 obtain ⟨K,hK⟩: ∃I:Nat→AFrame→AMem→Prop,∀q a m',I q a m'↔(∃(j:Nat) (N:List Nat),j+q=l.length∧a=h48_2 s t3 (.int .i64 (d+1:Nat)) t5 (.bool same) (.int .i64 i) (.int .i64 j)∧m<+:m'∧OwL natI m.length m' 3 t3 (Rl l d)∧OwL natI m.length m' 3 t5 N∧N.length=l.length∧(∀(j:Nat),j<i→N[j]? =some (R l (d+1) j))∧(∀(j:Nat),i+1≤j→j<l.length→N[j]? =some 0)∧N[i]? =some ((List.range j).countP fun z=>decide (cmpR l (R l d) d z i<0))):=⟨_,fun _ _ _=>Iff.rfl⟩
 refine W_loop K l.length ((hK _ _ _).2 ⟨0,N,by simp,by simp,hm3,hR,hN,hNl,hNd,fun j h1 h2=>hN0 j (by omega) h2,by simpa using hN0 i (Nat.le_refl _) hil⟩) ?_
 clear hN hNl hNd hN0 hR hm3
 rintro q3 a m3 hIn
 obtain ⟨j,N,hjq,rfl,hm3,hR,hN,hNl,hNd,hN0,hNi⟩:=(hK _ _ _).1 hIn
 clear hIn
 simp[hs.len]
 refine bbind_dec (fun hjl=>?_) fun hjl=>?_
 ·have hwj:=step64 hjl (by omega)
  obtain ⟨q3,rfl⟩: ∃q',q3=q'+1:=⟨q3-1,by omega⟩
  obtain ⟨b1,o1,_,h1,h2,_⟩:=hR.at (i:=j) (by rw[Rl_length];omega)
  obtain ⟨b2,o2,_,h3,h4,_⟩:=hR.at (i:=i) (by rw[Rl_length];omega)
  have e1:(Rl l d)[j]'(by rw[Rl_length];omega)=R l d j:=by simp[Rl]
  have e2:(Rl l d)[i]'(by rw[Rl_length];omega)=R l d i:=by simp[Rl]
  rw[e1] at h2
  rw[e2] at h4
  simp only[natI] at h2 h4
  simp
  -- behind the comparison
  obtain ⟨J2,hJ2⟩: ∃J:AFrame→AMem→Prop,∀a m',J a m'↔(a.forget [0,3,4,5,6,7,8,9]=mat 93 [(0,s),(3,t3),(4,.int .i64 (d+1:Nat)),(5,t5),(6,.bool same),(7,.int .i64 i),(8,.int .i64 j),(9,.int .i64 (cmpR l (R l d) d j i))]∧m3<+:m'):=⟨_,fun _ _=>Iff.rfl⟩
  refine W_draw (fun _ _ _=>True) (by simp[maxDst]) ?_
  refine D_pc 0 8 [8,9] ?_
  simp[h1,h2,h3,h4]
  intro fs' _
  refine D_X rfl rfl fun m4 hm4 _=>?_
  simp
  refine C_of (k91 _ _ m4) ?_
  rintro _ _ ⟨rfl,rfl⟩
  refine ⟨by simp[lateOf],?_⟩
  refine D_pc 9 1 [] ?_
  simp
  intro fs2 _
  refine D_end fun m5 hm5 _=>?_
  have hm35:=hm4.trans hm5
  have hm05:=hm3.trans hm35
  rw[then_normal,W_kill,W_seq]
  refine W_J J2 ?_ ?_
  ·have hdone: ∀a m6,m5<+:m6→a.forget [0,3,4,5,6,7,8,9]=mat 93 [(0,s),(3,t3),(4,.int .i64 (d+1:Nat)),(5,t5),(6,.bool same),(7,.int .i64 i),(8,.int .i64 j),(9,.int .i64 (cmpR l (R l d) d j i))]→J2 a m6:=fun a m6 h1 h2=>(hJ2 _ _).2 ⟨h2,hm35.trans h1⟩
   by_cases hc:cmpI (R l d j) (R l d i)=0
   ·by_cases hd0:d=0
    ·subst hd0
     have hv:cmpR l (R l 0) 0 j i=firstC l[j] l[i]:=by
      unfold cmpR thenC
      simp only[hc]
      simp[mdAt_eq hjl,mdAt_eq hil]
     simp[hc]
     obtain ⟨ba,oa,ca,g1,g2,_,_,g3⟩:=hs.atC hjl
     obtain ⟨bb,ob,cb,g4,g5,_,_,g6⟩:=hs.atC hil
     refine W_draw (fun _ _ _=>True) (by simp[maxDst]) ?_
     refine D_pc 0 8 [8,9] ?_
     simp[g1,loadE_mono hm05 g2,g4,loadE_mono hm05 g5]
     intro fs3 _
     refine D_X rfl rfl fun m6 hm6 _=>?_
     simp
     refine C_of (k50 ca cb _ _ m6 (g3.mono (hm05.trans hm6)) (g6.mono (hm05.trans hm6)) (hsz _ (List.getElem_mem hjl)) (hsz _ (List.getElem_mem hil)) (hnm _ (List.getElem_mem hjl) _ (List.getElem_mem hil))) ?_
     rintro _ m7 ⟨rfl,hm7⟩
     refine ⟨by simp[lateOf],?_⟩
     refine D_pc 9 1 [] ?_
     simp
     intro fs4 _
     refine D_end fun m8 hm8 _=>?_
     exact hdone _ m8 ((hm6.trans hm7).trans hm8) (by simp[hv])
    ·have hd1: ¬((d:Int)+1=1):=by omega
     have heq:R l d j=R l d i:=by have:=cmpI_zero.1 hc;omega
     have huu:isU (mdAt l j)=isU (mdAt l i):=by unfold isU;rw[R_kind d hjl hil hd0 heq]
     have hso:SameOrd l.length (fun x=>(Rl l d).getD x 0) (R l d):=fun a b ha hb=>by simp only[Rl_getD l d ha,Rl_getD l d hb]
     have hb1: ∀a,a<l.length→(Rl l d).getD a 0<l.length:=fun a ha=>by rw[Rl_getD l d ha];exact R_bound l d ha
     have hv:cmpR l (R l d) d j i=lexC cmpI (keyOf l (fun x=>(Rl l d).getD x 0) j) (keyOf l (fun x=>(Rl l d).getD x 0) i):=by
      rw[IsKey.cmp hg hso hjl hil (keyOf_isKey hg hb1 j) (keyOf_isKey hg (fun _ h=>R_bound l d h) j) (keyOf_isKey hg hb1 i) (keyOf_isKey hg (fun _ h=>R_bound l d h) i)]
      unfold cmpR thenC
      simp only[hc,if_neg hd0]
      simp
     simp[hc,beqF hd1]
     refine C_of (k92 s t3 l (Rl l d) j i m5 (hs.mono hm05) ((ints_of_nat hR).mono hm35) (Rl_length l d) hb1 hg hn h64 hjl hil huu) ?_
     rintro _ m6 ⟨rfl,hm6⟩
     simp
     exact hdone _ m6 hm6 (by simp[hv])
   ·have hv:cmpR l (R l d) d j i=cmpI (R l d j) (R l d i):=by
     unfold cmpR thenC
     simp only
     rw[if_pos hc]
    simp[beqF hc]
    exact hdone _ m5 (List.prefix_refl _) (by simp[hv])
  intro a m6 h0
  obtain ⟨ha,hm36⟩:=(hJ2 _ _).1 h0
  clear h0 hJ2 J2
  replace hR:=hR.mono hm36
  replace hN:=hN.mono hm36
  replace hm3:=hm3.trans hm36
  have hrange:(List.range (j+1)).countP (fun z=>decide (cmpR l (R l d) d z i<0))=(List.range j).countP (fun z=>decide (cmpR l (R l d) d z i<0))+(if cmpR l (R l d) d j i<0 then 1 else 0):=by
   rw[List.range_succ,List.countP_append,List.countP_singleton]
   simp
  have hcl:(List.range j).countP (fun z=>decide (cmpR l (R l d) d z i<0))≤j:=by
   have:=List.countP_le_length (p:=fun z=>decide (cmpR l (R l d) d z i<0)) (l:=List.range j)
   simpa using this
  generalize (List.range j).countP (fun z=>decide (cmpR l (R l d) d z i<0))=cnt at*
  generalize cmpR l (R l d) d j i=cv at*
  simp[ha]
  refine bbind_dec (fun hlt=>?_) fun hlt=>?_
  ·obtain ⟨b5,o5,hb5,h5,h6,hst5⟩:=hN.at (i:=i) (by omega)
   have hNi':N[i]'(by omega)=cnt:=by rw[List.getElem?_eq_getElem (by omega)] at hNi;simpa using hNi
   rw[hNi'] at h6
   obtain ⟨m7,hst,hch,hN7⟩:=hst5 (cnt+1)
   simp only[natI] at h6 hst
   have hwc:IntKind.i64.wrap ((cnt:Int)+1)=(cnt:Int)+1:=wrap64 (by omega) (by omega)
   simp only[Int.natCast_add,Int.cast_ofNat_Int] at hst
   simp[h5,h6,hwc,hst,hwj]
   refine ⟨q3,by omega,(hK _ _ _).2 ⟨j+1,N.set i (cnt+1),by omega,by simp,hch.pre hm3 fun b hb=>by have:=(hN.blk_lo hb5).1;omega,hR.ch hch fun b hb hbb=>hap b hb (by rw[hb5,hbb]),hN7,by simpa using hNl,fun z hz=>by rw[List.getElem?_set_ne (by omega)];exact hNd z hz,fun z h1 h2=>by rw[List.getElem?_set_ne (by omega)];exact hN0 z h1 h2,by rw[List.getElem?_set_self (by omega),hrange,if_pos hlt]⟩⟩
  ·simp[hwj]
   exact ⟨q3,by omega,(hK _ _ _).2 ⟨j+1,N,by omega,by simp,hm3,hR,hN,hNl,hNd,hN0,by rw[hNi,hrange,if_neg hlt];rfl⟩⟩
 ·have hjl:j=l.length:=by omega
  subst hjl
  have hNi':N[i]? =some (R l (d+1) i):=hNi
  obtain ⟨b5,o5,_,h5,h6,_⟩:=hN.at (i:=i) (by omega)
  obtain ⟨b2,o2,_,h3,h4,_⟩:=hR.at (i:=i) (by rw[Rl_length];omega)
  have e1:N[i]'(by omega)=R l (d+1) i:=by rw[List.getElem?_eq_getElem (by omega)] at hNi';simpa using hNi'
  have e2:(Rl l d)[i]'(by rw[Rl_length];omega)=R l d i:=by simp[Rl]
  rw[e1] at h6
  rw[e2] at h4
  simp only[natI] at h6 h4
  have next: ∀(same':Bool) m4,m3<+:m4→(same'=true↔ ∀j,j<i+1→R l (d+1) j=R l d j)→J q2 (h48_1 s t3 (.int .i64 (d+1:Nat)) t5 (.bool same') (.int .i64 (i+1:Nat))) m4:=fun same' m4 hm4 hs'=>(hJ _ _ _).2 ⟨i+1,N,same',by omega,rfl,hm3.trans hm4,hR.mono hm4,hN.mono hm4,hNl,fun z hz=>by
   by_cases hzi:z=i
   ·subst hzi;exact hNi'
   ·exact hNd z (by omega),fun z h1 h2=>hN0 z h1 h2,hs'⟩
  simp
  refine W_drawPR (by simp[maxDst]) rfl rfl ?_
  cases same
  ·simp
   intro m4 hm4
   simp[hwi]
   have:=next false m4 hm4 ⟨fun h=>(by cases h),fun h=>hsame.2 fun z hz=>h z (by omega)⟩
   exact ⟨q2,by omega,by simpa using this⟩
  ·simp[h5,h6,h3,h4]
   intro m4 hm4
   simp[hwi]
   refine ⟨q2,by omega,?_⟩
   have hs1:=hsame.1 rfl
   have:=next ((R l (d+1) i:Int)==(R l d i:Int)) m4 hm4 (by
    rw[beq_iff_eq]
    constructor
    ·intro h z hz
     by_cases hzi:z=i
     ·subst hzi;omega
     ·exact hs1 z (by omega)
    ·intro h
     rw[h i (by omega)])
   simpa using this
end Go.Proofs.YtlniliigcnedmaaGreatDoor
namespace Go.Proofs.YtlniliigcnedmaaGreatDoor
open Go Ax
set_option maxRecDepth 100000
structure OkT (l:List Md):Prop where
 good:goodT l
 len:l.length≤512
 h64: ∀x∈l,x.elems.length≤64
 names:namesOk l
 acy:acyc l
theorem okT_of {l:List Md} (h:checkI l=0):OkT l:=by
 unfold checkI at h
 split at h
 ·omega
 ·rename_i h1
  split at h
  ·rename_i h2;exact absurd h h2
  ·rename_i h2
   have h2:firstI (l.map (oneI · l.length))=0:=by simpa using h2
   split at h
   ·omega
   ·split at h
    ·omega
    ·rename_i h4
     have hsh: ∀x∈l,shaped x:=fun x hx=>(shapeI_zero (oneI_zero (one_of h2 hx)).1).2.2.1
     refine ⟨goodT_of h2,by omega,fun x hx=>(shapeI_zero (oneI_zero (one_of h2 hx)).1).2.2.2,fun x hx y hy hk hl=>?_,acyc_of h4⟩
     have e1:=(hsh x hx).2.2.1
     have e2:=(hsh y hy).2.2.1
     unfold nNames at e1 e2
     rw[←hk] at e2
     by_cases h11:x.kind=11
     ·rw[if_pos h11] at e1 e2
      have:=hl (by omega)
      omega
     ·rw[if_neg h11] at e1 e2
      omega
noncomputable def rightI (l:List Md) (ms:List Int):Int:=if checkI l≠0 then checkI l else if ms.any (outB l.length) then 11 else 0
theorem k65 (s:AVal) (l:List Md) (i:Int) (m:AMem) (hs:RTab m s l):ACalls Tryz.prog 65 [s,.int .i64 i] m fun v m'=>v= .bool (decide (0≤i)&&decide (i<l.length))∧m'=m:=by
 refine w65 ?_
 by_cases h:0≤i<;>simp[h,hs.len]
set_option maxHeartbeats 2000000 in
theorem k47 (s t:AVal) (l:List Md) (ms:List Int) (m:AMem) (hs:RTab m s l) (ht:RInts m t ms) (hsz: ∀x∈l,smallN x) (hl:l.length<2^62) (hm:ms.length<2^62):ACalls Tryz.prog 47 [s,t] m fun v m'=>v= .int .i64 (rightI l ms)∧m<+:m':=by
 refine w47 ?_
 simp
 refine C_of (k59 s l m hs hsz hl) ?_
 rintro _ m1 ⟨rfl,hm1⟩
 simp
 generalize hE:rightI l ms=E
 unfold rightI at hE
 refine bbind_intro (fun h=>?_) fun h=>?_
 ·have h:checkI l≠0:=by simpa using h
  rw[if_pos h] at hE
  simp[hE,hm1]
 have h:checkI l=0:=by simpa using h
 rw[if_neg (by simp[h])] at hE
 simp
 obtain ⟨I,hI⟩: ∃I:Nat→AFrame→AMem→Prop,∀q a m',I q a m'↔(∃(k:Nat),k+q=ms.length∧a=h47_0 s t (.int .i64 k)∧m1<+:m'∧ ∀j (hj:j<ms.length),j<k→outB l.length ms[j]=false):=⟨_,fun _ _ _=>Iff.rfl⟩
 refine W_loop I ms.length ((hI _ _ _).2 ⟨0,by simp,rfl,List.prefix_refl _,fun _ _ h=>by omega⟩) ?_
 rintro q a m2 hIn
 obtain ⟨k,hk,rfl,hm2,hz⟩:=(hI _ _ _).1 hIn
 clear hIn
 have hm02:=hm1.trans hm2
 simp[(ht.mono hm02).len]
 refine bbind_dec (fun hkl=>?_) fun hkl=>?_
 ·have hw:=step64 hkl hm
  obtain ⟨q,rfl⟩: ∃q',q=q'+1:=⟨q-1,by omega⟩
  obtain ⟨b,o,h1,h2⟩:=(ht.mono hm02).at hkl
  have stop:outB l.length ms[k]=true→E=11:=fun h=>by rw[if_pos (any_true hkl h)] at hE;exact hE.symm
  have next:outB l.length ms[k]=false→I q (h47_0 s t (.int .i64 (k+1:Nat))) m2:=fun h=>(hI _ _ _).2 ⟨k+1,by omega,rfl,hm2,fun j hj hjk=>by
   by_cases hjk':j=k
   ·subst hjk';exact h
   ·exact hz j hj (by omega)⟩
  simp[h1,h2]
  refine C_of (k65 s l ms[k] m2 (hs.mono hm02)) ?_
  rintro _ _ ⟨rfl,rfl⟩
  have ho:(!(decide (0≤ms[k])&&decide (ms[k]<l.length)))=outB l.length ms[k]:=rfl
  cases hob:outB l.length ms[k]
  ·rw[hob] at ho
   have ho':(decide (0≤ms[k])&&decide (ms[k]<l.length))=true:=by simpa using ho
   rw[ho']
   simp[hw]
   exact ⟨q,by omega,by simpa using next hob⟩
  ·rw[hob] at ho
   have ho':(decide (0≤ms[k])&&decide (ms[k]<l.length))=false:=by simp at ho ⊢;omega
   rw[ho']
   simp
   exact ⟨(stop hob).symm,hm02⟩
 ·rw[any_false fun j hj=>hz j hj (by omega)] at hE
  simp at hE
  simp[←hE,hm02]
def atI (r:Nat→Nat) (zs:List Nat) (x:Nat):Int:=fidx (fun i=>(zs[i]?).any fun z=>r z==r x) 0 zs.length
end Go.Proofs.YtlniliigcnedmaaGreatDoor
namespace Go.Proofs.YtlniliigcnedmaaGreatDoor
open Go Ax
set_option maxRecDepth 100000
structure BasesOk (l:List Md) (x:Nat) (zs:List Nat):Prop where
 un:isU (mdAt l x)=true→ ∃O,(∀j,j∈O↔IsPart l x j)∧SortedBy (RR l) O zs
 el:isU (mdAt l x)=false→zs= [x]
theorem SortedBy.congr {r r':Nat→Nat} {ms zs:List Nat} {n:Nat} (hn: ∀x∈ms,x<n) (hr: ∀x,x<n→r x=r' x) (h:SortedBy r ms zs):SortedBy r' ms zs:=by
 have hz: ∀z∈zs,r z=r' z:=fun z hz=>hr z (hn z (h.sub z hz))
 refine ⟨?_,h.sub,fun y hy=>?_⟩
 ·exact List.Pairwise.imp_of_mem (fun {a b} ha hb hab=>by rw[←hz a ha,←hz b hb];exact hab) h.asc
 ·obtain ⟨z,h1,h2,h3⟩:=h.cov y hy
  exact ⟨z,h1,by rw[←hz z h1,h2,hr y (hn y hy)],h3⟩
theorem BasesOk.lt {l:List Md} (hg:goodT l) {x:Nat} (hx:x<l.length) {zs:List Nat} (h:BasesOk l x zs): ∀z∈zs,z<l.length:=by
 intro z hz
 cases hu:isU (mdAt l x)
 ·rw[h.el hu,List.mem_singleton] at hz;omega
 ·obtain ⟨O,h1,h2⟩:=h.un hu
  exact ((h1 z).1 (h2.sub z hz)).lt hg
theorem BasesOk.length {l:List Md} (hg:goodT l) {x:Nat} (hx:x<l.length) {zs:List Nat} (h:BasesOk l x zs):zs.length≤l.length:=by
 refine nodup_le _ _ ?_ (h.lt hg hx)
 cases hu:isU (mdAt l x)
 ·rw[h.el hu];simp
 ·obtain ⟨O,h1,h2⟩:=h.un hu
  exact h2.asc.imp fun hab=>by intro e;subst e;omega
end Go.Proofs.YtlniliigcnedmaaGreatDoor
namespace Go.Proofs.YtlniliigcnedmaaGreatDoor
open Go Ax
theorem SortedBy.mem {r:Nat→Nat} {ms zs:List Nat} (h:SortedBy r ms zs) (z:Nat):z∈zs↔z∈ms∧ ∀y∈ms,r y=r z→z≤y:=by
 have hinj: ∀a∈zs,∀b∈zs,r a=r b→a=b:=by
  intro a ha b hb hab
  obtain ⟨i,hi,rfl⟩:=List.mem_iff_getElem.1 ha
  obtain ⟨j,hj,rfl⟩:=List.mem_iff_getElem.1 hb
  have h0:=List.pairwise_iff_getElem.1 h.asc
  rcases Nat.lt_trichotomy i j with hij|hij|hij
  ·have:=h0 i j hi hj hij;omega
  ·subst hij;rfl
  ·have:=h0 j i hj hi hij;omega
 constructor
 ·intro hz
  refine ⟨h.sub z hz,fun y hy he=>?_⟩
  obtain ⟨w,h1,h2,h3⟩:=h.cov y hy
  rw[hinj z hz w h1 (by omega)]
  exact h3
 ·rintro ⟨hz,hm⟩
  obtain ⟨w,h1,h2,h3⟩:=h.cov z hz
  have:=hm w (h.sub w h1) h2
  rw[show z=w by omega]
  exact h1
theorem pwr_ext {r:Nat→Nat}: ∀{xs ys:List Nat},xs.Pairwise (fun a b=>r a<r b)→ys.Pairwise (fun a b=>r a<r b)→(∀v,v∈xs↔v∈ys)→xs=ys
 | [],[],_,_,_=>rfl
 | [],y::ys,_,_,h=>by have:=(h y).2 List.mem_cons_self;cases this
 |x::xs,[],_,_,h=>by have:=(h x).1 List.mem_cons_self;cases this
 |x::xs,y::ys,hx,hy,h=>by
  rw[List.pairwise_cons] at hx hy
  have hxy:x=y:=by
   have h1:=(h x).1 List.mem_cons_self
   have h2:=(h y).2 List.mem_cons_self
   rcases List.mem_cons.1 h1 with h1|h1
   ·exact h1
   ·rcases List.mem_cons.1 h2 with h2|h2
    ·exact h2.symm
    ·have:=hy.1 x h1
     have:=hx.1 y h2
     omega
  subst hxy
  rw[pwr_ext hx.2 hy.2 fun v=>?_]
  constructor
  ·intro hv
   rcases List.mem_cons.1 ((h v).1 (List.mem_cons_of_mem _ hv)) with rfl|h1
   ·have:=hx.1 v hv;omega
   ·exact h1
  ·intro hv
   rcases List.mem_cons.1 ((h v).2 (List.mem_cons_of_mem _ hv)) with rfl|h1
   ·have:=hy.1 v hv;omega
   ·exact h1
theorem SortedBy.unique {r:Nat→Nat} {ms ms' zs zs':List Nat} (h:SortedBy r ms zs) (h':SortedBy r ms' zs') (hm: ∀v,v∈ms↔v∈ms'):zs=zs':=by
 refine pwr_ext h.asc h'.asc fun v=>?_
 rw[h.mem,h'.mem,hm]
 constructor
 ·rintro ⟨h1,h2⟩;exact ⟨h1,fun y hy=>h2 y ((hm y).2 hy)⟩
 ·rintro ⟨h1,h2⟩;exact ⟨h1,fun y hy=>h2 y ((hm y).1 hy)⟩
theorem BasesOk.unique {l:List Md} {x:Nat} {zs zs':List Nat} (h:BasesOk l x zs) (h':BasesOk l x zs'):zs=zs':=by
 cases hu:isU (mdAt l x)
 ·rw[h.el hu,h'.el hu]
 ·obtain ⟨O,h1,h2⟩:=h.un hu
  obtain ⟨O',h3,h4⟩:=h'.un hu
  exact h2.unique h4 fun v=>by rw[h1,h3]
open Classical in
noncomputable def basesOf (l:List Md) (x:Nat):List Nat:=if h: ∃zs,BasesOk l x zs then h.choose else []
theorem BasesOk.eq {l:List Md} {x:Nat} {zs:List Nat} (h:BasesOk l x zs):zs=basesOf l x:=by
 unfold basesOf
 rw[dif_pos ⟨zs,h⟩]
 exact h.unique (Exists.choose_spec (⟨zs,h⟩: ∃zs,BasesOk l x zs))
theorem BasesOk.ok {l:List Md} {x:Nat} {zs:List Nat} (h:BasesOk l x zs):BasesOk l x (basesOf l x):=h.eq▸h
noncomputable def uniB (l:List Md) (a b:Nat):Bool:=isU (mdAt l b)&& !(RR l a==RR l b)&&(basesOf l a).all fun x=>decide (0≤atI (RR l) (basesOf l b) x)
theorem right2 {l:List Md} {u v:Int} (h:rightI l [u,v]=0):checkI l=0∧ ∃a b:Nat,u=a∧v=b∧a<l.length∧b<l.length:=by
 unfold rightI at h
 split at h
 ·omega
 ·rename_i h1
  split at h
  ·omega
  ·rename_i h2
   simp[outB] at h2
   exact ⟨by omega,u.toNat,v.toNat,by omega,by omega,by omega,by omega⟩
end Go.Proofs.YtlniliigcnedmaaGreatDoor
namespace Go.Proofs.YtlniliigcnedmaaGreatDoor
open Go Ax
set_option maxRecDepth 100000
theorem two_ints (m:AMem) (u v:Int):OwL (AVal.int .i64) m.length (m++ [.own [.int .i64 u,.int .i64 v] 3 none]) 3 (.slice m.length 0 2 2 none) [u,v]:=OwL.new (f:=AVal.int .i64) m 3 [u,v]
end Go.Proofs.YtlniliigcnedmaaGreatDoor
namespace Go.Proofs.YtlniliigcnedmaaGreatDoor
open Go Ax
set_option maxRecDepth 100000
theorem ranksAt {m:AMem} {ro:AVal} {rk:List Nat} (h:RInts m ro (rk.map fun z:Nat=>(z:Int))) {x:Nat} (hx:x<rk.length): ∃b o,(∀k,iaddrE 1 ro (.int k (x:Nat))=some (.ptr b o))∧ ∀m',m<+:m'→loadE m' 1 false (.ptr b o)=some (.int .i64 (rk.getD x 0:Nat)):=by
 obtain ⟨b,o,h1,h2⟩:=h.at (i:=x) (by simpa using hx)
 exact ⟨b,o,h1,fun m' hm'=>by rw[loadE_mono hm' h2];simp[List.getD,hx]⟩
theorem k106 (ro:AVal) (rk:List Nat) (x z b1:Nat) (m:AMem) (hro:RInts m ro (rk.map fun z:Nat=>(z:Int))) (hx:x<rk.length) (hz:z<rk.length) (h1:readB m b1=some [ro]):
  ACalls Tryz.prog 106 [.int .i64 z,.int .i64 x,.ptr b1 0] m fun v m'=>v= .bool (rk.getD z 0==rk.getD x 0)∧m<+:m':=by
 refine w106 ?_
 obtain ⟨bx',ox,hpx,hlx⟩:=ranksAt hro hx
 obtain ⟨bz,oz,hpz,hlz⟩:=ranksAt hro hz
 have hlx:=hlx m (List.prefix_refl _)
 have hlz:=hlz m (List.prefix_refl _)
 generalize rk.getD x 0=rx at*
 generalize rk.getD z 0=rz at*
 simp
 refine W_drawPR (by simp[maxDst]) rfl rfl ?_
 simp[bx h1,hpx,hlx,hpz,hlz]
 intro m2 hm2
 simp[hm2,Bool.beq_eq_decide_eq]
 omega
def cmpRI (rk:List Nat) (a b:Int):Int:=firstNZ [cmpI (rk.getD a.toNat 0) (rk.getD b.toNat 0),cmpI a b]
set_option maxHeartbeats 2000000 in
theorem k104 (ro:AVal) (rk:List Nat) (a b b1:Nat) (m:AMem) (hro:RInts m ro (rk.map fun z:Nat=>(z:Int))) (ha:a<rk.length) (hb:b<rk.length) (h1:readB m b1=some [ro]):
  ACalls Tryz.prog 104 [.int .i64 a,.int .i64 b,.ptr b1 0] m fun v m'=>v= .int .i64 (cmpRI rk a b)∧m<+:m':=by
 refine w104 ?_
 obtain ⟨ba,oa,hpa,hla⟩:=ranksAt hro ha
 obtain ⟨bb,ob,hpb,hlb⟩:=ranksAt hro hb
 have hla:=hla m (List.prefix_refl _)
 have hlb:=hlb m (List.prefix_refl _)
 unfold cmpRI
 simp only[Int.toNat_natCast]
 generalize rk.getD a 0=x at*
 generalize rk.getD b 0=y at*
 simp
 refine W_draw (fun _ _ _=>True) (by simp[maxDst]) ?_
 have: ∀(j:Nat) (m':AMem),noFacts j m':=fun _ _=>trivial
 refine D_pre 0 8 [9,10,8,11,12,13,14] (by simp only[List.drop_zero,List.drop_succ_cons,List.take_succ_cons,List.take_zero];rfl) rfl rfl ‹_› ?_
 simp[bx h1,hpa,hla,hpb,hlb]
 intro _ _
 refine D_pre 9 2 [8,11,12,13,14] (by simp only[List.drop_zero,List.drop_succ_cons,List.take_succ_cons,List.take_zero];rfl) rfl rfl ‹_› ?_
 simp
 intro _ _
 refine D_X rfl rfl fun m5 hm5 _=>?_
 simp
 refine C_of (k86 _ _ m5) ?_
 rintro _ _ ⟨rfl,rfl⟩
 refine ⟨by simp[lateOf],?_⟩
 refine D_X rfl rfl fun m6 hm6 _=>?_
 simp
 refine C_of (k86 _ _ m6) ?_
 rintro _ _ ⟨rfl,rfl⟩
 refine ⟨by simp[lateOf],?_⟩
 refine D_A rfl trivial ?_
 simp[fillA,setN]
 intro b'
 refine D_X rfl rfl fun m7 hm7 hp=>?_
 have h18:=hp 12
 simp[upd] at h18
 simp
 refine C_of (k85 (.slice b' 0 2 2 none) [cmpI x y,cmpI a b] m7 ?_ (by simp)) ?_
 ·refine .inr ⟨b',0,2,none,rfl,⟨by simp,.inl rfl⟩,.inr ⟨by simp,_,by simp[readB,h18,ABlk.cells];rfl,by simp[readN]⟩⟩
 rintro _ _ ⟨rfl,rfl⟩
 refine ⟨by simp[lateOf],?_⟩
 refine D_P rfl trivial ?_
 simp
 refine D_end fun m2 hm2 _=>?_
 simp
 exact ((hm5.trans hm6).trans hm7).trans hm2
theorem two_box (m:AMem) (z w:List AVal) (ty ty':TypeId):readB (m++ [.own z ty none,.own w ty' none]) m.length=some z∧readB (m++ [.own z ty none,.own w ty' none]) (m.length+1)=some w∧m<+:m++ [.own z ty none,.own w ty' none]:=by
 refine ⟨?_,?_,List.prefix_append _ _⟩
 ·simp[readB,ABlk.cells]
 ·simp[readB,ABlk.cells,List.getElem?_append_right]
end Go.Proofs.YtlniliigcnedmaaGreatDoor
namespace Go.Proofs.YtlniliigcnedmaaGreatDoor
open Go Ax
open Relation
set_option maxRecDepth 100000
theorem Ax.Ch.andThen {S T:Nat→Prop} {m m1 m2:AMem} (h:Ch S m m1) (h':Ch T m1 m2) (hT: ∀b,b<m.length→T b→S b):Ch S m m2:=
 ⟨Nat.le_trans h.len h'.len,fun b blk k1 k2=>h'.keep b blk (h.keep b blk k1 k2) fun k=>k2 (hT b (List.getElem?_eq_some_iff.1 k1).1 k)⟩
def IsBase (l:List Md) (x j:Nat):Prop:=if isU (mdAt l x)=true then IsPart l x j else j=x
end Go.Proofs.YtlniliigcnedmaaGreatDoor
namespace Go.Proofs.YtlniliigcnedmaaGreatDoor
open Go Ax
open Relation
set_option maxRecDepth 100000
theorem IsBase.lt {l:List Md} (hg:goodT l) {x j:Nat} (hx:x<l.length) (h:IsBase l x j):j<l.length:=by
 unfold IsBase at h
 split at h
 ·exact h.lt hg
 ·omega
open Classical in
theorem basesSome (l:List Md) (hg:goodT l) (x:Nat) (hx:x<l.length): ∃O:List Nat,O.Nodup∧ ∀j,j∈O↔IsBase l x j:=by
 refine ⟨(List.range l.length).filter fun j=>decide (IsBase l x j),List.Pairwise.filter _ List.nodup_range,fun j=>?_⟩
 simp only[List.mem_filter,List.mem_range,decide_eq_true_eq]
 exact ⟨fun h=>h.2,fun h=>⟨h.lt hg hx,h⟩⟩
def IsBases (l:List Md) (x:Nat) (O:List Nat):Prop:=O.Nodup∧ ∀j,j∈O↔IsBase l x j
theorem IsBases.lt {l:List Md} (hg:goodT l) {x:Nat} (hx:x<l.length) {O:List Nat} (h:IsBases l x O): ∀z∈O,z<l.length:=fun z hz=>((h.2 z).1 hz).lt hg hx
theorem IsBases.length {l:List Md} (hg:goodT l) {x:Nat} (hx:x<l.length) {O:List Nat} (h:IsBases l x O):O.length≤l.length:=nodup_le _ _ h.1 (h.lt hg hx)
end Go.Proofs.YtlniliigcnedmaaGreatDoor
namespace Go.Proofs.YtlniliigcnedmaaGreatDoor
open Go Ax
set_option maxRecDepth 100000
def cpF (E:Int→Int→Bool) (ys:List Int):Nat→List Int
 |0=> []
 |j+1=>if j≠0∧E (ys.getD j 0) (ys.getD (j-1) 0)=true then cpF E ys j else cpF E ys j++ [ys.getD j 0]
set_option maxHeartbeats 4000000 in
theorem k105 (t:AVal) (ty:TypeId) (lo:Nat) (m0:AMem) (hlo:m0.length≤lo) (g:FuncId) (fs cs:List AVal) (E:Int→Int→Bool) (ys:List Int) (hE: ∀a∈ys,∀b∈ys,∀m',m0<+:m'→ACalls Tryz.prog g (fs++ [.int .i64 a,.int .i64 b]++cs) m' fun v m''=>v= .bool (E a b)∧m'<+:m'') (hn:ys.length<2^62) (m:AMem) (hm:m0<+:m) (hX:OwL (AVal.int .i64) lo m ty t ys):
  ACalls Tryz.prog 105 [t,.func (.func g) fs cs] m fun v m'=>m0<+:m'∧Ch (fun b=>t.blk=some b) m m'∧OwL (AVal.int .i64) lo m' ty v (cpF E ys ys.length)∧v.blk=t.blk:=by
 refine w105 ?_
 simp[hX.len]
 refine bbind_dec (fun h2=>?_) fun h2=>?_
 ·have hcp:cpF E ys ys.length=ys:=by
   match ys,h2 with
   | [],_=>rfl
   | [a],_=>simp[cpF]
   |a::b::r,h2=>simp at h2;omega
  simp[hm,hcp,hX]
  exact .refl _ _
 simp
 obtain ⟨I,hI⟩: ∃I:Nat→AFrame→AMem→Prop,∀q a m',I q a m'↔(∃(k:Nat),k+q=ys.length∧1≤k∧a=h105_0 t (.func (.func g) fs cs) (.int .i64 k)∧m<+:m'∧cpF E ys k=ys.take k):=⟨_,fun _ _ _=>Iff.rfl⟩
 have h1:cpF E ys 1=ys.take 1:=by
  match ys,h2 with
  | [],h2=>simp at h2
  |a::r,_=>simp[cpF]
 refine W_loop I (ys.length-1) ((hI _ _ _).2 ⟨1,by omega,by omega,rfl,List.prefix_refl _,h1⟩) ?_
 rintro q a m1 hIn
 obtain ⟨k,hk,hk1,rfl,hm1,hcp⟩:=(hI _ _ _).1 hIn
 clear hIn
 replace hX:=hX.mono hm1
 have hch:Ch (fun b=>t.blk=some b) m m1:= .of_prefix hm1
 replace hm:=hm.trans hm1
 simp[hX.len]
 refine bbind_dec (fun hkl=>?_) fun hkl=>?_
 ·have hw:=step64 hkl hn
  obtain ⟨q,rfl⟩: ∃q',q=q'+1:=⟨q-1,by omega⟩
  have hp:=pred64 (n:=k) (by omega) (by omega)
  obtain ⟨b1,o1,_,hp1,hl1,_⟩:=hX.at hkl
  obtain ⟨b0,o0,_,hp0,hl0,_⟩:=hX.at (i:=k-1) (by omega)
  simp
  refine W_draw (fun _ _ _=>True) (by simp[maxDst]) ?_
  refine D_pc 0 10 [10] ?_
  simp[hp1,hl1,hp,hp0,hl0]
  intro _ _
  refine D_X rfl rfl fun m5 hm5 _=>?_
  simp
  have hcall:=hE _ (List.getElem_mem hkl) _ (List.getElem_mem (show k-1<ys.length by omega)) m5 (hm.trans hm5)
  simp at hcall
  refine C_of hcall ?_
  rintro _ m6 ⟨rfl,hm6⟩
  refine ⟨by simp[lateOf],?_⟩
  refine D_end fun m2 hm2 _=>?_
  replace hm2:=(hm5.trans hm6).trans hm2
  clear hcall hm5 hm6
  replace hX:=hX.mono hm2
  have hch2:=hch.trans (.of_prefix hm2)
  replace hm:=hm.trans hm2
  have gk:ys.getD k 0=ys[k]:=by simp[List.getD,hkl]
  have gk1:ys.getD (k-1) 0=ys[k-1]:=by simp[List.getD,show k-1<ys.length by omega]
  by_cases heq:E ys[k] ys[k-1]=true
  rotate_left
  ·have hcp':cpF E ys (k+1)=ys.take (k+1):=by
    rw[cpF,if_neg,hcp]
    ·rw[List.take_add_one,List.getElem?_eq_getElem hkl];simp[List.getD,hkl]
    ·rintro ⟨_,h⟩
     rw[gk,gk1] at h
     exact heq h
   have heqf:E ys[k] ys[k-1]=false:=by simpa using heq
   simp[heqf,hw]
   exact ⟨q,by omega,(hI _ _ _).2 ⟨k+1,by omega,by omega,by simp,hm1.trans hm2,hcp'⟩⟩
  simp[heq]
  clear hp1 hl1 hp0 hl0
  obtain ⟨s2,hs2,_,_⟩:=hX.drop (i:=k) (by omega)
  have hs2': ∀(j:Nat),j<ys.length-k→ ∀kd,iaddrE 1 s2 (.int kd j)=iaddrE 1 t (.int kd (k+j:Nat)):=by
   intro j hj kd
   rcases hX with ⟨_,h1,_⟩|⟨b,o,cap,gr,bl,gr',rfl,_⟩
   ·omega
   ·have:=hs2 .i64
    simp only[sliceE,bdE,evSlice] at this
    simp at this
    obtain ⟨_,rfl⟩:=this
    have h3:((j:Int)<((ys.length-k:Nat):Int)):=by omega
    have h4:(((k+j:Nat):Int)<(ys.length:Int)):=by omega
    simp only[iaddrE]
    rw[if_pos ⟨by omega,by exact_mod_cast h3⟩,if_pos ⟨by omega,by exact_mod_cast h4⟩]
    simp
    omega
  have hs2l:lenE s2=some (.int .i64 (ys.length-k:Nat)):=by
   rcases hX with ⟨_,h1,_⟩|⟨b,o,cap,gr,bl,gr',rfl,_⟩
   ·omega
   ·have:=hs2 .i64
    simp only[sliceE,bdE,evSlice] at this
    simp at this
    obtain ⟨_,rfl⟩:=this
    rfl
  simp[hs2]
  obtain ⟨J,hJ⟩: ∃I:Nat→AFrame→AMem→Prop,∀q a m',I q a m'↔(∃(z p:Nat) (zs:List Int),1≤p∧p+q=ys.length-k∧a=h105_1 t (.func (.func g) fs cs) (.int .i64 z) s2 (.int .i64 p)∧m0<+:m'∧Ch (fun b=>t.blk=some b) m m'∧OwL (AVal.int .i64) lo m' ty t zs∧zs.length=ys.length∧z+1≤k+p∧(∀j,z≤j→zs[j]? =ys[j]?)∧zs.take z=cpF E ys (k+p)):=⟨_,fun _ _ _=>Iff.rfl⟩
  have hcp1:ys.take k=cpF E ys (k+1):=by
   rw[cpF,if_pos,hcp]
   refine ⟨by omega,?_⟩
   rw[gk,gk1,heq]
  refine W_loop J (ys.length-k-1) ((hJ _ _ _).2 ⟨k,1,ys,by omega,by omega,rfl,hm,hch2,hX,rfl,by omega,fun _ _=>rfl,hcp1⟩) ?_
  clear hX hm hch hch2 hm2
  rintro q2 a m3 hIn
  obtain ⟨z,p,zs,hp1,hpq,rfl,hm,hch,hZ,hzl,hzk,hze,hzt⟩:=(hJ _ _ _).1 hIn
  clear hIn
  simp[hs2l]
  refine bbind_dec (fun hpl=>?_) fun hpl=>?_
  ·have hpl:p<ys.length-k:=by omega
   have hwp:=step64 hpl (by omega)
   obtain ⟨q2,rfl⟩: ∃q',q2=q'+1:=⟨q2-1,by omega⟩
   have hpp:=pred64 (n:=p) (by omega) (by omega)
   obtain ⟨b1,o1,_,hp1',hl1,_⟩:=hZ.at (i:=k+p) (by omega)
   obtain ⟨b0,o0,_,hp0,hl0,_⟩:=hZ.at (i:=k+p-1) (by omega)
   have e1:=hs2' p hpl .i64
   have e0:=hs2' (p-1) (by omega) .i64
   rw[hp1' .i64] at e1
   rw[show k+(p-1)=k+p-1 by omega,hp0 .i64] at e0
   have v1:zs[k+p]'(by omega)=ys[k+p]'(by omega):=by
    have:=hze (k+p) (by omega)
    rw[List.getElem?_eq_getElem (by omega),List.getElem?_eq_getElem (by omega)] at this
    simpa using this
   have v0:zs[k+p-1]'(by omega)=ys[k+p-1]'(by omega):=by
    have:=hze (k+p-1) (by omega)
    rw[List.getElem?_eq_getElem (by omega),List.getElem?_eq_getElem (by omega)] at this
    simpa using this
   rw[v1] at hl1
   rw[v0] at hl0
   simp
   refine W_draw (fun _ _ _=>True) (by simp[maxDst]) ?_
   refine D_pc 0 10 [10,11] ?_
   simp[e1,hl1,hpp,e0,hl0]
   intro _ _
   refine D_X rfl rfl fun m5 hm5 _=>?_
   simp
   have hcall:=hE _ (List.getElem_mem (show k+p<ys.length by omega)) _ (List.getElem_mem (show k+p-1<ys.length by omega)) m5 (hm.trans hm5)
   simp at hcall
   refine C_of hcall ?_
   rintro _ m6 ⟨rfl,hm6⟩
   refine ⟨by simp[lateOf],?_⟩
   refine D_P rfl trivial ?_
   simp
   refine D_end fun m4 hm4 _=>?_
   replace hm4:=(hm5.trans hm6).trans hm4
   clear hcall hm5 hm6
   have hZ4:=hZ.mono hm4
   have gk:ys.getD (k+p) 0=ys[k+p]'(by omega):=by simp[List.getD,show k+p<ys.length by omega]
   have gk1:ys.getD (k+p-1) 0=ys[k+p-1]'(by omega):=by simp[List.getD,show k+p-1<ys.length by omega]
   by_cases hne:E (ys[k+p]'(by omega)) (ys[k+p-1]'(by omega))=true
   ·have hcp':cpF E ys (k+p+1)=cpF E ys (k+p):=by
     rw[cpF,if_pos]
     refine ⟨by omega,?_⟩
     rw[gk,gk1,hne]
    simp[hne,hwp]
    exact ⟨q2,by omega,(hJ _ _ _).2 ⟨z,p+1,zs,by omega,by omega,by simp,hm.trans hm4,hch.trans (.of_prefix hm4),hZ4,hzl,by omega,hze,by rw[hzt,←hcp'];rfl⟩⟩
   ·have hcp':cpF E ys (k+p+1)=cpF E ys (k+p)++ [ys[k+p]'(by omega)]:=by
     rw[cpF,if_neg]
     ·simp[List.getD,show k+p<ys.length by omega]
     ·rintro ⟨_,h⟩
      rw[gk,gk1] at h
      exact hne h
    have hwz:=step64 (k:=z) (n:=ys.length) (by omega) hn
    obtain ⟨bz,oz,hbz,hpz,_,hstz⟩:=hZ4.at (i:=z) (by omega)
    obtain ⟨m5,hst,hch5,hZ5⟩:=hstz (ys[k+p]'(by omega))
    have hnef:E (ys[k+p]'(by omega)) (ys[k+p-1]'(by omega))=false:=by simpa using hne
    simp[hnef,e1,loadE_mono hm4 hl1,hpz,hst,hwz,hwp]
    refine ⟨q2,by omega,(hJ _ _ _).2 ⟨z+1,p+1,zs.set z (ys[k+p]'(by omega)),by omega,by omega,by simp,hch5.pre (hm.trans hm4) fun b hb=>?_,(hch.trans (.of_prefix hm4)).trans (hch5.weaken fun b _ hb=>by rw[hb];exact hbz),hZ5,by simpa using hzl,by omega,fun j hj=>?_,?_⟩⟩
    ·have:=(hZ4.blk_lo hbz).1;omega
    ·rw[List.getElem?_set_ne (by omega)];exact hze j (by omega)
    ·rw[show k+(p+1)=k+p+1 by omega,hcp',←hzt,List.take_add_one,List.getElem?_set_self (by omega)]
     simp[List.take_set]
     exact List.set_eq_of_length_le (by simp;omega)
  ·have hpe:k+p=ys.length:=by omega
   obtain ⟨s3,m4,hs3,hcl,hch4,hZ4⟩:=hZ.clear (i:=z) (by omega) 0
   obtain ⟨s4,hs4,hZ5,hbl⟩:=hZ4.take (i:=z) (by simp;omega)
   simp[hs3,hcl,hs4]
   rw[List.take_append_of_le_length (by simp;omega),List.take_take,Nat.min_self,hzt,hpe] at hZ5
   exact ⟨hch4.pre hm fun b hb hbb=>by have:=(hZ.blk_lo hbb).1;omega,hch.trans hch4,hZ5,hbl⟩
 ·have hkl:k=ys.length:=by omega
  subst hkl
  rw[List.take_length] at hcp
  simp[hm,hcp,hX]
  exact hch
end Go.Proofs.YtlniliigcnedmaaGreatDoor
namespace Go.Proofs.YtlniliigcnedmaaGreatDoor
open Go Ax
set_option maxRecDepth 100000
theorem cmpRI_ordG (rk:List Nat) (D:Int→Prop):Ord (cmpRI rk) D:=by
 have h1:OrdG (fun a b:Int=>cmpI (rk.getD a.toNat 0) (rk.getD b.toNat 0)) (fun _=>True):=cmpI_ordG.pull (fun a:Int=>(rk.getD a.toNat 0:Int)) fun _ _=>trivial
 have h2:=h1.then cmpI_ordG
 have e: ∀a b,cmpRI rk a b=thenC (fun a b:Int=>cmpI (rk.getD a.toNat 0) (rk.getD b.toNat 0)) cmpI a b:=fun a b=>by
  unfold cmpRI thenC
  rw[firstNZ_cons,firstNZ_cons]
  simp only[]
  generalize cmpI (rk.getD a.toNat 0) (rk.getD b.toNat 0)=x
  have h0:firstNZ []=0:=rfl
  by_cases h:x=0
  ·simp[h,h0]
   intro h;exact h.symm
  ·simp[h]
 exact ⟨fun a b _ _=>by rw[e,e];exact h2.anti a b trivial trivial,fun a b d _ _ _=>by rw[e,e,e];exact h2.trans a b d trivial trivial trivial⟩
theorem cmpRI_le {rk:List Nat} {a b:Nat} (h:cmpRI rk a b≤0):rk.getD a 0<rk.getD b 0∨(rk.getD a 0=rk.getD b 0∧a≤b):=by
 unfold cmpRI at h
 rw[firstNZ_cons,firstNZ_cons] at h
 simp only[Int.toNat_natCast] at h
 split at h
 ·have:=cmpI_le.1 h
  rename_i hne
  have: ¬((rk.getD a 0:Int)=rk.getD b 0):=fun e=>hne (cmpI_zero.2 e)
  omega
 ·rename_i he
  have he:cmpI (rk.getD a 0) (rk.getD b 0)=0:=by simpa using he
  have:=cmpI_zero.1 he
  split at h
  ·have:=cmpI_le.1 h;omega
  ·rename_i he2
   have he2:cmpI (a:Int) b=0:=by simpa using he2
   have:=cmpI_zero.1 he2;omega
theorem cpF_sorted {rk ws O:List Nat} (hp:ws.Perm O) (hs:SortedTo (cmpRI rk) (ws.map fun z:Nat=>(z:Int)) ws.length):
  ∀j,j≤ws.length→ ∃zs,cpF (fun a b=>rk.getD a.toNat 0==rk.getD b.toNat 0) (ws.map fun z:Nat=>(z:Int)) j=zs.map (fun z:Nat=>(z:Int))∧SortedBy (fun a=>rk.getD a 0) (ws.take j) zs∧(j≠0→ ∃w,zs.getLast? =some w∧ ∀y,ws[j-1]? =some y→rk.getD w 0=rk.getD y 0)
 |0,_=>⟨[],rfl,by simpa using SortedBy.nil,fun h=>absurd rfl h⟩
 |j+1,hj=>by
  obtain ⟨zs,h1,h2,h3⟩:=cpF_sorted hp hs j (by omega)
  have hjl:j<ws.length:=by omega
  have hws:ws[j]? =some ws[j]:=List.getElem?_eq_getElem hjl
  have hgd:(ws.map fun z:Nat=>(z:Int)).getD j 0=(ws[j]:Nat):=by simp[List.getD,hjl]
  have htk:ws.take (j+1)=ws.take j++ [ws[j]]:=by rw[List.take_add_one,hws];rfl
  have hlt: ∀i,(hi:i<j)→rk.getD ws[i] 0<rk.getD ws[j] 0∨(rk.getD ws[i] 0=rk.getD ws[j] 0∧ws[i]≤ws[j]):=fun i hi=>by
   have hil:i<ws.length:=by omega
   have:=cmpRI_le (hs i j (ws[i]:Nat) (ws[j]:Nat) hi hjl (by simp[hil]) (by simp[hjl]))
   omega
  rw[cpF,hgd,htk]
  split
  ·rename_i hc
   obtain ⟨hj0,hE⟩:=hc
   obtain ⟨w,h4,h5⟩:=h3 hj0
   have hj1:j-1<ws.length:=by omega
   have hgd1:(ws.map fun z:Nat=>(z:Int)).getD (j-1) 0=(ws[j-1]:Nat):=by simp[List.getD,hj1]
   rw[hgd1] at hE
   simp only[Int.toNat_natCast,beq_iff_eq] at hE
   have h6:=h5 _ (List.getElem?_eq_getElem hj1)
   have hwz:w∈zs:=List.mem_of_getLast? h4
   refine ⟨zs,h1,⟨h2.asc,fun z hz=>List.mem_append_left _ (h2.sub z hz),fun y hy=>?_⟩,fun _=>⟨w,h4,fun y hy=>?_⟩⟩
   ·rcases List.mem_append.1 hy with hy|hy
    ·exact h2.cov y hy
    ·rw[List.mem_singleton] at hy
     subst hy
     refine ⟨w,hwz,by omega,?_⟩
     obtain ⟨i,hi,hiw⟩:=List.mem_iff_getElem.1 (h2.sub w hwz)
     rw[List.length_take] at hi
     rw[List.getElem_take] at hiw
     have:=hlt i (by omega)
     rw[hiw] at this
     omega
   ·rw[Nat.add_sub_cancel,hws] at hy
    cases hy
    omega
  ·rename_i hc
   refine ⟨zs++ [ws[j]],by rw[h1];simp,⟨?_,fun z hz=>?_,fun y hy=>?_⟩,fun _=>⟨ws[j],by simp,fun y hy=>by rw[Nat.add_sub_cancel,hws] at hy;cases hy;rfl⟩⟩
   ·rw[List.pairwise_append]
    refine ⟨h2.asc,by simp,fun z hz y hy=>?_⟩
    rw[List.mem_singleton] at hy
    subst hy
    obtain ⟨i,hi,hiz⟩:=List.mem_iff_getElem.1 (h2.sub z hz)
    rw[List.length_take] at hi
    rw[List.getElem_take] at hiz
    have hj0:j≠0:=by omega
    have hj1:j-1<ws.length:=by omega
    have hgd1:(ws.map fun z:Nat=>(z:Int)).getD (j-1) 0=(ws[j-1]:Nat):=by simp[List.getD,hj1]
    have hne: ¬rk.getD ws[j] 0=rk.getD ws[j-1] 0:=fun e=>hc ⟨hj0,by rw[hgd1];simpa using e⟩
    have hl1:=hlt (j-1) (by omega)
    have hl2:=hlt i (by omega)
    rw[hiz] at hl2
    rcases hl2 with hl2|⟨hl2,_⟩
    ·exact hl2
    ·exfalso
     have h7:rk.getD z 0≤rk.getD ws[j-1] 0:=by
      by_cases hij:i=j-1
      ·subst hij;rw[hiz];exact Nat.le_refl _
      ·have:=cmpRI_le (hs i (j-1) (ws[i]:Nat) (ws[j-1]:Nat) (by omega) hj1 (by simp[show i<ws.length by omega]) (by simp[hj1]))
       rw[hiz] at this
       omega
     omega
   ·rcases List.mem_append.1 hz with hz|hz
    ·exact List.mem_append_left _ (h2.sub z hz)
    ·exact List.mem_append_right _ hz
   ·rcases List.mem_append.1 hy with hy|hy
    ·obtain ⟨z,hz,h4⟩:=h2.cov y hy
     exact ⟨z,List.mem_append_left _ hz,h4⟩
    ·rw[List.mem_singleton] at hy
     subst hy
     exact ⟨_,List.mem_append_right _ (List.mem_singleton.2 rfl),rfl,Nat.le_refl _⟩
theorem SortedBy.perm {r:Nat→Nat} {ms ms' zs:List Nat} (hp:ms.Perm ms') (h:SortedBy r ms zs):SortedBy r ms' zs:=
 ⟨h.asc,fun z hz=>hp.mem_iff.1 (h.sub z hz),fun y hy=>h.cov y (hp.mem_iff.2 hy)⟩
theorem k24 (t:AVal) (xs:List Int) (m:AMem) (ht:RInts m t xs) (hn:xs.length<2^40):
  ACalls Tryz.prog 24 [t] m fun v m'=>m<+:m'∧OwL (AVal.int .i64) m.length m' 3 v xs:=by
 refine w24 ?_
 rcases ht with ⟨rfl,hx⟩|⟨b,o,cap,gr,rfl,h1,h2⟩
 ·have hx:xs= []:=by simpa using hx
  subst hx
  simp
  exact OwL.nil
 ·simp
  have hN:=OwL.new (f:=AVal.int .i64) m 3 []
  have hm1:m<+:m++ [.own ([].map (AVal.int .i64)) 3 none]:=List.prefix_append _ _
  have hA:RInts m (.slice b o xs.length cap gr) xs:= .inr ⟨b,o,cap,gr,rfl,h1,h2⟩
  have hsc:=ints_append (RInts.mono hA hm1)
  simp[fillA] at hN hsc ⊢
  replace hm1:m<+:m++ [.own [] 3 none]:=hm1
  generalize m++ [.own [] 3 none]=m1 at*
  obtain ⟨t',m2,happ,hch,hO,hbl⟩:=hN.append (by have:=hm1.length_le;omega) (by_:=8) (by decide) xs (by simp;omega)
  simp[hsc,happ]
  exact ⟨hch.pre hm1 fun b hb h=>(by simp[AVal.blk] at h;omega),by simpa using hO⟩
end Go.Proofs.YtlniliigcnedmaaGreatDoor
namespace Go.Proofs.YtlniliigcnedmaaGreatDoor
open Go Ax
set_option maxRecDepth 100000
theorem perm_nat {ys:List Int} {O:List Nat} (h:ys.Perm (O.map fun z:Nat=>(z:Int))): ∃ws:List Nat,ys=ws.map (fun z:Nat=>(z:Int))∧ws.Perm O:=by
 refine ⟨ys.map Int.toNat,?_,?_⟩
 ·rw[List.map_map]
  have: ∀y∈ys,((fun z:Nat=>(z:Int))∘Int.toNat) y=id y:=fun y hy=>by
   obtain ⟨z,_,rfl⟩:=List.mem_map.1 (h.mem_iff.1 hy)
   rfl
  rw[List.map_congr_left this,List.map_id]
 ·have:=h.map Int.toNat
  rw[List.map_map] at this
  have e:(Int.toNat∘fun z:Nat=>(z:Int))=id:=rfl
  rw[e,List.map_id] at this
  exact this
theorem natsI {m:AMem} {lo:Nat} {ty:TypeId} {t:AVal} {O:List Nat}:OwL (AVal.int .i64) lo m ty t (O.map fun z:Nat=>(z:Int))↔OwL natI lo m ty t O:=by
 unfold OwL
 rw[List.length_map,List.map_map]
 exact Iff.rfl
theorem sorted_of {rk O:List Nat} {ys:List Int} (hp:ys.Perm (O.map fun z:Nat=>(z:Int))) (hs:SortedTo (cmpRI rk) ys ys.length):
  ∃zs:List Nat,cpF (fun a b=>rk.getD a.toNat 0==rk.getD b.toNat 0) ys ys.length=zs.map (fun z:Nat=>(z:Int))∧SortedBy (fun a=>rk.getD a 0) O zs:=by
 obtain ⟨ws,rfl,hw⟩:=perm_nat hp
 rw[List.length_map] at hs ⊢
 obtain ⟨zs,h1,h2,_⟩:=cpF_sorted hw hs ws.length (Nat.le_refl _)
 rw[List.take_length] at h2
 exact ⟨zs,h1,h2.perm hw⟩
theorem k54 (s ro:AVal) (l:List Md) (rk:List Nat) (x:Nat) (hx:x<l.length) (hu:isU l[x]=true) (m:AMem) (hs:RTab m s l) (hro:RInts m ro (rk.map fun z:Nat=>(z:Int))) (hrl:rk.length=l.length) (hg:goodT l) (hn:T13 l) (hsz: ∀x∈l,smallN x):
  ACalls Tryz.prog 54 [s,.int .i64 x,ro] m fun v m'=>m<+:m'∧ ∃O zs,(O.Nodup∧ ∀j,j∈O↔IsPart l x j)∧OwL natI m.length m' 3 v zs∧SortedBy (fun a=>rk.getD a 0) O zs:=by
 refine w54 ?_
 have h60:=hn.len
 obtain ⟨hr1,hr2⟩:=Sl.self hro
 simp[hr1,hr2]
 have hb0:=readB_new m [ro] 36 none
 have hm1:m<+:m++ [.own [ro] 36 none]:=List.prefix_append _ _
 have hl1:(m++ [ABlk.own [ro] 36 none]).length=m.length+1:=by simp
 generalize m++ [.own [ro] 36 none]=m1 at*
 generalize hbb:m.length=b1 at*
 refine C_of (k78 s l x hx hu m1 (hs.mono hm1) hg (by omega) hsz) ?_
 rintro v2 m2 ⟨hm2,O,hX,hO,hOm⟩
 simp
 have hOn:O.length≤l.length:=nodup_le _ _ hO fun z h=>IsPart.lt hg ((hOm z).1 h)
 have hE: ∀z,z∈(O.map fun z:Nat=>(z:Int))→ ∃a:Nat,z=a∧a<rk.length:=fun z h=>by
  obtain ⟨a,ha,rfl⟩:=List.mem_map.1 h
  exact ⟨a,rfl,by rw[hrl];exact IsPart.lt hg ((hOm a).1 ha)⟩
 refine C_of (k103 v2 3 m1.length m1 (Nat.le_refl _) 104 [] [.ptr b1 0] (cmpRI rk) (fun z=> ∃a:Nat,z=a∧a<rk.length) (cmpRI_ordG rk _) ?_ _ hE (by simp;omega) m2 hm2 (natsI.2 hX)) ?_
 ·rintro _ _ ⟨a,rfl,ha⟩ ⟨b,rfl,hb⟩ m' hm'
  exact k104 ro rk a b b1 m' (hro.mono (hm1.trans hm')) ha hb (readB_mono hm' hb0)
 rintro v3 m3 ⟨hm3,_,ys,hY,hperm,hsort⟩
 simp
 refine C_of (k105 v2 3 m1.length m1 (Nat.le_refl _) 106 [] [.ptr b1 0] (fun a b=>rk.getD a.toNat 0==rk.getD b.toNat 0) ys ?_ (by rw[hperm.length_eq];simp;omega) m3 hm3 hY) ?_
 ·intro a ha b hb m' hm'
  obtain ⟨a,rfl,ha'⟩:=hE a (hperm.mem_iff.1 ha)
  obtain ⟨b,rfl,hb'⟩:=hE b (hperm.mem_iff.1 hb)
  exact k106 ro rk b a b1 m' (hro.mono (hm1.trans hm')) hb' ha' (readB_mono hm' hb0)
 rintro v4 m4 ⟨hm4,_,hZ,_⟩
 simp
 obtain ⟨zs,h1,h2⟩:=sorted_of hperm hsort
 rw[h1] at hZ
 exact ⟨hm1.trans hm4,O,⟨hO,hOm⟩,zs,(natsI.1 hZ).lo' (by omega),h2⟩
end Go.Proofs.YtlniliigcnedmaaGreatDoor
namespace Go.Proofs.YtlniliigcnedmaaGreatDoor
open Go Ax
set_option maxRecDepth 100000
theorem k58 (t:AVal) (xs:List ByteArray) (m:AMem) (ht:RStrs m t xs) (hn:xs.length<2^40):
  ACalls Tryz.prog 58 [t] m fun v m'=>m<+:m'∧OwL AVal.str m.length m' 9 v xs∧v.one=true∧v.cells= [v]:=by
 refine w58 ?_
 rcases ht with ⟨rfl,hx⟩|⟨b,o,cap,gr,rfl,h1,h2⟩
 ·have hx:xs= []:=by simpa using hx
  subst hx
  simp
  exact OwL.nil
 ·simp
  have hN:=OwL.new (f:=AVal.str) m 9 []
  have hm1:m<+:m++ [.own ([].map AVal.str) 9 none]:=List.prefix_append _ _
  have hA:RStrs m (.slice b o xs.length cap gr) xs:= .inr ⟨b,o,cap,gr,rfl,h1,h2⟩
  have hsc:=Sl.cells (RStrs.mono hA hm1)
  simp[fillA] at hN hsc ⊢
  replace hm1:m<+:m++ [.own [] 9 none]:=hm1
  generalize m++ [.own [] 9 none]=m1 at*
  obtain ⟨t',m2,happ,hch,hO,hbl⟩:=hN.append (by have:=hm1.length_le;omega) (by_:=16) (by decide) xs (by simp;omega)
  simp[hsc,happ]
  have hO':OwL AVal.str m.length m2 9 t' xs:=by simpa using hO
  exact ⟨hch.pre hm1 fun b hb h=>(by simp[AVal.blk] at h;omega),hO',(Ow.sl hO').self⟩
theorem fidx_spec {p:Nat→Bool}: ∀(n i:Nat),0≤fidx p i n→ ∃j,i≤j∧j<i+n∧fidx p i n=(j:Int)∧p j=true
 |0,i,h=>by simp[fidx] at h
 |n+1,i,h=>by
  rw[fidx] at h ⊢
  split
  ·rename_i hp;exact ⟨i,Nat.le_refl _,by omega,rfl,hp⟩
  ·rename_i hp
   rw[if_neg hp] at h
   obtain ⟨j,h1,h2,h3,h4⟩:=fidx_spec n (i+1) h
   exact ⟨j,by omega,by omega,h3,h4⟩
end Go.Proofs.YtlniliigcnedmaaGreatDoor
namespace Go.Proofs.YtlniliigcnedmaaGreatDoor
open Go Ax
set_option maxRecDepth 100000
theorem k77 (s:AVal) (l:List Md) (i:Int) (b:Nat) (m:AMem) (hs:RTab m s l) (hb:readB m b=some [s]):ACalls Tryz.prog 77 [.int .i64 i,.ptr b 0] m fun v m'=>v= .bool (outB l.length i)∧m'=m:=by
 refine w77 ?_
 simp[bx hb]
 refine C_of (k64 s l i m hs) ?_
 rintro _ m1 ⟨rfl,rfl⟩
 simp[outB]
theorem k43 (s t:AVal) (l:List Md) (ms:List Int) (m:AMem) (hs:RTab m s l) (ht:RInts m t ms) (hsz: ∀x∈l,smallN x) (hl:l.length<2^62) (hm:ms.length<2^62):ACalls Tryz.prog 43 [s,t] m fun v m'=>v= .int .i64 (rightI l ms)∧m<+:m':=by
 refine w43 ?_
 obtain ⟨hsl,hsc⟩:=hs.self
 simp[hsl,hsc]
 have hb0:=readB_new m [s] 22 none
 have hm1:m<+:m++ [.own [s] 22 none]:=List.prefix_append _ _
 generalize m++ [.own [s] 22 none]=m1 at*
 generalize m.length=b1 at*
 refine C_of (k52 s l m1 (hs.mono hm1) hsz hl) ?_
 rintro _ m2 ⟨rfl,hm2⟩
 simp
 generalize hE:rightI l ms=E
 unfold rightI at hE
 refine bbind_intro (fun h=>?_) fun h=>?_
 ·have h:checkI l≠0:=by simpa using h
  rw[if_pos h] at hE
  simp[hE,hm1.trans hm2]
 have h:checkI l=0:=by simpa using h
 rw[if_neg (by simp[h])] at hE
 simp
 refine C_of (k36 t ms (outB l.length) m2 (ht.mono (hm1.trans hm2)) hm 77 [] [.ptr b1 0] ?_) ?_
 ·intro x _ m' hm'
  refine (k77 s l x b1 m' (hs.mono ((hm1.trans hm2).trans hm')) (readB_mono (hm2.trans hm') hb0)).mono ?_
  rintro _ _ ⟨rfl,rfl⟩
  exact ⟨rfl,List.prefix_refl _⟩
 rintro _ m3 ⟨rfl,hm3⟩
 simp
 refine bbind_intro (fun h=>?_) fun h=>?_
 ·rw[if_pos h] at hE
  simp[hE,(hm1.trans hm2).trans hm3]
 ·rw[if_neg (by rw[h];simp)] at hE
  simp[←hE,(hm1.trans hm2).trans hm3]
end Go.Proofs.YtlniliigcnedmaaGreatDoor
namespace Go.Proofs.YtlniliigcnedmaaGreatDoor
open Go Ax
set_option maxRecDepth 100000
theorem DenseOf.lt {n k:Nat} {lt:Nat→Nat→Prop} {ds:List Nat} (h:DenseOf n lt ds k) {a b:Nat} (ha:a<n) (hb:b<n):ds.getD a 0<ds.getD b 0↔lt a b:=by
 have ha':a<ds.length:=by rw[h.len];exact ha
 have hb':b<ds.length:=by rw[h.len];exact hb
 have h1:ds[a]? =some ds[a]:=List.getElem?_eq_getElem ha'
 have h2:ds[b]? =some ds[b]:=List.getElem?_eq_getElem hb'
 have:=h.ord a b _ _ h1 h2
 simpa[List.getD,h1,h2] using this
theorem rightI_two {l:List Md} {a b:Nat} (hc:checkI l=0) (ha:a<l.length) (hb:b<l.length):rightI l [(a:Int),(b:Int)]=0:=by
 unfold rightI
 rw[if_neg (by simp[hc]),if_neg]
 simp[outB,ha,hb]
theorem k19 (s:AVal) (l:List Md) (a b:Nat) (m:AMem) (hs:RTab m s l) (hsz: ∀x∈l,smallN x) (hn:T13 l) (hc:checkI l=0) (ha:a<l.length) (hb:b<l.length):
  ACalls Tryz.prog 19 [s,.int .i64 a,.int .i64 b] m fun v m'=>v= .tuple [.bool (decide (RR l a<RR l b)),.int .i64 0]∧m<+:m':=by
 refine w19 ?_
 have h60:=hn.len
 have ok:=okT_of hc
 simp[fillA,setN]
 have hA:=two_ints m a b
 have hm1:m<+:m++ [.own [.int .i64 (a:Int),.int .i64 (b:Int)] 3 none]:=List.prefix_append _ _
 generalize AVal.slice m.length 0 2 2 none=t1 at*
 generalize m++ [.own [.int .i64 (a:Int),.int .i64 (b:Int)] 3 none]=m1 at*
 refine C_of (k43 s t1 l [(a:Int),(b:Int)] m1 (hs.mono hm1) hA.ints hsz (by omega) (by simp)) ?_
 rintro _ m2 ⟨rfl,hm2⟩
 rw[rightI_two hc ha hb]
 simp
 refine C_of (k44 s l m2 (hs.mono (hm1.trans hm2)) ok.good hn.t60 hsz ok.h64) ?_
 rintro v3 m3 ⟨hm3,ds,kd,hX,hD⟩
 have hXi:=ints_of_nat hX
 obtain ⟨ba,oa,hpa,hla⟩:=ranksAt hXi (x:=a) (by rw[hD.len];exact ha)
 obtain ⟨bb,ob,hpb,hlb⟩:=ranksAt hXi (x:=b) (by rw[hD.len];exact hb)
 have hla:=hla m3 (List.prefix_refl _)
 have hlb:=hlb m3 (List.prefix_refl _)
 have hlt:=hD.lt ha hb
 generalize ds.getD a 0=x at*
 generalize ds.getD b 0=y at*
 simp
 refine W_drawPR (by simp[maxDst]) rfl rfl ?_
 simp[hpa,hla,hpb,hlb]
 intro m4 hm4
 simp[hlt]
 exact ((hm1.trans hm2).trans hm3).trans hm4
end Go.Proofs.YtlniliigcnedmaaGreatDoor
namespace Go.Proofs.YtlniliigcnedmaaGreatDoor
open Go Ax
theorem SortedBy.ex (r:Nat→Nat) (ms:List Nat): ∃zs,SortedBy r ms zs:=by
 suffices h: ∀ms:List Nat,∃zs,SortedBy r ms.reverse zs by
  have:=h ms.reverse
  rwa[List.reverse_reverse] at this
 intro ms
 induction ms with
 |nil=>exact ⟨[],SortedBy.nil⟩
 |cons y ms ih=>
  obtain ⟨zs,h⟩:=ih
  rw[List.reverse_cons]
  have key: ∀k,k≤zs.length→(∀(j:Nat) z,j<k→zs[j]? =some z→r z<r y)→ ∃zs',SortedBy r (ms.reverse++ [y]) zs':=by
   intro k hk
   generalize hq:zs.length-k=q
   induction q generalizing k with
   |zero=>
    intro hlt
    exact ⟨_,h.put hk hlt fun z hz=>by rw[List.getElem?_eq_none (by omega)] at hz;cases hz⟩
   |succ q ih=>
    intro hlt
    have hkl:k<zs.length:=by omega
    have hz:zs[k]? =some zs[k]:=List.getElem?_eq_getElem hkl
    rcases Nat.lt_trichotomy (r zs[k]) (r y) with h1|h1|h1
    ·exact ih (k+1) (by omega) (by omega) fun j z hj hjz=>by
      by_cases hjk:j=k
      ·subst hjk;rw[hz] at hjz;cases hjz;exact h1
      ·exact hlt j z (by omega) hjz
    ·exact ⟨_,h.hit hkl h1⟩
    ·exact ⟨_,h.put hk hlt fun z hz'=>by rw[hz] at hz';cases hz';omega⟩
  exact key 0 (Nat.zero_le _) fun j z hj=>by omega
theorem basesEx {l:List Md} (hg:goodT l) {x:Nat} (hx:x<l.length):BasesOk l x (basesOf l x):=by
 cases hu:isU (mdAt l x)
 ·exact (⟨fun h=>(by rw[hu] at h;cases h),fun _=>rfl⟩:BasesOk l x [x]).ok
 ·obtain ⟨O,_,h2⟩:=basesSome l hg x hx
  obtain ⟨zs,h3⟩:=SortedBy.ex (RR l) O
  exact (⟨fun _=>⟨O,fun j=>by rw[h2];unfold IsBase;rw[if_pos hu],h3⟩,fun h=>by rw[hu] at h;cases h⟩:BasesOk l x zs).ok
def hasRR (l:List Md) (x v:Nat):Prop:= ∃j,IsBase l x j∧RR l j=RR l v
theorem SameOrd.eq {n:Nat} {r r':Nat→Nat} (h:SameOrd n r r') {a b:Nat} (ha:a<n) (hb:b<n):r a=r b↔r' a=r' b:=by
 have h1:=h a b ha hb
 have h2:=h b a hb ha
 omega
theorem SortedBy.congrO {r r':Nat→Nat} {ms zs:List Nat} {n:Nat} (hn: ∀x∈ms,x<n) (hr:SameOrd n r r') (h:SortedBy r ms zs):SortedBy r' ms zs:=by
 refine ⟨?_,h.sub,fun y hy=>?_⟩
 ·exact List.Pairwise.imp_of_mem (fun {a b} ha hb hab=>(hr a b (hn a (h.sub a ha)) (hn b (h.sub b hb))).1 hab) h.asc
 ·obtain ⟨z,h1,h2,h3⟩:=h.cov y hy
  exact ⟨z,h1,(hr.eq (hn z (h.sub z h1)) (hn y hy)).1 h2,h3⟩
theorem once_eq {l:List Md} (hg:goodT l) {r:Nat→Nat} (h:SameOrd l.length r (RR l)) {x:Nat} (hx:x<l.length) (hu:isU (mdAt l x)=true) {O zs:List Nat} (hO: ∀j,j∈O↔IsBase l x j) (hs:SortedBy r O zs):zs=basesOf l x:=by
 refine BasesOk.eq ⟨fun _=>⟨O,fun j=>?_,hs.congrO (n:=l.length) (fun x' hx'=>((hO x').1 hx').lt hg hx) h⟩,fun h'=>by rw[hu] at h';cases h'⟩
 rw[hO];unfold IsBase;rw[if_pos hu]
end Go.Proofs.YtlniliigcnedmaaGreatDoor
namespace Go.Proofs.YtlniliigcnedmaaGreatDoor
open Go Ax
theorem firstC_kind {x y:Md} (h:firstC x y=0):x.kind=y.kind:=by
 rw[firstC_eq] at h
 unfold thenC at h
 split at h
 ·rename_i h1;exact absurd h h1
 ·rename_i h1
  have h1:pullC Md.kind x y=0:=by simpa using h1
  exact cmpI_zero.1 h1
theorem R_eq_down {l:List Md} {a b:Nat} (ha:a<l.length) (hb:b<l.length) {d:Nat}: ∀e,R l (d+e) a=R l (d+e) b→R l d a=R l d b
 |0,h=>h
 |e+1,h=>by
  refine R_eq_down ha hb e ?_
  rcases Nat.lt_trichotomy (R l (d+e) a) (R l (d+e) b) with h1|h1|h1
  ·have:=R_refine l (d+e) ha h1;rw[←Nat.add_assoc] at h;omega
  ·exact h1
  ·have:=R_refine l (d+e) hb h1;rw[←Nat.add_assoc] at h;omega
theorem R_eq_cmp {l:List Md} {a b d:Nat} (ha:a<l.length) (hb:b<l.length) (h:R l (d+1) a=R l (d+1) b):cmpR l (R l d) d a b=0:=by
 have h1:=R_lt l d (b:=b) ha
 have h2:=R_lt l d (b:=a) hb
 have h3:=(cmpR_ord l (R l d) d).anti a b trivial trivial
 have h4:=(cmpR_ord l (R l d) d).anti b a trivial trivial
 omega
theorem RR_kind {l:List Md} {a b:Nat} (ha:a<l.length) (hb:b<l.length) (h:RR l a=RR l b):(mdAt l a).kind=(mdAt l b).kind:=by
 have h1:R l (1+l.length) a=R l (1+l.length) b:=by rw[Nat.add_comm];exact h
 have h2:=R_eq_cmp (d:=0) ha hb (R_eq_down ha hb l.length h1)
 unfold cmpR thenC at h2
 have h0:cmpI (R l 0 a:Nat) (R l 0 b:Nat)=0:=cmpI_zero.2 rfl
 simp[h0] at h2
 exact firstC_kind h2
def led (f:Nat→Nat) (a:Nat):Bool:=(List.range a).all fun b=>f b !=f a
theorem led_iff {f:Nat→Nat} {a:Nat}:led f a=true↔ ∀b,b<a→f b≠f a:=by
 simp[led,List.all_eq_true]
theorem leader {f:Nat→Nat}: ∀(a:Nat),∃e,e≤a∧f e=f a∧led f e=true:=by
 intro a
 induction a using Nat.strongRecOn with
 |ind a ih=>
  by_cases h:led f a=true
  ·exact ⟨a,Nat.le_refl _,rfl,h⟩
  ·have: ∃b,b<a∧f b=f a:=by
    by_cases hx: ∃b,b<a∧f b=f a
    ·exact hx
    ·exact absurd (led_iff.2 fun b hb he=>hx ⟨b,hb,he⟩) h
   obtain ⟨b,h1,h2⟩:=this
   obtain ⟨e,h3,h4,h5⟩:=ih b h1
   exact ⟨e,by omega,by rw[h4,h2],h5⟩
theorem lead_grow {l:List Md} {d:Nat} (hs: ¬SameOrd l.length (R l (d+1)) (R l d)):(List.range l.length).countP (led (R l d))<(List.range l.length).countP (led (R l (d+1))):=by
 have down: ∀a b,a<l.length→b<l.length→R l (d+1) a=R l (d+1) b→R l d a=R l d b:=fun a b ha hb h=>R_eq_down (d:=d) ha hb 1 h
 have hmono: ∀a∈List.range l.length,led (R l d) a=true→led (R l (d+1)) a=true:=fun a ha h=>by
  have ha:=List.mem_range.1 ha
  exact led_iff.2 fun b hb he=>led_iff.1 h b hb (down b a (by omega) ha he)
 -- two of one class that part
 have: ∃a b,a<l.length∧b<l.length∧R l d a=R l d b∧R l (d+1) a≠R l (d+1) b:=by
  by_cases hx: ∃a b,a<l.length∧b<l.length∧R l d a=R l d b∧R l (d+1) a≠R l (d+1) b
  ·exact hx
  ·refine absurd ?_ hs
   intro a b ha hb
   constructor
   ·intro h
    rcases Nat.lt_trichotomy (R l d a) (R l d b) with h1|h1|h1
    ·exact h1
    ·exact absurd ⟨a,b,ha,hb,h1,by omega⟩ hx
    ·have:=R_refine l d hb h1;omega
   ·intro h;exact R_refine l d ha h
 obtain ⟨a,b,ha,hb,he,hne⟩:=this
 obtain ⟨e,h1,h2,h3⟩:=leader (f:=R l d) a
 have: ∃x,x<l.length∧R l d x=R l d e∧R l (d+1) x≠R l (d+1) e:=by
  by_cases h:R l (d+1) a=R l (d+1) e
  ·exact ⟨b,hb,by omega,by omega⟩
  ·exact ⟨a,ha,h2.symm,h⟩
 obtain ⟨x,hx,hxe,hxn⟩:=this
 obtain ⟨y,h4,h5,h6⟩:=leader (f:=R l (d+1)) x
 have hye:R l d y=R l d e:=by rw[down y x (by omega) hx h5,hxe]
 have hyne:y≠e:=fun h=>hxn (by rw[←h5,h])
 refine countP_lt (x:=y) hmono (List.mem_range.2 (by omega)) ?_ h6
 cases hl:led (R l d) y with
 |false=>rfl
 |true=>
  exfalso
  rcases Nat.lt_trichotomy y e with h|h|h
  ·exact led_iff.1 h3 y h hye
  ·exact hyne h
  ·exact led_iff.1 hl e h hye.symm
theorem R_stab_ex {l:List Md} (hl:l≠ []): ∃d,d≠0∧d≤l.length∧SameOrd l.length (R l (d+1)) (R l d):=by
 have hpos:0<l.length:=List.length_pos_iff.2 hl
 have key: ∀d,(∃d',d'≠0∧d'≤d∧SameOrd l.length (R l (d'+1)) (R l d'))∨d+1≤(List.range l.length).countP (led (R l (d+1))):=by
  intro d
  induction d with
  |zero=>
   right
   have:0<(List.range l.length).countP (led (R l (0+1))):=List.countP_pos_iff.2 ⟨0,List.mem_range.2 hpos,by simp[led]⟩
   omega
  |succ d ih=>
   rcases ih with ⟨d',h1,h2,h3⟩|ih
   ·exact .inl ⟨d',h1,by omega,h3⟩
   ·by_cases hs:SameOrd l.length (R l (d+1+1)) (R l (d+1))
    ·exact .inl ⟨d+1,by omega,Nat.le_refl _,hs⟩
    ·have:=lead_grow hs;right;omega
 rcases key l.length with h|h
 ·exact h
 ·have:(List.range l.length).countP (led (R l (l.length+1)))≤(List.range l.length).length:=List.countP_le_length
  simp at this
  omega
theorem RR_stable {l:List Md} (hg:goodT l):SameOrd l.length (R l (l.length+2)) (RR l):=by
 by_cases hl:l= []
 ·subst hl;intro a b ha;cases ha
 ·obtain ⟨d,h1,h2,h3⟩:=R_stab_ex hl
  have hst:=R_stable hg h1 h3
  intro a b ha hb
  have e1: ∀x,x<l.length→R l (l.length+2) x=R l d x:=fun x hx=>by have:=hst (l.length+2-d) x hx;rwa[show d+(l.length+2-d)=l.length+2 by omega] at this
  have e2: ∀x,x<l.length→RR l x=R l d x:=fun x hx=>by have:=hst (l.length+1-d) x hx;rwa[show d+(l.length+1-d)=l.length+1 by omega] at this
  rw[e1 a ha,e1 b hb,e2 a ha,e2 b hb]
theorem lexC_zero: ∀{xs ys:List Int},lexC cmpI xs ys=0→xs=ys
 | [],[],_=>rfl
 | [],_::_,h=>by simp[lexC] at h
 |_::_,[],h=>by simp[lexC] at h
 |x::xs,y::ys,h=>by
  simp only[lexC] at h
  split at h
  ·rename_i h1;exact absurd h h1
  ·rename_i h1
   have h1:cmpI x y=0:=by simpa using h1
   rw[cmpI_zero.1 h1,lexC_zero h]
theorem RR_key {l:List Md} (hg:goodT l) {a b:Nat} (ha:a<l.length) (hb:b<l.length) (h:RR l a=RR l b):keyOf l (RR l) a=keyOf l (RR l) b:=by
 have h2:R l (l.length+1+1) a=R l (l.length+1+1) b:=((RR_stable hg).eq ha hb).2 h
 have h3:=R_eq_cmp ha hb h2
 unfold cmpR thenC at h3
 have h0:cmpI (R l (l.length+1) a:Nat) (R l (l.length+1) b:Nat)=0:=cmpI_zero.2 (by have:R l (l.length+1) a=R l (l.length+1) b:=h;rw[this])
 simp[h0] at h3
 exact lexC_zero h3
end Go.Proofs.YtlniliigcnedmaaGreatDoor
namespace Go.Proofs.YtlniliigcnedmaaGreatDoor
open Go Ax
set_option maxRecDepth 100000
theorem dense_same {l:List Md} {ds:List Nat} {k:Nat} (hD:DenseOf l.length (fun a b=>RR l a<RR l b) ds k):SameOrd l.length (fun a=>ds.getD a 0) (RR l):=hD.sameOrd
end Go.Proofs.YtlniliigcnedmaaGreatDoor
namespace Go.Proofs.YtlniliigcnedmaaGreatDoor
open Go Ax
set_option maxRecDepth 100000
theorem fidx_first {p:Nat→Bool}: ∀(n i:Nat),(fidx p i n= -1∧ ∀k,i≤k→k<i+n→p k=false)∨ ∃j,i≤j∧j<i+n∧fidx p i n=(j:Int)∧p j=true∧ ∀k,i≤k→k<j→p k=false
 |0,i=> .inl ⟨rfl,fun k h1 h2=>by omega⟩
 |n+1,i=>by
  rw[fidx]
  split
  ·rename_i hp;exact .inr ⟨i,Nat.le_refl _,by omega,rfl,hp,fun k h1 h2=>by omega⟩
  ·rename_i hp
   have hp:p i=false:=by simpa using hp
   rcases fidx_first (p:=p) n (i+1) with ⟨h1,h2⟩|⟨j,h1,h2,h3,h4,h5⟩
   ·refine .inl ⟨h1,fun k k1 k2=>?_⟩
    by_cases hk:k=i
    ·subst hk;exact hp
    ·exact h2 k (by omega) (by omega)
   ·refine .inr ⟨j,by omega,by omega,h3,h4,fun k k1 k2=>?_⟩
    by_cases hk:k=i
    ·subst hk;exact hp
    ·exact h5 k (by omega) k2
end Go.Proofs.YtlniliigcnedmaaGreatDoor
namespace Go.Proofs.YtlniliigcnedmaaGreatDoor
open Go Ax
set_option maxRecDepth 100000
abbrev chunk (cs:List AVal) (i:Nat):List AVal:=(cs.drop (i*6)).take 6
def OwB (m0:AMem) (lo:Nat) (m:AMem) (s:AVal) (l:List Md):Prop:= ∃cs,Ow lo m 6 39 s l.length cs∧ ∀(i:Nat) x,l[i]? =some x→RMode m0 (chunk cs i) x
def OwT (lo:Nat) (m:AMem) (s:AVal) (l:List Md):Prop:= ∃cs,Ow lo m 6 39 s l.length cs∧ ∀(i:Nat) x,l[i]? =some x→ ∀m',Ch (fun b=>s.blk=some b∨b<lo) m m'→RMode m' (chunk cs i) x
theorem OwT.tab {lo:Nat} {m:AMem} {s:AVal} {l:List Md} (h:OwT lo m s l):RTab m s l:=by
 obtain ⟨cs,h1,h2⟩:=h
 exact ⟨cs,h1.sl,fun i x hx=>h2 i x hx m (.refl _ _)⟩
theorem OwT.mono {lo:Nat} {m m':AMem} {s:AVal} {l:List Md} (h:OwT lo m s l) (hm:m<+:m'):OwT lo m' s l:=by
 obtain ⟨cs,h1,h2⟩:=h
 exact ⟨cs,h1.mono hm,fun i x hx m'' hc=>h2 i x hx m'' ((Ch.of_prefix hm).trans hc)⟩
theorem OwB.mono {lo:Nat} {m0 m m':AMem} {s:AVal} {l:List Md} (h:OwB m0 lo m s l) (hm:m<+:m'):OwB m0 lo m' s l:=by
 obtain ⟨cs,h1,h2⟩:=h
 exact ⟨cs,h1.mono hm,h2⟩
theorem OwB.tab {lo:Nat} {m0 m:AMem} {s:AVal} {l:List Md} (h:OwB m0 lo m s l) (hm:m0<+:m):RTab m s l:=by
 obtain ⟨cs,h1,h2⟩:=h
 exact ⟨cs,h1.sl,fun i x hx=>(h2 i x hx).mono hm⟩
theorem OwB.ch {S:Nat→Prop} {lo:Nat} {m0 m m':AMem} {s:AVal} {l:List Md} (h:OwB m0 lo m s l) (hc:Ch S m m') (hs: ∀b,s.blk=some b→ ¬S b):OwB m0 lo m' s l:=by
 obtain ⟨cs,h1,h2⟩:=h
 exact ⟨cs,h1.ch hc hs,h2⟩
theorem OwB.blk_lo {lo:Nat} {m0 m:AMem} {s:AVal} {l:List Md} (h:OwB m0 lo m s l) {b:Nat} (hb:s.blk=some b):lo≤b∧b<m.length:=by
 obtain ⟨cs,h1,_⟩:=h
 exact h1.blk_lo hb
theorem OwT.blk_lo {lo:Nat} {m:AMem} {s:AVal} {l:List Md} (h:OwT lo m s l) {b:Nat} (hb:s.blk=some b):lo≤b∧b<m.length:=by
 obtain ⟨cs,h1,_⟩:=h
 exact h1.blk_lo hb
theorem chunk_append {cs c:List AVal} {n:Nat} (hl:cs.length=n*6) {i:Nat} (hi:i<n):chunk (cs++c) i=chunk cs i:=by
 unfold chunk
 rw[List.drop_append_of_le_length (by omega),List.take_append_of_le_length (by simp;omega)]
theorem chunk_last {cs c:List AVal} {n:Nat} (hl:cs.length=n*6) (hc:c.length=6):chunk (cs++c) n=c:=by
 unfold chunk
 rw[List.drop_append,hl,Nat.sub_self,List.drop_eq_nil_of_le (by omega)]
 simp only[List.nil_append,List.drop_zero]
 exact List.take_of_length_le (by omega)
theorem push_get {l:List Md} {x y:Md} {i:Nat} (h:(l++ [x])[i]? =some y):(i<l.length∧l[i]? =some y)∨(i=l.length∧y=x):=by
 rcases Nat.lt_or_ge i l.length with hlt|hge
 ·rw[List.getElem?_append_left hlt] at h;exact .inl ⟨hlt,h⟩
 ·rw[List.getElem?_append_right hge] at h
  cases hk:i-l.length with
  |zero=>rw[hk] at h;simp at h;exact .inr ⟨by omega,h.symm⟩
  |succ k=>rw[hk] at h;simp at h
theorem OwB.push {m0:AMem} {lo:Nat} {m:AMem} {s:AVal} {l:List Md} (h:OwB m0 lo m s l) (hlo:lo≤m.length) {c:List AVal} {x:Md} (hx:RMode m0 c x) (hn:l.length<2^30):
  ∃s' m',appendE m 6 80 39 s 1 c=some (s',m')∧Ch (fun b=>s.blk=some b) m m'∧OwB m0 lo m' s' (l++ [x])∧(∀b,s'.blk=some b→s.blk=some b∨m.length≤b):=by
 obtain ⟨cs,h1,h2⟩:=h
 have hcl:=hx.all
 have hl:=h1.sl.length
 obtain ⟨s',m',e,hch,h3,h4⟩:=h1.append hlo (k:=1) (xs:=c) (bytes:=80) (by omega) hcl.2 (by decide) (by omega)
 refine ⟨s',m',e,hch,⟨cs++c,by simpa using h3,fun i y hy=>?_⟩,h4⟩
 rcases push_get hy with ⟨hi,hy⟩|⟨rfl,rfl⟩
 ·rw[chunk_append hl hi];exact h2 i y hy
 ·rw[chunk_last hl hcl.1];exact hx
theorem OwT.push {lo:Nat} {m:AMem} {s:AVal} {l:List Md} (h:OwT lo m s l) (hlo:lo≤m.length) {c:List AVal} {x:Md} (hx: ∀m',Ch (fun b=>s.blk=some b∨b<lo) m m'→RMode m' c x) (hn:l.length<2^30):
  ∃s' m',appendE m 6 80 39 s 1 c=some (s',m')∧Ch (fun b=>s.blk=some b) m m'∧OwT lo m' s' (l++ [x])∧(∀b,s'.blk=some b→s.blk=some b∨m.length≤b):=by
 obtain ⟨cs,h1,h2⟩:=h
 have hcl:=(hx m (.refl _ _)).all
 have hl:=h1.sl.length
 obtain ⟨s',m',e,hch,h3,h4⟩:=h1.append hlo (k:=1) (xs:=c) (bytes:=80) (by omega) hcl.2 (by decide) (by omega)
 refine ⟨s',m',e,hch,⟨cs++c,by simpa using h3,fun i y hy m2 hc2=>?_⟩,h4⟩
 have hcc:Ch (fun b=>s.blk=some b∨b<lo) m m2:=by
  have a1:Ch (fun b=>(s.blk=some b∨b<lo)∨m.length≤b) m m':=hch.weaken fun b _ hb=> .inl (.inl hb)
  have a2:Ch (fun b=>(s.blk=some b∨b<lo)∨m.length≤b) m' m2:=hc2.weaken fun b _ hb=>by
   rcases hb with hb|hb
   ·rcases h4 b hb with h|h
    ·exact .inl (.inl h)
    ·exact .inr h
   ·exact .inl (.inr hb)
  exact (a1.trans a2).weaken fun b hb h=>by rcases h with h|h;exact h;omega
 rcases push_get hy with ⟨hi,hy⟩|⟨rfl,rfl⟩
 ·rw[chunk_append hl hi];exact h2 i y hy m2 hcc
 ·rw[chunk_last hl hcl.1];exact hx m2 hcc
def TabS (S:Nat→Prop) (m:AMem) (s:AVal) (l:List Md):Prop:= ∃cs,∀m',Ch S m m'→Sl m' 6 s l.length cs∧ ∀(i:Nat) x,l[i]? =some x→RMode m' ((cs.drop (i*6)).take 6) x
theorem TabS.weaken {S T:Nat→Prop} {m:AMem} {s:AVal} {l:List Md} (h:TabS S m s l) (hs: ∀b,T b→S b):TabS T m s l:=by
 obtain ⟨cs,h⟩:=h
 exact ⟨cs,fun m' hc=>h m' (hc.weaken fun b _=>hs b)⟩
theorem TabS.next {S:Nat→Prop} {m m':AMem} {s:AVal} {l:List Md} (h:TabS S m s l) (hc:Ch S m m'):TabS S m' s l:=by
 obtain ⟨cs,h⟩:=h
 exact ⟨cs,fun m'' hc'=>h m'' (hc.trans hc')⟩
theorem TabS.mono {S:Nat→Prop} {m m':AMem} {s:AVal} {l:List Md} (h:TabS S m s l) (hm:m<+:m'):TabS S m' s l:=h.next (.of_prefix hm)
theorem TabS.tab {S:Nat→Prop} {m:AMem} {s:AVal} {l:List Md} (h:TabS S m s l):RTab m s l:=by
 obtain ⟨cs,h⟩:=h
 exact ⟨cs,h m (.refl _ _)⟩
theorem TabS.nil {S:Nat→Prop} {m:AMem}:TabS S m .nilslice []:=⟨[],fun _ _=>⟨Sl.nil,by simp⟩⟩
theorem tab_all {m:AMem} {cs:List AVal} {l:List Md} (hl:cs.length=l.length*6) (h: ∀(i:Nat) x,l[i]? =some x→RMode m (chunk cs i) x):cs.all AVal.one=true:=by
 rw[List.all_eq_true]
 intro y hy
 obtain ⟨i,hi,rfl⟩:=List.getElem_of_mem hy
 have hq:i / 6<l.length:=by omega
 have:=(h (i / 6) l[i / 6] (List.getElem?_eq_getElem hq)).all.2
 rw[List.all_eq_true] at this
 refine this _ ?_
 have hg:(chunk cs (i / 6))[i%6]? =some cs[i]:=by
  unfold chunk
  rw[List.getElem?_take,if_pos (by omega),List.getElem?_drop,List.getElem?_eq_getElem (by omega)]
  congr 2
  omega
 exact List.mem_of_getElem? hg
theorem k23 (s:AVal) (l:List Md) (m0 m:AMem) (hm0:m0<+:m) (hs:RTab m0 s l) (hn:l.length<2^30):ACalls Tryz.prog 23 [s] m fun v m'=>m<+:m'∧OwB m0 m.length m' v l:=by
 refine w23 ?_
 obtain ⟨cs,hsl,hmd⟩:=hs
 replace hsl:=hsl.mono hm0
 have hcl:=hsl.length
 have hall:=tab_all hcl hmd
 have hsc:=hsl.cells
 rcases hsl with ⟨rfl,hx,rfl⟩|⟨b,o,cap,gr,rfl,h1,h2⟩
 ·have hx:l= []:=by simpa using hx
  subst hx
  simp
  exact ⟨[],.nil,by simp⟩
 ·simp
  have hsl:Sl m 6 (.slice b o l.length cap gr) l.length cs:= .inr ⟨b,o,cap,gr,rfl,h1,h2⟩
  have hN:Ow m.length (m++ [.own [] 39 none]) 6 39 (.slice m.length 0 0 0 none) 0 []:=Ow.new (by simp) (by simp)
  have hm1:m<+:m++ [.own [] 39 none]:=List.prefix_append _ _
  have hsc:=(hsl.mono hm1).cells
  simp[fillA] at hsc ⊢
  generalize m++ [.own [] 39 none]=m1 at*
  obtain ⟨t',m2,happ,hch,hO,hbl⟩:=hN.append (by have:=hm1.length_le;omega) (k:=l.length) (xs:=cs) (bytes:=80) hcl hall (by decide) (by omega)
  simp[hsc,happ]
  rw[List.nil_append,Nat.zero_add] at hO
  exact ⟨hch.pre hm1 fun b hb h=>(by simp[AVal.blk] at h;omega),cs,hO,hmd⟩
end Go.Proofs.YtlniliigcnedmaaGreatDoor
namespace Go.Proofs.YtlniliigcnedmaaGreatDoor
open Go Ax
set_option maxRecDepth 100000
noncomputable def findI (l:List Md) (x:Md):Option Nat:=
 if (l.length:Int)∈x.elems then none
 else if checkI (l++ [x])≠0 then none
 else if fidx (fun i=>RR (l++ [x]) i==RR (l++ [x]) l.length) 0 (l.length+1)=l.length then none
 else some (fidx (fun i=>RR (l++ [x]) i==RR (l++ [x]) l.length) 0 (l.length+1)).toNat
noncomputable def putI (l:List Md) (x:Md):List Md×Int×Int:=
 if checkI l≠0 then ([],0,checkI l)
 else match findI l x with
  |some i=>(l,i,0)
  |none=>if checkI (l++ [x])≠0 then ([],0,checkI (l++ [x])) else (l++ [x],l.length,0)
theorem RTab.nil0 (m:AMem):RTab m .nilslice []:=⟨[],Sl.nil,by simp⟩
end Go.Proofs.YtlniliigcnedmaaGreatDoor
namespace Go.Proofs.YtlniliigcnedmaaGreatDoor
open Go Ax
open Relation
set_option maxRecDepth 100000
def unionOf (zs:List Nat):Md:=⟨12,0,zs.map fun z:Nat=>(z:Int),[],0,false⟩
theorem mdAt_app {l:List Md} {x:Md} {i:Nat} (h:i<l.length):mdAt (l++ [x]) i=mdAt l i:=by
 unfold mdAt
 rw[List.getElem?_append_left h]
theorem mdAt_last {l:List Md} {x:Md}:mdAt (l++ [x]) l.length=x:=by
 unfold mdAt
 rw[List.getElem?_concat_length]
 rfl
theorem step_same {l:List Md} {a b:Nat} (ha:a<l.length) (hb:b<l.length) (hk:(mdAt l a).kind=(mdAt l b).kind) (he:(mdAt l a).elems=(mdAt l b).elems) {y:Nat} (h:stepR l isU a y):stepR l isU b y:=by
 obtain ⟨x,h1,h2,h3⟩:=h
 rw[mdAt_eq ha,mdAt_eq hb] at hk he
 rw[List.getElem?_eq_getElem ha] at h1
 cases h1
 refine ⟨l[b],List.getElem?_eq_getElem hb,?_,by rw[←he];exact h3⟩
 unfold isU at h2 ⊢
 rw[←hk];exact h2
theorem part_same {l:List Md} {a b:Nat} (ha:a<l.length) (hb:b<l.length) (hk:(mdAt l a).kind=(mdAt l b).kind) (he:(mdAt l a).elems=(mdAt l b).elems) {j:Nat} (h:IsPart l a j):IsPart l b j:=by
 refine ⟨?_,h.2⟩
 have:=h.1
 clear h
 induction this with
 |single h=>exact .single (step_same ha hb hk he h)
 |tail _ h ih=>exact .tail ih h
theorem stepR_app {l:List Md} {x:Md} (hg:goodT l) {p:Md→Bool} {a b:Nat} (ha:a<l.length):stepR (l++ [x]) p a b↔stepR l p a b∧b<l.length:=by
 unfold stepR
 rw[List.getElem?_append_left ha]
 constructor
 ·rintro ⟨y,h1,h2,h3⟩
  have:=hg y (List.mem_of_getElem? h1) _ h3
  exact ⟨⟨y,h1,h2,h3⟩,by omega⟩
 ·exact fun h=>h.1
theorem tg_app {l:List Md} {x:Md} (hg:goodT l) {p:Md→Bool} {a b:Nat} (ha:a<l.length) (h:TransGen (stepR (l++ [x]) p) a b):TransGen (stepR l p) a b∧b<l.length:=by
 induction h with
 |single h=>have:=(stepR_app hg ha).1 h;exact ⟨.single this.1,this.2⟩
 |tail _ h ih=>have:=(stepR_app hg ih.2).1 h;exact ⟨.tail ih.1 this.1,this.2⟩
section
variable {l:List Md} {zs:List Nat}
theorem part_old {x:Md} (hg:goodT l) {a j:Nat} (ha:a<l.length):IsPart (l++ [x]) a j↔IsPart l a j:=by
 constructor
 ·rintro ⟨h1,h2⟩
  obtain ⟨h3,h4⟩:=tg_app hg ha h1
  exact ⟨h3,fun y hy=>h2 y (by rw[List.getElem?_append_left h4];exact hy)⟩
 ·intro h
  have hj:=h.lt hg
  refine ⟨?_,fun y hy=>h.2 y (by rwa[List.getElem?_append_left hj] at hy)⟩
  have hT:=h.1
  clear h hj
  have: ∀{b},TransGen (stepR l isU) a b→TransGen (stepR (l++ [x]) isU) a b∧b<l.length:=fun hb=>by
   induction hb with
   | @single b h=>
    have hb':b<l.length:=by obtain ⟨y,h1,_,h3⟩:=h;have:=hg y (List.mem_of_getElem? h1) _ h3;omega
    exact ⟨.single ((stepR_app hg ha).2 ⟨h,hb'⟩),hb'⟩
   | @tail c b _ h ih=>
    have hb':b<l.length:=by obtain ⟨y,h1,_,h3⟩:=h;have:=hg y (List.mem_of_getElem? h1) _ h3;omega
    exact ⟨.tail ih.1 ((stepR_app hg ih.2).2 ⟨h,hb'⟩),hb'⟩
  exact (this hT).1
theorem part_new (hz: ∀z∈zs,z<l.length∧isU (mdAt l z)=false) {j:Nat}:IsPart (l++ [unionOf zs]) l.length j↔j∈zs:=by
 have hnu: ∀z∈zs,∀y,(l++ [unionOf zs])[z]? =some y→isU y=false:=fun z h y hy=>by
  obtain ⟨h1,h2⟩:=hz z h
  rw[List.getElem?_append_left h1] at hy
  rw[mdAt_eq h1] at h2
  rw[List.getElem?_eq_getElem h1] at hy
  cases hy
  exact h2
 have h1: ∀b,stepR (l++ [unionOf zs]) isU l.length b→b∈zs:=fun b ⟨y,h1,_,h3⟩=>by
  rw[List.getElem?_concat_length] at h1
  cases h1
  obtain ⟨z,hz1,hz2⟩:=List.mem_map.1 h3
  have:z=b:=by omega
  exact this▸hz1
 constructor
 ·rintro ⟨h,_⟩
  have: ∀{b},TransGen (stepR (l++ [unionOf zs]) isU) l.length b→b∈zs:=fun hb=>by
   induction hb with
   |single h=>exact h1 _ h
   |tail _ h ih=>
    obtain ⟨y,g1,g2,_⟩:=h
    rw[hnu _ ih y g1] at g2
    cases g2
  exact this h
 ·intro h
  exact ⟨.single ⟨unionOf zs,by rw[List.getElem?_concat_length],by simp[isU,unionOf],List.mem_map.2 ⟨j,h,rfl⟩⟩,hnu j h⟩
theorem part_in {x j:Nat} (h:IsPart l x j):x<l.length:=by
 have: ∀{b},TransGen (stepR l isU) x b→x<l.length:=fun hb=>by
  induction hb with
  |single h=>obtain ⟨y,h1,_⟩:=h;exact (List.getElem?_eq_some_iff.1 h1).1
  |tail _ _ ih=>exact ih
 exact this h.1
theorem part_head {x j:Nat} (hx:x<l.length) (h:IsPart l x j):isU (mdAt l x)=true:=by
 have: ∀{b},TransGen (stepR l isU) x b→isU (mdAt l x)=true:=fun hb=>by
  induction hb with
  |single h=>obtain ⟨y,h1,h2,_⟩:=h;rw[List.getElem?_eq_getElem hx] at h1;cases h1;rw[mdAt_eq hx];exact h2
  |tail _ _ ih=>exact ih
 exact this h.1
theorem sub_le {xs ys:List Nat} (h:xs.Nodup) (hs: ∀x∈xs,x∈ys):xs.length≤ys.length:=List.Nodup.length_le_of_subset h hs
theorem T13.of (hn:l.length≤13):T13 l:=by
 refine ⟨by omega,fun hg x O h1 h2=>?_⟩
 cases O with
 |nil=>simp
 |cons j O=>
  have hx:=part_in (h2 j (by simp))
  have hxu:=part_head hx (h2 j (by simp))
  have hxO:x∉j::O:=fun h=>by
   have:=(h2 x h).2 l[x] (List.getElem?_eq_getElem hx)
   rw[mdAt_eq hx] at hxu
   rw[hxu] at this
   cases this
  have:=nodup_le l.length (x::j::O) (List.nodup_cons.2 ⟨hxO,h1⟩) fun z hz=>by
    rcases List.mem_cons.1 hz with rfl|hz
    ·exact hx
    ·exact (h2 z hz).lt hg
  simp at this ⊢
  omega
theorem T13.union (h:T13 l) (hg:goodT l) (h59:l.length<19) (hz: ∀z∈zs,z<l.length∧isU (mdAt l z)=false) (hz12:zs.length≤12):T13 (l++ [unionOf zs]):=by
 refine ⟨by simp;omega,fun _ x O h1 h2=>?_⟩
 rcases Nat.lt_trichotomy x l.length with hx|rfl|hx
 ·exact h.few hg x O h1 fun j hj=>(part_old hg hx).1 (h2 j hj)
 ·exact Nat.le_trans (sub_le h1 fun j hj=>(part_new hz).1 (h2 j hj)) hz12
 ·cases O with
  |nil=>simp
  |cons j O=>have:=part_in (h2 j (by simp));simp at this;omega
end
end Go.Proofs.YtlniliigcnedmaaGreatDoor
namespace Go.Proofs.YtlniliigcnedmaaGreatDoor
open Go Ax
set_option maxRecDepth 100000
open Classical in
noncomputable def leftI (l:List Md) (u v:Nat):List Nat:=(basesOf l u).filter fun z=> !decide (hasRR l v z)
end Go.Proofs.YtlniliigcnedmaaGreatDoor
namespace Go.Proofs.YtlniliigcnedmaaGreatDoor
open Go Ax
set_option maxRecDepth 100000
theorem agg_store {m:AMem} {b n:Nat} {z cs:List AVal} {ty:TypeId} {g:Option Nat} (h:m[b]? =some (.own z ty g)) (h1:cs.length=n) (h2:z.length=n) (h3:cs.all AVal.one=true): ∃m',storeE m n (.ptr b 0) (.agg cs)=some (.undef,m')∧m'[b]? =some (.own cs ty g)∧Ch (fun c=>c=b) m m':=by
 refine ⟨m.set b (.own cs ty g),?_,List.getElem?_set_self (List.getElem?_eq_some_iff.1 h).1,Ch.setS _ rfl⟩
 have hs:setN z 0 cs=cs:=by
  apply List.ext_getElem?
  intro i
  rw[setN_get _ _ _ _ (by omega)]
  by_cases hi:i<cs.length
  ·rw[if_pos (by omega)];simp
  ·rw[if_neg (by omega),List.getElem?_eq_none (by omega),List.getElem?_eq_none (by omega)]
 simp only[storeE,AVal.cells,h1,writeB,h]
 simp[h3,hs,h1,h2]
def OwM (lo:Nat) (m:AMem) (c:List AVal) (x:Md):Prop:= ∃e nm,c= [.int .i64 x.kind,.int .i64 x.size,e,nm,.int .i64 x.dims,.bool x.flex]∧OwL (AVal.int .i64) lo m 3 e x.elems∧OwL AVal.str lo m 9 nm x.names
theorem OwM.mode {lo:Nat} {m:AMem} {c:List AVal} {x:Md} (h:OwM lo m c x):RMode m c x:=by
 obtain ⟨e,nm,rfl,h1,h2⟩:=h
 exact ⟨e,nm,rfl,h1.ints,Ow.sl h2⟩
theorem OwM.mono {lo:Nat} {m m':AMem} {c:List AVal} {x:Md} (h:OwM lo m c x) (hm:m<+:m'):OwM lo m' c x:=by
 obtain ⟨e,nm,rfl,h1,h2⟩:=h
 exact ⟨e,nm,rfl,h1.mono hm,h2.mono hm⟩
theorem OwM.lo {lo lo':Nat} {m:AMem} {c:List AVal} {x:Md} (h:OwM lo m c x) (hl:lo'≤lo):OwM lo' m c x:=by
 obtain ⟨e,nm,rfl,h1,h2⟩:=h
 exact ⟨e,nm,rfl,h1.lo' hl,h2.lo' hl⟩
theorem OwM.ch {S:Nat→Prop} {lo:Nat} {m m':AMem} {c:List AVal} {x:Md} (h:OwM lo m c x) (hc:Ch S m m') (hs: ∀b,S b→b<lo):OwM lo m' c x:=by
 obtain ⟨e,nm,rfl,h1,h2⟩:=h
 exact ⟨e,nm,rfl,h1.ch hc fun b hb hS=>by have:=(h1.blk_lo hb).1;have:=hs b hS;omega,h2.ch hc fun b hb hS=>by have:=(h2.blk_lo hb).1;have:=hs b hS;omega⟩
theorem cellsInts {m:AMem} {s:AVal} {xs:List Int} (h:RInts m s xs):sliceCells m 1 s=some (xs.length,xs.map fun x=> .int .i64 x):=Sl.cells h
theorem cellsStrs {m:AMem} {s:AVal} {xs:List ByteArray} (h:RStrs m s xs):sliceCells m 1 s=some (xs.length,xs.map fun x=> .str x):=Sl.cells h
set_option maxHeartbeats 2000000 in
theorem k60 (c:List AVal) (x:Md) (m:AMem) (hx:RMode m c x) (hsz:x.elems.length<2^40∧x.names.length<2^40):
  ACalls Tryz.prog 60 [.agg c] m fun v m'=>m<+:m'∧ ∃c',v= .agg c'∧OwM m.length m' c' x:=by
 obtain ⟨e,nm,rfl,he,hnm⟩:=hx
 refine w60 ?_
 have h1:=Sl.one he
 have h2:=Sl.one hnm
 simp[h1,h2]
 have hbA:(m++ [ABlk.own [.int .i64 x.kind,.int .i64 x.size,e,nm,.int .i64 x.dims,.bool x.flex] 39 none,ABlk.own [.int .i64 0,.int .i64 0,.nilslice,.nilslice,.int .i64 0,.bool false] 39 none])[m.length]? =some (ABlk.own [.int .i64 x.kind,.int .i64 x.size,e,nm,.int .i64 x.dims,.bool x.flex] 39 none):=by simp
 have hbB:(m++ [ABlk.own [.int .i64 x.kind,.int .i64 x.size,e,nm,.int .i64 x.dims,.bool x.flex] 39 none,ABlk.own [.int .i64 0,.int .i64 0,.nilslice,.nilslice,.int .i64 0,.bool false] 39 none])[m.length+1]? =some (ABlk.own [.int .i64 0,.int .i64 0,.nilslice,.nilslice,.int .i64 0,.bool false] 39 none):=by rw[List.getElem?_append_right (by omega)];simp
 have hm01:m<+:m++ [ABlk.own [.int .i64 x.kind,.int .i64 x.size,e,nm,.int .i64 x.dims,.bool x.flex] 39 none,ABlk.own [.int .i64 0,.int .i64 0,.nilslice,.nilslice,.int .i64 0,.bool false] 39 none]:=List.prefix_append _ _
 have hl:(m++ [ABlk.own [.int .i64 x.kind,.int .i64 x.size,e,nm,.int .i64 x.dims,.bool x.flex] 39 none,ABlk.own [.int .i64 0,.int .i64 0,.nilslice,.nilslice,.int .i64 0,.bool false] 39 none]).length=m.length+2:=by simp
 generalize m++ [ABlk.own [.int .i64 x.kind,.int .i64 x.size,e,nm,.int .i64 x.dims,.bool x.flex] 39 none,ABlk.own [.int .i64 0,.int .i64 0,.nilslice,.nilslice,.int .i64 0,.bool false] 39 none]=m1 at*
 -- the numbers
 have hN:=OwL.new (f:=AVal.int .i64) m1 3 []
 have hm12:m1<+:m1++ [.own ([].map (AVal.int .i64)) 3 none]:=List.prefix_append _ _
 simp[fillA] at hN ⊢
 replace hm12:m1<+:m1++ [.own [] 3 none]:=hm12
 have hl2:=hm12.length_le
 generalize m1++ [.own [] 3 none]=m2 at*
 have hr2:=bx (own_read (own_mono hbA hm12)) 2
 simp at hr2
 obtain ⟨t1,m3,happ,hch3,hO,hbl⟩:=hN.append (by omega) (by_:=8) (by decide) x.elems (by simp;omega)
 have hm03:m<+:m3:=hch3.pre (hm01.trans hm12) fun b hb h=>by simp[AVal.blk] at h;omega
 have hbA3:=own_ch (own_mono hbA hm12) hch3 fun h=>by simp[AVal.blk] at h;omega
 have hbB3:=own_ch (own_mono hbB hm12) hch3 fun h=>by simp[AVal.blk] at h;omega
 have hO1:OwL (AVal.int .i64) m1.length m3 3 t1 x.elems:=by simpa using hO
 have ts:=(Ow.sl hO1).self
 obtain ⟨m4,hst4,hbA4,hch4⟩:=fld_store (i:=2) hbA3 (by simp) ts.2 ts.1
 simp[hr2,cellsInts (he.mono (hm01.trans hm12)),happ,hst4]
 have hm04:m<+:m4:=hch4.pre hm03 fun b hb h=>by omega
 have hbB4:=own_ch hbB3 hch4 fun h=>by omega
 have hO4:=hO1.ch hch4 fun b hb h=>by have:=(hO1.blk_lo hb).1;omega
 have hl34:m3.length≤m4.length:=hch4.len
 have hl23:m2.length≤m3.length:=hch3.len
 simp at hbA4
 clear hst4 happ hN hr2 hch3 hch4 hO hO1 hbA3 hbB3
 -- the texts
 have hN:=OwL.new (f:=AVal.str) m4 9 []
 have hm45:m4<+:m4++ [.own ([].map AVal.str) 9 none]:=List.prefix_append _ _
 simp[fillA] at hN ⊢
 replace hm45:m4<+:m4++ [.own [] 9 none]:=hm45
 have hl5:=hm45.length_le
 generalize m4++ [.own [] 9 none]=m5 at*
 have hr5:=bx (own_read (own_mono hbA4 hm45)) 3
 simp at hr5
 obtain ⟨t2,m6,happ,hch6,hO,hbl2⟩:=hN.append (by omega) (by_:=16) (by decide) x.names (by simp;omega)
 have hm06:m<+:m6:=hch6.pre (hm04.trans hm45) fun b hb h=>by simp[AVal.blk] at h;have:=hm04.length_le;omega
 have hbA6:=own_ch (own_mono hbA4 hm45) hch6 fun h=>by simp[AVal.blk] at h;have:=hm04.length_le;omega
 have hbB6:=own_ch (own_mono hbB4 hm45) hch6 fun h=>by simp[AVal.blk] at h;omega
 have hO6:OwL AVal.str m4.length m6 9 t2 x.names:=by simpa using hO
 have hI6:=(hO4.mono hm45).ch hch6 fun b hb h=>by simp[AVal.blk] at h;have:=(hO4.blk_lo hb).2;omega
 have ts2:=(Ow.sl hO6).self
 obtain ⟨m7,hst7,hbA7,hch7⟩:=fld_store (i:=3) hbA6 (by simp) ts2.2 ts2.1
 simp[hr5,cellsStrs (hnm.mono (hm04.trans hm45)),happ,hst7]
 have hm07:m<+:m7:=hch7.pre hm06 fun b hb h=>by omega
 have hbB7:=own_ch hbB6 hch7 fun h=>by omega
 have hO7:=hO6.ch hch7 fun b hb h=>by have:=(hO6.blk_lo hb).1;omega
 have hI7:=hI6.ch hch7 fun b hb h=>by have:=(hI6.blk_lo hb).1;omega
 simp at hbA7
 have hrA:=bxW (own_read hbA7) 6
 simp[readN] at hrA
 have hall: [AVal.int .i64 x.kind,.int .i64 x.size,t1,t2,.int .i64 x.dims,.bool x.flex].all AVal.one=true:=by simp[ts.1,ts2.1]
 obtain ⟨m8,hst8,hbB8,hch8⟩:=agg_store (n:=6) hbB7 (cs:= [.int .i64 x.kind,.int .i64 x.size,t1,t2,.int .i64 x.dims,.bool x.flex]) rfl rfl hall
 have hrB:=bxW (own_read hbB8) 6
 simp[readN] at hrB
 simp[hrA,hst8,hrB]
 exact ⟨hch8.pre hm07 fun b hb h=>by omega,t1,t2,rfl,(hI7.ch hch8 fun b hb h=>by have:=(hI7.blk_lo hb).1;omega).lo' (by omega),(hO7.ch hch8 fun b hb h=>by have:=(hO7.blk_lo hb).1;omega).lo' (by omega)⟩
theorem OwT.pushM {lo:Nat} {m:AMem} {s:AVal} {l:List Md} (h:OwT lo m s l) (hlo:lo≤m.length) {c:List AVal} {x:Md} {q:Nat} (hx:OwM q m c x) (hq: ∀b,s.blk=some b→b<q) (hlq:lo≤q) (hn:l.length<2^30):
  ∃s' m',appendE m 6 80 39 s 1 c=some (s',m')∧Ch (fun b=>s.blk=some b) m m'∧OwT lo m' s' (l++ [x])∧(∀b,s'.blk=some b→s.blk=some b∨m.length≤b):=
 h.push hlo (fun _ hc=>(hx.ch hc fun b hb=>by rcases hb with hb|hb;exact hq b hb;omega).mode) hn
theorem lit6 (m:AMem) (c:List AVal) (hc:c.length=6) (g:Option Nat):sliceCells (m++ [.own c 39 g]) 6 (.slice m.length 0 1 1 none)=some (1,c):=by
 simp[sliceCells,readB,ABlk.cells,readN,hc,List.take_of_length_le]
set_option maxHeartbeats 2000000 in
theorem k76 (s:AVal) (l:List Md) (m:AMem) (hs:RTab m s l) (hsz: ∀x∈l,x.elems.length<2^40∧x.names.length<2^40) (hn:l.length<2^20):
  ACalls Tryz.prog 76 [s] m fun v m'=>m<+:m'∧OwT m.length m' v l:=by
 refine w76 ?_
 simp
 obtain ⟨I,hI⟩: ∃I:Nat→AFrame→AMem→Prop,∀q f m',I q f m'↔(∃(k:Nat) (o:AVal),k+q=l.length∧f=h76_0 s o (.int .i64 k)∧m<+:m'∧OwT m.length m' o (l.take k)):=⟨_,fun _ _ _=>Iff.rfl⟩
 refine W_loop I l.length ((hI _ _ _).2 ⟨0,.nilslice,by simp,by simp,List.prefix_refl _,[],.nil,by simp⟩) ?_
 rintro q f m1 hIn
 obtain ⟨k,o,hk,rfl,hm1,hO⟩:=(hI _ _ _).1 hIn
 clear hIn
 simp[(hs.mono hm1).len]
 refine bbind_dec (fun hkl=>?_) fun hkl=>?_
 ·have hkl:k<l.length:=by omega
  have hw:=step64 (k:=k) (n:=l.length) hkl (by omega)
  obtain ⟨q,rfl⟩: ∃q',q=q'+1:=⟨q-1,by omega⟩
  obtain ⟨bx',ox,c,h4,h5,_,_,h6⟩:=(hs.mono hm1).atC hkl
  simp[h4,h5]
  refine C_of (k60 c l[k] m1 h6 (hsz _ (List.getElem_mem hkl))) ?_
  rintro _ m2 ⟨hm2,c',rfl,hM⟩
  have hcl:=hM.mode.all
  have hm23:m2<+:m2++ [ABlk.own c' 39 none]:=List.prefix_append _ _
  have hsc:=lit6 m2 c' hcl.1 none
  have hOb: ∀b,o.blk=some b→b<m1.length:=fun b hb=>(hO.blk_lo hb).2
  obtain ⟨e,nm,hce,_,_⟩:=id hM
  have hfill:fillA [.int .i64 0,.int .i64 0,.nilslice,.nilslice,.int .i64 0,.bool false] [(0,6,.agg c')]=some c':=by
   subst hce
   have h:=hcl.2
   simp only[List.all_cons,List.all_nil,Bool.and_eq_true] at h
   simp[fillA,setN,h.2.2.1,h.2.2.2.1]
  simp[hfill]
  generalize m2++ [ABlk.own c' 39 none]=m3 at*
  have hm13:=hm2.trans hm23
  obtain ⟨o',m4,happ,hch,hO4,_⟩:=(hO.mono hm13).pushM (by have:=(hm1.trans hm13).length_le;omega) (hM.mono hm23) hOb (by have:=hm1.length_le;omega) (by simp;omega)
  simp[hsc,happ,hw]
  refine ⟨q,by omega,(hI _ _ _).2 ⟨k+1,o',by omega,by simp,hch.pre (hm1.trans hm13) fun b hb h=>by have:=(hO.blk_lo h).1;omega,?_⟩⟩
  rw[List.take_add_one,List.getElem?_eq_getElem hkl]
  exact hO4
 ·have hkl:k=l.length:=by omega
  subst hkl
  rw[List.take_length] at hO
  simp
  exact ⟨hm1,hO⟩
end Go.Proofs.YtlniliigcnedmaaGreatDoor
