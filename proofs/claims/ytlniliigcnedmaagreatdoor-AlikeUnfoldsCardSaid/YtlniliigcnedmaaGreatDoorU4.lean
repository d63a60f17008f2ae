/- Layer 10's laws.  Conditions: none beyond those stated. -/
import Derived.Test.YtlniliigcnedmaaGreatDoorU3
import Derived.Laws.Bits64b
set_option linter.unusedSimpArgs false
set_option linter.unusedVariables false
namespace Go.Proofs.YtlniliigcnedmaaGreatDoor
open Go Ax
open Relation
def firstI:List Int→Int
 | []=>0
 |x::r=>if x=0 then firstI r else x
theorem firstI_zero: ∀{l:List Int},firstI l=0↔ ∀x∈l,x=0
 | []=>by simp[firstI]
 |x::r=>by
  unfold firstI
  by_cases h:x=0
  ·rw[if_pos h,firstI_zero];simp[h]
  ·rw[if_neg h];simp[h]
theorem firstI_at: ∀{l:List Int} {k:Nat} (hk:k<l.length),(∀j (hj:j<l.length),j<k→l[j]=0)→l[k]≠0→firstI l=l[k]
 | [],k,hk,_,_=>by cases hk
 |x::r,0,_,_,h=>by simp at h;simp[firstI,h]
 |x::r,k+1,hk,h0,h=>by
  have h1:=h0 0 (by simp) (by omega)
  simp at h1
  simp only[List.getElem_cons_succ] at h ⊢
  rw[firstI,if_pos h1]
  exact firstI_at (by simpa using hk) (fun j hj hjk=>by have:=h0 (j+1) (by simp;omega) (by omega);simpa using this) h
def flexOf (x:Md):Bool:=x.kind==12||x.kind==13
open Classical in
noncomputable def checkI (l:List Md):Int:=
 if 512<l.length then 3
 else if firstI (l.map (oneI · l.length))≠0 then firstI (l.map (oneI · l.length))
 else if l.any (voidsB l) then 7
 else if ∃r,r<l.length∧badM l r then 10
 else if ∃x∈l,flexOf x=true∧ ∃e∈x.elems,FlexP l e.toNat then 7
 else 0
theorem oneI_zero {x:Md} {n:Nat} (h:oneI x n=0):shapeI x=0∧(∀e∈x.elems,0≤e∧e<n)∧(∀s∈x.names,wordB 97 122 s=true)∧twiceB x.names=false:=by
 unfold oneI at h
 by_cases h1:shapeI x=0
 ·rw[if_neg (by simp[h1])] at h
  by_cases h2:x.elems.any (outB n)=true
  ·rw[if_pos h2] at h;omega
  ·rw[if_neg h2] at h
   by_cases h3:x.names.any (fun s=> !wordB 97 122 s)=true
   ·rw[if_pos h3] at h;omega
   ·rw[if_neg h3] at h
    by_cases h4:twiceB x.names=true
    ·rw[if_pos h4] at h;omega
    ·refine ⟨h1,fun e he=>?_,fun s hs=>?_,by simpa using h4⟩
     ·simp only[List.any_eq_true,not_exists,not_and] at h2
      have:=h2 e he
      simp[outB] at this
      omega
     ·simp only[List.any_eq_true,not_exists,not_and] at h3
      have:=h3 s hs
      simpa using this
 ·rw[if_pos h1] at h;exact absurd h h1
theorem shapeI_zero {x:Md} (h:shapeI x=0):0≤x.kind∧x.kind<14∧shaped x∧x.elems.length≤64:=by
 unfold shapeI at h
 split at h
 ·omega
 ·split at h
  ·split at h
   ·omega
   ·rename_i h1 h2 h3
    exact ⟨by omega,by omega,h2,by omega⟩
  ·omega
theorem goodT_of {l:List Md} (h:firstI (l.map (oneI · l.length))=0):goodT l:=by
 intro x hx e he
 rw[firstI_zero] at h
 exact (oneI_zero (h _ (List.mem_map.2 ⟨x,hx,rfl⟩))).2.1 e he
theorem one_of {l:List Md} (h:firstI (l.map (oneI · l.length))=0) {x:Md} (hx:x∈l):oneI x l.length=0:=by
 rw[firstI_zero] at h
 exact h _ (List.mem_map.2 ⟨x,hx,rfl⟩)
theorem proc_of {x:Md} {n:Nat} (h:oneI x n=0) (hk:x.kind=13):1≤x.elems.length:=by
 obtain ⟨_,_,h1,_⟩:=shapeI_zero (oneI_zero h).1
 have:=h1.1
 unfold least at this
 rw[if_pos (by omega)] at this
 omega
theorem acyc_of {l:List Md} (h: ¬ ∃r,r<l.length∧badM l r):acyc l:=by
 intro r hr
 refine h ⟨r,?_,.inl hr⟩
 have: ∀a b,TransGen (stepR l (fun x=> !yinB x)) a b→a<l.length:=by
  intro a b h
  induction h with
  |single h1=>obtain ⟨x,h1,_⟩:=h1;exact (List.getElem?_eq_some_iff.1 h1).1
  |tail _ _ ih=>exact ih
 exact this _ _ hr
theorem okM_false {l:List Md}:(∃j,j<l.length∧ ¬okM l j)↔ ∃r,r<l.length∧badM l r:=by
 constructor
 ·rintro ⟨j,hj,h⟩
  by_cases hb:badM l j
  ·exact ⟨j,hj,hb⟩
  ·have: ¬ ∀z,TransGen (stepR l (fun _=>true)) j z→ ¬badM l z:=fun h1=>h ⟨hb,h1⟩
   simp only[Classical.not_forall,Classical.not_not] at this
   obtain ⟨z,hz,hbz⟩:=this
   refine ⟨z,?_,hbz⟩
   have: ∀a b p,TransGen (stepR l p) a b→a<l.length:=by
    intro a b p h
    induction h with
    |single h1=>obtain ⟨x,h1,_⟩:=h1;exact (List.getElem?_eq_some_iff.1 h1).1
    |tail _ _ ih=>exact ih
   rcases hbz with h2|h2<;>exact this _ _ _ h2
 ·rintro ⟨r,hr,hb⟩
  exact ⟨r,hr,fun h=>h.1 hb⟩
end Go.Proofs.YtlniliigcnedmaaGreatDoor
namespace Go.Proofs.YtlniliigcnedmaaGreatDoor
open Go Ax
structure Ord (C:Int→Int→Int) (D:Int→Prop):Prop where
 anti: ∀a b,D a→D b→(C a b<0↔0<C b a)
 trans: ∀a b c,D a→D b→D c→C a b≤0→C b c≤0→C a c≤0
theorem Ord.le_of_not {C:Int→Int→Int} {D:Int→Prop} (h:Ord C D) {a b:Int} (ha:D a) (hb:D b) (hc: ¬C a b<0):C b a≤0:=by
 rw[h.anti a b ha hb] at hc;omega
def SortedTo (C:Int→Int→Int) (zs:List Int) (n:Nat):Prop:= ∀(p q:Nat) a b,p<q→q<n→zs[p]? =some a→zs[q]? =some b→C a b≤0
structure InsInv (C:Int→Int→Int) (zs:List Int) (i j:Nat):Prop where
 le:j≤i
 rest: ∀(p q:Nat) a b,p<q→q≤i→p≠j→q≠j→zs[p]? =some a→zs[q]? =some b→C a b≤0
 aft: ∀(q:Nat) a b,j<q→q≤i→zs[j]? =some a→zs[q]? =some b→C a b≤0
variable {C:Int→Int→Int} {D:Int→Prop} {zs:List Int} {i j:Nat}
theorem InsInv.start (h:SortedTo C zs i):InsInv C zs i i:=
 ⟨Nat.le_refl _,fun p q a b h1 h2 _ h4 h5 h6=>h p q a b h1 (by omega) h5 h6,fun q _ _ h1 h2=>by omega⟩
theorem InsInv.stop (hC:Ord C D) (hD: ∀x∈zs,D x) (h:InsInv C zs i j) (hs:j=0∨ ∀a b,zs[j]? =some a→zs[j-1]? =some b→ ¬C a b<0):SortedTo C zs (i+1):=by
 intro p q a b h1 h2 h3 h4
 have da:=hD a (List.mem_of_getElem? h3)
 have db:=hD b (List.mem_of_getElem? h4)
 by_cases hp:p=j
 ·subst hp;exact h.aft q a b h1 (by omega) h3 h4
 ·by_cases hq:q=j
  ·subst hq
   rcases hs with hs|hs
   ·omega
   ·have hlen:=(List.getElem?_eq_some_iff.1 h4).1
    have hc:zs[q-1]? =some zs[q-1]:=List.getElem?_eq_getElem (by omega)
    have hle:=hC.le_of_not db (hD _ (List.mem_of_getElem? hc)) (hs b _ h4 hc)
    by_cases hpq:p=q-1
    ·subst hpq
     rw[h3] at hc;cases hc
     exact hle
    ·exact hC.trans _ _ _ da (hD _ (List.mem_of_getElem? hc)) db (h.rest p (q-1) a _ (by omega) (by omega) hp (by omega) h3 hc) hle
  ·exact h.rest p q a b h1 (by omega) hp hq h3 h4
theorem InsInv.swap (h:InsInv C zs i (j+1)) {x y:Int} (hx:zs[j+1]? =some x) (hy:zs[j]? =some y) (hc:C x y<0):InsInv C ((zs.set (j+1) y).set j x) i j:=by
 have hl:=(List.getElem?_eq_some_iff.1 hx).1
 have hget: ∀(p:Nat),((zs.set (j+1) y).set j x)[p]? =if p=j then some x else if p=j+1 then some y else zs[p]? :=by
  intro p
  rw[List.getElem?_set]
  by_cases h1:j=p
  ·subst h1;rw[if_pos rfl,if_pos (by simp;omega),if_pos rfl]
  ·rw[if_neg h1,if_neg (fun h=>h1 h.symm),List.getElem?_set]
   by_cases h2:j+1=p
   ·subst h2;rw[if_pos rfl,if_pos hl,if_pos rfl]
   ·rw[if_neg h2,if_neg (fun h=>h2 h.symm)]
 have hle:=h.le
 refine ⟨by omega,fun p q a b h1 h2 h3 h4 h5 h6=>?_,fun q a b h1 h2 h3 h4=>?_⟩
 ·rw[hget,if_neg h3] at h5
  rw[hget,if_neg h4] at h6
  by_cases hp:p=j+1
  ·rw[if_pos hp] at h5
   rw[if_neg (by omega)] at h6
   exact h.rest j q a b (by omega) h2 (by omega) (by omega) (by rw[hy];exact h5) h6
  ·rw[if_neg hp] at h5
   by_cases hq:q=j+1
   ·rw[if_pos hq] at h6
    exact h.rest p j a b (by omega) (by omega) (by omega) (by omega) h5 (by rw[hy];exact h6)
   ·rw[if_neg hq] at h6
    exact h.rest p q a b h1 h2 hp hq h5 h6
 ·rw[hget,if_pos rfl] at h3
  cases h3
  rw[hget,if_neg (by omega)] at h4
  by_cases hq:q=j+1
  ·rw[if_pos hq] at h4;cases h4;omega
  ·rw[if_neg hq] at h4
   exact h.aft q x b (by omega) h2 hx h4
end Go.Proofs.YtlniliigcnedmaaGreatDoor
namespace Go.Proofs.YtlniliigcnedmaaGreatDoor
open Go Ax
structure DenseOf (n:Nat) (lt:Nat→Nat→Prop) (ds:List Nat) (k:Nat):Prop where
 len:ds.length=n
 ord: ∀(a b:Nat) x y,ds[a]? =some x→ds[b]? =some y→(x<y↔lt a b)
 bound: ∀(a:Nat) x,ds[a]? =some x→x<k
 surj: ∀v,v<k→ ∃a:Nat,ds[a]? =some v
def kk (C:Int→Int→Int) (ys:List Int):Nat→Nat
 |0=>0
 |j+1=>kk C ys j+(if C (ys.getD j 0) (ys.getD (j+1) 0)≠0 then 1 else 0)
theorem kk_mono (C:Int→Int→Int) (ys:List Int) {i j:Nat} (h:i≤j):kk C ys i≤kk C ys j:=by
 induction j with
 |zero=>
  obtain rfl:i=0:=by omega
  exact Nat.le_refl _
 |succ j ih=>
  by_cases hij:i=j+1
  ·subst hij;exact Nat.le_refl _
  ·have:=ih (by omega)
   rw[kk];omega
theorem kk_surj (C:Int→Int→Int) (ys:List Int): ∀(j v:Nat),v≤kk C ys j→ ∃i,i≤j∧kk C ys i=v
 |0,v,h=>⟨0,Nat.le_refl _,by rw[kk] at h ⊢;omega⟩
 |j+1,v,h=>by
  by_cases hv:v≤kk C ys j
  ·obtain ⟨i,h1,h2⟩:=kk_surj C ys j v hv
   exact ⟨i,by omega,h2⟩
  ·refine ⟨j+1,Nat.le_refl _,?_⟩
   have h':=h
   rw[kk] at h' ⊢
   split at h'
   ·rename_i hc
    rw[if_pos hc]
    omega
   ·omega
theorem kk_lt {C:Int→Int→Int} {D:Int→Prop} (hC:Ord C D) {ys:List Int} (hD: ∀x∈ys,D x) (hs:SortedTo C ys ys.length): ∀{i j:Nat} (_:i<j) (hj:j<ys.length),(kk C ys i<kk C ys j↔C (ys[i]'(by omega)) ys[j]<0):=by
 intro i j
 induction j with
 |zero=>intro h _;omega
 |succ j ih=>
  intro hij hj
  have hjl:j<ys.length:=by omega
  have d1:D (ys[j+1]):=hD _ (List.getElem_mem hj)
  have d2:D (ys[j]):=hD _ (List.getElem_mem hjl)
  have hle:C ys[j] ys[j+1]≤0:=hs j (j+1) _ _ (by omega) hj (List.getElem?_eq_getElem hjl) (List.getElem?_eq_getElem hj)
  have hk:kk C ys (j+1)=kk C ys j+(if C ys[j] ys[j+1]≠0 then 1 else 0):=by
   rw[kk];simp[List.getD,hjl,hj]
  by_cases hji:i=j
  ·subst hji
   rw[hk]
   by_cases h0:C ys[i] ys[i+1]=0
   ·simp[h0]
   ·simp[h0];omega
  ·have hil:i<ys.length:=by omega
   have d3:D (ys[i]):=hD _ (List.getElem_mem hil)
   have hile:C ys[i] ys[j]≤0:=hs i j _ _ (by omega) hjl (List.getElem?_eq_getElem hil) (List.getElem?_eq_getElem hjl)
   have hih:=ih (by omega) hjl
   have hmono:=kk_mono C ys (i:=i) (j:=j) (by omega)
   rw[hk]
   have a1:=hC.anti _ _ d3 d2
   have a2:=hC.anti _ _ d2 d1
   have a3:=hC.anti _ _ d3 d1
   constructor
   ·intro h
    by_cases h1:C ys[i] ys[j]<0
    · -- strictly before j,and j not behind j+1
     have:C ys[i] ys[j+1]≤0:=hC.trans _ _ _ d3 d2 d1 hile hle
     by_cases h2:C ys[i] ys[j+1]=0
     ·exfalso
      have h3: ¬0<C ys[j+1] ys[i]:=fun h=>by have:=a3.2 h;omega
      have:=hC.trans _ _ _ d2 d1 d3 hle (by omega)
      have:=a1.1 h1
      omega
     ·omega
    ·have hn: ¬kk C ys i<kk C ys j:=fun h=>h1 (hih.1 h)
     have h2:C ys[j] ys[j+1]≠0:=fun h0=>by simp[h0] at h;omega
     have h3:C ys[j] ys[j+1]<0:=by omega
     by_cases h4:C ys[i] ys[j+1]<0
     ·exact h4
     ·exfalso
      have h5:=hC.le_of_not d3 d1 h4
      have h6:=hC.trans _ _ _ d1 d3 d2 h5 hile
      have:=a2.1 h3
      omega
   ·intro h
    by_cases h1:C ys[i] ys[j]<0
    ·have:=hih.2 h1
     omega
    ·have h2:=hC.le_of_not d3 d2 h1
     have h3:C ys[j] ys[j+1]≠0:=fun h0=>by
      have h4: ¬C ys[j] ys[j+1]<0:=by omega
      have h5:=hC.le_of_not d2 d1 h4
      have h6:=hC.trans _ _ _ d1 d2 d3 h5 h2
      have:=a3.1 h
      omega
     simp[h3];omega
theorem kk_eq {C:Int→Int→Int} {D:Int→Prop} (hC:Ord C D) {ys:List Int} (hD: ∀x∈ys,D x) (hs:SortedTo C ys ys.length) {i j:Nat} (hi:i<ys.length) (hj:j<ys.length):(kk C ys i<kk C ys j↔C ys[i] ys[j]<0):=by
 have di:=hD _ (List.getElem_mem hi)
 have dj:=hD _ (List.getElem_mem hj)
 rcases Nat.lt_trichotomy i j with h|h|h
 ·exact kk_lt hC hD hs h hj
 ·subst h
  have:=hC.anti _ _ di di
  constructor<;>intro h
  ·omega
  ·have:=this.1 h;omega
 ·have h1:=kk_mono C ys (Nat.le_of_lt h)
  have h2:C ys[j] ys[i]≤0:=hs j i _ _ h hi (List.getElem?_eq_getElem hj) (List.getElem?_eq_getElem hi)
  have:=(hC.anti _ _ di dj)
  constructor<;>intro h'
  ·omega
  ·have:=this.1 h';omega
theorem DenseOf.of_kk {C:Int→Int→Int} {n:Nat} (hC:Ord C (fun x=>0≤x∧x<n)) {ys:List Int} (hp:ys.Perm ((List.range n).map fun i:Nat=>(i:Int))) (hs:SortedTo C ys ys.length) {ds:List Nat} (hl:ds.length=n) (hd: ∀(j:Nat) (hj:j<ys.length),ds[(ys[j]).toNat]? =some (kk C ys j)):
  DenseOf n (fun a b=>C a b<0) ds (if n=0 then 0 else kk C ys (n-1)+1):=by
 have hyl:ys.length=n:=by rw[hp.length_eq];simp
 have hD: ∀x∈ys,0≤x∧x<n:=fun x hx=>by
  have:=hp.mem_iff.1 hx
  obtain ⟨i,hi,rfl⟩:=List.mem_map.1 this
  have:=List.mem_range.1 hi
  omega
 have hat: ∀(a:Nat),a<n→ ∃j,∃hj:j<ys.length,ys[j]=(a:Int):=fun a ha=>by
  have:(a:Int)∈ys:=hp.mem_iff.2 (List.mem_map.2 ⟨a,List.mem_range.2 ha,rfl⟩)
  obtain ⟨j,hj,h⟩:=List.mem_iff_getElem.1 this
  exact ⟨j,hj,h⟩
 have hget: ∀(a:Nat) x,ds[a]? =some x→ ∃j,∃hj:j<ys.length,ys[j]=(a:Int)∧x=kk C ys j:=fun a x hx=>by
  have ha:=(List.getElem?_eq_some_iff.1 hx).1
  obtain ⟨j,hj,h⟩:=hat a (by omega)
  have:=hd j hj
  rw[h,Int.toNat_natCast,hx] at this
  exact ⟨j,hj,h,by simpa using this⟩
 refine ⟨hl,fun a b x y hx hy=>?_,fun a x hx=>?_,fun v hv=>?_⟩
 ·obtain ⟨i,hi,h1,rfl⟩:=hget a x hx
  obtain ⟨j,hj,h2,rfl⟩:=hget b y hy
  rw[kk_eq hC hD hs hi hj,h1,h2]
 ·obtain ⟨i,hi,h1,rfl⟩:=hget a x hx
  have:=kk_mono C ys (i:=i) (j:=n-1) (by omega)
  rw[if_neg (by omega)]
  omega
 ·by_cases hn:n=0
  ·rw[if_pos hn] at hv;omega
  ·rw[if_neg hn] at hv
   obtain ⟨i,h1,h2⟩:=kk_surj C ys (n-1) v (by omega)
   refine ⟨(ys[i]'(by omega)).toNat,?_⟩
   rw[hd i (by omega),h2]
end Go.Proofs.YtlniliigcnedmaaGreatDoor
namespace Go.Proofs.YtlniliigcnedmaaGreatDoor
open Go Ax
set_option maxRecDepth 100000
theorem w171 {args m R} (h:W Tryz.prog (.seq (.reg [qv 10 1,qk 11 .add 10 1,qv 8 11]) (.kill [0,1,2,3,8] (.block 0 (.kill [0,1,2,3,8] (.loop (.fin [0,1,2,3,8] (.seq (.seq (.reg [qv 12 8,qv 13 2,qo 14 .lss 12 13]) (.kill [0,1,2,3,8,14] (.cond (.t 14) .skip (.exit 0)))) (.kill [0,1,2,3,8] (.seq (.block 1 (.seq (.reg [qv 17 8,qv 9 17]) (.kill [0,1,2,3,8,9] (.block 2 (.kill [0,1,2,3,8,9] (.loop (.fin [0,1,2,3,8,9] (.seq (.seq (.draw true [qv 18 9,qv 19 1,qo 20 .gtr 18 19,qv 21 20,⟨some 22,.P (.mov (.t 3)),(some (21,true))⟩,⟨some 23,.P (.mov (.t 0)),(some (21,true))⟩,⟨some 24,.P (.mov (.t 9)),(some (21,true))⟩,⟨some 25,.P (.iaddr 1 (.t 23) (.t 24)),(some (21,true))⟩,⟨some 26,.R (.load 1 false (.t 25)),(some (21,true))⟩,⟨some 27,.P (.mov (.t 0)),(some (21,true))⟩,⟨some 28,.P (.mov (.t 9)),(some (21,true))⟩,⟨some 29,.P (.bin .sub (.t 28) (qz 1)),(some (21,true))⟩,⟨some 30,.P (.iaddr 1 (.t 27) (.t 29)),(some (21,true))⟩,⟨some 31,.R (.load 1 false (.t 30)),(some (21,true))⟩,⟨some 32,.C (.t 22) [(.t 26),(.t 31)],(some (21,true))⟩,⟨some 33,.P (.bin .lss (.t 32) (qz 0)),(some (21,true))⟩,⟨some 34,.P (.pick (.t 21) (.t 33) (.c (.bool false))),none⟩] [[],[],[],[],[],[],[],[],[],[],[],[],[],[],[],[14],[14]] [[],[],[],[],[],[],[],[],[],[],[],[],[],[],[],[],[]] [0,1,2,3,4,5,6,7,8,9,10,11,12,13,14,15,16]) (.kill [0,1,2,3,8,9,34] (.cond (.t 34) .skip (.exit 2)))) (.kill [0,1,2,3,8,9] (.seq (.block 3 (.draw true [qv 37 0,qv 38 9,qv 39 0,qv 40 9,qk 41 .sub 40 1,qv 42 0,qv 43 9,qk 44 .sub 43 1,qa 45 1 42 44,ql 46 45,qv 47 0,qv 48 9,qa 49 1 47 48,ql 50 49,qa 51 1 37 38,⟨none,.W (.store 1 (.t 51) (.t 46)),none⟩,qa 52 1 39 41,⟨none,.W (.store 1 (.t 52) (.t 50)),none⟩] [[],[],[],[],[],[],[],[],[],[],[],[],[],[],[],[],[],[]] [[],[],[],[],[],[],[],[],[],[],[],[],[],[],[],[],[],[]] [0,1,2,3,4,5,6,7,8,9,10,11,12,13,14,15,16,17])) (.kill [0,1,2,3,8,9] (.reg [qv 35 9,qk 36 .sub 35 1,qv 9 36])))))))))))) (.kill [0,1,2,3,8] (.reg [qv 15 8,qk 16 .add 15 1,qv 8 16]))))))))))) (E [] R .mk) .mk (mat 53 (sArgs 0 args)) m) (hl:Nat.ble args.length 53=true:=by rfl):ACalls Tryz.prog 171 args m R:=walk mix (by kernel_rfl) (Nat.le_of_ble_eq_true hl) h
abbrev h171_0 (t0 t1 t2 t3 t8:AVal):AFrame:=mat 53 [(0,t0),(1,t1),(2,t2),(3,t3),(8,t8)]
abbrev h171_1 (t0 t1 t2 t3 t8 t9:AVal):AFrame:=mat 53 [(0,t0),(1,t1),(2,t2),(3,t3),(8,t8),(9,t9)]
theorem w172 {args m R} (h:W Tryz.prog (.seq (.reg [qv 13 1,qv 8 13]) (.kill [0,1,2,3,8] (.seq (.reg [qi 9 0]) (.seq (.reg [qv 14 2,qv 15 1,qo 16 .sub 14 15,qv 10 16]) (.kill [0,3,8,9,10] (.seq (.seq (.reg [qv 17 10,qk 18 .sub 17 1,qk 19 .quo 18 2,qv 11 19]) (.kill [0,3,8,9,10,11] (.block 0 (.kill [0,3,8,9,10,11] (.loop (.fin [0,3,8,9,10,11] (.seq (.seq (.reg [qv 20 11,qk 21 .geq 20 0]) (.kill [0,3,8,9,10,11,21] (.cond (.t 21) .skip (.exit 0)))) (.kill [0,3,8,9,10,11] (.seq (.block 1 (.reg [qv 24 0,qv 25 11,qv 26 10,qv 27 8,qv 28 3,qc 29 194 [(.t 24),(.t 25),(.t 26),(.t 27),(.t 28)]])) (.kill [0,3,8,9,10,11] (.reg [qv 22 11,qk 23 .sub 22 1,qv 11 23]))))))))))) (.kill [0,3,8,9,10] (.seq (.reg [qv 30 10,qk 31 .sub 30 1,qv 12 31]) (.kill [0,3,8,9,12] (.block 2 (.kill [0,3,8,9,12] (.loop (.fin [0,3,8,9,12] (.seq (.seq (.reg [qv 32 12,qk 33 .geq 32 0]) (.kill [0,3,8,9,12,33] (.cond (.t 33) .skip (.exit 2)))) (.kill [0,3,8,9,12] (.seq (.block 3 (.seq (.draw true [qv 36 0,qv 37 8,qv 38 0,qv 39 8,qv 40 12,qo 41 .add 39 40,qv 42 0,qv 43 8,qv 44 12,qo 45 .add 43 44,qa 46 1 42 45,ql 47 46,qv 48 0,qv 49 8,qa 50 1 48 49,ql 51 50,qa 52 1 36 37,⟨none,.W (.store 1 (.t 52) (.t 47)),none⟩,qa 53 1 38 41,⟨none,.W (.store 1 (.t 53) (.t 51)),none⟩] [[],[],[],[],[],[],[],[],[],[],[],[],[],[],[],[],[],[],[],[]] [[],[],[],[],[],[],[],[],[],[],[],[],[],[],[],[],[],[],[],[]] [0,1,2,3,4,5,6,7,8,9,10,11,12,13,14,15,16,17,18,19]) (.kill [0,3,8,9,12] (.reg [qv 54 0,qv 55 9,qv 56 12,qv 57 8,qv 58 3,qc 59 194 [(.t 54),(.t 55),(.t 56),(.t 57),(.t 58)]])))) (.kill [0,3,8,9,12] (.reg [qv 34 12,qk 35 .sub 34 1,qv 12 35])))))))))))))))))) (E [] R .mk) .mk (mat 60 (sArgs 0 args)) m) (hl:Nat.ble args.length 60=true:=by rfl):ACalls Tryz.prog 172 args m R:=walk mix (by kernel_rfl) (Nat.le_of_ble_eq_true hl) h
abbrev h172_0 (t0 t3 t8 t9 t10 t11:AVal):AFrame:=mat 60 [(0,t0),(3,t3),(8,t8),(9,t9),(10,t10),(11,t11)]
abbrev h172_1 (t0 t3 t8 t9 t12:AVal):AFrame:=mat 60 [(0,t0),(3,t3),(8,t8),(9,t9),(12,t12)]
theorem w173 {args m R} (h:W Tryz.prog (.seq (.reg [qv 13 2,qv 14 1,qo 15 .sub 13 14,qv 8 15]) (.kill [0,1,8] (.seq (.reg [qv 16 8,qk 17 .geq 16 8]) (.kill [0,1,8,17] (.cond (.t 17) (.seq (.reg [qv 18 8,⟨some 19,.P (.i2i .u64 (.t 18)),none⟩,⟨some 9,.A (.alloc 179 [(.int .u64 0)]),none⟩,⟨none,.W (.store 1 (.t 9) (.t 19)),none⟩]) (.kill [0,1,8,9] (.seq (.reg [qv 20 8,qc 21 182 [(.t 20)],qv 10 21]) (.kill [0,1,8,9,10] (.seq (.reg [qv 22 1,qv 23 8,qk 24 .quo 23 4,qk 25 .mul 24 2,qo 26 .add 22 25,qk 27 .sub 26 1,qv 11 27]) (.kill [0,1,8,9,10,11] (.block 0 (.kill [0,1,8,9,10,11] (.loop (.fin [0,1,8,9,10,11] (.seq (.seq (.reg [qv 28 11,qv 29 1,qv 30 8,qk 31 .quo 30 4,qk 32 .mul 31 2,qo 33 .add 29 32,qk 34 .add 33 1,qo 35 .leq 28 34]) (.kill [0,1,8,9,10,11,35] (.cond (.t 35) .skip (.exit 0)))) (.kill [0,1,8,9,10,11] (.seq (.block 1 (.seq (.reg [qc 38 183 [(.t 9)],qv 39 10,⟨some 40,.P (.bin .sub (.t 39) (.c (.int .u64 1))),none⟩,qo 41 .and 38 40,⟨some 42,.P (.i2i .i64 (.t 41)),none⟩,qv 12 42]) (.kill [0,1,8,9,10,11,12] (.seq (.seq (.reg [qv 43 12,qv 44 8,qo 45 .geq 43 44]) (.kill [0,1,8,9,10,11,12,45] (.cond (.t 45) (.reg [qv 46 12,qv 47 8,qo 48 .sub 46 47,qv 12 48]) .skip))) (.kill [0,1,8,9,10,11,12] (.draw true [qv 49 0,qv 50 11,qv 51 0,qv 52 1,qv 53 12,qo 54 .add 52 53,qv 55 0,qv 56 1,qv 57 12,qo 58 .add 56 57,qa 59 1 55 58,ql 60 59,qv 61 0,qv 62 11,qa 63 1 61 62,ql 64 63,qa 65 1 49 50,⟨none,.W (.store 1 (.t 65) (.t 60)),none⟩,qa 66 1 51 54,⟨none,.W (.store 1 (.t 66) (.t 64)),none⟩] [[],[],[],[],[],[],[],[],[],[],[],[],[],[],[],[],[],[],[],[]] [[],[],[],[],[],[],[],[],[],[],[],[],[],[],[],[],[],[],[],[]] [0,1,2,3,4,5,6,7,8,9,10,11,12,13,14,15,16,17,18,19])))))) (.kill [0,1,8,9,10,11] (.reg [qv 36 11,qk 37 .add 36 1,qv 11 37]))))))))))))))) .skip))))) (E [] R .mk) .mk (mat 67 (sArgs 0 args)) m) (hl:Nat.ble args.length 67=true:=by rfl):ACalls Tryz.prog 173 args m R:=walk mix (by kernel_rfl) (Nat.le_of_ble_eq_true hl) h
abbrev h173_0 (t0 t1 t8 t9 t10 t11:AVal):AFrame:=mat 67 [(0,t0),(1,t1),(8,t8),(9,t9),(10,t10),(11,t11)]
theorem w174 {args m R} (h:W Tryz.prog (.seq (.reg [qi 8 0,qi 9 0]) (.kill [0,1,2,3] (.seq (.reg [qv 15 2,qv 16 1,qo 17 .sub 15 16,qv 10 17]) (.kill [0,1,3,10] (.seq (.reg [⟨some 11,.A (.alloc 3 [(.int .i64 0)]),none⟩]) (.seq (.reg [qv 18 1,qv 19 10,qk 20 .quo 19 4,qk 21 .mul 20 1,qo 22 .add 18 21,qv 12 22]) (.kill [0,1,3,10,11,12] (.seq (.reg [qv 23 1,qv 24 10,qk 25 .quo 24 4,qk 26 .mul 25 2,qo 27 .add 23 26,qv 13 27]) (.kill [0,1,3,10,11,12,13] (.seq (.reg [qv 28 1,qv 29 10,qk 30 .quo 29 4,qk 31 .mul 30 3,qo 32 .add 28 31,qv 14 32]) (.kill [0,3,10,11,12,13,14] (.seq (.seq (.reg [qv 33 10,qk 34 .geq 33 8]) (.kill [0,3,10,11,12,13,14,34] (.cond (.t 34) (.seq (.seq (.reg [qv 35 10,qk 36 .geq 35 50]) (.kill [0,3,11,12,13,14,36] (.cond (.t 36) (.seq (.reg [qv 37 0,qv 38 12,qv 39 3,qc 40 195 [(.t 37),(.t 38),(.t 11),(.t 39)],qv 12 40]) (.kill [0,3,11,12,13,14] (.seq (.reg [qv 41 0,qv 42 13,qv 43 3,qc 44 195 [(.t 41),(.t 42),(.t 11),(.t 43)],qv 13 44]) (.kill [0,3,11,12,13,14] (.reg [qv 45 0,qv 46 14,qv 47 3,qc 48 195 [(.t 45),(.t 46),(.t 11),(.t 47)],qv 14 48]))))) .skip))) (.kill [0,3,11,12,13,14] (.reg [qv 49 0,qv 50 12,qv 51 13,qv 52 14,qv 53 3,qc 54 196 [(.t 49),(.t 50),(.t 51),(.t 52),(.t 11),(.t 53)],qv 13 54]))) .skip))) (.kill [11,13] (.seq (.reg [ql 55 11]) (.kill [13,55] (.block 0 (.seq (.reg [qk 58 .eql 55 0,qv 57 58]) (.kill [13,55,57] (.cond (.t 57) (.seq (.reg [qv 59 13,qv 8 59,qi 9 1]) .ret) (.seq (.reg [qk 61 .eql 55 12,qv 60 61]) (.kill [13,60] (.cond (.t 60) (.seq (.reg [qv 62 13,qv 8 62,qi 9 2]) .ret) (.seq (.reg [qv 56 13,qv 8 56,qi 9 0]) .ret))))))))))))))))))))))) (E [(.tmp 8),(.tmp 9)] R .mk) .mk (mat 63 (sArgs 0 args)) m) (hl:Nat.ble args.length 63=true:=by rfl):ACalls Tryz.prog 174 args m R:=walk mix (by kernel_rfl) (Nat.le_of_ble_eq_true hl) h
theorem w175 {args m R} (h:W Tryz.prog (.seq (.reg [qv 10 1,qv 8 10]) (.kill [0,2,8] (.seq (.reg [qv 11 2,qk 12 .sub 11 1,qv 9 12]) (.kill [0,8,9] (.block 0 (.kill [0,8,9] (.loop (.fin [0,8,9] (.seq (.seq (.reg [qv 13 8,qv 14 9,qo 15 .lss 13 14]) (.kill [0,8,9,15] (.cond (.t 15) .skip (.exit 0)))) (.kill [0,8,9] (.block 1 (.seq (.draw true [qv 16 0,qv 17 8,qv 18 0,qv 19 9,qv 20 0,qv 21 9,qa 22 1 20 21,ql 23 22,qv 24 0,qv 25 8,qa 26 1 24 25,ql 27 26,qa 28 1 16 17,⟨none,.W (.store 1 (.t 28) (.t 23)),none⟩,qa 29 1 18 19,⟨none,.W (.store 1 (.t 29) (.t 27)),none⟩] [[],[],[],[],[],[],[],[],[],[],[],[],[],[],[],[]] [[],[],[],[],[],[],[],[],[],[],[],[],[],[],[],[]] [0,1,2,3,4,5,6,7,8,9,10,11,12,13,14,15]) (.kill [0,8,9] (.seq (.reg [qv 30 8,qk 31 .add 30 1,qv 8 31]) (.kill [0,8,9] (.reg [qv 32 9,qk 33 .sub 32 1,qv 9 33])))))))))))))))) (E [] R .mk) .mk (mat 34 (sArgs 0 args)) m) (hl:Nat.ble args.length 34=true:=by rfl):ACalls Tryz.prog 175 args m R:=walk mix (by kernel_rfl) (Nat.le_of_ble_eq_true hl) h
abbrev h175_0 (t0 t8 t9:AVal):AFrame:=mat 34 [(0,t0),(8,t8),(9,t9)]
theorem w176 {args m R} (h:W Tryz.prog (.seq (.reg [qb 8 false]) (.kill [0,1,2,3] (.seq (.reg [qv 13 1,qk 14 .add 13 1,qv 9 14]) (.kill [0,1,2,3,9] (.seq (.seq (.reg [qi 10 0]) (.block 0 (.kill [0,1,2,3,9,10] (.loop (.fin [0,1,2,3,9,10] (.seq (.seq (.reg [qv 15 10,qk 16 .lss 15 5]) (.kill [0,1,2,3,9,10,16] (.cond (.t 16) .skip (.exit 0)))) (.kill [0,1,2,3,9,10] (.seq (.block 1 (.seq (.block 2 (.kill [0,1,2,3,9,10] (.loop (.fin [0,1,2,3,9,10] (.seq (.seq (.draw true [qv 19 9,qv 20 2,qo 21 .lss 19 20,qv 22 21,⟨some 23,.P (.mov (.t 3)),(some (22,true))⟩,⟨some 24,.P (.mov (.t 0)),(some (22,true))⟩,⟨some 25,.P (.mov (.t 9)),(some (22,true))⟩,⟨some 26,.P (.iaddr 1 (.t 24) (.t 25)),(some (22,true))⟩,⟨some 27,.R (.load 1 false (.t 26)),(some (22,true))⟩,⟨some 28,.P (.mov (.t 0)),(some (22,true))⟩,⟨some 29,.P (.mov (.t 9)),(some (22,true))⟩,⟨some 30,.P (.bin .sub (.t 29) (qz 1)),(some (22,true))⟩,⟨some 31,.P (.iaddr 1 (.t 28) (.t 30)),(some (22,true))⟩,⟨some 32,.R (.load 1 false (.t 31)),(some (22,true))⟩,⟨some 33,.C (.t 23) [(.t 27),(.t 32)],(some (22,true))⟩,⟨some 34,.P (.bin .lss (.t 33) (qz 0)),(some (22,true))⟩,⟨some 35,.P (.un .not (.t 34)),(some (22,true))⟩,⟨some 36,.P (.pick (.t 22) (.t 35) (.c (.bool false))),none⟩] [[],[],[],[],[],[],[],[],[],[],[],[],[],[],[],[14],[14],[14]] [[],[],[],[],[],[],[],[],[],[],[],[],[],[],[],[],[],[]] [0,1,2,3,4,5,6,7,8,9,10,11,12,13,14,15,16,17]) (.kill [0,1,2,3,9,10,36] (.cond (.t 36) .skip (.exit 2)))) (.kill [0,1,2,3,9,10] (.block 3 (.reg [qv 37 9,qk 38 .add 37 1,qv 9 38])))))))) (.kill [0,1,2,3,9,10] (.seq (.seq (.reg [qv 39 9,qv 40 2,qo 41 .eql 39 40]) (.kill [0,1,2,3,9,10,41] (.cond (.t 41) (.seq (.reg [qb 8 true]) .ret) .skip))) (.kill [0,1,2,3,9,10] (.seq (.seq (.reg [qv 42 2,qv 43 1,qo 44 .sub 42 43,qk 45 .lss 44 50]) (.kill [0,1,2,3,9,10,45] (.cond (.t 45) (.seq (.reg [qb 8 false]) .ret) .skip))) (.kill [0,1,2,3,9,10] (.seq (.draw true [qv 46 0,qv 47 9,qv 48 0,qv 49 9,qk 50 .sub 49 1,qv 51 0,qv 52 9,qk 53 .sub 52 1,qa 54 1 51 53,ql 55 54,qv 56 0,qv 57 9,qa 58 1 56 57,ql 59 58,qa 60 1 46 47,⟨none,.W (.store 1 (.t 60) (.t 55)),none⟩,qa 61 1 48 50,⟨none,.W (.store 1 (.t 61) (.t 59)),none⟩] [[],[],[],[],[],[],[],[],[],[],[],[],[],[],[],[],[],[]] [[],[],[],[],[],[],[],[],[],[],[],[],[],[],[],[],[],[]] [0,1,2,3,4,5,6,7,8,9,10,11,12,13,14,15,16,17]) (.kill [0,1,2,3,9,10] (.seq (.seq (.reg [qv 62 9,qv 63 1,qo 64 .sub 62 63,qk 65 .geq 64 2]) (.kill [0,1,2,3,9,10,65] (.cond (.t 65) (.seq (.reg [qv 66 9,qk 67 .sub 66 1,qv 11 67]) (.kill [0,1,2,3,9,10,11] (.block 4 (.kill [0,1,2,3,9,10,11] (.loop (.fin [0,1,2,3,9,10,11] (.seq (.seq (.reg [qv 68 11,qk 69 .geq 68 1]) (.kill [0,1,2,3,9,10,11,69] (.cond (.t 69) .skip (.exit 4)))) (.kill [0,1,2,3,9,10,11] (.seq (.block 5 (.seq (.seq (.draw true [qv 72 3,qv 73 0,qv 74 11,qa 75 1 73 74,ql 76 75,qv 77 0,qv 78 11,qk 79 .sub 78 1,qa 80 1 77 79,ql 81 80,⟨some 82,.C (.t 72) [(.t 76),(.t 81)],none⟩,qk 83 .lss 82 0,⟨some 84,.P (.un .not (.t 83)),none⟩] [[],[],[],[],[],[],[],[],[],[],[],[10],[10]] [[],[],[],[],[],[],[],[],[],[],[],[],[]] [0,1,2,3,4,5,6,7,8,9,10,11,12]) (.kill [0,1,2,3,9,10,11,84] (.cond (.t 84) (.exit 4) .skip))) (.kill [0,1,2,3,9,10,11] (.draw true [qv 85 0,qv 86 11,qv 87 0,qv 88 11,qk 89 .sub 88 1,qv 90 0,qv 91 11,qk 92 .sub 91 1,qa 93 1 90 92,ql 94 93,qv 95 0,qv 96 11,qa 97 1 95 96,ql 98 97,qa 99 1 85 86,⟨none,.W (.store 1 (.t 99) (.t 94)),none⟩,qa 100 1 87 89,⟨none,.W (.store 1 (.t 100) (.t 98)),none⟩] [[],[],[],[],[],[],[],[],[],[],[],[],[],[],[],[],[],[]] [[],[],[],[],[],[],[],[],[],[],[],[],[],[],[],[],[],[]] [0,1,2,3,4,5,6,7,8,9,10,11,12,13,14,15,16,17])))) (.kill [0,1,2,3,9,10,11] (.reg [qv 70 11,qk 71 .sub 70 1,qv 11 71]))))))))))) .skip))) (.kill [0,1,2,3,9,10] (.seq (.reg [qv 101 2,qv 102 9,qo 103 .sub 101 102,qk 104 .geq 103 2]) (.kill [0,1,2,3,9,10,104] (.cond (.t 104) (.seq (.reg [qv 105 9,qk 106 .add 105 1,qv 12 106]) (.kill [0,1,2,3,9,10,12] (.block 6 (.kill [0,1,2,3,9,10,12] (.loop (.fin [0,1,2,3,9,10,12] (.seq (.seq (.reg [qv 107 12,qv 108 2,qo 109 .lss 107 108]) (.kill [0,1,2,3,9,10,12,109] (.cond (.t 109) .skip (.exit 6)))) (.kill [0,1,2,3,9,10,12] (.seq (.block 7 (.seq (.seq (.draw true [qv 112 3,qv 113 0,qv 114 12,qa 115 1 113 114,ql 116 115,qv 117 0,qv 118 12,qk 119 .sub 118 1,qa 120 1 117 119,ql 121 120,⟨some 122,.C (.t 112) [(.t 116),(.t 121)],none⟩,qk 123 .lss 122 0,⟨some 124,.P (.un .not (.t 123)),none⟩] [[],[],[],[],[],[],[],[],[],[],[],[10],[10]] [[],[],[],[],[],[],[],[],[],[],[],[],[]] [0,1,2,3,4,5,6,7,8,9,10,11,12]) (.kill [0,1,2,3,9,10,12,124] (.cond (.t 124) (.exit 6) .skip))) (.kill [0,1,2,3,9,10,12] (.draw true [qv 125 0,qv 126 12,qv 127 0,qv 128 12,qk 129 .sub 128 1,qv 130 0,qv 131 12,qk 132 .sub 131 1,qa 133 1 130 132,ql 134 133,qv 135 0,qv 136 12,qa 137 1 135 136,ql 138 137,qa 139 1 125 126,⟨none,.W (.store 1 (.t 139) (.t 134)),none⟩,qa 140 1 127 129,⟨none,.W (.store 1 (.t 140) (.t 138)),none⟩] [[],[],[],[],[],[],[],[],[],[],[],[],[],[],[],[],[],[]] [[],[],[],[],[],[],[],[],[],[],[],[],[],[],[],[],[],[]] [0,1,2,3,4,5,6,7,8,9,10,11,12,13,14,15,16,17])))) (.kill [0,1,2,3,9,10,12] (.reg [qv 110 12,qk 111 .add 110 1,qv 12 111]))))))))))) .skip)))))))))))))) (.kill [0,1,2,3,9,10] (.reg [qv 17 10,qk 18 .add 17 1,qv 10 18])))))))))) (.kill [] (.seq (.reg [qb 8 false]) .ret))))))) (E [(.tmp 8)] R .mk) .mk (mat 141 (sArgs 0 args)) m) (hl:Nat.ble args.length 141=true:=by rfl):ACalls Tryz.prog 176 args m R:=walk mix (by kernel_rfl) (Nat.le_of_ble_eq_true hl) h
abbrev h176_0 (t0 t1 t2 t3 t9 t10:AVal):AFrame:=mat 141 [(0,t0),(1,t1),(2,t2),(3,t3),(9,t9),(10,t10)]
abbrev h176_1 (t0 t1 t2 t3 t9 t10:AVal):AFrame:=mat 141 [(0,t0),(1,t1),(2,t2),(3,t3),(9,t9),(10,t10)]
abbrev h176_2 (t0 t1 t2 t3 t9 t10 t11:AVal):AFrame:=mat 141 [(0,t0),(1,t1),(2,t2),(3,t3),(9,t9),(10,t10),(11,t11)]
abbrev h176_3 (t0 t1 t2 t3 t9 t10 t12:AVal):AFrame:=mat 141 [(0,t0),(1,t1),(2,t2),(3,t3),(9,t9),(10,t10),(12,t12)]
theorem w177 {args m R} (h:W Tryz.prog (.seq (.reg [qi 10 0]) (.kill [0,1,2,3,4] (.seq (.draw true [qv 13 0,qv 14 1,qv 15 0,qv 16 3,qv 17 0,qv 18 3,qa 19 1 17 18,ql 20 19,qv 21 0,qv 22 1,qa 23 1 21 22,ql 24 23,qa 25 1 13 14,⟨none,.W (.store 1 (.t 25) (.t 20)),none⟩,qa 26 1 15 16,⟨none,.W (.store 1 (.t 26) (.t 24)),none⟩] [[],[],[],[],[],[],[],[],[],[],[],[],[],[],[],[]] [[],[],[],[],[],[],[],[],[],[],[],[],[],[],[],[]] [0,1,2,3,4,5,6,7,8,9,10,11,12,13,14,15]) (.kill [0,1,2,4] (.seq (.reg [qv 27 1,qk 28 .add 27 1,qv 29 2,qk 30 .sub 29 1,qv 11 28,qv 12 30]) (.kill [0,1,4,11,12] (.seq (.block 0 (.kill [0,1,4,11,12] (.loop (.fin [0,1,4,11,12] (.block 1 (.seq (.block 2 (.kill [0,1,4,11,12] (.loop (.fin [0,1,4,11,12] (.seq (.seq (.draw true [qv 31 11,qv 32 12,qo 33 .leq 31 32,qv 34 33,⟨some 35,.P (.mov (.t 4)),(some (34,true))⟩,⟨some 36,.P (.mov (.t 0)),(some (34,true))⟩,⟨some 37,.P (.mov (.t 1)),(some (34,true))⟩,⟨some 38,.P (.iaddr 1 (.t 36) (.t 37)),(some (34,true))⟩,⟨some 39,.R (.load 1 false (.t 38)),(some (34,true))⟩,⟨some 40,.P (.mov (.t 0)),(some (34,true))⟩,⟨some 41,.P (.mov (.t 11)),(some (34,true))⟩,⟨some 42,.P (.iaddr 1 (.t 40) (.t 41)),(some (34,true))⟩,⟨some 43,.R (.load 1 false (.t 42)),(some (34,true))⟩,⟨some 44,.C (.t 35) [(.t 39),(.t 43)],(some (34,true))⟩,⟨some 45,.P (.bin .lss (.t 44) (qz 0)),(some (34,true))⟩,⟨some 46,.P (.un .not (.t 45)),(some (34,true))⟩,⟨some 47,.P (.pick (.t 34) (.t 46) (.c (.bool false))),none⟩] [[],[],[],[],[],[],[],[],[],[],[],[],[],[],[13],[13],[13]] [[],[],[],[],[],[],[],[],[],[],[],[],[],[],[],[],[]] [0,1,2,3,4,5,6,7,8,9,10,11,12,13,14,15,16]) (.kill [0,1,4,11,12,47] (.cond (.t 47) .skip (.exit 2)))) (.kill [0,1,4,11,12] (.block 3 (.reg [qv 48 11,qk 49 .add 48 1,qv 11 49])))))))) (.kill [0,1,4,11,12] (.seq (.block 4 (.kill [0,1,4,11,12] (.loop (.fin [0,1,4,11,12] (.seq (.seq (.draw true [qv 50 11,qv 51 12,qo 52 .leq 50 51,qv 53 52,⟨some 54,.P (.mov (.t 4)),(some (53,true))⟩,⟨some 55,.P (.mov (.t 0)),(some (53,true))⟩,⟨some 56,.P (.mov (.t 1)),(some (53,true))⟩,⟨some 57,.P (.iaddr 1 (.t 55) (.t 56)),(some (53,true))⟩,⟨some 58,.R (.load 1 false (.t 57)),(some (53,true))⟩,⟨some 59,.P (.mov (.t 0)),(some (53,true))⟩,⟨some 60,.P (.mov (.t 12)),(some (53,true))⟩,⟨some 61,.P (.iaddr 1 (.t 59) (.t 60)),(some (53,true))⟩,⟨some 62,.R (.load 1 false (.t 61)),(some (53,true))⟩,⟨some 63,.C (.t 54) [(.t 58),(.t 62)],(some (53,true))⟩,⟨some 64,.P (.bin .lss (.t 63) (qz 0)),(some (53,true))⟩,⟨some 65,.P (.pick (.t 53) (.t 64) (.c (.bool false))),none⟩] [[],[],[],[],[],[],[],[],[],[],[],[],[],[],[13],[13]] [[],[],[],[],[],[],[],[],[],[],[],[],[],[],[],[]] [0,1,2,3,4,5,6,7,8,9,10,11,12,13,14,15]) (.kill [0,1,4,11,12,65] (.cond (.t 65) .skip (.exit 4)))) (.kill [0,1,4,11,12] (.block 5 (.reg [qv 66 12,qk 67 .sub 66 1,qv 12 67])))))))) (.kill [0,1,4,11,12] (.seq (.seq (.reg [qv 68 11,qv 69 12,qo 70 .gtr 68 69]) (.kill [0,1,4,11,12,70] (.cond (.t 70) (.exit 0) .skip))) (.kill [0,1,4,11,12] (.seq (.draw true [qv 71 0,qv 72 11,qv 73 0,qv 74 12,qv 75 0,qv 76 12,qa 77 1 75 76,ql 78 77,qv 79 0,qv 80 11,qa 81 1 79 80,ql 82 81,qa 83 1 71 72,⟨none,.W (.store 1 (.t 83) (.t 78)),none⟩,qa 84 1 73 74,⟨none,.W (.store 1 (.t 84) (.t 82)),none⟩] [[],[],[],[],[],[],[],[],[],[],[],[],[],[],[],[]] [[],[],[],[],[],[],[],[],[],[],[],[],[],[],[],[]] [0,1,2,3,4,5,6,7,8,9,10,11,12,13,14,15]) (.kill [0,1,4,11,12] (.seq (.reg [qv 85 11,qk 86 .add 85 1,qv 11 86]) (.kill [0,1,4,11,12] (.reg [qv 87 12,qk 88 .sub 87 1,qv 12 88])))))))))))))))) (.kill [11] (.seq (.reg [qv 89 11,qv 10 89]) .ret))))))))) (E [(.tmp 10)] R .mk) .mk (mat 90 (sArgs 0 args)) m) (hl:Nat.ble args.length 90=true:=by rfl):ACalls Tryz.prog 177 args m R:=walk mix (by kernel_rfl) (Nat.le_of_ble_eq_true hl) h
abbrev h177_0 (t0 t1 t4 t11 t12:AVal):AFrame:=mat 90 [(0,t0),(1,t1),(4,t4),(11,t11),(12,t12)]
abbrev h177_1 (t0 t1 t4 t11 t12:AVal):AFrame:=mat 90 [(0,t0),(1,t1),(4,t4),(11,t11),(12,t12)]
abbrev h177_2 (t0 t1 t4 t11 t12:AVal):AFrame:=mat 90 [(0,t0),(1,t1),(4,t4),(11,t11),(12,t12)]
end Go.Proofs.YtlniliigcnedmaaGreatDoor
namespace Go.Proofs.YtlniliigcnedmaaGreatDoor
open Go Ax
set_option maxRecDepth 100000
def CmpOk (m0:AMem) (g:FuncId) (fs cs:List AVal) (D:Int→Prop) (C:Int→Int→Int):Prop:=
 ∀a b,D a→D b→ ∀m',m0<+:m'→ACalls Tryz.prog g (fs++ [.int .i64 a,.int .i64 b]++cs) m' fun v m''=>v= .int .i64 (C a b)∧m'<+:m''
set_option maxHeartbeats 4000000 in
theorem k171 (t:AVal) (ty:TypeId) (lo:Nat) (m0:AMem) (hlo:m0.length≤lo) (g:FuncId) (fs cs:List AVal) (C:Int→Int→Int) (D:Int→Prop) (hC:Ord C D) (hcmp:CmpOk m0 g fs cs D C) (xs:List Int) (hD: ∀x∈xs,D x) (hn:xs.length<2^62) (m:AMem) (hm:m0<+:m) (hX:OwL (AVal.int .i64) lo m ty t xs):
  ACalls Tryz.prog 171 [t,.int .i64 0,.int .i64 xs.length,.func (.func g) fs cs] m fun _ m'=>m0<+:m'∧Ch (fun b=>t.blk=some b) m m'∧ ∃ys,OwL (AVal.int .i64) lo m' ty t ys∧ys.Perm xs∧SortedTo C ys ys.length:=by
 refine w171 ?_
 simp
 rw[wrap64 (x:=1) (by omega) (by omega)]
 obtain ⟨I,hI⟩: ∃I:Nat→AFrame→AMem→Prop,∀q a m',I q a m'↔(∃(i:Nat) (ys:List Int),i+q=xs.length+1∧1≤i∧a=h171_0 t (.int .i64 0) (.int .i64 xs.length) (.func (.func g) fs cs) (.int .i64 i)∧m0<+:m'∧Ch (fun b=>t.blk=some b) m m'∧OwL (AVal.int .i64) lo m' ty t ys∧ys.Perm xs∧SortedTo C ys i):=⟨_,fun _ _ _=>Iff.rfl⟩
 refine W_loop I xs.length ((hI _ _ _).2 ⟨1,xs,by omega,by omega,rfl,hm,.refl _ _,hX,.refl _,fun p q a b h1 h2=>by omega⟩) ?_
 clear hX hm
 rintro q a m1 hIn
 obtain ⟨i,ys,hk,hi1,rfl,hm1,hch1,hY,hperm,hsort⟩:=(hI _ _ _).1 hIn
 clear hIn
 have hyl:=hperm.length_eq
 simp
 refine bbind_dec (fun hil=>?_) fun hil=>?_
 ·have hw:=step64 hil hn
  obtain ⟨q,rfl⟩: ∃q',q=q'+1:=⟨q-1,by omega⟩
  simp
  obtain ⟨I2,hI2⟩: ∃I:Nat→AFrame→AMem→Prop,∀q a m',I q a m'↔(∃(ys:List Int),a=h171_1 t (.int .i64 0) (.int .i64 xs.length) (.func (.func g) fs cs) (.int .i64 i) (.int .i64 q)∧m0<+:m'∧Ch (fun b=>t.blk=some b) m m'∧OwL (AVal.int .i64) lo m' ty t ys∧ys.Perm xs∧InsInv C ys i q):=⟨_,fun _ _ _=>Iff.rfl⟩
  refine W_loop I2 i ((hI2 _ _ _).2 ⟨ys,rfl,hm1,hch1,hY,hperm,.start hsort⟩) ?_
  clear hm1 hch1 hY hperm hsort hyl
  rintro j a m2 hIn
  obtain ⟨ys,rfl,hm2,hch2,hY,hperm,hins⟩:=(hI2 _ _ _).1 hIn
  clear hIn
  have hyl:=hperm.length_eq
  have hDy: ∀x∈ys,D x:=fun x hx=>hD x (hperm.mem_iff.1 hx)
  have hji:=hins.le
  simp
  have done: ∀m3,m2<+:m3→(j=0∨ ∀a b,ys[j]? =some a→ys[j-1]? =some b→ ¬C a b<0)→I q (h171_0 t (.int .i64 0) (.int .i64 xs.length) (.func (.func g) fs cs) (.int .i64 (i+1:Nat))) m3:=fun m3 hm3 hs=>(hI _ _ _).2 ⟨i+1,ys,by omega,by omega,rfl,hm2.trans hm3,hch2.trans (.of_prefix hm3),hY.mono hm3,hperm,hins.stop hC hDy hs⟩
  refine W_draw (fun _ _ _=>True) (by simp[maxDst]) ?_
  refine D_pc 0 14 [14,15,16] ?_
  by_cases hj:0<j
  ·have hj':(0:Int)<j:=by omega
   obtain ⟨j,rfl⟩: ∃j',j=j'+1:=⟨j-1,by omega⟩
   simp only[Nat.add_sub_cancel] at done
   have hj1:j+1<ys.length:=by omega
   have hj0:j<ys.length:=by omega
   obtain ⟨b1,o1,hb1,hp1,hl1,_⟩:=hY.at hj1
   obtain ⟨b0,o0,hb0,hp0,hl0,_⟩:=hY.at hj0
   have hx:ys[j+1]? =some ys[j+1]:=List.getElem?_eq_getElem hj1
   have hy:ys[j]? =some ys[j]:=List.getElem?_eq_getElem hj0
   have hDx:=hDy _ (List.getElem_mem hj1)
   have hDy':=hDy _ (List.getElem_mem hj0)
   have hswapP:=List.set_set_perm hj1 hj0
   generalize hxx:ys[j+1]=x at*
   generalize hyy:ys[j]=y at*
   simp only[Int.natCast_add,Int.cast_ofNat_Int] at hp1 hj' ⊢
   have hpj:IntKind.i64.wrap (j:Int)=j:=wrap64 (by omega) (by omega)
   simp[hj',hp1,hl1,hpj,hp0,hl0]
   intro fs' hfs'
   refine D_Xg rfl rfl (b:=true) (by simp) (fun _ m5 hm5 _=>?_) (fun h=>absurd rfl h)
   simp
   have hcall:=hcmp x y hDx hDy' m5 (hm2.trans hm5)
   simp at hcall
   refine C_of hcall ?_
   rintro _ m6 ⟨rfl,hm6⟩
   refine ⟨by simp[lateOf],?_⟩
   refine D_pc 15 2 [] ?_
   simp
   intro fs'' hfs''
   refine D_end fun m7 hm7 _=>?_
   simp
   have hm27:=(hm5.trans hm6).trans hm7
   refine bbind_dec (fun hlt=>?_) fun hlt=>?_
   ·simp
    refine W_draw (fun _ _ _=>True) (by simp[maxDst]) ?_
    refine D_pc 0 15 [15,16,17] ?_
    simp[hp1,hpj,hp0,loadE_mono hm27 hl1,loadE_mono hm27 hl0]
    intro fs3 _
    refine D_W rfl rfl fun m8 hm8 _=>?_
    have hY8:=hY.mono (hm27.trans hm8)
    obtain ⟨b1',o1',hb1',hp1',_,hst1⟩:=hY8.at hj1
    obtain ⟨rfl,rfl⟩:b1'=b1∧o1'=o1:=by have:=(hp1' .i64).symm.trans (by simpa using hp1 .i64);simpa using this
    obtain ⟨m9,hst9,hch9,hY9⟩:=hst1 y
    simp[hst9]
    refine D_pc 16 1 [17] ?_
    simp[hp0]
    intro fs4 _
    refine D_W rfl rfl fun m10 hm10 _=>?_
    have hY10:=hY9.mono hm10
    obtain ⟨b0',o0',hb0',hp0',_,hst0⟩:=hY10.at (i:=j) (by simpa using hj0)
    obtain ⟨rfl,rfl⟩:b0'=b0∧o0'=o0:=by have:=(hp0' .i64).symm.trans (hp0 .i64);simpa using this
    obtain ⟨m11,hst11,hch11,hY11⟩:=hst0 x
    simp[hst11]
    refine D_end fun m12 hm12 _=>?_
    simp[hpj]
    have hcc:Ch (fun b=>t.blk=some b) m2 m12:=((((Ch.of_prefix (hm27.trans hm8)).trans (hch9.weaken fun b _ hb=>by rw[hb];exact hb1')).trans (.of_prefix hm10)).trans (hch11.weaken fun b _ hb=>by rw[hb];exact hb0')).trans (.of_prefix hm12)
    refine ⟨j,by omega,(hI2 _ _ _).2 ⟨_,rfl,hcc.pre hm2 fun b hb hbb=>?_,hch2.trans hcc,hY11.mono hm12,?_,hins.swap hx hy hlt⟩⟩
    ·have:=(hY.blk_lo hbb).1;omega
    ·exact (by simpa using hswapP:((ys.set (j+1) y).set j x).Perm ys).trans hperm
   ·simp[hw]
    have hd:=done m7 hm27 (.inr fun a b ha hb=>by rw[hx] at ha;cases ha;rw[hy] at hb;cases hb;exact hlt)
    exact ⟨q,by omega,by simpa using hd⟩
  ·obtain rfl:j=0:=by omega
   simp
   intro fs' hfs'
   refine D_Xg rfl rfl (b:=false) (by simp) (fun h=>by cases h) (fun _ m5 hm5 _=>⟨by simp[lateOf],?_⟩)
   refine D_pc 15 2 [] ?_
   simp
   intro fs'' hfs''
   refine D_end fun m7 hm7 _=>?_
   simp[hw]
   exact ⟨q,by omega,by simpa using done m7 (hm5.trans hm7) (.inl rfl)⟩
 ·simp
  refine ⟨hm1,hch1,ys,hY,hperm,?_⟩
  by_cases h1:i=ys.length
  ·rw[←h1];exact hsort
  ·intro p q' a b h1' h2 h3 h4
   exact hsort p q' a b h1' (by omega) h3 h4
end Go.Proofs.YtlniliigcnedmaaGreatDoor
namespace Go.Proofs.YtlniliigcnedmaaGreatDoor
open Go Ax
set_option maxRecDepth 100000
theorem ixs_some (s:ByteArray) (n:Nat) (hn:n<s.size): ∃z:Int,ixsE (.str s) (.int .u8 n)=some (.int .u8 z):=⟨_,by simp[ixsE,hn];rfl⟩
theorem obind_ix {k:AVal→Prop} {t:Tag k} {s:ByteArray} {n:Nat} (hn:n<s.size) (h: ∀z,k (.int .u8 z)):obind k t (ixsE (.str s) (.int .u8 n)):=by
 obtain ⟨z,hz⟩:=ixs_some s n hn
 rw[hz,obind_some]
 exact h z
theorem k155 (n:Nat) (hn:n<256) (m:AMem):ACalls Tryz.prog 155 [.int .u64 n] m fun v m'=>(∃z,v= .int .i64 z)∧m'=m:=by
 refine w155 ?_
 have h1: ¬(4294967296:Int)≤n:=by omega
 have h2: ¬(65536:Int)≤n:=by omega
 have h3: ¬(256:Int)≤n:=by omega
 have hw:IntKind.u8.wrap (n:Int)=n:=by
  simp only[IntKind.wrap,IntKind.bits,IntKind.signed,Bool.false_and]
  simp
  omega
 simp[h1,h2,h3,hw]
 refine obind_ix ?_ fun z=>?_
 ·exact Nat.lt_of_lt_of_eq hn rfl
 simp
theorem k115 (n:Nat) (hn:n<256) (m:AMem):ACalls Tryz.prog 115 [.int .u64 n] m fun v m'=>(∃z,v= .int .i64 z)∧m'=m:=by
 refine w115 ?_
 simp
 refine C_of (k155 n hn m) ?_
 rintro _ _ ⟨⟨z,rfl⟩,rfl⟩
 simp
theorem k137 (t:AVal) (ty:TypeId) (lo:Nat) (m0:AMem) (hlo:m0.length≤lo) (g:FuncId) (fs cs:List AVal) (C:Int→Int→Int) (D:Int→Prop) (hC:Ord C D) (hcmp:CmpOk m0 g fs cs D C) (xs:List Int) (hD: ∀x∈xs,D x) (hn:xs.length≤12) (z:AVal) (m:AMem) (hm:m0<+:m) (hX:OwL (AVal.int .i64) lo m ty t xs):
  ACalls Tryz.prog 137 [t,.int .i64 0,.int .i64 xs.length,z,.func (.func g) fs cs] m fun _ m'=>m0<+:m'∧Ch (fun b=>t.blk=some b) m m'∧ ∃ys,OwL (AVal.int .i64) lo m' ty t ys∧ys.Perm xs∧SortedTo C ys ys.length:=by
 refine w137 ?_
 simp
 refine W_loop (fun _ a m'=>m'=m∧ ∃x y,a=h137_0 t (.int .i64 0) (.int .i64 xs.length) z (.func (.func g) fs cs) x y) 0 ⟨rfl,_,_,rfl⟩ ?_
 rintro n a m ⟨rfl,x,y,rfl⟩
 have hw:IntKind.i64.wrap (xs.length:Int)=xs.length:=wrap64 (by omega) (by omega)
 have hle:(xs.length:Int)≤12:=by omega
 simp[hw,hle]
 refine C_of (k171 t ty lo m0 hlo g fs cs C D hC hcmp xs hD (by omega) m hm hX) ?_
 rintro v m' h
 simp
 exact h
theorem k103s (t:AVal) (ty:TypeId) (lo:Nat) (m0:AMem) (hlo:m0.length≤lo) (g:FuncId) (fs cs:List AVal) (C:Int→Int→Int) (D:Int→Prop) (hC:Ord C D) (hcmp:CmpOk m0 g fs cs D C) (xs:List Int) (hD: ∀x∈xs,D x) (hn:xs.length≤12) (m:AMem) (hm:m0<+:m) (hX:OwL (AVal.int .i64) lo m ty t xs):
  ACalls Tryz.prog 103 [t,.func (.func g) fs cs] m fun _ m'=>m0<+:m'∧Ch (fun b=>t.blk=some b) m m'∧ ∃ys,OwL (AVal.int .i64) lo m' ty t ys∧ys.Perm xs∧SortedTo C ys ys.length:=by
 refine w103 ?_
 have hw:IntKind.u64.wrap (xs.length:Int)=xs.length:=by
  simp only[IntKind.wrap,IntKind.bits,IntKind.signed,Bool.false_and]
  simp
  omega
 simp[hX.len,hw]
 refine C_of (k115 xs.length (by omega) m) ?_
 rintro _ _ ⟨⟨z,rfl⟩,rfl⟩
 simp
 refine C_of (k137 t ty lo m0 hlo g fs cs C D hC hcmp xs hD hn _ _ hm hX) ?_
 rintro v m' h
 simp
 exact h
end Go.Proofs.YtlniliigcnedmaaGreatDoor
namespace Go.Proofs.YtlniliigcnedmaaGreatDoor
open Go Ax
theorem store_fld {m:AMem} {b i:Nat} {cs:List AVal} {v:AVal} {ty:TypeId} {g:Option Nat} (h:m[b]? =some (.own cs ty g)) (hi:i<cs.length) (h1:v.cells= [v]) (h3:v.one=true):storeE m 1 (.ptr b i) v=some (.undef,m.set b (.own (cs.set i v) ty g)):=by
 simp only[storeE,if_true,writeB,h,h1]
 simp[h3,setN]
 omega
theorem fld_store {m:AMem} {b i:Nat} {cs:List AVal} {v:AVal} {ty:TypeId} {g:Option Nat} (h:m[b]? =some (.own cs ty g)) (hi:i<cs.length) (h1:v.cells= [v]) (h3:v.one=true): ∃m',storeE m 1 (.ptr b i) v=some (.undef,m')∧m'[b]? =some (.own (cs.set i v) ty g)∧Ch (fun c=>c=b) m m':=
 ⟨_,store_fld h hi h1 h3,List.getElem?_set_self (List.getElem?_eq_some_iff.1 h).1,Ch.setS _ rfl⟩
theorem fld_len {m m':AMem} {n b i:Nat} {v x:AVal} (h:storeE m n (.ptr b i) v=some (x,m')):m'.length=m.length:=by
 simp only[storeE] at h
 split at h
 ·unfold writeB at h
  split at h
  ·split at h
   ·cases h;simp
   ·cases h
  ·cases h
 ·cases h
theorem all_set {cs:List AVal} {i:Nat} {v:AVal} (h:cs.all AVal.one=true) (hv:v.one=true):(cs.set i v).all AVal.one=true:=by
 rw[List.all_eq_true] at h ⊢
 intro y hy
 rcases List.mem_or_eq_of_mem_set hy with hy|rfl
 ·exact h y hy
 ·exact hv
theorem own_ch {S:Nat→Prop} {m m':AMem} {b:Nat} {blk:ABlk} (h:m[b]? =some blk) (hc:Ch S m m') (hb: ¬S b):m'[b]? =some blk:=hc.keep b _ h hb
theorem own_mono {m m':AMem} {b:Nat} {blk:ABlk} (h:m[b]? =some blk) (hc:m<+:m'):m'[b]? =some blk:=(Ch.of_prefix (S:=fun _=>False) hc).keep b _ h id
theorem own_read {m:AMem} {b:Nat} {cs:List AVal} {ty:TypeId} {g:Option Nat} (h:m[b]? =some (.own cs ty g)):readB m b=some cs:=by simp[readB,h,ABlk.cells]
end Go.Proofs.YtlniliigcnedmaaGreatDoor
namespace Go.Proofs.YtlniliigcnedmaaGreatDoor
open Go Ax
structure Shuf (xs ys:List Int) (a b:Nat):Prop where
 len:ys.length=xs.length
 perm:ys.Perm xs
 out: ∀i,i<a∨b≤i→ys[i]? =xs[i]?
 inn: ∀(j:Nat) y,a≤j→j<b→ys[j]? =some y→ ∃k,a≤k∧k<b∧xs[k]? =some y
theorem Shuf.refl (xs:List Int) (a b:Nat):Shuf xs xs a b:=⟨rfl,.refl _,fun _ _=>rfl,fun j _ h1 h2 h3=>⟨j,h1,h2,h3⟩⟩
theorem Shuf.trans {xs ys zs:List Int} {a b:Nat} (h:Shuf xs ys a b) (k:Shuf ys zs a b):Shuf xs zs a b:=
 ⟨k.len.trans h.len,k.perm.trans h.perm,fun i hi=>(k.out i hi).trans (h.out i hi),fun j y h1 h2 h3=>by
  obtain ⟨p,p1,p2,p3⟩:=k.inn j y h1 h2 h3
  exact h.inn p y p1 p2 p3⟩
theorem Shuf.wide {xs ys:List Int} {a b a' b':Nat} (h:Shuf xs ys a b) (ha:a'≤a) (hb:b≤b'):Shuf xs ys a' b':=
 ⟨h.len,h.perm,fun i hi=>h.out i (by omega),fun j y h1 h2 h3=>by
  by_cases hj:a≤j∧j<b
  ·obtain ⟨p,p1,p2,p3⟩:=h.inn j y hj.1 hj.2 h3
   exact ⟨p,by omega,by omega,p3⟩
  ·exact ⟨j,h1,h2,by rw[←h.out j (by omega)];exact h3⟩⟩
theorem swap_get {ys:List Int} {i j:Nat} {x y:Int} (hi:i<ys.length) (hj:j<ys.length) (k:Nat):((ys.set i y).set j x)[k]? =if k=j then some x else if k=i then some y else ys[k]? :=by
 rw[List.getElem?_set]
 by_cases h1:j=k
 ·subst h1;rw[if_pos rfl,if_pos (by simp;omega),if_pos rfl]
 ·rw[if_neg h1,if_neg (fun h=>h1 h.symm),List.getElem?_set]
  by_cases h2:i=k
  ·subst h2;rw[if_pos rfl,if_pos hi,if_pos rfl]
  ·rw[if_neg h2,if_neg (fun h=>h2 h.symm)]
theorem Shuf.swap {ys:List Int} {a b i j:Nat} {x y:Int} (hi:ys[i]? =some x) (hj:ys[j]? =some y) (h1:a≤i) (h2:i<b) (h3:a≤j) (h4:j<b):Shuf ys ((ys.set i y).set j x) a b:=by
 have li:=(List.getElem?_eq_some_iff.1 hi).1
 have lj:=(List.getElem?_eq_some_iff.1 hj).1
 have ei:ys[i]=x:=by rw[List.getElem?_eq_getElem li] at hi;exact Option.some.inj hi
 have ej:ys[j]=y:=by rw[List.getElem?_eq_getElem lj] at hj;exact Option.some.inj hj
 refine ⟨by simp,?_,fun k hk=>?_,fun k z k1 k2 k3=>?_⟩
 ·have:=List.set_set_perm li lj
  rw[ei,ej] at this
  exact this
 ·rw[swap_get li lj,if_neg (by omega),if_neg (by omega)]
 ·rw[swap_get li lj] at k3
  split at k3
  ·cases k3;exact ⟨i,h1,h2,hi⟩
  ·split at k3
   ·cases k3;exact ⟨j,h3,h4,hj⟩
   ·exact ⟨k,k1,k2,k3⟩
def SortedR (C:Int→Int→Int) (ys:List Int) (a b:Nat):Prop:= ∀(p q:Nat) x y,a≤p→p<q→q<b→ys[p]? =some x→ys[q]? =some y→C x y≤0
theorem sortedR_drop {C:Int→Int→Int} {ys:List Int} {a n:Nat} (h:SortedTo C (ys.drop a) n):SortedR C ys a (a+n):=by
 intro p q x y h1 h2 h3 h4 h5
 refine h (p-a) (q-a) x y (by omega) (by omega) ?_ ?_
 ·rw[List.getElem?_drop,show a+(p-a)=p by omega];exact h4
 ·rw[List.getElem?_drop,show a+(q-a)=q by omega];exact h5
theorem drop_swap {ys:List Int} {a j:Nat} {x y:Int} (h:a+j+1<ys.length):((ys.set (a+j+1) y).set (a+j) x).drop a=((ys.drop a).set (j+1) y).set j x:=by
 apply List.ext_getElem?
 intro k
 rw[List.getElem?_drop,swap_get h (by omega),swap_get (by simp;omega) (by simp;omega),List.getElem?_drop]
 by_cases h1:k=j
 ·subst h1;rw[if_pos rfl,if_pos rfl]
 ·rw[if_neg (by omega),if_neg h1]
  by_cases h2:k=j+1
  ·subst h2;rw[if_pos (by omega),if_pos rfl]
  ·rw[if_neg (by omega),if_neg h2]
structure Part (C:Int→Int→Int) (xs:List Int) (a b:Nat) (P:Int) (ys:List Int) (i j:Nat):Prop where
 sh:Shuf xs ys a b
 pa:ys[a]? =some P
 lo: ∀(k:Nat) y,a<k→k<i→ys[k]? =some y→C y P<0
 hi: ∀(k:Nat) y,j<k→k<b→ys[k]? =some y→ ¬C y P<0
 ia:a<i
 ij:i≤j+1
 jb:j<b
theorem Part.up {C:Int→Int→Int} {xs:List Int} {a b:Nat} {P:Int} {ys:List Int} {i j:Nat} (h:Part C xs a b P ys i j) (hij:i≤j) {y:Int} (hy:ys[i]? =some y) (hc:C y P<0):Part C xs a b P ys (i+1) j:=
 {h with
  lo:=fun k z h1 h2 h3=>by
   by_cases hk:k=i
   ·subst hk;rw[hy] at h3;cases h3;exact hc
   ·exact h.lo k z h1 (by omega) h3
  ia:=by have:=h.ia;omega
  ij:=by omega}
theorem Part.down {C:Int→Int→Int} {xs:List Int} {a b:Nat} {P:Int} {ys:List Int} {i j:Nat} (h:Part C xs a b P ys i j) (hij:i≤j) {y:Int} (hy:ys[j]? =some y) (hc: ¬C y P<0):Part C xs a b P ys i (j-1):=
 {h with
  hi:=fun k z h1 h2 h3=>by
   by_cases hk:k=j
   ·subst hk;rw[hy] at h3;cases h3;exact hc
   ·exact h.hi k z (by omega) h2 h3
  ij:=by have:=h.ia;omega
  jb:=by have:=h.jb;omega}
theorem Part.swap {C:Int→Int→Int} {xs:List Int} {a b:Nat} {P:Int} {ys:List Int} {i j:Nat} (h:Part C xs a b P ys i j) (hij:i≤j) {x y:Int} (hx:ys[i]? =some x) (hy:ys[j]? =some y) (hcx: ¬C x P<0) (hcy:C y P<0):Part C xs a b P ((ys.set i y).set j x) (i+1) (j-1)∧i<j:=by
 have hne:i≠j:=fun e=>by subst e;rw[hx] at hy;cases hy;exact hcx hcy
 have ha:=h.ia
 have hb:=h.jb
 have li:=(List.getElem?_eq_some_iff.1 hx).1
 have lj:=(List.getElem?_eq_some_iff.1 hy).1
 refine ⟨⟨h.sh.trans (Shuf.swap hx hy (by omega) (by omega) (by omega) hb),?_,fun k z h1 h2 h3=>?_,fun k z h1 h2 h3=>?_,by omega,by omega,by omega⟩,by omega⟩
 ·rw[swap_get li lj,if_neg (by omega),if_neg (by omega)];exact h.pa
 ·rw[swap_get li lj,if_neg (by omega)] at h3
  split at h3
  ·cases h3;exact hcy
  ·exact h.lo k z h1 (by omega) h3
 ·rw[swap_get li lj] at h3
  split at h3
  ·cases h3;exact hcx
  ·rw[if_neg (by omega)] at h3
   exact h.hi k z (by omega) h2 h3
structure Parted (C:Int→Int→Int) (xs ys:List Int) (a b mid:Nat):Prop where
 sh:Shuf xs ys a b
 am:a≤mid
 mb:mid<b
 ex: ∃P,ys[mid]? =some P∧(∀(k:Nat) y,a≤k→k<mid→ys[k]? =some y→C y P<0)∧ ∀(k:Nat) y,mid<k→k<b→ys[k]? =some y→ ¬C y P<0
theorem Part.done {C:Int→Int→Int} {xs:List Int} {a b:Nat} {P:Int} {ys:List Int} {j:Nat} (h:Part C xs a b P ys (j+1) j) {y:Int} (hy:ys[j]? =some y):Parted C xs ((ys.set j P).set a y) a b j:=by
 have ha:=h.ia
 have hb:=h.jb
 have la:=(List.getElem?_eq_some_iff.1 h.pa).1
 have lj:=(List.getElem?_eq_some_iff.1 hy).1
 refine ⟨h.sh.trans (Shuf.swap hy h.pa (by omega) hb (by omega) (by omega)),by omega,hb,P,?_,fun k z h1 h2 h3=>?_,fun k z h1 h2 h3=>?_⟩
 ·rw[swap_get lj la]
  by_cases hj:j=a
  ·subst hj;rw[if_pos rfl];rw[h.pa] at hy;exact hy.symm
  ·rw[if_neg hj,if_pos rfl]
 ·rw[swap_get lj la] at h3
  split at h3
  ·cases h3;exact h.lo j _ (by omega) (by omega) hy
  ·rw[if_neg (by omega)] at h3
   exact h.lo k z (by omega) (by omega) h3
 ·rw[swap_get lj la,if_neg (by omega),if_neg (by omega)] at h3
  exact h.hi k z h1 h2 h3
theorem Parted.sorted {C:Int→Int→Int} {D:Int→Prop} (hC:Ord C D) {xs ys zs ws:List Int} {a b mid:Nat} (hD: ∀x∈xs,D x) (h:Parted C xs ys a b mid) (h1:Shuf ys zs a mid) (s1:SortedR C zs a mid) (h2:Shuf zs ws (mid+1) b) (s2:SortedR C ws (mid+1) b):Shuf xs ws a b∧SortedR C ws a b:=by
 have hm:=h.am
 have hb:=h.mb
 have hsh:=(h.sh.trans (h1.wide (Nat.le_refl _) (by omega))).trans (h2.wide (by omega) (Nat.le_refl _))
 have hDw: ∀x∈ws,D x:=fun x hx=>hD x (hsh.perm.mem_iff.1 hx)
 obtain ⟨P,hP,hlo,hhi⟩:=h.ex
 have hPw:ws[mid]? =some P:=by rw[h2.out mid (.inl (by omega)),h1.out mid (.inr (Nat.le_refl _))];exact hP
 have hPD:=hDw P (List.mem_of_getElem? hPw)
 have lw: ∀(k:Nat) y,a≤k→k<mid→ws[k]? =some y→C y P<0:=fun k y k1 k2 k3=>by
  rw[h2.out k (.inl (by omega))] at k3
  obtain ⟨p,p1,p2,p3⟩:=h1.inn k y k1 k2 k3
  exact hlo p y p1 p2 p3
 have hw: ∀(k:Nat) y,mid<k→k<b→ws[k]? =some y→ ¬C y P<0:=fun k y k1 k2 k3=>by
  obtain ⟨p,p1,p2,p3⟩:=h2.inn k y (by omega) k2 k3
  rw[h1.out p (.inr (by omega))] at p3
  exact hhi p y (by omega) p2 p3
 refine ⟨hsh,fun p q x y e1 e2 e3 e4 e5=>?_⟩
 have dx:=hDw x (List.mem_of_getElem? e4)
 have dy:=hDw y (List.mem_of_getElem? e5)
 by_cases hq:q<mid
 ·refine s1 p q x y e1 e2 hq ?_ ?_
  ·rw[←h2.out p (.inl (by omega))];exact e4
  ·rw[←h2.out q (.inl (by omega))];exact e5
 ·by_cases hp:mid<p
  ·exact s2 p q x y (by omega) e2 e3 e4 e5
  ·have hxP:C x P≤0:=by
    by_cases hpm:p=mid
    ·subst hpm;rw[hPw] at e4;cases e4
     have:=hC.anti P P hPD hPD;omega
    ·have:=lw p x e1 (by omega) e4;omega
   have hPy:C P y≤0:=by
    by_cases hqm:q=mid
    ·subst hqm;rw[hPw] at e5;cases e5
     have:=hC.anti P P hPD hPD;omega
    ·exact hC.le_of_not dy hPD (hw q y (by omega) e3 e5)
   exact hC.trans x P y dx hPD dy hxP hPy
theorem Parted.sorted2 {C:Int→Int→Int} {D:Int→Prop} (hC:Ord C D) {xs ys zs ws:List Int} {a b mid:Nat} (hD: ∀x∈xs,D x) (h:Parted C xs ys a b mid) (h2:Shuf ys zs (mid+1) b) (s2:SortedR C zs (mid+1) b) (h1:Shuf zs ws a mid) (s1:SortedR C ws a mid):Shuf xs ws a b∧SortedR C ws a b:=by
 have hm:=h.am
 have hb:=h.mb
 have hsh:=(h.sh.trans (h2.wide (by omega) (Nat.le_refl _))).trans (h1.wide (Nat.le_refl _) (by omega))
 have hDw: ∀x∈ws,D x:=fun x hx=>hD x (hsh.perm.mem_iff.1 hx)
 obtain ⟨P,hP,hlo,hhi⟩:=h.ex
 have hPw:ws[mid]? =some P:=by rw[h1.out mid (.inr (Nat.le_refl _)),h2.out mid (.inl (by omega))];exact hP
 have hPD:=hDw P (List.mem_of_getElem? hPw)
 have lw: ∀(k:Nat) y,a≤k→k<mid→ws[k]? =some y→C y P<0:=fun k y k1 k2 k3=>by
  obtain ⟨p,p1,p2,p3⟩:=h1.inn k y k1 k2 k3
  rw[h2.out p (.inl (by omega))] at p3
  exact hlo p y p1 p2 p3
 have hw: ∀(k:Nat) y,mid<k→k<b→ws[k]? =some y→ ¬C y P<0:=fun k y k1 k2 k3=>by
  rw[h1.out k (.inr (by omega))] at k3
  obtain ⟨p,p1,p2,p3⟩:=h2.inn k y (by omega) k2 k3
  exact hhi p y (by omega) p2 p3
 refine ⟨hsh,fun p q x y e1 e2 e3 e4 e5=>?_⟩
 have dx:=hDw x (List.mem_of_getElem? e4)
 have dy:=hDw y (List.mem_of_getElem? e5)
 by_cases hq:q<mid
 ·exact s1 p q x y e1 e2 hq e4 e5
 ·by_cases hp:mid<p
  ·refine s2 p q x y (by omega) e2 e3 ?_ ?_
   ·rw[←h1.out p (.inr (by omega))];exact e4
   ·rw[←h1.out q (.inr (by omega))];exact e5
  ·have hxP:C x P≤0:=by
    by_cases hpm:p=mid
    ·subst hpm;rw[hPw] at e4;cases e4
     have:=hC.anti P P hPD hPD;omega
    ·have:=lw p x e1 (by omega) e4;omega
   have hPy:C P y≤0:=by
    by_cases hqm:q=mid
    ·subst hqm;rw[hPw] at e5;cases e5
     have:=hC.anti P P hPD hPD;omega
    ·exact hC.le_of_not dy hPD (hw q y (by omega) e3 e5)
   exact hC.trans x P y dx hPD dy hxP hPy
end Go.Proofs.YtlniliigcnedmaaGreatDoor
namespace Go.Proofs.YtlniliigcnedmaaGreatDoor
open Go Ax
set_option maxRecDepth 100000
set_option maxHeartbeats 4000000 in
theorem k171r (t:AVal) (ty:TypeId) (lo:Nat) (m0:AMem) (hlo:m0.length≤lo) (g:FuncId) (fs cs:List AVal) (C:Int→Int→Int) (D:Int→Prop) (hC:Ord C D) (hcmp:CmpOk m0 g fs cs D C) (xs:List Int) (hD: ∀x∈xs,D x) (s n:Nat) (hsn:s+n≤xs.length) (hn:xs.length<2^61) (m:AMem) (hm:m0<+:m) (hX:OwL (AVal.int .i64) lo m ty t xs):
  ACalls Tryz.prog 171 [t,.int .i64 s,.int .i64 (s+n:Nat),.func (.func g) fs cs] m fun _ m'=>m0<+:m'∧Ch (fun b=>t.blk=some b) m m'∧ ∃ys,OwL (AVal.int .i64) lo m' ty t ys∧Shuf xs ys s (s+n)∧SortedR C ys s (s+n):=by
 refine w171 ?_
 generalize hbe:((s+n:Nat):Int)=be
 have hw1:IntKind.i64.wrap ((s:Int)+1)=((s+1:Nat):Int):=by rw[wrap64 (by omega) (by omega)];omega
 simp[hw1]
 obtain ⟨I,hI⟩: ∃I:Nat→AFrame→AMem→Prop,∀q a m',I q a m'↔(∃(i:Nat) (ys:List Int),i+q=n+1∧1≤i∧a=h171_0 t (.int .i64 s) (.int .i64 be) (.func (.func g) fs cs) (.int .i64 (s+i:Nat))∧m0<+:m'∧Ch (fun b=>t.blk=some b) m m'∧OwL (AVal.int .i64) lo m' ty t ys∧Shuf xs ys s (s+n)∧SortedTo C (ys.drop s) i):=⟨_,fun _ _ _=>Iff.rfl⟩
 refine W_loop I n ((hI _ _ _).2 ⟨1,xs,by omega,by omega,by simp,hm,.refl _ _,hX,.refl _ _ _,fun p q a b h1 h2=>by omega⟩) ?_
 clear hX hm
 rintro q a m1 hIn
 obtain ⟨i,ys,hk,hi1,rfl,hm1,hch1,hY,hsh,hsort⟩:=(hI _ _ _).1 hIn
 clear hIn
 have hyl:=hsh.len
 simp only[←hbe]
 simp
 refine bbind_dec (fun hil=>?_) fun hil=>?_
 ·have hil:i<n:=by omega
  have hw:IntKind.i64.wrap ((s:Int)+(i:Int)+1)=(s:Int)+((i:Int)+1):=by rw[wrap64 (by omega) (by omega)];omega
  obtain ⟨q,rfl⟩: ∃q',q=q'+1:=⟨q-1,by omega⟩
  simp
  obtain ⟨I2,hI2⟩: ∃I:Nat→AFrame→AMem→Prop,∀q a m',I q a m'↔(∃(ys:List Int),a=h171_1 t (.int .i64 s) (.int .i64 (s+n:Nat)) (.func (.func g) fs cs) (.int .i64 (s+i:Nat)) (.int .i64 (s+q:Nat))∧m0<+:m'∧Ch (fun b=>t.blk=some b) m m'∧OwL (AVal.int .i64) lo m' ty t ys∧Shuf xs ys s (s+n)∧InsInv C (ys.drop s) i q):=⟨_,fun _ _ _=>Iff.rfl⟩
  refine W_loop I2 i ((hI2 _ _ _).2 ⟨ys,by simp,hm1,hch1,hY,hsh,.start hsort⟩) ?_
  clear hm1 hch1 hY hsh hsort hyl
  rintro j a m2 hIn
  obtain ⟨ys,rfl,hm2,hch2,hY,hsh,hins⟩:=(hI2 _ _ _).1 hIn
  clear hIn
  have hyl:=hsh.len
  have hDy: ∀x∈ys,D x:=fun x hx=>hD x (hsh.perm.mem_iff.1 hx)
  have hDd: ∀x∈ys.drop s,D x:=fun x hx=>hDy x (List.mem_of_mem_drop hx)
  have hji:=hins.le
  simp
  have done: ∀m3,m2<+:m3→(j=0∨ ∀a b,(ys.drop s)[j]? =some a→(ys.drop s)[j-1]? =some b→ ¬C a b<0)→I q (h171_0 t (.int .i64 s) (.int .i64 be) (.func (.func g) fs cs) (.int .i64 (s+(i+1):Nat))) m3:=fun m3 hm3 hs=>(hI _ _ _).2 ⟨i+1,ys,by omega,by omega,rfl,hm2.trans hm3,hch2.trans (.of_prefix hm3),hY.mono hm3,hsh,hins.stop hC hDd hs⟩
  refine W_draw (fun _ _ _=>True) (by simp[maxDst]) ?_
  refine D_pc 0 14 [14,15,16] ?_
  by_cases hj:0<j
  ·obtain ⟨j,rfl⟩: ∃j',j=j'+1:=⟨j-1,by omega⟩
   simp only[Nat.add_sub_cancel] at done
   have hj1:s+j+1<ys.length:=by omega
   have hj0:s+j<ys.length:=by omega
   obtain ⟨b1,o1,hb1,hp1,hl1,_⟩:=hY.at hj1
   obtain ⟨b0,o0,hb0,hp0,hl0,_⟩:=hY.at hj0
   have hx:(ys.drop s)[j+1]? =some ys[s+j+1]:=by rw[List.getElem?_drop];exact List.getElem?_eq_getElem hj1
   have hy:(ys.drop s)[j]? =some ys[s+j]:=by rw[List.getElem?_drop];exact List.getElem?_eq_getElem hj0
   have hDx:=hDy _ (List.getElem_mem hj1)
   have hDy':=hDy _ (List.getElem_mem hj0)
   have hsw:=Shuf.swap (ys:=ys) (a:=s) (b:=s+n) (i:=s+j+1) (j:=s+j) (List.getElem?_eq_getElem hj1) (List.getElem?_eq_getElem hj0) (by omega) (by omega) (by omega) (by omega)
   generalize hxx:ys[s+j+1]=x at*
   generalize hyy:ys[s+j]=y at*
   have hp1': ∀k,iaddrE 1 t (.int k ((s:Int)+((j:Int)+1)))=some (.ptr b1 o1):=fun k=>by rw[←hp1 k];congr 2<;>omega
   have hp0': ∀k,iaddrE 1 t (.int k ((s:Int)+j))=some (.ptr b0 o0):=fun k=>by rw[←hp0 k];congr 2<;>omega
   have hj':(0:Int)<(j:Int)+1:=by omega
   have hpj:IntKind.i64.wrap ((s:Int)+((j:Int)+1)-1)=(s:Int)+j:=by rw[wrap64 (by omega) (by omega)];omega
   simp only[Int.natCast_add,Int.cast_ofNat_Int]
   have hgt:(s:Int)<(s:Int)+((j:Int)+1):=by omega
   simp[hj',hgt,hp1',hl1,hpj,hp0',hl0]
   intro fs' hfs'
   refine D_Xg rfl rfl (b:=true) (by simp) (fun _ m5 hm5 _=>?_) (fun h=>absurd rfl h)
   simp
   have hcall:=hcmp x y hDx hDy' m5 (hm2.trans hm5)
   simp at hcall
   refine C_of hcall ?_
   rintro _ m6 ⟨rfl,hm6⟩
   refine ⟨by simp[lateOf],?_⟩
   refine D_pc 15 2 [] ?_
   simp
   intro fs'' hfs''
   refine D_end fun m7 hm7 _=>?_
   simp
   have hm27:=(hm5.trans hm6).trans hm7
   refine bbind_dec (fun hlt=>?_) fun hlt=>?_
   ·simp
    refine W_draw (fun _ _ _=>True) (by simp[maxDst]) ?_
    refine D_pc 0 15 [15,16,17] ?_
    simp[hp1',hpj,hp0',loadE_mono hm27 hl1,loadE_mono hm27 hl0]
    intro fs3 _
    refine D_W rfl rfl fun m8 hm8 _=>?_
    have hY8:=hY.mono (hm27.trans hm8)
    obtain ⟨b1',o1',hb1',hp1'',_,hst1⟩:=hY8.at hj1
    obtain ⟨rfl,rfl⟩:b1'=b1∧o1'=o1:=by have:=(hp1'' .i64).symm.trans (hp1 .i64);simpa using this
    obtain ⟨m9,hst9,hch9,hY9⟩:=hst1 y
    simp[hst9]
    refine D_pc 16 1 [17] ?_
    simp[hp0']
    intro fs4 _
    refine D_W rfl rfl fun m10 hm10 _=>?_
    have hY10:=hY9.mono hm10
    obtain ⟨b0',o0',hb0',hp0'',_,hst0⟩:=hY10.at (i:=s+j) (by simpa using hj0)
    obtain ⟨rfl,rfl⟩:b0'=b0∧o0'=o0:=by have:=(hp0'' .i64).symm.trans (hp0 .i64);simpa using this
    obtain ⟨m11,hst11,hch11,hY11⟩:=hst0 x
    simp[hst11]
    refine D_end fun m12 hm12 _=>?_
    simp[hpj]
    have hcc:Ch (fun b=>t.blk=some b) m2 m12:=((((Ch.of_prefix (hm27.trans hm8)).trans (hch9.weaken fun b _ hb=>by rw[hb];exact hb1')).trans (.of_prefix hm10)).trans (hch11.weaken fun b _ hb=>by rw[hb];exact hb0')).trans (.of_prefix hm12)
    refine ⟨j,by omega,(hI2 _ _ _).2 ⟨_,by simp,hcc.pre hm2 fun b hb hbb=>?_,hch2.trans hcc,hY11.mono hm12,hsh.trans hsw,?_⟩⟩
    ·have:=(hY.blk_lo hbb).1;omega
    ·rw[drop_swap hj1]
     exact hins.swap hx hy hlt
   ·simp[hw]
    have hd:=done m7 hm27 (.inr fun a b ha hb=>by rw[hx] at ha;cases ha;rw[hy] at hb;cases hb;exact hlt)
    exact ⟨q,by omega,by simpa[←hbe] using hd⟩
  ·obtain rfl:j=0:=by omega
   simp
   intro fs' hfs'
   refine D_Xg rfl rfl (b:=false) (by simp) (fun h=>by cases h) (fun _ m5 hm5 _=>⟨by simp[lateOf],?_⟩)
   refine D_pc 15 2 [] ?_
   simp
   intro fs'' hfs''
   refine D_end fun m7 hm7 _=>?_
   simp[hw]
   exact ⟨q,by omega,by simpa[←hbe] using done m7 (hm5.trans hm7) (.inl rfl)⟩
 ·simp
  refine ⟨hm1,hch1,ys,hY,hsh,sortedR_drop ?_⟩
  intro p q' a b h1' h2 h3 h4
  exact hsort p q' a b h1' (by omega) h3 h4
end Go.Proofs.YtlniliigcnedmaaGreatDoor
namespace Go.Proofs.YtlniliigcnedmaaGreatDoor
open Go Ax
set_option maxRecDepth 100000
theorem swapMem {lo:Nat} {m:AMem} {ty:TypeId} {t:AVal} {ys:List Int} (hY:OwL (AVal.int .i64) lo m ty t ys) {i j:Nat} (hi:i<ys.length) (hj:j<ys.length):
  ∃x y bi oi bj oj,ys[i]? =some x∧ys[j]? =some y∧(∀k,iaddrE 1 t (.int k i)=some (.ptr bi oi))∧(∀k,iaddrE 1 t (.int k j)=some (.ptr bj oj))∧loadE m 1 false (.ptr bi oi)=some (.int .i64 x)∧loadE m 1 false (.ptr bj oj)=some (.int .i64 y)∧
   ∀m8,m<+:m8→ ∃m9,storeE m8 1 (.ptr bi oi) (.int .i64 y)=some (.undef,m9)∧ ∀m10,m9<+:m10→ ∃m11,storeE m10 1 (.ptr bj oj) (.int .i64 x)=some (.undef,m11)∧ ∀m12,m11<+:m12→
    Ch (fun b=>t.blk=some b) m m12∧OwL (AVal.int .i64) lo m12 ty t ((ys.set i y).set j x):=by
 obtain ⟨bi,oi,hbi,hpi,hli,_⟩:=hY.at hi
 obtain ⟨bj,oj,hbj,hpj,hlj,_⟩:=hY.at hj
 refine ⟨ys[i],ys[j],bi,oi,bj,oj,List.getElem?_eq_getElem hi,List.getElem?_eq_getElem hj,hpi,hpj,hli,hlj,fun m8 hm8=>?_⟩
 obtain ⟨b1,o1,hb1,hp1,_,hst⟩:=(hY.mono hm8).at hi
 obtain ⟨rfl,rfl⟩:b1=bi∧o1=oi:=by have:=(hp1 .i64).symm.trans (hpi .i64);simpa using this
 obtain ⟨m9,hst9,hch9,hY9⟩:=hst ys[j]
 refine ⟨m9,hst9,fun m10 hm10=>?_⟩
 obtain ⟨b0,o0,hb0,hp0,_,hst'⟩:=(hY9.mono hm10).at (i:=j) (by simpa using hj)
 obtain ⟨rfl,rfl⟩:b0=bj∧o0=oj:=by have:=(hp0 .i64).symm.trans (hpj .i64);simpa using this
 obtain ⟨m11,hst11,hch11,hY11⟩:=hst' ys[i]
 refine ⟨m11,hst11,fun m12 hm12=>⟨?_,hY11.mono hm12⟩⟩
 exact ((((Ch.of_prefix hm8).trans (hch9.weaken fun b _ hb=>by rw[hb];exact hb1)).trans (.of_prefix hm10)).trans (hch11.weaken fun b _ hb=>by rw[hb];exact hb0)).trans (.of_prefix hm12)
end Go.Proofs.YtlniliigcnedmaaGreatDoor
namespace Go.Proofs.YtlniliigcnedmaaGreatDoor
open Go Ax
set_option maxRecDepth 100000
set_option maxHeartbeats 8000000 in
theorem k178 (t:AVal) (ty:TypeId) (lo:Nat) (m0:AMem) (hlo:m0.length≤lo) (g:FuncId) (fs cs:List AVal) (C:Int→Int→Int) (D:Int→Prop) (hcmp:CmpOk m0 g fs cs D C) (xs:List Int) (hD: ∀x∈xs,D x) (s e p:Nat) (hsp:s≤p) (hpe:p<e) (hel:e≤xs.length) (hn:xs.length<2^61) (m:AMem) (hm:m0<+:m) (hX:OwL (AVal.int .i64) lo m ty t xs):
  ACalls Tryz.prog 178 [t,.int .i64 s,.int .i64 e,.int .i64 p,.func (.func g) fs cs] m fun v m'=>m0<+:m'∧Ch (fun b=>t.blk=some b) m m'∧ ∃ys mid b,v= .tuple [.int .i64 (mid:Nat),.bool b]∧OwL (AVal.int .i64) lo m' ty t ys∧Parted C xs ys s e mid:=by
 refine w178 ?_
 simp
 obtain ⟨xA,xB,bA,oA,bB,oB,hxA,hxB,hpA,hpB,hlA,hlB,hrest⟩:=swapMem hX (i:=s) (j:=p) (by omega) (by omega)
 refine W_draw (fun _ _ _=>True) (by simp[maxDst]) ?_
 refine D_pc 0 13 [13,14,15] ?_
 simp[hpA,hlA,hpB,hlB]
 intro _ _
 refine D_W rfl rfl fun m8 hm8 _=>?_
 obtain ⟨m9,hst9,hrest⟩:=hrest m8 hm8
 simp[hst9]
 refine D_pc 14 1 [15] ?_
 simp[hpB]
 intro _ _
 refine D_W rfl rfl fun m10 hm10 _=>?_
 obtain ⟨m11,hst11,hrest⟩:=hrest m10 hm10
 simp[hst11]
 refine D_end fun m1 hm12 _=>?_
 obtain ⟨hcS,hYS⟩:=hrest m1 hm12
 clear hst9 hst11 hrest hlA hlB hm8 hm10 hm12
 have hw1:IntKind.i64.wrap ((s:Int)+1)=((s+1:Nat):Int):=by rw[wrap64 (by omega) (by omega)];omega
 have hw2:IntKind.i64.wrap ((e:Int)-1)=((e-1:Nat):Int):=by rw[wrap64 (by omega) (by omega)];omega
 simp[hw1,hw2]
 have hms:m0<+:m1:=hcS.pre hm fun b hb h=>by have:=(hX.blk_lo h).1;omega
 obtain ⟨P,hPs⟩: ∃P,xs[p]? =some P:=⟨_,hxB⟩
 have hP0:Part C xs s e xB ((xs.set s xB).set p xA) (s+1) (e-1):=by
  have l1:=(List.getElem?_eq_some_iff.1 hxA).1
  have l2:=(List.getElem?_eq_some_iff.1 hxB).1
  refine ⟨Shuf.swap hxA hxB (by omega) (by omega) hsp hpe,?_,fun k y h1 h2=>by omega,fun k y h1 h2=>by omega,by omega,by omega,by omega⟩
  rw[swap_get l1 l2]
  by_cases h:s=p
  ·subst h;rw[if_pos rfl];rw[hxA] at hxB;exact hxB
  ·rw[if_neg h,if_pos rfl]
 have hDy: ∀zs,Shuf xs zs s e→ ∀x∈zs,D x:=fun zs h x hx=>hD x (h.perm.mem_iff.1 hx)
 generalize (xs.set s xB).set p xA=ys at*
 generalize xB=P at*
 replace hY:=hYS
 have hm0:=hms
 clear hYS hX hxA hxB hpA hpB hm
 have hch:=hcS
 clear hcS
 obtain ⟨J,hJ⟩: ∃J:AFrame→AMem→Prop,∀f m',J f m'↔(∃(i j:Nat),f.forget [0,1,4,12,13]=mat 178 [(0,t),(1,.int .i64 s),(4,.func (.func g) fs cs),(12,.int .i64 i),(13,.int .i64 j)]∧m1<+:m'∧Part C xs s e P ys i j∧j+1≤i+xs.length∧(¬i≤j∨ ∃x,ys[i]? =some x∧ ¬C x P<0)):=⟨_,fun _ _=>Iff.rfl⟩
 refine W_JB J ?_ ?_
 ·obtain ⟨I,hI⟩: ∃I:Nat→AFrame→AMem→Prop,∀q f m',I q f m'↔(∃(i j:Nat),i+q=j+1∧f=h178_0 t (.int .i64 s) (.func (.func g) fs cs) (.int .i64 i) (.int .i64 j)∧m1<+:m'∧Part C xs s e P ys i j∧j+1≤i+xs.length∧True):=⟨_,fun _ _ _=>Iff.rfl⟩
  refine W_loop I ((e-1)+1-(s+1)) ((hI _ _ _).2 ⟨(s+1),(e-1),by have:=hP0.ij;omega,by simp,List.prefix_refl _,hP0,by omega,trivial⟩) ?_
  rintro q f m1 hIn
  obtain ⟨i,j,hq,rfl,hm,hP,hbd,he⟩:=(hI _ _ _).1 hIn
  clear hIn
  have hia:=hP.ia
  have hjb:=hP.jb
  have hYm:=hY.mono hm
  have hD:=hDy _ hP.sh
  simp
  refine W_draw (fun _ _ _=>True) (by simp[maxDst]) ?_
  refine D_pc 0 13 [13,14,15] ?_
  by_cases hij:i≤j
  ·have hij':(i:Int)≤j:=by omega
   have hyl:i<ys.length:=by rw[hP.sh.len];omega
   have hsl:s<ys.length:=by rw[hP.sh.len];omega
   obtain ⟨bi,oi,_,hpi,hli,_⟩:=hYm.at hyl
   obtain ⟨ba,oa,_,hpa,hla,_⟩:=hYm.at hsl
   have hy:ys[i]? =some ys[i]:=List.getElem?_eq_getElem hyl
   have hPa:=hP.pa
   rw[List.getElem?_eq_getElem hsl] at hPa
   have hPa:ys[s]=P:=Option.some.inj hPa
   rw[hPa] at hla
   have hDy1:=hD _ (List.getElem_mem hyl)
   have hDP:D P:=by rw[←hPa];exact hD _ (List.getElem_mem hsl)
   generalize ys[i]=y at*
   simp[hij',hpi,hli,hpa,hla]
   intro _ _
   refine D_Xg rfl rfl (b:=true) (by simp) (fun _ m5 hm5 _=>?_) (fun h=>absurd rfl h)
   simp
   have hcall:=hcmp y P hDy1 hDP m5 (hm0.trans (hm.trans hm5))
   simp at hcall
   refine C_of hcall ?_
   rintro _ m6 ⟨rfl,hm6⟩
   refine ⟨by simp[lateOf],?_⟩
   refine D_pc 14 2 [] ?_
   simp
   intro _ _
   refine D_end fun m7 hm7 _=>?_
   replace hm7:=(hm5.trans hm6).trans hm7
   clear hm5 hm6 hcall
   have hw:IntKind.i64.wrap ((i:Int)+1)=(i:Int)+1:=wrap64 (by omega) (by omega)
   have hjw:IntKind.i64.wrap ((j:Int)-1)=((j-1:Nat):Int):=by rw[wrap64 (by omega) (by omega)];omega
   by_cases hlt:C y P<0
   ·simp[hlt,hw]
    obtain ⟨q,rfl⟩: ∃q',q=q'+1:=⟨q-1,by omega⟩
    refine ⟨q,by omega,(hI _ _ _).2 ⟨i+1,j,by omega,by simp,hm.trans hm7,hP.up hij hy hlt,by omega,he⟩⟩
   ·simp[hlt]
    exact (hJ _ _).2 ⟨i,j,by simp,hm.trans hm7,hP,hbd,.inr ⟨_,hy,hlt⟩⟩
  ·have hij': ¬(i:Int)≤j:=by omega
   simp[hij']
   intro _ _
   refine D_Xg rfl rfl (b:=false) (by simp) (fun h=>by cases h) (fun _ m5 hm5 _=>⟨by simp[lateOf],?_⟩)
   refine D_pc 14 2 [] ?_
   simp
   intro _ _
   refine D_end fun m7 hm7 _=>?_
   simp
   exact (hJ _ _).2 ⟨i,j,by simp,hm.trans (hm5.trans hm7),hP,hbd,.inl hij⟩
 intro f m2 hJ2
 obtain ⟨i,j,hf,hmS,hP,hbd,he⟩:=(hJ _ _).1 hJ2
 clear hJ2 hJ
 replace hY:=hY.mono hmS
 replace hm0:=hm0.trans hmS
 replace hch:=hch.trans (.of_prefix hmS)
 clear hmS
 simp[hf]
 obtain ⟨J,hJ⟩: ∃J:AFrame→AMem→Prop,∀f m',J f m'↔(∃(i j:Nat),f.forget [0,1,4,12,13]=mat 178 [(0,t),(1,.int .i64 s),(4,.func (.func g) fs cs),(12,.int .i64 i),(13,.int .i64 j)]∧m2<+:m'∧Part C xs s e P ys i j∧j+1≤i+xs.length∧(¬i≤j∨ ∃x,ys[i]? =some x∧ ¬C x P<0)∧(¬i≤j∨ ∃x,ys[j]? =some x∧C x P<0)):=⟨_,fun _ _=>Iff.rfl⟩
 refine W_JB J ?_ ?_
 ·obtain ⟨I,hI⟩: ∃I:Nat→AFrame→AMem→Prop,∀q f m',I q f m'↔(∃(i j:Nat),i+q=j+1∧f=h178_1 t (.int .i64 s) (.func (.func g) fs cs) (.int .i64 i) (.int .i64 j)∧m2<+:m'∧Part C xs s e P ys i j∧j+1≤i+xs.length∧(¬i≤j∨ ∃x,ys[i]? =some x∧ ¬C x P<0)):=⟨_,fun _ _ _=>Iff.rfl⟩
  refine W_loop I (j+1-i) ((hI _ _ _).2 ⟨i,j,by have:=hP.ij;omega,by simp,List.prefix_refl _,hP,by omega,he⟩) ?_
  rintro q f m1 hIn
  obtain ⟨i,j,hq,rfl,hm,hP,hbd,he⟩:=(hI _ _ _).1 hIn
  clear hIn
  have hia:=hP.ia
  have hjb:=hP.jb
  have hYm:=hY.mono hm
  have hD:=hDy _ hP.sh
  simp
  refine W_draw (fun _ _ _=>True) (by simp[maxDst]) ?_
  refine D_pc 0 13 [13,14,15,16] ?_
  by_cases hij:i≤j
  ·have hij':(i:Int)≤j:=by omega
   have hyl:j<ys.length:=by rw[hP.sh.len];omega
   have hsl:s<ys.length:=by rw[hP.sh.len];omega
   obtain ⟨bi,oi,_,hpi,hli,_⟩:=hYm.at hyl
   obtain ⟨ba,oa,_,hpa,hla,_⟩:=hYm.at hsl
   have hy:ys[j]? =some ys[j]:=List.getElem?_eq_getElem hyl
   have hPa:=hP.pa
   rw[List.getElem?_eq_getElem hsl] at hPa
   have hPa:ys[s]=P:=Option.some.inj hPa
   rw[hPa] at hla
   have hDy1:=hD _ (List.getElem_mem hyl)
   have hDP:D P:=by rw[←hPa];exact hD _ (List.getElem_mem hsl)
   generalize ys[j]=y at*
   simp[hij',hpi,hli,hpa,hla]
   intro _ _
   refine D_Xg rfl rfl (b:=true) (by simp) (fun _ m5 hm5 _=>?_) (fun h=>absurd rfl h)
   simp
   have hcall:=hcmp y P hDy1 hDP m5 (hm0.trans (hm.trans hm5))
   simp at hcall
   refine C_of hcall ?_
   rintro _ m6 ⟨rfl,hm6⟩
   refine ⟨by simp[lateOf],?_⟩
   refine D_pc 14 3 [] ?_
   simp
   intro _ _
   refine D_end fun m7 hm7 _=>?_
   replace hm7:=(hm5.trans hm6).trans hm7
   clear hm5 hm6 hcall
   have hw:IntKind.i64.wrap ((i:Int)+1)=(i:Int)+1:=wrap64 (by omega) (by omega)
   have hjw:IntKind.i64.wrap ((j:Int)-1)=((j-1:Nat):Int):=by rw[wrap64 (by omega) (by omega)];omega
   by_cases hlt: ¬C y P<0
   ·simp[hlt,hjw]
    obtain ⟨q,rfl⟩: ∃q',q=q'+1:=⟨q-1,by omega⟩
    refine ⟨q,by omega,(hI _ _ _).2 ⟨i,j-1,by have:=hP.ia;omega,by simp[hjw],hm.trans hm7,hP.down hij hy hlt,by omega,he.imp (fun h=>by omega) id⟩⟩
   ·have hlt:=Decidable.of_not_not hlt
    simp[hlt]
    exact (hJ _ _).2 ⟨i,j,by simp,hm.trans hm7,hP,hbd,he,.inr ⟨_,hy,hlt⟩⟩
  ·have hij': ¬(i:Int)≤j:=by omega
   simp[hij']
   intro _ _
   refine D_Xg rfl rfl (b:=false) (by simp) (fun h=>by cases h) (fun _ m5 hm5 _=>⟨by simp[lateOf],?_⟩)
   refine D_pc 14 3 [] ?_
   simp
   intro _ _
   refine D_end fun m7 hm7 _=>?_
   simp
   exact (hJ _ _).2 ⟨i,j,by simp,hm.trans (hm5.trans hm7),hP,hbd,he,.inl hij⟩
 intro f m3 hJ2
 obtain ⟨i,j,hf,hmS,hP,hbd,he1,he2⟩:=(hJ _ _).1 hJ2
 clear hJ2 hJ
 replace hY:=hY.mono hmS
 replace hm0:=hm0.trans hmS
 replace hch:=hch.trans (.of_prefix hmS)
 clear hmS
 simp[hf]
 refine bbind_dec (fun hgt=>?_) fun hgt=>?_
 ·simp
  obtain rfl:i=j+1:=by have:=hP.ij;omega
  have hjl:j<ys.length:=by rw[hP.sh.len];have:=hP.jb;omega
  have hsl:s<ys.length:=by rw[hP.sh.len];omega
  obtain ⟨xA,xB,bA,oA,bB,oB,hxA,hxB,hpA,hpB,hlA,hlB,hrest⟩:=swapMem hY (i:=j) (j:=s) hjl hsl
  refine W_draw (fun _ _ _=>True) (by simp[maxDst]) ?_
  refine D_pc 0 13 [13,14,15] ?_
  simp[hpA,hlA,hpB,hlB]
  intro _ _
  refine D_W rfl rfl fun m8 hm8 _=>?_
  obtain ⟨m9,hst9,hrest⟩:=hrest m8 hm8
  simp[hst9]
  refine D_pc 14 1 [15] ?_
  simp[hpB]
  intro _ _
  refine D_W rfl rfl fun m10 hm10 _=>?_
  obtain ⟨m11,hst11,hrest⟩:=hrest m10 hm10
  simp[hst11]
  refine D_end fun m4 hm12 _=>?_
  obtain ⟨hcS,hYS⟩:=hrest m4 hm12
  clear hst9 hst11 hrest hlA hlB hm8 hm10 hm12
  have hxP:=hP.pa
  rw[hxB] at hxP
  have hxP:xB=P:=Option.some.inj hxP
  subst hxP
  simp
  refine ⟨hcS.pre hm0 fun b hb h=>by have:=(hY.blk_lo h).1;omega,hch.trans hcS,_,j,rfl,hYS,hP.done hxA⟩
 obtain ⟨xi,hxi,hci⟩:=he1.resolve_left (fun h=>h (by omega))
 obtain ⟨xj,hxj,hcj⟩:=he2.resolve_left (fun h=>h (by omega))
 obtain ⟨hPS,hlt⟩:=hP.swap (by omega) hxi hxj hci hcj
 have hil:i<ys.length:=(List.getElem?_eq_some_iff.1 hxi).1
 have hjl:j<ys.length:=(List.getElem?_eq_some_iff.1 hxj).1
 have hjb:=hP.jb
 simp
 obtain ⟨xA,xB,bA,oA,bB,oB,hxA,hxB,hpA,hpB,hlA,hlB,hrest⟩:=swapMem hY (i:=i) (j:=j) hil hjl
 refine W_draw (fun _ _ _=>True) (by simp[maxDst]) ?_
 refine D_pc 0 13 [13,14,15] ?_
 simp[hpA,hlA,hpB,hlB]
 intro _ _
 refine D_W rfl rfl fun m8 hm8 _=>?_
 obtain ⟨m9,hst9,hrest⟩:=hrest m8 hm8
 simp[hst9]
 refine D_pc 14 1 [15] ?_
 simp[hpB]
 intro _ _
 refine D_W rfl rfl fun m10 hm10 _=>?_
 obtain ⟨m11,hst11,hrest⟩:=hrest m10 hm10
 simp[hst11]
 refine D_end fun m4 hm12 _=>?_
 obtain ⟨hcS,hYS⟩:=hrest m4 hm12
 clear hst9 hst11 hrest hlA hlB hm8 hm10 hm12
 rw[hxi] at hxA
 rw[hxj] at hxB
 cases hxA
 cases hxB
 have hw:IntKind.i64.wrap ((i:Int)+1)=(i:Int)+1:=wrap64 (by omega) (by omega)
 have hjw:IntKind.i64.wrap ((j:Int)-1)=((j-1:Nat):Int):=by rw[wrap64 (by omega) (by omega)];omega
 have hm0':=hcS.pre hm0 fun b hb h=>by have:=(hY.blk_lo h).1;omega
 have hch':=hch.trans hcS
 simp[hw,hjw]
 obtain ⟨K,hK⟩: ∃K:Nat→AFrame→AMem→Prop,∀q f m',K q f m'↔(∃(i j:Nat) (ys:List Int),i+q=j+1∧f=h178_2 t (.int .i64 s) (.func (.func g) fs cs) (.int .i64 i) (.int .i64 j)∧m0<+:m'∧Ch (fun b=>t.blk=some b) m m'∧OwL (AVal.int .i64) lo m' ty t ys∧Part C xs s e P ys i j):=⟨_,fun _ _ _=>Iff.rfl⟩
 refine W_loop K (j-1+1-(i+1)) ((hK _ _ _).2 ⟨i+1,j-1,_,by omega,by simp,hm0',hch',hYS,hPS⟩) ?_
 clear hPS hP hY hYS hm0 hm0' hch hch' hcS hxi hxj he1 he2 hil hjl hpA hpB hP0
 rintro Q f m4 hIn
 obtain ⟨i,j,ys,hq,rfl,hm0,hch,hY,hP⟩:=(hK _ _ _).1 hIn
 clear hIn
 simp
 obtain ⟨J,hJ⟩: ∃J:AFrame→AMem→Prop,∀f m',J f m'↔(∃(i j:Nat),f.forget [0,1,4,12,13]=mat 178 [(0,t),(1,.int .i64 s),(4,.func (.func g) fs cs),(12,.int .i64 i),(13,.int .i64 j)]∧m4<+:m'∧Part C xs s e P ys i j∧j+1≤i+Q∧(¬i≤j∨ ∃x,ys[i]? =some x∧ ¬C x P<0)):=⟨_,fun _ _=>Iff.rfl⟩
 refine W_JB J ?_ ?_
 ·obtain ⟨I,hI⟩: ∃I:Nat→AFrame→AMem→Prop,∀q f m',I q f m'↔(∃(i j:Nat),i+q=j+1∧f=h178_3 t (.int .i64 s) (.func (.func g) fs cs) (.int .i64 i) (.int .i64 j)∧m4<+:m'∧Part C xs s e P ys i j∧j+1≤i+Q∧True):=⟨_,fun _ _ _=>Iff.rfl⟩
  refine W_loop I (j+1-i) ((hI _ _ _).2 ⟨i,j,by have:=hP.ij;omega,by simp,List.prefix_refl _,hP,by omega,trivial⟩) ?_
  rintro q f m1 hIn
  obtain ⟨i,j,hq,rfl,hm,hP,hbd,he⟩:=(hI _ _ _).1 hIn
  clear hIn
  have hia:=hP.ia
  have hjb:=hP.jb
  have hYm:=hY.mono hm
  have hD:=hDy _ hP.sh
  simp
  refine W_draw (fun _ _ _=>True) (by simp[maxDst]) ?_
  refine D_pc 0 13 [13,14,15] ?_
  by_cases hij:i≤j
  ·have hij':(i:Int)≤j:=by omega
   have hyl:i<ys.length:=by rw[hP.sh.len];omega
   have hsl:s<ys.length:=by rw[hP.sh.len];omega
   obtain ⟨bi,oi,_,hpi,hli,_⟩:=hYm.at hyl
   obtain ⟨ba,oa,_,hpa,hla,_⟩:=hYm.at hsl
   have hy:ys[i]? =some ys[i]:=List.getElem?_eq_getElem hyl
   have hPa:=hP.pa
   rw[List.getElem?_eq_getElem hsl] at hPa
   have hPa:ys[s]=P:=Option.some.inj hPa
   rw[hPa] at hla
   have hDy1:=hD _ (List.getElem_mem hyl)
   have hDP:D P:=by rw[←hPa];exact hD _ (List.getElem_mem hsl)
   generalize ys[i]=y at*
   simp[hij',hpi,hli,hpa,hla]
   intro _ _
   refine D_Xg rfl rfl (b:=true) (by simp) (fun _ m5 hm5 _=>?_) (fun h=>absurd rfl h)
   simp
   have hcall:=hcmp y P hDy1 hDP m5 (hm0.trans (hm.trans hm5))
   simp at hcall
   refine C_of hcall ?_
   rintro _ m6 ⟨rfl,hm6⟩
   refine ⟨by simp[lateOf],?_⟩
   refine D_pc 14 2 [] ?_
   simp
   intro _ _
   refine D_end fun m7 hm7 _=>?_
   replace hm7:=(hm5.trans hm6).trans hm7
   clear hm5 hm6 hcall
   have hw:IntKind.i64.wrap ((i:Int)+1)=(i:Int)+1:=wrap64 (by omega) (by omega)
   have hjw:IntKind.i64.wrap ((j:Int)-1)=((j-1:Nat):Int):=by rw[wrap64 (by omega) (by omega)];omega
   by_cases hlt:C y P<0
   ·simp[hlt,hw]
    obtain ⟨q,rfl⟩: ∃q',q=q'+1:=⟨q-1,by omega⟩
    refine ⟨q,by omega,(hI _ _ _).2 ⟨i+1,j,by omega,by simp,hm.trans hm7,hP.up hij hy hlt,by omega,he⟩⟩
   ·simp[hlt]
    exact (hJ _ _).2 ⟨i,j,by simp,hm.trans hm7,hP,hbd,.inr ⟨_,hy,hlt⟩⟩
  ·have hij': ¬(i:Int)≤j:=by omega
   simp[hij']
   intro _ _
   refine D_Xg rfl rfl (b:=false) (by simp) (fun h=>by cases h) (fun _ m5 hm5 _=>⟨by simp[lateOf],?_⟩)
   refine D_pc 14 2 [] ?_
   simp
   intro _ _
   refine D_end fun m7 hm7 _=>?_
   simp
   exact (hJ _ _).2 ⟨i,j,by simp,hm.trans (hm5.trans hm7),hP,hbd,.inl hij⟩
 intro f m5 hJ2
 obtain ⟨i,j,hf,hmS,hP,hbd,he⟩:=(hJ _ _).1 hJ2
 clear hJ2 hJ
 replace hY:=hY.mono hmS
 replace hm0:=hm0.trans hmS
 replace hch:=hch.trans (.of_prefix hmS)
 clear hmS
 simp[hf]
 obtain ⟨J,hJ⟩: ∃J:AFrame→AMem→Prop,∀f m',J f m'↔(∃(i j:Nat),f.forget [0,1,4,12,13]=mat 178 [(0,t),(1,.int .i64 s),(4,.func (.func g) fs cs),(12,.int .i64 i),(13,.int .i64 j)]∧m5<+:m'∧Part C xs s e P ys i j∧j+1≤i+Q∧(¬i≤j∨ ∃x,ys[i]? =some x∧ ¬C x P<0)∧(¬i≤j∨ ∃x,ys[j]? =some x∧C x P<0)):=⟨_,fun _ _=>Iff.rfl⟩
 refine W_JB J ?_ ?_
 ·obtain ⟨I,hI⟩: ∃I:Nat→AFrame→AMem→Prop,∀q f m',I q f m'↔(∃(i j:Nat),i+q=j+1∧f=h178_4 t (.int .i64 s) (.func (.func g) fs cs) (.int .i64 i) (.int .i64 j)∧m5<+:m'∧Part C xs s e P ys i j∧j+1≤i+Q∧(¬i≤j∨ ∃x,ys[i]? =some x∧ ¬C x P<0)):=⟨_,fun _ _ _=>Iff.rfl⟩
  refine W_loop I (j+1-i) ((hI _ _ _).2 ⟨i,j,by have:=hP.ij;omega,by simp,List.prefix_refl _,hP,by omega,he⟩) ?_
  rintro q f m1 hIn
  obtain ⟨i,j,hq,rfl,hm,hP,hbd,he⟩:=(hI _ _ _).1 hIn
  clear hIn
  have hia:=hP.ia
  have hjb:=hP.jb
  have hYm:=hY.mono hm
  have hD:=hDy _ hP.sh
  simp
  refine W_draw (fun _ _ _=>True) (by simp[maxDst]) ?_
  refine D_pc 0 13 [13,14,15,16] ?_
  by_cases hij:i≤j
  ·have hij':(i:Int)≤j:=by omega
   have hyl:j<ys.length:=by rw[hP.sh.len];omega
   have hsl:s<ys.length:=by rw[hP.sh.len];omega
   obtain ⟨bi,oi,_,hpi,hli,_⟩:=hYm.at hyl
   obtain ⟨ba,oa,_,hpa,hla,_⟩:=hYm.at hsl
   have hy:ys[j]? =some ys[j]:=List.getElem?_eq_getElem hyl
   have hPa:=hP.pa
   rw[List.getElem?_eq_getElem hsl] at hPa
   have hPa:ys[s]=P:=Option.some.inj hPa
   rw[hPa] at hla
   have hDy1:=hD _ (List.getElem_mem hyl)
   have hDP:D P:=by rw[←hPa];exact hD _ (List.getElem_mem hsl)
   generalize ys[j]=y at*
   simp[hij',hpi,hli,hpa,hla]
   intro _ _
   refine D_Xg rfl rfl (b:=true) (by simp) (fun _ m5 hm5 _=>?_) (fun h=>absurd rfl h)
   simp
   have hcall:=hcmp y P hDy1 hDP m5 (hm0.trans (hm.trans hm5))
   simp at hcall
   refine C_of hcall ?_
   rintro _ m6 ⟨rfl,hm6⟩
   refine ⟨by simp[lateOf],?_⟩
   refine D_pc 14 3 [] ?_
   simp
   intro _ _
   refine D_end fun m7 hm7 _=>?_
   replace hm7:=(hm5.trans hm6).trans hm7
   clear hm5 hm6 hcall
   have hw:IntKind.i64.wrap ((i:Int)+1)=(i:Int)+1:=wrap64 (by omega) (by omega)
   have hjw:IntKind.i64.wrap ((j:Int)-1)=((j-1:Nat):Int):=by rw[wrap64 (by omega) (by omega)];omega
   by_cases hlt: ¬C y P<0
   ·simp[hlt,hjw]
    obtain ⟨q,rfl⟩: ∃q',q=q'+1:=⟨q-1,by omega⟩
    refine ⟨q,by omega,(hI _ _ _).2 ⟨i,j-1,by have:=hP.ia;omega,by simp[hjw],hm.trans hm7,hP.down hij hy hlt,by omega,he.imp (fun h=>by omega) id⟩⟩
   ·have hlt:=Decidable.of_not_not hlt
    simp[hlt]
    exact (hJ _ _).2 ⟨i,j,by simp,hm.trans hm7,hP,hbd,he,.inr ⟨_,hy,hlt⟩⟩
  ·have hij': ¬(i:Int)≤j:=by omega
   simp[hij']
   intro _ _
   refine D_Xg rfl rfl (b:=false) (by simp) (fun h=>by cases h) (fun _ m5 hm5 _=>⟨by simp[lateOf],?_⟩)
   refine D_pc 14 3 [] ?_
   simp
   intro _ _
   refine D_end fun m7 hm7 _=>?_
   simp
   exact (hJ _ _).2 ⟨i,j,by simp,hm.trans (hm5.trans hm7),hP,hbd,he,.inl hij⟩
 intro f m6 hJ2
 obtain ⟨i,j,hf,hmS,hP,hbd,he1,he2⟩:=(hJ _ _).1 hJ2
 clear hJ2 hJ
 replace hY:=hY.mono hmS
 replace hm0:=hm0.trans hmS
 replace hch:=hch.trans (.of_prefix hmS)
 clear hmS
 simp[hf]
 refine bbind_dec (fun hgt=>?_) fun hgt=>?_
 ·simp
  obtain rfl:i=j+1:=by have:=hP.ij;omega
  have hjl:j<ys.length:=by rw[hP.sh.len];have:=hP.jb;omega
  have hsl:s<ys.length:=by rw[hP.sh.len];omega
  obtain ⟨xA,xB,bA,oA,bB,oB,hxA,hxB,hpA,hpB,hlA,hlB,hrest⟩:=swapMem hY (i:=j) (j:=s) hjl hsl
  refine W_draw (fun _ _ _=>True) (by simp[maxDst]) ?_
  refine D_pc 0 13 [13,14,15] ?_
  simp[hpA,hlA,hpB,hlB]
  intro _ _
  refine D_W rfl rfl fun m8 hm8 _=>?_
  obtain ⟨m9,hst9,hrest⟩:=hrest m8 hm8
  simp[hst9]
  refine D_pc 14 1 [15] ?_
  simp[hpB]
  intro _ _
  refine D_W rfl rfl fun m10 hm10 _=>?_
  obtain ⟨m11,hst11,hrest⟩:=hrest m10 hm10
  simp[hst11]
  refine D_end fun m4 hm12 _=>?_
  obtain ⟨hcS,hYS⟩:=hrest m4 hm12
  clear hst9 hst11 hrest hlA hlB hm8 hm10 hm12
  have hxP:=hP.pa
  rw[hxB] at hxP
  have hxP:xB=P:=Option.some.inj hxP
  subst hxP
  simp
  refine ⟨hcS.pre hm0 fun b hb h=>by have:=(hY.blk_lo h).1;omega,hch.trans hcS,_,j,rfl,hYS,hP.done hxA⟩
 obtain ⟨xi,hxi,hci⟩:=he1.resolve_left (fun h=>h (by omega))
 obtain ⟨xj,hxj,hcj⟩:=he2.resolve_left (fun h=>h (by omega))
 obtain ⟨hPS,hlt⟩:=hP.swap (by omega) hxi hxj hci hcj
 have hil:i<ys.length:=(List.getElem?_eq_some_iff.1 hxi).1
 have hjl:j<ys.length:=(List.getElem?_eq_some_iff.1 hxj).1
 have hjb:=hP.jb
 simp
 obtain ⟨xA,xB,bA,oA,bB,oB,hxA,hxB,hpA,hpB,hlA,hlB,hrest⟩:=swapMem hY (i:=i) (j:=j) hil hjl
 refine W_draw (fun _ _ _=>True) (by simp[maxDst]) ?_
 refine D_pc 0 13 [13,14,15] ?_
 simp[hpA,hlA,hpB,hlB]
 intro _ _
 refine D_W rfl rfl fun m8 hm8 _=>?_
 obtain ⟨m9,hst9,hrest⟩:=hrest m8 hm8
 simp[hst9]
 refine D_pc 14 1 [15] ?_
 simp[hpB]
 intro _ _
 refine D_W rfl rfl fun m10 hm10 _=>?_
 obtain ⟨m11,hst11,hrest⟩:=hrest m10 hm10
 simp[hst11]
 refine D_end fun m4 hm12 _=>?_
 obtain ⟨hcS,hYS⟩:=hrest m4 hm12
 clear hst9 hst11 hrest hlA hlB hm8 hm10 hm12
 rw[hxi] at hxA
 rw[hxj] at hxB
 cases hxA
 cases hxB
 have hw:IntKind.i64.wrap ((i:Int)+1)=(i:Int)+1:=wrap64 (by omega) (by omega)
 have hjw:IntKind.i64.wrap ((j:Int)-1)=((j-1:Nat):Int):=by rw[wrap64 (by omega) (by omega)];omega
 have hm0':=hcS.pre hm0 fun b hb h=>by have:=(hY.blk_lo h).1;omega
 have hch':=hch.trans hcS
 simp[hw,hjw]
 exact ⟨j-1+1-(i+1),by omega,(hK _ _ _).2 ⟨i+1,j-1,_,by omega,by simp,hm0',hch',hYS,hPS⟩⟩
end Go.Proofs.YtlniliigcnedmaaGreatDoor
namespace Go.Proofs.YtlniliigcnedmaaGreatDoor
open Go Ax
set_option maxRecDepth 100000
theorem w203 {args m R} (h:W Tryz.prog (.seq (.reg [qi 10 0,qi 11 0]) (.kill [0,1,2,3,4] (.seq (.seq (.draw true [qv 12 4,qv 13 0,qv 14 2,qa 15 1 13 14,ql 16 15,qv 17 0,qv 18 1,qa 19 1 17 18,ql 20 19,⟨some 21,.C (.t 12) [(.t 16),(.t 20)],none⟩,qk 22 .lss 21 0] [[],[],[],[],[],[],[],[],[],[],[9]] [[],[],[],[],[],[],[],[],[],[],[]] [0,1,2,3,4,5,6,7,8,9,10]) (.kill [1,2,3,22] (.cond (.t 22) (.seq (.reg [qv 23 3,⟨some 24,.P (.nilck (.t 23)),none⟩,ql 25 24,qk 26 .add 25 1,⟨some 27,.P (.nilck (.t 23)),none⟩,⟨none,.W (.store 1 (.t 27) (.t 26)),none⟩]) (.kill [1,2] (.seq (.reg [qv 28 2,qv 29 1,qv 10 28,qv 11 29]) .ret))) .skip))) (.kill [1,2] (.seq (.reg [qv 30 1,qv 31 2,qv 10 30,qv 11 31]) .ret))))) (E [(.tmp 10),(.tmp 11)] R .mk) .mk (mat 32 (sArgs 0 args)) m) (hl:Nat.ble args.length 32=true:=by rfl):ACalls Tryz.prog 203 args m R:=walk mix (by kernel_rfl) (Nat.le_of_ble_eq_true hl) h
end Go.Proofs.YtlniliigcnedmaaGreatDoor
namespace Go.Proofs.YtlniliigcnedmaaGreatDoor
open Go Ax
set_option maxRecDepth 100000
theorem k203 (t:AVal) (ty:TypeId) (lo:Nat) (m0:AMem) (g:FuncId) (fs cs:List AVal) (C:Int→Int→Int) (D:Int→Prop) (hcmp:CmpOk m0 g fs cs D C) (xs:List Int) (hD: ∀x∈xs,D x) (i j b3:Nat) (k:Nat) (hi:i<xs.length) (hj:j<xs.length) (hk:k<100) (m:AMem) (hm:m0<+:m) (hX:OwL (AVal.int .i64) lo m ty t xs) (hb:m[b3]? =some (.own [.int .i64 k] 3 none)):
  ACalls Tryz.prog 203 [t,.int .i64 i,.int .i64 j,.ptr b3 0,.func (.func g) fs cs] m fun v m'=>Ch (fun b=>b=b3) m m'∧ ∃(x y k':Nat),v= .tuple [.int .i64 x,.int .i64 y]∧((x=i∧y=j)∨(x=j∧y=i))∧k'≤k+1∧m'[b3]? =some (.own [.int .i64 k'] 3 none):=by
 refine w203 ?_
 obtain ⟨bi,oi,_,hpi,hli,_⟩:=hX.at hi
 obtain ⟨bj,oj,_,hpj,hlj,_⟩:=hX.at hj
 have dx:=hD _ (List.getElem_mem hi)
 have dy:=hD _ (List.getElem_mem hj)
 generalize xs[i]=x at*
 generalize xs[j]=y at*
 simp
 refine W_draw (fun _ _ _=>True) (by simp[maxDst]) ?_
 refine D_pc 0 9 [9,10] ?_
 simp[hpi,hli,hpj,hlj]
 intro _ _
 refine D_X rfl rfl fun m5 hm5 _=>?_
 simp
 have hcall:=hcmp y x dy dx m5 (hm.trans hm5)
 simp at hcall
 refine C_of hcall ?_
 rintro _ m6 ⟨rfl,hm6⟩
 refine ⟨by simp[lateOf],?_⟩
 refine D_pc 10 1 [] ?_
 simp
 intro _ _
 refine D_end fun m7 hm7 _=>?_
 have hm17:=(hm5.trans hm6).trans hm7
 have hb7:=own_mono hb hm17
 simp
 refine bbind_dec (fun hlt=>?_) fun hlt=>?_
 ·obtain ⟨m8,hst,hb8,hch⟩:=fld_store (i:=0) (v:= .int .i64 ((k:Int)+1)) hb7 (by simp) rfl rfl
  have hw:IntKind.i64.wrap ((k:Int)+1)=(k:Int)+1:=wrap64 (by omega) (by omega)
  simp at hb8
  have hr7:=bx (own_read hb7) 0
  simp at hr7
  simp[POp.ev,hr7,hw,hst]
  exact ⟨(Ch.of_prefix hm17).trans hch,j,i,⟨rfl,rfl⟩,by simp,k+1,by omega,by simpa using hb8⟩
 ·simp
  exact ⟨.of_prefix hm17,i,j,⟨rfl,rfl⟩,by simp,k,by omega,hb7⟩
theorem k196 (t:AVal) (ty:TypeId) (lo:Nat) (m0:AMem) (g:FuncId) (fs cs:List AVal) (C:Int→Int→Int) (D:Int→Prop) (hcmp:CmpOk m0 g fs cs D C) (xs:List Int) (hD: ∀x∈xs,D x) (R:Nat→Prop) (hR: ∀i,R i→i<xs.length) (i j k b3 n:Nat) (hnn:n<90) (hi:R i) (hj:R j) (hk:R k) (m:AMem) (hm:m0<+:m) (hm3:m0.length≤b3) (hX:OwL (AVal.int .i64) lo m ty t xs) (ht: ∀b,t.blk=some b→b≠b3) (hb:m[b3]? =some (.own [.int .i64 n] 3 none)):
  ACalls Tryz.prog 196 [t,.int .i64 i,.int .i64 j,.int .i64 k,.ptr b3 0,.func (.func g) fs cs] m fun v m'=>Ch (fun b=>b=b3) m m'∧ ∃(x k':Nat),v= .int .i64 x∧R x∧k'≤n+3∧m'[b3]? =some (.own [.int .i64 k'] 3 none):=by
 refine w196 ?_
 simp
 refine C_of (k203 t ty lo m0 g fs cs C D hcmp xs hD i j b3 n (hR i hi) (hR j hj) (by omega) m hm hX hb) ?_
 rintro _ m1 ⟨hc1,x1,y1,n1,rfl,hxy,hn1,hb1⟩
 have r1:R x1∧R y1:=by rcases hxy with ⟨rfl,rfl⟩|⟨rfl,rfl⟩<;>exact ⟨‹_›,‹_›⟩
 have hm1:=hc1.pre hm fun b hb e=>by omega
 have hX1:=hX.ch hc1 fun b hb e=>ht b hb e
 simp
 refine C_of (k203 t ty lo m0 g fs cs C D hcmp xs hD y1 k b3 n1 (hR _ r1.2) (hR k hk) (by omega) m1 hm1 hX1 hb1) ?_
 rintro _ m2 ⟨hc2,x2,y2,n2,rfl,hxy2,hn2,hb2⟩
 have r2:R x2∧R y2:=by
  rcases hxy2 with ⟨rfl,rfl⟩|⟨rfl,rfl⟩
  ·exact ⟨r1.2,hk⟩
  ·exact ⟨hk,r1.2⟩
 have hm2:=hc2.pre hm1 fun b hb e=>by omega
 have hX2:=hX1.ch hc2 fun b hb e=>ht b hb e
 simp
 refine C_of (k203 t ty lo m0 g fs cs C D hcmp xs hD x1 x2 b3 n2 (hR _ r1.1) (hR _ r2.1) (by omega) m2 hm2 hX2 hb2) ?_
 rintro _ m3 ⟨hc3,x3,y3,n3,rfl,hxy3,hn3,hb3⟩
 have r3:R y3:=by
  rcases hxy3 with ⟨rfl,rfl⟩|⟨rfl,rfl⟩
  ·exact r2.1
  ·exact r1.1
 simp
 exact ⟨(hc1.trans hc2).trans hc3,y3,rfl,r3,n3,by omega,hb3⟩
theorem k195 (t:AVal) (ty:TypeId) (lo:Nat) (m0:AMem) (g:FuncId) (fs cs:List AVal) (C:Int→Int→Int) (D:Int→Prop) (hcmp:CmpOk m0 g fs cs D C) (xs:List Int) (hD: ∀x∈xs,D x) (R:Nat→Prop) (hR: ∀i,R i→i<xs.length) (hn:xs.length<2^61) (i b3 n:Nat) (hnn:n<90) (hi0:0<i) (hi:R i) (hj:R (i-1)) (hk:R (i+1)) (m:AMem) (hm:m0<+:m) (hm3:m0.length≤b3) (hX:OwL (AVal.int .i64) lo m ty t xs) (ht: ∀b,t.blk=some b→b≠b3) (hb:m[b3]? =some (.own [.int .i64 n] 3 none)):
  ACalls Tryz.prog 195 [t,.int .i64 i,.ptr b3 0,.func (.func g) fs cs] m fun v m'=>Ch (fun b=>b=b3) m m'∧ ∃(x k':Nat),v= .int .i64 x∧R x∧k'≤n+3∧m'[b3]? =some (.own [.int .i64 k'] 3 none):=by
 refine w195 ?_
 have hil:=hR i hi
 have hw1:IntKind.i64.wrap ((i:Int)-1)=((i-1:Nat):Int):=by rw[wrap64 (by omega) (by omega)];omega
 have hw2:IntKind.i64.wrap ((i:Int)+1)=((i+1:Nat):Int):=by rw[wrap64 (by omega) (by omega)];omega
 simp[hw1,hw2]
 refine C_of (k196 t ty lo m0 g fs cs C D hcmp xs hD R hR (i-1) i (i+1) b3 n hnn hj hi hk m hm hm3 hX ht hb) ?_
 rintro _ m' ⟨hc,x,k',rfl,h1,h2,h3⟩
 simp
 exact ⟨hc,x,rfl,h1,k',h2,h3⟩
set_option maxHeartbeats 2000000 in
theorem k174 (t:AVal) (ty:TypeId) (lo:Nat) (m0:AMem) (g:FuncId) (fs cs:List AVal) (C:Int→Int→Int) (D:Int→Prop) (hcmp:CmpOk m0 g fs cs D C) (xs:List Int) (hD: ∀x∈xs,D x) (s e:Nat) (hse:s+8≤e) (hel:e≤xs.length) (hn:xs.length<2^61) (m:AMem) (hm:m0<+:m) (hX:OwL (AVal.int .i64) lo m ty t xs):
  ACalls Tryz.prog 174 [t,.int .i64 s,.int .i64 e,.func (.func g) fs cs] m fun v m'=>m<+:m'∧ ∃(p:Nat) (h:Int),v= .tuple [.int .i64 p,.int .i64 h]∧s≤p∧p<e:=by
 have hw:IntKind.i64.wrap ((e:Int)-s)=((e-s:Nat):Int):=by rw[wrap64 (by omega) (by omega)];omega
 obtain ⟨Q,hQ⟩: ∃Q:Nat,Q=(e-s) / 4:=⟨_,rfl⟩
 have hq0:((e-s:Nat):Int) / 4=(Q:Int):=by omega
 have hq1:IntKind.i64.wrap (Q:Int)=(Q:Int):=wrap64 (by omega) (by omega)
 have hq2:IntKind.i64.wrap ((Q:Int)*2)=(Q:Int)*2:=wrap64 (by omega) (by omega)
 have hq3:IntKind.i64.wrap ((Q:Int)*3)=(Q:Int)*3:=wrap64 (by omega) (by omega)
 have hs1:IntKind.i64.wrap ((s:Int)+Q)=((s+Q:Nat):Int):=by rw[wrap64 (by omega) (by omega)];omega
 have hs2:IntKind.i64.wrap ((s:Int)+(Q:Int)*2)=((s+Q*2:Nat):Int):=by rw[wrap64 (by omega) (by omega)];omega
 have hs3:IntKind.i64.wrap ((s:Int)+(Q:Int)*3)=((s+Q*3:Nat):Int):=by rw[wrap64 (by omega) (by omega)];omega
 have h8:(8:Int)≤((e-s:Nat):Int):=by omega
 obtain ⟨N,hN⟩: ∃N:Int,((e-s:Nat):Int)=N:=⟨_,rfl⟩
 rw[hN] at hw hq0 h8
 have hq0':N.tdiv 4=(Q:Int):=by rw[Int.tdiv_eq_ediv_of_nonneg (by omega)];exact hq0
 refine w174 ?_
 simp[hw,hq0',hq1,hq2,hq3,hs1,hs2,hs3,h8]
 have hb:(m++ [ABlk.own [.int .i64 0] 3 none])[m.length]? =some (.own [.int .i64 (0:Nat)] 3 none):=by simp
 have hm1:m<+:m++ [ABlk.own [.int .i64 0] 3 none]:=List.prefix_append _ _
 have hb3:=hm.length_le
 have htb: ∀b,t.blk=some b→b≠m.length:=fun b hb e=>by have:=(hX.blk_lo hb).2;omega
 obtain ⟨R,hR⟩: ∃R:Nat→Prop,∀i,R i↔s≤i∧i<e:=⟨_,fun _=>Iff.rfl⟩
 have hRl: ∀i,R i→i<xs.length:=fun i h=>by have:=(hR i).1 h;omega
 generalize m++ [ABlk.own [.int .i64 0] 3 none]=m1 at*
 obtain ⟨J,hJ⟩: ∃J:AFrame→AMem→Prop,∀f m',J f m'↔(∃(i j k n:Nat),f.forget [0,3,11,12,13,14]=mat 63 [(0,t),(3,.func (.func g) fs cs),(11,.ptr m.length 0),(12,.int .i64 i),(13,.int .i64 j),(14,.int .i64 k)]∧R i∧R j∧R k∧n<10∧m<+:m'∧OwL (AVal.int .i64) lo m' ty t xs∧m'[m.length]? =some (.own [.int .i64 n] 3 none)):=⟨_,fun _ _=>Iff.rfl⟩
 refine bbind_J J ?_ ?_
 ·refine bbind_intro (fun h50=>?_) fun h50=>?_
  ·have h50:(50:Int)≤N:=by simpa using h50
   have hX1:=hX.mono hm1
   simp
   have hm01:=hm.trans hm1
   refine C_of (k195 t ty lo m0 g fs cs C D hcmp xs hD R hRl hn (s+Q) m.length 0 (by omega) (by omega) ((hR _).2 (by omega)) ((hR _).2 (by omega)) ((hR _).2 (by omega)) m1 hm01 hb3 hX1 htb hb) ?_
   rintro _ m2 ⟨hc2,i,n2,rfl,hi,hn2,hb2⟩
   have hX2:=hX1.ch hc2 fun b hb e=>htb b hb e
   have hm2:m<+:m2:=hc2.pre hm1 fun b hb e=>by omega
   simp
   refine C_of (k195 t ty lo m0 g fs cs C D hcmp xs hD R hRl hn (s+Q*2) m.length n2 (by omega) (by omega) ((hR _).2 (by omega)) ((hR _).2 (by omega)) ((hR _).2 (by omega)) m2 (hm.trans hm2) hb3 hX2 htb hb2) ?_
   rintro _ m3 ⟨hc3,j,n3,rfl,hj,hn3,hb3'⟩
   have hX3:=hX2.ch hc3 fun b hb e=>htb b hb e
   have hm3:m<+:m3:=hc3.pre hm2 fun b hb e=>by omega
   simp
   refine C_of (k195 t ty lo m0 g fs cs C D hcmp xs hD R hRl hn (s+Q*3) m.length n3 (by omega) (by omega) ((hR _).2 (by omega)) ((hR _).2 (by omega)) ((hR _).2 (by omega)) m3 (hm.trans hm3) hb3 hX3 htb hb3') ?_
   rintro _ m4 ⟨hc4,k,n4,rfl,hk,hn4,hb4⟩
   have hX4:=hX3.ch hc4 fun b hb e=>htb b hb e
   have hm4:m<+:m4:=hc4.pre hm3 fun b hb e=>by omega
   simp
   exact (hJ _ _).2 ⟨i,j,k,n4,by simp,hi,hj,hk,by omega,hm4,hX4,hb4⟩
  ·simp
   exact (hJ _ _).2 ⟨s+Q,s+Q*2,s+Q*3,0,by simp,(hR _).2 (by omega),(hR _).2 (by omega),(hR _).2 (by omega),by omega,hm1,hX.mono hm1,hb⟩
 ·intro f m2 hJ2
  obtain ⟨i,j,k,n,hf,hi,hj,hk,hn',hm2,hX2,hb2⟩:=(hJ _ _).1 hJ2
  clear hJ2
  simp[hf]
  refine C_of (k196 t ty lo m0 g fs cs C D hcmp xs hD R hRl i j k m.length n (by omega) hi hj hk m2 (hm.trans hm2) hb3 hX2 htb hb2) ?_
  rintro _ m3 ⟨hc,x,n3,rfl,hx,hn3,hb3⟩
  have hx:=(hR x).1 hx
  have hm3:m<+:m3:=hc.pre hm2 fun b hb e=>by omega
  have hr2:=bx (own_read hb3) 0
  simp at hr2
  simp[hr2]
  by_cases h0:n3=0
  ·subst h0
   simp
   exact ⟨hm3,x,rfl,hx.1,hx.2⟩
  ·have h0': ¬(n3:Int)=0:=by omega
   by_cases h12:n3=12
   ·subst h12
    simp
    exact ⟨hm3,x,rfl,hx.1,hx.2⟩
   ·have h12: ¬(n3:Int)=12:=by omega
    simp[beqF h0',beqF h12]
    exact ⟨hm3,x,rfl,hx.1,hx.2⟩
end Go.Proofs.YtlniliigcnedmaaGreatDoor
namespace Go.Proofs.YtlniliigcnedmaaGreatDoor
open Go Ax
set_option maxRecDepth 100000
theorem owl_pre {m0 m m':AMem} {lo:Nat} {ty:TypeId} {t:AVal} {xs:List Int} (hlo:m0.length≤lo) (hX:OwL (AVal.int .i64) lo m ty t xs) (hm:m0<+:m) (hc:Ch (fun b=>t.blk=some b) m m'):m0<+:m':=hc.pre hm fun b hb h=>by have:=(hX.blk_lo h).1;omega
set_option maxHeartbeats 1000000 in
theorem k175 (t:AVal) (ty:TypeId) (lo:Nat) (xs:List Int) (s e:Nat) (hse:s<e) (hel:e≤xs.length) (hn:xs.length<2^61) (f:AVal) (m:AMem) (hX:OwL (AVal.int .i64) lo m ty t xs):
  ACalls Tryz.prog 175 [t,.int .i64 s,.int .i64 e,f] m fun _ m'=>Ch (fun b=>t.blk=some b) m m'∧ ∃ys,OwL (AVal.int .i64) lo m' ty t ys∧Shuf xs ys s e:=by
 refine w175 ?_
 have hw2:IntKind.i64.wrap ((e:Int)-1)=((e-1:Nat):Int):=by rw[wrap64 (by omega) (by omega)];omega
 simp[hw2]
 obtain ⟨I,hI⟩: ∃I:Nat→AFrame→AMem→Prop,∀q f m',I q f m'↔(∃(i j:Nat) (ys:List Int),q=j-i∧s≤i∧j<e∧f=h175_0 t (.int .i64 i) (.int .i64 j)∧Ch (fun b=>t.blk=some b) m m'∧OwL (AVal.int .i64) lo m' ty t ys∧Shuf xs ys s e):=⟨_,fun _ _ _=>Iff.rfl⟩
 refine W_loop I (e-1-s) ((hI _ _ _).2 ⟨s,e-1,xs,rfl,Nat.le_refl _,by omega,rfl,.refl _ _,hX,.refl _ _ _⟩) ?_
 rintro q f m1 hIn
 obtain ⟨i,j,ys,rfl,hi,hj,rfl,hc,hY,hsh⟩:=(hI _ _ _).1 hIn
 clear hIn
 have hyl:=hsh.len
 simp
 refine bbind_dec (fun hij=>?_) fun hij=>?_
 ·simp
  obtain ⟨xA,xB,bA,oA,bB,oB,hxA,hxB,hpA,hpB,hlA,hlB,hrA⟩:=swapMem hY (i:=i) (j:=j) (by omega) (by omega)
  refine W_draw (fun _ _ _=>True) (by simp[maxDst]) ?_
  refine D_pc 0 13 [13,14,15] ?_
  simp[hpA,hlA,hpB,hlB]
  intro _ _
  refine D_W rfl rfl fun m8 hm8 _=>?_
  obtain ⟨m9,hst9,hrB⟩:=hrA m8 hm8
  simp[hst9]
  refine D_pc 14 1 [15] ?_
  simp[hpB]
  intro _ _
  refine D_W rfl rfl fun m10 hm10 _=>?_
  obtain ⟨m11,hst11,hrC⟩:=hrB m10 hm10
  simp[hst11]
  refine D_end fun m2 hm12 _=>?_
  obtain ⟨hcS,hYS⟩:=hrC m2 hm12
  clear hrC hst11 hrB hst9 hrA hlA hlB hm8 hm10 hm12 hpA hpB
  have hw1:IntKind.i64.wrap ((i:Int)+1)=(i:Int)+1:=wrap64 (by omega) (by omega)
  have hw3:IntKind.i64.wrap ((j:Int)-1)=((j-1:Nat):Int):=by rw[wrap64 (by omega) (by omega)];omega
  simp[hw1,hw3]
  exact ⟨(j-1)-(i+1),by omega,(hI _ _ _).2 ⟨i+1,j-1,_,rfl,by omega,by omega,by simp,hc.trans hcS,hYS,hsh.trans (.swap hxA hxB (by omega) (by omega) (by omega) (by omega))⟩⟩
 ·simp
  exact ⟨hc,ys,hY,hsh⟩
end Go.Proofs.YtlniliigcnedmaaGreatDoor
namespace Go.Proofs.YtlniliigcnedmaaGreatDoor
open Go Ax
set_option maxRecDepth 100000
def LoR (C:Int→Int→Int) (xs:List Int) (s e:Nat):Prop:= ∀(x y:Int) (k:Nat),0<s→xs[s-1]? =some x→s≤k→k<e→xs[k]? =some y→C x y≤0
theorem LoR.shuf {C:Int→Int→Int} {xs ys:List Int} {s e:Nat} (h:LoR C xs s e) (hs:Shuf xs ys s e):LoR C ys s e:=fun x y k h0 h1 h2 h3 h4=>by
 rw[hs.out (s-1) (.inl (by omega))] at h1
 obtain ⟨p,p1,p2,p3⟩:=hs.inn k y h2 h3 h4
 exact h x y p h0 h1 p1 p2 p3
theorem sortedTo_shuf {C:Int→Int→Int} {ys zs:List Int} {s i e n:Nat} (h:SortedTo C (ys.drop s) n) (hs:Shuf ys zs i e) (hi:s+n≤i):SortedTo C (zs.drop s) n:=fun p q a b h1 h2 h3 h4=>by
 rw[List.getElem?_drop,hs.out _ (.inl (by omega))] at h3 h4
 exact h p q a b h1 h2 (by rw[List.getElem?_drop];exact h3) (by rw[List.getElem?_drop];exact h4)
set_option maxHeartbeats 8000000 in
theorem k176 (t:AVal) (ty:TypeId) (lo:Nat) (m0:AMem) (hlo:m0.length≤lo) (g:FuncId) (fs cs:List AVal) (C:Int→Int→Int) (D:Int→Prop) (hC:Ord C D) (hcmp:CmpOk m0 g fs cs D C) (xs:List Int) (hD: ∀x∈xs,D x) (s e:Nat) (hse:s+1≤e) (hel:e≤xs.length) (hn:xs.length<2^61) (hL:LoR C xs s e) (m:AMem) (hm:m0<+:m) (hX:OwL (AVal.int .i64) lo m ty t xs):
  ACalls Tryz.prog 176 [t,.int .i64 s,.int .i64 e,.func (.func g) fs cs] m fun v m'=>Ch (fun b=>t.blk=some b) m m'∧ ∃b ys,v= .bool b∧OwL (AVal.int .i64) lo m' ty t ys∧Shuf xs ys s e∧(b=true→SortedR C ys s e):=by
 refine w176 ?_
 have hw1:IntKind.i64.wrap ((s:Int)+1)=((s+1:Nat):Int):=by rw[wrap64 (by omega) (by omega)];omega
 have hwl:IntKind.i64.wrap ((e:Int)-s)=((e-s:Nat):Int):=by rw[wrap64 (by omega) (by omega)];omega
 simp[hw1]
 obtain ⟨I,hI⟩: ∃I:Nat→AFrame→AMem→Prop,∀q f m',I q f m'↔(∃(i j:Nat) (ys:List Int),j+q=5∧s<i∧i≤e∧f=h176_0 t (.int .i64 s) (.int .i64 e) (.func (.func g) fs cs) (.int .i64 i) (.int .i64 j)∧Ch (fun b=>t.blk=some b) m m'∧OwL (AVal.int .i64) lo m' ty t ys∧Shuf xs ys s e∧SortedTo C (ys.drop s) (i-s)):=⟨_,fun _ _ _=>Iff.rfl⟩
 refine W_loop I 5 ((hI _ _ _).2 ⟨s+1,0,xs,rfl,by omega,by omega,by simp,.refl _ _,hX,.refl _ _ _,fun p q a b h1 h2=>by omega⟩) ?_
 rintro q f m1 hIn
 obtain ⟨i,j,ys,hq,hsi,hie,rfl,hch,hY,hsh,hso⟩:=(hI _ _ _).1 hIn
 clear hIn
 have hm1:=owl_pre hlo hX hm hch
 have hDy0: ∀zs,Shuf xs zs s e→ ∀x∈zs,D x:=fun zs h x hx=>hD x (h.perm.mem_iff.1 hx)
 clear hX
 simp
 refine bbind_dec (fun hj5=>?_) fun hj5=>?_
 rotate_left
 ·simp
  exact ⟨hch,ys,hY,hsh⟩
 simp
 obtain ⟨J,hJ⟩: ∃J:AFrame→AMem→Prop,∀f m',J f m'↔(∃(i:Nat),f.forget [0,1,2,3,9,10]=mat 141 [(0,t),(1,.int .i64 s),(2,.int .i64 e),(3,.func (.func g) fs cs),(9,.int .i64 i),(10,.int .i64 j)]∧m1<+:m'∧s<i∧i≤e∧SortedTo C (ys.drop s) (i-s)):=⟨_,fun _ _=>Iff.rfl⟩
 refine W_JB J ?_ ?_
 ·obtain ⟨I1,hI1⟩: ∃I:Nat→AFrame→AMem→Prop,∀q f m',I q f m'↔(∃(i:Nat),i+q=e∧s<i∧f=h176_1 t (.int .i64 s) (.int .i64 e) (.func (.func g) fs cs) (.int .i64 i) (.int .i64 j)∧m1<+:m'∧SortedTo C (ys.drop s) (i-s)):=⟨_,fun _ _ _=>Iff.rfl⟩
  refine W_loop I1 (e-i) ((hI1 _ _ _).2 ⟨i,by omega,by omega,by simp,List.prefix_refl _,hso⟩) ?_
  clear hso hie hsi
  rintro q' f m2 hIn
  obtain ⟨i,hq',hsi,rfl,hm2,hso⟩:=(hI1 _ _ _).1 hIn
  clear hIn
  have hY2:=hY.mono hm2
  have hyl:=hsh.len
  simp
  by_cases hie:i<e
  ·have hie':(i:Int)<e:=by omega
   have hpw:IntKind.i64.wrap ((i:Int)-1)=((i-1:Nat):Int):=by rw[wrap64 (by omega) (by omega)];omega
   have hil:i<ys.length:=by omega
   have hil1:i-1<ys.length:=by omega
   obtain ⟨bX,oX,_,hpX,hlX,_⟩:=OwL.at hY2 (i:=i) hil
   obtain ⟨bY,oY,_,hpY,hlY,_⟩:=OwL.at hY2 (i:=(i-1)) hil1
   obtain ⟨vx,hvx',hvx⟩: ∃v,v=_∧_[i]? =some v:=⟨_,rfl,List.getElem?_eq_getElem hil⟩
   obtain ⟨vy,hvy',hvy⟩: ∃v,v=_∧_[(i-1)]? =some v:=⟨_,rfl,List.getElem?_eq_getElem hil1⟩
   rw[←hvx'] at hlX
   rw[←hvy'] at hlY
   have hDx:=hDy0 ys hsh _ (List.mem_of_getElem? hvx)
   have hDy:=hDy0 ys hsh _ (List.mem_of_getElem? hvy)
   clear hvx' hvy'
   refine W_draw (fun _ _ _=>True) (by simp[maxDst]) ?_
   refine D_pc 0 14 [14,15,16,17] ?_
   simp[hpX,hlX,hpY,hlY,hie',hpw]
   intro _ _
   refine D_Xg rfl rfl (b:=true) (by simp) (fun _ m5 hm5 _=>?_) (fun h=>absurd rfl h)
   simp
   have hcall:=hcmp vx vy hDx hDy m5 ((hm1.trans hm2).trans hm5)
   simp at hcall
   refine C_of hcall ?_
   rintro _ m6 ⟨rfl,hm6⟩
   refine ⟨by simp[lateOf],?_⟩
   refine D_pc 15 3 [] ?_
   simp
   intro _ _
   refine D_end fun m7 hm7 _=>?_
   replace hm7:=(hm5.trans hm6).trans hm7
   clear hm5 hm6 hcall hpX hlX hpY hlY
   by_cases hlt:C vx vy<0
   ·simp[hlt]
    exact (hJ _ _).2 ⟨i,by simp,hm2.trans hm7,hsi,by omega,hso⟩
   ·have hw:IntKind.i64.wrap ((i:Int)+1)=(i:Int)+1:=wrap64 (by omega) (by omega)
    simp[hlt,hw]
    refine ⟨q'-1,by omega,(hI1 _ _ _).2 ⟨i+1,by omega,by omega,by simp,hm2.trans hm7,?_⟩⟩
    have:=(InsInv.start hso).stop hC (fun x hx=>hDy0 ys hsh x (List.mem_of_mem_drop hx)) (.inr fun a b ha hb=>by
     rw[List.getElem?_drop,show s+(i-s)=i by omega,hvx] at ha
     rw[List.getElem?_drop,show s+(i-s-1)=i-1 by omega,hvy] at hb
     cases ha
     cases hb
     exact hlt)
    rw[show i+1-s=i-s+1 by omega]
    exact this
  ·have hie': ¬(i:Int)<e:=by omega
   refine W_draw (fun _ _ _=>True) (by simp[maxDst]) ?_
   refine D_pc 0 14 [14,15,16,17] ?_
   simp[hie']
   intro _ _
   refine D_Xg rfl rfl (b:=false) (by simp) (fun h=>by cases h) (fun _ m5 hm5 _=>⟨by simp[lateOf],?_⟩)
   refine D_pc 15 3 [] ?_
   simp
   intro _ _
   refine D_end fun m7 hm7 _=>?_
   replace hm7:=hm5.trans hm7
   clear hm5
   simp
   exact (hJ _ _).2 ⟨i,by simp,hm2.trans hm7,hsi,by omega,hso⟩
 intro f m2 hJ2
 clear hso hie hsi
 obtain ⟨i,hf,hm2,hsi,hie,hso⟩:=(hJ _ _).1 hJ2
 clear hJ2 hJ
 simp[hf]
 have hY2:=hY.mono hm2
 have hch2:=hch.trans (.of_prefix hm2)
 have hyl:=hsh.len
 by_cases he:i=e
 ·subst he
  simp
  refine ⟨hch2,ys,hY2,hsh,?_⟩
  have:=sortedR_drop hso
  rw[show s+(i-s)=i by omega] at this
  exact this
 have he': ¬(i:Int)=e:=by omega
 simp[beqF he',hwl]
 refine bbind_intro (fun h50=>?_) fun h50=>?_
 ·simp
  exact ⟨hch2,ys,hY2,hsh⟩
 have hpw:IntKind.i64.wrap ((i:Int)-1)=((i-1:Nat):Int):=by rw[wrap64 (by omega) (by omega)];omega
 have hmm2:=hm1.trans hm2
 clear hm2 hY hch hm1 h50
 simp
 obtain ⟨xA,xB,bA,oA,bB,oB,hxA,hxB,hpA,hpB,hlA,hlB,hrA⟩:=swapMem hY2 (i:=i) (j:=i-1) (by omega) (by omega)
 refine W_draw (fun _ _ _=>True) (by simp[maxDst]) ?_
 refine D_pc 0 15 [15,16,17] ?_
 simp[hpA,hlA,hpB,hlB,hpw]
 intro _ _
 refine D_W rfl rfl fun m8 hm8 _=>?_
 obtain ⟨m9,hst9,hrB⟩:=hrA m8 hm8
 simp[hst9]
 refine D_pc 16 1 [17] ?_
 simp[hpB,hpw]
 intro _ _
 refine D_W rfl rfl fun m10 hm10 _=>?_
 obtain ⟨m11,hst11,hrC⟩:=hrB m10 hm10
 simp[hst11]
 refine D_end fun m3 hm12 _=>?_
 obtain ⟨hcS,hYS⟩:=hrC m3 hm12
 clear hrC hst11 hrB hst9 hrA hlA hlB hm8 hm10 hm12 hpA hpB
 have hsw:=Shuf.swap (a:=s) (b:=e) hxA hxB (by omega) (by omega) (by omega) (by omega)
 have hsw1:=Shuf.swap (a:=i-1) (b:=e) hxA hxB (by omega) (by omega) (by omega) (by omega)
 have hsh3:=hsh.trans hsw
 have hso3:=sortedTo_shuf (n:=i-1-s) (fun p q a b h1 h2=>hso p q a b h1 (by omega)) hsw1 (by omega)
 have hch3:=hch2.trans hcS
 have hm3:=owl_pre hlo hY2 hmm2 hcS
 clear hsw hsw1 hxA hxB hso hsh hyl hcS hch2 hY2 hmm2 hf
 generalize (ys.set i xB).set (i-1) xA=ys1 at*
 clear ys
 have hyl:=hsh3.len
 have hwis:IntKind.i64.wrap ((i:Int)-s)=((i-s:Nat):Int):=by rw[wrap64 (by omega) (by omega)];omega
 simp[hwis]
 obtain ⟨J,hJ⟩: ∃J:AFrame→AMem→Prop,∀f m',J f m'↔(∃(zs:List Int),f.forget [0,1,2,3,9,10]=mat 141 [(0,t),(1,.int .i64 s),(2,.int .i64 e),(3,.func (.func g) fs cs),(9,.int .i64 i),(10,.int .i64 j)]∧Ch (fun b=>t.blk=some b) m m'∧m0<+:m'∧OwL (AVal.int .i64) lo m' ty t zs∧Shuf xs zs s e∧SortedTo C (zs.drop s) (i-s)):=⟨_,fun _ _=>Iff.rfl⟩
 refine bbind_J J ?_ ?_
 ·refine bbind_intro (fun h2=>?_) fun h2=>?_
  ·simp[hpw]
   obtain ⟨I2,hI2⟩: ∃I:Nat→AFrame→AMem→Prop,∀q f m',I q f m'↔(∃(k:Nat) (zs:List Int),q=k∧s≤k∧k<i∧f=h176_2 t (.int .i64 s) (.int .i64 e) (.func (.func g) fs cs) (.int .i64 i) (.int .i64 j) (.int .i64 k)∧Ch (fun b=>t.blk=some b) m m'∧m0<+:m'∧OwL (AVal.int .i64) lo m' ty t zs∧Shuf xs zs s e∧InsInv C (zs.drop s) (i-1-s) (k-s)):=⟨_,fun _ _ _=>Iff.rfl⟩
   refine W_loop I2 (i-1) ((hI2 _ _ _).2 ⟨i-1,ys1,rfl,by omega,by omega,by simp,hch3,hm3,hYS,hsh3,InsInv.start hso3⟩) ?_
   clear hch3 hm3 hYS hsh3 hso3 hyl
   rintro k f m4 hIn
   obtain ⟨_,zs,rfl,hsk,hki,rfl,hch4,hm4,hZ,hsh4,hins⟩:=(hI2 _ _ _).1 hIn
   clear hIn
   have hzl:=hsh4.len
   have hDz:=hDy0 zs hsh4
   simp
   refine bbind_intro (fun h1k=>?_) fun h1k=>?_
   ·have h1k:1≤k:=by simp at h1k;omega
    have hk0:k<zs.length:=by omega
    have hk1:k-1<zs.length:=by omega
    have hpk:IntKind.i64.wrap ((k:Int)-1)=((k-1:Nat):Int):=by rw[wrap64 (by omega) (by omega)];omega
    simp
    obtain ⟨bX,oX,_,hpX,hlX,_⟩:=OwL.at hZ (i:=k) hk0
    obtain ⟨bY,oY,_,hpY,hlY,_⟩:=OwL.at hZ (i:=(k-1)) hk1
    obtain ⟨vx,hvx',hvx⟩: ∃v,v=_∧_[k]? =some v:=⟨_,rfl,List.getElem?_eq_getElem hk0⟩
    obtain ⟨vy,hvy',hvy⟩: ∃v,v=_∧_[(k-1)]? =some v:=⟨_,rfl,List.getElem?_eq_getElem hk1⟩
    rw[←hvx'] at hlX
    rw[←hvy'] at hlY
    have hDx:=hDz _ (List.mem_of_getElem? hvx)
    have hDy:=hDz _ (List.mem_of_getElem? hvy)
    clear hvx' hvy'
    refine W_draw (fun _ _ _=>True) (by simp[maxDst]) ?_
    refine D_pc 0 10 [10,11,12] ?_
    simp[hpX,hlX,hpY,hlY,hpk]
    intro _ _
    refine D_X rfl rfl fun m5 hm5 _=>?_
    simp
    have hcall:=hcmp vx vy hDx hDy m5 ((hm4).trans hm5)
    simp at hcall
    refine C_of hcall ?_
    rintro _ m6 ⟨rfl,hm6⟩
    refine ⟨by simp[lateOf],?_⟩
    refine D_pc 11 2 [] ?_
    simp
    intro _ _
    refine D_end fun m7 hm7 _=>?_
    replace hm7:=(hm5.trans hm6).trans hm7
    clear hm5 hm6 hcall hpX hlX hpY hlY
    have hZ7:=hZ.mono hm7
    by_cases hlt:C vx vy<0
    ·have hks:s<k:=by
      apply Classical.byContradiction
      intro h
      obtain rfl:k=s:=by omega
      have:=(hL.shuf hsh4) vy vx k (by omega) hvy (by omega) (by omega) hvx
      rw[hC.anti _ _ hDx hDy] at hlt
      omega
     simp[hlt]
     obtain ⟨xA,xB,bA,oA,bB,oB,hxA,hxB,hpA,hpB,hlA,hlB,hrA⟩:=swapMem hZ7 (i:=k) (j:=k-1) (by omega) (by omega)
     refine W_draw (fun _ _ _=>True) (by simp[maxDst]) ?_
     refine D_pc 0 15 [15,16,17] ?_
     simp[hpA,hlA,hpB,hlB,hpk]
     intro _ _
     refine D_W rfl rfl fun m8 hm8 _=>?_
     obtain ⟨m9,hst9,hrB⟩:=hrA m8 hm8
     simp[hst9]
     refine D_pc 16 1 [17] ?_
     simp[hpB,hpk]
     intro _ _
     refine D_W rfl rfl fun m10 hm10 _=>?_
     obtain ⟨m11,hst11,hrC⟩:=hrB m10 hm10
     simp[hst11]
     refine D_end fun m8' hm12 _=>?_
     obtain ⟨hcS,hYS⟩:=hrC m8' hm12
     clear hrC hst11 hrB hst9 hrA hlA hlB hm8 hm10 hm12 hpA hpB
     simp[hpk]
     have hsw:=Shuf.swap (a:=s) (b:=e) hxA hxB (by omega) (by omega) (by omega) (by omega)
     refine ⟨k-1,by omega,(hI2 _ _ _).2 ⟨k-1,_,rfl,by omega,by omega,by simp,(hch4.trans (.of_prefix hm7)).trans hcS,owl_pre hlo hZ7 (hm4.trans hm7) hcS,hYS,hsh4.trans hsw,?_⟩⟩
     rw[hvx] at hxA
     rw[hvy] at hxB
     cases hxA
     cases hxB
     have hd:=drop_swap (ys:=zs) (a:=s) (j:=k-1-s) (x:=vx) (y:=vy) (by omega)
     rw[show s+(k-1-s)+1=k by omega,show s+(k-1-s)=k-1 by omega] at hd
     rw[hd]
     rw[show k-s=k-1-s+1 by omega] at hins
     refine hins.swap ?_ ?_ hlt
     ·rw[List.getElem?_drop,show s+(k-1-s+1)=k by omega];exact hvx
     ·rw[List.getElem?_drop,show s+(k-1-s)=k-1 by omega];exact hvy
    ·simp[hlt]
     refine (hJ _ _).2 ⟨zs,by simp,hch4.trans (.of_prefix hm7),hm4.trans hm7,hZ7,hsh4,?_⟩
     have:=hins.stop hC (fun x hx=>hDz x (List.mem_of_mem_drop hx)) (by
      by_cases hks:k=s
      ·exact .inl (by omega)
      ·refine .inr fun a b ha hb=>?_
       rw[List.getElem?_drop,show s+(k-s)=k by omega,hvx] at ha
       rw[List.getElem?_drop,show s+(k-s-1)=k-1 by omega,hvy] at hb
       cases ha
       cases hb
       exact hlt)
     rw[show i-s=i-1-s+1 by omega]
     exact this
   ·have h1k: ¬1≤k:=by simp at h1k;omega
    simp
    refine (hJ _ _).2 ⟨zs,by simp,hch4,hm4,hZ,hsh4,?_⟩
    have:=hins.stop hC (fun x hx=>hDz x (List.mem_of_mem_drop hx)) (.inl (by omega))
    rw[show i-s=i-1-s+1 by omega]
    exact this
  ·have h2: ¬2≤i-s:=by simp at h2;omega
   simp
   exact (hJ _ _).2 ⟨ys1,by simp,hch3,hm3,hYS,hsh3,fun p q a b h1 h2=>by omega⟩
 clear hch3 hm3 hYS hsh3 hso3 hyl
 intro f m4 hJ2
 obtain ⟨ys,hf,hch4,hm4,hY,hsh4,hso4⟩:=(hJ _ _).1 hJ2
 clear hJ2
 have hwei:IntKind.i64.wrap ((e:Int)-i)=((e-i:Nat):Int):=by rw[wrap64 (by omega) (by omega)];omega
 have hwi1:IntKind.i64.wrap ((i:Int)+1)=((i+1:Nat):Int):=by rw[wrap64 (by omega) (by omega)];omega
 have hwj1:IntKind.i64.wrap ((j:Int)+1)=((j+1:Nat):Int):=by rw[wrap64 (by omega) (by omega)];omega
 simp[hf,hwei]
 refine bbind_JB J ?_ ?_
 ·refine bbind_intro (fun h2=>?_) fun h2=>?_
  ·simp[hwi1]
   obtain ⟨I3,hI3⟩: ∃I:Nat→AFrame→AMem→Prop,∀q f m',I q f m'↔(∃(k:Nat) (zs:List Int),k+q=e∧i<k∧f=h176_3 t (.int .i64 s) (.int .i64 e) (.func (.func g) fs cs) (.int .i64 i) (.int .i64 j) (.int .i64 k)∧Ch (fun b=>t.blk=some b) m m'∧m0<+:m'∧OwL (AVal.int .i64) lo m' ty t zs∧Shuf xs zs s e∧SortedTo C (zs.drop s) (i-s)):=⟨_,fun _ _ _=>Iff.rfl⟩
   refine W_loop I3 (e-(i+1)) ((hI3 _ _ _).2 ⟨i+1,ys,by omega,by omega,by simp,hch4,hm4,hY,hsh4,hso4⟩) ?_
   clear hch4 hm4 hY hsh4 hso4
   rintro q' f m5' hIn
   obtain ⟨k,zs,hq',hik,rfl,hch4,hm4,hZ,hsh4,hso4⟩:=(hI3 _ _ _).1 hIn
   clear hIn
   have hzl:=hsh4.len
   have hDz:=hDy0 zs hsh4
   simp
   refine bbind_intro (fun hke=>?_) fun hke=>?_
   ·have hke:k<e:=by simp at hke;omega
    have hk0:k<zs.length:=by omega
    have hk1:k-1<zs.length:=by omega
    have hpk:IntKind.i64.wrap ((k:Int)-1)=((k-1:Nat):Int):=by rw[wrap64 (by omega) (by omega)];omega
    have hpk1:IntKind.i64.wrap ((k:Int)+1)=((k+1:Nat):Int):=by rw[wrap64 (by omega) (by omega)];omega
    simp
    obtain ⟨bX,oX,_,hpX,hlX,_⟩:=OwL.at hZ (i:=k) hk0
    obtain ⟨bY,oY,_,hpY,hlY,_⟩:=OwL.at hZ (i:=(k-1)) hk1
    obtain ⟨vx,hvx',hvx⟩: ∃v,v=_∧_[k]? =some v:=⟨_,rfl,List.getElem?_eq_getElem hk0⟩
    obtain ⟨vy,hvy',hvy⟩: ∃v,v=_∧_[(k-1)]? =some v:=⟨_,rfl,List.getElem?_eq_getElem hk1⟩
    rw[←hvx'] at hlX
    rw[←hvy'] at hlY
    have hDx:=hDz _ (List.mem_of_getElem? hvx)
    have hDy:=hDz _ (List.mem_of_getElem? hvy)
    clear hvx' hvy'
    refine W_draw (fun _ _ _=>True) (by simp[maxDst]) ?_
    refine D_pc 0 10 [10,11,12] ?_
    simp[hpX,hlX,hpY,hlY,hpk]
    intro _ _
    refine D_X rfl rfl fun m5 hm5 _=>?_
    simp
    have hcall:=hcmp vx vy hDx hDy m5 ((hm4).trans hm5)
    simp at hcall
    refine C_of hcall ?_
    rintro _ m6 ⟨rfl,hm6⟩
    refine ⟨by simp[lateOf],?_⟩
    refine D_pc 11 2 [] ?_
    simp
    intro _ _
    refine D_end fun m7 hm7 _=>?_
    replace hm7:=(hm5.trans hm6).trans hm7
    clear hm5 hm6 hcall hpX hlX hpY hlY
    have hZ7:=hZ.mono hm7
    by_cases hlt:C vx vy<0
    ·simp[hlt]
     obtain ⟨xA,xB,bA,oA,bB,oB,hxA,hxB,hpA,hpB,hlA,hlB,hrA⟩:=swapMem hZ7 (i:=k) (j:=k-1) (by omega) (by omega)
     refine W_draw (fun _ _ _=>True) (by simp[maxDst]) ?_
     refine D_pc 0 15 [15,16,17] ?_
     simp[hpA,hlA,hpB,hlB,hpk]
     intro _ _
     refine D_W rfl rfl fun m8 hm8 _=>?_
     obtain ⟨m9,hst9,hrB⟩:=hrA m8 hm8
     simp[hst9]
     refine D_pc 16 1 [17] ?_
     simp[hpB,hpk]
     intro _ _
     refine D_W rfl rfl fun m10 hm10 _=>?_
     obtain ⟨m11,hst11,hrC⟩:=hrB m10 hm10
     simp[hst11]
     refine D_end fun m8' hm12 _=>?_
     obtain ⟨hcS,hYS⟩:=hrC m8' hm12
     clear hrC hst11 hrB hst9 hrA hlA hlB hm8 hm10 hm12 hpA hpB
     simp[hpk1]
     have hsw:=Shuf.swap (a:=i) (b:=e) hxA hxB (by omega) (by omega) (by omega) (by omega)
     exact ⟨q'-1,by omega,(hI3 _ _ _).2 ⟨k+1,_,by omega,by omega,by simp,(hch4.trans (.of_prefix hm7)).trans hcS,owl_pre hlo hZ7 (hm4.trans hm7) hcS,hYS,hsh4.trans (hsw.wide (by omega) (Nat.le_refl _)),sortedTo_shuf hso4 hsw (by omega)⟩⟩
    ·simp[hlt]
     exact (hJ _ _).2 ⟨zs,by simp,hch4.trans (.of_prefix hm7),hm4.trans hm7,hZ7,hsh4,hso4⟩
   ·simp
    exact (hJ _ _).2 ⟨zs,by simp,hch4,hm4,hZ,hsh4,hso4⟩
  ·simp
   exact (hJ _ _).2 ⟨ys,by simp,hch4,hm4,hY,hsh4,hso4⟩
 clear hch4 hm4 hY hsh4 hso4 hf
 intro f m5' hJ2
 obtain ⟨zs,hf,hch4,hm4,hZ,hsh4,hso4⟩:=(hJ _ _).1 hJ2
 clear hJ2
 simp[hf,hwj1]
 exact ⟨q-1,by omega,(hI _ _ _).2 ⟨i,j+1,zs,by omega,hsi,hie,by simp,hch4,hZ,hsh4,hso4⟩⟩
end Go.Proofs.YtlniliigcnedmaaGreatDoor
namespace Go.Proofs.YtlniliigcnedmaaGreatDoor
open Go Ax
set_option maxRecDepth 100000
def lenTab (s:ByteArray):Bool:=(List.range 256).all fun n=>n==0||(match ixsE (.str s) (.int .u8 n) with|some (.int .u8 z)=>decide (0≤z)&&decide (z≤8)&&Nat.ble (2^z.toNat) (2*n)|_=>false)
theorem obind_lt {k:AVal→Prop} {t:Tag k} {s:ByteArray} {n:Nat} (hs:lenTab s=true) (hn:n<256) (h1:1≤n) (h: ∀z:Nat,z≤8→2^z≤2*n→k (.int .u8 z)):obind k t (ixsE (.str s) (.int .u8 n)):=by
 have:=List.all_eq_true.1 hs n (List.mem_range.2 hn)
 have hn0:(n==0)=false:=by simp;omega
 rw[hn0,Bool.false_or] at this
 split at this
 ·rename_i z hz
  rw[hz,obind_some]
  simp at this
  obtain ⟨w,rfl⟩: ∃w:Nat,z=w:=⟨z.toNat,by omega⟩
  exact h w (by omega) (by simpa using this.2)
 ·cases this
theorem k155e (n:Nat) (h1:1≤n) (hn:n<256) (m:AMem):ACalls Tryz.prog 155 [.int .u64 n] m fun v m'=>(∃z:Nat,v= .int .i64 z∧z≤8∧2^z≤2*n)∧m'=m:=by
 refine w155 ?_
 have h1': ¬(4294967296:Int)≤n:=by omega
 have h2: ¬(65536:Int)≤n:=by omega
 have h3: ¬(256:Int)≤n:=by omega
 have hw:IntKind.u8.wrap (n:Int)=n:=by
  simp only[IntKind.wrap,IntKind.bits,IntKind.signed,Bool.false_and]
  simp
  omega
 simp[h1',h2,h3,hw]
 refine obind_lt (by kernel_rfl) hn h1 fun z hz hzn=>?_
 have hwz:IntKind.i64.wrap (z:Int)=z:=wrap64 (by omega) (by omega)
 simp[hwz]
 exact ⟨z,rfl,hz,hzn⟩
theorem k115e (n:Nat) (h1:1≤n) (hn:n<256) (m:AMem):ACalls Tryz.prog 115 [.int .u64 n] m fun v m'=>(∃z:Nat,v= .int .i64 z∧z≤8∧2^z≤2*n)∧m'=m:=by
 refine w115 ?_
 simp
 refine C_of (k155e n h1 hn m) ?_
 rintro _ _ ⟨⟨z,rfl,h⟩,rfl⟩
 simp
 exact ⟨z,rfl,h⟩
theorem shl_pow {z:Nat} (h:z≤8):binShift .shl .u64 1 (z:Int)=some (.int .u64 (2^z:Nat)):=by
 have:z=0∨z=1∨z=2∨z=3∨z=4∨z=5∨z=6∨z=7∨z=8:=by omega
 rcases this with rfl|rfl|rfl|rfl|rfl|rfl|rfl|rfl|rfl<;>rfl
theorem k182 (n:Nat) (h1:1≤n) (hn:n<256) (m:AMem):ACalls Tryz.prog 182 [.int .i64 n] m fun v m'=>(∃p:Nat,v= .int .u64 p∧1≤p∧p≤2*n)∧m'=m:=by
 refine w182 ?_
 have hw:IntKind.u64.wrap (n:Int)=n:=by
  simp only[IntKind.wrap,IntKind.bits,IntKind.signed,Bool.false_and]
  simp
  omega
 simp[hw]
 refine C_of (k115e n h1 hn m) ?_
 rintro _ _ ⟨⟨z,rfl,hz,hzn⟩,rfl⟩
 simp[shl_pow hz]
 exact ⟨2^z,by simp,Nat.two_pow_pos z,hzn⟩
theorem and_le (y:Int) (b:Nat) (hb:b<18446744073709551616): ∃r:Nat,bits .and .u64 y (b:Int)=(r:Int)∧r≤b:=by
 have h2:(BitVec.ofInt 64 (b:Int)).toNat=b:=by
  rw[BitVec.ofInt_natCast,BitVec.toNat_ofNat];exact Nat.mod_eq_of_lt (by omega)
 refine ⟨(BitVec.ofInt 64 y).toNat&&&b,?_,Nat.and_le_right⟩
 show IntKind.u64.wrap ((BitVec.ofInt 64 y&&&BitVec.ofInt 64 (b:Int)).toNat:Int)=_
 have:=Nat.and_le_right (n:=(BitVec.ofInt 64 y).toNat) (m:=b)
 rw[BitVec.toNat_and,h2,IntKind.wrap_u64]
 omega
theorem shl_u64 (x:Int) (k:Nat): ∃y,binShift .shl .u64 x (k:Int)=some (.int .u64 y):=⟨_,by unfold binShift;rw[if_neg (by omega)]⟩
theorem shr_u64 (x:Int) (k:Nat): ∃y,binShift .shr .u64 x (k:Int)=some (.int .u64 y):=⟨_,by unfold binShift;rw[if_neg (by omega)]⟩
theorem k183 (b:Nat) (x:Int) (m:AMem) (hb:m[b]? =some (.own [.int .u64 x] 179 none)):ACalls Tryz.prog 183 [.ptr b 0] m fun v m'=>Ch (fun c=>c=b) m m'∧ ∃y,v= .int .u64 y∧m'[b]? =some (.own [.int .u64 y] 179 none):=by
 refine w183 ?_
 have step: ∀(m:AMem) (x y:Int),m[b]? =some (.own [.int .u64 x] 179 none)→ ∃m',storeE m 1 (.ptr b 0) (.int .u64 y)=some (.undef,m')∧m'[b]? =some (.own [.int .u64 y] 179 none)∧Ch (fun c=>c=b) m m':=fun m x y h=>fld_store (i:=0) h (by simp) rfl rfl
 have rd: ∀(m:AMem) (x:Int),m[b]? =some (.own [.int .u64 x] 179 none)→loadE m 1 false (.ptr b 0)=some (.int .u64 x):=fun m x h=>by
  have:=bx (own_read h) 0
  simpa using this
 obtain ⟨y1,h1⟩:=shl_u64 x 13
 simp
 refine W_draw (fun _ _ _=>True) (by simp[maxDst]) ?_
 refine D_pc 0 9 [9] ?_
 have h1':=rd m x hb
 simp at h1 h1'
 simp[POp.ev,h1',h1]
 intro _ _
 refine D_W rfl rfl fun m2 hm2 _=>?_
 obtain ⟨m3,hs3,hb3,hc3⟩:=step m2 x (bits .xor .u64 x y1) (own_mono hb hm2)
 simp[hs3]
 refine D_end fun m4 hm4 _=>?_
 have hb4:=own_mono hb3 hm4
 generalize bits .xor .u64 x y1=x at*
 obtain ⟨y1,h1⟩:=shr_u64 x 7
 simp
 refine W_draw (fun _ _ _=>True) (by simp[maxDst]) ?_
 refine D_pc 0 9 [9] ?_
 have h1':=rd m4 x hb4
 simp at h1 h1'
 simp[POp.ev,h1',h1]
 intro _ _
 refine D_W rfl rfl fun m5 hm5 _=>?_
 obtain ⟨m6,hs6,hb6,hc6⟩:=step m5 x (bits .xor .u64 x y1) (own_mono hb4 hm5)
 simp[hs6]
 refine D_end fun m7 hm7 _=>?_
 have hb7:=own_mono hb6 hm7
 generalize bits .xor .u64 x y1=x at*
 obtain ⟨y1,h1⟩:=shl_u64 x 17
 simp
 refine W_draw (fun _ _ _=>True) (by simp[maxDst]) ?_
 refine D_pc 0 9 [9] ?_
 have h1':=rd m7 x hb7
 simp at h1 h1'
 simp[POp.ev,h1',h1]
 intro _ _
 refine D_W rfl rfl fun m8 hm8 _=>?_
 obtain ⟨m9,hs9,hb9,hc9⟩:=step m8 x (bits .xor .u64 x y1) (own_mono hb7 hm8)
 simp[hs9]
 refine D_end fun m10 hm10 _=>?_
 have hb10:=own_mono hb9 hm10
 have h1':=rd m10 _ hb10
 simp[POp.ev,h1']
 exact ⟨((((((Ch.of_prefix hm2).trans hc3).trans (.of_prefix hm4)).trans (.of_prefix hm5)).trans (hc6.trans (.of_prefix hm7))).trans (.of_prefix hm8)).trans (hc9.trans (.of_prefix hm10)),hb10⟩
set_option maxHeartbeats 4000000 in
theorem k173 (t:AVal) (ty:TypeId) (lo:Nat) (xs:List Int) (s e:Nat) (hse:s+8≤e) (hel:e≤xs.length) (hn:xs.length<256) (f:AVal) (m:AMem) (hX:OwL (AVal.int .i64) lo m ty t xs):
  ACalls Tryz.prog 173 [t,.int .i64 s,.int .i64 e,f] m fun _ m'=>Ch (fun b=>t.blk=some b) m m'∧ ∃ys,OwL (AVal.int .i64) lo m' ty t ys∧Shuf xs ys s e:=by
 refine w173 ?_
 have hwl:IntKind.i64.wrap ((e:Int)-s)=((e-s:Nat):Int):=by rw[wrap64 (by omega) (by omega)];omega
 obtain ⟨N,hN⟩: ∃N:Nat,N=e-s:=⟨_,rfl⟩
 obtain ⟨Q,hQ⟩: ∃Q:Nat,Q=N / 4:=⟨_,rfl⟩
 rw[←hN] at hwl
 have h8:8≤N:=by omega
 have h8':(8:Int)≤(N:Int):=by omega
 have hwu:IntKind.u64.wrap (N:Int)=N:=by
  simp only[IntKind.wrap,IntKind.bits,IntKind.signed,Bool.false_and]
  simp
  omega
 have hq0:(N:Int).tdiv 4=(Q:Int):=by rw[Int.tdiv_eq_ediv_of_nonneg (by omega)];omega
 have hq1:IntKind.i64.wrap (Q:Int)=(Q:Int):=wrap64 (by omega) (by omega)
 obtain ⟨Q2,hQ2⟩: ∃Q2:Nat,Q2=Q*2:=⟨_,rfl⟩
 obtain ⟨T,hT⟩: ∃T:Nat,T=s+Q2:=⟨_,rfl⟩
 obtain ⟨T0,hT0⟩: ∃T0:Nat,T0+1=T:=⟨T-1,by omega⟩
 have hq2:IntKind.i64.wrap ((Q:Int)*2)=(Q2:Int):=by rw[wrap64 (by omega) (by omega)];omega
 have hq3:IntKind.i64.wrap ((s:Int)+Q2)=(T:Int):=by rw[wrap64 (by omega) (by omega)];omega
 have hq4:IntKind.i64.wrap ((T:Int)-1)=(T0:Int):=by rw[wrap64 (by omega) (by omega)];omega
 have hq5:IntKind.i64.wrap ((T:Int)+1)=(T:Int)+1:=wrap64 (by omega) (by omega)
 have hbnd:T+1<e:=by omega
 have hbnd0:s≤T0:=by omega
 have hTl:T<256:=by omega
 clear hT hQ2 hQ
 have hsB: ∃m1,storeE (m++ [ABlk.own [.int .u64 0] 179 none]) 1 (.ptr m.length 0) (.int .u64 N)=some (.undef,m1)∧m1[m.length]? =some (.own [.int .u64 (N:Int)] 179 none)∧Ch (fun c=>c=m.length) (m++ [ABlk.own [.int .u64 0] 179 none]) m1:=by
  have h0:(m++ [ABlk.own [.int .u64 0] 179 none])[m.length]? =some (ABlk.own [.int .u64 0] 179 none):=by simp
  exact fld_store (i:=0) h0 (by simp) rfl rfl
 obtain ⟨m1,hst,hb1,hc1⟩:=hsB
 have hm1:m<+:m1:=hc1.pre (List.prefix_append _ _) fun b hb h=>by omega
 have hX1:=hX.mono hm1
 simp[hwl,h8',hwu,hst]
 refine C_of (k182 N (by omega) (by omega) m1) ?_
 rintro _ m1 ⟨⟨p,rfl,hp1,hp2⟩,rfl⟩
 simp[hwl,hq0,hq1,hq2,hq3,hq4]
 obtain ⟨I,hI⟩: ∃I:Nat→AFrame→AMem→Prop,∀q f m',I q f m'↔(∃(i:Nat) (ys:List Int) (x:Int),i+q=T+2∧s≤i∧f=h173_0 t (.int .i64 s) (.int .i64 N) (.ptr m.length 0) (.int .u64 p) (.int .i64 i)∧Ch (fun b=>t.blk=some b∨b=m.length) m1 m'∧OwL (AVal.int .i64) lo m' ty t ys∧Shuf xs ys s e∧m'[m.length]? =some (.own [.int .u64 x] 179 none)):=⟨_,fun _ _ _=>Iff.rfl⟩
 refine W_loop I 3 ((hI _ _ _).2 ⟨T0,xs,N,by omega,hbnd0,by simp,.refl _ _,hX1,.refl _ _ _,hb1⟩) ?_
 have htb: ∀b,t.blk=some b→b≠m.length:=fun b hb e=>by have:=(hX.blk_lo hb).2;omega
 clear hX1 hb1
 rintro q f m2 hIn
 obtain ⟨i,ys,x,hq,hsi,rfl,hc2,hY,hsh,hb2⟩:=(hI _ _ _).1 hIn
 clear hIn
 have hyl:=hsh.len
 simp[hq0,hq1,hq2,hq3,hq5]
 refine bbind_intro (fun hil=>?_) fun hil=>?_
 ·have hil:i≤T+1:=by simp at hil;omega
  simp
  refine C_of (k183 m.length x m2 hb2) ?_
  rintro _ m3 ⟨hc3,y,rfl,hb3⟩
  have hY3:=hY.ch hc3 fun b hb e=>htb b hb e
  obtain ⟨r,hr,hrp⟩:=and_le y (p-1) (by omega)
  have hpw:IntKind.u64.wrap ((p:Int)-1)=((p-1:Nat):Int):=by
   simp only[IntKind.wrap,IntKind.bits,IntKind.signed,Bool.false_and]
   simp
   omega
  have hrw:IntKind.i64.wrap (r:Int)=(r:Int):=wrap64 (by omega) (by omega)
  simp[hpw,hr,hrw]
  obtain ⟨J,hJ⟩: ∃J:AFrame→AMem→Prop,∀f m',J f m'↔(∃(j:Nat),f.forget [0,1,8,9,10,11,12]=mat 67 [(0,t),(1,.int .i64 s),(8,.int .i64 N),(9,.ptr m.length 0),(10,.int .u64 p),(11,.int .i64 i),(12,.int .i64 j)]∧m'=m3∧j<N):=⟨_,fun _ _=>Iff.rfl⟩
  refine bbind_J J ?_ ?_
  ·refine bbind_intro (fun h=>?_) fun h=>?_
   ·have h:N≤r:=by simp at h;omega
    have hw:IntKind.i64.wrap ((r:Int)-N)=((r-N:Nat):Int):=by rw[wrap64 (by omega) (by omega)];omega
    simp[hw]
    exact (hJ _ _).2 ⟨r-N,by simp,rfl,by omega⟩
   ·have h: ¬N≤r:=by simp at h;omega
    simp
    exact (hJ _ _).2 ⟨r,by simp,rfl,by omega⟩
  ·intro f m4 hJ2
   obtain ⟨j,hf,rfl,hjN⟩:=(hJ _ _).1 hJ2
   clear hJ2
   obtain ⟨k,hk⟩: ∃k:Nat,k=s+j:=⟨_,rfl⟩
   have hw:IntKind.i64.wrap ((s:Int)+j)=(k:Int):=by rw[wrap64 (by omega) (by omega)];omega
   simp[hf]
   obtain ⟨xA,xB,bA,oA,bB,oB,hxA,hxB,hpA,hpB,hlA,hlB,hrA⟩:=swapMem hY3 (i:=i) (j:=k) (by omega) (by omega)
   refine W_draw (fun _ _ _=>True) (by simp[maxDst]) ?_
   refine D_pc 0 17 [17,18,19] ?_
   simp[hpA,hlA,hpB,hlB,hw]
   intro _ _
   refine D_W rfl rfl fun m8 hm8 _=>?_
   obtain ⟨m9,hst9,hrB⟩:=hrA m8 hm8
   simp[hst9]
   refine D_pc 18 1 [19] ?_
   simp[hpB,hw]
   intro _ _
   refine D_W rfl rfl fun m10 hm10 _=>?_
   obtain ⟨m11,hst11,hrC⟩:=hrB m10 hm10
   simp[hst11]
   refine D_end fun m5 hm12 _=>?_
   obtain ⟨hcS,hYS⟩:=hrC m5 hm12
   clear hrC hst11 hrB hst9 hrA hlA hlB hm8 hm10 hm12 hpA hpB
   have hw1:IntKind.i64.wrap ((i:Int)+1)=((i+1:Nat):Int):=by rw[wrap64 (by omega) (by omega)];omega
   simp[hw1]
   exact ⟨q-1,by omega,(hI _ _ _).2 ⟨i+1,_,y,by omega,by omega,by simp,(hc2.trans (hc3.weaken fun b _ h=> .inr h)).trans (hcS.weaken fun b _ h=> .inl h),hYS,hsh.trans (.swap hxA hxB (by omega) (by omega) (by omega) (by omega)),own_ch hb3 hcS fun h=>htb _ h rfl⟩⟩
 ·simp
  exact ⟨((Ch.of_prefix hm1).trans hc2).weaken fun b hb h=>h.elim id fun h=>by omega,ys,hY,hsh⟩
end Go.Proofs.YtlniliigcnedmaaGreatDoor
namespace Go.Proofs.YtlniliigcnedmaaGreatDoor
open Go Ax
set_option maxRecDepth 100000
def CE (C:Int→Int→Int) (y P:Int):Int:=if C P y<0 then 0 else-1
theorem CE_lt {C:Int→Int→Int} {y P:Int}:CE C y P<0↔ ¬C P y<0:=by unfold CE;split<;>simp[*]
set_option maxHeartbeats 8000000 in
theorem k177 (t:AVal) (ty:TypeId) (lo:Nat) (m0:AMem) (hlo:m0.length≤lo) (g:FuncId) (fs cs:List AVal) (C:Int→Int→Int) (D:Int→Prop) (hC:Ord C D) (hcmp:CmpOk m0 g fs cs D C) (xs:List Int) (hD: ∀x∈xs,D x) (s e p:Nat) (hsp:s≤p) (hpe:p<e) (hel:e≤xs.length) (hn:xs.length<2^61) (m:AMem) (hm:m0<+:m) (hX:OwL (AVal.int .i64) lo m ty t xs):
  ACalls Tryz.prog 177 [t,.int .i64 s,.int .i64 e,.int .i64 p,.func (.func g) fs cs] m fun v m'=>Ch (fun b=>t.blk=some b) m m'∧ ∃ys P,∃mid:Nat,v= .int .i64 mid∧OwL (AVal.int .i64) lo m' ty t ys∧Shuf xs ys s e∧xs[p]? =some P∧s<mid∧mid≤e∧(∀(k:Nat) y,s≤k→k<mid→ys[k]? =some y→ ¬C P y<0)∧(∀(k:Nat) y,mid≤k→k<e→ys[k]? =some y→C P y<0):=by
 refine w177 ?_
 have hw1:IntKind.i64.wrap ((s:Int)+1)=((s+1:Nat):Int):=by rw[wrap64 (by omega) (by omega)];omega
 have hw2:IntKind.i64.wrap ((e:Int)-1)=((e-1:Nat):Int):=by rw[wrap64 (by omega) (by omega)];omega
 have hDy: ∀zs,Shuf xs zs s e→ ∀x∈zs,D x:=fun zs h x hx=>hD x (h.perm.mem_iff.1 hx)
 simp
 obtain ⟨xA,xB,bA,oA,bB,oB,hxA,hxB,hpA,hpB,hlA,hlB,hrA⟩:=swapMem hX (i:=s) (j:=p) (by omega) (by omega)
 refine W_draw (fun _ _ _=>True) (by simp[maxDst]) ?_
 refine D_pc 0 13 [13,14,15] ?_
 simp[hpA,hlA,hpB,hlB]
 intro _ _
 refine D_W rfl rfl fun m8 hm8 _=>?_
 obtain ⟨m9,hst9,hrB⟩:=hrA m8 hm8
 simp[hst9]
 refine D_pc 14 1 [15] ?_
 simp[hpB]
 intro _ _
 refine D_W rfl rfl fun m10 hm10 _=>?_
 obtain ⟨m11,hst11,hrC⟩:=hrB m10 hm10
 simp[hst11]
 refine D_end fun m1 hm12 _=>?_
 obtain ⟨hcS,hYS⟩:=hrC m1 hm12
 clear hrC hst11 hrB hst9 hrA hlA hlB hm8 hm10 hm12 hpA hpB
 simp[hw1,hw2]
 have hm1:=owl_pre hlo hX hm hcS
 have hP0:Part (CE C) xs s e xB ((xs.set s xB).set p xA) (s+1) (e-1):=by
  have l1:=(List.getElem?_eq_some_iff.1 hxA).1
  have l2:=(List.getElem?_eq_some_iff.1 hxB).1
  refine ⟨Shuf.swap hxA hxB (by omega) (by omega) hsp hpe,?_,fun k y h1 h2=>by omega,fun k y h1 h2=>by omega,by omega,by omega,by omega⟩
  rw[swap_get l1 l2]
  by_cases h:s=p
  ·subst h;rw[if_pos rfl];rw[hxA] at hxB;exact hxB
  ·rw[if_neg h,if_pos rfl]
 have hDP:D xB:=hD _ (List.mem_of_getElem? hxB)
 generalize (xs.set s xB).set p xA=ys at*
 clear hX hxA
 generalize xB=P at*
 obtain ⟨I,hI⟩: ∃I:Nat→AFrame→AMem→Prop,∀q f m',I q f m'↔(∃(i j:Nat) (ys:List Int),i+q=j+1∧f=h177_0 t (.int .i64 s) (.func (.func g) fs cs) (.int .i64 i) (.int .i64 j)∧Ch (fun b=>t.blk=some b) m m'∧m0<+:m'∧OwL (AVal.int .i64) lo m' ty t ys∧Part (CE C) xs s e P ys i j):=⟨_,fun _ _ _=>Iff.rfl⟩
 refine W_loop I (e-1+1-(s+1)) ((hI _ _ _).2 ⟨s+1,e-1,ys,by have:=hP0.ij;omega,by simp,hcS,hm1,hYS,hP0⟩) ?_
 clear hcS hm1 hYS hP0 ys
 rintro q f m1 hIn
 obtain ⟨i,j,ys,hq,rfl,hch,hm1,hY,hP⟩:=(hI _ _ _).1 hIn
 clear hIn
 have hDs:=hDy _ hP.sh
 have hyl:=hP.sh.len
 have hsl:s<ys.length:=by omega
 simp
 obtain ⟨Q,hQ⟩: ∃Q,Q=q:=⟨_,rfl⟩
 obtain ⟨J,hJ⟩: ∃J:AFrame→AMem→Prop,∀f m',J f m'↔(∃(i:Nat),f.forget [0,1,4,11,12]=mat 90 [(0,t),(1,.int .i64 s),(4,.func (.func g) fs cs),(11,.int .i64 i),(12,.int .i64 j)]∧m1<+:m'∧Part (CE C) xs s e P ys i j∧j+1≤i+Q∧(¬i≤j∨ ∃x,ys[i]? =some x∧ ¬CE C x P<0)):=⟨_,fun _ _=>Iff.rfl⟩
 refine W_JB J ?_ ?_
 ·obtain ⟨I1,hI1⟩: ∃I:Nat→AFrame→AMem→Prop,∀q f m',I q f m'↔(∃(i:Nat),i+q=j+1∧f=h177_1 t (.int .i64 s) (.func (.func g) fs cs) (.int .i64 i) (.int .i64 j)∧m1<+:m'∧Part (CE C) xs s e P ys i j∧j+1≤i+Q):=⟨_,fun _ _ _=>Iff.rfl⟩
  refine W_loop I1 q ((hI1 _ _ _).2 ⟨i,hq,by simp,List.prefix_refl _,hP,by omega⟩) ?_
  clear hP hq hQ
  rintro q f m2 hIn
  obtain ⟨i,hq,rfl,hm2,hP,hbd⟩:=(hI1 _ _ _).1 hIn
  clear hIn
  have hY2:=hY.mono hm2
  simp
  by_cases hij:i≤j
  ·have hij':(i:Int)≤j:=by omega
   have hil:i<ys.length:=by have:=hP.jb;omega
   obtain ⟨bX,oX,_,hpX,hlX,_⟩:=OwL.at hY2 (i:=s) hsl
   obtain ⟨bY,oY,_,hpY,hlY,_⟩:=OwL.at hY2 (i:=i) hil
   obtain ⟨vx,hvx',hvx⟩: ∃v,v=_∧_[s]? =some v:=⟨_,rfl,List.getElem?_eq_getElem hsl⟩
   obtain ⟨vy,hvy',hvy⟩: ∃v,v=_∧_[i]? =some v:=⟨_,rfl,List.getElem?_eq_getElem hil⟩
   rw[←hvx'] at hlX
   rw[←hvy'] at hlY
   have hDx:=hDs _ (List.mem_of_getElem? hvx)
   have hDy:=hDs _ (List.mem_of_getElem? hvy)
   clear hvx' hvy'
   refine W_draw (fun _ _ _=>True) (by simp[maxDst]) ?_
   refine D_pc 0 13 [13,14,15,16] ?_
   simp[hpX,hlX,hpY,hlY,hij']
   intro _ _
   refine D_Xg rfl rfl (b:=true) (by simp) (fun _ m5 hm5 _=>?_) (fun h=>absurd rfl h)
   simp
   have hcall:=hcmp vx vy hDx hDy m5 ((hm1.trans hm2).trans hm5)
   simp at hcall
   refine C_of hcall ?_
   rintro _ m6 ⟨rfl,hm6⟩
   refine ⟨by simp[lateOf],?_⟩
   refine D_pc 14 3 [] ?_
   simp
   intro _ _
   refine D_end fun m7 hm7 _=>?_
   replace hm7:=(hm5.trans hm6).trans hm7
   clear hm5 hm6 hcall hpX hlX hpY hlY
   obtain rfl:vx=P:=by have:=hP.pa;rw[hvx] at this;exact Option.some.inj this
   have hw:IntKind.i64.wrap ((i:Int)+1)=(i:Int)+1:=wrap64 (by omega) (by omega)
   by_cases hlt:C vx vy<0
   ·simp[hlt]
    exact (hJ _ _).2 ⟨i,by simp,hm2.trans hm7,hP,hbd,.inr ⟨_,hvy,fun h=>CE_lt.1 h hlt⟩⟩
   ·simp[hlt,hw]
    exact ⟨q-1,by omega,(hI1 _ _ _).2 ⟨i+1,by omega,by simp,hm2.trans hm7,hP.up hij hvy (CE_lt.2 hlt),by omega⟩⟩
  ·have hij': ¬(i:Int)≤j:=by omega
   refine W_draw (fun _ _ _=>True) (by simp[maxDst]) ?_
   refine D_pc 0 13 [13,14,15,16] ?_
   simp[hij']
   intro _ _
   refine D_Xg rfl rfl (b:=false) (by simp) (fun h=>by cases h) (fun _ m5 hm5 _=>⟨by simp[lateOf],?_⟩)
   refine D_pc 14 3 [] ?_
   simp
   intro _ _
   refine D_end fun m7 hm7 _=>?_
   replace hm7:=hm5.trans hm7
   clear hm5
   simp
   exact (hJ _ _).2 ⟨i,by simp,hm2.trans hm7,hP,hbd,.inl hij⟩
 clear hP hq
 intro f m2 hJ2
 obtain ⟨i,hf,hm2,hP,hbd,he1⟩:=(hJ _ _).1 hJ2
 clear hJ2 hJ
 replace hY:=hY.mono hm2
 replace hm1:=hm1.trans hm2
 replace hch:=hch.trans (.of_prefix hm2)
 clear hm2
 simp[hf]
 clear hf f
 obtain ⟨J,hJ⟩: ∃J:AFrame→AMem→Prop,∀f m',J f m'↔(∃(j:Nat),f.forget [0,1,4,11,12]=mat 90 [(0,t),(1,.int .i64 s),(4,.func (.func g) fs cs),(11,.int .i64 i),(12,.int .i64 j)]∧m2<+:m'∧Part (CE C) xs s e P ys i j∧j+1≤i+Q∧(¬i≤j∨ ∃x,ys[i]? =some x∧ ¬CE C x P<0)∧(¬i≤j∨ ∃x,ys[j]? =some x∧CE C x P<0)):=⟨_,fun _ _=>Iff.rfl⟩
 refine W_JB J ?_ ?_
 ·obtain ⟨I1,hI1⟩: ∃I:Nat→AFrame→AMem→Prop,∀q f m',I q f m'↔(∃(j:Nat),i+q=j+1∧f=h177_2 t (.int .i64 s) (.func (.func g) fs cs) (.int .i64 i) (.int .i64 j)∧m2<+:m'∧Part (CE C) xs s e P ys i j∧j+1≤i+Q∧(¬i≤j∨ ∃x,ys[i]? =some x∧ ¬CE C x P<0)):=⟨_,fun _ _ _=>Iff.rfl⟩
  refine W_loop I1 (j+1-i) ((hI1 _ _ _).2 ⟨j,by have:=hP.ij;omega,by simp,List.prefix_refl _,hP,hbd,he1⟩) ?_
  clear hP he1 hQ hbd
  rintro q f m3 hIn
  obtain ⟨j,hq,rfl,hm3,hP,hbd,he1⟩:=(hI1 _ _ _).1 hIn
  clear hIn
  have hY2:=hY.mono hm3
  simp
  by_cases hij:i≤j
  ·have hij':(i:Int)≤j:=by omega
   have hjl:j<ys.length:=by have:=hP.jb;omega
   obtain ⟨bX,oX,_,hpX,hlX,_⟩:=OwL.at hY2 (i:=s) hsl
   obtain ⟨bY,oY,_,hpY,hlY,_⟩:=OwL.at hY2 (i:=j) hjl
   obtain ⟨vx,hvx',hvx⟩: ∃v,v=_∧_[s]? =some v:=⟨_,rfl,List.getElem?_eq_getElem hsl⟩
   obtain ⟨vy,hvy',hvy⟩: ∃v,v=_∧_[j]? =some v:=⟨_,rfl,List.getElem?_eq_getElem hjl⟩
   rw[←hvx'] at hlX
   rw[←hvy'] at hlY
   have hDx:=hDs _ (List.mem_of_getElem? hvx)
   have hDy:=hDs _ (List.mem_of_getElem? hvy)
   clear hvx' hvy'
   refine W_draw (fun _ _ _=>True) (by simp[maxDst]) ?_
   refine D_pc 0 13 [13,14,15] ?_
   simp[hpX,hlX,hpY,hlY,hij']
   intro _ _
   refine D_Xg rfl rfl (b:=true) (by simp) (fun _ m5 hm5 _=>?_) (fun h=>absurd rfl h)
   simp
   have hcall:=hcmp vx vy hDx hDy m5 ((hm1.trans hm3).trans hm5)
   simp at hcall
   refine C_of hcall ?_
   rintro _ m6 ⟨rfl,hm6⟩
   refine ⟨by simp[lateOf],?_⟩
   refine D_pc 14 2 [] ?_
   simp
   intro _ _
   refine D_end fun m7 hm7 _=>?_
   replace hm7:=(hm5.trans hm6).trans hm7
   clear hm5 hm6 hcall hpX hlX hpY hlY
   obtain rfl:vx=P:=by have:=hP.pa;rw[hvx] at this;exact Option.some.inj this
   have hjw:IntKind.i64.wrap ((j:Int)-1)=((j-1:Nat):Int):=by have:=hP.ia;rw[wrap64 (by omega) (by omega)];omega
   by_cases hlt:C vx vy<0
   ·simp[hlt,hjw]
    exact ⟨q-1,by omega,(hI1 _ _ _).2 ⟨j-1,by have:=hP.ia;omega,by simp,hm3.trans hm7,hP.down hij hvy (fun h=>CE_lt.1 h hlt),by omega,he1.imp (fun h=>by omega) id⟩⟩
   ·simp[hlt]
    exact (hJ _ _).2 ⟨j,by simp,hm3.trans hm7,hP,hbd,he1,.inr ⟨_,hvy,CE_lt.2 hlt⟩⟩
  ·have hij': ¬(i:Int)≤j:=by omega
   refine W_draw (fun _ _ _=>True) (by simp[maxDst]) ?_
   refine D_pc 0 13 [13,14,15] ?_
   simp[hij']
   intro _ _
   refine D_Xg rfl rfl (b:=false) (by simp) (fun h=>by cases h) (fun _ m5 hm5 _=>⟨by simp[lateOf],?_⟩)
   refine D_pc 14 2 [] ?_
   simp
   intro _ _
   refine D_end fun m7 hm7 _=>?_
   replace hm7:=hm5.trans hm7
   clear hm5
   simp
   exact (hJ _ _).2 ⟨j,by simp,hm3.trans hm7,hP,hbd,he1,.inl hij⟩
 clear hP he1 hbd
 intro f m3 hJ2
 obtain ⟨j,hf,hm3,hP,hbd,he1,he2⟩:=(hJ _ _).1 hJ2
 clear hJ2 hJ
 replace hY:=hY.mono hm3
 replace hm1:=hm1.trans hm3
 replace hch:=hch.trans (.of_prefix hm3)
 have hia:=hP.ia
 have hjb:=hP.jb
 clear hm3
 simp[hf]
 clear hf f
 refine bbind_intro (fun hij=>?_) fun hij=>?_
 ·have hij:j<i:=by simp at hij;omega
  obtain rfl:i=j+1:=by have:=hP.ij;omega
  simp
  refine ⟨hch,ys,P,j+1,rfl,hY,hP.sh,hxB,by omega,by omega,fun k y h1 h2 h3=>?_,fun k y h1 h2 h3=>?_⟩
  ·by_cases hk:k=s
   ·subst hk
    have:=hP.pa
    rw[h3] at this
    cases this
    apply Int.not_lt.1
    intro h
    have h':=h
    rw[hC.anti _ _ hDP hDP] at h'
    omega
   ·exact Int.not_lt.1 (CE_lt.1 (hP.lo k y (by omega) (by omega) h3))
  ·have:=hP.hi k y (by omega) h2 h3
   rw[CE_lt] at this
   exact Decidable.of_not_not this
 ·have hij:i≤j:=by simp at hij;omega
  simp
  obtain ⟨x,hx,hcx⟩:=he1.resolve_left (fun h=>h hij)
  obtain ⟨y,hy,hcy⟩:=he2.resolve_left (fun h=>h hij)
  have hil:i<ys.length:=by omega
  have hjl:j<ys.length:=by omega
  have hPB:=hxB
  clear hxB
  obtain ⟨xA,xB,bA,oA,bB,oB,hxA,hxB,hpA,hpB,hlA,hlB,hrA⟩:=swapMem hY (i:=i) (j:=j) hil hjl
  refine W_draw (fun _ _ _=>True) (by simp[maxDst]) ?_
  refine D_pc 0 13 [13,14,15] ?_
  simp[hpA,hlA,hpB,hlB]
  intro _ _
  refine D_W rfl rfl fun m8 hm8 _=>?_
  obtain ⟨m9,hst9,hrB⟩:=hrA m8 hm8
  simp[hst9]
  refine D_pc 14 1 [15] ?_
  simp[hpB]
  intro _ _
  refine D_W rfl rfl fun m10 hm10 _=>?_
  obtain ⟨m11,hst11,hrC⟩:=hrB m10 hm10
  simp[hst11]
  refine D_end fun m4 hm12 _=>?_
  obtain ⟨hcS,hYS⟩:=hrC m4 hm12
  clear hrC hst11 hrB hst9 hrA hlA hlB hm8 hm10 hm12 hpA hpB
  obtain rfl:xA=x:=by rw[hxA] at hx;exact Option.some.inj hx
  obtain rfl:xB=y:=by rw[hxB] at hy;exact Option.some.inj hy
  obtain ⟨hP',hlt⟩:=hP.swap hij hxA hxB hcx hcy
  have hw:IntKind.i64.wrap ((i:Int)+1)=(i:Int)+1:=wrap64 (by omega) (by omega)
  have hjw:IntKind.i64.wrap ((j:Int)-1)=((j-1:Nat):Int):=by rw[wrap64 (by omega) (by omega)];omega
  simp[hw,hjw]
  exact ⟨j-1+1-(i+1),by omega,(hI _ _ _).2 ⟨i+1,j-1,_,by have:=hP'.ij;omega,by simp,hch.trans hcS,owl_pre hlo hY hm1 hcS,hYS,hP'⟩⟩
end Go.Proofs.YtlniliigcnedmaaGreatDoor
namespace Go.Proofs.YtlniliigcnedmaaGreatDoor
open Go Ax
structure HeapX (C:Int→Int→Int) (ys:List Int) (f lo hi r:Nat):Prop where
 ord: ∀(i c:Nat) x y,lo≤i→c=2*i+1∨c=2*i+2→c<hi→i≠r→ys[f+i]? =some x→ys[f+c]? =some y→C y x≤0
 par: ∀(p c:Nat) x y,lo≤p→r=2*p+1∨r=2*p+2→c=2*r+1∨c=2*r+2→c<hi→ys[f+p]? =some x→ys[f+c]? =some y→C y x≤0
def HeapR (C:Int→Int→Int) (ys:List Int) (f lo hi:Nat):Prop:= ∀(i c:Nat) x y,lo≤i→c=2*i+1∨c=2*i+2→c<hi→ys[f+i]? =some x→ys[f+c]? =some y→C y x≤0
variable {C:Int→Int→Int} {D:Int→Prop} {ys:List Int} {f lo hi r:Nat}
theorem HeapX.leaf (h:HeapX C ys f lo hi r) (hr:hi≤2*r+1):HeapR C ys f lo hi:=fun i c x y h1 h2 h3 h4 h5=>h.ord i c x y h1 h2 h3 (fun e=>by subst e;omega) h4 h5
theorem HeapX.stop (hC:Ord C D) (hD: ∀x∈ys,D x) (h:HeapX C ys f lo hi r) {c:Nat} (hc:c<hi) {x y:Int} (hx:ys[f+r]? =some x) (hy:ys[f+c]? =some y) (hm: ∀(o:Nat) z,o=2*r+1∨o=2*r+2→o<hi→ys[f+o]? =some z→C z y≤0) (hle:C y x≤0):HeapR C ys f lo hi:=fun i d a b h1 h2 h3 h4 h5=>by
 by_cases hi':i=r
 ·subst hi'
  rw[hx] at h4;cases h4
  have hmem:=fun {k:Nat} {z:Int} (h:ys[k]? =some z)=>hD z (List.mem_of_getElem? h)
  exact hC.trans _ _ _ (hmem h5) (hmem hy) (hmem hx) (hm d b h2 h3 h5) hle
 ·exact h.ord i d a b h1 h2 h3 hi' h4 h5
theorem HeapX.swap (h:HeapX C ys f lo hi r) (hlo:lo≤r) {c:Nat} (hcr:c=2*r+1∨c=2*r+2) (hc:c<hi) {x y:Int} (hx:ys[f+r]? =some x) (hy:ys[f+c]? =some y) (hm: ∀(o:Nat) z,o=2*r+1∨o=2*r+2→o<hi→ys[f+o]? =some z→C z y≤0) (hle:C x y≤0):HeapX C ((ys.set (f+r) y).set (f+c) x) f lo hi c:=by
 have lr:=(List.getElem?_eq_some_iff.1 hx).1
 have lc:=(List.getElem?_eq_some_iff.1 hy).1
 refine ⟨fun i d a b h1 h2 h3 h4 h5 h6=>?_,fun p d a b h1 h2 h3 h4 h5 h6=>?_⟩
 ·rw[swap_get lr lc] at h5 h6
  rw[if_neg (by omega)] at h5
  by_cases hir:i=r
  ·subst hir
   rw[if_pos rfl] at h5;cases h5
   by_cases hdc:d=c
   ·subst hdc
    rw[if_pos rfl] at h6;cases h6
    exact hle
   ·rw[if_neg (by omega),if_neg (by omega)] at h6
    exact hm d b h2 h3 h6
  ·rw[if_neg (by omega)] at h5
   have hdc:d≠c:=by omega
   rw[if_neg (by omega)] at h6
   by_cases hdr:d=r
   ·subst hdr
    rw[if_pos rfl] at h6;cases h6
    exact h.par i c a y h1 h2 hcr hc h5 hy
   ·rw[if_neg (by omega)] at h6
    exact h.ord i d a b h1 h2 h3 hir h5 h6
 ·obtain rfl:p=r:=by omega
  rw[swap_get lr lc] at h5 h6
  rw[if_neg (by omega),if_pos rfl] at h5
  cases h5
  rw[if_neg (by omega),if_neg (by omega)] at h6
  exact h.ord c d y b (by omega) h3 h4 (by omega) hy h6
theorem HeapR.top (hC:Ord C D) (hD: ∀x∈ys,D x) (h:HeapR C ys f 0 hi) (hl:f+hi≤ys.length) {x:Int} (hx:ys[f]? =some x): ∀(i:Nat) y,i<hi→ys[f+i]? =some y→C y x≤0:=by
 have hmem:=fun {k:Nat} {z:Int} (h:ys[k]? =some z)=>hD z (List.mem_of_getElem? h)
 intro i
 induction i using Nat.strongRecOn with
 |ind i ih=>
  intro y hi' hy
  by_cases h0:i=0
  ·subst h0
   rw[Nat.add_zero,hx] at hy;cases hy
   have:=hC.anti x x (hmem hx) (hmem hx)
   omega
  ·have hp:ys[f+(i-1) / 2]? =some ys[f+(i-1) / 2]:=List.getElem?_eq_getElem (by omega)
   exact hC.trans _ _ _ (hmem hy) (hmem hp) (hmem hx) (h ((i-1) / 2) i _ y (Nat.zero_le _) (by omega) hi' hp hy) (ih _ (by omega) _ (by omega) hp)
theorem HeapR.start (h:hi≤2*lo+1):HeapR C ys f lo hi:=fun i c _ _ h1 h2 h3=>by omega
theorem HeapR.node (h:HeapR C ys f (lo+1) hi):HeapX C ys f lo hi lo:=
 ⟨fun i c x y h1 h2 h3 h4=>h i c x y (by omega) h2 h3,fun p c x y h1 h2=>by omega⟩
structure HeapS (C:Int→Int→Int) (xs ys:List Int) (f hi k:Nat):Prop where
 sh:Shuf xs ys f (f+hi)
 hp:HeapR C ys f 0 k
 kh:k≤hi
 so: ∀(p q:Nat) x y,p<q→k≤q→q<hi→ys[f+p]? =some x→ys[f+q]? =some y→C x y≤0
theorem HeapS.sorted {xs:List Int} (h:HeapS C xs ys f hi 0):SortedR C ys f (f+hi):=fun p q x y h1 h2 h3 h4 h5=>by
 refine h.so (p-f) (q-f) x y (by omega) (Nat.zero_le _) (by omega) ?_ ?_
 ·rw[show f+(p-f)=p by omega];exact h4
 ·rw[show f+(q-f)=q by omega];exact h5
theorem HeapS.step (hC:Ord C D) {xs:List Int} (hD: ∀x∈xs,D x) (hl:f+hi≤xs.length) {k:Nat} (h:HeapS C xs ys f hi (k+1)) {x y:Int} (hx:ys[f]? =some x) (hy:ys[f+k]? =some y):
  HeapX C ((ys.set f y).set (f+k) x) f 0 k 0∧ ∀zs,Shuf ((ys.set f y).set (f+k) x) zs f (f+k)→HeapR C zs f 0 k→HeapS C xs zs f hi k:=by
 have l0:=(List.getElem?_eq_some_iff.1 hx).1
 have lk:=(List.getElem?_eq_some_iff.1 hy).1
 have hkh:=h.kh
 have hyl:=h.sh.len
 have hDy: ∀x∈ys,D x:=fun x hx=>hD x (h.sh.perm.mem_iff.1 hx)
 have htop:=h.hp.top hC hDy (by omega) hx
 refine ⟨⟨fun i c a b h1 h2 h3 h4 h5 h6=>?_,fun p c a b h1 h2=>by omega⟩,fun zs hz hH=>⟨(h.sh.trans (Shuf.swap hx hy (Nat.le_refl _) (by omega) (by omega) (by omega))).trans (hz.wide (Nat.le_refl _) (by omega)),hH,by omega,fun p q a b h1 h2 h3 h4 h5=>?_⟩⟩
 ·rw[swap_get l0 lk,if_neg (by omega),if_neg (by omega)] at h5 h6
  exact h.hp i c a b h1 h2 (by omega) h5 h6
 ·have hq:zs[f+q]? =if q=k then some x else ys[f+q]? :=by
   rw[hz.out (f+q) (.inr (by omega)),swap_get l0 lk]
   by_cases hqk:q=k
   ·rw[if_pos (by omega),if_pos hqk]
   ·rw[if_neg (by omega),if_neg (by omega),if_neg hqk]
  have hp: ∃p',ys[f+p']? =some a∧(p'≤k∧(p<k∨p'=0)∨p'=p∧k<p):=by
   by_cases hpk:p<k
   ·obtain ⟨r,r1,r2,r3⟩:=hz.inn (f+p) a (by omega) (by omega) h4
    rw[swap_get l0 lk,if_neg (by omega)] at r3
    by_cases hr:r=f
    ·rw[if_pos (by omega)] at r3
     cases r3
     exact ⟨k,hy,.inl ⟨Nat.le_refl _,.inl hpk⟩⟩
    ·rw[if_neg (by omega)] at r3
     exact ⟨r-f,by rw[show f+(r-f)=r by omega];exact r3,.inl ⟨by omega,.inl hpk⟩⟩
   ·rw[hz.out (f+p) (.inr (by omega)),swap_get l0 lk] at h4
    by_cases hpk':p=k
    ·rw[if_pos (by omega)] at h4
     cases h4
     exact ⟨0,hx,.inl ⟨Nat.zero_le _,.inr rfl⟩⟩
    ·rw[if_neg (by omega),if_neg (by omega)] at h4
     exact ⟨p,h4,.inr ⟨rfl,by omega⟩⟩
  obtain ⟨p',hp',hcase⟩:=hp
  rw[hq] at h5
  by_cases hqk:q=k
  ·rw[if_pos hqk] at h5
   cases h5
   rcases hcase with ⟨h6,_⟩|⟨rfl,h6⟩
   ·exact htop p' a (by omega) hp'
   ·omega
  ·rw[if_neg hqk] at h5
   rcases hcase with ⟨h6,_⟩|⟨rfl,h6⟩
   ·exact h.so p' q a b (by omega) (by omega) h3 hp' h5
   ·exact h.so p' q a b (by omega) (by omega) h3 hp' h5
end Go.Proofs.YtlniliigcnedmaaGreatDoor
namespace Go.Proofs.YtlniliigcnedmaaGreatDoor
open Go Ax
set_option maxRecDepth 100000
set_option maxHeartbeats 8000000 in
theorem k194 (t:AVal) (ty:TypeId) (lo:Nat) (m0:AMem) (hlo:m0.length≤lo) (g:FuncId) (fs cs:List AVal) (C:Int→Int→Int) (D:Int→Prop) (hC:Ord C D) (hcmp:CmpOk m0 g fs cs D C) (xs:List Int) (hD: ∀x∈xs,D x) (l hi f:Nat) (hl:f+hi≤xs.length) (hlh:l≤hi) (hn:xs.length<2^60) (hH:HeapX C xs f l hi l) (m:AMem) (hm:m0<+:m) (hX:OwL (AVal.int .i64) lo m ty t xs):
  ACalls Tryz.prog 194 [t,.int .i64 l,.int .i64 hi,.int .i64 f,.func (.func g) fs cs] m fun _ m'=>Ch (fun b=>t.blk=some b) m m'∧ ∃ys,OwL (AVal.int .i64) lo m' ty t ys∧Shuf xs ys f (f+hi)∧HeapR C ys f l hi:=by
 refine w194 ?_
 simp
 obtain ⟨I,hI⟩: ∃I:Nat→AFrame→AMem→Prop,∀q a m',I q a m'↔(∃(r:Nat) (ys:List Int),r+q=hi∧l≤r∧a=h194_0 t (.int .i64 hi) (.int .i64 f) (.func (.func g) fs cs) (.int .i64 r)∧Ch (fun b=>t.blk=some b) m m'∧m0<+:m'∧OwL (AVal.int .i64) lo m' ty t ys∧Shuf xs ys f (f+hi)∧HeapX C ys f l hi r):=⟨_,fun _ _ _=>Iff.rfl⟩
 refine W_loop I (hi-l) ((hI _ _ _).2 ⟨l,xs,by omega,by omega,by simp,.refl _ _,hm,hX,.refl _ _ _,hH⟩) ?_
 clear hH hX hm
 rintro q a m1 hIn
 obtain ⟨r,ys,hq,hlr,rfl,hch,hm1,hY,hsh,hH⟩:=(hI _ _ _).1 hIn
 clear hIn
 have hyl:=hsh.len
 have hDs: ∀x∈ys,D x:=fun x hx=>hD x (hsh.perm.mem_iff.1 hx)
 obtain ⟨r2,hr2⟩: ∃r2:Nat,r2=2*r:=⟨_,rfl⟩
 obtain ⟨c1,hc1⟩: ∃c1:Nat,c1=r2+1:=⟨_,rfl⟩
 obtain ⟨c2,hc2⟩: ∃c2:Nat,c2=c1+1:=⟨_,rfl⟩
 have hw1:IntKind.i64.wrap (2*(r:Int))=(r2:Int):=by rw[wrap64 (by omega) (by omega)];omega
 have hw2:IntKind.i64.wrap ((r2:Int)+1)=(c1:Int):=by rw[wrap64 (by omega) (by omega)];omega
 have hw3:IntKind.i64.wrap ((c1:Int)+1)=(c2:Int):=by rw[wrap64 (by omega) (by omega)];omega
 simp[hw1,hw2]
 refine bbind_intro (fun hlf=>?_) fun hlf=>?_
 ·have hlf:hi≤c1:=by simp at hlf;omega
  simp
  exact ⟨hch,ys,hY,hsh,hH.leaf (by omega)⟩
 have hlf:c1<hi:=by simp at hlf;omega
 obtain ⟨a1,ha1⟩: ∃a1:Nat,a1=f+c1:=⟨_,rfl⟩
 obtain ⟨a2,ha2⟩: ∃a2:Nat,a2=f+c2:=⟨_,rfl⟩
 obtain ⟨ar,har⟩: ∃ar:Nat,ar=f+r:=⟨_,rfl⟩
 have hv1:IntKind.i64.wrap ((f:Int)+c1)=(a1:Int):=by rw[wrap64 (by omega) (by omega)];omega
 have hv2:IntKind.i64.wrap ((a1:Int)+1)=(a2:Int):=by rw[wrap64 (by omega) (by omega)];omega
 have hvr:IntKind.i64.wrap ((f:Int)+r)=(ar:Int):=by rw[wrap64 (by omega) (by omega)];omega
 have l1:a1<ys.length:=by omega
 have lr:ar<ys.length:=by omega
 simp
 obtain ⟨J,hJ⟩: ∃J:AFrame→AMem→Prop,∀a m',J a m'↔(∃(b:Bool),a.forget [0,2,3,4,10,11,40]=mat 82 [(0,t),(2,.int .i64 hi),(3,.int .i64 f),(4,.func (.func g) fs cs),(10,.int .i64 r),(11,.int .i64 c1),(40,.bool b)]∧m1<+:m'∧(b=true→c2<hi)∧ ∀x y,ys[a1]? =some x→ys[a2]? =some y→c2<hi→(b=true↔C x y<0)):=⟨_,fun _ _=>Iff.rfl⟩
 refine W_J J ?_ ?_
 ·by_cases h2:c2<hi
  ·have h2':(c2:Int)<hi:=by omega
   have l2:a2<ys.length:=by omega
   obtain ⟨bX,oX,_,hpX,hlX,_⟩:=OwL.at hY (i:=a1) l1
   obtain ⟨bY,oY,_,hpY,hlY,_⟩:=OwL.at hY (i:=a2) l2
   obtain ⟨vx,hvx',hvx⟩: ∃v,v=_∧_[a1]? =some v:=⟨_,rfl,List.getElem?_eq_getElem l1⟩
   obtain ⟨vy,hvy',hvy⟩: ∃v,v=_∧_[a2]? =some v:=⟨_,rfl,List.getElem?_eq_getElem l2⟩
   rw[←hvx'] at hlX
   rw[←hvy'] at hlY
   have hDx:=hDs _ (List.mem_of_getElem? hvx)
   have hDy:=hDs _ (List.mem_of_getElem? hvy)
   clear hvx' hvy'
   refine W_draw (fun _ _ _=>True) (by simp[maxDst]) ?_
   refine D_pc 0 19 [19,20,21] ?_
   simp[hpX,hlX,hpY,hlY,hw3,h2',hv1,hv2]
   intro _ _
   refine D_Xg rfl rfl (b:=true) (by simp) (fun _ m5 hm5 _=>?_) (fun h=>absurd rfl h)
   simp
   have hcall:=hcmp vx vy hDx hDy m5 ((hm1).trans hm5)
   simp at hcall
   refine C_of hcall ?_
   rintro _ m6 ⟨rfl,hm6⟩
   refine ⟨by simp[lateOf],?_⟩
   refine D_pc 20 2 [] ?_
   simp
   intro _ _
   refine D_end fun m7 hm7 _=>?_
   replace hm7:=(hm5.trans hm6).trans hm7
   clear hm5 hm6 hcall hpX hlX hpY hlY
   refine (hJ _ _).2 ⟨decide (C vx vy<0),by simp,hm7,fun _=>h2,fun x y hx hy _=>?_⟩
   rw[hvx] at hx
   rw[hvy] at hy
   cases hx
   cases hy
   simp
  ·have h2': ¬(c2:Int)<hi:=by omega
   refine W_draw (fun _ _ _=>True) (by simp[maxDst]) ?_
   refine D_pc 0 19 [19,20,21] ?_
   simp[hw3,h2']
   intro _ _
   refine D_Xg rfl rfl (b:=false) (by simp) (fun h=>by cases h) (fun _ m5 hm5 _=>⟨by simp[lateOf],?_⟩)
   refine D_pc 20 2 [] ?_
   simp
   intro _ _
   refine D_end fun m7 hm7 _=>?_
   replace hm7:=hm5.trans hm7
   clear hm5
   exact (hJ _ _).2 ⟨false,by simp,hm7,(fun h=>by cases h),fun x y _ _ h=>absurd h h2⟩
 intro a m2 hJ2
 obtain ⟨b,hf,hm2,hb1,hb2⟩:=(hJ _ _).1 hJ2
 clear hJ2 hJ
 replace hY:=hY.mono hm2
 replace hm1:=hm1.trans hm2
 replace hch:=hch.trans (.of_prefix hm2)
 clear hm2
 simp[hf,hw3]
 clear hf a
 obtain ⟨J,hJ⟩: ∃J:AFrame→AMem→Prop,∀a m',J a m'↔(∃(c:Nat),a.forget [0,2,3,4,10,11]=mat 82 [(0,t),(2,.int .i64 hi),(3,.int .i64 f),(4,.func (.func g) fs cs),(10,.int .i64 r),(11,.int .i64 c)]∧m'=m2∧(c=c1∨c=c2)∧c<hi∧ ∀(o:Nat) z y,o=c1∨o=c2→o<hi→ys[f+o]? =some z→ys[f+c]? =some y→C z y≤0):=⟨_,fun _ _=>Iff.rfl⟩
 have hmem:=fun {k:Nat} {z:Int} (h:ys[k]? =some z)=>hDs z (List.mem_of_getElem? h)
 refine bbind_J J ?_ ?_
 ·cases b
  ·simp[hw3]
   refine (hJ _ _).2 ⟨c1,by simp,rfl,.inl rfl,hlf,fun o z y ho hoh hz hy=>?_⟩
   rcases ho with rfl|rfl
   ·rw[hz] at hy
    cases hy
    have:=hC.anti z z (hmem hz) (hmem hz)
    omega
   ·have:=hb2 y z (by rw[ha1];exact hy) (by rw[ha2];exact hz) hoh
    exact hC.le_of_not (hmem hy) (hmem hz) fun h=>by simpa using this.2 h
  ·simp[hw3]
   refine (hJ _ _).2 ⟨c2,by simp,rfl,.inr rfl,hb1 rfl,fun o z y ho hoh hz hy=>?_⟩
   rcases ho with rfl|rfl
   ·have:=(hb2 z y (by rw[ha1];exact hz) (by rw[ha2];exact hy) (hb1 rfl)).1 rfl
    omega
   ·rw[hz] at hy
    cases hy
    have:=hC.anti z z (hmem hz) (hmem hz)
    omega
 intro a m3 hJ2
 obtain ⟨c,hf,rfl,hcc,hch',hmax⟩:=(hJ _ _).1 hJ2
 clear hJ2 hJ hb1 hb2
 simp[hf]
 clear hf a
 obtain ⟨ac,hac⟩: ∃ac:Nat,ac=f+c:=⟨_,rfl⟩
 have hvc:IntKind.i64.wrap ((f:Int)+c)=(ac:Int):=by rw[wrap64 (by omega) (by omega)];omega
 have lc:ac<ys.length:=by omega
 have hne:ar≠ac:=by omega
 obtain ⟨bX,oX,_,hpX,hlX,_⟩:=OwL.at hY (i:=ar) lr
 obtain ⟨bY,oY,_,hpY,hlY,_⟩:=OwL.at hY (i:=ac) lc
 obtain ⟨vx,hvx',hvx⟩: ∃v,v=_∧_[ar]? =some v:=⟨_,rfl,List.getElem?_eq_getElem lr⟩
 obtain ⟨vy,hvy',hvy⟩: ∃v,v=_∧_[ac]? =some v:=⟨_,rfl,List.getElem?_eq_getElem lc⟩
 rw[←hvx'] at hlX
 rw[←hvy'] at hlY
 have hDx:=hDs _ (List.mem_of_getElem? hvx)
 have hDy:=hDs _ (List.mem_of_getElem? hvy)
 clear hvx' hvy'
 refine W_draw (fun _ _ _=>True) (by simp[maxDst]) ?_
 refine D_pc 0 13 [13,14,15] ?_
 simp[hpX,hlX,hpY,hlY,hvr,hvc]
 intro _ _
 refine D_X rfl rfl fun m5 hm5 _=>?_
 simp
 have hcall:=hcmp vx vy hDx hDy m5 ((hm1).trans hm5)
 simp at hcall
 refine C_of hcall ?_
 rintro _ m6 ⟨rfl,hm6⟩
 refine ⟨by simp[lateOf],?_⟩
 refine D_pc 14 2 [] ?_
 simp
 intro _ _
 refine D_end fun m7 hm7 _=>?_
 replace hm7:=(hm5.trans hm6).trans hm7
 clear hm5 hm6 hcall hpX hlX hpY hlY
 replace hY:=hY.mono hm7
 replace hm1:=hm1.trans hm7
 replace hch:=hch.trans (.of_prefix hm7)
 clear hm7
 rw[har] at hvx
 rw[hac] at hvy
 have hmax': ∀(o:Nat) z,o=2*r+1∨o=2*r+2→o<hi→ys[f+o]? =some z→C z vy≤0:=fun o z h1 h2 h3=>hmax o z vy (by omega) h2 h3 hvy
 by_cases hlt:C vx vy<0
 ·simp[hlt]
  obtain ⟨xA,xB,bA,oA,bB,oB,hxA,hxB,hpA,hpB,hlA,hlB,hrA⟩:=swapMem hY (i:=ar) (j:=ac) lr lc
  refine W_draw (fun _ _ _=>True) (by simp[maxDst]) ?_
  refine D_pc 0 21 [21,22,23] ?_
  simp[hpA,hlA,hpB,hlB,hvr,hvc]
  intro _ _
  refine D_W rfl rfl fun m8 hm8 _=>?_
  obtain ⟨m9,hst9,hrB⟩:=hrA m8 hm8
  simp[hst9]
  refine D_pc 22 1 [23] ?_
  simp[hpB,hvr,hvc]
  intro _ _
  refine D_W rfl rfl fun m10 hm10 _=>?_
  obtain ⟨m11,hst11,hrC⟩:=hrB m10 hm10
  simp[hst11]
  refine D_end fun m4 hm12 _=>?_
  obtain ⟨hcS,hYS⟩:=hrC m4 hm12
  clear hrC hst11 hrB hst9 hrA hlA hlB hm8 hm10 hm12 hpA hpB
  rw[har,hvx] at hxA
  rw[hac,hvy] at hxB
  cases hxA
  cases hxB
  simp
  have hx':ys[ar]? =some vx:=by rw[har];exact hvx
  have hy':ys[ac]? =some vy:=by rw[hac];exact hvy
  have hsw:=Shuf.swap (a:=f) (b:=f+hi) hx' hy' (by omega) (by omega) (by omega) (by omega)
  have hHn:=hH.swap hlr (c:=c) (by omega) hch' hvx hvy hmax' (by omega)
  rw[←har,←hac] at hHn
  exact ⟨hi-c,by omega,(hI _ _ _).2 ⟨c,_,by omega,by omega,by simp,hch.trans hcS,owl_pre hlo hY hm1 hcS,hYS,hsh.trans hsw,hHn⟩⟩
 ·simp[hlt]
  exact ⟨hch,ys,hY,hsh,hH.stop hC hDs hch' hvx hvy hmax' (hC.le_of_not hDx hDy hlt)⟩
set_option maxHeartbeats 4000000 in
theorem k172 (t:AVal) (ty:TypeId) (lo:Nat) (m0:AMem) (hlo:m0.length≤lo) (g:FuncId) (fs cs:List AVal) (C:Int→Int→Int) (D:Int→Prop) (hC:Ord C D) (hcmp:CmpOk m0 g fs cs D C) (xs:List Int) (hD: ∀x∈xs,D x) (s e:Nat) (hse:s<e) (hel:e≤xs.length) (hn:xs.length<2^60) (m:AMem) (hm:m0<+:m) (hX:OwL (AVal.int .i64) lo m ty t xs):
  ACalls Tryz.prog 172 [t,.int .i64 s,.int .i64 e,.func (.func g) fs cs] m fun _ m'=>Ch (fun b=>t.blk=some b) m m'∧ ∃ys,OwL (AVal.int .i64) lo m' ty t ys∧Shuf xs ys s e∧SortedR C ys s e:=by
 refine w172 ?_
 obtain ⟨N,hN⟩: ∃N:Nat,s+N=e:=⟨e-s,by omega⟩
 obtain ⟨H,hH⟩: ∃H:Nat,H=(N-1) / 2:=⟨_,rfl⟩
 have hwl:IntKind.i64.wrap ((e:Int)-s)=(N:Int):=by rw[wrap64 (by omega) (by omega)];omega
 have hw1:IntKind.i64.wrap ((N:Int)-1)=((N-1:Nat):Int):=by rw[wrap64 (by omega) (by omega)];omega
 obtain ⟨N1,hN1⟩: ∃N1:Nat,N1=N-1:=⟨_,rfl⟩
 rw[←hN1] at hw1
 have hw2:(N1:Int).tdiv 2=(H:Int):=by rw[Int.tdiv_eq_ediv_of_nonneg (by omega)];omega
 have hw3:IntKind.i64.wrap (H:Int)=(H:Int):=wrap64 (by omega) (by omega)
 have hDy: ∀zs,Shuf xs zs s (s+N)→ ∀x∈zs,D x:=fun zs h x hx=>hD x (h.perm.mem_iff.1 hx)
 simp[hwl,hw1,hw2,hw3]
 obtain ⟨J,hJ⟩: ∃J:AFrame→AMem→Prop,∀a m',J a m'↔(∃(ys:List Int),a.forget [0,3,8,9,10]=mat 60 [(0,t),(3,.func (.func g) fs cs),(8,.int .i64 s),(9,.int .i64 0),(10,.int .i64 N)]∧Ch (fun b=>t.blk=some b) m m'∧m0<+:m'∧OwL (AVal.int .i64) lo m' ty t ys∧Shuf xs ys s (s+N)∧HeapR C ys s 0 N):=⟨_,fun _ _=>Iff.rfl⟩
 refine W_JB J ?_ ?_
 ·obtain ⟨I,hI⟩: ∃I:Nat→AFrame→AMem→Prop,∀q a m',I q a m'↔(∃(iv:Int) (ys:List Int),iv=(q:Int)-1∧q≤N∧a=h172_0 t (.func (.func g) fs cs) (.int .i64 s) (.int .i64 0) (.int .i64 N) (.int .i64 iv)∧Ch (fun b=>t.blk=some b) m m'∧m0<+:m'∧OwL (AVal.int .i64) lo m' ty t ys∧Shuf xs ys s (s+N)∧HeapR C ys s q N):=⟨_,fun _ _ _=>Iff.rfl⟩
  refine W_loop I (H+1) ((hI _ _ _).2 ⟨H,xs,by omega,by omega,by simp,.refl _ _,hm,hX,.refl _ _ _,.start (by omega)⟩) ?_
  rintro k a m1 hIn
  obtain ⟨iv,ys,hiv,hkN,rfl,hch,hm1,hY,hsh,hH⟩:=(hI _ _ _).1 hIn
  clear hIn
  have hyl:=hsh.len
  simp
  refine bbind_intro (fun h0=>?_) fun h0=>?_
  ·have h0:0≤iv:=by simpa using h0
   obtain ⟨k,rfl⟩: ∃k',k=k'+1:=⟨k-1,by omega⟩
   obtain rfl:iv=(k:Int):=by omega
   have hw:IntKind.i64.wrap ((k:Int)-1)=(k:Int)-1:=wrap64 (by omega) (by omega)
   simp
   refine C_of (k194 t ty lo m0 hlo g fs cs C D hC hcmp ys (hDy _ hsh) k N s (by omega) (by omega) (by omega) hH.node m1 hm1 hY) ?_
   rintro _ m2 ⟨hc2,zs,hZ,hsz,hHz⟩
   simp[hw]
   exact ⟨k,by omega,(hI _ _ _).2 ⟨_,zs,rfl,by omega,by simp,hch.trans hc2,owl_pre hlo hY hm1 hc2,hZ,hsh.trans hsz,hHz⟩⟩
  ·have h0: ¬0≤iv:=by simpa using h0
   obtain rfl:k=0:=by omega
   simp
   exact (hJ _ _).2 ⟨ys,by simp,hch,hm1,hY,hsh,hH⟩
 intro a m1 hJ2
 obtain ⟨ys,hf,hch,hm1,hY,hsh,hH⟩:=(hJ _ _).1 hJ2
 clear hJ2 hJ
 simp[hf,hw1]
 obtain ⟨I,hI⟩: ∃I:Nat→AFrame→AMem→Prop,∀q a m',I q a m'↔(∃(iv:Int) (ys:List Int),iv=(q:Int)-1∧a=h172_1 t (.func (.func g) fs cs) (.int .i64 s) (.int .i64 0) (.int .i64 iv)∧Ch (fun b=>t.blk=some b) m m'∧m0<+:m'∧OwL (AVal.int .i64) lo m' ty t ys∧HeapS C xs ys s N q):=⟨_,fun _ _ _=>Iff.rfl⟩
 refine W_loop I N ((hI _ _ _).2 ⟨N1,ys,by omega,by simp,hch,hm1,hY,hsh,hH,Nat.le_refl _,fun p q x y h1 h2 h3=>by omega⟩) ?_
 clear hch hm1 hY hsh hH hf hm
 rintro k a m1 hIn
 obtain ⟨iv,ys,hiv,rfl,hch,hm1,hY,hS⟩:=(hI _ _ _).1 hIn
 clear hIn
 have hkN:=hS.kh
 have hyl:=hS.sh.len
 simp
 refine bbind_intro (fun h0=>?_) fun h0=>?_
 ·have h0:0≤iv:=by simpa using h0
  obtain ⟨k,rfl⟩: ∃k',k=k'+1:=⟨k-1,by omega⟩
  obtain rfl:iv=(k:Int):=by omega
  have hw:IntKind.i64.wrap ((k:Int)-1)=(k:Int)-1:=wrap64 (by omega) (by omega)
  obtain ⟨ak,hak⟩: ∃ak:Nat,ak=s+k:=⟨_,rfl⟩
  have hv:IntKind.i64.wrap ((s:Int)+k)=(ak:Int):=by rw[wrap64 (by omega) (by omega)];omega
  have l0:s<ys.length:=by omega
  have lk:ak<ys.length:=by omega
  simp
  obtain ⟨xA,xB,bA,oA,bB,oB,hxA,hxB,hpA,hpB,hlA,hlB,hrA⟩:=swapMem hY (i:=s) (j:=ak) l0 lk
  refine W_draw (fun _ _ _=>True) (by simp[maxDst]) ?_
  refine D_pc 0 17 [17,18,19] ?_
  simp[hpA,hlA,hpB,hlB,hv]
  intro _ _
  refine D_W rfl rfl fun m8 hm8 _=>?_
  obtain ⟨m9,hst9,hrB⟩:=hrA m8 hm8
  simp[hst9]
  refine D_pc 18 1 [19] ?_
  simp[hpB,hv]
  intro _ _
  refine D_W rfl rfl fun m10 hm10 _=>?_
  obtain ⟨m11,hst11,hrC⟩:=hrB m10 hm10
  simp[hst11]
  refine D_end fun m2 hm12 _=>?_
  obtain ⟨hcS,hYS⟩:=hrC m2 hm12
  clear hrC hst11 hrB hst9 hrA hlA hlB hm8 hm10 hm12 hpA hpB
  have hxB':ys[s+k]? =some xB:=by rw[←hak];exact hxB
  obtain ⟨hHX,hnext⟩:=hS.step hC hD (by omega) hxA hxB'
  rw[←hak] at hHX hnext
  have hm2:=owl_pre hlo hY hm1 hcS
  have hsw:=Shuf.swap (a:=s) (b:=s+N) hxA hxB (by omega) (by omega) (by omega) (by omega)
  generalize (ys.set s xB).set ak xA=zs at*
  simp
  have hcall:=k194 t ty lo m0 hlo g fs cs C D hC hcmp zs (hDy _ (hS.sh.trans hsw)) 0 k s (by have:=hsw.len;omega) (by omega) (by have:=hsw.len;omega) hHX m2 hm2 hYS
  simp at hcall
  refine C_of hcall ?_
  rintro _ m3 ⟨hc3,ws,hW,hsz,hHz⟩
  simp[hw]
  rw[←hak] at hsz
  exact ⟨k,by omega,(hI _ _ _).2 ⟨_,ws,rfl,by simp,(hch.trans hcS).trans hc3,owl_pre hlo hYS hm2 hc3,hW,hnext ws hsz hHz⟩⟩
 ·have h0: ¬0≤iv:=by simpa using h0
  obtain rfl:k=0:=by omega
  simp
  refine ⟨hch,ys,hY,?_⟩
  rw[←hN]
  exact ⟨hS.sh,hS.sorted⟩
end Go.Proofs.YtlniliigcnedmaaGreatDoor
namespace Go.Proofs.YtlniliigcnedmaaGreatDoor
open Go Ax
set_option maxRecDepth 100000
structure Srt (t:AVal) (ty:TypeId) (lo:Nat) (m0 m:AMem) (xs:List Int) (s e:Nat) (m':AMem) (zs:List Int):Prop where
 ch:Ch (fun b=>t.blk=some b) m m'
 pre:m0<+:m'
 own:OwL (AVal.int .i64) lo m' ty t zs
 sh:Shuf xs zs s e
theorem Srt.mono {t:AVal} {ty:TypeId} {lo:Nat} {m0 m:AMem} {xs:List Int} {s e:Nat} {m' m'':AMem} {zs:List Int} (h:Srt t ty lo m0 m xs s e m' zs) (hm:m'<+:m''):Srt t ty lo m0 m xs s e m'' zs:=⟨h.ch.trans (.of_prefix hm),h.pre.trans hm,h.own.mono hm,h.sh⟩
theorem Srt.next {t:AVal} {ty:TypeId} {lo:Nat} {m0 m:AMem} {xs:List Int} {s e:Nat} {m' m'':AMem} {zs ws:List Int} (hlo:m0.length≤lo) (h:Srt t ty lo m0 m xs s e m' zs) (hc:Ch (fun b=>t.blk=some b) m' m'') (ho:OwL (AVal.int .i64) lo m'' ty t ws) (hs:Shuf zs ws s e):Srt t ty lo m0 m xs s e m'' ws:=⟨h.ch.trans hc,owl_pre hlo h.own h.pre hc,ho,h.sh.trans hs⟩
theorem gP_b {k:AVal→Prop} {t:Tag k} {b:Bool} {o:Option AVal} {v:AVal} (hx:b=true→o=some v) (h:k (sel b v)):gP k t true (.bool b) o:=gP_T (fun hb=>by subst hb;rw[hx rfl,obind_some];exact h) (fun hb=>by subst hb;exact h)
theorem LoR.sub {C:Int→Int→Int} {xs:List Int} {s e e':Nat} (h:LoR C xs s e) (he:e'≤e):LoR C xs s e':=fun x y k h0 h1 h2 h3 h4=>h x y k h0 h1 h2 (by omega) h4
theorem partE_sorted {C:Int→Int→Int} {D:Int→Prop} (hC:Ord C D) {ys:List Int} (hD: ∀x∈ys,D x) {a b mid:Nat} (hL:LoR C ys a b) (h0:0<a) {x P:Int} (hx:ys[a-1]? =some x) (hxP: ¬C x P<0) (hP:D P) (ham:a<mid) (hmb:mid≤b) (hbl:b≤ys.length) (h1: ∀(k:Nat) y,a≤k→k<mid→ys[k]? =some y→ ¬C P y<0) (h2: ∀(k:Nat) y,mid≤k→k<b→ys[k]? =some y→C P y<0):
  LoR C ys mid b∧ ∀vs,Shuf ys vs mid b→SortedR C vs mid b→SortedR C vs a b:=by
 have hmem:=fun {k:Nat} {z:Int} (h:ys[k]? =some z)=>hD z (List.mem_of_getElem? h)
 have dx:=hmem hx
 refine ⟨fun v y k h3 h4 h5 h6 h7=>?_,fun vs hs ho p q v w h3 h4 h5 h6 h7=>?_⟩
 ·exact hC.trans _ P _ (hmem h4) hP (hmem h7) (hC.le_of_not hP (hmem h4) (h1 _ v (by omega) (by omega) h4)) (by have:=h2 k y h5 h6 h7;omega)
 ·by_cases hp:p<mid
  ·rw[hs.out p (.inl hp)] at h6
   have hv:=hC.le_of_not hP (hmem h6) (h1 p v h3 hp h6)
   by_cases hq:q<mid
   ·rw[hs.out q (.inl hq)] at h7
    have hw:=hL x w q h0 hx (by omega) (by omega) h7
    exact hC.trans _ P _ (hmem h6) hP (hmem h7) hv (hC.trans _ x _ hP dx (hmem h7) (hC.le_of_not dx hP hxP) hw)
   ·obtain ⟨r,r1,r2,r3⟩:=hs.inn q w (by omega) (by omega) h7
    have:=h2 r w r1 r2 r3
    exact hC.trans _ P _ (hmem h6) hP (hmem r3) hv (by omega)
  ·exact ho p q v w (by omega) h4 h5 h6 h7
theorem Parted.lor {C:Int→Int→Int} {D:Int→Prop} (hC:Ord C D) {xs ys:List Int} {a b mid:Nat} (hD: ∀x∈xs,D x) (h:Parted C xs ys a b mid):LoR C ys (mid+1) b:=fun x y k _ h1 h2 h3 h4=>by
 obtain ⟨P,hP,_,hhi⟩:=h.ex
 rw[Nat.add_sub_cancel,hP] at h1
 cases h1
 have hm:=fun {k:Nat} {z:Int} (hz:ys[k]? =some z)=>hD z (h.sh.perm.mem_iff.1 (List.mem_of_getElem? hz))
 exact hC.le_of_not (hm h4) (hm hP) (hhi k y h2 h3 h4)
theorem LoR.out {C:Int→Int→Int} {xs ys:List Int} {s e s' e':Nat} (h:LoR C xs s e) (hs:Shuf xs ys s' e') (hd:e≤s'∨e'+1≤s):LoR C ys s e:=fun x y k h0 h1 h2 h3 h4=>by
 rw[hs.out _ (by omega)] at h1 h4
 exact h x y k h0 h1 h2 h3 h4
set_option maxHeartbeats 16000000 in
theorem k137g (t:AVal) (ty:TypeId) (lo:Nat) (m0:AMem) (hlo:m0.length≤lo) (g:FuncId) (fs cs:List AVal) (C:Int→Int→Int) (D:Int→Prop) (hC:Ord C D) (hcmp:CmpOk m0 g fs cs D C): ∀(n:Nat) (xs:List Int) (_: ∀x∈xs,D x) (s e:Nat) (_:s≤e) (_:e-s=n) (_:e≤xs.length) (_:xs.length<256) (_:LoR C xs s e) (z:Nat) (_:z<2^60) (m:AMem) (_:m0<+:m) (_:OwL (AVal.int .i64) lo m ty t xs),
  ACalls Tryz.prog 137 [t,.int .i64 s,.int .i64 e,.int .i64 z,.func (.func g) fs cs] m fun _ m'=>Ch (fun b=>t.blk=some b) m m'∧ ∃ys,OwL (AVal.int .i64) lo m' ty t ys∧Shuf xs ys s e∧SortedR C ys s e:=by
 intro n
 induction n using Nat.strongRecOn with
 |ind n ih=>
 intro xs hD s e hse hen hel hn hL z hz m hm hX
 refine w137 ?_
 simp
 obtain ⟨I,hI⟩: ∃I:Nat→AFrame→AMem→Prop,∀q f m',I q f m'↔(∃(a b z:Nat) (x y:Bool) (zs:List Int),q=b-a∧a≤b∧b-a≤n∧z<2^60∧b≤xs.length∧s≤a∧b≤e∧f=h137_0 t (.int .i64 a) (.int .i64 b) (.int .i64 z) (.func (.func g) fs cs) (.bool x) (.bool y)∧Srt t ty lo m0 m xs s e m' zs∧LoR C zs a b∧ ∀ws,Shuf zs ws a b→SortedR C ws a b→SortedR C ws s e):=⟨_,fun _ _ _=>Iff.rfl⟩
 refine W_loop I n ((hI _ _ _).2 ⟨s,e,z,true,true,xs,hen.symm,hse,by omega,hz,hel,Nat.le_refl _,Nat.le_refl _,by simp,⟨.refl _ _,hm,hX,.refl _ _ _⟩,hL,fun ws _ h=>h⟩) ?_
 clear hX hm hL hz z
 rintro q f m1 hIn
 obtain ⟨a,b,z,x,y,zs,rfl,hab,hbn,hz,hbl,hsa,hbe,rfl,hS,hL,hfin⟩:=(hI _ _ _).1 hIn
 clear hIn
 have hDz: ∀zs,Shuf xs zs s e→ ∀x∈zs,D x:=fun zs h x hx=>hD x (h.perm.mem_iff.1 hx)
 have hzl:=hS.sh.len
 obtain ⟨N,hN⟩: ∃N:Nat,N=b-a:=⟨_,rfl⟩
 have hwl:IntKind.i64.wrap ((b:Int)-a)=(N:Int):=by rw[wrap64 (by omega) (by omega)];omega
 have ret: ∀m2 ws,Ch (fun b=>t.blk=some b) m1 m2→OwL (AVal.int .i64) lo m2 ty t ws→Shuf zs ws a b→SortedR C ws a b→Ch (fun b=>t.blk=some b) m m2∧ ∃ys,OwL (AVal.int .i64) lo m2 ty t ys∧Shuf xs ys s e∧SortedR C ys s e:=fun m2 ws h1 h2 h3 h4=>⟨hS.ch.trans h1,ws,h2,hS.sh.trans (h3.wide hsa hbe),hfin ws h3 h4⟩
 simp[hwl]
 refine bbind_intro (fun h12=>?_) fun h12=>?_
 ·simp
  obtain rfl:b=a+N:=by omega
  refine C_of (k171r t ty lo m0 hlo g fs cs C D hC hcmp zs (hDz _ hS.sh) a N (by omega) (by omega) m1 hS.pre hS.own) ?_
  rintro _ m2 ⟨_,hc2,ys,hY,hsh,hso⟩
  simp
  exact ret m2 ys hc2 hY hsh hso
 have h12:12<N:=by simp at h12;omega
 simp
 refine bbind_intro (fun h0=>?_) fun h0=>?_
 ·simp
  refine C_of (k172 t ty lo m0 hlo g fs cs C D hC hcmp zs (hDz _ hS.sh) a b (by omega) (by omega) (by omega) m1 hS.pre hS.own) ?_
  rintro _ m2 ⟨hc2,ys,hY,hsh,hso⟩
  simp
  exact ret m2 ys hc2 hY hsh hso
 have h0:z≠0:=by simp at h0;omega
 clear ret
 simp
 obtain ⟨J,hJ⟩: ∃J:AFrame→AMem→Prop,∀f m',J f m'↔(∃(z:Nat) (ws:List Int),f.forget [0,1,2,3,4,10,11,12]=mat 148 [(0,t),(1,.int .i64 a),(2,.int .i64 b),(3,.int .i64 z),(4,.func (.func g) fs cs),(10,.bool x),(11,.bool y),(12,.int .i64 N)]∧z<2^60∧Srt t ty lo m0 m1 zs a b m' ws):=⟨_,fun _ _=>Iff.rfl⟩
 have hS1:Srt t ty lo m0 m1 zs a b m1 zs:=⟨.refl _ _,hS.pre,hS.own,.refl _ _ _⟩
 refine bbind_J J ?_ ?_
 ·refine bbind_intro (fun hx=>?_) fun hx=>?_
  ·have hw:IntKind.i64.wrap ((z:Int)-1)=((z-1:Nat):Int):=by rw[wrap64 (by omega) (by omega)];omega
   simp
   refine C_of (k173 t ty lo zs a b (by omega) (by omega) (by omega) _ m1 hS.own) ?_
   rintro _ m2 ⟨hc2,ws,hW,hsh⟩
   simp[hw]
   exact (hJ _ _).2 ⟨z-1,ws,by simp,by omega,hS1.next hlo hc2 hW hsh⟩
  ·simp
   exact (hJ _ _).2 ⟨z,zs,by simp,hz,hS1⟩
 clear h0 hz
 intro f m2 hJ2
 obtain ⟨z,ws,hf,hz,hS2⟩:=(hJ _ _).1 hJ2
 clear hJ2 hJ
 have hwsl:=hS2.sh.len
 have hDw: ∀ws,Shuf zs ws a b→ ∀x∈ws,D x:=fun ws h=>hDz ws (hS.sh.trans (h.wide hsa hbe))
 simp[hf]
 refine C_of (k174 t ty lo m0 g fs cs C D hcmp ws (hDw _ hS2.sh) a b (by omega) (by omega) (by omega) m2 hS2.pre hS2.own) ?_
 rintro _ m3 ⟨hm3,p,h,rfl,hap,hpb⟩
 replace hS2:=hS2.mono hm3
 clear hm3
 simp
 obtain ⟨J,hJ⟩: ∃J:AFrame→AMem→Prop,∀f m',J f m'↔(∃(p:Nat) (h:Int) (ws:List Int),f.forget [0,1,2,3,4,10,11,12,13,14]=mat 148 [(0,t),(1,.int .i64 a),(2,.int .i64 b),(3,.int .i64 z),(4,.func (.func g) fs cs),(10,.bool x),(11,.bool y),(12,.int .i64 N),(13,.int .i64 p),(14,.int .i64 h)]∧a≤p∧p<b∧Srt t ty lo m0 m1 zs a b m' ws):=⟨_,fun _ _=>Iff.rfl⟩
 refine bbind_J J ?_ ?_
 ·refine bbind_intro (fun hx=>?_) fun hx=>?_
  ·have hw1:IntKind.i64.wrap ((b:Int)-1)=((b-1:Nat):Int):=by rw[wrap64 (by omega) (by omega)];omega
   have hw2:IntKind.i64.wrap ((p:Int)-a)=((p-a:Nat):Int):=by rw[wrap64 (by omega) (by omega)];omega
   obtain ⟨b1,hb1⟩: ∃b1:Nat,b1=b-1:=⟨_,rfl⟩
   obtain ⟨p1,hp1⟩: ∃p1:Nat,p1=p-a:=⟨_,rfl⟩
   rw[←hb1] at hw1
   rw[←hp1] at hw2
   have hw3:IntKind.i64.wrap ((b1:Int)-p1)=((b1-p1:Nat):Int):=by rw[wrap64 (by omega) (by omega)];omega
   simp
   refine C_of (k175 t ty lo ws a b (by omega) (by omega) (by omega) _ m3 hS2.own) ?_
   rintro _ m4 ⟨hc4,vs,hV,hsh⟩
   simp[hw1,hw2,hw3]
   exact (hJ _ _).2 ⟨b1-p1,1,vs,by simp,by omega,by omega,hS2.next hlo hc4 hV hsh⟩
  ·simp
   exact (hJ _ _).2 ⟨p,h,ws,by simp,hap,hpb,hS2⟩
 clear hS2 hap hpb hwsl
 clear p h ws
 intro f m4 hJ2
 obtain ⟨p,h,ws,hf,hap,hpb,hS2⟩:=(hJ _ _).1 hJ2
 clear hJ2 hJ
 simp[hf]
 refine gP_b (v:= .bool (h==1)) (fun hx=>by simp[hx,sel]) ?_
 simp
 have hwsl:=hS2.sh.len
 obtain ⟨J,hJ⟩: ∃J:AFrame→AMem→Prop,∀f m',J f m'↔(∃(ws:List Int),f.forget [0,1,2,3,4,10,11,12,13]=mat 148 [(0,t),(1,.int .i64 a),(2,.int .i64 b),(3,.int .i64 z),(4,.func (.func g) fs cs),(10,.bool x),(11,.bool y),(12,.int .i64 N),(13,.int .i64 p)]∧Srt t ty lo m0 m1 zs a b m' ws):=⟨_,fun _ _=>Iff.rfl⟩
 refine bbind_J J ?_ ?_
 ·refine bbind_intro (fun hx=>?_) fun hx=>?_
  ·simp
   refine C_of (k176 t ty lo m0 hlo g fs cs C D hC hcmp ws (hDw _ hS2.sh) a b (by omega) (by omega) (by omega) (hL.shuf hS2.sh) m4 hS2.pre hS2.own) ?_
   rintro _ m5 ⟨hc5,r,vs,rfl,hV,hsh,hso⟩
   have hS5:=hS2.next hlo hc5 hV hsh
   cases r
   ·simp
    exact (hJ _ _).2 ⟨vs,by simp,hS5⟩
   ·simp
    exact ⟨hS.ch.trans hS5.ch,vs,hV,hS.sh.trans (hS5.sh.wide hsa hbe),hfin vs hS5.sh (hso rfl)⟩
  ·simp
   exact (hJ _ _).2 ⟨ws,by simp,hS2⟩
 clear hS2 hwsl ws
 intro f m5 hJ2
 obtain ⟨ws,hf,hS2⟩:=(hJ _ _).1 hJ2
 clear hJ2 hJ
 have hwsl:=hS2.sh.len
 have hDs:=hDw _ hS2.sh
 simp[hf]
 clear hf
 have hpl:p<ws.length:=by omega
 obtain ⟨J,hJ⟩: ∃J:AFrame→AMem→Prop,∀f m',J f m'↔(∃(c:Bool),f.forget [0,1,2,3,4,10,11,12,13,97]=mat 148 [(0,t),(1,.int .i64 a),(2,.int .i64 b),(3,.int .i64 z),(4,.func (.func g) fs cs),(10,.bool x),(11,.bool y),(12,.int .i64 N),(13,.int .i64 p),(97,.bool c)]∧m5<+:m'∧(c=true→0<a∧ ∃x y,ws[a-1]? =some x∧ws[p]? =some y∧ ¬C x y<0)):=⟨_,fun _ _=>Iff.rfl⟩
 refine W_J J ?_ ?_
 ·by_cases h0:0<a
  ·have h0':(0:Int)<a:=by omega
   have hal:a-1<ws.length:=by omega
   have hpw:IntKind.i64.wrap ((a:Int)-1)=((a-1:Nat):Int):=by rw[wrap64 (by omega) (by omega)];omega
   obtain ⟨bX,oX,_,hpX,hlX,_⟩:=OwL.at hS2.own (i:=(a-1)) hal
   obtain ⟨bY,oY,_,hpY,hlY,_⟩:=OwL.at hS2.own (i:=p) hpl
   obtain ⟨vx,hvx',hvx⟩: ∃v,v=_∧_[(a-1)]? =some v:=⟨_,rfl,List.getElem?_eq_getElem hal⟩
   obtain ⟨vy,hvy',hvy⟩: ∃v,v=_∧_[p]? =some v:=⟨_,rfl,List.getElem?_eq_getElem hpl⟩
   rw[←hvx'] at hlX
   rw[←hvy'] at hlY
   have hDx:=hDs _ (List.mem_of_getElem? hvx)
   have hDy:=hDs _ (List.mem_of_getElem? hvy)
   clear hvx' hvy'
   refine W_draw (fun _ _ _=>True) (by simp[maxDst]) ?_
   refine D_pc 0 13 [13,14,15,16] ?_
   simp[hpX,hlX,hpY,hlY,h0',h0,hpw]
   intro _ _
   refine D_Xg rfl rfl (b:=true) (by simp) (fun _ m5 hm5 _=>?_) (fun h=>absurd rfl h)
   simp
   have hcall:=hcmp vx vy hDx hDy m5 ((hS2.pre).trans hm5)
   simp at hcall
   refine C_of hcall ?_
   rintro _ m6 ⟨rfl,hm6⟩
   refine ⟨by simp[lateOf],?_⟩
   refine D_pc 14 3 [] ?_
   simp
   intro _ _
   refine D_end fun m7 hm7 _=>?_
   replace hm7:=(hm5.trans hm6).trans hm7
   clear hm5 hm6 hcall hpX hlX hpY hlY
   exact (hJ _ _).2 ⟨!decide (C vx vy<0),by simp,hm7,fun h=>⟨h0,vx,vy,hvx,hvy,by simpa using h⟩⟩
  ·obtain rfl:a=0:=by omega
   refine W_draw (fun _ _ _=>True) (by simp[maxDst]) ?_
   refine D_pc 0 13 [13,14,15,16] ?_
   simp
   intro _ _
   refine D_Xg rfl rfl (b:=false) (by simp) (fun h=>by cases h) (fun _ m5 hm5 _=>⟨by simp[lateOf],?_⟩)
   refine D_pc 14 3 [] ?_
   simp
   intro _ _
   refine D_end fun m7 hm7 _=>?_
   replace hm7:=hm5.trans hm7
   clear hm5
   simp
   exact (hJ _ _).2 ⟨false,by simp,hm7,fun h=>by cases h⟩
 intro f m6 hJ2
 obtain ⟨c,hf,hm6,hc⟩:=(hJ _ _).1 hJ2
 clear hJ2 hJ
 replace hS2:=hS2.mono hm6
 clear hm6
 simp[hf]
 clear hf
 refine bbind_intro (fun hcc=>?_) fun hcc=>?_
 ·obtain ⟨h0,v,w,hv,hw,hvw⟩:=hc hcc
  simp
  refine C_of (k177 t ty lo m0 hlo g fs cs C D hC hcmp ws hDs a b p hap hpb (by omega) (by omega) m6 hS2.pre hS2.own) ?_
  rintro _ m7 ⟨hc7,ys,P,mid,rfl,hY,hsh,hPp,hm1,hm2,h1,h2⟩
  obtain rfl:w=P:=by rw[hw] at hPp;exact Option.some.inj hPp
  have hS7:=hS2.next hlo hc7 hY hsh
  have hsl:=hsh.len
  have hva:ys[a-1]? =some v:=by rw[hsh.out _ (.inl (by omega))];exact hv
  obtain ⟨hL',hso⟩:=partE_sorted hC (hDw _ hS7.sh) (hL.shuf hS7.sh) h0 hva hvw (hDs _ (List.mem_of_getElem? hw)) hm1 hm2 (by omega) h1 h2
  simp
  refine ⟨b-mid,by omega,(hI _ _ _).2 ⟨mid,b,z,x,y,ys,rfl,hm2,by omega,hz,hbl,by omega,hbe,by simp,⟨hS.ch.trans hS7.ch,hS7.pre,hY,hS.sh.trans (hS7.sh.wide hsa hbe)⟩,hL',fun vs g1 g2=>hfin vs (hS7.sh.trans (g1.wide (by omega) (Nat.le_refl _))) (hso vs g1 g2)⟩⟩
 clear hc hcc
 simp
 refine C_of (k178 t ty lo m0 hlo g fs cs C D hcmp ws hDs a b p hap hpb (by omega) (by omega) m6 hS2.pre hS2.own) ?_
 rintro _ m7 ⟨_,hc7,ys,mid,bb,rfl,hY,hP⟩
 have ham:=hP.am
 have hmb:=hP.mb
 have hS7:=hS2.next hlo hc7 hY hP.sh
 have hyl:=hS7.sh.len
 have hDy:=hDw _ hS7.sh
 obtain ⟨A,hA⟩: ∃A:Nat,A=mid-a:=⟨_,rfl⟩
 obtain ⟨B,hB⟩: ∃B:Nat,B=b-mid:=⟨_,rfl⟩
 obtain ⟨Q,hQ⟩: ∃Q:Nat,Q=N / 8:=⟨_,rfl⟩
 have hwA:IntKind.i64.wrap ((mid:Int)-a)=(A:Int):=by rw[wrap64 (by omega) (by omega)];omega
 have hwB:IntKind.i64.wrap ((b:Int)-mid)=(B:Int):=by rw[wrap64 (by omega) (by omega)];omega
 have hq0:(N:Int).tdiv 8=(Q:Int):=by rw[Int.tdiv_eq_ediv_of_nonneg (by omega)];omega
 have hq1:IntKind.i64.wrap (Q:Int)=(Q:Int):=wrap64 (by omega) (by omega)
 have hw1:IntKind.i64.wrap ((mid:Int)+1)=((mid+1:Nat):Int):=by rw[wrap64 (by omega) (by omega)];omega
 obtain ⟨mid1,hmid1⟩: ∃k:Nat,k=mid+1:=⟨_,rfl⟩
 rw[←hmid1] at hw1
 have hLy:=hL.shuf hS7.sh
 have hL1:=hP.lor hC hDs
 rw[←hmid1] at hL1
 simp[hwA,hwB,hq0,hq1]
 refine bbind_intro (fun hlr=>?_) fun hlr=>?_
 ·simp
  refine C_of (ih (mid-a) (by omega) ys hDy a mid ham rfl (by omega) (by omega) (hLy.sub (by omega)) z hz m7 hS7.pre hY) ?_
  rintro _ m8 ⟨hc8,vs,hV,hsv,hso⟩
  simp[hw1]
  have hS8:=hS7.next hlo hc8 hV (hsv.wide (Nat.le_refl _) (by omega))
  refine ⟨b-mid1,by omega,(hI _ _ _).2 ⟨mid1,b,z,_,bb,vs,rfl,by omega,by omega,hz,hbl,by omega,hbe,rfl,⟨hS.ch.trans hS8.ch,hS8.pre,hV,hS.sh.trans (hS8.sh.wide hsa hbe)⟩,hL1.out hsv (.inr (by omega)),fun us g1 g2=>?_⟩⟩
  rw[hmid1] at g1 g2
  have hsr:=hP.sorted hC hDs hsv hso g1 g2
  exact hfin us (hS2.sh.trans hsr.1) hsr.2
 ·simp[hw1]
  refine C_of (ih (b-mid1) (by omega) ys hDy mid1 b (by omega) rfl (by omega) (by omega) hL1 z hz m7 hS7.pre hY) ?_
  rintro _ m8 ⟨hc8,vs,hV,hsv,hso⟩
  simp
  have hS8:=hS7.next hlo hc8 hV (hsv.wide (by omega) (Nat.le_refl _))
  refine ⟨mid-a,by omega,(hI _ _ _).2 ⟨a,mid,z,_,bb,vs,rfl,ham,by omega,hz,by omega,hsa,by omega,rfl,⟨hS.ch.trans hS8.ch,hS8.pre,hV,hS.sh.trans (hS8.sh.wide hsa hbe)⟩,(hLy.sub (by omega)).out hsv (.inl (by omega)),fun us g1 g2=>?_⟩⟩
  rw[hmid1] at hsv hso
  have hsr:=hP.sorted2 hC hDs hsv hso g1 g2
  exact hfin us (hS2.sh.trans hsr.1) hsr.2
theorem k103 (t:AVal) (ty:TypeId) (lo:Nat) (m0:AMem) (hlo:m0.length≤lo) (g:FuncId) (fs cs:List AVal) (C:Int→Int→Int) (D:Int→Prop) (hC:Ord C D) (hcmp:CmpOk m0 g fs cs D C) (xs:List Int) (hD: ∀x∈xs,D x) (hn:xs.length<256) (m:AMem) (hm:m0<+:m) (hX:OwL (AVal.int .i64) lo m ty t xs):
  ACalls Tryz.prog 103 [t,.func (.func g) fs cs] m fun _ m'=>m0<+:m'∧Ch (fun b=>t.blk=some b) m m'∧ ∃ys,OwL (AVal.int .i64) lo m' ty t ys∧ys.Perm xs∧SortedTo C ys ys.length:=by
 by_cases h12:xs.length≤12
 ·exact k103s t ty lo m0 hlo g fs cs C D hC hcmp xs hD h12 m hm hX
 refine w103 ?_
 have hw:IntKind.u64.wrap (xs.length:Int)=xs.length:=by
  simp only[IntKind.wrap,IntKind.bits,IntKind.signed,Bool.false_and]
  simp
  omega
 simp[hX.len,hw]
 refine C_of (k115e xs.length (by omega) hn m) ?_
 rintro _ m ⟨⟨z,rfl,hz,_⟩,rfl⟩
 simp
 have hcall:=k137g t ty lo m0 hlo g fs cs C D hC hcmp xs.length xs hD 0 xs.length (Nat.zero_le _) (by omega) (Nat.le_refl _) hn (fun x y k h=>by omega) z (by omega) m hm hX
 simp at hcall
 refine C_of hcall ?_
 rintro v m' ⟨h2,ys,h3,h4,h5⟩
 simp
 refine ⟨owl_pre hlo hX hm h2,h2,ys,h3,h4.perm,fun p q a b e1 e2 e3 e4=>h5 p q a b (by omega) e1 ?_ e3 e4⟩
 rw[h4.len] at e2
 exact e2
end Go.Proofs.YtlniliigcnedmaaGreatDoor
namespace Go.Proofs.YtlniliigcnedmaaGreatDoor
open Go Ax
set_option maxRecDepth 100000
theorem k116 (b:Bool) (m:AMem):ACalls Tryz.prog 116 [.bool b] m fun v m'=>v= .int .i64 (if b then 1 else 0)∧m'=m:=by
 refine w116 ?_
 cases b<;>simp
theorem kk_le (C:Int→Int→Int) (ys:List Int): ∀j,kk C ys j≤j
 |0=>by simp[kk]
 |j+1=>by have:=kk_le C ys j;rw[kk];split<;>omega
theorem perm_cells {m:AMem} {s:AVal} {lo:Nat} {ty:TypeId} {xs:List Nat} (h:OwL natI lo m ty s xs):OwL (AVal.int .i64) lo m ty s (xs.map fun x:Nat=>(x:Int)):=by
 unfold OwL at h ⊢
 rw[List.length_map,List.map_map]
 exact h
set_option maxHeartbeats 4000000 in
theorem k79 (n:Nat) (hn:n<256) (g:FuncId) (fs cs:List AVal) (C:Int→Int→Int) (m:AMem) (hC:Ord C (fun x=>0≤x∧x<n)) (hcmp:CmpOk m g fs cs (fun x=>0≤x∧x<n) C):
  ACalls Tryz.prog 79 [.int .i64 n,.func (.func g) fs cs] m fun v m'=>m<+:m'∧ ∃t ds k,v= .tuple [t,.int .i64 (k:Nat)]∧OwL natI m.length m' 3 t ds∧DenseOf n (fun a b=>C a b<0) ds k:=by
 refine w79 ?_
 have hc1:8*(n:Int)≤281474976710656:=by omega
 have hc2:(n:Int)≤9223372036854775807:=by omega
 simp[hc1,hc2]
 have hX0:OwL natI m.length (m++ [.own (List.replicate n (.int .i64 0)) 3 none]) 3 (.slice m.length 0 n n none) (List.replicate n 0):=OwL.rep (f:=natI) m 3 n 0
 have hm1:m<+:m++ [.own (List.replicate n (.int .i64 0)) 3 none]:=List.prefix_append _ _
 have hbl:(AVal.slice m.length 0 n n none).blk=some m.length:=rfl
 generalize AVal.slice m.length 0 n n none=t6 at*
 generalize m++ [.own (List.replicate n (.int .i64 0)) 3 none]=m1 at*
 obtain ⟨I,hI⟩: ∃I:Nat→AFrame→AMem→Prop,∀q a m',I q a m'↔(∃(i:Nat) (xs:List Nat),i+q=n∧a=h79_0 (.int .i64 n) (.func (.func g) fs cs) t6 (.int .i64 n) (.int .i64 i)∧m<+:m'∧OwL natI m.length m' 3 t6 xs∧xs.length=n∧ ∀(j:Nat),j<i→xs[j]? =some j):=⟨_,fun _ _ _=>Iff.rfl⟩
 refine W_loop I n ((hI _ _ _).2 ⟨0,_,by simp,rfl,hm1,hX0,by simp,fun j hj=>by omega⟩) ?_
 clear hX0 hm1
 rintro q a m2 hIn
 obtain ⟨i,xs,hk,rfl,hm2,hX,hxl,hxj⟩:=(hI _ _ _).1 hIn
 clear hIn
 simp
 refine bbind_dec (fun hin=>?_) fun hin=>?_
 ·have hw:=step64 hin (by omega)
  obtain ⟨q,rfl⟩: ∃q',q=q'+1:=⟨q-1,by omega⟩
  obtain ⟨b6,o6,hb6,hp6,_,hst⟩:=hX.at (i:=i) (by omega)
  obtain ⟨m3,hst3,hch3,hX3⟩:=hst i
  simp only[natI] at hst3
  simp[hp6,hst3,hw]
  refine ⟨q,by omega,(hI _ _ _).2 ⟨i+1,xs.set i i,by omega,by simp,hch3.pre hm2 fun b hb=>?_,hX3,by simpa using hxl,fun j hj=>?_⟩⟩
  ·have:=(hX.blk_lo hb6).1;omega
  ·rw[List.getElem?_set]
   by_cases hji:i=j
   ·subst hji;rw[if_pos rfl,if_pos (by omega)]
   ·rw[if_neg hji];exact hxj j (by omega)
 have hxs:xs=List.range n:=by
  refine List.ext_getElem? fun j=>?_
  by_cases hj:j<n
  ·rw[hxj j (by omega),List.getElem?_range hj]
  ·rw[List.getElem?_eq_none (by omega),List.getElem?_eq_none (by simp;omega)]
 subst hxs
 simp
 clear hI I hk hin
 have hrl:((List.range n).map fun x:Nat=>(x:Int)).length=n:=by simp
 refine C_of (k103 t6 3 m.length m (Nat.le_refl _) g fs cs C _ hC hcmp ((List.range n).map fun x:Nat=>(x:Int)) (fun x hx=>?_) (by omega) m2 hm2 (perm_cells hX)) ?_
 ·obtain ⟨j,hj,rfl⟩:=List.mem_map.1 hx
  have:=List.mem_range.1 hj
  omega
 rintro v m3 ⟨hm3,hch3,ys,hY,hperm,hsort⟩
 have hyl:ys.length=n:=by rw[hperm.length_eq];simp
 have hyD: ∀x∈ys,0≤x∧x<n:=fun x hx=>by
  obtain ⟨j,hj,rfl⟩:=List.mem_map.1 (hperm.mem_iff.1 hx)
  have:=List.mem_range.1 hj
  omega
 simp[hc1,hc2]
 have hX0:OwL natI m3.length (m3++ [.own (List.replicate n (.int .i64 0)) 3 none]) 3 (.slice m3.length 0 n n none) (List.replicate n 0):=OwL.rep (f:=natI) m3 3 n 0
 have hm4:m3<+:m3++ [.own (List.replicate n (.int .i64 0)) 3 none]:=List.prefix_append _ _
 have hap: ∀b,t6.blk=some b→(AVal.slice m3.length 0 n n none).blk≠some b:=fun b hb hbb=>by
  have:=(hY.blk_lo hb).2
  simp[AVal.blk] at hbb
  omega
 generalize AVal.slice m3.length 0 n n none=t8 at*
 generalize m3++ [.own (List.replicate n (.int .i64 0)) 3 none]=m4 at*
 replace hX0:=hX0.lo' hm3.length_le
 replace hY:=hY.mono hm4
 replace hm4:=hm3.trans hm4
 have hl6:=hY.len
 simp[hl6]
 rw[hyl]
 obtain ⟨I,hI⟩: ∃I:Nat→AFrame→AMem→Prop,∀q a m',I q a m'↔(∃(i:Nat) (ds:List Nat),i+q=n∧a=h79_1 (.int .i64 n) (.func (.func g) fs cs) t6 t8 (.int .i64 (kk C ys (i-1):Nat)) t6 (.int .i64 n) (.int .i64 i)∧m<+:m'∧OwL (AVal.int .i64) m.length m' 3 t6 ys∧OwL natI m.length m' 3 t8 ds∧ds.length=n∧ ∀(j:Nat) y,j<i→ys[j]? =some y→ds[y.toNat]? =some (kk C ys j)):=⟨_,fun _ _ _=>Iff.rfl⟩
 refine W_loop I n ((hI _ _ _).2 ⟨0,_,by simp,rfl,hm4,hY,hX0,by simp,fun j _ hj=>by omega⟩) ?_
 clear hX0 hm4 hl6 hY hX hm3 hm2
 rintro q a m5 hIn
 obtain ⟨i,ds,hk,rfl,hm5,hY,hds,hdl,hdj⟩:=(hI _ _ _).1 hIn
 clear hIn
 simp
 refine bbind_dec (fun hin=>?_) fun hin=>?_
 ·have hw:=step64 hin (by omega)
  obtain ⟨q,rfl⟩: ∃q',q=q'+1:=⟨q-1,by omega⟩
  have hiy:i<ys.length:=by omega
  obtain ⟨b6,o6,hb6,hp6,hl6,_⟩:=hY.at hiy
  have hDi:=hyD _ (List.getElem_mem hiy)
  have hyi:ys[i]? =some ys[i]:=List.getElem?_eq_getElem hiy
  -- the store
  have fin: ∀m7,m5<+:m7→ ∃b8 o8,(∀k,iaddrE 1 t8 (.int k ys[i])=some (.ptr b8 o8))∧ ∃m8,storeE m7 1 (.ptr b8 o8) (.int .i64 (kk C ys i:Nat))=some (.undef,m8)∧I q (h79_1 (.int .i64 n) (.func (.func g) fs cs) t6 t8 (.int .i64 (kk C ys i:Nat)) t6 (.int .i64 n) (.int .i64 (i+1:Nat))) m8:=by
   intro m7 hm7
   have hY7:=hY.mono hm7
   have hds7:=hds.mono hm7
   obtain ⟨y,hy⟩: ∃y:Nat,ys[i]=y:=⟨(ys[i]).toNat,by omega⟩
   rw[hy] at hyi ⊢
   obtain ⟨b8,o8,hb8,hp8,_,hst8⟩:=hds7.at (i:=y) (by omega)
   obtain ⟨m8,hst,hch8,hds8⟩:=hst8 (kk C ys i)
   refine ⟨b8,o8,hp8,m8,hst,(hI _ _ _).2 ⟨i+1,ds.set y (kk C ys i),by omega,rfl,hch8.pre (hm5.trans hm7) fun b hb=>?_,hY7.ch hch8 fun b hb hbb=>?_,hds8,by simpa using hdl,fun j z hj hz=>?_⟩⟩
   ·have:=(hds7.blk_lo hb8).1;omega
   ·exact hap b hb (by rw[hb8,hbb])
   ·by_cases hji:j=i
    ·subst hji
     rw[hyi] at hz;cases hz
     rw[Int.toNat_natCast,List.getElem?_set_self (by omega)]
    ·have hne:y≠z.toNat:=by
      intro h
      have hzD:=hyD z (List.mem_of_getElem? hz)
      have hzy:z=(y:Int):=by omega
      rw[hzy] at hz
      have hnd:ys.Nodup:=by
       rw[hperm.nodup_iff]
       refine List.Pairwise.map _ (fun a b hab=>?_) List.nodup_range
       intro h;exact hab (by omega)
      obtain ⟨h1,h2⟩:=List.getElem?_eq_some_iff.1 hz
      obtain ⟨h3,h4⟩:=List.getElem?_eq_some_iff.1 hyi
      have hpw:=List.pairwise_iff_getElem.1 hnd
      rcases Nat.lt_trichotomy j i with h5|h5|h5
      ·exact hpw j i h1 h3 h5 (h2.trans h4.symm)
      ·exact hji h5
      ·exact hpw i j h3 h1 h5 (h4.trans h2.symm)
     rw[List.getElem?_set_ne hne]
     exact hdj j z (by omega) hz
  by_cases hi0:i=0
  ·subst hi0
   obtain ⟨b8,o8,hp8,m8,hst8,hI8⟩:=fin m5 (List.prefix_refl _)
   simp only[kk] at hst8 hI8
   simp at hst8 hp6
   simp[hp6,hl6,hp8,hst8,kk,wrap64 (x:=1)]
   exact ⟨q,by omega,by simpa using hI8⟩
  ·obtain ⟨i,rfl⟩: ∃i',i=i'+1:=⟨i-1,by omega⟩
   have hi':(0:Int)<(i:Int)+1:=by omega
   have hwi:IntKind.i64.wrap (i:Int)=i:=wrap64 (by omega) (by omega)
   have hil:i<ys.length:=by omega
   obtain ⟨b5,o5,_,hp5,hl5,_⟩:=hY.at hil
   have hcall:=hcmp ys[i] ys[i+1] (hyD _ (List.getElem_mem hil)) hDi m5 hm5
   simp at hcall
   simp only[Int.natCast_add,Int.cast_ofNat_Int,Nat.add_sub_cancel] at hp6 hw fin ⊢
   have hkk:kk C ys (i+1)=kk C ys i+(if C ys[i] ys[i+1]≠0 then 1 else 0):=by
    rw[kk];simp[List.getD,hil,hiy]
   simp[hp6,hl6,hi',hwi,hp5,hl5]
   refine C_of hcall ?_
   rintro _ m6 ⟨rfl,hm6⟩
   obtain ⟨b8,o8,hp8,m8,hst8,hI8⟩:=fin m6 hm6
   simp
   by_cases hc:C ys[i] ys[i+1]=0
   ·rw[hkk] at hst8 hI8
    simp[hc] at hst8 hI8
    simp[hc,hp8,hst8,hw]
    exact ⟨q,by omega,hI8⟩
   ·rw[hkk] at hst8 hI8
    simp[hc] at hst8 hI8
    have hwk:IntKind.i64.wrap ((kk C ys i:Int)+1)=(kk C ys i:Int)+1:=by
     have:kk C ys i≤i:=by
      exact kk_le C ys i
     exact wrap64 (by omega) (by omega)
    simp[bneT hc,hwk,hp8,hst8,hw]
    exact ⟨q,by omega,hI8⟩
 ·have hin':i=n:=by omega
  subst hin'
  simp
  refine C_of (k116 _ m5) ?_
  rintro _ _ ⟨rfl,rfl⟩
  have hdense:=DenseOf.of_kk hC hperm hsort hdl fun j hj=>hdj j _ (by omega) (List.getElem?_eq_getElem hj)
  have hkn:kk C ys (i-1)≤i:=by
   have: ∀j,kk C ys j≤j:=by
    intro j
    induction j with
    |zero=>simp[kk]
    |succ i ih=>rw[kk];split<;>omega
   have:=this (i-1);omega
  by_cases hn0:i=0
  ·subst hn0
   simp[kk]
   rw[wrap64 (x:=0) (by omega) (by omega)]
   refine ⟨hm5,t8,ds,0,by simp,hds,by simpa using hdense⟩
  ·have h0:0<i:=by omega
   simp[h0]
   rw[wrap64 (by omega) (by omega)]
   refine ⟨hm5,t8,ds,kk C ys (i-1)+1,by simp,hds,by simpa[hn0] using hdense⟩
end Go.Proofs.YtlniliigcnedmaaGreatDoor
namespace Go.Proofs.YtlniliigcnedmaaGreatDoor
open Go Ax
set_option maxRecDepth 100000
theorem cmpI_lt {a b:Int}:cmpI a b<0↔a<b:=by unfold cmpI;split<;>(try split)<;>omega
theorem cmpI_gt {a b:Int}:0<cmpI a b↔b<a:=by unfold cmpI;split<;>(try split)<;>omega
theorem cmpI_le {a b:Int}:cmpI a b≤0↔a≤b:=by unfold cmpI;split<;>(try split)<;>omega
theorem cmpI_zero {a b:Int}:cmpI a b=0↔a=b:=by unfold cmpI;split<;>(try split)<;>omega
theorem cmpI_ord:Ord cmpI (fun _=>True):=⟨fun a b _ _=>by rw[cmpI_lt,cmpI_gt],fun a b c _ _ _ h1 h2=>by rw[cmpI_le] at*;omega⟩
def lexC {α:Type} (c:α→α→Int):List α→List α→Int
 | [],[]=>0
 | [],_::_=> -1
 |_::_,[]=>1
 |x::xs,y::ys=>if c x y≠0 then c x y else lexC c xs ys
theorem lexC_nil {α:Type} (c:α→α→Int) (ys:List α):lexC c [] ys=if ys.length=0 then 0 else-1:=by cases ys<;>simp[lexC]
theorem k87 (s t:AVal) (xs ys:List Int) (m:AMem) (hs:RInts m s xs) (ht:RInts m t ys) (hn:xs.length<2^62):ACalls Tryz.prog 87 [s,t] m fun v m'=>v= .int .i64 (lexC cmpI xs ys)∧m'=m:=by
 refine w87 ?_
 simp[hs.len]
 generalize hL:lexC cmpI xs ys=L
 refine W_loop (fun n a m'=> ∃k:Nat,k+n=xs.length∧a=h87_0 s t s (.int .i64 xs.length) (.int .i64 k)∧m'=m∧k≤ys.length∧lexC cmpI (xs.drop k) (ys.drop k)=L) xs.length ⟨0,by simp[hL]⟩ ?_
 rintro n a m ⟨k,hk,rfl,rfl,hky,hi⟩
 simp
 refine bbind_dec (fun h=>?_) fun h=>?_
 ·have hw:=step64 h hn
  obtain ⟨n,rfl⟩: ∃n',n=n'+1:=⟨n-1,by omega⟩
  obtain ⟨b1,o1,h1,h2⟩:=hs.at h
  rw[List.drop_eq_getElem_cons h] at hi
  by_cases hy:k<ys.length
  ·obtain ⟨b3,o3,h3,h4⟩:=ht.at hy
   rw[List.drop_eq_getElem_cons hy] at hi
   have hy': ¬ys.length≤k:=by omega
   simp[h1,h2,ht.len,hy',h3,h4]
   refine C_of (k86 xs[k] ys[k] m) ?_
   rintro _ _ ⟨rfl,rfl⟩
   simp only[lexC] at hi
   by_cases hc:cmpI xs[k] ys[k]=0
   ·simp[hc] at hi
    simp[hc,hw]
    exact ⟨n,by omega,k+1,by omega,by simp,by omega,hi⟩
   ·simp[hc] at hi
    have hL0: ¬L=0:=by rw[←hi];exact hc
    simp[hi,bneT hL0]
  ·have hy':ys.length≤k:=by omega
   rw[List.drop_eq_nil_of_le hy'] at hi
   simp only[lexC] at hi
   simp[h1,h2,ht.len,hy',hi]
 ·have hkx:k=xs.length:=by omega
  subst hkx
  rw[List.drop_eq_nil_of_le (Nat.le_refl _),lexC_nil,List.length_drop] at hi
  by_cases hlt:xs.length<ys.length
  ·rw[if_neg (by omega)] at hi
   simp[hs.len,ht.len,hlt,hi]
  ·rw[if_pos (by omega)] at hi
   simp[hs.len,ht.len,hlt,hi]
def cmpS (a b:ByteArray):Int:=if Op.bytesLess a.toList b.toList then-1 else if !(Op.bytesLess a.toList b.toList||a.toList==b.toList) then 1 else 0
theorem k186 (a:ByteArray) (m:AMem):ACalls Tryz.prog 186 [.str a] m fun v m'=>v= .bool false∧m'=m:=by
 refine w186 ?_
 simp[binStr]
theorem k156 (a b:ByteArray) (m:AMem):ACalls Tryz.prog 156 [.str a,.str b] m fun v m'=>v= .int .i64 (cmpS a b)∧m'=m:=by
 refine w156 ?_
 simp
 refine C_of (k186 a m) ?_
 rintro _ _ ⟨rfl,rfl⟩
 simp
 refine C_of (k186 b _) ?_
 rintro _ _ ⟨rfl,rfl⟩
 simp[binStr]
 cases h:Op.bytesLess a.toList b.toList
 ·cases h':a.toList==b.toList
  ·simp[binStr,h,h',cmpS]
  ·simp[binStr,h,h',cmpS]
 ·simp[cmpS,h]
theorem k117 (s t:AVal) (xs ys:List ByteArray) (m:AMem) (hs:RStrs m s xs) (ht:RStrs m t ys) (hn:xs.length<2^62):ACalls Tryz.prog 117 [s,t] m fun v m'=>v= .int .i64 (lexC cmpS xs ys)∧m'=m:=by
 refine w117 ?_
 simp[hs.len]
 generalize hL:lexC cmpS xs ys=L
 refine W_loop (fun n a m'=> ∃k:Nat,k+n=xs.length∧a=h117_0 s t s (.int .i64 xs.length) (.int .i64 k)∧m'=m∧k≤ys.length∧lexC cmpS (xs.drop k) (ys.drop k)=L) xs.length ⟨0,by simp[hL]⟩ ?_
 rintro n a m ⟨k,hk,rfl,rfl,hky,hi⟩
 simp
 refine bbind_dec (fun h=>?_) fun h=>?_
 ·have hw:=step64 h hn
  obtain ⟨n,rfl⟩: ∃n',n=n'+1:=⟨n-1,by omega⟩
  obtain ⟨b1,o1,h1,h2⟩:=hs.at h
  rw[List.drop_eq_getElem_cons h] at hi
  by_cases hy:k<ys.length
  ·obtain ⟨b3,o3,h3,h4⟩:=ht.at hy
   rw[List.drop_eq_getElem_cons hy] at hi
   have hy': ¬ys.length≤k:=by omega
   simp[h1,h2,ht.len,hy',h3,h4]
   refine C_of (k156 xs[k] ys[k] m) ?_
   rintro _ _ ⟨rfl,rfl⟩
   simp only[lexC] at hi
   by_cases hc:cmpS xs[k] ys[k]=0
   ·simp[hc] at hi
    simp[hc,hw]
    exact ⟨n,by omega,k+1,by omega,by simp,by omega,hi⟩
   ·simp[hc] at hi
    have hL0: ¬L=0:=by rw[←hi];exact hc
    simp[hi,bneT hL0]
  ·have hy':ys.length≤k:=by omega
   rw[List.drop_eq_nil_of_le hy'] at hi
   simp only[lexC] at hi
   simp[h1,h2,ht.len,hy',hi]
 ·have hkx:k=xs.length:=by omega
  subst hkx
  rw[List.drop_eq_nil_of_le (Nat.le_refl _),lexC_nil,List.length_drop] at hi
  by_cases hlt:xs.length<ys.length
  ·rw[if_neg (by omega)] at hi
   simp[hs.len,ht.len,hlt,hi]
  ·rw[if_pos (by omega)] at hi
   simp[hs.len,ht.len,hlt,hi]
theorem k163 (a b:Int) (m:AMem):ACalls Tryz.prog 163 [.int .i64 a,.int .i64 b] m fun v m'=>v= .bool (decide (a<b))∧m<+:m':=by
 refine w163 ?_
 simp
 refine C_of (k119 a m) ?_
 rintro _ _ ⟨rfl,rfl⟩
 simp
set_option maxHeartbeats 4000000 in
theorem k157 (t:AVal) (ty:TypeId) (lo:Nat) (m0:AMem) (hlo:m0.length≤lo) (xs:List Int) (hn:xs.length<2^62) (m:AMem) (hm:m0<+:m) (hX:OwL (AVal.int .i64) lo m ty t xs):
  ACalls Tryz.prog 157 [t,.int .i64 0,.int .i64 xs.length] m fun _ m'=>m0<+:m'∧Ch (fun b=>t.blk=some b) m m'∧ ∃ys,OwL (AVal.int .i64) lo m' ty t ys∧ys.Perm xs∧SortedTo cmpI ys ys.length:=by
 refine w157 ?_
 have hC:=cmpI_ord
 have hD: ∀x∈xs,True:=fun _ _=>trivial
 simp
 rw[wrap64 (x:=1) (by omega) (by omega)]
 obtain ⟨I,hI⟩: ∃I:Nat→AFrame→AMem→Prop,∀q a m',I q a m'↔(∃(i:Nat) (ys:List Int),i+q=xs.length+1∧1≤i∧a=h157_0 t (.int .i64 0) (.int .i64 xs.length) (.int .i64 i)∧m0<+:m'∧Ch (fun b=>t.blk=some b) m m'∧OwL (AVal.int .i64) lo m' ty t ys∧ys.Perm xs∧SortedTo cmpI ys i):=⟨_,fun _ _ _=>Iff.rfl⟩
 refine W_loop I xs.length ((hI _ _ _).2 ⟨1,xs,by omega,by omega,rfl,hm,.refl _ _,hX,.refl _,fun p q a b h1 h2=>by omega⟩) ?_
 clear hX hm
 rintro q a m1 hIn
 obtain ⟨i,ys,hk,hi1,rfl,hm1,hch1,hY,hperm,hsort⟩:=(hI _ _ _).1 hIn
 clear hIn
 have hyl:=hperm.length_eq
 simp
 refine bbind_dec (fun hil=>?_) fun hil=>?_
 ·have hw:=step64 hil hn
  obtain ⟨q,rfl⟩: ∃q',q=q'+1:=⟨q-1,by omega⟩
  simp
  obtain ⟨I2,hI2⟩: ∃I:Nat→AFrame→AMem→Prop,∀q a m',I q a m'↔(∃(ys:List Int),a=h157_1 t (.int .i64 0) (.int .i64 xs.length) (.int .i64 i) (.int .i64 q)∧m0<+:m'∧Ch (fun b=>t.blk=some b) m m'∧OwL (AVal.int .i64) lo m' ty t ys∧ys.Perm xs∧InsInv cmpI ys i q):=⟨_,fun _ _ _=>Iff.rfl⟩
  refine W_loop I2 i ((hI2 _ _ _).2 ⟨ys,rfl,hm1,hch1,hY,hperm,.start hsort⟩) ?_
  clear hm1 hch1 hY hperm hsort hyl
  rintro j a m2 hIn
  obtain ⟨ys,rfl,hm2,hch2,hY,hperm,hins⟩:=(hI2 _ _ _).1 hIn
  clear hIn
  have hyl:=hperm.length_eq
  have hDy: ∀x∈ys,True:=fun _ _=>trivial
  have hji:=hins.le
  simp
  have done: ∀m3,m2<+:m3→(j=0∨ ∀a b,ys[j]? =some a→ys[j-1]? =some b→ ¬cmpI a b<0)→I q (h157_0 t (.int .i64 0) (.int .i64 xs.length) (.int .i64 (i+1:Nat))) m3:=fun m3 hm3 hs=>(hI _ _ _).2 ⟨i+1,ys,by omega,by omega,rfl,hm2.trans hm3,hch2.trans (.of_prefix hm3),hY.mono hm3,hperm,hins.stop hC hDy hs⟩
  refine W_draw (fun _ _ _=>True) (by simp[maxDst]) ?_
  refine D_pc 0 13 [13,14] ?_
  by_cases hj:0<j
  ·have hj':(0:Int)<j:=by omega
   obtain ⟨j,rfl⟩: ∃j',j=j'+1:=⟨j-1,by omega⟩
   simp only[Nat.add_sub_cancel] at done
   have hj1:j+1<ys.length:=by omega
   have hj0:j<ys.length:=by omega
   obtain ⟨b1,o1,hb1,hp1,hl1,_⟩:=hY.at hj1
   obtain ⟨b0,o0,hb0,hp0,hl0,_⟩:=hY.at hj0
   have hx:ys[j+1]? =some ys[j+1]:=List.getElem?_eq_getElem hj1
   have hy:ys[j]? =some ys[j]:=List.getElem?_eq_getElem hj0
   have hDx:=hDy _ (List.getElem_mem hj1)
   have hDy':=hDy _ (List.getElem_mem hj0)
   have hswapP:=List.set_set_perm hj1 hj0
   generalize hxx:ys[j+1]=x at*
   generalize hyy:ys[j]=y at*
   simp only[Int.natCast_add,Int.cast_ofNat_Int] at hp1 hj' ⊢
   have hpj:IntKind.i64.wrap (j:Int)=j:=wrap64 (by omega) (by omega)
   simp[hj',hp1,hl1,hpj,hp0,hl0]
   intro fs' hfs'
   refine D_Xg rfl rfl (b:=true) (by simp) (fun _ m5 hm5 _=>?_) (fun h=>absurd rfl h)
   simp
   refine C_of (k163 x y m5) ?_
   rintro _ m6 ⟨rfl,hm6⟩
   refine ⟨by simp[lateOf],?_⟩
   refine D_pc 14 1 [] ?_
   simp
   intro fs'' hfs''
   refine D_end fun m7 hm7 _=>?_
   simp
   have hm27:=(hm5.trans hm6).trans hm7
   refine bbind_dec (fun hlt=>?_) fun hlt=>?_
   ·have hlt:cmpI x y<0:=cmpI_lt.2 hlt
    simp
    refine W_draw (fun _ _ _=>True) (by simp[maxDst]) ?_
    refine D_pc 0 15 [15,16,17] ?_
    simp[hp1,hpj,hp0,loadE_mono hm27 hl1,loadE_mono hm27 hl0]
    intro fs3 _
    refine D_W rfl rfl fun m8 hm8 _=>?_
    have hY8:=hY.mono (hm27.trans hm8)
    obtain ⟨b1',o1',hb1',hp1',_,hst1⟩:=hY8.at hj1
    obtain ⟨rfl,rfl⟩:b1'=b1∧o1'=o1:=by have:=(hp1' .i64).symm.trans (by simpa using hp1 .i64);simpa using this
    obtain ⟨m9,hst9,hch9,hY9⟩:=hst1 y
    simp[hst9]
    refine D_pc 16 1 [17] ?_
    simp[hp0]
    intro fs4 _
    refine D_W rfl rfl fun m10 hm10 _=>?_
    have hY10:=hY9.mono hm10
    obtain ⟨b0',o0',hb0',hp0',_,hst0⟩:=hY10.at (i:=j) (by simpa using hj0)
    obtain ⟨rfl,rfl⟩:b0'=b0∧o0'=o0:=by have:=(hp0' .i64).symm.trans (hp0 .i64);simpa using this
    obtain ⟨m11,hst11,hch11,hY11⟩:=hst0 x
    simp[hst11]
    refine D_end fun m12 hm12 _=>?_
    simp[hpj]
    have hcc:Ch (fun b=>t.blk=some b) m2 m12:=((((Ch.of_prefix (hm27.trans hm8)).trans (hch9.weaken fun b _ hb=>by rw[hb];exact hb1')).trans (.of_prefix hm10)).trans (hch11.weaken fun b _ hb=>by rw[hb];exact hb0')).trans (.of_prefix hm12)
    refine ⟨j,by omega,(hI2 _ _ _).2 ⟨_,rfl,hcc.pre hm2 fun b hb hbb=>?_,hch2.trans hcc,hY11.mono hm12,?_,hins.swap hx hy hlt⟩⟩
    ·have:=(hY.blk_lo hbb).1;omega
    ·exact (by simpa using hswapP:((ys.set (j+1) y).set j x).Perm ys).trans hperm
   ·simp[hw]
    have hd:=done m7 hm27 (.inr fun a b ha hb=>by rw[hx] at ha;cases ha;rw[hy] at hb;cases hb;exact fun h=>hlt (cmpI_lt.1 h))
    exact ⟨q,by omega,by simpa using hd⟩
  ·obtain rfl:j=0:=by omega
   simp
   intro fs' hfs'
   refine D_Xg rfl rfl (b:=false) (by simp) (fun h=>by cases h) (fun _ m5 hm5 _=>⟨by simp[lateOf],?_⟩)
   refine D_pc 14 1 [] ?_
   simp
   intro fs'' hfs''
   refine D_end fun m7 hm7 _=>?_
   simp[hw]
   exact ⟨q,by omega,by simpa using done m7 (hm5.trans hm7) (.inl rfl)⟩
 ·simp
  refine ⟨hm1,hch1,ys,hY,hperm,?_⟩
  by_cases h1:i=ys.length
  ·rw[←h1];exact hsort
  ·intro p q' a b h1' h2 h3 h4
   exact hsort p q' a b h1' (by omega) h3 h4
theorem k118 (t:AVal) (ty:TypeId) (lo:Nat) (m0:AMem) (hlo:m0.length≤lo) (xs:List Int) (hn:xs.length≤12) (z:AVal) (m:AMem) (hm:m0<+:m) (hX:OwL (AVal.int .i64) lo m ty t xs):
  ACalls Tryz.prog 118 [t,.int .i64 0,.int .i64 xs.length,z] m fun _ m'=>m0<+:m'∧Ch (fun b=>t.blk=some b) m m'∧ ∃ys,OwL (AVal.int .i64) lo m' ty t ys∧ys.Perm xs∧SortedTo cmpI ys ys.length:=by
 refine w118 ?_
 simp
 refine W_loop (fun _ a m'=>m'=m∧ ∃x y,a=h118_0 t (.int .i64 0) (.int .i64 xs.length) z x y) 0 ⟨rfl,_,_,rfl⟩ ?_
 rintro n a m ⟨rfl,x,y,rfl⟩
 have hw:IntKind.i64.wrap (xs.length:Int)=xs.length:=wrap64 (by omega) (by omega)
 have hle:(xs.length:Int)≤12:=by omega
 simp[hw,hle]
 refine C_of (k157 t ty lo m0 hlo xs (by omega) m hm hX) ?_
 rintro v m' h
 simp
 exact h
theorem k82 (t:AVal) (ty:TypeId) (lo:Nat) (m0:AMem) (hlo:m0.length≤lo) (xs:List Int) (hn:xs.length≤12) (m:AMem) (hm:m0<+:m) (hX:OwL (AVal.int .i64) lo m ty t xs):
  ACalls Tryz.prog 82 [t] m fun _ m'=>m0<+:m'∧Ch (fun b=>t.blk=some b) m m'∧ ∃ys,OwL (AVal.int .i64) lo m' ty t ys∧ys.Perm xs∧SortedTo cmpI ys ys.length:=by
 refine w82 ?_
 have hw:IntKind.u64.wrap (xs.length:Int)=xs.length:=by
  simp only[IntKind.wrap,IntKind.bits,IntKind.signed,Bool.false_and]
  simp
  omega
 simp[hX.len,hw]
 refine C_of (k115 xs.length (by omega) m) ?_
 rintro _ _ ⟨⟨z,rfl⟩,rfl⟩
 simp
 refine C_of (k118 t ty lo m0 hlo xs hn _ _ hm hX) ?_
 rintro v m' h
 simp
 exact h
end Go.Proofs.YtlniliigcnedmaaGreatDoor
namespace Go.Proofs.YtlniliigcnedmaaGreatDoor
open Go Ax
set_option maxRecDepth 100000
theorem upd_triv (i:Nat) {fs:Facts} (h: ∀j m',fs j m'): ∀j m',upd fs i (fun _=>True) j m':=fun j m'=>by
 unfold upd
 split
 ·trivial
 ·exact h j m'
def bi (b:Bool):Int:=if b then 1 else 0
def lenC (x y:Md):Int:=if x.kind=12 then 0 else cmpI x.elems.length y.elems.length
def firstL (x y:Md):List Int:= [cmpI x.kind y.kind,cmpI x.size y.size,cmpI x.dims y.dims,cmpI (bi x.flex) (bi y.flex),lenC x y,lexC cmpS x.names y.names]
def firstC (x y:Md):Int:=firstNZ (firstL x y)
def ks92 (x y:Md):Nat→AVal→AMem→Prop:=fun i v _=>v= .int .i64 (
 if i=4 then cmpI x.kind y.kind else if i=9 then cmpI x.size y.size else if i=14 then cmpI x.dims y.dims else if i=17 then bi x.flex else if i=20 then bi y.flex
 else if i=21 then cmpI (bi x.flex) (bi y.flex) else if i=27 then lexC cmpS x.names y.names else firstC x y)
set_option maxHeartbeats 4000000 in
theorem k81 (cx cy:List AVal) (x y:Md) (m:AMem) (hx:RMode m cx x) (hy:RMode m cy y) (hsx:smallN x) (hsy:smallN y):ACalls Tryz.prog 81 [.agg cx,.agg cy] m fun v m'=>v= .int .i64 (firstC x y)∧m<+:m':=by
 obtain ⟨ex,nx,rfl,hex,hnx⟩:=hx
 obtain ⟨ey,ny,rfl,hey,hny⟩:=hy
 refine w81 ?_
 have h1:=Sl.one hex
 have h2:=Sl.one hnx
 have h3:=Sl.one hey
 have h4:=Sl.one hny
 simp[h1,h2,h3,h4]
 have hb1:=readB_new m [.int .i64 x.kind,.int .i64 x.size,ex,nx,.int .i64 x.dims,.bool x.flex] 39 none
 have hm1:m<+:m++ [.own [.int .i64 x.kind,.int .i64 x.size,ex,nx,.int .i64 x.dims,.bool x.flex] 39 none]:=List.prefix_append _ _
 have hlen:(m++ [ABlk.own [.int .i64 x.kind,.int .i64 x.size,ex,nx,.int .i64 x.dims,.bool x.flex] 39 none]).length=m.length+1:=by simp
 have hb2:=readB_new (m++ [.own [.int .i64 x.kind,.int .i64 x.size,ex,nx,.int .i64 x.dims,.bool x.flex] 39 none]) [.int .i64 y.kind,.int .i64 y.size,ey,ny,.int .i64 y.dims,.bool y.flex] 39 none
 have hm2:m++ [.own [.int .i64 x.kind,.int .i64 x.size,ex,nx,.int .i64 x.dims,.bool x.flex] 39 none]<+:m++ [.own [.int .i64 x.kind,.int .i64 x.size,ex,nx,.int .i64 x.dims,.bool x.flex] 39 none]++ [.own [.int .i64 y.kind,.int .i64 y.size,ey,ny,.int .i64 y.dims,.bool y.flex] 39 none]:=List.prefix_append _ _
 replace hb1:=readB_mono hm2 hb1
 replace hm1:=hm1.trans hm2
 rw[hlen] at hb2
 simp only[List.append_assoc,List.singleton_append] at hb1 hb2 hm1
 generalize m++ [.own [.int .i64 x.kind,.int .i64 x.size,ex,nx,.int .i64 x.dims,.bool x.flex] 39 none,.own [.int .i64 y.kind,.int .i64 y.size,ey,ny,.int .i64 y.dims,.bool y.flex] 39 none]=m1 at hb1 hb2 hm1 ⊢
 clear hlen hm2
 replace hex:=RInts.mono hex hm1
 replace hey:=RInts.mono hey hm1
 replace hnx:=RStrs.mono hnx hm1
 replace hny:=RStrs.mono hny hm1
 simp[bx hb1]
 generalize m.length=b1 at*
 generalize b1+1=b2 at*
 refine bbind_J (fun a m'=>a.forget [2,3,5]=mat 46 [(2,.ptr b1 0),(3,.ptr b2 0),(5,.int .i64 (lenC x y))]∧m'=m1) ?_ ?_
 ·by_cases c:x.kind=12
  ·simp[c,lenC]
  ·simp[bneT c,bx hb1,bx hb2,hex.len,hey.len]
   refine C_of (k86 _ _ m1) ?_
   rintro _ _ ⟨rfl,rfl⟩
   simp[lenC,c]
 rintro a m1 ⟨ha,rfl⟩
 simp[ha]
 refine W_draw (ks92 x y) (by simp[maxDst]) ?_
 have: ∀(j:Nat) (m':AMem),noFacts j m':=fun _ _=>trivial
 refine D_pre 0 4 [4,5,6,7,8,9,10,11,12,13,14,15,16,17,18,19,20,21,22,23,24,25,26,27,28,29,30] (by simp only[List.drop_zero,List.drop_succ_cons,List.take_succ_cons,List.take_zero];rfl) rfl rfl ‹_› ?_
 simp[bx hb1,bx hb2,hex.len,hey.len]
 intro _ _
 refine D_Cv (.int .i64 (cmpI x.kind y.kind)) rfl trivial rfl rfl (fun m' hm' _=>(k86 _ _ m').mono fun v m'' h=>⟨by rw[h.2];exact List.prefix_refl _,h.1⟩) ?_
 have:=upd_triv 4 ‹∀(j:Nat) (m':AMem),_›
 refine D_pre 5 4 [9,10,11,12,13,14,15,16,17,18,19,20,21,22,23,24,25,26,27,28,29,30] (by simp only[List.drop_zero,List.drop_succ_cons,List.take_succ_cons,List.take_zero];rfl) rfl rfl ‹_› ?_
 simp[bx hb1,bx hb2,hex.len,hey.len]
 intro _ _
 refine D_Cv (.int .i64 (cmpI x.size y.size)) rfl trivial rfl rfl (fun m' hm' _=>(k86 _ _ m').mono fun v m'' h=>⟨by rw[h.2];exact List.prefix_refl _,h.1⟩) ?_
 have:=upd_triv 9 ‹∀(j:Nat) (m':AMem),_›
 refine D_pre 10 4 [14,15,16,17,18,19,20,21,22,23,24,25,26,27,28,29,30] (by simp only[List.drop_zero,List.drop_succ_cons,List.take_succ_cons,List.take_zero];rfl) rfl rfl ‹_› ?_
 simp[bx hb1,bx hb2,hex.len,hey.len]
 intro _ _
 refine D_Cv (.int .i64 (cmpI x.dims y.dims)) rfl trivial rfl rfl (fun m' hm' _=>(k86 _ _ m').mono fun v m'' h=>⟨by rw[h.2];exact List.prefix_refl _,h.1⟩) ?_
 have:=upd_triv 14 ‹∀(j:Nat) (m':AMem),_›
 refine D_pre 15 2 [17,18,19,20,21,22,23,24,25,26,27,28,29,30] (by simp only[List.drop_zero,List.drop_succ_cons,List.take_succ_cons,List.take_zero];rfl) rfl rfl ‹_› ?_
 simp[bx hb1,bx hb2,hex.len,hey.len]
 intro _ _
 refine D_Cv (.int .i64 (bi x.flex)) rfl trivial rfl rfl (fun m' hm' _=>(k116 _ m').mono fun v m'' h=>⟨by rw[h.2];exact List.prefix_refl _,h.1⟩) ?_
 have:=upd_triv 17 ‹∀(j:Nat) (m':AMem),_›
 refine D_pre 18 2 [20,21,22,23,24,25,26,27,28,29,30] (by simp only[List.drop_zero,List.drop_succ_cons,List.take_succ_cons,List.take_zero];rfl) rfl rfl ‹_› ?_
 simp[bx hb1,bx hb2,hex.len,hey.len]
 intro _ _
 refine D_Cv (.int .i64 (bi y.flex)) rfl trivial rfl rfl (fun m' hm' _=>(k116 _ m').mono fun v m'' h=>⟨by rw[h.2];exact List.prefix_refl _,h.1⟩) ?_
 have:=upd_triv 20 ‹∀(j:Nat) (m':AMem),_›
 refine D_Cv (.int .i64 (cmpI (bi x.flex) (bi y.flex))) rfl trivial rfl rfl (fun m' hm' _=>(k86 _ _ m').mono fun v m'' h=>⟨by rw[h.2];exact List.prefix_refl _,h.1⟩) ?_
 have:=upd_triv 21 ‹∀(j:Nat) (m':AMem),_›
 refine D_pre 22 5 [27,28,29,30] (by simp only[List.drop_zero,List.drop_succ_cons,List.take_succ_cons,List.take_zero];rfl) rfl rfl ‹_› ?_
 simp[bx hb1,bx hb2,hex.len,hey.len]
 intro _ _
 refine D_Cv (.int .i64 (lexC cmpS x.names y.names)) rfl trivial rfl rfl (fun m' hm' _=>(k117 nx ny _ _ m' (hnx.mono hm') (hny.mono hm') hsx.2.1).mono fun v m'' h=>⟨by rw[h.2];exact List.prefix_refl _,h.1⟩) ?_
 have:=upd_triv 27 ‹∀(j:Nat) (m':AMem),_›
 refine D_A rfl trivial ?_
 simp[fillA,setN]
 intro b
 refine D_Cv (.int .i64 (firstC x y)) rfl trivial rfl rfl (fun m' hm' hp=>?_) ?_
 ·have h28:=hp 28 (by simp)
  simp[upd] at h28
  refine (k85 (.slice b 0 6 6 none) (firstL x y) m' ?_ (by simp[firstL])).mono fun v m'' h=>⟨by rw[h.2];exact List.prefix_refl _,h.1⟩
  refine .inr ⟨b,0,6,none,rfl,⟨by simp[firstL],.inl rfl⟩,.inr ⟨by simp[firstL],_,by simp[readB,h28,ABlk.cells];rfl,by simp[firstL,readN]⟩⟩
 refine D_P rfl trivial ?_
 simp
 refine D_end fun m2 hm2 _=>?_
 simp[hm1.trans hm2]
end Go.Proofs.YtlniliigcnedmaaGreatDoor
namespace Go.Proofs.YtlniliigcnedmaaGreatDoor
open Go Ax
set_option maxRecDepth 100000
def cp (ys:List Int):Nat→List Int
 |0=> []
 |j+1=>if j≠0∧ys[j]? =ys[j-1]? then cp ys j else cp ys j++ [ys.getD j 0]
theorem cp_length (ys:List Int): ∀j,(cp ys j).length≤j
 |0=>by simp[cp]
 |j+1=>by
  have:=cp_length ys j
  rw[cp]
  split
  ·omega
  ·simp;omega
@[simp] theorem ev_clear (a:AFrame) (m:AMem) (z:List AVal) (x:Arg):WOp.ev a m (.clear z x)=clearE m z (a.ev x):=rfl
theorem Ax.OwL.clear {α:Type} {f:α→AVal} [hf:Cell f] {lo:Nat} {m:AMem} {ty:TypeId} {s:AVal} {xs:List α} (h:OwL f lo m ty s xs) {i:Nat} (hi:i<xs.length) (z:α): ∃s' m',sliceE 1 s (some (.int .i64 i)) none=some s'∧clearE m [f z] s'=some (.undef,m')∧Ch (fun b=>s.blk=some b) m m'∧OwL f lo m' ty s (xs.take i++List.replicate (xs.length-i) z):=by
 rcases h with ⟨_,h1,_⟩|⟨b,o,cap,gr,bl,gr',rfl,h1,h2,h3,h4,h5,h6,h7⟩
 ·omega
 have hl3:=readN_length h3
 refine ⟨.slice b (o+i) (xs.length-i) (cap-i) gr,m.set b (.own (setN bl (o+i) (List.replicate (xs.length-i) (f z))) ty gr'),?_,?_,Ch.setS _ rfl,?_⟩
 ·simp only[sliceE,bdE,evSlice]
  simp
  exact ⟨by omega,h4,by rcases h7 with h|h<;>simp[h]⟩
 ·have hfl:(List.replicate (xs.length-i) [f z]).flatten=List.replicate (xs.length-i) (f z):=by
   generalize xs.length-i=q
   induction q with
   |zero=>rfl
   |succ q ih=>rw[List.replicate_succ,List.flatten_cons,ih];rfl
  simp only[clearE]
  rw[if_neg (by omega),hfl]
  simp only[writeB,h2]
  rw[if_pos ⟨by simp;omega,by simp[hf.one]⟩]
  rfl
 ·refine .inr ⟨b,o,cap,gr,_,gr',by simp;omega,h1,List.getElem?_set_self (List.getElem?_eq_some_iff.1 h2).1,?_,by simp;omega,by rw[setN_length];exact h5,all_setN h6 (by simp[hf.one]),h7⟩
  unfold readN
  rw[setN_length,if_pos (by simp;omega)]
  congr 1
  refine List.ext_getElem? fun q=>?_
  rw[List.getElem?_take]
  have hlen:(xs.take i++List.replicate (xs.length-i) z).length=xs.length:=by simp;omega
  rw[hlen,Nat.mul_one]
  by_cases hq:q<xs.length
  ·rw[if_pos hq,List.getElem?_drop,setN_get _ _ _ _ (by simp;omega),List.map_append]
   simp only[List.length_replicate]
   by_cases hqi:q<i
   ·rw[if_neg (by omega),List.getElem?_append_left (by simp;omega)]
    have:=readN_get h3 (i:=q) (by omega)
    rw[this]
    simp[hqi]
   ·rw[if_pos (by omega),List.getElem?_append_right (by simp;omega)]
    simp
    rw[List.getElem?_replicate,List.getElem?_replicate]
    rw[if_pos (by omega),if_pos (by omega)]
    try rfl
  ·rw[if_neg hq,List.getElem?_eq_none (by simp;omega)]
set_option maxHeartbeats 4000000 in
theorem k83 (t:AVal) (ty:TypeId) (lo:Nat) (m0:AMem) (hlo:m0.length≤lo) (ys:List Int) (hn:ys.length<2^62) (m:AMem) (hm:m0<+:m) (hX:OwL (AVal.int .i64) lo m ty t ys):
  ACalls Tryz.prog 83 [t] m fun v m'=>m0<+:m'∧Ch (fun b=>t.blk=some b) m m'∧OwL (AVal.int .i64) lo m' ty v (cp ys ys.length)∧v.blk=t.blk:=by
 refine w83 ?_
 simp[hX.len]
 refine bbind_dec (fun h2=>?_) fun h2=>?_
 ·have hcp:cp ys ys.length=ys:=by
   match ys,h2 with
   | [],_=>rfl
   | [a],_=>simp[cp]
   |a::b::r,h2=>simp at h2;omega
  simp[hm,hcp,hX]
  exact .refl _ _
 simp
 obtain ⟨I,hI⟩: ∃I:Nat→AFrame→AMem→Prop,∀q a m',I q a m'↔(∃(k:Nat),k+q=ys.length∧1≤k∧a=h83_0 t (.int .i64 k)∧m<+:m'∧cp ys k=ys.take k):=⟨_,fun _ _ _=>Iff.rfl⟩
 have h1:cp ys 1=ys.take 1:=by
  match ys,h2 with
  | [],h2=>simp at h2
  |a::r,_=>simp[cp]
 refine W_loop I (ys.length-1) ((hI _ _ _).2 ⟨1,by omega,by omega,rfl,List.prefix_refl _,h1⟩) ?_
 rintro q a m1 hIn
 obtain ⟨k,hk,hk1,rfl,hm1,hcp⟩:=(hI _ _ _).1 hIn
 clear hIn
 replace hX:=hX.mono hm1
 have hch:Ch (fun b=>t.blk=some b) m m1:= .of_prefix hm1
 replace hm:=hm.trans hm1
 simp[hX.len]
 refine bbind_dec (fun hkl=>?_) fun hkl=>?_
 ·have hw:=step64 hkl hn
  obtain ⟨q,rfl⟩: ∃q',q=q'+1:=⟨q-1,by omega⟩
  have hp:=pred64 (n:=k) (by omega) (by omega)
  obtain ⟨b1,o1,_,hp1,hl1,_⟩:=hX.at hkl
  obtain ⟨b0,o0,_,hp0,hl0,_⟩:=hX.at (i:=k-1) (by omega)
  simp
  refine W_drawPR (by simp[maxDst]) rfl rfl ?_
  simp[hp1,hl1,hp,hp0,hl0]
  intro m2 hm2
  replace hX:=hX.mono hm2
  have hch2:=hch.trans (.of_prefix hm2)
  replace hm:=hm.trans hm2
  by_cases heq:ys[k]=ys[k-1]
  rotate_left
  ·have hcp':cp ys (k+1)=ys.take (k+1):=by
    rw[cp,if_neg,hcp]
    ·rw[List.take_add_one,List.getElem?_eq_getElem hkl];simp[List.getD,hkl]
    ·rintro ⟨_,h⟩
     rw[List.getElem?_eq_getElem hkl,List.getElem?_eq_getElem (by omega)] at h
     exact heq (by simpa using h)
   simp[beqF heq,hw]
   exact ⟨q,by omega,(hI _ _ _).2 ⟨k+1,by omega,by omega,by simp,hm1.trans hm2,hcp'⟩⟩
  simp[heq]
  clear hp1 hl1 hp0 hl0
  obtain ⟨s2,hs2,_,_⟩:=hX.drop (i:=k) (by omega)
  have hs2': ∀(j:Nat),j<ys.length-k→ ∀kd,iaddrE 1 s2 (.int kd j)=iaddrE 1 t (.int kd (k+j:Nat)):=by
   intro j hj kd
   rcases hX with ⟨_,h1,_⟩|⟨b,o,cap,gr,bl,gr',rfl,_⟩
   ·omega
   ·have:=hs2 .i64
    simp only[sliceE,bdE,evSlice] at this
    simp at this
    obtain ⟨_,rfl⟩:=this
    have h3:((j:Int)<((ys.length-k:Nat):Int)):=by omega
    have h4:(((k+j:Nat):Int)<(ys.length:Int)):=by omega
    simp only[iaddrE]
    rw[if_pos ⟨by omega,by exact_mod_cast h3⟩,if_pos ⟨by omega,by exact_mod_cast h4⟩]
    simp
    omega
  have hs2l:lenE s2=some (.int .i64 (ys.length-k:Nat)):=by
   rcases hX with ⟨_,h1,_⟩|⟨b,o,cap,gr,bl,gr',rfl,_⟩
   ·omega
   ·have:=hs2 .i64
    simp only[sliceE,bdE,evSlice] at this
    simp at this
    obtain ⟨_,rfl⟩:=this
    rfl
  simp[hs2]
  obtain ⟨J,hJ⟩: ∃I:Nat→AFrame→AMem→Prop,∀q a m',I q a m'↔(∃(z p:Nat) (zs:List Int),1≤p∧p+q=ys.length-k∧a=h83_1 t (.int .i64 z) s2 (.int .i64 p)∧m0<+:m'∧Ch (fun b=>t.blk=some b) m m'∧OwL (AVal.int .i64) lo m' ty t zs∧zs.length=ys.length∧z+1≤k+p∧(∀j,z≤j→zs[j]? =ys[j]?)∧zs.take z=cp ys (k+p)):=⟨_,fun _ _ _=>Iff.rfl⟩
  have hcp1:ys.take k=cp ys (k+1):=by
   rw[cp,if_pos,hcp]
   refine ⟨by omega,?_⟩
   rw[List.getElem?_eq_getElem hkl,List.getElem?_eq_getElem (by omega),heq]
  refine W_loop J (ys.length-k-1) ((hJ _ _ _).2 ⟨k,1,ys,by omega,by omega,rfl,hm,hch2,hX,rfl,by omega,fun _ _=>rfl,hcp1⟩) ?_
  clear hX hm hch hch2 hm2
  rintro q2 a m3 hIn
  obtain ⟨z,p,zs,hp1,hpq,rfl,hm,hch,hZ,hzl,hzk,hze,hzt⟩:=(hJ _ _ _).1 hIn
  clear hIn
  simp[hs2l]
  refine bbind_dec (fun hpl=>?_) fun hpl=>?_
  ·have hpl:p<ys.length-k:=by omega
   have hwp:=step64 hpl (by omega)
   obtain ⟨q2,rfl⟩: ∃q',q2=q'+1:=⟨q2-1,by omega⟩
   have hpp:=pred64 (n:=p) (by omega) (by omega)
   obtain ⟨b1,o1,_,hp1',hl1,_⟩:=hZ.at (i:=k+p) (by omega)
   obtain ⟨b0,o0,_,hp0,hl0,_⟩:=hZ.at (i:=k+p-1) (by omega)
   have e1:=hs2' p hpl .i64
   have e0:=hs2' (p-1) (by omega) .i64
   rw[hp1' .i64] at e1
   rw[show k+(p-1)=k+p-1 by omega,hp0 .i64] at e0
   have v1:zs[k+p]'(by omega)=ys[k+p]'(by omega):=by
    have:=hze (k+p) (by omega)
    rw[List.getElem?_eq_getElem (by omega),List.getElem?_eq_getElem (by omega)] at this
    simpa using this
   have v0:zs[k+p-1]'(by omega)=ys[k+p-1]'(by omega):=by
    have:=hze (k+p-1) (by omega)
    rw[List.getElem?_eq_getElem (by omega),List.getElem?_eq_getElem (by omega)] at this
    simpa using this
   rw[v1] at hl1
   rw[v0] at hl0
   simp
   refine W_drawPR (by simp[maxDst]) rfl rfl ?_
   simp[e1,hl1,hpp,e0,hl0]
   intro m4 hm4
   have hZ4:=hZ.mono hm4
   by_cases hne:ys[k+p]'(by omega)=ys[k+p-1]'(by omega)
   ·have hcp':cp ys (k+p+1)=cp ys (k+p):=by
     rw[cp,if_pos]
     refine ⟨by omega,?_⟩
     rw[List.getElem?_eq_getElem (by omega),List.getElem?_eq_getElem (by omega),hne]
    simp[hne,hwp]
    exact ⟨q2,by omega,(hJ _ _ _).2 ⟨z,p+1,zs,by omega,by omega,by simp,hm.trans hm4,hch.trans (.of_prefix hm4),hZ4,hzl,by omega,hze,by rw[hzt,←hcp'];rfl⟩⟩
   ·have hcp':cp ys (k+p+1)=cp ys (k+p)++ [ys[k+p]'(by omega)]:=by
     rw[cp,if_neg]
     ·simp[List.getD,show k+p<ys.length by omega]
     ·rintro ⟨_,h⟩
      rw[List.getElem?_eq_getElem (by omega),List.getElem?_eq_getElem (by omega)] at h
      exact hne (by simpa using h)
    have hwz:=step64 (k:=z) (n:=ys.length) (by omega) hn
    obtain ⟨bz,oz,hbz,hpz,_,hstz⟩:=hZ4.at (i:=z) (by omega)
    obtain ⟨m5,hst,hch5,hZ5⟩:=hstz (ys[k+p]'(by omega))
    simp[bneT hne,e1,loadE_mono hm4 hl1,hpz,hst,hwz,hwp]
    refine ⟨q2,by omega,(hJ _ _ _).2 ⟨z+1,p+1,zs.set z (ys[k+p]'(by omega)),by omega,by omega,by simp,hch5.pre (hm.trans hm4) fun b hb=>?_,(hch.trans (.of_prefix hm4)).trans (hch5.weaken fun b _ hb=>by rw[hb];exact hbz),hZ5,by simpa using hzl,by omega,fun j hj=>?_,?_⟩⟩
    ·have:=(hZ4.blk_lo hbz).1;omega
    ·rw[List.getElem?_set_ne (by omega)];exact hze j (by omega)
    ·rw[show k+(p+1)=k+p+1 by omega,hcp',←hzt,List.take_add_one,List.getElem?_set_self (by omega)]
     simp[List.take_set]
     exact List.set_eq_of_length_le (by simp;omega)
  ·have hpe:k+p=ys.length:=by omega
   obtain ⟨s3,m4,hs3,hcl,hch4,hZ4⟩:=hZ.clear (i:=z) (by omega) 0
   obtain ⟨s4,hs4,hZ5,hbl⟩:=hZ4.take (i:=z) (by simp;omega)
   simp[hs3,hcl,hs4]
   rw[List.take_append_of_le_length (by simp;omega),List.take_take,Nat.min_self,hzt,hpe] at hZ5
   exact ⟨hch4.pre hm fun b hb hbb=>by have:=(hZ.blk_lo hbb).1;omega,hch.trans hch4,hZ5,hbl⟩
 ·have hkl:k=ys.length:=by omega
  subst hkl
  rw[List.take_length] at hcp
  simp[hm,hcp,hX]
  exact hch
end Go.Proofs.YtlniliigcnedmaaGreatDoor
namespace Go.Proofs.YtlniliigcnedmaaGreatDoor
open Go Ax
open Relation
set_option maxRecDepth 100000
theorem k102 (v:AVal) (O:List Bool) (i:Nat) (b:Nat) (m:AMem) (hb:loadE m 1 false (.ptr b 0)=some v) (hO:RBools m v O) (hi:i<O.length):ACalls Tryz.prog 102 [.int .i64 i,.ptr b 0] m fun r m'=>r= .bool O[i]∧m'=m:=by
 refine w102 ?_
 obtain ⟨b',o,h1,h2⟩:=hO.at hi
 simp[hb,h1,h2]
open Classical in
set_option maxHeartbeats 4000000 in
theorem k52 (s:AVal) (l:List Md) (m:AMem) (hs:RTab m s l) (hsz: ∀x∈l,smallN x) (hl:l.length<2^62):
  ACalls Tryz.prog 52 [s] m fun v m'=>v= .int .i64 (checkI l)∧m<+:m':=by
 refine w52 ?_
 simp[hs.len]
 generalize hC:checkI l=C
 unfold checkI at hC
 refine bbind_dec (fun h=>?_) fun h=>?_
 ·rw[if_pos (by omega)] at hC
  simp[←hC]
 rw[if_neg (by omega)] at hC
 have hn:l.length≤512:=by omega
 simp[hs.len]
 have hlen:(l.map (oneI · l.length)).length=l.length:=by simp
 obtain ⟨I,hI⟩: ∃I:Nat→AFrame→AMem→Prop,∀q a m',I q a m'↔(∃(k:Nat),k+q=l.length∧a=h52_0 s s (.int .i64 l.length) (.int .i64 k)∧m<+:m'∧ ∀j (hj:j<l.length),j<k→oneI l[j] l.length=0):=⟨_,fun _ _ _=>Iff.rfl⟩
 refine W_loop I l.length ((hI _ _ _).2 ⟨0,by simp,rfl,List.prefix_refl _,fun _ _ h=>by omega⟩) ?_
 rintro q a m1 hIn
 obtain ⟨k,hk,rfl,hm1,hz⟩:=(hI _ _ _).1 hIn
 clear hIn
 simp
 refine bbind_dec (fun hkl=>?_) fun hkl=>?_
 ·have hw:=step64 hkl hl
  obtain ⟨q,rfl⟩: ∃q',q=q'+1:=⟨q-1,by omega⟩
  obtain ⟨bx',ox,c,h4,h5,_,_,h6⟩:=hs.atC hkl
  replace h5:=loadE_mono hm1 h5
  have hcl:=h6.all
  simp[h4,h5]
  rw[store_new _ _ c _ _ 6 hcl.1 rfl hcl.2]
  have hb:=readB_new m1 c 39 none
  have hm2:m1<+:m1++ [.own c 39 none]:=List.prefix_append _ _
  replace hm2:=hm1.trans hm2
  have hrn:readN c 0 6=some c:=by unfold readN;rw[if_pos (by omega),List.drop_zero,List.take_of_length_le (by omega)]
  generalize m1++ [.own c 39 none]=m2 at*
  simp[bxW hb,hrn]
  refine C_of (k97 s l c l[k] m2 (hs.mono hm2) (h6.mono hm2) (hsz _ (List.getElem_mem hkl))) ?_
  rintro _ m3 ⟨rfl,hm3⟩
  simp
  refine bbind_intro (fun h1=>?_) fun h1=>?_
  ·have h1:oneI l[k] l.length≠0:=by simpa using h1
   have:firstI (l.map (oneI · l.length))=oneI l[k] l.length:=by
    rw[firstI_at (k:=k) (by rw[hlen];exact hkl) (fun j hj hjk=>by simpa using hz j (by rw[hlen] at hj;exact hj) hjk) (by simpa using h1)]
    simp
   rw[this,if_pos h1] at hC
   simp[hC,hm2.trans hm3]
  ·simp[hw]
   refine ⟨q,by omega,(hI _ _ _).2 ⟨k+1,by omega,by simp,hm2.trans hm3,fun j hj hjk=>?_⟩⟩
   by_cases hjk':j=k
   ·subst hjk';simpa using h1
   ·exact hz j hj (by omega)
 have hf:firstI (l.map (oneI · l.length))=0:=by
  rw[firstI_zero]
  intro x hx
  obtain ⟨y,hy,rfl⟩:=List.mem_map.1 hx
  obtain ⟨j,hj,rfl⟩:=List.mem_iff_getElem.1 hy
  exact hz j hj (by omega)
 rw[if_neg (by simp[hf])] at hC
 have hg:=goodT_of hf
 have hone:=fun {x} (hx:x∈l)=>one_of hf hx
 simp[hs.len]
 clear hI I hz hk hkl
 obtain ⟨I,hI⟩: ∃I:Nat→AFrame→AMem→Prop,∀q a m',I q a m'↔(∃(k:Nat),k+q=l.length∧a=h52_1 s s (.int .i64 l.length) (.int .i64 k)∧m<+:m'∧ ∀j (hj:j<l.length),j<k→voidsB l l[j]=false):=⟨_,fun _ _ _=>Iff.rfl⟩
 refine W_loop I l.length ((hI _ _ _).2 ⟨0,by simp,rfl,hm1,fun _ _ h=>by omega⟩) ?_
 clear hm1
 rintro q a m1 hIn
 obtain ⟨k,hk,rfl,hm1,hz⟩:=(hI _ _ _).1 hIn
 clear hIn
 simp
 refine bbind_dec (fun hkl=>?_) fun hkl=>?_
 ·have hw:=step64 hkl hl
  obtain ⟨q,rfl⟩: ∃q',q=q'+1:=⟨q-1,by omega⟩
  obtain ⟨bx',ox,c,h4,h5,_,_,h6⟩:=hs.atC hkl
  replace h5:=loadE_mono hm1 h5
  have hcl:=h6.all
  simp[h4,h5]
  rw[store_new _ _ c _ _ 6 hcl.1 rfl hcl.2]
  have hb:=readB_new m1 c 39 none
  have hm2:m1<+:m1++ [.own c 39 none]:=List.prefix_append _ _
  replace hm2:=hm1.trans hm2
  have hrn:readN c 0 6=some c:=by unfold readN;rw[if_pos (by omega),List.drop_zero,List.take_of_length_le (by omega)]
  generalize m1++ [.own c 39 none]=m2 at*
  have hxm:l[k]∈l:=List.getElem_mem hkl
  simp[bxW hb,hrn]
  refine C_of (k98 s l c l[k] m2 (hs.mono hm2) (h6.mono hm2) (hg _ hxm) (proc_of (hone hxm)) (hsz _ hxm)) ?_
  rintro _ m3 ⟨rfl,hm3⟩
  simp
  refine bbind_intro (fun h1=>?_) fun h1=>?_
  ·rw[if_pos (any_true hkl h1)] at hC
   simp[←hC,hm2.trans hm3]
  ·simp[hw]
   refine ⟨q,by omega,(hI _ _ _).2 ⟨k+1,by omega,by simp,hm2.trans hm3,fun j hj hjk=>?_⟩⟩
   by_cases hjk':j=k
   ·subst hjk';exact h1
   ·exact hz j hj (by omega)
 rw[if_neg (by rw[any_false fun j hj=>hz j hj (by omega)];simp)] at hC
 simp
 clear hI I hz hk hkl
 refine C_of (k100 s l m1 (hs.mono hm1) hg hn hsz) ?_
 rintro v m2 ⟨hm2,T,hT,hTl,hTj⟩
 replace hm2:=hm1.trans hm2
 simp
 refine C_of (k99 v T false m2 hT.bools (by omega)) ?_
 rintro _ m2 ⟨rfl,rfl⟩
 simp
 have hbad:(T.any fun x=> !x)=true↔ ∃r,r<l.length∧badM l r:=by
  rw[←okM_false,List.any_eq_true]
  constructor
  ·rintro ⟨x,hx,h1⟩
   obtain ⟨j,hj,rfl⟩:=List.mem_iff_getElem.1 hx
   refine ⟨j,by omega,fun hok=>?_⟩
   have:=(hTj j).2 ⟨by omega,hok⟩
   rw[List.getElem?_eq_getElem hj] at this
   simp at this
   rw[this] at h1
   cases h1
  ·rintro ⟨j,hj,hok⟩
   refine ⟨T[j]'(by omega),List.getElem_mem _,?_⟩
   cases hc:T[j]'(by omega)
   ·rfl
   ·exact absurd ((hTj j).1 (by rw[List.getElem?_eq_getElem (by omega),hc])).2 hok
 refine bbind_intro (fun h1=>?_) fun h1=>?_
 ·rw[if_pos (hbad.1 h1)] at hC
  simp[←hC,hm2]
 have hnb: ¬ ∃r,r<l.length∧badM l r:=fun h=>by rw[hbad.2 h] at h1;cases h1
 rw[if_neg hnb] at hC
 have hac:=acyc_of hnb
 simp
 refine C_of (k101 s l m2 (hs.mono hm2) hg hac hn hsz) ?_
 rintro v' m3 ⟨hm3,O,hO,hOl,hOj⟩
 replace hm3:=hm2.trans hm3
 have hvc:v'.cells= [v']∧v'.one=true:=(Ow.sl hO).self.symm
 simp
 rw[store_new1 _ _ _ _ _ hvc.1 hvc.2]
 have hb8:=readB_new m3 [v'] 120 none
 have hm4:m3<+:m3++ [.own [v'] 120 none]:=List.prefix_append _ _
 replace hO:=hO.mono hm4
 replace hm4:=hm3.trans hm4
 generalize m3++ [.own [v'] 120 none]=m4 at*
 generalize m3.length=b8 at*
 simp[hs.len]
 obtain ⟨I,hI⟩: ∃I:Nat→AFrame→AMem→Prop,∀q a m',I q a m'↔(∃(k:Nat),k+q=l.length∧a=h52_2 (.ptr b8 0) s (.int .i64 l.length) (.int .i64 k)∧m4<+:m'∧ ∀j (hj:j<l.length),j<k→ ¬(flexOf l[j]=true∧ ∃e∈l[j].elems,FlexP l e.toNat)):=⟨_,fun _ _ _=>Iff.rfl⟩
 refine W_loop I l.length ((hI _ _ _).2 ⟨0,by simp,rfl,List.prefix_refl _,fun _ _ h=>by omega⟩) ?_
 rintro q a m5 hIn
 obtain ⟨k,hk,rfl,hm5,hz⟩:=(hI _ _ _).1 hIn
 clear hIn
 simp
 refine bbind_dec (fun hkl=>?_) fun hkl=>?_
 ·have hw:=step64 hkl hl
  obtain ⟨q,rfl⟩: ∃q',q=q'+1:=⟨q-1,by omega⟩
  obtain ⟨bx',ox,c,h4,h5,_,_,h6⟩:=hs.atC hkl
  have hm45:=hm4.trans hm5
  replace h5:=loadE_mono hm45 h5
  have hcl:=h6.all
  simp[h4,h5]
  rw[store_new _ _ c _ _ 6 hcl.1 rfl hcl.2]
  have hb:=readB_new m5 c 39 none
  have hm6:m5<+:m5++ [.own c 39 none]:=List.prefix_append _ _
  generalize m5++ [.own c 39 none]=m6 at*
  generalize m5.length=b10 at*
  have hxm:l[k]∈l:=List.getElem_mem hkl
  obtain ⟨e,nm,c0,c1,c2,c3,c4,c5,he,hnm,rfl⟩:=h6.get
  have hgx:=hg _ hxm
  have hszx:=hsz _ hxm
  have hmem: ∀(j:Nat) (hj:j<l.length),j<k+1→(¬(flexOf l[k]=true∧ ∃e∈l[k].elems,FlexP l e.toNat))→ ¬(flexOf l[j]=true∧ ∃e∈l[j].elems,FlexP l e.toNat):=fun j hj hjk hn=>by
   by_cases hjk':j=k
   ·subst hjk';exact hn
   ·exact hz j hj (by omega)
  have hyes:flexOf l[k]=true→(∃e∈l[k].elems,FlexP l e.toNat)→C=7:=fun h1 h2=>by
   rw[if_pos ⟨l[k],hxm,h1,h2⟩] at hC;exact hC.symm
  generalize l[k]=x at*
  have hm56:=hm5.trans hm6
  by_cases hfx:flexOf x=true
  rotate_left
  ·have hx12: ¬x.kind=12:=fun h=>hfx (by simp[flexOf,h])
   have hx13: ¬x.kind=13:=fun h=>hfx (by simp[flexOf,h])
   simp[bx hb,beqF hx12,beqF hx13,hw]
   exact ⟨q,by omega,(hI _ _ _).2 ⟨k+1,by omega,by simp,hm56,fun j hj hjk=>hmem j hj hjk fun h=>hfx h.1⟩⟩
  have call: ∀y∈x.elems,∀m',m6<+:m'→ACalls Tryz.prog 102 ([]++ [.int .i64 y]++ [.ptr b8 0]) m' fun v m''=>v= .bool ((O[y.toNat]?).getD false)∧m'<+:m'':=by
   intro y hy m' hm'
   have:=hgx y hy
   obtain ⟨j,rfl⟩: ∃j:Nat,y=j:=⟨y.toNat,by omega⟩
   have hj:j<O.length:=by omega
   refine (k102 v' O j b8 m' (by rw[bx (readB_mono (hm56.trans hm') hb8)];rfl) ((hO.bools).mono (hm56.trans hm')) hj).mono ?_
   rintro _ _ ⟨rfl,rfl⟩
   simp[hj]
  have hany:x.elems.any (fun y=>(O[y.toNat]?).getD false)=true↔ ∃e∈x.elems,FlexP l e.toNat:=by
   rw[List.any_eq_true]
   constructor
   ·rintro ⟨y,hy,h1⟩
    have hgy:=hgx y hy
    have hj:y.toNat<O.length:=by omega
    rw[List.getElem?_eq_getElem hj] at h1
    simp at h1
    exact ⟨y,hy,((hOj _).1 (by rw[List.getElem?_eq_getElem hj,h1])).2⟩
   ·rintro ⟨y,hy,h1⟩
    have hgy:=hgx y hy
    refine ⟨y,hy,?_⟩
    rw[(hOj _).2 ⟨by omega,h1⟩];rfl
  have rest: ∀m7,m6<+:m7→m<+:m7:=fun m7 hm7=>(hm45.trans hm6).trans hm7
  by_cases h12:x.kind=12
  ·simp[bx hb,h12]
   refine C_of (k36 e _ _ m6 (he.mono (hm45.trans hm6)) hszx.1 _ [] [.ptr b8 0] call) ?_
   rintro _ m7 ⟨rfl,hm7⟩
   simp
   refine bbind_intro (fun h1=>?_) fun h1=>?_
   ·simp[hyes hfx (hany.1 h1),rest m7 hm7]
   ·simp[hw]
    exact ⟨q,by omega,(hI _ _ _).2 ⟨k+1,by omega,by simp,hm56.trans hm7,fun j hj hjk=>hmem j hj hjk fun h=>by rw[hany.2 h.2] at h1;cases h1⟩⟩
  ·have h13:x.kind=13:=by simp[flexOf] at hfx;omega
   simp[bx hb,h13]
   refine C_of (k36 e _ _ m6 (he.mono (hm45.trans hm6)) hszx.1 _ [] [.ptr b8 0] call) ?_
   rintro _ m7 ⟨rfl,hm7⟩
   simp
   refine bbind_intro (fun h1=>?_) fun h1=>?_
   ·simp[hyes hfx (hany.1 h1),rest m7 hm7]
   ·simp[hw]
    exact ⟨q,by omega,(hI _ _ _).2 ⟨k+1,by omega,by simp,hm56.trans hm7,fun j hj hjk=>hmem j hj hjk fun h=>by rw[hany.2 h.2] at h1;cases h1⟩⟩
 ·rw[if_neg] at hC
  ·simp[←hC,hm4.trans hm5]
  ·rintro ⟨x,hx,h1⟩
   obtain ⟨j,hj,rfl⟩:=List.mem_iff_getElem.1 hx
   exact hz j hj (by omega) h1
end Go.Proofs.YtlniliigcnedmaaGreatDoor
namespace Go.Proofs.YtlniliigcnedmaaGreatDoor
open Go Ax
open Relation
set_option maxRecDepth 100000
theorem Ax.RTab.elems {m:AMem} {s:AVal} {l:List Md} (h:RTab m s l) {i:Nat} (hi:i<l.length): ∃b o e,(∀k,iaddrE 6 s (.int k i)=some (.ptr b o))∧(∀m',m<+:m'→loadE m' 1 false (.ptr b o)=some (.int .i64 l[i].kind)∧loadE m' 1 false (.ptr b (o+2))=some e)∧RInts m e l[i].elems:=by
 obtain ⟨b,o,e,nm,h1,_,h2,_,h3,_,_,_,h4,_⟩:=h.at hi
 exact ⟨b,o,e,h1,fun m' hm=>⟨loadE_mono hm h2,loadE_mono hm h3⟩,h4⟩
end Go.Proofs.YtlniliigcnedmaaGreatDoor
namespace Go.Proofs.YtlniliigcnedmaaGreatDoor
open Go Ax
open Relation
set_option maxRecDepth 100000
def isU (x:Md):Bool:=x.kind==12
theorem RIn.dropQ {l:List Md} {p:Md→Bool} {m:Nat} {S:List Bool} {Q:List Nat} {x k e:Nat} (h:RIn l p m S (Q++ [e]) x k) {y:Md} (hy:l[e]? =some y) (hp:p y=false):RIn l p m S Q x k where
 len:=h.len
 q:=fun z hz=>h.q z (List.mem_append_left _ hz)
 s:=h.s
 xr:=h.xr
 px:=h.px
 c:=fun z hz=>by
  rcases h.c z hz with h1|h1|h1
  ·rcases List.mem_append.1 h1 with h2|h2
   ·exact .inl h2
   ·rw[List.mem_singleton] at h2
    subst h2
    refine .inr (.inr fun w hw=>?_)
    obtain ⟨y',h3,h4,_⟩:=hw
    rw[hy] at h3;cases h3
    rw[hp] at h4;cases h4
  ·exact .inr (.inl h1)
  ·exact .inr (.inr h1)
 d:=h.d
def OutOk (l:List Md) (S:List Bool) (O:List Nat):Prop:=O.Nodup∧ ∀i,i∈O↔S[i]? =some true∧ ∀y,l[i]? =some y→isU y=false
def Ap (s t:AVal):Prop:= ∀b,s.blk=some b→t.blk≠some b
theorem Ap.symm {s t:AVal} (h:Ap s t):Ap t s:=fun b h1 h2=>h b h2 h1
set_option maxHeartbeats 4000000 in
theorem k78 (s:AVal) (l:List Md) (i:Nat) (hi:i<l.length) (hu:isU l[i]=true) (m:AMem) (hs:RTab m s l) (hg:goodT l) (hn:l.length≤512) (hsz: ∀x∈l,smallN x):
  ACalls Tryz.prog 78 [s,.int .i64 i,.nilslice] m fun v m'=>m<+:m'∧ ∃O,OwL natI m.length m' 3 v O∧O.Nodup∧ ∀j,j∈O↔TransGen (stepR l isU) i j∧ ∀y,l[j]? =some y→isU y=false:=by
 refine w78 ?_
 have hc1:(l.length:Int)≤281474976710656:=by omega
 have hc2:(l.length:Int)≤9223372036854775807:=by omega
 simp[hs.len,hc1,hc2]
 have hS0:=OwL.rep (f:=AVal.bool) m 4 l.length false
 have hm1:m<+:m++ [.own (List.replicate l.length (.bool false)) 4 none]:=List.prefix_append _ _
 have ha:(AVal.slice m.length 0 l.length l.length none).blk=some m.length:=rfl
 have hl1:(m++ [ABlk.own (List.replicate l.length (.bool false)) 4 none]).length=m.length+1:=by simp
 generalize AVal.slice m.length 0 l.length l.length none=t7 at*
 generalize m++ [.own (List.replicate l.length (.bool false)) 4 none]=m1 at*
 have hQ0:=OwL.new (f:=natI) m1 3 [i]
 simp[setN,fillA] at hQ0 ⊢
 obtain ⟨I,hI⟩: ∃I:Nat→AFrame→AMem→Prop,∀n a m',I n a m'↔(∃S Q O t7 t8 t2,cntF S+Q.length=n∧a=h78_0 s t2 t7 t8∧m<+:m'∧OwL AVal.bool m.length m' 4 t7 S∧OwL natI m.length m' 3 t8 Q∧OwL natI m.length m' 3 t2 O∧Ap t7 t8∧Ap t7 t2∧Ap t8 t2∧RInv l isU i S Q∧(∀z∈Q,∀y,l[z]? =some y→isU y=true)∧OutOk l S O∧O.length+cntF S≤l.length∧n≤l.length+1):=⟨_,fun _ _ _=>Iff.rfl⟩
 refine W_loop I (l.length+1) ((hI _ _ _).2 ⟨List.replicate l.length false,[i],[],t7,_,.nilslice,?_,rfl,hm1.trans (List.prefix_append _ _),hS0.mono (List.prefix_append _ _),OwL.lo' hQ0 (by omega),OwL.nil,?_,fun _ _ h=>(by cases h),fun _ _ h=>(by cases h),RInv.init hi,fun z hz y hy=>?_,⟨List.nodup_nil,fun j=>?_⟩,?_,by omega⟩) ?_
 ·simp[cntF]
 ·intro b hb
  rw[ha] at hb
  cases hb
  simp[AVal.blk,hl1]
 ·rw[List.mem_singleton] at hz
  subst hz
  rw[List.getElem?_eq_getElem hi] at hy;cases hy
  exact hu
 ·rw[List.getElem?_replicate]
  split<;>simp
 ·simp[cntF]
 rintro n a m2 hIn
 obtain ⟨S,Q,O,t7,t8,t2,hcnt,rfl,hm2,hS,hQ,hO,hap1,hap2,hap3,hinv,hQu,hOk,hOl,hnn⟩:=(hI _ _ _).1 hIn
 clear hIn
 simp[hQ.len]
 refine bbind_dec (fun h=>?_) fun h=>?_
 ·have hql:0<Q.length:=h
  obtain ⟨x,Q',rfl⟩: ∃x Q',Q=x::Q':=by
   cases Q with
   |nil=>simp at hql
   |cons x Q'=>exact ⟨x,Q',rfl⟩
  have hx:=hinv.q x List.mem_cons_self
  obtain ⟨b8,o8,_,h2,h3,_⟩:=hQ.at hql
  obtain ⟨bx',ox,c,h4,h5,_,_,h6⟩:=hs.atC hx.1
  replace h5:=loadE_mono hm2 h5
  obtain ⟨t8',h7,h8,h9⟩:=hQ.drop (i:=1) (by simp)
  simp at h2 h3 h7 h8
  simp[h2,h3,h4,h5,h7,hQ.len]
  have hcl:=h6.all
  rw[store_new _ _ c _ _ 6 hcl.1 rfl hcl.2]
  have hb:=readB_new m2 c 39 none
  have hm24:m2<+:m2++ [.own c 39 none]:=List.prefix_append _ _
  generalize m2++ [.own c 39 none]=m4 at*
  generalize m2.length=b9 at*
  obtain ⟨e,nm,c0,c1,c2,c3,c4,c5,he,hnm,rfl⟩:=h6.get
  have hQ': ∀z,z∈x::Q'↔z∈Q'∨z=x:=fun z=>by rw[List.mem_cons];exact Or.comm
  have hlx:l[x]? =some l[x]:=List.getElem?_eq_getElem hx.1
  have hxm:l[x]∈l:=List.getElem_mem hx.1
  have hms:=hm2.trans hm24
  have hin:=hinv.enter hQ' hlx (hQu x List.mem_cons_self _ hlx)
  have hQu': ∀z∈Q',∀y,l[z]? =some y→isU y=true:=fun z hz=>hQu z (List.mem_cons_of_mem _ hz)
  have hmu:cntF S+Q'.length+1=n:=by simp at hcnt;omega
  simp[h7,bx hb,(he.mono hms).len]
  obtain ⟨I2,hI2⟩: ∃I:Nat→AFrame→AMem→Prop,∀q a m',I q a m'↔(∃k S Q O t7 t8 t2,k+q=l[x].elems.length∧a=h78_1 s t2 t7 t8 e (.int .i64 l[x].elems.length) (.int .i64 (k:Nat))∧m<+:m'∧OwL AVal.bool m.length m' 4 t7 S∧OwL natI m.length m' 3 t8 Q∧OwL natI m.length m' 3 t2 O∧Ap t7 t8∧Ap t7 t2∧Ap t8 t2∧RIn l isU i S Q x k∧(∀z∈Q,∀y,l[z]? =some y→isU y=true)∧OutOk l S O∧O.length+cntF S≤l.length∧cntF S+Q.length+1≤n):=⟨_,fun _ _ _=>Iff.rfl⟩
  refine W_loop I2 l[x].elems.length ((hI2 _ _ _).2 ⟨0,S,Q',O,t7,t8',t2,by simp,rfl,hms,hS.mono hm24,OwL.mono h8 hm24,hO.mono hm24,by intro b hb;rw[h9];exact hap1 b hb,hap2,by intro b hb;rw[h9] at hb;exact hap3 b hb,hin,hQu',hOk,hOl,by omega⟩) ?_
  clear hin hmu hS hO hap1 hap2 hap3 hQu' hOk hOl
  rintro q a m5 hIn
  obtain ⟨k,S,Q,O,t7,t8,t2,hk,rfl,hm5,hS,hQ,hO,hap1,hap2,hap3,hin,hQu,hOk,hOl,hmu⟩:=(hI2 _ _ _).1 hIn
  clear hIn
  simp
  refine bbind_dec (fun h=>?_) fun h=>?_
  ·obtain ⟨b1,o1,hp1,hl1⟩:=(he.mono hm5).at h
   have hgx:=hg _ hxm _ (List.getElem_mem h)
   have hee:l[x].elems[k]? =some l[x].elems[k]:=List.getElem?_eq_getElem h
   have hw:=step64 h (hsz _ hxm).1
   obtain ⟨q,rfl⟩: ∃q',q=q'+1:=⟨q-1,by omega⟩
   revert hl1 hgx hee
   generalize l[x].elems[k]=ek
   intro hl1 hgx hee
   obtain ⟨j,rfl⟩: ∃j:Nat,ek=j:=⟨ek.toNat,by omega⟩
   have hj:j<S.length:=by rw[hin.len];omega
   have hjl:j<l.length:=by omega
   have hlj:l[j]? =some l[j]:=List.getElem?_eq_getElem hjl
   obtain ⟨b7,o7,hb7,hp7,hl7,hst7⟩:=hS.at hj
   -- the mark
   have mark: ∀m6 S' Q O t8 t2,m<+:m6→OwL AVal.bool m.length m6 4 t7 S→OwL natI m.length m6 3 t8 Q→OwL natI m.length m6 3 t2 O→Ap t7 t8→Ap t7 t2→Ap t8 t2→S'=S.set j true→RIn l isU i S' Q x (k+1)→(∀z∈Q,∀y,l[z]? =some y→isU y=true)→OutOk l S' O→O.length+cntF S'≤l.length→cntF S'+Q.length+1≤n→
     ∃m7,storeE m6 1 (.ptr b7 o7) (.bool true)=some (.undef,m7)∧I2 q (h78_1 s t2 t7 t8 e (.int .i64 l[x].elems.length) (.int .i64 (k+1:Nat))) m7:=by
    intro m6 S' Q O t8 t2 g1 g2 g3 g4 g5 g6 g7 g8 g9 g10 g11 g12 g13
    subst g8
    obtain ⟨b7',o7',hb7',hp7',_,hst7'⟩:=g2.at hj
    obtain ⟨rfl,rfl⟩:b7'=b7∧o7'=o7:=by have:=(hp7' .i64).symm.trans (hp7 .i64);simpa using this
    obtain ⟨m7,hst,hch,hS7⟩:=hst7' true
    exact ⟨m7,hst,(hI2 _ _ _).2 ⟨k+1,_,Q,O,t7,t8,t2,by omega,rfl,hch.pre g1 fun b hb=>by have:=(g2.blk_lo hb7').1;omega,hS7,g3.ch hch fun b hb hbb=>g5 b7' hb7' (by rw[←hbb];exact hb),g4.ch hch fun b hb hbb=>g6 b7' hb7' (by rw[←hbb];exact hb),g5,g6,g7,g9,g10,g11,g12,g13⟩⟩
   simp[hp1,hl1,hp7,hl7]
   by_cases hsj:S[j]=true
   ·have hset:S.set j true=S:=by
     refine List.ext_getElem? fun z=>?_
     rw[List.getElem?_set]
     split
     ·rename_i hz;subst hz;rw[List.getElem?_eq_getElem hj,hsj]
     ·rfl
    have hsj':S[(j:Int).toNat]? =some true:=by rw[Int.toNat_natCast,List.getElem?_eq_getElem hj,hsj]
    obtain ⟨m7,hst,hI7⟩:=mark m5 S Q O t8 t2 hm5 hS hQ hO hap1 hap2 hap3 hset.symm (hin.seen hlx hee hsj') hQu hOk hOl hmu
    simp[hsj,hp7,hst,hw]
    exact ⟨q,by omega,by simpa using hI7⟩
   ·have hsf:S[j]=false:=by simpa using hsj
    have hsf':S[j]? =some false:=by rw[List.getElem?_eq_getElem hj,hsf]
    have hcf:=cntF_set hsf'
    obtain ⟨bj,oj,ej,h10,h11,_⟩:=hs.elems hjl
    obtain ⟨h11a,_⟩:=h11 m5 hm5
    have hun:=hin.unseen hg hlx hee
    rw[Int.toNat_natCast] at hun
    have hOmem: ∀z,(S.set j true)[z]? =some true↔z=j∨S[z]? =some true:=fun z=>by
     constructor
     ·exact of_set
     ·rintro (rfl|h)
      ·rw[List.getElem?_set_self hj]
      ·exact set_true h
    have hm6:m5<+:m5++ [.own [.int .i64 (j:Int)] 3 none]:=List.prefix_append _ _
    have hml:m.length≤(m5++ [ABlk.own [.int .i64 (j:Int)] 3 none]).length:=by have:=hm5.length_le;simp;omega
    by_cases hju:isU l[j]=true
    ·have hk12:l[j].kind=12:=by simpa[isU] using hju
     obtain ⟨t8'',m8,happ,hch8,hQ8,hbl⟩:=(hQ.mono hm6).push hml (by_:=8) (by decide) j (by omega)
     simp only[natI] at happ
     obtain ⟨m9,hst,hI9⟩:=mark m8 _ (Q++ [j]) O t8'' t2 (hch8.pre (hm5.trans hm6) fun b hb hbb=>by have:=(hQ.blk_lo hbb).1;omega) ((hS.mono hm6).ch hch8 fun b hb hbb=>hap1 b hb hbb) hQ8 ((hO.mono hm6).ch hch8 fun b hb hbb=>hap3 b hbb hb)
      (fun b hb hbb=>by
       rcases hbl b hbb with h1|h1
       ·exact hap1 b hb h1
       ·have:=(hS.blk_lo hb).2;simp at h1;omega)
      hap2
      (fun b hb hbb=>by
       rcases hbl b hb with h1|h1
       ·exact hap3 b h1 hbb
       ·have:=(hO.blk_lo hbb).2;simp at h1;omega)
      rfl hun (fun z hz y hy=>by
       rcases List.mem_append.1 hz with hz|hz
       ·exact hQu z hz y hy
       ·rw[List.mem_singleton] at hz;subst hz;rw[hlj] at hy;cases hy;exact hju)
      ⟨hOk.1,fun z=>by
       rw[hOk.2,hOmem]
       constructor
       ·rintro ⟨h1,h2⟩;exact ⟨.inr h1,h2⟩
       ·rintro ⟨rfl|h1,h2⟩
        ·have:=h2 _ hlj;rw[hju] at this;cases this
        ·exact ⟨h1,h2⟩⟩ (by omega) (by simp;omega)
     simp[hsf,h10,h11a,hk12,fillA,setN,happ,hp7,hst,hw]
     exact ⟨q,by omega,by simpa using hI9⟩
    ·have hju:isU l[j]=false:=by simpa using hju
     have hk12: ¬l[j].kind=12:=by simpa[isU] using hju
     obtain ⟨t2'',m8,happ,hch8,hO8,hbl⟩:=(hO.mono hm6).push hml (by_:=8) (by decide) j (by omega)
     simp only[natI] at happ
     have hjO:j∉O:=fun h=>by have:=((hOk.2 j).1 h).1;rw[hsf'] at this;cases this
     obtain ⟨m9,hst,hI9⟩:=mark m8 _ Q (O++ [j]) t8 t2'' (hch8.pre (hm5.trans hm6) fun b hb hbb=>by have:=(hO.blk_lo hbb).1;omega) ((hS.mono hm6).ch hch8 fun b hb hbb=>hap2 b hb hbb) ((hQ.mono hm6).ch hch8 fun b hb hbb=>hap3 b hb hbb) hO8
      hap1
      (fun b hb hbb=>by
       rcases hbl b hbb with h1|h1
       ·exact hap2 b hb h1
       ·have:=(hS.blk_lo hb).2;simp at h1;omega)
      (fun b hb hbb=>by
       rcases hbl b hbb with h1|h1
       ·exact hap3 b hb h1
       ·have:=(hQ.blk_lo hb).2;simp at h1;omega)
      rfl (hun.dropQ hlj hju) hQu
      ⟨List.nodup_append.2 ⟨hOk.1,by simp,fun a ha b hb=>by rw[List.mem_singleton] at hb;subst hb;exact fun h=>hjO (h▸ha)⟩,fun z=>by
       rw[List.mem_append,List.mem_singleton,hOk.2,hOmem]
       constructor
       ·rintro (⟨h1,h2⟩|rfl)
        ·exact ⟨.inr h1,h2⟩
        ·exact ⟨.inl rfl,fun y hy=>by rw[hlj] at hy;cases hy;exact hju⟩
       ·rintro ⟨rfl|h1,h2⟩
        ·exact .inr rfl
        ·exact .inl ⟨h1,h2⟩⟩ (by simp;omega) (by omega)
     simp[hsf,h10,h11a,beqF hk12,fillA,setN,happ,hp7,hst,hw]
     exact ⟨q,by omega,by simpa using hI9⟩
  ·simp
   refine ⟨cntF S+Q.length,by omega,(hI _ _ _).2 ⟨S,Q,O,t7,t8,t2,rfl,by simp,hm5,hS,hQ,hO,hap1,hap2,hap3,hin.leave fun y hy=>?_,hQu,hOk,hOl,by omega⟩⟩
   rw[hlx] at hy;cases hy
   omega
 ·obtain rfl:Q= []:=by
   cases Q with
   |nil=>rfl
   |cons _ _=>simp at h
  simp
  exact ⟨hm2,O,hO,hOk.1,fun j=>by rw[hOk.2,hinv.done]⟩
end Go.Proofs.YtlniliigcnedmaaGreatDoor
namespace Go.Proofs.YtlniliigcnedmaaGreatDoor
open Go Ax
structure OrdG {α:Type} (c:α→α→Int) (D:α→Prop):Prop where
 anti: ∀a b,D a→D b→(c a b<0↔0<c b a)
 trans: ∀a b d,D a→D b→D d→c a b≤0→c b d≤0→c a d≤0
section
variable {α β:Type} {c c1 c2:α→α→Int} {D:α→Prop}
theorem OrdG.zero (h:OrdG c D) {a b:α} (ha:D a) (hb:D b):c a b=0↔c b a=0:=by
 have h1:=h.anti a b ha hb
 have h2:=h.anti b a hb ha
 omega
theorem OrdG.self (h:OrdG c D) {a:α} (ha:D a):c a a=0:=by have:=h.anti a a ha ha;omega
theorem OrdG.ge (h:OrdG c D) {a b:α} (ha:D a) (hb:D b):0≤c a b↔c b a≤0:=by
 have h1:=h.anti a b ha hb
 have h2:=h.anti b a hb ha
 omega
theorem OrdG.lt_le (h:OrdG c D) {a b d:α} (ha:D a) (hb:D b) (hd:D d) (h1:c a b<0) (h2:c b d≤0):c a d<0:=by
 have h3:=h.trans a b d ha hb hd (by omega) h2
 by_cases h4:c a d=0
 ·have h5:=(h.zero ha hd).1 h4
  have h6:=h.trans b d a hb hd ha h2 (by omega)
  have:=h.anti a b ha hb
  omega
 ·omega
theorem OrdG.le_lt (h:OrdG c D) {a b d:α} (ha:D a) (hb:D b) (hd:D d) (h1:c a b≤0) (h2:c b d<0):c a d<0:=by
 have h3:=h.trans a b d ha hb hd h1 (by omega)
 by_cases h4:c a d=0
 ·have h5:=(h.zero ha hd).1 h4
  have h6:=h.trans d a b hd ha hb (by omega) h1
  have:=h.anti b d hb hd
  omega
 ·omega
def thenC (c1 c2:α→α→Int) (a b:α):Int:=if c1 a b≠0 then c1 a b else c2 a b
theorem OrdG.then (h1:OrdG c1 D) (h2:OrdG c2 D):OrdG (thenC c1 c2) D:=by
 refine ⟨fun a b ha hb=>?_,fun a b d ha hb hd k1 k2=>?_⟩
 ·have e1:=h1.anti a b ha hb
  have e2:=h1.zero ha hb
  have e3:=h2.anti a b ha hb
  unfold thenC
  by_cases h:c1 a b=0
  ·have h':=e2.1 h
   simp[h,h',e3]
  ·have h': ¬c1 b a=0:=fun x=>h (e2.2 x)
   simp[h,h',e1]
 ·unfold thenC at k1 k2 ⊢
  have t1:=h1.trans a b d ha hb hd
  by_cases hab:c1 a b=0
  ·by_cases hbd:c1 b d=0
   ·have had:c1 a d=0:=by
     have u1:=t1 (by omega) (by omega)
     have u2:=h1.trans d b a hd hb ha (by have:=(h1.zero hb hd).1 hbd;omega) (by have:=(h1.zero ha hb).1 hab;omega)
     have:=h1.ge ha hd
     omega
    simp[hab] at k1
    simp[hbd] at k2
    simp[had]
    exact h2.trans a b d ha hb hd k1 k2
   ·simp[hbd] at k2
    have:=h1.le_lt ha hb hd (by omega) (by omega:c1 b d<0)
    simp[show ¬c1 a d=0 by omega];omega
  ·simp[hab] at k1
   by_cases hbd:c1 b d=0
   ·have:=h1.lt_le ha hb hd (by omega:c1 a b<0) (by omega)
    simp[show ¬c1 a d=0 by omega];omega
   ·simp[hbd] at k2
    have:=h1.lt_le ha hb hd (by omega:c1 a b<0) (by omega)
    simp[show ¬c1 a d=0 by omega];omega
theorem OrdG.pull {E:β→Prop} (h:OrdG c D) (f:β→α) (hf: ∀x,E x→D (f x)):OrdG (fun a b=>c (f a) (f b)) E:=
 ⟨fun a b ha hb=>h.anti _ _ (hf a ha) (hf b hb),fun a b d ha hb hd=>h.trans _ _ _ (hf a ha) (hf b hb) (hf d hd)⟩
theorem cmpI_ordG:OrdG cmpI (fun _=>True):=⟨cmpI_ord.anti,cmpI_ord.trans⟩
theorem OrdG.lex (h:OrdG c D):OrdG (lexC c) (fun xs=> ∀x∈xs,D x):=by
 have anti: ∀xs ys:List α,(∀x∈xs,D x)→(∀x∈ys,D x)→(lexC c xs ys<0↔0<lexC c ys xs):=by
  intro xs
  induction xs with
  |nil=>intro ys _ _;cases ys<;>simp[lexC]
  |cons x xs ih=>
   intro ys hx hy
   cases ys with
   |nil=>simp[lexC]
   |cons y ys=>
    have dx:=hx x List.mem_cons_self
    have dy:=hy y List.mem_cons_self
    have:=ih ys (fun z hz=>hx z (List.mem_cons_of_mem _ hz)) (fun z hz=>hy z (List.mem_cons_of_mem _ hz))
    simp only[lexC]
    by_cases h0:c x y=0
    ·have h0':=(h.zero dx dy).1 h0
     simp[h0,h0',this]
    ·have h0': ¬c y x=0:=fun e=>h0 ((h.zero dx dy).2 e)
     simp[h0,h0',h.anti x y dx dy]
 refine ⟨anti,fun xs=>?_⟩
 induction xs with
 |nil=>
  intro ys zs _ _ _ h1 h2
  cases zs<;>simp[lexC]
 |cons x xs ih=>
  intro ys zs hx hy hz h1 h2
  cases ys with
  |nil=>simp[lexC] at h1
  |cons y ys=>
   cases zs with
   |nil=>simp[lexC] at h2
   |cons z zs=>
    have dx:=hx x List.mem_cons_self
    have dy:=hy y List.mem_cons_self
    have dz:=hz z List.mem_cons_self
    have ih':=ih ys zs (fun z hz=>hx z (List.mem_cons_of_mem _ hz)) (fun z hz=>hy z (List.mem_cons_of_mem _ hz)) (fun w hw=>hz w (List.mem_cons_of_mem _ hw))
    simp only[lexC] at h1 h2 ⊢
    by_cases hxy:c x y=0
    ·by_cases hyz:c y z=0
     ·have hxz:c x z=0:=by
       have u1:=h.trans x y z dx dy dz (by omega) (by omega)
       have u2:=h.trans z y x dz dy dx (by have:=(h.zero dy dz).1 hyz;omega) (by have:=(h.zero dx dy).1 hxy;omega)
       have:=h.ge dx dz
       omega
      simp[hxy] at h1
      simp[hyz] at h2
      simp[hxz]
      exact ih' h1 h2
     ·simp[hyz] at h2
      have:=h.le_lt dx dy dz (by omega) (by omega:c y z<0)
      simp[show ¬c x z=0 by omega];omega
    ·simp[hxy] at h1
     by_cases hyz:c y z=0
     ·have:=h.lt_le dx dy dz (by omega:c x y<0) (by omega)
      simp[show ¬c x z=0 by omega];omega
     ·simp[hyz] at h2
      have:=h.lt_le dx dy dz (by omega:c x y<0) (by omega)
      simp[show ¬c x z=0 by omega];omega
end
def cmpB (a b:UInt8):Int:=cmpI a.toNat b.toNat
theorem cmpB_ord:OrdG cmpB (fun _=>True):=cmpI_ordG.pull (fun a:UInt8=>(a.toNat:Int)) fun _ _=>trivial
theorem bytes_lex: ∀(x y:List UInt8),(Op.bytesLess x y=true↔lexC cmpB x y<0)∧(x=y↔lexC cmpB x y=0)
 | [],[]=>by simp[Op.bytesLess,lexC]
 | [],_::_=>by simp[Op.bytesLess,lexC]
 |_::_,[]=>by simp[Op.bytesLess,lexC]
 |a::x,b::y=>by
  have ih:=bytes_lex x y
  have e:a=b↔cmpB a b=0:=by
   unfold cmpB
   rw[cmpI_zero]
   constructor
   ·rintro rfl;rfl
   ·intro h;exact UInt8.toNat_inj.1 (by omega)
  have hlt:a<b↔cmpB a b<0:=by
   unfold cmpB
   rw[cmpI_lt,UInt8.lt_iff_toNat_lt]
   omega
  simp only[Op.bytesLess,lexC]
  by_cases h:cmpB a b=0
  ·have hab:=e.2 h
   subst hab
   have hn: ¬a<a:=fun h'=>by have:=hlt.1 h';omega
   simp[h,ih.1,ih.2]
  ·have hab:a≠b:=fun h'=>h (e.1 h')
   simp[h,hab,hlt]
theorem cmpS_eq (a b:ByteArray):cmpS a b=lexC cmpB a.toList b.toList:=by
 obtain ⟨h1,h2⟩:=bytes_lex a.toList b.toList
 have hr: ∀xs ys:List UInt8,lexC cmpB xs ys= -1∨lexC cmpB xs ys=0∨lexC cmpB xs ys=1:=by
  intro xs
  induction xs with
  |nil=>intro ys;cases ys<;>simp[lexC]
  |cons x xs ih=>
   intro ys
   cases ys with
   |nil=>simp[lexC]
   |cons y ys=>
    simp only[lexC]
    by_cases h:cmpB x y=0
    ·simp[h];exact ih ys
    ·simp[h]
     unfold cmpB cmpI at*
     split<;>(try split)<;>simp_all
 unfold cmpS
 have h3:=hr a.toList b.toList
 cases h:Op.bytesLess a.toList b.toList
 ·have hn: ¬lexC cmpB a.toList b.toList<0:=fun h'=>by rw[h1.2 h'] at h;cases h
  by_cases he:a.toList=b.toList
  ·have:=h2.1 he
   simp[he] at this ⊢
   omega
  ·have: ¬lexC cmpB a.toList b.toList=0:=fun h'=>he (h2.2 h')
   simp[he]
   omega
 ·have:=h1.1 h
  simp
  omega
theorem cmpS_ord:OrdG cmpS (fun _=>True):=by
 have:=(cmpB_ord.lex).pull (fun a:ByteArray=>a.toList) (E:=fun _=>True) fun _ _ _ _=>trivial
 refine ⟨fun a b ha hb=>by rw[cmpS_eq,cmpS_eq];exact this.anti a b ha hb,fun a b d ha hb hd=>by rw[cmpS_eq,cmpS_eq,cmpS_eq];exact this.trans a b d ha hb hd⟩
def lenK (x:Md):Int:=if x.kind=12 then 0 else x.elems.length
def pullC (f:Md→Int) (x y:Md):Int:=cmpI (f x) (f y)
theorem pullC_ord (f:Md→Int):OrdG (pullC f) (fun _=>True):=cmpI_ordG.pull f fun _ _=>trivial
theorem firstC_eq (x y:Md):firstC x y=thenC (pullC Md.kind) (thenC (pullC Md.size) (thenC (pullC Md.dims) (thenC (pullC fun x=>bi x.flex) (thenC (pullC lenK) fun x y=>lexC cmpS x.names y.names)))) x y:=by
 unfold firstC firstL thenC pullC
 simp only[firstNZ_cons]
 have h0:firstNZ []=0:=rfl
 rw[h0]
 by_cases hk:cmpI x.kind y.kind=0
 ·have hkk:x.kind=y.kind:=cmpI_zero.1 hk
  have hl:lenC x y=cmpI (lenK x) (lenK y):=by
   unfold lenC lenK
   rw[←hkk]
   split
   ·rfl
   ·rfl
  rw[hl]
  generalize cmpI (lenK x) (lenK y)=a5
  generalize lexC cmpS x.names y.names=a6
  by_cases h6:a6=0<;>simp[h6]
 ·simp[hk]
theorem firstC_ord:OrdG firstC (fun _=>True):=by
 have h:=(pullC_ord Md.kind).then ((pullC_ord Md.size).then ((pullC_ord Md.dims).then ((pullC_ord fun x=>bi x.flex).then ((pullC_ord lenK).then ((cmpS_ord.lex).pull (fun x:Md=>x.names) (E:=fun _=>True) fun _ _ _ _=>trivial)))))
 refine ⟨fun a b ha hb=>by rw[firstC_eq,firstC_eq];exact h.anti a b ha hb,fun a b d ha hb hd=>by rw[firstC_eq,firstC_eq,firstC_eq];exact h.trans a b d ha hb hd⟩
end Go.Proofs.YtlniliigcnedmaaGreatDoor
namespace Go.Proofs.YtlniliigcnedmaaGreatDoor
open Go Ax
open Relation
def mdAt (l:List Md) (a:Nat):Md:=(l[a]?).getD ⟨0,0,[],[],0,false⟩
theorem mdAt_eq {l:List Md} {a:Nat} (h:a<l.length):mdAt l a=l[a]:=by simp[mdAt,h]
def IsPart (l:List Md) (m j:Nat):Prop:=TransGen (stepR l isU) m j∧ ∀y,l[j]? =some y→isU y=false
theorem IsPart.lt {l:List Md} (hg:goodT l) {m j:Nat} (h:IsPart l m j):j<l.length:=by
 have:=h.1
 cases this with
 |single h1=>obtain ⟨x,h2,_,h3⟩:=h1;have:=hg x (List.mem_of_getElem? h2) _ h3;omega
 |tail _ h1=>obtain ⟨x,h2,_,h3⟩:=h1;have:=hg x (List.mem_of_getElem? h2) _ h3;omega
open Classical in
noncomputable def keyOf (l:List Md) (r:Nat→Nat) (m:Nat):List Int:=
 if isU (mdAt l m) then ((List.range l.length).filter fun v=>decide (∃j,IsPart l m j∧r j=v)).map fun v:Nat=>(v:Int)
 else (mdAt l m).elems.map fun e=>(r e.toNat:Int)
noncomputable def cmpR (l:List Md) (r:Nat→Nat) (d:Nat) (a b:Nat):Int:=
 thenC (fun a b=>cmpI (r a) (r b)) (fun a b=>if d=0 then firstC (mdAt l a) (mdAt l b) else lexC cmpI (keyOf l r a) (keyOf l r b)) a b
def cntC (n:Nat) (c:Nat→Nat→Int) (i:Nat):Nat:=(List.range n).countP fun j=>decide (c j i<0)
noncomputable def R (l:List Md):Nat→Nat→Nat
 |0,_=>0
 |d+1,i=>cntC l.length (cmpR l (R l d) d) i
noncomputable def RR (l:List Md):Nat→Nat:=R l (l.length+1)
theorem cmpR_ord (l:List Md) (r:Nat→Nat) (d:Nat):OrdG (cmpR l r d) (fun _=>True):=by
 have h1:OrdG (fun a b:Nat=>cmpI (r a) (r b)) (fun _=>True):=cmpI_ordG.pull (fun a:Nat=>(r a:Int)) fun _ _=>trivial
 by_cases hd:d=0
 ·have h2:OrdG (fun a b:Nat=>firstC (mdAt l a) (mdAt l b)) (fun _=>True):=firstC_ord.pull (mdAt l) fun _ _=>trivial
  have:=h1.then h2
  unfold cmpR
  simpa[hd] using this
 ·have h2:OrdG (fun a b:Nat=>lexC cmpI (keyOf l r a) (keyOf l r b)) (fun _=>True):=(cmpI_ordG.lex).pull (keyOf l r) fun _ _ _ _=>trivial
  have:=h1.then h2
  unfold cmpR
  simpa[hd] using this
theorem cntC_lt {n:Nat} {c:Nat→Nat→Int} (h:OrdG c (fun _=>True)) {a b:Nat} (ha:a<n):cntC n c a<cntC n c b↔c a b<0:=by
 constructor
 ·intro hlt
  by_cases hc:c a b<0
  ·exact hc
  ·exfalso
   have hba:c b a≤0:=(h.ge trivial trivial).1 (by omega)
   have:cntC n c b≤cntC n c a:=List.countP_mono_left fun j _ hj=>by
    simp only[decide_eq_true_eq] at hj ⊢
    exact h.lt_le trivial trivial trivial hj hba
   omega
 ·intro hc
  refine countP_lt (x:=a) (fun j _ hj=>?_) (List.mem_range.2 ha) ?_ ?_
  ·simp only[decide_eq_true_eq] at hj ⊢
   exact h.lt_le trivial trivial trivial hj (by omega)
  ·have:=h.self (a:=a) trivial
   simp;omega
  ·simpa using hc
theorem R_lt (l:List Md) (d:Nat) {a b:Nat} (ha:a<l.length):R l (d+1) a<R l (d+1) b↔cmpR l (R l d) d a b<0:=cntC_lt (cmpR_ord l (R l d) d) ha
theorem R_bound (l:List Md) (d:Nat) {a:Nat} (ha:a<l.length):R l d a<l.length:=by
 cases d with
 |zero=>simp only[R];omega
 |succ d=>
  have h:(List.range l.length).countP (fun j=>decide (cmpR l (R l d) d j a<0))<(List.range l.length).countP fun _=>true:=by
   refine countP_lt (x:=a) (fun _ _ _=>rfl) (List.mem_range.2 ha) ?_ rfl
   have:=(cmpR_ord l (R l d) d).self (a:=a) trivial
   simp;omega
  simpa[R,cntC] using h
theorem R_refine (l:List Md) (d:Nat) {a b:Nat} (ha:a<l.length) (h:R l d a<R l d b):R l (d+1) a<R l (d+1) b:=by
 rw[R_lt l d ha]
 unfold cmpR thenC
 have:cmpI (R l d a) (R l d b)<0:=cmpI_lt.2 (by omega)
 simp only
 rw[if_pos (by omega)]
 exact this
structure IsKey (l:List Md) (r:Nat→Nat) (m:Nat) (K:List Int):Prop where
 un:isU (mdAt l m)=true→K.Pairwise (· < ·)∧ ∀v,v∈K↔ ∃j,IsPart l m j∧(r j:Int)=v
 el:isU (mdAt l m)=false→K=(mdAt l m).elems.map fun e=>(r e.toNat:Int)
theorem keyOf_isKey {l:List Md} (hg:goodT l) {r:Nat→Nat} (hr: ∀a,a<l.length→r a<l.length) (m:Nat):IsKey l r m (keyOf l r m):=by
 refine ⟨fun hu=>?_,fun hu=>?_⟩
 ·unfold keyOf
  rw[if_pos hu]
  refine ⟨?_,fun v=>?_⟩
  ·refine List.Pairwise.map _ (R:=fun a b:Nat=>a<b) (fun a b hab=>by omega) ?_
   exact List.Pairwise.filter _ List.pairwise_lt_range
  ·simp only[List.mem_map,List.mem_filter,List.mem_range,decide_eq_true_eq]
   constructor
   ·rintro ⟨w,⟨_,j,h1,h2⟩,rfl⟩
    exact ⟨j,h1,by rw[h2]⟩
   ·rintro ⟨j,h1,rfl⟩
    exact ⟨r j,⟨hr j (h1.lt hg),j,h1,rfl⟩,rfl⟩
 ·unfold keyOf
  rw[if_neg (by rw[hu];simp)]
theorem pw_ext: ∀{xs ys:List Int},xs.Pairwise (· < ·)→ys.Pairwise (· < ·)→(∀v,v∈xs↔v∈ys)→xs=ys
 | [],[],_,_,_=>rfl
 | [],y::ys,_,_,h=>by have:=(h y).2 List.mem_cons_self;cases this
 |x::xs,[],_,_,h=>by have:=(h x).1 List.mem_cons_self;cases this
 |x::xs,y::ys,hx,hy,h=>by
  rw[List.pairwise_cons] at hx hy
  have hxy:x=y:=by
   have h1:=(h x).1 List.mem_cons_self
   have h2:=(h y).2 List.mem_cons_self
   rcases List.mem_cons.1 h1 with h1|h1
   ·exact h1
   ·rcases List.mem_cons.1 h2 with h2|h2
    ·exact h2.symm
    ·have:=hy.1 x h1
     have:=hx.1 y h2
     omega
  subst hxy
  rw[pw_ext hx.2 hy.2 fun v=>?_]
  constructor
  ·intro hv
   rcases List.mem_cons.1 ((h v).1 (List.mem_cons_of_mem _ hv)) with rfl|h1
   ·have:=hx.1 v hv;omega
   ·exact h1
  ·intro hv
   rcases List.mem_cons.1 ((h v).2 (List.mem_cons_of_mem _ hv)) with rfl|h1
   ·have:=hy.1 v hv;omega
   ·exact h1
def SameOrd (n:Nat) (r r':Nat→Nat):Prop:= ∀a b,a<n→b<n→(r a<r b↔r' a<r' b)
theorem SameOrd.cmp {n:Nat} {r r':Nat→Nat} (h:SameOrd n r r') {a b:Nat} (ha:a<n) (hb:b<n):cmpI (r a) (r b)=cmpI (r' a) (r' b):=by
 have h1:=h a b ha hb
 have h2:=h b a hb ha
 have c1:((r a:Int)<r b)↔((r' a:Int)<r' b):=by omega
 have c2:((r b:Int)<r a)↔((r' b:Int)<r' a):=by omega
 simp only[cmpI,c1,c2]
theorem IsKey.reps {l:List Md} (hg:goodT l) {r r':Nat→Nat} (h:SameOrd l.length r r') {m:Nat} (hm:m<l.length) {K K':List Int} (hK:IsKey l r m K) (hK':IsKey l r' m K'): ∃us:List Nat,(∀u∈us,u<l.length)∧K=us.map (fun u=>(r u:Int))∧K'=us.map (fun u=>(r' u:Int)):=by
 cases hu:isU (mdAt l m)
 ·refine ⟨(mdAt l m).elems.map Int.toNat,fun u hu=>?_,by rw[hK.el hu,List.map_map];rfl,by rw[hK'.el hu,List.map_map];rfl⟩
  obtain ⟨e,he,rfl⟩:=List.mem_map.1 hu
  rw[mdAt_eq hm] at he
  have:=hg _ (List.getElem_mem hm) e he
  omega
 ·obtain ⟨h1,h2⟩:=hK.un hu
  obtain ⟨h3,h4⟩:=hK'.un hu
  -- a part for each value
  have hrep: ∀L:List Int,(∀v∈L,∃j,IsPart l m j∧(r j:Int)=v)→ ∃us:List Nat,(∀u∈us,IsPart l m u)∧L=us.map (fun u=>(r u:Int)):=by
   intro L
   induction L with
   |nil=>intro _;exact ⟨[],by simp,rfl⟩
   |cons v L ih=>
    intro hv
    obtain ⟨j,h5,h6⟩:=hv v List.mem_cons_self
    obtain ⟨us,h7,h8⟩:=ih fun w hw=>hv w (List.mem_cons_of_mem _ hw)
    exact ⟨j::us,fun u hu=>(List.mem_cons.1 hu).elim (fun e=>e▸h5) (h7 u),by rw[List.map_cons,←h8,h6]⟩
  obtain ⟨us,h5,h6⟩:=hrep K fun v hv=>(h2 v).1 hv
  refine ⟨us,fun u hu=>(h5 u hu).lt hg,h6,pw_ext h3 ?_ fun v=>?_⟩
  ·rw[h6,List.pairwise_map] at h1
   rw[List.pairwise_map]
   refine List.Pairwise.imp_of_mem (fun {a b} ha hb hab=>?_) h1
   have:=(h a b ((h5 a ha).lt hg) ((h5 b hb).lt hg)).1 (by omega)
   omega
  ·rw[h4]
   constructor
   ·rintro ⟨j,h7,rfl⟩
    have:(r j:Int)∈K:=(h2 _).2 ⟨j,h7,rfl⟩
    rw[h6] at this
    obtain ⟨u,h8,h9⟩:=List.mem_map.1 this
    have hju:=(h5 u h8).lt hg
    have hjl:=h7.lt hg
    have e1:=h j u hjl hju
    have e2:=h u j hju hjl
    refine List.mem_map.2 ⟨u,h8,?_⟩
    have n1: ¬r' j<r' u:=fun x=>by have:=e1.2 x;omega
    have n2: ¬r' u<r' j:=fun x=>by have:=e2.2 x;omega
    omega
   ·intro hv
    obtain ⟨u,h8,rfl⟩:=List.mem_map.1 hv
    exact ⟨u,h5 u h8,rfl⟩
theorem lex_same {n:Nat} {r r':Nat→Nat} (h:SameOrd n r r'): ∀{us vs:List Nat},(∀u∈us,u<n)→(∀u∈vs,u<n)→lexC cmpI (us.map fun u=>(r u:Int)) (vs.map fun u=>(r u:Int))=lexC cmpI (us.map fun u=>(r' u:Int)) (vs.map fun u=>(r' u:Int))
 | [],[],_,_=>rfl
 | [],_::_,_,_=>rfl
 |_::_,[],_,_=>rfl
 |u::us,v::vs,h1,h2=>by
  simp only[List.map_cons,lexC]
  rw[h.cmp (h1 u List.mem_cons_self) (h2 v List.mem_cons_self),lex_same h (fun u hu=>h1 u (List.mem_cons_of_mem _ hu)) (fun u hu=>h2 u (List.mem_cons_of_mem _ hu))]
theorem IsKey.cmp {l:List Md} (hg:goodT l) {r r':Nat→Nat} (h:SameOrd l.length r r') {a b:Nat} (ha:a<l.length) (hb:b<l.length) {K K' L L':List Int} (hK:IsKey l r a K) (hK':IsKey l r' a K') (hL:IsKey l r b L) (hL':IsKey l r' b L'):lexC cmpI K L=lexC cmpI K' L':=by
 obtain ⟨us,h1,rfl,rfl⟩:=hK.reps hg h ha hK'
 obtain ⟨vs,h2,rfl,rfl⟩:=hL.reps hg h hb hL'
 exact lex_same h h1 h2
theorem SameOrd.refl (n:Nat) (r:Nat→Nat):SameOrd n r r:=fun _ _ _ _=>Iff.rfl
theorem next_same {l:List Md} (hg:goodT l) {d:Nat} (hd:d≠0) {r:Nat→Nat} (h:SameOrd l.length r (R l d)) {a b:Nat} (ha:a<l.length) (hb:b<l.length) {K L:List Int} (hK:IsKey l r a K) (hL:IsKey l r b L):
  thenC (fun a b=>cmpI (r a) (r b)) (fun _ _=>lexC cmpI K L) a b=cmpR l (R l d) d a b:=by
 have h1:=h.cmp ha hb
 have h2:=IsKey.cmp hg h ha hb hK (keyOf_isKey hg (fun _ h=>R_bound l d h) a) hL (keyOf_isKey hg (fun _ h=>R_bound l d h) b)
 unfold cmpR thenC
 simp only[h1,h2,if_neg hd]
theorem R_count (l:List Md) (d:Nat) {i:Nat}:R l (d+1) i=cntC l.length (fun a b=>if R l (d+1) a<R l (d+1) b then-1 else 0) i:=by
 conv=>lhs;rw[R]
 unfold cntC
 refine List.countP_congr fun j hj=>?_
 have hj:=List.mem_range.1 hj
 simp only[decide_eq_true_eq]
 rw[←R_lt l d hj]
 split<;>simp_all
theorem R_stable {l:List Md} (hg:goodT l) {d:Nat} (hd:d≠0) (h:SameOrd l.length (R l (d+1)) (R l d)): ∀e,∀a,a<l.length→R l (d+e) a=R l d a:=by
 have step: ∀f,f≠0→(∀a,a<l.length→R l f a=R l d a)→SameOrd l.length (R l (f+1)) (R l (d+1)):=by
  intro f hf hfd a b ha hb
  rw[R_lt l f ha,R_lt l d ha]
  have hs:SameOrd l.length (R l f) (R l d):=fun a b ha hb=>by rw[hfd a ha,hfd b hb]
  have:=next_same hg hd hs ha hb (keyOf_isKey hg (fun _ h=>R_bound l f h) a) (keyOf_isKey hg (fun _ h=>R_bound l f h) b)
  rw[←this]
  unfold cmpR
  rw[show (fun a b=>if f=0 then firstC (mdAt l a) (mdAt l b) else lexC cmpI (keyOf l (R l f) a) (keyOf l (R l f) b))=fun a b=>lexC cmpI (keyOf l (R l f) a) (keyOf l (R l f) b) by funext a b;rw[if_neg hf]]
  unfold thenC
  exact Iff.rfl
 have same_eq: ∀f g,f≠0→g≠0→SameOrd l.length (R l f) (R l g)→ ∀a,a<l.length→R l f a=R l g a:=by
  intro f g hf hg' hs a ha
  obtain ⟨f,rfl⟩: ∃f',f=f'+1:=⟨f-1,by omega⟩
  obtain ⟨g,rfl⟩: ∃g',g=g'+1:=⟨g-1,by omega⟩
  rw[R_count,R_count]
  unfold cntC
  refine List.countP_congr fun j hj=>?_
  have hj:=List.mem_range.1 hj
  have:=hs j a hj ha
  simp only[this]
 intro e
 induction e with
 |zero=>intro a _;rfl
 |succ e ih=>
  intro a ha
  refine same_eq (d+e+1) d (by omega) hd ?_ a ha
  intro x y hx hy
  rw[step (d+e) (by omega) ih x y hx hy]
  exact h x y hx hy
theorem DenseOf.low {n k k':Nat} {lt lt':Nat→Nat→Prop} {ds ds':List Nat} (h:DenseOf n lt ds k) (h':DenseOf n lt' ds' k') (hr: ∀a b,a<n→b<n→lt a b→lt' a b): ∀(x a x':Nat),ds[a]? =some x→ds'[a]? =some x'→x≤x':=by
 intro x
 induction x with
 |zero=>intro _ _ _ _;omega
 |succ x ih=>
  intro a x' hx hx'
  have hxk:=h.bound a _ hx
  obtain ⟨b,hb⟩:=h.surj x (by omega)
  have hbn:b<n:=by rw[←h.len];exact (List.getElem?_eq_some_iff.1 hb).1
  have han:a<n:=by rw[←h.len];exact (List.getElem?_eq_some_iff.1 hx).1
  have hb':ds'[b]? =some (ds'[b]'(by rw[h'.len];exact hbn)):=List.getElem?_eq_getElem _
  have h1:=ih b _ hb hb'
  have h2:=hr b a hbn han ((h.ord b a _ _ hb hx).1 (by omega))
  have h3:=(h'.ord b a _ _ hb' hx').2 h2
  omega
theorem DenseOf.high {n k k':Nat} {lt lt':Nat→Nat→Prop} {ds ds':List Nat} (h:DenseOf n lt ds k) (h':DenseOf n lt' ds' k') (hr: ∀a b,a<n→b<n→lt a b→lt' a b): ∀(z a x x':Nat),ds[a]? =some x→ds'[a]? =some x'→k=x+1+z→x'+1+z≤k':=by
 intro z
 induction z with
 |zero=>
  intro a x x' _ hx' _
  have:=h'.bound a _ hx'
  omega
 |succ z ih=>
  intro a x x' hx hx' hk
  obtain ⟨b,hb⟩:=h.surj (x+1) (by omega)
  have hbn:b<n:=by rw[←h.len];exact (List.getElem?_eq_some_iff.1 hb).1
  have han:a<n:=by rw[←h.len];exact (List.getElem?_eq_some_iff.1 hx).1
  have hb':ds'[b]? =some (ds'[b]'(by rw[h'.len];exact hbn)):=List.getElem?_eq_getElem _
  have h1:=ih b _ _ hb hb' (by omega)
  have h2:=hr a b han hbn ((h.ord a b _ _ hx hb).1 (by omega))
  have h3:=(h'.ord a b _ _ hx' hb').2 h2
  omega
theorem DenseOf.mono {n k k':Nat} {lt lt':Nat→Nat→Prop} {ds ds':List Nat} (h:DenseOf n lt ds k) (h':DenseOf n lt' ds' k') (hr: ∀a b,a<n→b<n→lt a b→lt' a b):k≤k':=by
 by_cases hk:k=0
 ·omega
 ·obtain ⟨a,ha⟩:=h.surj 0 (by omega)
  have han:a<n:=by rw[←h.len];exact (List.getElem?_eq_some_iff.1 ha).1
  have ha':ds'[a]? =some (ds'[a]'(by rw[h'.len];exact han)):=List.getElem?_eq_getElem _
  have:=h.high h' hr (k-1) a _ _ ha ha' (by omega)
  omega
theorem DenseOf.same {n k:Nat} {lt lt':Nat→Nat→Prop} {ds ds':List Nat} (h:DenseOf n lt ds k) (h':DenseOf n lt' ds' k) (hr: ∀a b,a<n→b<n→lt a b→lt' a b): ∀a b,a<n→b<n→(lt' a b↔lt a b):=by
 have e: ∀(a x x':Nat),ds[a]? =some x→ds'[a]? =some x'→x=x':=by
  intro a x x' hx hx'
  have h1:=h.low h' hr x a x' hx hx'
  have h2:=h.bound a _ hx
  have h3:=h.high h' hr (k-x-1) a x x' hx hx' (by omega)
  omega
 intro a b ha hb
 have ga:ds[a]? =some (ds[a]'(by rw[h.len];exact ha)):=List.getElem?_eq_getElem _
 have gb:ds[b]? =some (ds[b]'(by rw[h.len];exact hb)):=List.getElem?_eq_getElem _
 have ga':ds'[a]? =some (ds'[a]'(by rw[h'.len];exact ha)):=List.getElem?_eq_getElem _
 have gb':ds'[b]? =some (ds'[b]'(by rw[h'.len];exact hb)):=List.getElem?_eq_getElem _
 rw[←h.ord a b _ _ ga gb,←h'.ord a b _ _ ga' gb',e a _ _ ga ga',e b _ _ gb gb']
end Go.Proofs.YtlniliigcnedmaaGreatDoor
namespace Go.Proofs.YtlniliigcnedmaaGreatDoor
open Go Ax
theorem pigeon: ∀(k:Nat) (xs:List Nat),(∀v,v<k→v∈xs)→k≤xs.length
 |0,_,_=>Nat.zero_le _
 |k+1,xs,h=>by
  have h1:k≤(xs.filter fun x=>x !=k).length:=pigeon k _ fun v hv=>by
   rw[List.mem_filter]
   exact ⟨h v (by omega),by simp;omega⟩
  have h2:(xs.filter fun x=>x !=k).length<xs.length:=by
   rw[List.length_filter_lt_length_iff_exists]
   exact ⟨k,h k (by omega),by simp⟩
  omega
theorem nodup_le: ∀(n:Nat) (xs:List Nat),xs.Nodup→(∀x∈xs,x<n)→xs.length≤n
 |0,[],_,_=>Nat.le_refl _
 |0,x::_,_,h=>by have:=h x List.mem_cons_self;omega
 |n+1,xs,hd,h=>by
  have h1:(xs.filter fun x=>x !=n).length≤n:=nodup_le n _ (hd.filter _) fun x hx=>by
   rw[List.mem_filter] at hx
   have h2:=h x hx.1
   have h3:x≠n:=by simpa using hx.2
   omega
  have h2:xs.length≤(xs.filter fun x=>x !=n).length+1:=by
   have hc:xs.count n≤1:=by
    exact List.nodup_iff_count.1 hd n
   have:=List.length_eq_countP_add_countP (fun x=>x !=n) (l:=xs)
   rw[List.countP_eq_length_filter] at this
   have h3:xs.countP (fun a=> !(a !=n))=xs.count n:=by
    rw[List.count_eq_countP]
    refine List.countP_congr fun x _=>?_
    simp
   simp only[Bool.not_eq_true] at this
   have h4:xs.countP (fun a=>decide ((a !=n)=false))=xs.countP (fun a=> !(a !=n)):=List.countP_congr fun x _=>by simp
   omega
  omega
theorem DenseOf.congr {n k:Nat} {lt lt':Nat→Nat→Prop} {ds:List Nat} (h:DenseOf n lt ds k) (hl: ∀a b,a<n→b<n→(lt a b↔lt' a b)):DenseOf n lt' ds k:=
 ⟨h.len,fun a b x y hx hy=>by
  have ha:=(List.getElem?_eq_some_iff.1 hx).1
  have hb:=(List.getElem?_eq_some_iff.1 hy).1
  rw[h.len] at ha hb
  rw[h.ord a b x y hx hy,hl a b ha hb],h.bound,h.surj⟩
theorem DenseOf.le {n k:Nat} {lt:Nat→Nat→Prop} {ds:List Nat} (h:DenseOf n lt ds k):k≤n:=by
 rw[←h.len]
 refine pigeon k ds fun v hv=>?_
 obtain ⟨a,ha⟩:=h.surj v hv
 exact List.mem_of_getElem? ha
theorem DenseOf.pos {n k:Nat} {lt:Nat→Nat→Prop} {ds:List Nat} (h:DenseOf n lt ds k) (hn:n≠0):1≤k:=by
 have h0:ds[0]? =some (ds[0]'(by rw[h.len];omega)):=List.getElem?_eq_getElem _
 have:=h.bound 0 _ h0
 omega
theorem DenseOf.sameOrd {n k:Nat} {r:Nat→Nat} {ds:List Nat} (h:DenseOf n (fun a b=>r a<r b) ds k):SameOrd n (fun a=>ds.getD a 0) r:=by
 intro a b ha hb
 have ga:ds[a]? =some (ds[a]'(by rw[h.len];exact ha)):=List.getElem?_eq_getElem _
 have gb:ds[b]? =some (ds[b]'(by rw[h.len];exact hb)):=List.getElem?_eq_getElem _
 have:=h.ord a b _ _ ga gb
 simp only[List.getD,ga,gb,Option.getD_some]
 exact this
theorem cp_sorted {ys:List Int} (hs:SortedTo cmpI ys ys.length): ∀j,j≤ys.length→(cp ys j).Pairwise (· < ·)∧(∀v,v∈cp ys j↔v∈ys.take j)∧(j≠0→ ∃w,(cp ys j).getLast? =some w∧ys[j-1]? =some w)
 |0,_=>by simp[cp]
 |j+1,hj=>by
  obtain ⟨h1,h2,h3⟩:=cp_sorted hs j (by omega)
  have hyj:ys[j]? =some (ys[j]'(by omega)):=List.getElem?_eq_getElem _
  have htk:ys.take (j+1)=ys.take j++ [ys[j]'(by omega)]:=by rw[List.take_add_one,hyj];rfl
  rw[cp]
  split
  ·rename_i hc
   refine ⟨h1,fun v=>?_,fun _=>?_⟩
   ·rw[htk,h2]
    simp only[List.mem_append,List.mem_singleton]
    constructor
    ·exact .inl
    ·rintro (h|rfl)
     ·exact h
     ·have hjm:ys[j-1]? =some (ys[j]'(by omega)):=by rw[←hc.2,hyj]
      exact List.mem_iff_getElem?.2 ⟨j-1,by rw[List.getElem?_take,if_pos (by omega)];exact hjm⟩
   ·obtain ⟨w,h4,h5⟩:=h3 hc.1
    exact ⟨w,h4,by rw[Nat.add_sub_cancel,hc.2];exact h5⟩
  ·rename_i hc
   have hgd:ys.getD j 0=ys[j]'(by omega):=by simp[List.getD,hyj]
   rw[hgd]
   refine ⟨?_,fun v=>?_,fun _=>⟨ys[j]'(by omega),by simp,by rw[Nat.add_sub_cancel];exact hyj⟩⟩
   ·rw[List.pairwise_append]
    refine ⟨h1,by simp,fun v hv w hw=>?_⟩
    rw[List.mem_singleton] at hw
    subst hw
    have hv':=(h2 v).1 hv
    obtain ⟨p,hp,hpv⟩:=List.mem_iff_getElem.1 hv'
    rw[List.length_take] at hp
    rw[List.getElem_take] at hpv
    have hle:=hs p j _ _ (by omega) (by omega) (List.getElem?_eq_getElem (by omega)) hyj
    rw[cmpI_le,hpv] at hle
    by_cases he:v=ys[j]'(by omega)
    ·exfalso
     refine hc ⟨by omega,?_⟩
     -- what stands between is the same
     have hpj:=hs p (j-1)
     have hjl:ys[j-1]? =some (ys[j-1]'(by omega)):=List.getElem?_eq_getElem _
     have h6:=hs (j-1) j _ _ (by omega) (by omega) hjl hyj
     rw[cmpI_le] at h6
     rw[hyj,hjl]
     by_cases hpj':p=j-1
     ·subst hpj'
      rw[←he,hpv]
     ·have h7:=hs p (j-1) _ _ (by omega) (by omega) (List.getElem?_eq_getElem (by omega)) hjl
      rw[cmpI_le,hpv] at h7
      congr 1
      omega
    ·omega
   ·rw[htk]
    simp only[List.mem_append,List.mem_singleton,h2]
end Go.Proofs.YtlniliigcnedmaaGreatDoor
namespace Go.Proofs.YtlniliigcnedmaaGreatDoor
open Go Ax
open Relation
structure PInv (l:List Md) (m:Nat) (S:List Bool) (Q:List Nat):Prop where
 len:S.length=l.length
 q: ∀z∈Q,z<l.length∧(z=m∨TransGen (stepR l isU) m z)
 s: ∀(z:Nat),S[z]? =some true→z=m∨TransGen (stepR l isU) m z
 c: ∀(z:Nat),S[z]? =some true→ ∀y,stepR l isU z y→y∈Q∨S[y]? =some true
 m0:m∈Q∨S[m]? =some true
variable {l:List Md} {m x:Nat} {S:List Bool} {Q Q':List Nat}
theorem PInv.skip (h:PInv l m S (x::Q)) (hx:S[x]? =some true):PInv l m S Q where
 len:=h.len
 q:=fun z hz=>h.q z (List.mem_cons_of_mem _ hz)
 s:=h.s
 c:=fun z hz y hy=>by
  rcases h.c z hz y hy with h1|h1
  ·rcases List.mem_cons.1 h1 with rfl|h1
   ·exact .inr hx
   ·exact .inl h1
  ·exact .inr h1
 m0:=by
  rcases h.m0 with h1|h1
  ·rcases List.mem_cons.1 h1 with rfl|h1
   ·exact .inr hx
   ·exact .inl h1
  ·exact .inr h1
theorem PInv.done (h:PInv l m S []) (z:Nat):S[z]? =some true↔z=m∨TransGen (stepR l isU) m z:=by
 refine ⟨h.s z,?_⟩
 have hm:S[m]? =some true:=h.m0.resolve_left (by simp)
 rintro (rfl|ht)
 ·exact hm
 ·induction ht with
  |single h1=>exact (h.c m hm _ h1).resolve_left (by simp)
  |tail _ h1 ih=>exact (h.c _ ih _ h1).resolve_left (by simp)
structure SortedBy (r:Nat→Nat) (ms zs:List Nat):Prop where
 asc:zs.Pairwise (fun a b=>r a<r b)
 sub: ∀z∈zs,z∈ms
 cov: ∀y∈ms,∃z∈zs,r z=r y∧z≤y
variable {r:Nat→Nat} {ms zs:List Nat} {y k:Nat}
theorem SortedBy.nil:SortedBy r [] []:=⟨.nil,by simp,by simp⟩
theorem SortedBy.hit (h:SortedBy r ms zs) (hk:k<zs.length) (he:r zs[k]=r y):SortedBy r (ms++ [y]) (if y<zs[k] then zs.set k y else zs):=by
 split
 ·rename_i hlt
  refine ⟨?_,fun z hz=>?_,fun w hw=>?_⟩
  ·rw[List.pairwise_iff_getElem]
   have h0:=List.pairwise_iff_getElem.1 h.asc
   intro i j hi hj hij
   rw[List.length_set] at hi hj
   have:=h0 i j hi hj hij
   rw[List.getElem_set,List.getElem_set]
   split
   ·rename_i hki
    subst hki
    rw[if_neg (by omega),←he]
    exact this
   ·split
    ·rename_i hkj
     subst hkj
     rw[←he]
     exact this
    ·exact this
  ·rcases List.mem_or_eq_of_mem_set hz with hz|rfl
   ·exact List.mem_append_left _ (h.sub z hz)
   ·exact List.mem_append_right _ (List.mem_singleton.2 rfl)
  ·rcases List.mem_append.1 hw with hw|hw
   ·obtain ⟨z,hz,h1,h2⟩:=h.cov w hw
    obtain ⟨j,hj,rfl⟩:=List.mem_iff_getElem.1 hz
    by_cases hjk:j=k
    ·subst hjk
     exact ⟨y,List.mem_iff_getElem.2 ⟨j,by simpa using hj,by simp⟩,by rw[←he,h1],by omega⟩
    ·exact ⟨zs[j],List.mem_iff_getElem.2 ⟨j,by simpa using hj,by rw[List.getElem_set_ne (fun e=>hjk e.symm)]⟩,h1,h2⟩
   ·rw[List.mem_singleton] at hw
    subst hw
    exact ⟨w,List.mem_iff_getElem.2 ⟨k,by simpa using hk,by simp⟩,rfl,Nat.le_refl _⟩
 ·refine ⟨h.asc,fun z hz=>List.mem_append_left _ (h.sub z hz),fun w hw=>?_⟩
  rcases List.mem_append.1 hw with hw|hw
  ·exact h.cov w hw
  ·rw[List.mem_singleton] at hw
   subst hw
   exact ⟨zs[k],List.getElem_mem hk,he,by omega⟩
theorem SortedBy.put (h:SortedBy r ms zs) (hk:k≤zs.length) (hlt: ∀(j:Nat) z,j<k→zs[j]? =some z→r z<r y) (hge: ∀z,zs[k]? =some z→ ¬r z<r y∧ ¬r z=r y):SortedBy r (ms++ [y]) (zs.take k++ [y]++zs.drop k):=by
 refine ⟨?_,fun z hz=>?_,fun w hw=>?_⟩
 ·have h1:=h.asc
  rw[←List.take_append_drop k zs,List.pairwise_append] at h1
  obtain ⟨a1,a2,a3⟩:=h1
  have hy1: ∀z∈zs.take k,r z<r y:=fun z hz=>by
   obtain ⟨j,hj,rfl⟩:=List.mem_iff_getElem.1 hz
   rw[List.length_take] at hj
   rw[List.getElem_take]
   exact hlt j _ (by omega) (List.getElem?_eq_getElem (by omega))
  have hy2: ∀z∈zs.drop k,r y<r z:=fun z hz=>by
   cases hd:zs.drop k with
   |nil=>rw[hd] at hz;cases hz
   |cons w ws=>
    have hw:zs[k]? =some w:=by
     have:=congrArg (·[0]?) hd
     simpa using this
    have:=hge w hw
    rw[hd] at hz a2
    rcases List.mem_cons.1 hz with rfl|hz
    ·omega
    ·have:=(List.pairwise_cons.1 a2).1 z hz
     omega
  rw[List.pairwise_append]
  refine ⟨?_,a2,fun z hz w hw=>?_⟩
  ·rw[List.pairwise_append]
   exact ⟨a1,by simp,fun z hz w hw=>by rw[List.mem_singleton] at hw;subst hw;exact hy1 z hz⟩
  ·rcases List.mem_append.1 hz with hz|hz
   ·exact a3 z hz w hw
   ·rw[List.mem_singleton] at hz;subst hz;exact hy2 w hw
 ·rcases List.mem_append.1 hz with hz|hz
  ·rcases List.mem_append.1 hz with hz|hz
   ·exact List.mem_append_left _ (h.sub z (List.mem_of_mem_take hz))
   ·exact List.mem_append_right _ hz
  ·exact List.mem_append_left _ (h.sub z (List.mem_of_mem_drop hz))
 ·rcases List.mem_append.1 hw with hw|hw
  ·obtain ⟨z,hz,h1⟩:=h.cov w hw
   rw[←List.take_append_drop k zs] at hz
   rcases List.mem_append.1 hz with hz|hz
   ·exact ⟨z,List.mem_append_left _ (List.mem_append_left _ hz),h1⟩
   ·exact ⟨z,List.mem_append_right _ hz,h1⟩
  ·rw[List.mem_singleton] at hw
   subst hw
   exact ⟨w,List.mem_append_left _ (List.mem_append_right _ (List.mem_singleton.2 rfl)),rfl,Nat.le_refl _⟩
end Go.Proofs.YtlniliigcnedmaaGreatDoor
namespace Go.Proofs.YtlniliigcnedmaaGreatDoor
open Go Ax
set_option maxRecDepth 100000
def RRows (m:AMem) (s:AVal) (ks:List (List Int)):Prop:= ∃svs,Sl m 1 s ks.length svs∧ ∀(i:Nat) K,ks[i]? =some K→ ∃sv,svs[i]? =some sv∧RInts m sv K
theorem RRows.mono {m m':AMem} {s:AVal} {ks:List (List Int)} (h:RRows m s ks) (hm:m<+:m'):RRows m' s ks:=by
 obtain ⟨svs,h1,h2⟩:=h
 refine ⟨svs,h1.mono hm,fun i K hK=>?_⟩
 obtain ⟨sv,h3,h4⟩:=h2 i K hK
 exact ⟨sv,h3,h4.mono hm⟩
theorem RRows.at {m:AMem} {s:AVal} {ks:List (List Int)} (h:RRows m s ks) {i:Nat} (hi:i<ks.length): ∃b o sv,(∀k,iaddrE 1 s (.int k i)=some (.ptr b o))∧loadE m 1 false (.ptr b o)=some sv∧RInts m sv ks[i]:=by
 obtain ⟨svs,h1,h2⟩:=h
 obtain ⟨sv,h3,h4⟩:=h2 i _ (List.getElem?_eq_getElem hi)
 obtain ⟨b,o,h5,h6,_⟩:=h1.at hi
 refine ⟨b,o,sv,h5,?_,h4⟩
 have:=h6 0 (by omega)
 simpa[h3] using this
set_option maxHeartbeats 2000000 in
theorem k80 (s:AVal) (l:List Md) (a b:Nat) (b1:Nat) (m:AMem) (hb1:readB m b1=some [s]) (hs:RTab m s l) (hsz: ∀x∈l,smallN x) (ha:a<l.length) (hb:b<l.length):ACalls Tryz.prog 80 [.int .i64 a,.int .i64 b,.ptr b1 0] m fun v m'=>v= .int .i64 (firstC (mdAt l a) (mdAt l b))∧m<+:m':=by
 refine w80 ?_
 obtain ⟨ba,oa,ca,h1,h2,_,_,h3⟩:=hs.atC ha
 obtain ⟨bb,ob,cb,h4,h5,_,_,h6⟩:=hs.atC hb
 simp
 refine W_draw (fun _ _ _=>True) (by simp[maxDst]) ?_
 refine D_pc 0 8 [8,9] ?_
 simp[bx hb1,h1,h2,h4,h5]
 intro fs' hfs'
 refine D_X rfl rfl fun m5 hm5 _=>?_
 simp
 refine C_of (k81 ca cb _ _ m5 (h3.mono hm5) (h6.mono hm5) (hsz _ (List.getElem_mem ha)) (hsz _ (List.getElem_mem hb))) ?_
 rintro _ m6 ⟨rfl,hm6⟩
 refine ⟨by simp[lateOf],?_⟩
 refine D_pc 9 1 [] ?_
 simp
 intro fs'' _
 refine D_end fun m7 hm7 _=>?_
 simp[mdAt_eq ha,mdAt_eq hb]
 exact (hm5.trans hm6).trans hm7
def ks95 (x y z:Int):Nat→AVal→AMem→Prop:=fun i v _=>v= .int .i64 (if i=8 then x else if i=17 then y else z)
set_option maxHeartbeats 2000000 in
theorem k84 (vr vl:AVal) (ds:List Int) (ks:List (List Int)) (a b:Nat) (b6 b8:Nat) (m:AMem) (hb6:readB m b6=some [vr]) (hb8:readB m b8=some [vl]) (hr:RInts m vr ds) (hk:RRows m vl ks) (ha:a<ds.length) (hb:b<ds.length) (hl:ks.length=ds.length) (hsz: ∀K∈ks,K.length<2^62):
  ACalls Tryz.prog 84 [.int .i64 a,.int .i64 b,.ptr b6 0,.ptr b8 0] m fun v m'=>v= .int .i64 (firstNZ [cmpI ds[a] ds[b],lexC cmpI (ks[a]'(by omega)) (ks[b]'(by omega))])∧m<+:m':=by
 refine w84 ?_
 obtain ⟨ba,oa,h1,h2⟩:=hr.at ha
 obtain ⟨bb,ob,h3,h4⟩:=hr.at hb
 obtain ⟨bc,oc,sa,h5,h6,h7⟩:=hk.at (i:=a) (by omega)
 obtain ⟨bd,od,sb,h8,h9,h10⟩:=hk.at (i:=b) (by omega)
 have hsa:=hsz _ (List.getElem_mem (show a<ks.length by omega))
 generalize ds[a]=x at*
 generalize ds[b]=y at*
 generalize ks[a]'(by omega)=K at*
 generalize ks[b]'(by omega)=L at*
 simp
 refine W_draw (ks95 (cmpI x y) (lexC cmpI K L) (firstNZ [cmpI x y,lexC cmpI K L])) (by simp[maxDst]) ?_
 have: ∀(j:Nat) (m':AMem),noFacts j m':=fun _ _=>trivial
 refine D_pre 0 8 [8,9,10,11,12,13,14,15,16,17,18,19,20] (by simp only[List.drop_zero,List.drop_succ_cons,List.take_succ_cons,List.take_zero];rfl) rfl rfl ‹_› ?_
 simp[bx hb6,h1,h2,h3,h4]
 intro _ _
 refine D_Cv (.int .i64 (cmpI x y)) rfl trivial rfl rfl (fun m' hm' _=>(k86 _ _ m').mono fun v m'' h=>⟨by rw[h.2];exact List.prefix_refl _,h.1⟩) ?_
 have:=upd_triv 8 ‹∀(j:Nat) (m':AMem),_›
 refine D_pre 9 8 [17,18,19,20] (by simp only[List.drop_zero,List.drop_succ_cons,List.take_succ_cons,List.take_zero];rfl) rfl rfl ‹_› ?_
 simp[bx hb8,h5,h6,h8,h9]
 intro _ _
 refine D_Cv (.int .i64 (lexC cmpI K L)) rfl trivial rfl rfl (fun m' hm' _=>(k87 sa sb K L m' (h7.mono hm') (h10.mono hm') hsa).mono fun v m'' h=>⟨by rw[h.2];exact List.prefix_refl _,h.1⟩) ?_
 have:=upd_triv 17 ‹∀(j:Nat) (m':AMem),_›
 refine D_A rfl trivial ?_
 simp[fillA,setN]
 intro b
 refine D_Cv (.int .i64 (firstNZ [cmpI x y,lexC cmpI K L])) rfl trivial rfl rfl (fun m' hm' hp=>?_) ?_
 ·have h18:=hp 18 (by simp)
  simp[upd] at h18
  refine (k85 (.slice b 0 2 2 none) [cmpI x y,lexC cmpI K L] m' ?_ (by simp)).mono fun v m'' h=>⟨by rw[h.2];exact List.prefix_refl _,h.1⟩
  refine .inr ⟨b,0,2,none,rfl,⟨by simp,.inl rfl⟩,.inr ⟨by simp,_,by simp[readB,h18,ABlk.cells];rfl,by simp[readN]⟩⟩
 refine D_P rfl trivial ?_
 simp
 refine D_end fun m2 hm2 _=>?_
 simp[hm2]
end Go.Proofs.YtlniliigcnedmaaGreatDoor
