/- Layer 10's laws.  Conditions: none beyond those stated. -/
import Derived.Test.YtlniliigcnedmaaGreatDoorE5
import Derived.Shelf.Strings.Repeat
import Derived.Ground.Names2Prog
import Derived.Test.YtlniliigcnedmaaGreatDoorProg
import Derived.ProofKit
import Derived.SizedLaws
import Derived.SliceStrings
import Derived.Deep.Slices
import Derived.DataElems
import Derived.Test.YtlniliigcnedmaaGreatDoorRows
import Derived.OpenShut
set_option linter.unusedSimpArgs false
set_option linter.unusedVariables false
namespace Go.Proofs.YtlniliigcnedmaaGreatDoor
open Go Ax
set_option maxRecDepth 100000
theorem k58 (t:AVal) (xs:List ByteArray) (m:AMem) (ht:RStrs m t xs) (hn:xs.length<2^40):
  ACalls Tryz.prog 58 [t] m fun v m'=>m<+:m'∧OwL AVal.str m.length m' 9 v xs∧v.one=true∧v.cells= [v]:=by
 refine w58 ?_
 rcases ht with ⟨rfl,hx⟩|⟨b,o,cap,gr,rfl,h1,h2⟩
 ·have hx:xs= []:=by simpa using hx
  subst hx
  simp
  exact OwL.nil
 ·simp
  have hN:=OwL.new (f:=AVal.str) m 9 []
  have hm1:m<+:m++ [.own ([].map AVal.str) 9 none]:=List.prefix_append _ _
  have hA:RStrs m (.slice b o xs.length cap gr) xs:= .inr ⟨b,o,cap,gr,rfl,h1,h2⟩
  have hsc:=Sl.cells (RStrs.mono hA hm1)
  simp[fillA] at hN hsc ⊢
  replace hm1:m<+:m++ [.own [] 9 none]:=hm1
  generalize m++ [.own [] 9 none]=m1 at*
  obtain ⟨t',m2,happ,hch,hO,hbl⟩:=hN.append (by have:=hm1.length_le;omega) (by_:=16) (by decide) xs (by simp;omega)
  simp[hsc,happ]
  have hO':OwL AVal.str m.length m2 9 t' xs:=by simpa using hO
  exact ⟨hch.pre hm1 fun b hb h=>(by simp[AVal.blk] at h;omega),hO',(Ow.sl hO').self⟩
theorem fidx_spec {p:Nat→Bool}: ∀(n i:Nat),0≤fidx p i n→ ∃j,i≤j∧j<i+n∧fidx p i n=(j:Int)∧p j=true
 |0,i,h=>by simp[fidx] at h
 |n+1,i,h=>by
  rw[fidx] at h ⊢
  split
  ·rename_i hp;exact ⟨i,Nat.le_refl _,by omega,rfl,hp⟩
  ·rename_i hp
   rw[if_neg hp] at h
   obtain ⟨j,h1,h2,h3,h4⟩:=fidx_spec n (i+1) h
   exact ⟨j,by omega,by omega,h3,h4⟩
end Go.Proofs.YtlniliigcnedmaaGreatDoor
namespace Go.Proofs.YtlniliigcnedmaaGreatDoor
open Go Ax
set_option maxRecDepth 100000
theorem k77 (s:AVal) (l:List Md) (i:Int) (b:Nat) (m:AMem) (hs:RTab m s l) (hb:readB m b=some [s]):ACalls Tryz.prog 77 [.int .i64 i,.ptr b 0] m fun v m'=>v= .bool (outB l.length i)∧m'=m:=by
 refine w77 ?_
 simp[bx hb]
 refine C_of (k64 s l i m hs) ?_
 rintro _ m1 ⟨rfl,rfl⟩
 simp[outB]
theorem k43 (s t:AVal) (l:List Md) (ms:List Int) (m:AMem) (hs:RTab m s l) (ht:RInts m t ms) (hsz: ∀x∈l,smallN x) (hl:l.length<2^62) (hm:ms.length<2^62):ACalls Tryz.prog 43 [s,t] m fun v m'=>v= .int .i64 (rightI l ms)∧m<+:m':=by
 refine w43 ?_
 obtain ⟨hsl,hsc⟩:=hs.self
 simp[hsl,hsc]
 have hb0:=readB_new m [s] 22 none
 have hm1:m<+:m++ [.own [s] 22 none]:=List.prefix_append _ _
 generalize m++ [.own [s] 22 none]=m1 at*
 generalize m.length=b1 at*
 refine C_of (k52 s l m1 (hs.mono hm1) hsz hl) ?_
 rintro _ m2 ⟨rfl,hm2⟩
 simp
 generalize hE:rightI l ms=E
 unfold rightI at hE
 refine bbind_intro (fun h=>?_) fun h=>?_
 ·have h:checkI l≠0:=by simpa using h
  rw[if_pos h] at hE
  simp[hE,hm1.trans hm2]
 have h:checkI l=0:=by simpa using h
 rw[if_neg (by simp[h])] at hE
 simp
 refine C_of (k36 t ms (outB l.length) m2 (ht.mono (hm1.trans hm2)) hm 77 [] [.ptr b1 0] ?_) ?_
 ·intro x _ m' hm'
  refine (k77 s l x b1 m' (hs.mono ((hm1.trans hm2).trans hm')) (readB_mono (hm2.trans hm') hb0)).mono ?_
  rintro _ _ ⟨rfl,rfl⟩
  exact ⟨rfl,List.prefix_refl _⟩
 rintro _ m3 ⟨rfl,hm3⟩
 simp
 refine bbind_intro (fun h=>?_) fun h=>?_
 ·rw[if_pos h] at hE
  simp[hE,(hm1.trans hm2).trans hm3]
 ·rw[if_neg (by rw[h];simp)] at hE
  simp[←hE,(hm1.trans hm2).trans hm3]
end Go.Proofs.YtlniliigcnedmaaGreatDoor
namespace Go.Proofs.YtlniliigcnedmaaGreatDoor
open Go Ax
set_option maxRecDepth 100000
theorem DenseOf.lt {n k:Nat} {lt:Nat→Nat→Prop} {ds:List Nat} (h:DenseOf n lt ds k) {a b:Nat} (ha:a<n) (hb:b<n):ds.getD a 0<ds.getD b 0↔lt a b:=by
 have ha':a<ds.length:=by rw[h.len];exact ha
 have hb':b<ds.length:=by rw[h.len];exact hb
 have h1:ds[a]? =some ds[a]:=List.getElem?_eq_getElem ha'
 have h2:ds[b]? =some ds[b]:=List.getElem?_eq_getElem hb'
 have:=h.ord a b _ _ h1 h2
 simpa[List.getD,h1,h2] using this
theorem rightI_two {l:List Md} {a b:Nat} (hc:checkI l=0) (ha:a<l.length) (hb:b<l.length):rightI l [(a:Int),(b:Int)]=0:=by
 unfold rightI
 rw[if_neg (by simp[hc]),if_neg]
 simp[outB,ha,hb]
theorem k19 (s:AVal) (l:List Md) (a b:Nat) (m:AMem) (hs:RTab m s l) (hsz: ∀x∈l,smallN x) (hn:T13 l) (hc:checkI l=0) (ha:a<l.length) (hb:b<l.length):
  ACalls Tryz.prog 19 [s,.int .i64 a,.int .i64 b] m fun v m'=>v= .tuple [.bool (decide (RR l a<RR l b)),.int .i64 0]∧m<+:m':=by
 refine w19 ?_
 have h60:=hn.len
 have ok:=okT_of hc
 simp[fillA,setN]
 have hA:=two_ints m a b
 have hm1:m<+:m++ [.own [.int .i64 (a:Int),.int .i64 (b:Int)] 3 none]:=List.prefix_append _ _
 generalize AVal.slice m.length 0 2 2 none=t1 at*
 generalize m++ [.own [.int .i64 (a:Int),.int .i64 (b:Int)] 3 none]=m1 at*
 refine C_of (k43 s t1 l [(a:Int),(b:Int)] m1 (hs.mono hm1) hA.ints hsz (by omega) (by simp)) ?_
 rintro _ m2 ⟨rfl,hm2⟩
 rw[rightI_two hc ha hb]
 simp
 refine C_of (k44 s l m2 (hs.mono (hm1.trans hm2)) ok.good hn.t60 hsz ok.h64) ?_
 rintro v3 m3 ⟨hm3,ds,kd,hX,hD⟩
 have hXi:=ints_of_nat hX
 obtain ⟨ba,oa,hpa,hla⟩:=ranksAt hXi (x:=a) (by rw[hD.len];exact ha)
 obtain ⟨bb,ob,hpb,hlb⟩:=ranksAt hXi (x:=b) (by rw[hD.len];exact hb)
 have hla:=hla m3 (List.prefix_refl _)
 have hlb:=hlb m3 (List.prefix_refl _)
 have hlt:=hD.lt ha hb
 generalize ds.getD a 0=x at*
 generalize ds.getD b 0=y at*
 simp
 refine W_drawPR (by simp[maxDst]) rfl rfl ?_
 simp[hpa,hla,hpb,hlb]
 intro m4 hm4
 simp[hlt]
 exact ((hm1.trans hm2).trans hm3).trans hm4
end Go.Proofs.YtlniliigcnedmaaGreatDoor
namespace Go.Proofs.YtlniliigcnedmaaGreatDoor
open Go Ax
theorem SortedBy.ex (r:Nat→Nat) (ms:List Nat): ∃zs,SortedBy r ms zs:=by
 suffices h: ∀ms:List Nat,∃zs,SortedBy r ms.reverse zs by
  have:=h ms.reverse
  rwa[List.reverse_reverse] at this
 intro ms
 induction ms with
 |nil=>exact ⟨[],SortedBy.nil⟩
 |cons y ms ih=>
  obtain ⟨zs,h⟩:=ih
  rw[List.reverse_cons]
  have key: ∀k,k≤zs.length→(∀(j:Nat) z,j<k→zs[j]? =some z→r z<r y)→ ∃zs',SortedBy r (ms.reverse++ [y]) zs':=by
   intro k hk
   generalize hq:zs.length-k=q
   induction q generalizing k with
   |zero=>
    intro hlt
    exact ⟨_,h.put hk hlt fun z hz=>by rw[List.getElem?_eq_none (by omega)] at hz;cases hz⟩
   |succ q ih=>
    intro hlt
    have hkl:k<zs.length:=by omega
    have hz:zs[k]? =some zs[k]:=List.getElem?_eq_getElem hkl
    rcases Nat.lt_trichotomy (r zs[k]) (r y) with h1|h1|h1
    ·exact ih (k+1) (by omega) (by omega) fun j z hj hjz=>by
      by_cases hjk:j=k
      ·subst hjk;rw[hz] at hjz;cases hjz;exact h1
      ·exact hlt j z (by omega) hjz
    ·exact ⟨_,h.hit hkl h1⟩
    ·exact ⟨_,h.put hk hlt fun z hz'=>by rw[hz] at hz';cases hz';omega⟩
  exact key 0 (Nat.zero_le _) fun j z hj=>by omega
theorem basesEx {l:List Md} (hg:goodT l) {x:Nat} (hx:x<l.length):BasesOk l x (basesOf l x):=by
 cases hu:isU (mdAt l x)
 ·exact (⟨fun h=>(by rw[hu] at h;cases h),fun _=>rfl⟩:BasesOk l x [x]).ok
 ·obtain ⟨O,_,h2⟩:=basesSome l hg x hx
  obtain ⟨zs,h3⟩:=SortedBy.ex (RR l) O
  exact (⟨fun _=>⟨O,fun j=>by rw[h2];unfold IsBase;rw[if_pos hu],h3⟩,fun h=>by rw[hu] at h;cases h⟩:BasesOk l x zs).ok
def hasRR (l:List Md) (x v:Nat):Prop:= ∃j,IsBase l x j∧RR l j=RR l v
theorem SameOrd.eq {n:Nat} {r r':Nat→Nat} (h:SameOrd n r r') {a b:Nat} (ha:a<n) (hb:b<n):r a=r b↔r' a=r' b:=by
 have h1:=h a b ha hb
 have h2:=h b a hb ha
 omega
theorem SortedBy.congrO {r r':Nat→Nat} {ms zs:List Nat} {n:Nat} (hn: ∀x∈ms,x<n) (hr:SameOrd n r r') (h:SortedBy r ms zs):SortedBy r' ms zs:=by
 refine ⟨?_,h.sub,fun y hy=>?_⟩
 ·exact List.Pairwise.imp_of_mem (fun {a b} ha hb hab=>(hr a b (hn a (h.sub a ha)) (hn b (h.sub b hb))).1 hab) h.asc
 ·obtain ⟨z,h1,h2,h3⟩:=h.cov y hy
  exact ⟨z,h1,(hr.eq (hn z (h.sub z h1)) (hn y hy)).1 h2,h3⟩
theorem once_eq {l:List Md} (hg:goodT l) {r:Nat→Nat} (h:SameOrd l.length r (RR l)) {x:Nat} (hx:x<l.length) (hu:isU (mdAt l x)=true) {O zs:List Nat} (hO: ∀j,j∈O↔IsBase l x j) (hs:SortedBy r O zs):zs=basesOf l x:=by
 refine BasesOk.eq ⟨fun _=>⟨O,fun j=>?_,hs.congrO (n:=l.length) (fun x' hx'=>((hO x').1 hx').lt hg hx) h⟩,fun h'=>by rw[hu] at h';cases h'⟩
 rw[hO];unfold IsBase;rw[if_pos hu]
end Go.Proofs.YtlniliigcnedmaaGreatDoor
namespace Go.Proofs.YtlniliigcnedmaaGreatDoor
open Go Ax
theorem firstC_kind {x y:Md} (h:firstC x y=0):x.kind=y.kind:=by
 rw[firstC_eq] at h
 unfold thenC at h
 split at h
 ·rename_i h1;exact absurd h h1
 ·rename_i h1
  have h1:pullC Md.kind x y=0:=by simpa using h1
  exact cmpI_zero.1 h1
theorem R_eq_down {l:List Md} {a b:Nat} (ha:a<l.length) (hb:b<l.length) {d:Nat}: ∀e,R l (d+e) a=R l (d+e) b→R l d a=R l d b
 |0,h=>h
 |e+1,h=>by
  refine R_eq_down ha hb e ?_
  rcases Nat.lt_trichotomy (R l (d+e) a) (R l (d+e) b) with h1|h1|h1
  ·have:=R_refine l (d+e) ha h1;rw[←Nat.add_assoc] at h;omega
  ·exact h1
  ·have:=R_refine l (d+e) hb h1;rw[←Nat.add_assoc] at h;omega
theorem R_eq_cmp {l:List Md} {a b d:Nat} (ha:a<l.length) (hb:b<l.length) (h:R l (d+1) a=R l (d+1) b):cmpR l (R l d) d a b=0:=by
 have h1:=R_lt l d (b:=b) ha
 have h2:=R_lt l d (b:=a) hb
 have h3:=(cmpR_ord l (R l d) d).anti a b trivial trivial
 have h4:=(cmpR_ord l (R l d) d).anti b a trivial trivial
 omega
def led (f:Nat→Nat) (a:Nat):Bool:=(List.range a).all fun b=>f b !=f a
theorem led_iff {f:Nat→Nat} {a:Nat}:led f a=true↔ ∀b,b<a→f b≠f a:=by
 simp[led,List.all_eq_true]
theorem leader {f:Nat→Nat}: ∀(a:Nat),∃e,e≤a∧f e=f a∧led f e=true:=by
 intro a
 induction a using Nat.strongRecOn with
 |ind a ih=>
  by_cases h:led f a=true
  ·exact ⟨a,Nat.le_refl _,rfl,h⟩
  ·have: ∃b,b<a∧f b=f a:=by
    by_cases hx: ∃b,b<a∧f b=f a
    ·exact hx
    ·exact absurd (led_iff.2 fun b hb he=>hx ⟨b,hb,he⟩) h
   obtain ⟨b,h1,h2⟩:=this
   obtain ⟨e,h3,h4,h5⟩:=ih b h1
   exact ⟨e,by omega,by rw[h4,h2],h5⟩
theorem lead_grow {l:List Md} {d:Nat} (hs: ¬SameOrd l.length (R l (d+1)) (R l d)):(List.range l.length).countP (led (R l d))<(List.range l.length).countP (led (R l (d+1))):=by
 have down: ∀a b,a<l.length→b<l.length→R l (d+1) a=R l (d+1) b→R l d a=R l d b:=fun a b ha hb h=>R_eq_down (d:=d) ha hb 1 h
 have hmono: ∀a∈List.range l.length,led (R l d) a=true→led (R l (d+1)) a=true:=fun a ha h=>by
  have ha:=List.mem_range.1 ha
  exact led_iff.2 fun b hb he=>led_iff.1 h b hb (down b a (by omega) ha he)
 -- two of one class that part
 have: ∃a b,a<l.length∧b<l.length∧R l d a=R l d b∧R l (d+1) a≠R l (d+1) b:=by
  by_cases hx: ∃a b,a<l.length∧b<l.length∧R l d a=R l d b∧R l (d+1) a≠R l (d+1) b
  ·exact hx
  ·refine absurd ?_ hs
   intro a b ha hb
   constructor
   ·intro h
    rcases Nat.lt_trichotomy (R l d a) (R l d b) with h1|h1|h1
    ·exact h1
    ·exact absurd ⟨a,b,ha,hb,h1,by omega⟩ hx
    ·have:=R_refine l d hb h1;omega
   ·intro h;exact R_refine l d ha h
 obtain ⟨a,b,ha,hb,he,hne⟩:=this
 obtain ⟨e,h1,h2,h3⟩:=leader (f:=R l d) a
 have: ∃x,x<l.length∧R l d x=R l d e∧R l (d+1) x≠R l (d+1) e:=by
  by_cases h:R l (d+1) a=R l (d+1) e
  ·exact ⟨b,hb,by omega,by omega⟩
  ·exact ⟨a,ha,h2.symm,h⟩
 obtain ⟨x,hx,hxe,hxn⟩:=this
 obtain ⟨y,h4,h5,h6⟩:=leader (f:=R l (d+1)) x
 have hye:R l d y=R l d e:=by rw[down y x (by omega) hx h5,hxe]
 have hyne:y≠e:=fun h=>hxn (by rw[←h5,h])
 refine countP_lt (x:=y) hmono (List.mem_range.2 (by omega)) ?_ h6
 cases hl:led (R l d) y with
 |false=>rfl
 |true=>
  exfalso
  rcases Nat.lt_trichotomy y e with h|h|h
  ·exact led_iff.1 h3 y h hye
  ·exact hyne h
  ·exact led_iff.1 hl e h hye.symm
theorem R_stab_ex {l:List Md} (hl:l≠ []): ∃d,d≠0∧d≤l.length∧SameOrd l.length (R l (d+1)) (R l d):=by
 have hpos:0<l.length:=List.length_pos_iff.2 hl
 have key: ∀d,(∃d',d'≠0∧d'≤d∧SameOrd l.length (R l (d'+1)) (R l d'))∨d+1≤(List.range l.length).countP (led (R l (d+1))):=by
  intro d
  induction d with
  |zero=>
   right
   have:0<(List.range l.length).countP (led (R l (0+1))):=List.countP_pos_iff.2 ⟨0,List.mem_range.2 hpos,by simp[led]⟩
   omega
  |succ d ih=>
   rcases ih with ⟨d',h1,h2,h3⟩|ih
   ·exact .inl ⟨d',h1,by omega,h3⟩
   ·by_cases hs:SameOrd l.length (R l (d+1+1)) (R l (d+1))
    ·exact .inl ⟨d+1,by omega,Nat.le_refl _,hs⟩
    ·have:=lead_grow hs;right;omega
 rcases key l.length with h|h
 ·exact h
 ·have:(List.range l.length).countP (led (R l (l.length+1)))≤(List.range l.length).length:=List.countP_le_length
  simp at this
  omega
theorem RR_stable {l:List Md} (hg:goodT l):SameOrd l.length (R l (l.length+2)) (RR l):=by
 by_cases hl:l= []
 ·subst hl;intro a b ha;cases ha
 ·obtain ⟨d,h1,h2,h3⟩:=R_stab_ex hl
  have hst:=R_stable hg h1 h3
  intro a b ha hb
  have e1: ∀x,x<l.length→R l (l.length+2) x=R l d x:=fun x hx=>by have:=hst (l.length+2-d) x hx;rwa[show d+(l.length+2-d)=l.length+2 by omega] at this
  have e2: ∀x,x<l.length→RR l x=R l d x:=fun x hx=>by have:=hst (l.length+1-d) x hx;rwa[show d+(l.length+1-d)=l.length+1 by omega] at this
  rw[e1 a ha,e1 b hb,e2 a ha,e2 b hb]
theorem lexC_zero: ∀{xs ys:List Int},lexC cmpI xs ys=0→xs=ys
 | [],[],_=>rfl
 | [],_::_,h=>by simp[lexC] at h
 |_::_,[],h=>by simp[lexC] at h
 |x::xs,y::ys,h=>by
  simp only[lexC] at h
  split at h
  ·rename_i h1;exact absurd h h1
  ·rename_i h1
   have h1:cmpI x y=0:=by simpa using h1
   rw[cmpI_zero.1 h1,lexC_zero h]
theorem RR_key {l:List Md} (hg:goodT l) {a b:Nat} (ha:a<l.length) (hb:b<l.length) (h:RR l a=RR l b):keyOf l (RR l) a=keyOf l (RR l) b:=by
 have h2:R l (l.length+1+1) a=R l (l.length+1+1) b:=((RR_stable hg).eq ha hb).2 h
 have h3:=R_eq_cmp ha hb h2
 unfold cmpR thenC at h3
 have h0:cmpI (R l (l.length+1) a:Nat) (R l (l.length+1) b:Nat)=0:=cmpI_zero.2 (by have:R l (l.length+1) a=R l (l.length+1) b:=h;rw[this])
 simp[h0] at h3
 exact lexC_zero h3
end Go.Proofs.YtlniliigcnedmaaGreatDoor
namespace Go.Proofs.YtlniliigcnedmaaGreatDoor
open Go Ax
def digB:Nat→Nat→List UInt8
 |0,_=> []
 |f+1,n=>if n<10 then [(48+n).toUInt8] else digB f (n / 10)++ [(48+n%10).toUInt8]
def sizeT (x:Md):List UInt8:=if x.size=1 then [76,79,78,71,32] else if x.size= -1 then [83,72,79,82,84,32] else []
def kindT (k:Int):List UInt8:=
 if k=0 then [86,79,73,68] else if k=1 then [66,79,79,76] else if k=2 then [67,72,65,82] else if k=3 then [73,78,84] else if k=4 then [82,69,65,76]
 else if k=5 then [66,73,84,83] else if k=6 then [70,73,76,69] else if k=7 then [83,69,77,65] else [70,79,82,77,65,84]
def plainT (x:Md):List UInt8:=sizeT x++kindT x.kind
noncomputable def numOf (l:List Md) (s:List Nat) (m:Nat):Option Nat:=s.findIdx? fun z=>RR l z==RR l m
def txL (g:List Nat→Nat→List UInt8×List Nat):Bool→List Nat→List (Nat×List UInt8)→List UInt8×List Nat
 |_,s,[]=>([],s)
 |f,s,(z,nm)::zs=>((if f then [] else [44,32])++((g s z).1++(nm++(txL g false (g s z).2 zs).1)),(txL g false (g s z).2 zs).2)
def bare (zs:List Nat):List (Nat×List UInt8):=zs.map fun z=>(z,[])
def named (zs:List Nat) (ns:List ByteArray):List (Nat×List UInt8):=zs.zipWith (fun z (n:ByteArray)=>(z,32::n.data.toList)) ns
def eN (x:Md):List Nat:=x.elems.map Int.toNat
noncomputable def bodyT (l:List Md) (g:List Nat→Nat→List UInt8×List Nat) (s:List Nat) (m:Nat):List UInt8×List Nat:=
 if (mdAt l m).kind=9 then ([82,69,70,32]++(g s ((eN (mdAt l m)).getD 0 0)).1,(g s ((eN (mdAt l m)).getD 0 0)).2)
 else if (mdAt l m).kind=10 then ((if (mdAt l m).flex then [70,76,69,88,32] else [])++([91]++(List.replicate ((mdAt l m).dims-1).toNat 44++([93]++(g s ((eN (mdAt l m)).getD 0 0)).1))),(g s ((eN (mdAt l m)).getD 0 0)).2)
 else if (mdAt l m).kind=11 then ([83,84,82,85,67,84,40]++((txL g true s (named (eN (mdAt l m)) (mdAt l m).names)).1++ [41]),(txL g true s (named (eN (mdAt l m)) (mdAt l m).names)).2)
 else if (mdAt l m).kind=12 then ([85,78,73,79,78,40]++((txL g true s (bare (basesOf l m))).1++ [41]),(txL g true s (bare (basesOf l m))).2)
 else if 1<(mdAt l m).elems.length then
  ([80,82,79,67,40]++((txL g true s (bare ((eN (mdAt l m)).take ((mdAt l m).elems.length-1)))).1++([41,32]++(g (txL g true s (bare ((eN (mdAt l m)).take ((mdAt l m).elems.length-1)))).2 ((eN (mdAt l m)).getD ((mdAt l m).elems.length-1) 0)).1)),
   (g (txL g true s (bare ((eN (mdAt l m)).take ((mdAt l m).elems.length-1)))).2 ((eN (mdAt l m)).getD ((mdAt l m).elems.length-1) 0)).2)
 else ([80,82,79,67,32]++(g s ((eN (mdAt l m)).getD 0 0)).1,(g s ((eN (mdAt l m)).getD 0 0)).2)
noncomputable def txM (l:List Md):Nat→List Nat→Nat→List UInt8×List Nat
 |0,s,_=>([],s)
 |f+1,s,m=>if (mdAt l m).kind<9 then (plainT (mdAt l m),s) else
  match numOf l s m with
  |some n=>(35::digB 20 n,s)
  |none=>bodyT l (txM l f) (s++ [m]) m
structure Seen (l:List Md) (s:List Nat):Prop where
 lt: ∀z∈s,z<l.length
 ne:s.Pairwise fun a b=>RR l a≠RR l b
theorem Seen.nil {l:List Md}:Seen l []:=⟨by simp,.nil⟩
theorem Seen.len {l:List Md} {s:List Nat} (h:Seen l s):s.length≤l.length:=nodup_le _ _ (h.ne.imp fun hn e=>hn (congrArg _ e)) h.lt
theorem numOf_none {l:List Md} {s:List Nat} {m:Nat}:numOf l s m=none↔ ∀z∈s,RR l z≠RR l m:=by
 unfold numOf
 rw[List.findIdx?_eq_none_iff]
 simp
theorem Seen.add {l:List Md} {s:List Nat} {m:Nat} (h:Seen l s) (hm:m<l.length) (hn:numOf l s m=none):Seen l (s++ [m]):=by
 refine ⟨fun z hz=>?_,?_⟩
 ·rcases List.mem_append.1 hz with h1|h1
  ·exact h.lt z h1
  ·rw[List.mem_singleton.1 h1];exact hm
 ·rw[List.pairwise_append]
  exact ⟨h.ne,by simp,fun a ha b hb=>by rw[List.mem_singleton.1 hb];exact numOf_none.1 hn a ha⟩
theorem numOf_lt {l:List Md} {s:List Nat} {m n:Nat} (h:numOf l s m=some n):n<s.length:=by
 unfold numOf at h
 rw[List.findIdx?_eq_some_iff_findIdx_eq] at h
 exact h.1
structure TxT (l:List Md):Prop where
 good:goodT l
 len:l.length≤60
 els: ∀x∈l,x.elems.length≤64
 nms: ∀x∈l,∀n∈x.names,n.size≤40
 dims: ∀x∈l,x.dims≤3
structure Grow (l:List Md) (B:Nat) (s:List Nat) (r:List UInt8×List Nat):Prop where
 seen:Seen l r.2
 pre:s<+:r.2
 len:r.1.length+8000*s.length≤B+8000*r.2.length
theorem digB_len: ∀(f n:Nat),(digB f n).length≤f
 |0,_=>by simp[digB]
 |f+1,n=>by
  unfold digB
  split
  ·simp
  ·have:=digB_len f (n / 10)
   simp;omega
theorem plainT_len (x:Md):(plainT x).length≤12:=by
 unfold plainT sizeT kindT
 rw[List.length_append]
 repeat' split
 all_goals decide
theorem txL_grow {l:List Md} {g:List Nat→Nat→List UInt8×List Nat} (hg: ∀s z,Seen l s→z<l.length→Grow l 21 s (g s z)): ∀(zs:List (Nat×List UInt8)) (f:Bool) (s:List Nat),Seen l s→(∀p∈zs,p.1<l.length∧p.2.length≤41)→Grow l (64*zs.length) s (txL g f s zs)
 | [],f,s,h,_=>⟨h,List.prefix_refl _,by simp[txL]⟩
 |(z,nm)::zs,f,s,h,hz=>by
  have h1:=hg s z h (hz _ (List.mem_cons_self ..)).1
  have h2:=(hz _ (List.mem_cons_self ..)).2
  have h3:=txL_grow hg zs false _ h1.seen fun p hp=>hz p (List.mem_cons_of_mem _ hp)
  refine ⟨h3.seen,h1.pre.trans h3.pre,?_⟩
  have e1:=h1.len
  have e3:=h3.len
  have e4:(if f then [] else [44,32]:List UInt8).length≤2:=by cases f<;>simp
  simp only[txL,List.length_append,List.length_cons] at*
  omega
theorem named_mem {zs:List Nat} {ns:List ByteArray} {p:Nat×List UInt8} (h:p∈named zs ns):p.1∈zs∧ ∃n∈ns,p.2=32::n.data.toList:=by
 unfold named at h
 rw[List.mem_iff_getElem?] at h
 obtain ⟨i,hi⟩:=h
 rw[List.getElem?_zipWith] at hi
 cases h1:zs[i]? with
 |none=>rw[h1] at hi;simp at hi
 |some z=>cases h2:ns[i]? with
  |none=>rw[h1,h2] at hi;simp at hi
  |some n=>
   rw[h1,h2] at hi
   simp only[Option.some.injEq] at hi
   subst hi
   exact ⟨List.mem_of_getElem? h1,n,List.mem_of_getElem? h2,rfl⟩
theorem mdAt_mem {l:List Md} {m:Nat} (h:m<l.length):mdAt l m∈l:=by rw[mdAt_eq h];exact List.getElem_mem h
theorem eN_lt {l:List Md} (hg:goodT l) {m:Nat} (h:m<l.length) {z:Nat} (hz:z∈eN (mdAt l m)):z<l.length:=by
 obtain ⟨e,he,rfl⟩:=List.mem_map.1 hz
 have:=hg _ (mdAt_mem h) e he
 omega
theorem eN_len (x:Md):(eN x).length=x.elems.length:=by simp[eN]
theorem eN_getD {l:List Md} (hg:goodT l) {m k:Nat} (h:m<l.length) (hk:k<(mdAt l m).elems.length):(eN (mdAt l m)).getD k 0<l.length:=by
 have hk':k<(eN (mdAt l m)).length:=by rw[eN_len];exact hk
 rw[List.getD_eq_getElem?_getD,List.getElem?_eq_getElem hk',Option.getD_some]
 exact eN_lt hg h (List.getElem_mem hk')
theorem mem_take {α:Type} {x:α} {n:Nat} {xs:List α} (h:x∈xs.take n):x∈xs:=(List.take_sublist _ _).subset h
theorem bare_ok {l:List Md} {zs:List Nat} (h: ∀z∈zs,z<l.length): ∀p∈bare zs,p.1<l.length∧p.2.length≤41:=by
 intro p hp
 obtain ⟨z,hz,rfl⟩:=List.mem_map.1 hp
 exact ⟨h z hz,by simp⟩
theorem bases_lt {l:List Md} (hg:goodT l) {m:Nat} (h:m<l.length): ∀z∈basesOf l m,z<l.length:=(basesEx hg h).lt hg h
theorem bodyT_grow {l:List Md} (ht:TxT l) {g:List Nat→Nat→List UInt8×List Nat} (hg: ∀s z,Seen l s→z<l.length→Grow l 21 s (g s z)) {s:List Nat} {m:Nat} (hs:Seen l s) (hm:m<l.length) (h1:9≤(mdAt l m).kind) (he:(mdAt l m).kind≠12→0<(mdAt l m).elems.length):
  Grow l 7000 s (bodyT l g s m):=by
 have hmm:=mdAt_mem hm
 have hel:=ht.els _ hmm
 have hd:=ht.dims _ hmm
 have one:(mdAt l m).kind≠12→Grow l 21 s (g s ((eN (mdAt l m)).getD 0 0)):=fun h=>hg _ _ hs (eN_getD ht.good hm (he h))
 unfold bodyT
 split
 ·rename_i h
  have:=one (by omega)
  exact ⟨this.seen,this.pre,by have:=this.len;simp only[List.length_append,List.length_cons,List.length_nil] at*;omega⟩
 split
 ·rename_i h
  have:=one (by omega)
  refine ⟨this.seen,this.pre,?_⟩
  have e1:=this.len
  have e2:(if (mdAt l m).flex then [70,76,69,88,32] else []:List UInt8).length≤5:=by split<;>simp
  simp only[List.length_append,List.length_cons,List.length_nil,List.length_replicate] at*
  omega
 split
 ·have:=txL_grow hg (named (eN (mdAt l m)) (mdAt l m).names) true s hs fun p hp=>by
   obtain ⟨h1,n,h2,h3⟩:=named_mem hp
   exact ⟨eN_lt ht.good hm h1,by rw[h3];have:=ht.nms _ hmm n h2;simp only[List.length_cons,Array.length_toList];show n.size+1≤41;omega⟩
  refine ⟨this.seen,this.pre,?_⟩
  have e1:=this.len
  have e2:(named (eN (mdAt l m)) (mdAt l m).names).length≤64:=by simp only[named,List.length_zipWith,eN_len];omega
  simp only[List.length_append,List.length_cons,List.length_nil] at*
  omega
 split
 ·have:=txL_grow hg (bare (basesOf l m)) true s hs (bare_ok (bases_lt ht.good hm))
  refine ⟨this.seen,this.pre,?_⟩
  have e1:=this.len
  have e2:(bare (basesOf l m)).length≤60:=by
   have:=(basesEx ht.good hm).length ht.good hm
   have:=ht.len
   simp only[bare,List.length_map];omega
  simp only[List.length_append,List.length_cons,List.length_nil] at*
  omega
 split
 ·have h2:=txL_grow hg (bare ((eN (mdAt l m)).take ((mdAt l m).elems.length-1))) true s hs (bare_ok fun z hz=>eN_lt ht.good hm (mem_take hz))
  have h3:=hg _ ((eN (mdAt l m)).getD ((mdAt l m).elems.length-1) 0) h2.seen (eN_getD ht.good hm (by omega))
  refine ⟨h3.seen,h2.pre.trans h3.pre,?_⟩
  have e1:=h2.len
  have e3:=h3.len
  have e2:(bare ((eN (mdAt l m)).take ((mdAt l m).elems.length-1))).length≤64:=by simp only[bare,List.length_map,List.length_take,eN_len];omega
  simp only[List.length_append,List.length_cons,List.length_nil] at*
  omega
 ·have:=one (by assumption)
  exact ⟨this.seen,this.pre,by have:=this.len;simp only[List.length_append,List.length_cons,List.length_nil] at*;omega⟩
def Full (l:List Md):Prop:= ∀x∈l,9≤x.kind→0<x.elems.length
theorem txM_grow {l:List Md} (ht:TxT l) (hf:Full l): ∀(f:Nat) (s:List Nat) (m:Nat),Seen l s→m<l.length→Grow l 21 s (txM l f s m)
 |0,s,m,hs,_=>⟨hs,List.prefix_refl _,by simp[txM]⟩
 |f+1,s,m,hs,hm=>by
  unfold txM
  split
  ·exact ⟨hs,List.prefix_refl _,by have:=plainT_len (mdAt l m);show (plainT (mdAt l m)).length+8000*s.length≤21+8000*s.length;omega⟩
  ·rename_i h9
   cases hn:numOf l s m with
   |some n=>exact ⟨hs,List.prefix_refl _,by have:=digB_len 20 n;show (35::digB 20 n).length+8000*s.length≤21+8000*s.length;simp only[List.length_cons];omega⟩
   |none=>
    have:=bodyT_grow ht (txM_grow ht hf f) (hs.add hm hn) hm (by omega) (fun _=>hf _ (mdAt_mem hm) (by omega))
    refine ⟨this.seen,(List.prefix_append _ _).trans this.pre,?_⟩
    have e1:=this.len
    simp only[List.length_append,List.length_cons,List.length_nil] at*
    omega
noncomputable def textT (l:List Md) (m:Nat):List UInt8:=(txM l (l.length+1) [] m).1
end Go.Proofs.YtlniliigcnedmaaGreatDoor
namespace Go.Proofs
open Go.Shelf
def Tryz.lays105_ren:Go.Shelf.Ren:=⟨fun|105=>69|212=>111|99=>112|165=>110|166=>88|170=>113|169=>46|263=>142|264=>143|206=>144|240=>120|241=>141|276=>166|277=>180|n=>n,fun|9=>9|3=>3|4=>4|20=>20|0=>0|46=>128|109=>129|5=>5|72=>69|76=>108|51=>146|146=>147|53=>149|148=>150|70=>66|37=>67|75=>107|127=>113|164=>167|80=>73|n=>n,fun|n=>n⟩
theorem Tryz.lays105:Go.Proofs.Lays.n105 Tryz.prog Tryz.lays105_ren:={
 mixed:=by kernel_rfl
 f99:=Tryz.func112.trans (congrArg some (by kernel_rfl))
 f105:=Tryz.func69.trans (congrArg some (by kernel_rfl))
 f165:=Tryz.func110.trans (congrArg some (by kernel_rfl))
 f166:=Tryz.func88.trans (congrArg some (by kernel_rfl))
 f169:=Tryz.func46.trans (congrArg some (by kernel_rfl))
 f170:=Tryz.func113.trans (congrArg some (by kernel_rfl))
 f206:=Tryz.func144.trans (congrArg some (by kernel_rfl))
 f212:=Tryz.func111.trans (congrArg some (by kernel_rfl))
 f240:=Tryz.func120.trans (congrArg some (by kernel_rfl))
 f241:=Tryz.func141.trans (congrArg some (by kernel_rfl))
 f263:=Tryz.func142.trans (congrArg some (by kernel_rfl))
 f264:=Tryz.func143.trans (congrArg some (by kernel_rfl))
 f276:=Tryz.func166.trans (congrArg some (by kernel_rfl))
 f277:=Tryz.func180.trans (congrArg some (by kernel_rfl))
 t0:=Tryz.underlying0
 a0:=Tryz.isAgg0
 z0:=Tryz.sizeOf0
 v0:=Tryz.zeroValue0
 t3:=Tryz.underlying3
 a3:=Tryz.isAgg3
 z3:=Tryz.sizeOf3
 v3:=Tryz.zeroValue3
 t4:=Tryz.underlying4
 a4:=Tryz.isAgg4
 z4:=Tryz.sizeOf4
 v4:=Tryz.zeroValue4
 t5:=Tryz.underlying5
 a5:=Tryz.isAgg5
 z5:=Tryz.sizeOf5
 v5:=Tryz.zeroValue5
 t9:=Tryz.underlying9
 a9:=Tryz.isAgg9
 z9:=Tryz.sizeOf9
 v9:=Tryz.zeroValue9
 t20:=Tryz.underlying20
 a20:=Tryz.isAgg20
 z20:=Tryz.sizeOf20
 v20:=Tryz.zeroValue20
 t37:=Tryz.underlying67
 a37:=Tryz.isAgg67
 z37:=Tryz.sizeOf67
 v37:=Tryz.zeroValue67
 t46:=Tryz.underlying128
 a46:=Tryz.isAgg128
 z46:=Tryz.sizeOf128
 v46:=Tryz.zeroValue128
 t51:=Tryz.underlying146
 a51:=Tryz.isAgg146
 z51:=Tryz.sizeOf146
 v51:=Tryz.zeroValue146
 t53:=Tryz.underlying149
 a53:=Tryz.isAgg149
 z53:=Tryz.sizeOf149
 v53:=Tryz.zeroValue149
 t70:=Tryz.underlying66
 a70:=Tryz.isAgg66
 z70:=Tryz.sizeOf66
 v70:=Tryz.zeroValue66
 t72:=Tryz.underlying69
 a72:=Tryz.isAgg69
 z72:=Tryz.sizeOf69
 v72:=Tryz.zeroValue69
 t75:=Tryz.underlying107
 a75:=Tryz.isAgg107
 z75:=Tryz.sizeOf107
 v75:=Tryz.zeroValue107
 t76:=Tryz.underlying108
 a76:=Tryz.isAgg108
 z76:=Tryz.sizeOf108
 v76:=Tryz.zeroValue108
 t109:=Tryz.underlying129
 a109:=Tryz.isAgg129
 z109:=Tryz.sizeOf129
 v109:=Tryz.zeroValue129
 t127:=Tryz.underlying113
 a127:=Tryz.isAgg113
 z127:=Tryz.sizeOf113
 v127:=Tryz.zeroValue113
 t146:=Tryz.underlying147
 a146:=Tryz.isAgg147
 z146:=Tryz.sizeOf147
 v146:=Tryz.zeroValue147
 t148:=Tryz.underlying150
 a148:=Tryz.isAgg150
 z148:=Tryz.sizeOf150
 v148:=Tryz.zeroValue150
 t164:=Tryz.underlying167
 a164:=Tryz.isAgg167
 z164:=Tryz.sizeOf167
 v164:=Tryz.zeroValue167}
theorem Tryz.Builder_Extra_105:Builder.Extra Tryz.prog Tryz.lays105_ren:={
 sizeBuilder:=by kernel_rfl
 liesBuilder:=by kernel_rfl
 t5:=Tryz.underlying5
 a5:=Tryz.isAgg5
 z5:=Tryz.sizeOf5
 v5:=Tryz.zeroValue5
 infoByte:=by kernel_rfl
 cellsByte:=by kernel_rfl
 sizeByte:=by kernel_rfl
 neB5:=by decide}
open Go.RowKit Go.Lib in
theorem Tryz.strings_Repeat (s:ByteArray) (c:Nat) (w:World) (hc:c≤9223372036854775807) (hlen:s.size*c≤140737488355328):
  Calls Tryz.prog 69 #[.string s,.int .i64 c] w fun e w'=>e= .returned (.string ⟨(Lib.repeatL s.data.toList c).toArray⟩)∧Below w.heap.size w w':=Any.strings_Repeat Tryz.lays105 Tryz.Builder_Extra_105 s c w hc hlen
end Go.Proofs
namespace Go.Proofs.YtlniliigcnedmaaGreatDoor
open Go Ax
set_option maxRecDepth 100000
theorem w167 {args m R} (h:W Tryz.prog (.seq (.reg [⟨some 4,.P (.mov (.c (.str ⟨#[]⟩))),none⟩]) (.kill [0,1] (.seq (.seq (.reg [qv 10 1,qk 11 .eql 10 10]) (.kill [0,1,11] (.cond (.t 11) (.seq (.seq (.reg [qv 12 0,⟨some 13,.P (.bin .leq (qz 0) (.t 12)),none⟩,qv 14 13,⟨some 15,.P (.mov (.t 0)),(some (14,true))⟩,⟨some 16,.P (.bin .lss (.t 15) (qz 100)),(some (14,true))⟩,⟨some 17,.P (.pick (.t 14) (.t 16) (.c (.bool false))),none⟩]) (.kill [0,17] (.cond (.t 17) (.seq (.reg [qv 18 0,qc 19 190 [(.t 18)],qv 4 19]) .ret) .skip))) (.kill [0] (.seq (.reg [⟨some 5,.A (.alloc 187 [(.int .u8 0),(.int .u8 0),(.int .u8 0),(.int .u8 0),(.int .u8 0),(.int .u8 0),(.int .u8 0),(.int .u8 0),(.int .u8 0),(.int .u8 0),(.int .u8 0),(.int .u8 0),(.int .u8 0),(.int .u8 0),(.int .u8 0),(.int .u8 0),(.int .u8 0),(.int .u8 0),(.int .u8 0),(.int .u8 0),(.int .u8 0),(.int .u8 0),(.int .u8 0),(.int .u8 0)]),none⟩]) (.seq (.reg [qv 20 0,⟨some 21,.P (.i2i .u64 (.t 20)),none⟩,qv 6 21]) (.kill [0,5,6] (.seq (.seq (.reg [qv 22 0,qk 23 .lss 22 0]) (.kill [0,5,6,23] (.cond (.t 23) (.reg [qv 24 6,⟨some 25,.P (.un .neg (.t 24)),none⟩,qv 6 25]) .skip))) (.kill [0,5,6] (.seq (.reg [qv 26 6,qc 27 191 [(.t 26)],qv 7 27]) (.kill [0,5,6,7] (.seq (.reg [qv 28 7,⟨some 29,.P (.bin .add (qz 1) (.t 28)),none⟩,⟨some 30,.P (.sliceA 24 1 (.t 5) (some (qz 1)) (some (.t 29))),none⟩,qv 31 6,qc 32 192 [(.t 30),(.t 31)]]) (.kill [0,5,7] (.seq (.seq (.reg [qv 33 0,qk 34 .lss 33 0]) (.kill [5,7,34] (.cond (.t 34) (.seq (.reg [⟨some 35,.P (.iaddrA 24 1 (.t 5) (qz 0)),none⟩,⟨none,.W (.store 1 (.t 35) (.c (.int .u8 45))),none⟩]) (.kill [5,7] (.seq (.reg [qv 36 7,⟨some 37,.P (.bin .add (qz 1) (.t 36)),none⟩,⟨some 38,.P (.sliceA 24 1 (.t 5) none (some (.t 37))),none⟩,⟨some 39,.R (.rk .b2s (.t 38)),none⟩,qv 4 39]) .ret))) .skip))) (.kill [5,7] (.seq (.reg [qv 40 7,⟨some 41,.P (.bin .add (qz 1) (.t 40)),none⟩,⟨some 42,.P (.sliceA 24 1 (.t 5) (some (qz 1)) (some (.t 41))),none⟩,⟨some 43,.R (.rk .b2s (.t 42)),none⟩,qv 4 43]) .ret)))))))))))))) .skip))) (.kill [0,1] (.seq (.reg [qv 45 0,⟨some 46,.P (.i2i .u64 (.t 45)),none⟩,qv 47 1,qv 48 0,qk 49 .lss 48 0,qc 50 193 [(.c .nilslice),(.t 46),(.t 47),(.t 49),(.c (.bool false))],qv 44 50,qx 51 44 0,qx 52 44 1,qv 8 51,qv 9 52]) (.kill [9] (.seq (.reg [qv 53 9,qv 4 53]) .ret))))))) (E [(.tmp 4)] R .mk) .mk (mat 54 (sArgs 0 args)) m) (hl:Nat.ble args.length 54=true:=by rfl):ACalls Tryz.prog 167 args m R:=walk mix (by kernel_rfl) (Nat.le_of_ble_eq_true hl) h
theorem w190 {args m R} (h:W Tryz.prog (.seq (.reg [⟨some 2,.P (.mov (.c (.str ⟨#[]⟩))),none⟩]) (.kill [0] (.seq (.seq (.reg [qv 3 0,qk 4 .lss 3 10]) (.kill [0,4] (.cond (.t 4) (.seq (.reg [qv 5 0,qv 6 0,qk 7 .add 6 1,⟨some 8,.P (.sliceS (.c (.str ⟨#[48,49,50,51,52,53,54,55,56,57,97,98,99,100,101,102,103,104,105,106,107,108,109,110,111,112,113,114,115,116,117,118,119,120,121,122]⟩)) (some (.t 5)) (some (.t 7))),none⟩,qv 2 8]) .ret) .skip))) (.kill [0] (.seq (.reg [qv 9 0,qk 10 .mul 9 2,qv 11 0,qk 12 .mul 11 2,qk 13 .add 12 2,⟨some 14,.P (.sliceS (.c (.str ⟨#[48,48,48,49,48,50,48,51,48,52,48,53,48,54,48,55,48,56,48,57,49,48,49,49,49,50,49,51,49,52,49,53,49,54,49,55,49,56,49,57,50,48,50,49,50,50,50,51,50,52,50,53,50,54,50,55,50,56,50,57,51,48,51,49,51,50,51,51,51,52,51,53,51,54,51,55,51,56,51,57,52,48,52,49,52,50,52,51,52,52,52,53,52,54,52,55,52,56,52,57,53,48,53,49,53,50,53,51,53,52,53,53,53,54,53,55,53,56,53,57,54,48,54,49,54,50,54,51,54,52,54,53,54,54,54,55,54,56,54,57,55,48,55,49,55,50,55,51,55,52,55,53,55,54,55,55,55,56,55,57,56,48,56,49,56,50,56,51,56,52,56,53,56,54,56,55,56,56,56,57,57,48,57,49,57,50,57,51,57,52,57,53,57,54,57,55,57,56,57,57]⟩)) (some (.t 10)) (some (.t 13))),none⟩,qv 2 14]) .ret))))) (E [(.tmp 2)] R .mk) .mk (mat 15 (sArgs 0 args)) m) (hl:Nat.ble args.length 15=true:=by rfl):ACalls Tryz.prog 190 args m R:=walk mix (by kernel_rfl) (Nat.le_of_ble_eq_true hl) h
end Go.Proofs.YtlniliigcnedmaaGreatDoor
namespace Go.Proofs.YtlniliigcnedmaaGreatDoor
open Go Ax Go.RowKit
set_option maxRecDepth 100000
theorem Ax.Sim.below {ρ:List RB} {m:AMem} {w w':World} (h:Sim ρ m w) (hb:Below w.heap.size w w'):Sim ρ m w'∧Evol ρ m w ρ m w':=
 ⟨⟨h.len,fun b blk a h1 h2=>(h.ok b blk a h1 h2).heapA (hb.block _ (h.bound b a h2)),h.sep,fun b a ha=>Nat.lt_of_lt_of_le (h.bound b a ha) hb.size⟩,⟨List.prefix_refl _,hb.os,hb.tape,hb.output,hb.size,fun r hr _=>hb.block r hr,fun r hr=> .inr hr⟩⟩
theorem Ax.ACalls.of_below {P:Program} {f:FuncId} {args:List AVal} {m:AMem} {x:AVal} (hc:Callable P f) {v:Value} (hx:VR [] x v) (h: ∀(w:World) (args':Array Value) (ρ:List RB),VRs ρ args args'.toList→Calls P f args' w fun e w'=>e= .returned v∧Below w.heap.size w w'):ACalls P f args m fun y m'=>y=x∧m'=m:=
 ⟨hc,fun ρ w args' hs _ hv=>(h w args' ρ hv).mono fun _ _ ⟨he,hb⟩=>⟨v,x,m,ρ,he,⟨rfl,rfl⟩,VR.mono List.nil_prefix x v hx,hs.below hb⟩⟩
theorem repeatL_one: ∀c:Nat,Lib.repeatL [44] c=List.replicate c 44
 |0=>rfl
 |c+1=>by rw[Lib.repeatL,repeatL_one c];rfl
theorem k69 (c:Nat) (hc:c≤1000) (m:AMem):ACalls Tryz.prog 69 [.str ⟨#[44]⟩,.int .i64 c] m fun v m'=>v= .str ⟨(List.replicate c 44).toArray⟩∧m'=m:=by
 refine ACalls.of_below (v:= .string ⟨(List.replicate c 44).toArray⟩) ⟨_,Tryz.func69,by kernel_rfl,by kernel_rfl⟩ (by simp[VR]) fun w args' ρ hv=>?_
 simp only[VRs,VR] at hv
 obtain ⟨_,_,e1,rfl,_,_,rfl,rfl,rfl⟩:=hv
 obtain rfl:args'= #[.string ⟨#[44]⟩,.int .i64 c]:=by rw[←Array.toList_inj];simpa using e1
 have h:= Tryz.strings_Repeat ⟨#[44]⟩ c w (by omega) (by show 1*c≤_;omega)
 rw[show (⟨#[44]⟩:ByteArray).data.toList= [44] from rfl,repeatL_one] at h
 exact h
theorem small_lo: ∀n<10,(⟨#[48,49,50,51,52,53,54,55,56,57,97,98,99,100,101,102,103,104,105,106,107,108,109,110,111,112,113,114,115,116,117,118,119,120,121,122]⟩:ByteArray).extract n (n+1)=⟨(digB 20 n).toArray⟩:=by decide
theorem small_hi: ∀n<100,10≤n→(⟨#[48,48,48,49,48,50,48,51,48,52,48,53,48,54,48,55,48,56,48,57,49,48,49,49,49,50,49,51,49,52,49,53,49,54,49,55,49,56,49,57,50,48,50,49,50,50,50,51,50,52,50,53,50,54,50,55,50,56,50,57,51,48,51,49,51,50,51,51,51,52,51,53,51,54,51,55,51,56,51,57,52,48,52,49,52,50,52,51,52,52,52,53,52,54,52,55,52,56,52,57,53,48,53,49,53,50,53,51,53,52,53,53,53,54,53,55,53,56,53,57,54,48,54,49,54,50,54,51,54,52,54,53,54,54,54,55,54,56,54,57,55,48,55,49,55,50,55,51,55,52,55,53,55,54,55,55,55,56,55,57,56,48,56,49,56,50,56,51,56,52,56,53,56,54,56,55,56,56,56,57,57,48,57,49,57,50,57,51,57,52,57,53,57,54,57,55,57,56,57,57]⟩:ByteArray).extract (2*n) (2*n+2)=⟨(digB 20 n).toArray⟩:=by decide
theorem sliceS_ev {a:AFrame} {x lo hi:Arg} {s:ByteArray} {l h:Nat} (hx:a.ev x= .str s) (hl:a.ev lo= .int .i64 (l:Nat)) (hh:a.ev hi= .int .i64 (h:Nat)) (h1:l≤h) (h2:h≤s.size):POp.ev a (.sliceS x (some lo) (some hi))=some (.str (s.extract l h)):=by
 simp[POp.ev,bnd,hx,hl,hh,h1,h2]
theorem k190 (n:Nat) (hn:n<100) (m:AMem):ACalls Tryz.prog 190 [.int .i64 n] m fun v m'=>v= .str ⟨(digB 20 n).toArray⟩∧m'=m:=by
 refine w190 ?_
 have hw:IntKind.i64.wrap ((n:Int)+1)=((n+1:Nat):Int):=wrap64 (by omega) (by omega)
 have hw2:IntKind.i64.wrap ((n:Int)*2)=((2*n:Nat):Int):=by rw[wrap64 (by omega) (by omega)];omega
 have hw3:IntKind.i64.wrap (((2*n:Nat):Int)+2)=((2*n+2:Nat):Int):=wrap64 (by omega) (by omega)
 by_cases h:n<10
 ·have h':(n:Int)<10:=by omega
  simp[h',-Int.natCast_add]
  rw[sliceS_ev (l:=n) (h:=n+1) rfl (by simp) (by simp[hw,-Int.natCast_add]) (by omega) (by show n+1≤36;omega),small_lo n h]
  simp
 ·have h': ¬(n:Int)<10:=by omega
  simp[h']
  rw[sliceS_ev (l:=2*n) (h:=2*n+2) rfl (by simp[hw2,-Int.natCast_mul]) (by simp[hw2,hw3,-Int.natCast_mul,-Int.natCast_add]) (by omega) (by show 2*n+2≤200;omega),small_hi n hn (by omega)]
  simp
theorem k89 (n:Nat) (hn:n<100) (m:AMem):ACalls Tryz.prog 89 [.int .i64 n] m fun v m'=>v= .str ⟨(digB 20 n).toArray⟩∧m'=m:=by
 refine w89 ?_
 simp
 refine C_of (R:=fun v m'=>v= .str ⟨(digB 20 n).toArray⟩∧m'=m) ?_ ?_
 ·refine w121 ?_
  simp
  refine C_of (R:=fun v m'=>v= .str ⟨(digB 20 n).toArray⟩∧m'=m) ?_ ?_
  ·refine w167 ?_
   have h1:(n:Int)<100:=by omega
   simp[h1]
   refine C_of (k190 n hn m) ?_
   rintro _ m' ⟨rfl,rfl⟩
   simp
  ·rintro _ m' ⟨rfl,rfl⟩
   simp
 ·rintro _ m' ⟨rfl,rfl⟩
  simp
end Go.Proofs.YtlniliigcnedmaaGreatDoor
namespace Go.Proofs.YtlniliigcnedmaaGreatDoor
open Go Ax
theorem ba_app (a b:List UInt8):(⟨a.toArray⟩:ByteArray)++⟨b.toArray⟩=⟨(a++b).toArray⟩:=by
 apply ByteArray.ext
 simp
theorem ba_size (a:List UInt8):(⟨a.toArray⟩:ByteArray).size=a.length:=by simp[ByteArray.size]
theorem ba_eta (s:ByteArray):(⟨s.data.toList.toArray⟩:ByteArray)=s:=by cases s;simp
def numE (ds s:List Nat):List (Int×AVal):=s.zipIdx.map fun p=>(((ds.getD p.1 0:Nat):Int),natI p.2)
def SameEq (l:List Md) (ds:List Nat):Prop:= ∀a b,a<l.length→b<l.length→(ds.getD a 0=ds.getD b 0↔RR l a=RR l b)
theorem find_aux {l:List Md} {ds:List Nat} (h:SameEq l ds) {m:Nat} (hm:m<l.length): ∀(s:List Nat) (k:Nat),(∀z∈s,z<l.length)→
  findE ((s.zipIdx k).map fun p=>(((ds.getD p.1 0:Nat):Int),natI p.2)) ((ds.getD m 0:Nat):Int)=(s.findIdx? fun z=>RR l z==RR l m).map fun i=>natI (i+k)
 | [],k,_=>rfl
 |z::s,k,hs=>by
  have hz:=h z m (hs z (List.mem_cons_self ..)) hm
  have ih:=find_aux h hm s (k+1) fun y hy=>hs y (List.mem_cons_of_mem _ hy)
  simp only[List.zipIdx_cons,List.map_cons,findE,List.findIdx?_cons]
  by_cases he:RR l z=RR l m
  ·rw[if_pos (by rw[hz.2 he]),if_pos (by simpa using he)]
   simp
  ·rw[if_neg (fun e=>he (hz.1 (by omega))),if_neg (by simpa using he),ih,Option.map_map]
   congr 1
   funext i
   simp only[Function.comp]
   rw[show i+(k+1)=i+1+k by omega]
theorem find_num {l:List Md} {ds s:List Nat} (h:SameEq l ds) (hs:Seen l s) {m:Nat} (hm:m<l.length):findE (numE ds s) ((ds.getD m 0:Nat):Int)=(numOf l s m).map natI:=by
 have:=find_aux h hm s 0 hs.lt
 simpa[numE,numOf] using this
theorem set_none: ∀(es:List (Int×AVal)) (k:Int) (v:AVal),findE es k=none→setE es k v=es++ [(k,v)]
 | [],_,_,_=>rfl
 |(k',x)::es,k,v,h=>by
  simp only[findE] at h
  split at h
  ·cases h
  ·rename_i hk
   simp only[setE,if_neg hk,set_none es k v h,List.cons_append]
theorem numE_add (ds s:List Nat) (m:Nat):numE ds (s++ [m])=numE ds s++ [(((ds.getD m 0:Nat):Int),natI s.length)]:=by
 simp[numE,List.zipIdx_append]
theorem numE_len (ds s:List Nat):(numE ds s).length=s.length:=by simp[numE]
theorem DenseOf.sameEq {l:List Md} {ds:List Nat} {k:Nat} (h:SameOrd l.length (fun a=>ds.getD a 0) (RR l)):SameEq l ds:=fun a b ha hb=>by
 have h1:=h a b ha hb
 have h2:=h b a hb ha
 simp only at h1 h2
 omega
end Go.Proofs.YtlniliigcnedmaaGreatDoor
namespace Go.Proofs.YtlniliigcnedmaaGreatDoor
open Go Ax
set_option maxRecDepth 100000
structure WS (m0:AMem) (b mb:Nat) (sT rk:AVal) (ds:List Nat) (m:AMem) (bf:AVal) (bs:List UInt8) (s:List Nat):Prop where
 blk: ∃ad,m[b]? =some (.own [ad,bf,sT,rk,.map mb] 71 none)∧(ad= .nilptr∨ad= .ptr b 0)
 map:m[mb]? =some (.mp (numE ds s))
 buf:OwL u8A m0.length m 5 bf bs
 pre:m0<+:m
 lo:m0.length≤b∧m0.length≤mb
def WC (b mb:Nat) (bf:AVal) (m:AMem) (bf':AVal) (m':AMem):Prop:=Ch (fun c=>c=b∨c=mb∨bf.blk=some c) m m'∧ ∀c,bf'.blk=some c→bf.blk=some c∨m.length≤c
theorem WC.refl (b mb:Nat) (bf:AVal) (m:AMem):WC b mb bf m bf m:=⟨.refl _ _,fun _ h=> .inl h⟩
theorem WC.trans {b mb:Nat} {bf bf1 bf2:AVal} {m m1 m2:AMem} (h:WC b mb bf m bf1 m1) (k:WC b mb bf1 m1 bf2 m2):WC b mb bf m bf2 m2:=by
 refine ⟨h.1.andThen k.1 fun c hc e=>?_,fun c e=>?_⟩
 ·rcases e with e|e|e
  ·exact .inl e
  ·exact .inr (.inl e)
  ·rcases h.2 c e with e|e
   ·exact .inr (.inr e)
   ·omega
 ·rcases k.2 c e with e|e
  ·exact h.2 c e
  ·exact .inr (by have:=h.1.len;omega)
theorem WC.of_prefix {b mb:Nat} {bf:AVal} {m m':AMem} (h:m<+:m'):WC b mb bf m bf m':=⟨.of_prefix h,fun _ h=> .inl h⟩
theorem WC.of_Wr {b mb:Nat} {bf bf':AVal} {m m':AMem} (h:Wr b bf m bf' m'):WC b mb bf m bf' m':=⟨h.1.weaken fun c _ e=>e.elim .inl fun e=> .inr (.inr e),h.2⟩
section
variable {m0:AMem} {b mb:Nat} {sT rk:AVal} {ds:List Nat} {m m':AMem} {bf bf':AVal} {bs:List UInt8} {s:List Nat}
theorem WS.mono (h:WS m0 b mb sT rk ds m bf bs s) (hm:m<+:m'):WS m0 b mb sT rk ds m' bf bs s:=by
 obtain ⟨ad,h1,h2⟩:=h.blk
 exact ⟨⟨ad,own_mono h1 hm,h2⟩,own_mono h.map hm,h.buf.mono hm,h.pre.trans hm,h.lo⟩
theorem WS.ne (h:WS m0 b mb sT rk ds m bf bs s):b≠mb∧bf.blk≠some b∧bf.blk≠some mb:=by
 obtain ⟨ad,h1,_⟩:=h.blk
 refine ⟨fun e=>?_,fun e=>?_,fun e=>?_⟩
 ·have:=h.map;rw[←e,h1] at this;simp at this
 ·obtain ⟨bl,g,h3⟩:=h.buf.own e;rw[h1] at h3;simp at h3
 ·obtain ⟨bl,g,h3⟩:=h.buf.own e;have:=h.map;rw[h3] at this;simp at this
theorem WS.lt (h:WS m0 b mb sT rk ds m bf bs s):b<m.length∧mb<m.length:=by
 obtain ⟨ad,h1,_⟩:=h.blk
 exact ⟨(List.getElem?_eq_some_iff.1 h1).1,(List.getElem?_eq_some_iff.1 h.map).1⟩
theorem WC.pre0 (hc:WC b mb bf m bf' m') (h:WS m0 b mb sT rk ds m bf bs s):m0<+:m':=hc.1.pre h.pre fun c hc e=>by
 rcases e with e|e|e
 ·have:=h.lo.1;omega
 ·have:=h.lo.2;omega
 ·have:=(h.buf.blk_lo e).1;omega
theorem WS.write (h:WS m0 b mb sT rk ds m bf bs s) (t:List UInt8) (hsz:bs.length+t.length≤1099511627776):
  ACalls Tryz.prog 88 [.ptr b 0,.str ⟨t.toArray⟩] m fun _ m'=> ∃bf',WS m0 b mb sT rk ds m' bf' (bs++t) s∧WC b mb bf m bf' m':=by
 obtain ⟨ad,h1,h2⟩:=h.blk
 refine (k88 b m0.length ad bf sT rk (.map mb) bs ⟨t.toArray⟩ m h1 h2 h.pre.length_le h.buf (by rw[ba_size];omega)).mono ?_
 rintro _ m' ⟨bf',g1,g2,g3⟩
 have hc:WC b mb bf m bf' m':= .of_Wr g3
 have hn:=h.ne
 exact ⟨bf',⟨⟨_,g1,.inr rfl⟩,own_ch h.map g3.1 (fun e=>by rcases e with e|e;exact hn.1 e.symm;exact hn.2.2 e),g2,hc.pre0 h,h.lo⟩,hc⟩
end
end Go.Proofs.YtlniliigcnedmaaGreatDoor
namespace Go.Proofs.YtlniliigcnedmaaGreatDoor
open Go Ax
set_option maxRecDepth 100000
def ModeOK (l:List Md) (m0:AMem) (b mb:Nat) (sT rk:AVal) (ds:List Nat) (f:Nat):Prop:=
 ∀(x:Nat) (m:AMem) (bf:AVal) (bs:List UInt8) (s:List Nat),WS m0 b mb sT rk ds m bf bs s→Seen l s→x<l.length→l.length<f+s.length→bs.length+(txM l f s x).1.length≤1099511627776→
  ACalls Tryz.prog 45 [.ptr b 0,.int .i64 x] m fun _ m'=> ∃bf',WS m0 b mb sT rk ds m' bf' (bs++(txM l f s x).1) (txM l f s x).2∧WC b mb bf m bf' m'
def StI (b mb:Nat) (bf:AVal) (m:AMem) (t:AVal) (zs:List Nat):Prop:= ∀bf' m',WC b mb bf m bf' m'→RInts m' t (zs.map fun z:Nat=>(z:Int))
def StS (b mb:Nat) (bf:AVal) (m:AMem) (t:AVal) (ns:List ByteArray):Prop:= ∀bf' m',WC b mb bf m bf' m'→RStrs m' t ns
theorem txL_seen {l:List Md} {g:List Nat→Nat→List UInt8×List Nat} (hg: ∀s z,Seen l s→z<l.length→Seen l (g s z).2∧s.length≤(g s z).2.length): ∀(zs:List (Nat×List UInt8)) (f:Bool) (s:List Nat),Seen l s→(∀p∈zs,p.1<l.length)→Seen l (txL g f s zs).2∧s.length≤(txL g f s zs).2.length
 | [],_,s,h,_=>⟨h,Nat.le_refl _⟩
 |(z,nm)::zs,f,s,h,hz=>by
  have h1:=hg s z h (hz _ (List.mem_cons_self ..))
  have h2:=txL_seen hg zs false _ h1.1 fun p hp=>hz p (List.mem_cons_of_mem _ hp)
  exact ⟨h2.1,Nat.le_trans h1.2 h2.2⟩
theorem txM_seen {l:List Md} (ht:TxT l) (hf:Full l) (f:Nat) {s:List Nat} {m:Nat} (h:Seen l s) (hm:m<l.length):Seen l (txM l f s m).2∧s.length≤(txM l f s m).2.length:=by
 have:=txM_grow ht hf f s m h hm
 exact ⟨this.seen,this.pre.length_le⟩
def Items (nm:AVal) (b mb:Nat) (bf:AVal) (m:AMem) (zs:List Nat) (items:List (Nat×List UInt8)):Prop:=
 (nm= .nilslice∧items=bare zs)∨(∃ns,isNilOf .slice nm=some false∧StS b mb bf m nm ns∧ns.length=zs.length∧items=named zs ns)
theorem Items.at {nm:AVal} {b mb:Nat} {bf:AVal} {m:AMem} {zs:List Nat} {items:List (Nat×List UInt8)} (h:Items nm b mb bf m zs items) {i:Nat} (hi:i<zs.length): ∃t,items[i]? =some (zs[i],t)∧((nm= .nilslice∧t= [])∨(∃ns,isNilOf .slice nm=some false∧StS b mb bf m nm ns∧ ∃h:i<ns.length,t=32::ns[i].data.toList)):=by
 rcases h with ⟨h1,rfl⟩|⟨ns,h1,h2,h3,rfl⟩
 ·exact ⟨[],by simp[bare,hi],.inl ⟨h1,rfl⟩⟩
 ·exact ⟨_,by simp[named,hi,h3],.inr ⟨ns,h1,h2,by omega,rfl⟩⟩
theorem Items.len {nm:AVal} {b mb:Nat} {bf:AVal} {m:AMem} {zs:List Nat} {items:List (Nat×List UInt8)} (h:Items nm b mb bf m zs items):items.length=zs.length:=by
 rcases h with ⟨h1,rfl⟩|⟨ns,h1,h2,h3,rfl⟩
 ·simp[bare]
 ·simp[named,h3]
theorem str_add (a:List UInt8) (t:ByteArray) (h:a.length+t.size≤9223372036854775807):binStr .add ⟨a.toArray⟩ t=some (.str ⟨(a++t.data.toList).toArray⟩):=by
 have:(⟨a.toArray⟩:ByteArray)++t=⟨(a++t.data.toList).toArray⟩:=by rw[←ba_app,ba_eta]
 simp only[binStr,ba_size,if_pos h,this]
set_option maxHeartbeats 4000000 in
theorem all_ok {l:List Md} (ht:TxT l) (hF:Full l) {m0:AMem} {b mb:Nat} {sT rk:AVal} {ds:List Nat} {f:Nat} (hM:ModeOK l m0 b mb sT rk ds f) {t nm:AVal} {zs:List Nat} {items:List (Nat×List UInt8)} (hz: ∀z∈zs,z<l.length) (hzl:zs.length<2^40)
  {m:AMem} {bf:AVal} {bs:List UInt8} {s:List Nat} (hW:WS m0 b mb sT rk ds m bf bs s) (hS:Seen l s) (hI:StI b mb bf m t zs) (hN:Items nm b mb bf m zs items) (hfu:l.length<f+s.length) (hB:bs.length+(txL (txM l f) true s items).1.length+2≤1099511627776):
  ACalls Tryz.prog 90 [.ptr b 0,t,nm] m fun _ m'=> ∃bf',WS m0 b mb sT rk ds m' bf' (bs++([40]++((txL (txM l f) true s items).1++ [41]))) (txL (txM l f) true s items).2∧WC b mb bf m bf' m':=by
 have hle:(t:AVal)=t:=rfl
 have hlen:=(hI bf m (WC.refl ..)).len
 simp at hlen
 refine w90 ?_
 simp
 refine C_of (hW.write [40] (by simp;omega)) ?_
 rintro _ m1 ⟨bf1,hW1,hC1⟩
 simp[hlen]
 generalize hT:txL (txM l f) true s items=T at*
 obtain ⟨I,hI'⟩: ∃I:Nat→AFrame→AMem→Prop,∀q a m',I q a m'↔(∃(i:Nat) (bf':AVal) (bs':List UInt8) (s':List Nat),i+q=zs.length∧a=h90_0 (.ptr b 0) nm t (.int .i64 zs.length) (.int .i64 i)∧WS m0 b mb sT rk ds m' bf' bs' s'∧Seen l s'∧s.length≤s'.length∧WC b mb bf m bf' m'∧
  bs'++(txL (txM l f) (i==0) s' (items.drop i)).1=bs++([40]++T.1)∧(txL (txM l f) (i==0) s' (items.drop i)).2=T.2):=⟨_,fun _ _ _=>Iff.rfl⟩
 refine W_loop I zs.length ((hI' _ _ _).2 ⟨0,bf1,bs++ [40],s,by simp,by simp,hW1,hS,Nat.le_refl _,hC1,by simp[hT],by simp[hT]⟩) ?_
 rintro q a m2 hIn
 obtain ⟨i,bf2,bs2,s2,hi,rfl,hW2,hS2,hs2,hC2,e1,e2⟩:=(hI' _ _ _).1 hIn
 clear hIn
 simp
 refine bbind_dec (fun hil=>?_) fun hil=>?_
 ·have hil:i<zs.length:=by omega
  have hw:=step64 (k:=i) (n:=zs.length) hil (by omega)
  obtain ⟨q,rfl⟩: ∃q',q=q'+1:=⟨q-1,by omega⟩
  obtain ⟨b9,o9,g1,g2⟩:=(hI bf2 m2 hC2).at (i:=i) (by simpa using hil)
  simp at g2
  obtain ⟨tn,hat,hnm⟩:=hN.at hil
  have hdrop:items.drop i=(zs[i],tn)::items.drop (i+1):=by
   rw[List.drop_eq_getElem_cons (by rw[hN.len];exact hil)]
   congr 1
   have:=(List.getElem?_eq_some_iff.1 hat).2
   exact this
  rw[hdrop] at e1 e2
  simp only[txL] at e1 e2
  have hzi:=hz _ (List.getElem_mem hil)
  have hsn:=txM_seen ht hF f hS2 hzi
  have hBB:bs2.length+((if i==0 then [] else [44,32]:List UInt8)++((txM l f s2 zs[i]).1++(tn++(txL (txM l f) false (txM l f s2 zs[i]).2 (items.drop (i+1))).1))).length+1≤1099511627776:=by
   have:=congrArg List.length e1
   simp only[List.length_append,List.length_cons,List.length_nil] at this ⊢
   omega
  simp only[List.length_append] at hBB
  simp[g1,g2]
  obtain ⟨J,hJ⟩: ∃J:AFrame→AMem→Prop,∀a' m',J a' m'↔(∃bf',a'.forget [0,2,6,7,12,13,14]=mat 44 [(0,.ptr b 0),(2,nm),(6,.int .i64 i),(7,.int .i64 zs[i]),(12,t),(13,.int .i64 zs.length),(14,.int .i64 i)]∧WS m0 b mb sT rk ds m' bf' (bs2++(if i==0 then [] else [44,32])) s2∧WC b mb bf2 m2 bf' m'):=⟨_,fun _ _=>Iff.rfl⟩
  refine bbind_J J ?_ ?_
  ·refine bbind_dec (fun h0=>?_) fun h0=>?_
   ·have h0':(i==0)=false:=by simp;omega
    simp
    refine C_of (hW2.write [44,32] (by rw[h0'] at hBB;simp at hBB ⊢;omega)) ?_
    rintro _ m3 ⟨bf3,hW3,hC3⟩
    simp
    refine (hJ _ _).2 ⟨bf3,rfl,?_,hC3⟩
    rw[h0']
    exact hW3
   ·have h0':(i==0)=true:=by simp;omega
    simp
    refine (hJ _ _).2 ⟨bf2,rfl,?_,WC.refl ..⟩
    rw[h0']
    simpa using hW2
  ·intro a m3 hJ3
   obtain ⟨bf3,hfa,hW3,hC3⟩:=(hJ _ _).1 hJ3
   clear hJ3 hJ J
   simp[hfa]
   refine C_of (hM zs[i] m3 bf3 _ s2 hW3 hS2 hzi (by omega) (by simp only[List.length_append];omega)) ?_
   rintro _ m4 ⟨bf4,hW4,hC4⟩
   have hC24:=hC3.trans hC4
   rcases hnm with ⟨rfl,rfl⟩|⟨ns,hns,hst,hin,rfl⟩
   ·simp[hw]
    refine ⟨q,by omega,(hI' _ _ _).2 ⟨i+1,bf4,_,_,by omega,by simp,hW4,hsn.1,by omega,hC2.trans hC24,?_,?_⟩⟩
    ·rw[show (i+1==0)=false from rfl,←e1]
     simp[List.append_assoc]
    ·rw[show (i+1==0)=false from rfl]
     exact e2
   ·obtain ⟨b8,o8,p1,p2⟩:=(hst bf4 m4 (hC2.trans hC24)).at (i:=i) hin
    simp[hns,-isNilOf]
    refine W_draw (fun _ _ _=>True) (by simp[maxDst]) ?_
    refine D_pc 0 8 [8] ?_
    have hsz:ns[i].size=ns[i].data.toList.length:=by rw[Array.length_toList];rfl
    have hadd:binStr .add ⟨#[32]⟩ ns[i]=some (.str ⟨(32::ns[i].data.toList).toArray⟩):=str_add [32] ns[i] (by simp only[List.length_append,List.length_cons,List.length_nil] at hBB ⊢;omega)
    simp[p1,p2,hadd]
    intro fs' _
    refine D_X rfl rfl fun m5 hm5 _=>?_
    simp
    have hW5:=hW4.mono hm5
    refine C_of (hW5.write (32::ns[i].data.toList) (by simp only[List.length_append,List.length_cons] at hBB ⊢;omega)) ?_
    rintro _ m6 ⟨bf6,hW6,hC6⟩
    refine ⟨by simp[lateOf],?_⟩
    refine D_end fun m7 hm7 _=>?_
    simp[hw]
    refine ⟨q,by omega,(hI' _ _ _).2 ⟨i+1,bf6,_,_,by omega,by simp,hW6.mono hm7,hsn.1,by omega,hC2.trans (hC24.trans ((WC.of_prefix hm5).trans (hC6.trans (.of_prefix hm7)))),?_,?_⟩⟩
    ·rw[show (i+1==0)=false from rfl,←e1]
     simp[List.append_assoc]
    ·rw[show (i+1==0)=false from rfl]
     exact e2
 ·have hil:i=zs.length:=by omega
  subst hil
  rw[List.drop_eq_nil_of_le (by rw[hN.len];omega)] at e1 e2
  simp only[txL,List.append_nil] at e1 e2
  subst e1 e2
  simp
  refine C_of (hW2.write [41] (by simp at hB ⊢;omega)) ?_
  rintro _ m3 ⟨bf3,hW3,hC3⟩
  simp
  refine ⟨bf3,?_,hC2.trans hC3⟩
  simpa[List.append_assoc] using hW3
end Go.Proofs.YtlniliigcnedmaaGreatDoor
namespace Go.Proofs.YtlniliigcnedmaaGreatDoor
open Go Ax
open Relation
set_option maxRecDepth 100000
def mdU (k:Int) (es:List Int):Md:=⟨k,0,es,[],0,false⟩
theorem R_kindlt {l:List Md} {a b:Nat} (ha:a<l.length) (hb:b<l.length) (h:(mdAt l a).kind<(mdAt l b).kind): ∀d,R l (d+1) a<R l (d+1) b
 |0=>by
  rw[R_lt l 0 ha]
  unfold cmpR thenC
  simp only[R]
  have h00:cmpI 0 0=0:=by decide
  rw[if_neg (by simp[h00])]
  simp only[if_true]
  unfold firstC firstL
  rw[firstNZ_cons]
  have:cmpI (mdAt l a).kind (mdAt l b).kind<0:=cmpI_lt.2 h
  rw[if_pos (by omega)]
  exact this
 |d+1=>R_refine l (d+1) ha (R_kindlt ha hb h d)
theorem RR_kindlt {l:List Md} {a b:Nat} (ha:a<l.length) (hb:b<l.length) (h:(mdAt l a).kind<(mdAt l b).kind):RR l a<RR l b:=R_kindlt ha hb h _
end Go.Proofs.YtlniliigcnedmaaGreatDoor
namespace Go.Proofs.YtlniliigcnedmaaGreatDoor
open Go Ax
set_option maxRecDepth 100000
theorem fidx_first {p:Nat→Bool}: ∀(n i:Nat),(fidx p i n= -1∧ ∀k,i≤k→k<i+n→p k=false)∨ ∃j,i≤j∧j<i+n∧fidx p i n=(j:Int)∧p j=true∧ ∀k,i≤k→k<j→p k=false
 |0,i=> .inl ⟨rfl,fun k h1 h2=>by omega⟩
 |n+1,i=>by
  rw[fidx]
  split
  ·rename_i hp;exact .inr ⟨i,Nat.le_refl _,by omega,rfl,hp,fun k h1 h2=>by omega⟩
  ·rename_i hp
   have hp:p i=false:=by simpa using hp
   rcases fidx_first (p:=p) n (i+1) with ⟨h1,h2⟩|⟨j,h1,h2,h3,h4,h5⟩
   ·refine .inl ⟨h1,fun k k1 k2=>?_⟩
    by_cases hk:k=i
    ·subst hk;exact hp
    ·exact h2 k (by omega) (by omega)
   ·refine .inr ⟨j,by omega,by omega,h3,h4,fun k k1 k2=>?_⟩
    by_cases hk:k=i
    ·subst hk;exact hp
    ·exact h5 k (by omega) k2
end Go.Proofs.YtlniliigcnedmaaGreatDoor
namespace Go.Proofs.YtlniliigcnedmaaGreatDoor
open Go Ax
set_option maxRecDepth 100000
abbrev chunk (cs:List AVal) (i:Nat):List AVal:=(cs.drop (i*6)).take 6
def OwB (m0:AMem) (lo:Nat) (m:AMem) (s:AVal) (l:List Md):Prop:= ∃cs,Ow lo m 6 39 s l.length cs∧ ∀(i:Nat) x,l[i]? =some x→RMode m0 (chunk cs i) x
def OwT (lo:Nat) (m:AMem) (s:AVal) (l:List Md):Prop:= ∃cs,Ow lo m 6 39 s l.length cs∧ ∀(i:Nat) x,l[i]? =some x→ ∀m',Ch (fun b=>s.blk=some b∨b<lo) m m'→RMode m' (chunk cs i) x
theorem OwT.tab {lo:Nat} {m:AMem} {s:AVal} {l:List Md} (h:OwT lo m s l):RTab m s l:=by
 obtain ⟨cs,h1,h2⟩:=h
 exact ⟨cs,h1.sl,fun i x hx=>h2 i x hx m (.refl _ _)⟩
theorem OwT.mono {lo:Nat} {m m':AMem} {s:AVal} {l:List Md} (h:OwT lo m s l) (hm:m<+:m'):OwT lo m' s l:=by
 obtain ⟨cs,h1,h2⟩:=h
 exact ⟨cs,h1.mono hm,fun i x hx m'' hc=>h2 i x hx m'' ((Ch.of_prefix hm).trans hc)⟩
theorem OwB.mono {lo:Nat} {m0 m m':AMem} {s:AVal} {l:List Md} (h:OwB m0 lo m s l) (hm:m<+:m'):OwB m0 lo m' s l:=by
 obtain ⟨cs,h1,h2⟩:=h
 exact ⟨cs,h1.mono hm,h2⟩
theorem OwB.tab {lo:Nat} {m0 m:AMem} {s:AVal} {l:List Md} (h:OwB m0 lo m s l) (hm:m0<+:m):RTab m s l:=by
 obtain ⟨cs,h1,h2⟩:=h
 exact ⟨cs,h1.sl,fun i x hx=>(h2 i x hx).mono hm⟩
theorem OwB.ch {S:Nat→Prop} {lo:Nat} {m0 m m':AMem} {s:AVal} {l:List Md} (h:OwB m0 lo m s l) (hc:Ch S m m') (hs: ∀b,s.blk=some b→ ¬S b):OwB m0 lo m' s l:=by
 obtain ⟨cs,h1,h2⟩:=h
 exact ⟨cs,h1.ch hc hs,h2⟩
theorem OwB.blk_lo {lo:Nat} {m0 m:AMem} {s:AVal} {l:List Md} (h:OwB m0 lo m s l) {b:Nat} (hb:s.blk=some b):lo≤b∧b<m.length:=by
 obtain ⟨cs,h1,_⟩:=h
 exact h1.blk_lo hb
theorem OwT.blk_lo {lo:Nat} {m:AMem} {s:AVal} {l:List Md} (h:OwT lo m s l) {b:Nat} (hb:s.blk=some b):lo≤b∧b<m.length:=by
 obtain ⟨cs,h1,_⟩:=h
 exact h1.blk_lo hb
theorem chunk_append {cs c:List AVal} {n:Nat} (hl:cs.length=n*6) {i:Nat} (hi:i<n):chunk (cs++c) i=chunk cs i:=by
 unfold chunk
 rw[List.drop_append_of_le_length (by omega),List.take_append_of_le_length (by simp;omega)]
theorem chunk_last {cs c:List AVal} {n:Nat} (hl:cs.length=n*6) (hc:c.length=6):chunk (cs++c) n=c:=by
 unfold chunk
 rw[List.drop_append,hl,Nat.sub_self,List.drop_eq_nil_of_le (by omega)]
 simp only[List.nil_append,List.drop_zero]
 exact List.take_of_length_le (by omega)
theorem push_get {l:List Md} {x y:Md} {i:Nat} (h:(l++ [x])[i]? =some y):(i<l.length∧l[i]? =some y)∨(i=l.length∧y=x):=by
 rcases Nat.lt_or_ge i l.length with hlt|hge
 ·rw[List.getElem?_append_left hlt] at h;exact .inl ⟨hlt,h⟩
 ·rw[List.getElem?_append_right hge] at h
  cases hk:i-l.length with
  |zero=>rw[hk] at h;simp at h;exact .inr ⟨by omega,h.symm⟩
  |succ k=>rw[hk] at h;simp at h
theorem OwB.push {m0:AMem} {lo:Nat} {m:AMem} {s:AVal} {l:List Md} (h:OwB m0 lo m s l) (hlo:lo≤m.length) {c:List AVal} {x:Md} (hx:RMode m0 c x) (hn:l.length<2^30):
  ∃s' m',appendE m 6 80 39 s 1 c=some (s',m')∧Ch (fun b=>s.blk=some b) m m'∧OwB m0 lo m' s' (l++ [x])∧(∀b,s'.blk=some b→s.blk=some b∨m.length≤b):=by
 obtain ⟨cs,h1,h2⟩:=h
 have hcl:=hx.all
 have hl:=h1.sl.length
 obtain ⟨s',m',e,hch,h3,h4⟩:=h1.append hlo (k:=1) (xs:=c) (bytes:=80) (by omega) hcl.2 (by decide) (by omega)
 refine ⟨s',m',e,hch,⟨cs++c,by simpa using h3,fun i y hy=>?_⟩,h4⟩
 rcases push_get hy with ⟨hi,hy⟩|⟨rfl,rfl⟩
 ·rw[chunk_append hl hi];exact h2 i y hy
 ·rw[chunk_last hl hcl.1];exact hx
theorem OwT.push {lo:Nat} {m:AMem} {s:AVal} {l:List Md} (h:OwT lo m s l) (hlo:lo≤m.length) {c:List AVal} {x:Md} (hx: ∀m',Ch (fun b=>s.blk=some b∨b<lo) m m'→RMode m' c x) (hn:l.length<2^30):
  ∃s' m',appendE m 6 80 39 s 1 c=some (s',m')∧Ch (fun b=>s.blk=some b) m m'∧OwT lo m' s' (l++ [x])∧(∀b,s'.blk=some b→s.blk=some b∨m.length≤b):=by
 obtain ⟨cs,h1,h2⟩:=h
 have hcl:=(hx m (.refl _ _)).all
 have hl:=h1.sl.length
 obtain ⟨s',m',e,hch,h3,h4⟩:=h1.append hlo (k:=1) (xs:=c) (bytes:=80) (by omega) hcl.2 (by decide) (by omega)
 refine ⟨s',m',e,hch,⟨cs++c,by simpa using h3,fun i y hy m2 hc2=>?_⟩,h4⟩
 have hcc:Ch (fun b=>s.blk=some b∨b<lo) m m2:=by
  have a1:Ch (fun b=>(s.blk=some b∨b<lo)∨m.length≤b) m m':=hch.weaken fun b _ hb=> .inl (.inl hb)
  have a2:Ch (fun b=>(s.blk=some b∨b<lo)∨m.length≤b) m' m2:=hc2.weaken fun b _ hb=>by
   rcases hb with hb|hb
   ·rcases h4 b hb with h|h
    ·exact .inl (.inl h)
    ·exact .inr h
   ·exact .inl (.inr hb)
  exact (a1.trans a2).weaken fun b hb h=>by rcases h with h|h;exact h;omega
 rcases push_get hy with ⟨hi,hy⟩|⟨rfl,rfl⟩
 ·rw[chunk_append hl hi];exact h2 i y hy m2 hcc
 ·rw[chunk_last hl hcl.1];exact hx m2 hcc
def TabS (S:Nat→Prop) (m:AMem) (s:AVal) (l:List Md):Prop:= ∃cs,∀m',Ch S m m'→Sl m' 6 s l.length cs∧ ∀(i:Nat) x,l[i]? =some x→RMode m' ((cs.drop (i*6)).take 6) x
theorem TabS.weaken {S T:Nat→Prop} {m:AMem} {s:AVal} {l:List Md} (h:TabS S m s l) (hs: ∀b,T b→S b):TabS T m s l:=by
 obtain ⟨cs,h⟩:=h
 exact ⟨cs,fun m' hc=>h m' (hc.weaken fun b _=>hs b)⟩
theorem TabS.next {S:Nat→Prop} {m m':AMem} {s:AVal} {l:List Md} (h:TabS S m s l) (hc:Ch S m m'):TabS S m' s l:=by
 obtain ⟨cs,h⟩:=h
 exact ⟨cs,fun m'' hc'=>h m'' (hc.trans hc')⟩
theorem TabS.mono {S:Nat→Prop} {m m':AMem} {s:AVal} {l:List Md} (h:TabS S m s l) (hm:m<+:m'):TabS S m' s l:=h.next (.of_prefix hm)
theorem TabS.tab {S:Nat→Prop} {m:AMem} {s:AVal} {l:List Md} (h:TabS S m s l):RTab m s l:=by
 obtain ⟨cs,h⟩:=h
 exact ⟨cs,h m (.refl _ _)⟩
theorem TabS.nil {S:Nat→Prop} {m:AMem}:TabS S m .nilslice []:=⟨[],fun _ _=>⟨Sl.nil,by simp⟩⟩
theorem RTab.tabS {S:Nat→Prop} {m0 m:AMem} {s:AVal} {l:List Md} (h:RTab m0 s l) (hm:m0<+:m) (hs: ∀b,b<m0.length→ ¬S b):TabS S m s l:=by
 obtain ⟨cs,h1,h2⟩:=h
 exact ⟨cs,fun m' hc=>by have hp:=hc.pre hm hs;exact ⟨h1.mono hp,fun i x hx=>(h2 i x hx).mono hp⟩⟩
theorem OwT.tabS {lo:Nat} {m:AMem} {s:AVal} {l:List Md} (h:OwT lo m s l):TabS (fun b=>b<lo) m s l:=by
 obtain ⟨cs,h1,h2⟩:=h
 refine ⟨cs,fun m' hc=>?_⟩
 have h1':=h1.ch hc fun b hb e=>by have:=(h1.blk_lo hb).1;omega
 exact ⟨h1'.sl,fun i x hx=>h2 i x hx m' (hc.weaken fun b _ hb=> .inr hb)⟩
theorem tab_all {m:AMem} {cs:List AVal} {l:List Md} (hl:cs.length=l.length*6) (h: ∀(i:Nat) x,l[i]? =some x→RMode m (chunk cs i) x):cs.all AVal.one=true:=by
 rw[List.all_eq_true]
 intro y hy
 obtain ⟨i,hi,rfl⟩:=List.getElem_of_mem hy
 have hq:i / 6<l.length:=by omega
 have:=(h (i / 6) l[i / 6] (List.getElem?_eq_getElem hq)).all.2
 rw[List.all_eq_true] at this
 refine this _ ?_
 have hg:(chunk cs (i / 6))[i%6]? =some cs[i]:=by
  unfold chunk
  rw[List.getElem?_take,if_pos (by omega),List.getElem?_drop,List.getElem?_eq_getElem (by omega)]
  congr 2
  omega
 exact List.mem_of_getElem? hg
theorem k23 (s:AVal) (l:List Md) (m0 m:AMem) (hm0:m0<+:m) (hs:RTab m0 s l) (hn:l.length<2^30):ACalls Tryz.prog 23 [s] m fun v m'=>m<+:m'∧OwB m0 m.length m' v l:=by
 refine w23 ?_
 obtain ⟨cs,hsl,hmd⟩:=hs
 replace hsl:=hsl.mono hm0
 have hcl:=hsl.length
 have hall:=tab_all hcl hmd
 have hsc:=hsl.cells
 rcases hsl with ⟨rfl,hx,rfl⟩|⟨b,o,cap,gr,rfl,h1,h2⟩
 ·have hx:l= []:=by simpa using hx
  subst hx
  simp
  exact ⟨[],.nil,by simp⟩
 ·simp
  have hsl:Sl m 6 (.slice b o l.length cap gr) l.length cs:= .inr ⟨b,o,cap,gr,rfl,h1,h2⟩
  have hN:Ow m.length (m++ [.own [] 39 none]) 6 39 (.slice m.length 0 0 0 none) 0 []:=Ow.new (by simp) (by simp)
  have hm1:m<+:m++ [.own [] 39 none]:=List.prefix_append _ _
  have hsc:=(hsl.mono hm1).cells
  simp[fillA] at hsc ⊢
  generalize m++ [.own [] 39 none]=m1 at*
  obtain ⟨t',m2,happ,hch,hO,hbl⟩:=hN.append (by have:=hm1.length_le;omega) (k:=l.length) (xs:=cs) (bytes:=80) hcl hall (by decide) (by omega)
  simp[hsc,happ]
  rw[List.nil_append,Nat.zero_add] at hO
  exact ⟨hch.pre hm1 fun b hb h=>(by simp[AVal.blk] at h;omega),cs,hO,hmd⟩
end Go.Proofs.YtlniliigcnedmaaGreatDoor
namespace Go.Proofs.YtlniliigcnedmaaGreatDoor
open Go Ax
set_option maxRecDepth 100000
set_option maxHeartbeats 4000000 in
theorem k75 (s:AVal) (c:List AVal) (l:List Md) (x:Md) (m:AMem) (hs:RTab m s l) (hx:RMode m c x) (hsz: ∀y∈l++ [x],y.elems.length<2^40∧y.names.length<2^40) (hn:l.length<2^20):
  ACalls Tryz.prog 75 [s,.agg c] m fun v m'=>m<+:m'∧OwT m.length m' v (l++ [x]):=by
 have hx0:=hx
 have hcl:=hx.all
 obtain ⟨e,nm,rfl,he,hnm⟩:=hx
 refine w75 ?_
 have h1:=Sl.one he
 have h2:=Sl.one hnm
 have hw:IntKind.i64.wrap ((l.length:Int)+1)=((l.length+1:Nat):Int):=by rw[wrap64 (by omega) (by omega)];omega
 have hc0:(0:Int)≤l.length+1:=by omega
 have hc1:80*((l.length:Int)+1)≤281474976710656:=by omega
 have hc2:(l.length:Int)+1≤9223372036854775807:=by omega
 simp[h1,h2,hs.len,hw,hc0,hc1,hc2]
 have hb0:readB (m++ [ABlk.own [.int .i64 x.kind,.int .i64 x.size,e,nm,.int .i64 x.dims,.bool x.flex] 39 none,ABlk.own (List.replicate (l.length+1) [AVal.int .i64 0,AVal.int .i64 0,AVal.nilslice,AVal.nilslice,AVal.int .i64 0,AVal.bool false]).flatten 39 none]) m.length=some [.int .i64 x.kind,.int .i64 x.size,e,nm,.int .i64 x.dims,.bool x.flex]:=by simp[readB,ABlk.cells]
 have hm02:m<+:m++ [ABlk.own [.int .i64 x.kind,.int .i64 x.size,e,nm,.int .i64 x.dims,.bool x.flex] 39 none,ABlk.own (List.replicate (l.length+1) [AVal.int .i64 0,AVal.int .i64 0,AVal.nilslice,AVal.nilslice,AVal.int .i64 0,AVal.bool false]).flatten 39 none]:=List.prefix_append _ _
 have hl02:(m++ [ABlk.own [.int .i64 x.kind,.int .i64 x.size,e,nm,.int .i64 x.dims,.bool x.flex] 39 none,ABlk.own (List.replicate (l.length+1) [AVal.int .i64 0,AVal.int .i64 0,AVal.nilslice,AVal.nilslice,AVal.int .i64 0,AVal.bool false]).flatten 39 none]).length=m.length+2:=by simp
 have hO:OwT m.length (m++ [ABlk.own [.int .i64 x.kind,.int .i64 x.size,e,nm,.int .i64 x.dims,.bool x.flex] 39 none,ABlk.own (List.replicate (l.length+1) [AVal.int .i64 0,AVal.int .i64 0,AVal.nilslice,AVal.nilslice,AVal.int .i64 0,AVal.bool false]).flatten 39 none]) (.slice (m.length+1) 0 0 (l.length+1) none) []:=by
  refine ⟨[],.inr ⟨m.length+1,0,l.length+1,none,(List.replicate (l.length+1) [AVal.int .i64 0,AVal.int .i64 0,AVal.nilslice,AVal.nilslice,AVal.int .i64 0,AVal.bool false]).flatten,none,rfl,by omega,by rw[List.getElem?_append_right (by omega)];simp,by simp[readN],by simp,by simp,by simp[List.all_flatten],.inl rfl⟩,by simp⟩
 have hob: ∀b,(AVal.slice (m.length+1) 0 0 (l.length+1) none).blk=some b→b=m.length+1:=fun b hb=>by simp[AVal.blk] at hb;omega
 generalize AVal.slice (m.length+1) 0 0 (l.length+1) none=out at*
 generalize m++ [ABlk.own [.int .i64 x.kind,.int .i64 x.size,e,nm,.int .i64 x.dims,.bool x.flex] 39 none,ABlk.own (List.replicate (l.length+1) [AVal.int .i64 0,AVal.int .i64 0,AVal.nilslice,AVal.nilslice,AVal.int .i64 0,AVal.bool false]).flatten 39 none]=m2 at*
 refine W_draw (fun i w m'=>i=1→OwB m m2.length m' w l) (by simp[maxDst]) ?_
 have: ∀(j:Nat) (m':AMem),noFacts j m':=fun _ _=>trivial
 refine D_pre 0 1 [1,2,3,6,4,5] (by simp only[List.drop_zero,List.drop_succ_cons,List.take_succ_cons,List.take_zero];rfl) rfl rfl ‹_› ?_
 simp
 intro _ _
 refine D_C rfl trivial rfl (fun m' hm' _=>(k23 s l m m' (hm02.trans hm') hs (by omega)).mono ?_) ?_ ?_ ?_
 ·rintro w m'' ⟨g1,cs,g2,g3⟩
  exact ⟨g1,fun _=>⟨cs,g2.lo hm'.length_le,g3⟩⟩
 ·obtain ⟨cs,g2,g3⟩:=hs
  have hcl2:=g2.length
  exact ⟨_,_,List.prefix_append _ _,fun _=>⟨cs,Ow.new hcl2 (tab_all hcl2 g3),g3⟩⟩
 ·rintro w m' m'' hm hk h
  exact (hk h).mono hm
 rintro w m4 hm4 hw4
 clear hw4
 refine D_R rfl trivial ⟨_,List.prefix_refl _,fun _ h=>by cases h⟩ ?_
 simp[bxW hb0,readN]
 refine D_A rfl trivial ?_
 simp[fillA,setN,h1,h2]
 intro b'
 refine D_P rfl trivial ?_
 simp
 refine D_W rfl rfl fun m5 hm5 hf=>?_
 have g13:=hf 1
 have g15:=hf 3
 simp[upd] at g13 g15
 have hsc:sliceCells m5 6 (.slice b' 0 1 1 none)=some (1,[.int .i64 x.kind,.int .i64 x.size,e,nm,.int .i64 x.dims,.bool x.flex]):=by simp[sliceCells,readB,g15,ABlk.cells,readN]
 obtain ⟨t16,m6,happ,hch6,hB,hbl⟩:=g13.push hm5.length_le hx0 (by omega)
 have hm26:m2<+:m6:=hch6.pre hm5 fun b hb h=>by have:=(g13.blk_lo h).1;omega
 simp[hsc,happ]
 refine D_P rfl trivial ?_
 have htl:=(hB.tab (hm02.trans hm26)).len
 simp[htl]
 refine D_end fun m7 hm7 _=>?_
 simp
 replace hB:=hB.mono hm7
 replace hm26:=hm26.trans hm7
 replace hO:=hO.mono hm26
 replace htl:=(hB.tab (hm02.trans hm26)).len
 clear g13 g15 hsc happ hch6 hbl hm5 hb0 hm4
 have hlen:(l++ [x]).length=l.length+1:=by simp
 generalize hL:l++ [x]=L at*
 have hm27:=hm26.length_le
 obtain ⟨I,hI⟩: ∃I:Nat→AFrame→AMem→Prop,∀q a m',I q a m'↔(∃(k:Nat) (o:AVal),k+q=L.length∧a=h75_0 o t16 (.int .i64 ((l.length:Int)+1)) (.int .i64 k)∧m<+:m'∧Ch (fun b=>b=m.length+1) m7 m'∧OwT m.length m' o (L.take k)∧ ∀b,o.blk=some b→b=m.length+1∨m7.length≤b):=⟨_,fun _ _ _=>Iff.rfl⟩
 refine W_loop I L.length ((hI _ _ _).2 ⟨0,out,by simp,by simp,hm02.trans hm26,.refl _ _,by simpa using hO,fun b hb=> .inl (hob b hb)⟩) ?_
 clear hO hob
 rintro q a m8 hIn
 obtain ⟨k,o,hk,rfl,hm8,hch8,hO,hob⟩:=(hI _ _ _).1 hIn
 clear hIn
 simp
 refine bbind_dec (fun hkl=>?_) fun hkl=>?_
 ·have hkl:k<L.length:=by omega
  have hw:=step64 (k:=k) (n:=L.length) hkl (by omega)
  obtain ⟨q,rfl⟩: ∃q',q=q'+1:=⟨q-1,by omega⟩
  have hT8:=(hB.ch hch8 fun b hb e=>by have:=(hB.blk_lo hb).1;omega).tab hm8
  obtain ⟨bx',ox,c,h4,h5,_,_,h6⟩:=hT8.atC hkl
  simp[h4,h5]
  have hcl:=h6.all
  rw[store_new _ _ c _ _ 6 hcl.1 rfl hcl.2]
  have hb7:(m8++ [ABlk.own c 39 none])[m8.length]? =some (.own c 39 none):=by simp
  have hm89:m8<+:m8++ [ABlk.own c 39 none]:=List.prefix_append _ _
  have hl9:(m8++ [ABlk.own c 39 none]).length=m8.length+1:=by simp
  have hsy:=hsz _ (List.getElem_mem hkl)
  simp
  generalize hy:L[k]=y at*
  generalize m8++ [ABlk.own c 39 none]=m9 at*
  generalize hb7e:m8.length=b7 at*
  obtain ⟨e2,nm2,c0,c1,c2,c3,c4,c5,he2,hnm2,rfl⟩:=h6.get
  replace he2:=he2.mono hm89
  replace hnm2:=hnm2.mono hm89
  refine W_draw (fun i v m'=>(i=2→OwL (AVal.int .i64) m9.length m' 3 v y.elems)∧(i=5→OwL AVal.str m9.length m' 9 v y.names)) (by simp[maxDst]) ?_
  have: ∀(j:Nat) (m':AMem),noFacts j m':=fun _ _=>trivial
  refine D_pre 0 2 [2,3,4,5,6,7,8,9] (by simp only[List.drop_zero,List.drop_succ_cons,List.take_succ_cons,List.take_zero];rfl) rfl rfl ‹_› ?_
  simp[bx (own_read hb7)]
  intro _ _
  refine D_C rfl trivial rfl (fun m' hm' _=>(k24 e2 y.elems m' (he2.mono hm') (by omega)).mono ?_) ?_ ?_ ?_
  ·rintro w m'' ⟨g1,g2⟩
   exact ⟨g1,fun _=>g2.lo' hm'.length_le,by simp⟩
  ·exact ⟨_,_,List.prefix_append _ _,fun _=>OwL.new m9 3 y.elems,by simp⟩
  ·rintro w m' m'' hm hk
   exact ⟨fun h=>(hk.1 h).mono hm,fun h=>(hk.2 h).mono hm⟩
  rintro v2 m10 hm10 hv2
  have v2s:=(Ow.sl (hv2.1 rfl)).self
  clear hv2 hm10
  refine D_P rfl trivial ?_
  simp
  refine D_R rfl trivial ⟨_,List.prefix_refl _,fun _ h=>by cases h⟩ ?_
  simp[bx (own_read hb7)]
  refine D_C rfl trivial rfl (fun m' hm' _=>(k58 nm2 y.names m' (hnm2.mono hm') (by omega)).mono ?_) ?_ ?_ ?_
  ·rintro w m'' ⟨g1,g2,_⟩
   exact ⟨g1,by simp,fun _=>g2.lo' hm'.length_le⟩
  ·exact ⟨_,_,List.prefix_append _ _,by simp,fun _=>OwL.new m9 9 y.names⟩
  ·rintro w m' m'' hm hk
   exact ⟨fun h=>(hk.1 h).mono hm,fun h=>(hk.2 h).mono hm⟩
  rintro v5 m10 hm10 hv5
  have v5s:=(Ow.sl (hv5.2 rfl)).self
  clear hv5 hm10
  refine D_P rfl trivial ?_
  simp
  refine D_W rfl rfl fun m10 hm10 hf=>?_
  have g2:=hf 2
  have g5:=hf 5
  simp[upd] at g2 g5
  have hb10:=own_mono hb7 hm10
  obtain ⟨m11,hst,hb11,hch11⟩:=fld_store (i:=2) hb10 (by simp) v2s.2 v2s.1
  simp[hst]
  refine D_P rfl trivial ?_
  simp
  refine D_W rfl rfl fun m12 hm12 _=>?_
  have hb12:=own_mono hb11 hm12
  obtain ⟨m13,hst13,hb13,hch13⟩:=fld_store (i:=3) hb12 (by simp) v5s.2 v5s.1
  simp[hst13]
  refine D_end fun m14 hm14 _=>?_
  have hb14:=own_mono hb13 hm14
  simp at hb14
  have hchx:Ch (fun b=>b=b7) m10 m14:=((hch11.trans (.of_prefix hm12)).trans hch13).trans (.of_prefix hm14)
  have g2':=g2.ch hchx fun b hb e=>by have:=(g2.blk_lo hb).1;omega
  have g5':=g5.ch hchx fun b hb e=>by have:=(g5.blk_lo hb).1;omega
  have hm814:m8<+:m14:=hchx.pre (hm89.trans hm10) fun b hb e=>by omega
  have hO14:=hO.mono hm814
  have hsc:sliceCells (m14++ [ABlk.own [.int .i64 y.kind,.int .i64 y.size,v2,v5,.int .i64 y.dims,.bool y.flex] 39 none]) 6 (.slice m14.length 0 1 1 none)=some (1,[.int .i64 y.kind,.int .i64 y.size,v2,v5,.int .i64 y.dims,.bool y.flex]):=by simp[sliceCells,readB,ABlk.cells,readN]
  have hm1415:m14<+:m14++ [ABlk.own [.int .i64 y.kind,.int .i64 y.size,v2,v5,.int .i64 y.dims,.bool y.flex] 39 none]:=List.prefix_append _ _
  have hol: ∀b,o.blk=some b→m.length≤b∧b<m8.length:=fun b hb=>hO.blk_lo hb
  simp[bxW (own_read hb14),readN,fillA,setN,v2s.1,v5s.1]
  generalize m14++ [ABlk.own [.int .i64 y.kind,.int .i64 y.size,v2,v5,.int .i64 y.dims,.bool y.flex] 39 none]=m15 at*
  have hm815:=hm814.trans hm1415
  have hl815:=hm815.length_le
  obtain ⟨o',m16,happ,hch16,hO16,hob16⟩:=(hO14.mono hm1415).push (c:= [.int .i64 y.kind,.int .i64 y.size,v2,v5,.int .i64 y.dims,.bool y.flex]) (x:=y) (by have:=hm8.length_le;omega) (fun m' hc=>⟨v2,v5,rfl,((g2'.mono hm1415).ch hc fun b hb e=>by have:=(g2.blk_lo hb).1;have:=hm8.length_le;rcases e with e|e;have:=hol b e;omega;omega).ints,Ow.sl ((g5'.mono hm1415).ch hc fun b hb e=>by have:=(g5.blk_lo hb).1;have:=hm8.length_le;rcases e with e|e;have:=hol b e;omega;omega)⟩) (by simp;omega)
  simp[hsc,happ,hw]
  refine ⟨q,by omega,(hI _ _ _).2 ⟨k+1,o',by omega,by simp,hch16.pre (hm8.trans hm815) fun b hb e=>by have:=hol b e;omega,(hch8.andThen (.of_prefix (S:=fun _=>False) hm815) fun b hb h=>h.elim).andThen hch16 fun b hb h=>?_,?_,fun b hb=>?_⟩⟩
  ·rcases hob b h with h|h
   ·exact h
   ·omega
  ·rw[List.take_add_one,List.getElem?_eq_getElem hkl,hy]
   exact hO16
  ·rcases hob16 b hb with h|h
   ·exact hob b h
   ·have:=hch8.len;right;omega
 ·have hkl:k=L.length:=by omega
  subst hkl
  rw[List.take_length] at hO
  simp
  exact ⟨hm8,hO⟩
end Go.Proofs.YtlniliigcnedmaaGreatDoor
namespace Go.Proofs.YtlniliigcnedmaaGreatDoor
open Go Ax
set_option maxRecDepth 100000
def slice3E (esz:Nat) (v hi mx:AVal):Option AVal:=match v with
 | .nilslice=>(bdE (some hi) 0).bind fun h=>(bdE (some mx) 0).bind fun m=>evSlice esz .nilslice 0 h (some m)
 | .slice b o n k ex=>(bdE (some hi) n).bind fun h=>(bdE (some mx) 0).bind fun m=>evSlice esz (.slice b o n k ex) 0 h (some m)
 |_=>none
theorem ev_slice3 (a:AFrame) (esz:Nat) (x hi mx:Arg):POp.ev a (.slice esz x none (some hi) (some mx))=slice3E esz (a.ev x) (a.ev hi) (a.ev mx):=by
 simp only[POp.ev,bnd_eq,slice3E]
 cases a.ev x<;>rfl
theorem slice3C {m:AMem} {s:AVal} {cs:List AVal} {L:List Md} (h1:Sl m 6 s L.length cs) (h2: ∀(i:Nat) x,L[i]? =some x→RMode m ((cs.drop (i*6)).take 6) x) {n:Nat} (hn:n≤L.length): ∃s',slice3E 6 s (.int .i64 n) (.int .i64 n)=some s'∧Sl m 6 s' (L.take n).length (cs.take (n*6))∧ ∀(i:Nat) x,(L.take n)[i]? =some x→RMode m (((cs.take (n*6)).drop (i*6)).take 6) x:=by
 have hcl:=h1.length
 have hmd: ∀(i:Nat) x,(L.take n)[i]? =some x→RMode m (((cs.take (n*6)).drop (i*6)).take 6) x:=by
  intro i x hx
  have hi:i<n:=by
   have:=(List.getElem?_eq_some_iff.1 hx).1
   simp at this;omega
  rw[List.getElem?_take,if_pos hi] at hx
  have:=h2 i x hx
  rw[List.drop_take,List.take_take,Nat.min_eq_left (by omega)]
  exact this
 have hlt:(L.take n).length=n:=by simp;omega
 rcases h1 with ⟨rfl,hl,rfl⟩|⟨b,o,cap,gr,rfl,⟨hc,hg⟩,h3⟩
 ·obtain rfl:n=0:=by omega
  exact ⟨.nilslice,by simp[slice3E,bdE,evSlice],by simpa using Sl.nil,by simp⟩
 ·refine ⟨.slice b o n n none,?_,?_,hmd⟩
  ·simp[slice3E,bdE,evSlice]
   omega
  ·rw[hlt]
   refine .inr ⟨b,o,n,none,rfl,⟨Nat.le_refl _,.inl rfl⟩,?_⟩
   by_cases h0:n=0
   ·subst h0;exact .inl ⟨rfl,by simp⟩
   ·rcases h3 with ⟨h3,_⟩|⟨_,bl,h4,h5⟩
    ·omega
    ·refine .inr ⟨h0,bl,h4,?_⟩
     have:=readN_sub h5 (i:=0) (k:=n*6) (by omega)
     simpa using this
theorem RTab.slice3 {m:AMem} {s:AVal} {L:List Md} (h:RTab m s L) {n:Nat} (hn:n≤L.length): ∃s',slice3E 6 s (.int .i64 n) (.int .i64 n)=some s'∧RTab m s' (L.take n):=by
 obtain ⟨cs,h1,h2⟩:=h
 obtain ⟨s',h3,h4,h5⟩:=slice3C h1 h2 hn
 exact ⟨s',h3,_,h4,h5⟩
theorem TabS.slice3 {S:Nat→Prop} {m:AMem} {s:AVal} {L:List Md} (h:TabS S m s L) {n:Nat} (hn:n≤L.length): ∃s',slice3E 6 s (.int .i64 n) (.int .i64 n)=some s'∧TabS S m s' (L.take n):=by
 obtain ⟨cs,h⟩:=h
 obtain ⟨h1,h2⟩:=h m (.refl _ _)
 obtain ⟨s',h3,_,_⟩:=slice3C h1 h2 hn
 refine ⟨s',h3,cs.take (n*6),fun m' hc=>?_⟩
 obtain ⟨h1,h2⟩:=h m' hc
 obtain ⟨s2,h6,h7,h8⟩:=slice3C h1 h2 hn
 rw[h3] at h6
 cases h6
 exact ⟨h7,h8⟩
noncomputable def findI (l:List Md) (x:Md):Option Nat:=
 if (l.length:Int)∈x.elems then none
 else if checkI (l++ [x])≠0 then none
 else if fidx (fun i=>RR (l++ [x]) i==RR (l++ [x]) l.length) 0 (l.length+1)=l.length then none
 else some (fidx (fun i=>RR (l++ [x]) i==RR (l++ [x]) l.length) 0 (l.length+1)).toNat
noncomputable def putI (l:List Md) (x:Md):List Md×Int×Int:=
 if checkI l≠0 then ([],0,checkI l)
 else match findI l x with
  |some i=>(l,i,0)
  |none=>if checkI (l++ [x])≠0 then ([],0,checkI (l++ [x])) else (l++ [x],l.length,0)
theorem k38 (s:AVal) (c:List AVal) (l:List Md) (x:Md) (m:AMem) (hs:RTab m s l) (hx:RMode m c x) (hsz: ∀y∈l++ [x],smallN y) (h40: ∀y∈l++ [x],y.elems.length<2^40∧y.names.length<2^40) (hn:T60 (l++ [x])):
  ACalls Tryz.prog 38 [s,.agg c] m fun v m'=>m<+:m'∧v= .tuple [.int .i64 ((findI l x).getD 0:Nat),.bool (findI l x).isSome]:=by
 have hx0:=hx
 have hcl:=hx.all
 obtain ⟨e,nm,rfl,he,hnm⟩:=hx
 refine w38 ?_
 have h60:=hn.len
 rw[List.length_append,List.length_singleton] at h60
 have h1:=Sl.one he
 have h2:=Sl.one hnm
 simp[h1,h2,hs.len]
 have hb0:=readB_new m [.int .i64 x.kind,.int .i64 x.size,e,nm,.int .i64 x.dims,.bool x.flex] 39 none
 have hm01:m<+:m++ [.own [.int .i64 x.kind,.int .i64 x.size,e,nm,.int .i64 x.dims,.bool x.flex] 39 none]:=List.prefix_append _ _
 generalize m++ [.own [.int .i64 x.kind,.int .i64 x.size,e,nm,.int .i64 x.dims,.bool x.flex] 39 none]=m1 at*
 generalize m.length=b3 at*
 have hxs:=hsz x (by simp)
 refine C_of (k74 e x.elems _ m1 (he.mono hm01) hxs.1) ?_
 rintro _ m2 ⟨rfl,rfl⟩
 by_cases hin:(l.length:Int)∈x.elems
 ·simp[hin,findI]
  exact hm01
 ·simp[hin,bxW hb0,readN]
  refine C_of (k75 s _ l x m2 (hs.mono hm01) (hx0.mono hm01) h40 (by omega)) ?_
  rintro v3 m3 ⟨hm3,hT⟩
  have hlL:(l++ [x]).length=l.length+1:=by simp
  simp
  refine C_of (k52 v3 (l++ [x]) m3 hT.tab hsz (by omega)) ?_
  rintro _ m4 ⟨rfl,hm4⟩
  have hfind:findI l x=if checkI (l++ [x])≠0 then none else if fidx (fun i=>RR (l++ [x]) i==RR (l++ [x]) l.length) 0 (l.length+1)=l.length then none else some (fidx (fun i=>RR (l++ [x]) i==RR (l++ [x]) l.length) 0 (l.length+1)).toNat:=by
   unfold findI
   rw[if_neg hin]
  have hm04:=(hm01.trans hm3).trans hm4
  by_cases hc:checkI (l++ [x])=0
  ·have ok:=okT_of hc
   simp[hc]
   refine C_of (k44 v3 (l++ [x]) m4 (hT.mono hm4).tab ok.good hn hsz ok.h64) ?_
   rintro v5 m5 ⟨hm5,ds,kd,hX,hD⟩
   have hXi:=ints_of_nat hX
   have hdl:=hD.len
   obtain ⟨b1,o1,g1,g2⟩:=hXi.at (i:=l.length) (by simp;omega)
   simp[hs.len,g1,g2]
   have hnd:l.length<ds.length:=by omega
   refine C_of (k57 v5 _ (ds[l.length]:Nat) m5 hXi (by simp;omega)) ?_
   rintro _ m6 ⟨rfl,rfl⟩
   have hF:fidx (fun i=>(ds.map fun z:Nat=>(z:Int))[i]? ==some ((ds[l.length]:Nat):Int)) 0 (ds.map fun z:Nat=>(z:Int)).length=fidx (fun i=>RR (l++ [x]) i==RR (l++ [x]) l.length) 0 (l.length+1):=by
    rw[List.length_map,hdl,hlL]
    refine fidx_congr _ _ fun j _ hj=>?_
    have hso:=hD.sameOrd.eq (a:=j) (b:=l.length) (by omega) (by omega)
    have e1:ds.getD j 0=ds[j]'(by omega):=by simp[List.getD,show j<ds.length by omega]
    have e2:ds.getD l.length 0=ds[l.length]:=by simp[List.getD,hnd]
    rw[e1,e2] at hso
    rw[Bool.eq_iff_iff]
    simp[show j<ds.length by omega]
    rw[←hso]
    omega
   rw[hF]
   have hge:0≤fidx (fun i=>RR (l++ [x]) i==RR (l++ [x]) l.length) 0 (l.length+1):=(fidx_nonneg _ _ _).2 ⟨l.length,by omega,by omega,by simp⟩
   rw[if_neg (by simp[hc])] at hfind
   generalize fidx (fun i=>RR (l++ [x]) i==RR (l++ [x]) l.length) 0 (l.length+1)=F at*
   by_cases hFl:F=l.length
   ·rw[if_pos hFl] at hfind
    subst hFl
    simp[hs.len,hfind]
    exact hm04.trans hm5
   ·rw[if_neg hFl] at hfind
    simp[hs.len,hfind,beqF hFl]
    exact ⟨hm04.trans hm5,by omega⟩
  ·have:findI l x=none:=by rw[hfind,if_pos hc]
   simp[bneT hc,this]
   exact hm04
theorem k40f (s:AVal) (c:List AVal) (l:List Md) (x:Md) (m:AMem) (hs:RTab m s l) (hx:RMode m c x) (hsz: ∀y∈l++ [x],smallN y) (h40: ∀y∈l++ [x],y.elems.length<2^40∧y.names.length<2^40) (hn:T60 (l++ [x])):
  ACalls Tryz.prog 40 [s,.agg c] m fun v m'=>m<+:m'∧ ∃t,v= .tuple [t,.int .i64 (putI l x).2.1,.int .i64 (putI l x).2.2]∧TabS (fun b=>b<m.length) m' t (putI l x).1:=by
 have hx0:=hx
 have hcl:=hx.all
 obtain ⟨e,nm,rfl,he,hnm⟩:=hx
 refine w40 ?_
 have h60:=hn.len
 rw[List.length_append,List.length_singleton] at h60
 have h1:=Sl.one he
 have h2:=Sl.one hnm
 simp[h1,h2]
 have hb0:=readB_new m [.int .i64 x.kind,.int .i64 x.size,e,nm,.int .i64 x.dims,.bool x.flex] 39 none
 have hm01:m<+:m++ [.own [.int .i64 x.kind,.int .i64 x.size,e,nm,.int .i64 x.dims,.bool x.flex] 39 none]:=List.prefix_append _ _
 generalize m++ [.own [.int .i64 x.kind,.int .i64 x.size,e,nm,.int .i64 x.dims,.bool x.flex] 39 none]=m1 at*
 generalize hb3:m.length=b3 at*
 have hlL:(l++ [x]).length=l.length+1:=by simp
 refine C_of (k52 s l m1 (hs.mono hm01) (fun y hy=>hsz y (by simp[hy])) (by omega)) ?_
 rintro _ m2 ⟨rfl,hm2⟩
 have hm02:=hm01.trans hm2
 by_cases hc:checkI l=0
 ·have hp:putI l x=match findI l x with
   |some i=>(l,(i:Int),0)
   |none=>if checkI (l++ [x])≠0 then ([],0,checkI (l++ [x])) else (l++ [x],(l.length:Int),0):=by
   unfold putI
   rw[if_neg (by simp[hc])]
  simp[hc,bxW (readB_mono hm2 hb0),readN]
  refine C_of (k38 s _ l x m2 (hs.mono hm02) (hx0.mono hm02) hsz h40 hn) ?_
  rintro _ m3 ⟨hm3,rfl⟩
  have hm03:=hm02.trans hm3
  cases hf:findI l x with
  |some i=>
   rw[hf] at hp
   simp only at hp
   simp[bxW (readB_mono (hm2.trans hm3) hb0),readN]
   refine C_of (k75 s _ l x m3 (hs.mono hm03) (hx0.mono hm03) h40 (by omega)) ?_
   rintro v4 m4 ⟨hm4,hT⟩
   obtain ⟨s',g1,g2⟩:=RTab.slice3 hT.tab (n:=l.length) (by omega)
   rw[List.take_left'] at g2
   ·simp[hs.len,ev_slice3,g1,hp]
    obtain ⟨s2,q1,q2⟩:=TabS.slice3 hT.tabS (n:=l.length) (by omega)
    rw[List.take_left' rfl] at q2
    rw[g1] at q1
    cases q1
    exact ⟨hm03.trans hm4,q2.weaken fun b hb=>by have:=hm03.length_le;omega⟩
   ·rfl
  |none=>
   rw[hf] at hp
   simp only at hp
   simp[bxW (readB_mono (hm2.trans hm3) hb0),readN]
   refine C_of (k75 s _ l x m3 (hs.mono hm03) (hx0.mono hm03) h40 (by omega)) ?_
   rintro v4 m4 ⟨hm4,hT⟩
   simp
   refine C_of (k52 v4 (l++ [x]) m4 hT.tab hsz (by omega)) ?_
   rintro _ m5 ⟨rfl,hm5⟩
   have hm05:=(hm03.trans hm4).trans hm5
   by_cases hc2:checkI (l++ [x])=0
   ·rw[if_neg (by simp[hc2])] at hp
    simp[hc2,hp,hs.len]
    exact ⟨hm05,(hT.mono hm5).tabS.weaken fun b hb=>by have:=hm03.length_le;omega⟩
   ·rw[if_pos hc2] at hp
    simp[bneT hc2,hp]
    exact ⟨hm05,TabS.nil⟩
 ·have hp:putI l x=([],0,checkI l):=by
   unfold putI
   rw[if_pos hc]
  simp[bneT hc,hp]
  exact ⟨hm02,TabS.nil⟩
theorem k40 (s:AVal) (c:List AVal) (l:List Md) (x:Md) (m:AMem) (hs:RTab m s l) (hx:RMode m c x) (hsz: ∀y∈l++ [x],smallN y) (h40: ∀y∈l++ [x],y.elems.length<2^40∧y.names.length<2^40) (hn:T60 (l++ [x])):
  ACalls Tryz.prog 40 [s,.agg c] m fun v m'=>m<+:m'∧ ∃t,v= .tuple [t,.int .i64 (putI l x).2.1,.int .i64 (putI l x).2.2]∧RTab m' t (putI l x).1:=by
 refine (k40f s c l x m hs hx hsz h40 hn).mono ?_
 rintro v m' ⟨h1,t,h2,h3⟩
 exact ⟨h1,t,h2,h3.tab⟩
end Go.Proofs.YtlniliigcnedmaaGreatDoor
namespace Go.Proofs.YtlniliigcnedmaaGreatDoor
open Go Ax
open Relation
set_option maxRecDepth 100000
def unionOf (zs:List Nat):Md:=⟨12,0,zs.map fun z:Nat=>(z:Int),[],0,false⟩
theorem mdAt_app {l:List Md} {x:Md} {i:Nat} (h:i<l.length):mdAt (l++ [x]) i=mdAt l i:=by
 unfold mdAt
 rw[List.getElem?_append_left h]
theorem mdAt_last {l:List Md} {x:Md}:mdAt (l++ [x]) l.length=x:=by
 unfold mdAt
 rw[List.getElem?_concat_length]
 rfl
theorem step_same {l:List Md} {a b:Nat} (ha:a<l.length) (hb:b<l.length) (hk:(mdAt l a).kind=(mdAt l b).kind) (he:(mdAt l a).elems=(mdAt l b).elems) {y:Nat} (h:stepR l isU a y):stepR l isU b y:=by
 obtain ⟨x,h1,h2,h3⟩:=h
 rw[mdAt_eq ha,mdAt_eq hb] at hk he
 rw[List.getElem?_eq_getElem ha] at h1
 cases h1
 refine ⟨l[b],List.getElem?_eq_getElem hb,?_,by rw[←he];exact h3⟩
 unfold isU at h2 ⊢
 rw[←hk];exact h2
theorem part_same {l:List Md} {a b:Nat} (ha:a<l.length) (hb:b<l.length) (hk:(mdAt l a).kind=(mdAt l b).kind) (he:(mdAt l a).elems=(mdAt l b).elems) {j:Nat} (h:IsPart l a j):IsPart l b j:=by
 refine ⟨?_,h.2⟩
 have:=h.1
 clear h
 induction this with
 |single h=>exact .single (step_same ha hb hk he h)
 |tail _ h ih=>exact .tail ih h
theorem stepR_app {l:List Md} {x:Md} (hg:goodT l) {p:Md→Bool} {a b:Nat} (ha:a<l.length):stepR (l++ [x]) p a b↔stepR l p a b∧b<l.length:=by
 unfold stepR
 rw[List.getElem?_append_left ha]
 constructor
 ·rintro ⟨y,h1,h2,h3⟩
  have:=hg y (List.mem_of_getElem? h1) _ h3
  exact ⟨⟨y,h1,h2,h3⟩,by omega⟩
 ·exact fun h=>h.1
theorem tg_app {l:List Md} {x:Md} (hg:goodT l) {p:Md→Bool} {a b:Nat} (ha:a<l.length) (h:TransGen (stepR (l++ [x]) p) a b):TransGen (stepR l p) a b∧b<l.length:=by
 induction h with
 |single h=>have:=(stepR_app hg ha).1 h;exact ⟨.single this.1,this.2⟩
 |tail _ h ih=>have:=(stepR_app hg ih.2).1 h;exact ⟨.tail ih.1 this.1,this.2⟩
section
variable {l:List Md} {zs:List Nat}
theorem part_old {x:Md} (hg:goodT l) {a j:Nat} (ha:a<l.length):IsPart (l++ [x]) a j↔IsPart l a j:=by
 constructor
 ·rintro ⟨h1,h2⟩
  obtain ⟨h3,h4⟩:=tg_app hg ha h1
  exact ⟨h3,fun y hy=>h2 y (by rw[List.getElem?_append_left h4];exact hy)⟩
 ·intro h
  have hj:=h.lt hg
  refine ⟨?_,fun y hy=>h.2 y (by rwa[List.getElem?_append_left hj] at hy)⟩
  have hT:=h.1
  clear h hj
  have: ∀{b},TransGen (stepR l isU) a b→TransGen (stepR (l++ [x]) isU) a b∧b<l.length:=fun hb=>by
   induction hb with
   | @single b h=>
    have hb':b<l.length:=by obtain ⟨y,h1,_,h3⟩:=h;have:=hg y (List.mem_of_getElem? h1) _ h3;omega
    exact ⟨.single ((stepR_app hg ha).2 ⟨h,hb'⟩),hb'⟩
   | @tail c b _ h ih=>
    have hb':b<l.length:=by obtain ⟨y,h1,_,h3⟩:=h;have:=hg y (List.mem_of_getElem? h1) _ h3;omega
    exact ⟨.tail ih.1 ((stepR_app hg ih.2).2 ⟨h,hb'⟩),hb'⟩
  exact (this hT).1
theorem part_new (hz: ∀z∈zs,z<l.length∧isU (mdAt l z)=false) {j:Nat}:IsPart (l++ [unionOf zs]) l.length j↔j∈zs:=by
 have hnu: ∀z∈zs,∀y,(l++ [unionOf zs])[z]? =some y→isU y=false:=fun z h y hy=>by
  obtain ⟨h1,h2⟩:=hz z h
  rw[List.getElem?_append_left h1] at hy
  rw[mdAt_eq h1] at h2
  rw[List.getElem?_eq_getElem h1] at hy
  cases hy
  exact h2
 have h1: ∀b,stepR (l++ [unionOf zs]) isU l.length b→b∈zs:=fun b ⟨y,h1,_,h3⟩=>by
  rw[List.getElem?_concat_length] at h1
  cases h1
  obtain ⟨z,hz1,hz2⟩:=List.mem_map.1 h3
  have:z=b:=by omega
  exact this▸hz1
 constructor
 ·rintro ⟨h,_⟩
  have: ∀{b},TransGen (stepR (l++ [unionOf zs]) isU) l.length b→b∈zs:=fun hb=>by
   induction hb with
   |single h=>exact h1 _ h
   |tail _ h ih=>
    obtain ⟨y,g1,g2,_⟩:=h
    rw[hnu _ ih y g1] at g2
    cases g2
  exact this h
 ·intro h
  exact ⟨.single ⟨unionOf zs,by rw[List.getElem?_concat_length],by simp[isU,unionOf],List.mem_map.2 ⟨j,h,rfl⟩⟩,hnu j h⟩
theorem part_in {x j:Nat} (h:IsPart l x j):x<l.length:=by
 have: ∀{b},TransGen (stepR l isU) x b→x<l.length:=fun hb=>by
  induction hb with
  |single h=>obtain ⟨y,h1,_⟩:=h;exact (List.getElem?_eq_some_iff.1 h1).1
  |tail _ _ ih=>exact ih
 exact this h.1
theorem part_head {x j:Nat} (hx:x<l.length) (h:IsPart l x j):isU (mdAt l x)=true:=by
 have: ∀{b},TransGen (stepR l isU) x b→isU (mdAt l x)=true:=fun hb=>by
  induction hb with
  |single h=>obtain ⟨y,h1,h2,_⟩:=h;rw[List.getElem?_eq_getElem hx] at h1;cases h1;rw[mdAt_eq hx];exact h2
  |tail _ _ ih=>exact ih
 exact this h.1
theorem sub_le {xs ys:List Nat} (h:xs.Nodup) (hs: ∀x∈xs,x∈ys):xs.length≤ys.length:=List.Nodup.length_le_of_subset h hs
theorem T13.of (hn:l.length≤13):T13 l:=by
 refine ⟨by omega,fun hg x O h1 h2=>?_⟩
 cases O with
 |nil=>simp
 |cons j O=>
  have hx:=part_in (h2 j (by simp))
  have hxu:=part_head hx (h2 j (by simp))
  have hxO:x∉j::O:=fun h=>by
   have:=(h2 x h).2 l[x] (List.getElem?_eq_getElem hx)
   rw[mdAt_eq hx] at hxu
   rw[hxu] at this
   cases this
  have:=nodup_le l.length (x::j::O) (List.nodup_cons.2 ⟨hxO,h1⟩) fun z hz=>by
    rcases List.mem_cons.1 hz with rfl|hz
    ·exact hx
    ·exact (h2 z hz).lt hg
  simp at this ⊢
  omega
theorem T13.union (h:T13 l) (hg:goodT l) (h59:l.length<19) (hz: ∀z∈zs,z<l.length∧isU (mdAt l z)=false) (hz12:zs.length≤12):T13 (l++ [unionOf zs]):=by
 refine ⟨by simp;omega,fun _ x O h1 h2=>?_⟩
 rcases Nat.lt_trichotomy x l.length with hx|rfl|hx
 ·exact h.few hg x O h1 fun j hj=>(part_old hg hx).1 (h2 j hj)
 ·exact Nat.le_trans (sub_le h1 fun j hj=>(part_new hz).1 (h2 j hj)) hz12
 ·cases O with
  |nil=>simp
  |cons j O=>have:=part_in (h2 j (by simp));simp at this;omega
end
end Go.Proofs.YtlniliigcnedmaaGreatDoor
namespace Go.Proofs.YtlniliigcnedmaaGreatDoor
open Go Ax
set_option maxRecDepth 100000
open Classical in
noncomputable def leftI (l:List Md) (u v:Nat):List Nat:=(basesOf l u).filter fun z=> !decide (hasRR l v z)
end Go.Proofs.YtlniliigcnedmaaGreatDoor
namespace Go.Proofs.YtlniliigcnedmaaGreatDoor
open Go Ax
open Relation
set_option maxRecDepth 100000
theorem RR_first {l:List Md} {a b:Nat} (ha:a<l.length) (hb:b<l.length) (h:RR l a=RR l b):firstC (mdAt l a) (mdAt l b)=0:=by
 have h1:R l (1+l.length) a=R l (1+l.length) b:=by rw[Nat.add_comm];exact h
 have h2:=R_eq_cmp (d:=0) ha hb (R_eq_down ha hb l.length h1)
 unfold cmpR thenC at h2
 have h0:cmpI (R l 0 a:Nat) (R l 0 b:Nat)=0:=cmpI_zero.2 rfl
 simp[h0] at h2
 exact h2
theorem lexC_refl: ∀xs:List Int,lexC cmpI xs xs=0
 | []=>rfl
 |x::xs=>by
  have h:cmpI x x=0:=cmpI_zero.2 rfl
  simp[lexC,h,lexC_refl xs]
theorem R_eq_of {l:List Md} {a b:Nat} (ha:a<l.length) (hb:b<l.length) (hf:firstC (mdAt l a) (mdAt l b)=0) (hk: ∀r,keyOf l r a=keyOf l r b): ∀d,R l d a=R l d b
 |0=>rfl
 |d+1=>by
  have ih:=R_eq_of ha hb hf hk d
  have hc:cmpR l (R l d) d a b=0:=by
   unfold cmpR thenC
   have h0:cmpI (R l d a:Nat) (R l d b:Nat)=0:=cmpI_zero.2 (by rw[ih])
   simp only[h0]
   by_cases hd:d=0
   ·simp[hd,hf]
   ·simp[hd,hk,lexC_refl]
  have h1:=R_lt l d (b:=b) ha
  have h2:=R_lt l d (b:=a) hb
  have h3:=(cmpR_ord l (R l d) d).anti a b trivial trivial
  have h4:=(cmpR_ord l (R l d) d).anti b a trivial trivial
  omega
theorem key_same {l:List Md} {a b:Nat} (ha:a<l.length) (hb:b<l.length) (hk:(mdAt l a).kind=(mdAt l b).kind) (he:(mdAt l a).elems=(mdAt l b).elems) (r:Nat→Nat):keyOf l r a=keyOf l r b:=by
 unfold keyOf
 have hu:isU (mdAt l a)=isU (mdAt l b):=by unfold isU;rw[hk]
 rw[hu,he]
 cases isU (mdAt l b)
 ·rfl
 ·simp only[if_true]
  congr 1
  apply List.filter_congr
  intro v _
  rw[decide_eq_decide]
  exact ⟨fun ⟨j,h1,h2⟩=>⟨j,part_same ha hb hk he h1,h2⟩,fun ⟨j,h1,h2⟩=>⟨j,part_same hb ha hk.symm he.symm h1,h2⟩⟩
theorem RR_same {l:List Md} {a b:Nat} (ha:a<l.length) (hb:b<l.length) (hf:firstC (mdAt l a) (mdAt l b)=0) (he:(mdAt l a).elems=(mdAt l b).elems):RR l a=RR l b:=
 R_eq_of ha hb hf (key_same ha hb (firstC_kind hf) he) _
theorem fidx_at {p:Nat→Bool}: ∀(n i j:Nat),i≤j→j<i+n→p j=true→(∀k,i≤k→k<j→p k=false)→fidx p i n=(j:Int)
 |0,i,j,h1,h2,_,_=>by omega
 |n+1,i,j,h1,h2,h3,h4=>by
  rw[fidx]
  by_cases hij:i=j
  ·subst hij;rw[if_pos h3]
  ·rw[if_neg (by rw[h4 i (Nat.le_refl _) (by omega)];simp)]
   exact fidx_at n (i+1) j (by omega) (by omega) h3 fun k k1 k2=>h4 k (by omega) k2
theorem findI_none {l:List Md} {x:Md} (h: ∃e∈x.elems,outB l.length e=true):findI l x=none:=by
 obtain ⟨e,he,ho⟩:=h
 unfold findI
 split
 ·rfl
 ·rename_i hn
  rw[if_pos]
  intro hc
  have ok:=okT_of hc
  have:=ok.good x (by simp) e he
  have hne:e≠(l.length:Int):=fun h=>hn (h▸he)
  simp[outB] at ho
  simp at this
  omega
theorem findI_ok {l:List Md} {x:Md} (h: ∀e∈x.elems,outB l.length e=false):findI l x=if checkI (l++ [x])≠0 then none else if fidx (fun i=>RR (l++ [x]) i==RR (l++ [x]) l.length) 0 (l.length+1)=l.length then none else some (fidx (fun i=>RR (l++ [x]) i==RR (l++ [x]) l.length) 0 (l.length+1)).toNat:=by
 unfold findI
 rw[if_neg]
 intro hm
 have:=h _ hm
 simp[outB] at this
theorem findI_last {l:List Md} {x:Md} (h: ∀e∈x.elems,outB l.length e=false) (hc:checkI (l++ [x])=0) (hn: ∀i,i<l.length→RR (l++ [x]) i≠RR (l++ [x]) l.length):findI l x=none:=by
 rw[findI_ok h,if_neg (by simp[hc]),if_pos]
 exact fidx_at _ 0 _ (by omega) (by omega) (by simp) fun k _ hk=>by simpa using hn k hk
theorem findI_some {l:List Md} {x:Md} (h: ∀e∈x.elems,outB l.length e=false) (hc:checkI (l++ [x])=0) {j:Nat} (hj:j<l.length) (he:RR (l++ [x]) j=RR (l++ [x]) l.length) (hn: ∀i,i<j→RR (l++ [x]) i≠RR (l++ [x]) l.length):findI l x=some j:=by
 have hF:=fidx_at (p:=fun i=>RR (l++ [x]) i==RR (l++ [x]) l.length) (l.length+1) 0 j (by omega) (by omega) (by simpa using he) fun k _ hk=>by simpa using hn k hk
 rw[findI_ok h,if_neg (by simp[hc]),hF,if_neg (by omega)]
 simp
end Go.Proofs.YtlniliigcnedmaaGreatDoor
namespace Go.Proofs.YtlniliigcnedmaaGreatDoor
open Go Ax
open Relation
set_option maxRecDepth 100000
structure CheckOk (l:List Md):Prop where
 len:l.length≤512
 one: ∀x∈l,oneI x l.length=0
 void:l.any (voidsB l)=false
 bad: ∀r,r<l.length→ ¬badM l r
 flex: ∀x∈l,flexOf x=true→ ∀e∈x.elems,¬FlexP l e.toNat
theorem checkOk_iff {l:List Md}:checkI l=0↔CheckOk l:=by
 constructor
 ·intro h
  unfold checkI at h
  split at h
  ·omega
  ·rename_i h1
   split at h
   ·rename_i h2;exact absurd h h2
   ·rename_i h2
    split at h
    ·omega
    ·rename_i h3
     split at h
     ·omega
     ·rename_i h4
      split at h
      ·omega
      ·rename_i h5
       refine ⟨by omega,fun x hx=>?_,by simpa using h3,fun r hr hb=>h4 ⟨r,hr,hb⟩,fun x hx hf e he hp=>h5 ⟨x,hx,hf,e,he,hp⟩⟩
       have h2:firstI (l.map (oneI · l.length))=0:=by simpa using h2
       rw[firstI_zero] at h2
       exact h2 _ (List.mem_map.2 ⟨x,hx,rfl⟩)
 ·intro h
  unfold checkI
  rw[if_neg (by have:=h.len;omega),if_neg,if_neg (by rw[h.void];simp),if_neg (fun ⟨r,hr,hb⟩=>h.bad r hr hb),if_neg (fun ⟨x,hx,hf,e,he,hp⟩=>h.flex x hx hf e he hp)]
  intro hc
  apply hc
  rw[firstI_zero]
  intro y hy
  obtain ⟨x,hx,rfl⟩:=List.mem_map.1 hy
  exact h.one x hx
theorem one_more {x:Md} {n:Nat} (h:oneI x n=0):oneI x (n+1)=0:=by
 obtain ⟨h1,h2,h3,h4⟩:=oneI_zero h
 unfold oneI
 rw[if_neg (by simp[h1]),if_neg,if_neg,if_neg (by rw[h4];simp)]
 ·simp only[List.any_eq_true,not_exists,not_and]
  intro s hs
  simp[h3 s hs]
 ·simp only[List.any_eq_true,not_exists,not_and]
  intro e he
  have:=h2 e he
  simp[outB]
  omega
theorem no_into {l:List Md} {x:Md} (hg:goodT l) (hx: ∀e∈x.elems,0≤e∧e<(l.length:Int)) {p:Md→Bool} {a:Nat}: ¬stepR (l++ [x]) p a l.length:=by
 rintro ⟨y,h1,_,h3⟩
 have hy:y∈l++ [x]:=List.mem_of_getElem? h1
 rcases List.mem_append.1 hy with h|h
 ·have:=hg y h _ h3;omega
 ·simp at h;subst h;have:=hx _ h3;omega
theorem flex_app {l:List Md} {x:Md} (hg:goodT l) {a:Nat} (ha:a<l.length) (h:FlexP (l++ [x]) a):FlexP l a:=by
 induction h with
 |flex h1 h2 h3=>
  rw[List.getElem?_append_left ha] at h1
  exact .flex h1 h2 h3
 |step h1 h2 ih=>
  obtain ⟨y,g1,g2⟩:=h1
  rw[List.getElem?_append_left ha] at g1
  have hb:=hg y (List.mem_of_getElem? g1) _ g2.2
  exact .step ⟨y,g1,g2⟩ (ih (by omega))
end Go.Proofs.YtlniliigcnedmaaGreatDoor
namespace Go.Proofs.YtlniliigcnedmaaGreatDoor
open Go Ax
set_option maxRecDepth 100000
theorem txT_of {l:List Md} (hc:checkI l=0) (hl:l.length≤60):TxT l∧Full l∧ ∀x∈l,0≤x.kind∧x.kind<14∧shaped x:=by
 have ok:=okT_of hc
 have co:=checkOk_iff.1 hc
 have hsh: ∀x∈l,0≤x.kind∧x.kind<14∧shaped x:=fun x hx=>by
  have:=shapeI_zero (oneI_zero (co.one x hx)).1
  exact ⟨this.1,this.2.1,this.2.2.1⟩
 refine ⟨⟨ok.good,hl,ok.h64,fun x hx n hn=>?_,fun x hx=>?_⟩,fun x hx hk=>?_,hsh⟩
 ·have:=(oneI_zero (co.one x hx)).2.2.1 n hn
  simp only[wordB,Bool.and_eq_true,decide_eq_true_eq] at this
  exact this.2.2
 ·have:=(hsh x hx).2.2.2.2.2.1
  unfold dimsOk at this
  split at this<;>omega
 ·have h1:=(hsh x hx).2.2.1
  have h2:=(hsh x hx).2.1
  unfold least at h1
  split at h1
  ·omega
  ·split at h1<;>omega
theorem set_pre {m m':AMem} {n:Nat} (h:m<+:m') (hn:m.length≤n) (x:ABlk):m<+:m'.set n x:=((Ch.of_prefix (S:=fun _=>False) h).set (.inr hn) x).pre (List.prefix_refl _) fun _ _ h=>h
theorem set_get {m:AMem} {n:Nat} {y:ABlk} (h:m[n]? =some y) (x:ABlk):(m.set n x)[n]? =some x:=List.getElem?_set_self (List.getElem?_eq_some_iff.1 h).1
theorem WC.keep {b mb c:Nat} {bf bf':AVal} {m m':AMem} {blk:ABlk} (hc:WC b mb bf m bf' m') (h:m[c]? =some blk) (n1:c≠b) (n2:c≠mb) (n3:bf.blk≠some c):m'[c]? =some blk∧bf'.blk≠some c:=by
 refine ⟨own_ch h hc.1 fun e=>?_,fun e=>?_⟩
 ·rcases e with e|e|e
  ·exact n1 e
  ·exact n2 e
  ·exact n3 e
 ·rcases hc.2 c e with h'|h'
  ·exact n3 h'
  ·have:=(List.getElem?_eq_some_iff.1 h).1;omega
theorem WS.number {m0:AMem} {b mb:Nat} {sT rk:AVal} {ds:List Nat} {m:AMem} {bf:AVal} {bs:List UInt8} {s:List Nat} (h:WS m0 b mb sT rk ds m bf bs s) (x:Nat):WS m0 b mb sT rk ds (m.set mb (.mp (numE ds (s++ [x])))) bf bs (s++ [x])∧WC b mb bf m bf (m.set mb (.mp (numE ds (s++ [x])))):=by
 have hch:Ch (fun c=>c=mb) m (m.set mb (.mp (numE ds (s++ [x])))):=Ch.setS _ rfl
 have hn:=h.ne
 obtain ⟨ad,h1,h2⟩:=h.blk
 have hc:WC b mb bf m bf (m.set mb (.mp (numE ds (s++ [x])))):=⟨hch.weaken fun c _ e=> .inr (.inl e),fun c e=> .inl e⟩
 exact ⟨⟨⟨ad,own_ch h1 hch hn.1,h2⟩,set_get h.map _,h.buf.ch hch fun c e e'=>hn.2.2 (e'▸e),hc.pre0 h,h.lo⟩,hc⟩
theorem eN_cast {l:List Md} (hg:goodT l) {x:Nat} (hx:x<l.length):(eN l[x]).map (fun z:Nat=>(z:Int))=l[x].elems:=by
 unfold eN
 rw[List.map_map]
 conv=>rhs;rw[←List.map_id l[x].elems]
 refine List.map_congr_left fun e he=>?_
 have:=hg _ (List.getElem_mem hx) e he
 simp only[Function.comp,id]
 omega
theorem eN_at {l:List Md} (hg:goodT l) {x:Nat} (hx:x<l.length) {k:Nat} (hk:k<l[x].elems.length):l[x].elems[k]=(((eN l[x]).getD k 0:Nat):Int):=by
 have hk':k<(eN l[x]).length:=by rw[eN_len];exact hk
 have:=hg _ (List.getElem_mem hx) _ (List.getElem_mem hk)
 rw[List.getD_eq_getElem?_getD,List.getElem?_eq_getElem hk',Option.getD_some]
 simp only[eN,List.getElem_map]
 omega
structure WT (l:List Md) (m0:AMem) (sT rk:AVal) (ds:List Nat):Prop where
 tx:TxT l
 full:Full l
 sh: ∀x∈l,0≤x.kind∧x.kind<14∧shaped x
 t13:T13 l
 sm: ∀x∈l,smallN x
 tab:RTab m0 sT l
 rks:RInts m0 rk (ds.map fun z:Nat=>(z:Int))
 dl:ds.length=l.length
 ord:SameOrd l.length (fun a=>ds.getD a 0) (RR l)
theorem words_at {m:AMem} {k:Int} (h0:0≤k) (h9:k<9):loadE m 1 false (.gptr 0 k.toNat)=some (.str ⟨(kindT k).toArray⟩):=by
 have:k=0∨k=1∨k=2∨k=3∨k=4∨k=5∨k=6∨k=7∨k=8:=by omega
 rcases this with rfl|rfl|rfl|rfl|rfl|rfl|rfl|rfl|rfl<;>rfl
theorem find_size (x:Md):(findE [(-1,AVal.str ⟨#[83,72,79,82,84,32]⟩),(1,.str ⟨#[76,79,78,71,32]⟩)] x.size).getD (.str ⟨#[]⟩)= .str ⟨(sizeT x).toArray⟩∧(findE [(1,AVal.str ⟨#[76,79,78,71,32]⟩),(-1,.str ⟨#[83,72,79,82,84,32]⟩)] x.size).getD (.str ⟨#[]⟩)= .str ⟨(sizeT x).toArray⟩:=by
 unfold sizeT
 by_cases h1:x.size=1
 ·simp[h1,findE]
 ·by_cases h2:x.size= -1
  ·simp[h2,findE]
  ·have h1': ¬1=x.size:=fun e=>h1 e.symm
   have h2': ¬ -1=x.size:=fun e=>h2 e.symm
   simp[h1,h2,h1',h2',findE]
set_option maxHeartbeats 8000000 in
theorem mode_ok {l:List Md} {m0:AMem} {b mb:Nat} {sT rk:AVal} {ds:List Nat} (H:WT l m0 sT rk ds): ∀f,ModeOK l m0 b mb sT rk ds f
 |0=>fun x m bf bs s hW hS hx hfu=>by have:=hS.len;omega
 |f+1=>by
  have ih:=mode_ok (b:=b) (mb:=mb) H f
  intro x m bf bs s hW hS hx hfu hB
  refine w45 ?_
  obtain ⟨ad,hb0,had⟩:=hW.blk
  obtain ⟨bx',ox,c,h4,h5,_,_,h6⟩:=H.tab.atC hx
  replace h5:=loadE_mono hW.pre h5
  simp[bx (own_read hb0),h4,h5]
  have hcl:=h6.all
  rw[store_new _ _ c _ _ 6 hcl.1 rfl hcl.2]
  have hb4:(m++ [ABlk.own c 39 none])[m.length]? =some (.own c 39 none):=by simp
  have hm1:m<+:m++ [ABlk.own c 39 none]:=List.prefix_append _ _
  have hn4:m.length≠b∧m.length≠mb:=⟨by have:=hW.lt.1;omega,by have:=hW.lt.2;omega⟩
  have hf4: ∀c,bf.blk=some c→c≠m.length:=fun c hc e=>by have:=(hW.buf.blk_lo hc).2;omega
  obtain ⟨e,nm,c0,c1,c2,c3,c4,c5,he,hnm,rfl⟩:=h6.get
  have hsh:=H.sh _ (List.getElem_mem hx)
  have hmd:=mdAt_eq hx
  generalize m++ [ABlk.own [AVal.int .i64 l[x].kind,AVal.int .i64 l[x].size,e,nm,AVal.int .i64 l[x].dims,AVal.bool l[x].flex] 39 none]=m1 at*
  generalize m.length=b4 at*
  have hW1:=hW.mono hm1
  simp[bx (own_read hb4)]
  obtain ⟨J,hJ⟩: ∃J:AFrame→AMem→Prop,∀a' m',J a' m'↔(a'.forget [0,1,4]=mat 159 [(0,.ptr b 0),(1,.int .i64 x),(4,.ptr b4 0)]∧m'=m1∧9≤l[x].kind):=⟨_,fun _ _=>Iff.rfl⟩
  refine bbind_J J ?_ ?_
  ·refine bbind_dec (fun hk=>?_) fun hk=>?_
   rotate_left
   ·simp
    exact (hJ _ _).2 ⟨rfl,rfl,by simpa using hk⟩
   have hk9:l[x].kind<9:=by simpa using hk
   have htx:txM l (f+1) s x=(plainT l[x],s):=by simp[txM,hmd,hk9]
   rw[htx] at hB ⊢
   simp
   have hwd:=words_at (m:=m1) hsh.1 hk9
   refine W_draw2 (fun _ _ _=>True) (by simp[maxDst]) ?_ ?_
   ·refine D_pc 0 3 [7,8,10,11,12,13,3,4,5,6,9,14,15] ?_
    simp
    intro fs1 h1
    refine D_pc 7 2 [10,11,12,13,3,4,5,6,9,14,15] ?_ (hfs:=h1)
    simp[bx (own_read hb4)]
    intro fs2 h2
    refine D_pc 10 4 [3,4,5,6,9,14,15] ?_ (hfs:=h2)
    simp[bx (own_read hb4),POp.ev,hsh.1,hk9,hwd]
    intro _ _
    refine D_X rfl rfl fun m2 hm2 _=>?_
    have hb42:=own_mono hb4 hm2
    have hn2:=hm2.length_le
    have hb43:=own_mono hb42 (List.prefix_append m2 [.mp []])
    have hmp:(m2++ [ABlk.mp []])[m2.length]? =some (.mp []):=by simp
    have hp3:m1<+:m2++ [ABlk.mp []]:=hm2.trans (List.prefix_append _ _)
    simp[lateOf,bx (own_read hb42),words_at hsh.1 hk9]
    refine ⟨⟨by rw[bx (own_read hb43)];rfl,by rw[bx (own_read hb43)];rfl⟩,?_⟩
    generalize m2++ [ABlk.mp []]=m3 at*
    generalize m2.length=n3 at*
    refine D_X rfl rfl fun m4 hm4 _=>?_
    have hmp4:=own_mono hmp hm4
    simp[lateOf,mapsetE,hmp4,setE,words_at hsh.1 hk9]
    have hp5:=set_pre (hp3.trans hm4) hn2 (.mp [(-1,AVal.str ⟨#[83,72,79,82,84,32]⟩)])
    have hmp5:=set_get hmp4 (.mp [(-1,AVal.str ⟨#[83,72,79,82,84,32]⟩)])
    generalize m4.set n3 (.mp [(-1,AVal.str ⟨#[83,72,79,82,84,32]⟩)])=m5 at*
    refine ⟨⟨by rw[bx (own_read (own_mono hb4 hp5))];rfl,by rw[bx (own_read (own_mono hb4 hp5))];rfl⟩,?_⟩
    refine D_X rfl rfl fun m6 hm6 _=>?_
    have hmp6:=own_mono hmp5 hm6
    simp[lateOf,mapsetE,hmp6,setE,words_at hsh.1 hk9]
    have hp7:=set_pre (hp5.trans hm6) hn2 (.mp [(-1,AVal.str ⟨#[83,72,79,82,84,32]⟩),(1,.str ⟨#[76,79,78,71,32]⟩)])
    have hmp7:=set_get hmp6 (.mp [(-1,AVal.str ⟨#[83,72,79,82,84,32]⟩),(1,.str ⟨#[76,79,78,71,32]⟩)])
    generalize m6.set n3 (.mp [(-1,AVal.str ⟨#[83,72,79,82,84,32]⟩),(1,.str ⟨#[76,79,78,71,32]⟩)])=m7 at*
    refine ⟨⟨by rw[bx (own_read (own_mono hb4 hp7))];rfl,by rw[bx (own_read (own_mono hb4 hp7))];rfl⟩,?_⟩
    have hfd:=(find_size l[x]).1
    refine D_pc 6 1 [9,14,15] ?_ (hfs:=fun _ _=>trivial)
    simp
    intro fs3 h3
    refine D_pc 9 1 [14,15] ?_ (hfs:=h3)
    simp[lookupE,hmp7,hfd]
    intro fs4 h4
    refine D_pc 14 1 [15] ?_ (hfs:=h4)
    have hadd:binStr .add ⟨(sizeT l[x]).toArray⟩ ⟨(kindT l[x].kind).toArray⟩=some (.str ⟨(plainT l[x]).toArray⟩):=str_add _ _ (by rw[ba_size];have:=plainT_len l[x];unfold plainT at this;rw[List.length_append] at this;omega)
    simp[hadd]
    intro fs5 h5
    refine D_X rfl rfl fun m8 hm8 _=>?_
    simp
    refine C_of ((hW1.mono (hp7.trans hm8)).write (plainT l[x]) (by simpa using hB)) ?_
    rintro _ m9 ⟨bf9,hW9,hC9⟩
    refine ⟨by simp[lateOf],?_⟩
    refine D_end fun m10 hm10 _=>?_
    simp
    exact ⟨bf9,hW9.mono hm10,(WC.of_prefix (hm1.trans (hp7.trans hm8))).trans (hC9.trans (.of_prefix hm10))⟩
   ·refine D_pc 0 3 [7,8,10,11,12,13,3,5,4,6,9,14,15] ?_
    simp
    intro fs1 h1
    refine D_pc 7 2 [10,11,12,13,3,5,4,6,9,14,15] ?_ (hfs:=h1)
    simp[bx (own_read hb4)]
    intro fs2 h2
    refine D_pc 10 4 [3,5,4,6,9,14,15] ?_ (hfs:=h2)
    simp[bx (own_read hb4),POp.ev,hsh.1,hk9,hwd]
    intro _ _
    refine D_X rfl rfl fun m2 hm2 _=>?_
    have hb42:=own_mono hb4 hm2
    have hn2:=hm2.length_le
    have hb43:=own_mono hb42 (List.prefix_append m2 [.mp []])
    have hmp:(m2++ [ABlk.mp []])[m2.length]? =some (.mp []):=by simp
    have hp3:m1<+:m2++ [ABlk.mp []]:=hm2.trans (List.prefix_append _ _)
    simp[lateOf,bx (own_read hb42),words_at hsh.1 hk9]
    refine ⟨⟨by rw[bx (own_read hb43)];rfl,by rw[bx (own_read hb43)];rfl⟩,?_⟩
    generalize m2++ [ABlk.mp []]=m3 at*
    generalize m2.length=n3 at*
    refine D_X rfl rfl fun m4 hm4 _=>?_
    have hmp4:=own_mono hmp hm4
    simp[lateOf,mapsetE,hmp4,setE,words_at hsh.1 hk9]
    have hp5:=set_pre (hp3.trans hm4) hn2 (.mp [(1,AVal.str ⟨#[76,79,78,71,32]⟩)])
    have hmp5:=set_get hmp4 (.mp [(1,AVal.str ⟨#[76,79,78,71,32]⟩)])
    generalize m4.set n3 (.mp [(1,AVal.str ⟨#[76,79,78,71,32]⟩)])=m5 at*
    refine ⟨⟨by rw[bx (own_read (own_mono hb4 hp5))];rfl,by rw[bx (own_read (own_mono hb4 hp5))];rfl⟩,?_⟩
    refine D_X rfl rfl fun m6 hm6 _=>?_
    have hmp6:=own_mono hmp5 hm6
    simp[lateOf,mapsetE,hmp6,setE,words_at hsh.1 hk9]
    have hp7:=set_pre (hp5.trans hm6) hn2 (.mp [(1,AVal.str ⟨#[76,79,78,71,32]⟩),(-1,.str ⟨#[83,72,79,82,84,32]⟩)])
    have hmp7:=set_get hmp6 (.mp [(1,AVal.str ⟨#[76,79,78,71,32]⟩),(-1,.str ⟨#[83,72,79,82,84,32]⟩)])
    generalize m6.set n3 (.mp [(1,AVal.str ⟨#[76,79,78,71,32]⟩),(-1,.str ⟨#[83,72,79,82,84,32]⟩)])=m7 at*
    refine ⟨⟨by rw[bx (own_read (own_mono hb4 hp7))];rfl,by rw[bx (own_read (own_mono hb4 hp7))];rfl⟩,?_⟩
    have hfd:=(find_size l[x]).2
    refine D_pc 6 1 [9,14,15] ?_ (hfs:=fun _ _=>trivial)
    simp
    intro fs3 h3
    refine D_pc 9 1 [14,15] ?_ (hfs:=h3)
    simp[lookupE,hmp7,hfd]
    intro fs4 h4
    refine D_pc 14 1 [15] ?_ (hfs:=h4)
    have hadd:binStr .add ⟨(sizeT l[x]).toArray⟩ ⟨(kindT l[x].kind).toArray⟩=some (.str ⟨(plainT l[x]).toArray⟩):=str_add _ _ (by rw[ba_size];have:=plainT_len l[x];unfold plainT at this;rw[List.length_append] at this;omega)
    simp[hadd]
    intro fs5 h5
    refine D_X rfl rfl fun m8 hm8 _=>?_
    simp
    refine C_of ((hW1.mono (hp7.trans hm8)).write (plainT l[x]) (by simpa using hB)) ?_
    rintro _ m9 ⟨bf9,hW9,hC9⟩
    refine ⟨by simp[lateOf],?_⟩
    refine D_end fun m10 hm10 _=>?_
    simp
    exact ⟨bf9,hW9.mono hm10,(WC.of_prefix (hm1.trans (hp7.trans hm8))).trans (hC9.trans (.of_prefix hm10))⟩
  ·intro a m2 hJ2
   obtain ⟨hfa,rfl,hk9⟩:=(hJ _ _).1 hJ2
   clear hJ2 hJ J
   simp[hfa]
   have hSE:=DenseOf.sameEq (k:=0) H.ord
   have hfn:=find_num hSE hS hx
   obtain ⟨bk,ok,p1,p2⟩:=ranksAt H.rks (x:=x) (by rw[H.dl];exact hx)
   have p3:=p2 _ hW1.pre
   obtain ⟨ad1,hb1,had1⟩:=hW1.blk
   have hmp:=hW1.map
   have hnk: ¬l[x].kind<9:=by omega
   have hnadd:=numE_add ds s x
   generalize ds.getD x 0=dx at*
   refine W_drawPR (by simp[maxDst]) rfl rfl ?_
   simp[bx (own_read hb1),p1,p3,lookupE,hmp,hfn]
   intro m3 hm3
   cases hno:numOf l s x with
   |some n=>
    have htx:txM l (f+1) s x=(35::digB 20 n,s):=by simp[txM,hmd,hnk,hno]
    rw[htx] at hB ⊢
    have hnl:=numOf_lt hno
    have hsl:=hS.len
    have hl60:=H.tx.len
    simp
    refine W_draw (fun _ _ _=>True) (by simp[maxDst]) ?_
    refine D_pc 0 4 [4,5,6] ?_
    simp
    intro fs1 h1
    refine D_X rfl rfl fun m4 hm4 _=>?_
    simp
    refine C_of (k89 n (by omega) m4) ?_
    rintro _ m5 ⟨rfl,rfl⟩
    refine ⟨by simp[lateOf],?_⟩
    refine D_pc 5 1 [6] ?_ (hfs:=fun _ _=>trivial)
    have hadd:binStr .add ⟨#[35]⟩ ⟨(digB 20 n).toArray⟩=some (.str ⟨(35::digB 20 n).toArray⟩):=str_add [35] _ (by rw[ba_size];have:=digB_len 20 n;simp;omega)
    simp[hadd]
    intro fs2 h2
    refine D_X rfl rfl fun m6 hm6 _=>?_
    simp
    refine C_of ((hW1.mono (hm3.trans (hm4.trans hm6))).write (35::digB 20 n) (by simpa using hB)) ?_
    rintro _ m9 ⟨bf9,hW9,hC9⟩
    refine ⟨by simp[lateOf],?_⟩
    refine D_end fun m10 hm10 _=>?_
    simp
    exact ⟨bf9,hW9.mono hm10,(WC.of_prefix (hm1.trans (hm3.trans (hm4.trans hm6)))).trans (hC9.trans (.of_prefix hm10))⟩
   |none=>
    have htx:txM l (f+1) s x=bodyT l (txM l f) (s++ [x]) x:=by simp[txM,hmd,hnk,hno]
    rw[htx] at hB ⊢
    have hS':=hS.add hx hno
    simp
    refine W_draw (fun _ _ _=>True) (by simp[maxDst]) ?_
    have hb13:=own_mono hb1 hm3
    have hmp3:=own_mono hmp hm3
    have p4:=p2 _ (hW1.pre.trans hm3)
    refine D_pc 0 16 [16] ?_
    simp[bx (own_read hb13),p1,p4,mlenE,hmp3,numE_len]
    intro fs1 h1
    refine D_X rfl rfl fun m4 hm4 _=>?_
    have hmp4:=own_mono hmp3 hm4
    have hset:setE (numE ds s) (dx:Int) (.int .i64 s.length)=numE ds (s++ [x]):=by rw[set_none _ _ _ (by rw[hfn,hno];rfl),hnadd]
    simp[lateOf,mapsetE,hmp4]
    rw[hset]
    obtain ⟨hW5,hC5⟩:=(hW1.mono (hm3.trans hm4)).number x
    have hC05:=(WC.of_prefix (b:=b) (mb:=mb) (bf:=bf) (hm1.trans (hm3.trans hm4))).trans hC5
    obtain ⟨hb45,hf45⟩:=hC5.keep (own_mono hb4 (hm3.trans hm4)) hn4.1 hn4.2 fun e=>hf4 _ e rfl
    generalize m4.set mb (.mp (numE ds (s++ [x])))=m5 at*
    refine D_end fun m6 hm6 _=>?_
    have hW6:=hW5.mono hm6
    have hC06:=hC05.trans (.of_prefix hm6)
    have hb46:=own_mono hb45 hm6
    have hlast: ∀k,k<l[x].elems.length→l[x].elems[k]? =some (((eN l[x]).getD k 0:Nat):Int):=fun k hk=>by rw[List.getElem?_eq_getElem hk,eN_at H.tx.good hx hk]
    simp[bx (own_read hb46)]
    obtain ⟨J,hJ⟩: ∃J:AFrame→AMem→Prop,∀a' m',J a' m'↔(∃bf' pr s',a'.forget [0,4]=mat 159 [(0,.ptr b 0),(4,.ptr b4 0)]∧WS m0 b mb sT rk ds m' bf' (bs++pr) s'∧Seen l s'∧s.length<s'.length∧WC b mb bf m bf' m'∧
     m'[b4]? =some (ABlk.own [AVal.int .i64 l[x].kind,AVal.int .i64 l[x].size,e,nm,AVal.int .i64 l[x].dims,AVal.bool l[x].flex] 39 none)∧0<l[x].elems.length∧
     bodyT l (txM l f) (s++ [x]) x=(pr++(txM l f s' ((eN l[x]).getD (l[x].elems.length-1) 0)).1,(txM l f s' ((eN l[x]).getD (l[x].elems.length-1) 0)).2)):=⟨_,fun _ _=>Iff.rfl⟩
    refine bbind_JB J ?_ ?_
    rotate_left
    ·intro a' m7 hJ7
     obtain ⟨bf7,pr,s7,hfa7,hW7,hS7,hs7,hC7,hb47,hel,hbd⟩:=(hJ _ _).1 hJ7
     clear hJ7 hJ J
     simp[hfa7]
     have he7:=he.mono hW7.pre
     obtain ⟨b9,o9,q1,q2⟩:=he7.at (i:=l[x].elems.length-1) (by omega)
     rw[eN_at H.tx.good hx (by omega)] at q2
     have h64:=H.tx.els _ (List.getElem_mem hx)
     have hwl:IntKind.i64.wrap ((l[x].elems.length:Int)-1)=((l[x].elems.length-1:Nat):Int):=by rw[wrap64 (by omega) (by omega)];omega
     have hlt:=eN_getD (k:=l[x].elems.length-1) H.tx.good hx (by rw[hmd];omega)
     rw[hmd] at hlt
     rw[hbd] at hB ⊢
     generalize (eN l[x]).getD (l[x].elems.length-1) 0=la at*
     simp[bx (own_read hb47),he7.len,hwl,q1,q2]
     refine C_of (ih la m7 bf7 (bs++pr) s7 hW7 hS7 hlt (by omega) (by simp only[List.length_append] at hB ⊢;omega)) ?_
     rintro _ m8 ⟨bf8,hW8,hC8⟩
     simp
     exact ⟨bf8,by simpa[List.append_assoc] using hW8,hC7.trans hC8⟩
    have hkk:l[x].kind=9∨l[x].kind=10∨l[x].kind=11∨l[x].kind=12∨l[x].kind=13:=by omega
    have hshd:=hsh.2.2
    have hmp:(s++ [x]).length=s.length+1:=by simp
    rcases hkk with hkk|hkk|hkk|hkk|hkk
    ·simp[hkk]
     have hl1:l[x].elems.length=1:=by
      have h1:=hshd.1;have h2:=hshd.2.1
      simp[least,most,hkk] at h1 h2
      omega
     have hbd:bodyT l (txM l f) (s++ [x]) x=([82,69,70,32]++(txM l f (s++ [x]) ((eN l[x]).getD (l[x].elems.length-1) 0)).1,(txM l f (s++ [x]) ((eN l[x]).getD (l[x].elems.length-1) 0)).2):=by
      simp[bodyT,hmd,hkk,hl1]
     rw[hbd] at hB
     refine C_of (hW6.write [82,69,70,32] (by simp only[List.length_append] at hB ⊢;omega)) ?_
     rintro _ m7 ⟨bf7,hW7,hC7⟩
     simp
     exact (hJ _ _).2 ⟨bf7,_,_,rfl,hW7,hS',by omega,hC06.trans hC7,(hC7.keep hb46 hn4.1 hn4.2 fun e=>hf4 _ e rfl).1,by omega,hbd⟩
    ·simp[hkk,bx (own_read hb46)]
     have hl1:l[x].elems.length=1:=by
      have h1:=hshd.1;have h2:=hshd.2.1
      simp[least,most,hkk] at h1 h2
      omega
     have hdm:1≤l[x].dims∧l[x].dims≤3:=by
      have h1:=hshd.2.2.2.1
      simpa[dimsOk,hkk] using h1
     have hbd:bodyT l (txM l f) (s++ [x]) x=((if l[x].flex=true then ([70,76,69,88,32]:List UInt8) else [])++(91::(List.replicate (l[x].dims-1).toNat 44++ [93]))++(txM l f (s++ [x]) ((eN l[x]).getD (l[x].elems.length-1) 0)).1,(txM l f (s++ [x]) ((eN l[x]).getD (l[x].elems.length-1) 0)).2):=by
      simp[bodyT,hmd,hkk,hl1]
     rw[hbd] at hB
     simp only[List.length_append,List.length_cons,List.length_nil] at hB
     obtain ⟨J2,hJ2⟩: ∃J:AFrame→AMem→Prop,∀a' m',J a' m'↔(∃bf',a'.forget [0,4]=mat 159 [(0,.ptr b 0),(4,.ptr b4 0)]∧WS m0 b mb sT rk ds m' bf' (bs++(if l[x].flex=true then ([70,76,69,88,32]:List UInt8) else [])) (s++ [x])∧WC b mb bf m bf' m'∧
      m'[b4]? =some (ABlk.own [AVal.int .i64 l[x].kind,AVal.int .i64 l[x].size,e,nm,AVal.int .i64 l[x].dims,AVal.bool l[x].flex] 39 none)∧bf'.blk≠some b4):=⟨_,fun _ _=>Iff.rfl⟩
     refine bbind_J J2 ?_ ?_
     ·cases h0':l[x].flex
      rotate_left
      ·simp
       refine C_of (hW6.write [70,76,69,88,32] (by rw[h0'] at hB;simp only[if_true,List.length_cons,List.length_nil] at hB ⊢;omega)) ?_
       rintro _ m7 ⟨bf7,hW7,hC7⟩
       simp
       obtain ⟨q1,q2⟩:=hC7.keep hb46 hn4.1 hn4.2 fun e=>hf4 _ e rfl
       exact (hJ2 _ _).2 ⟨bf7,rfl,by rw[h0'];exact hW7,hC06.trans hC7,q1,q2⟩
      ·simp
       exact (hJ2 _ _).2 ⟨bf,rfl,by rw[h0'];simpa using hW6,hC06,hb46,fun e=>hf4 _ e rfl⟩
     ·intro a' m7 hJ7
      obtain ⟨bf7,hfa7,hW7,hC7,hb47,hf47⟩:=(hJ2 _ _).1 hJ7
      clear hJ7 hJ2 J2
      simp[hfa7]
      have hwd:IntKind.i64.wrap (l[x].dims-1)=(((l[x].dims-1).toNat:Nat):Int):=by rw[wrap64 (by omega) (by omega)];omega
      have hcl:(l[x].dims-1).toNat≤2:=by omega
      generalize (l[x].dims-1).toNat=cd at*
      have hk3:=fun m8=>k69 cd (by omega) m8
      have hrl:(List.replicate cd (44:UInt8)).length≤2:=by simp;omega
      generalize List.replicate cd (44:UInt8)=rl at*
      refine W_draw (fun _ _ _=>True) (by simp[maxDst]) ?_
      refine D_pc 0 6 [6,7,8,9] ?_
      simp[bx (own_read hb47),hwd]
      intro fs1 h1
      refine D_X rfl rfl fun m8 hm8 _=>?_
      simp
      refine C_of (hk3 m8) ?_
      rintro _ m9 ⟨rfl,rfl⟩
      refine ⟨by simp[lateOf],?_⟩
      refine D_pc 7 2 [9] ?_ (hfs:=fun _ _=>trivial)
      have hadd:binStr .add ⟨#[91]⟩ ⟨rl.toArray⟩=some (.str ⟨(91::rl:List UInt8).toArray⟩):=str_add [91] _ (by rw[ba_size];simp only[List.length_cons,List.length_nil];omega)
      have hadd2:binStr .add ⟨(91::rl:List UInt8).toArray⟩ ⟨#[93]⟩=some (.str ⟨(91::rl++ [93]:List UInt8).toArray⟩):=str_add (91::rl) ⟨#[93]⟩ (by show _+1≤_;simp only[List.length_cons];omega)
      simp only[List.cons_append] at hadd2
      simp[hadd,hadd2,-List.cons_append]
      intro fs2 h2
      refine D_X rfl rfl fun m10 hm10 _=>?_
      simp
      have hm710:=hm8.trans hm10
      refine C_of ((hW7.mono hm710).write (91::(rl++ [93])) (by simp only[List.length_append,List.length_cons,List.length_nil] at hB ⊢;omega)) ?_
      rintro _ m11 ⟨bf11,hW11,hC11⟩
      refine ⟨by simp[lateOf],?_⟩
      refine D_end fun m12 hm12 _=>?_
      simp
      obtain ⟨q1,q2⟩:=hC11.keep (own_mono hb47 hm710) hn4.1 hn4.2 hf47
      exact (hJ _ _).2 ⟨bf11,_,_,rfl,by simpa[List.append_assoc] using hW11.mono hm12,hS',by omega,hC7.trans ((WC.of_prefix hm710).trans (hC11.trans (.of_prefix hm12))),own_mono q1 hm12,by omega,by rw[hbd]⟩
    ·simp[hkk]
     have hl1:1≤l[x].elems.length:=by
      have h1:=hshd.1
      simp[least,hkk] at h1
      omega
     have hnl:l[x].names.length=l[x].elems.length:=by
      have h1:=hshd.2.2.1
      simp[nNames,hkk] at h1
      omega
     have hbd:bodyT l (txM l f) (s++ [x]) x=([83,84,82,85,67,84]++([40]++((txL (txM l f) true (s++ [x]) (named (eN l[x]) l[x].names)).1++ [41])),(txL (txM l f) true (s++ [x]) (named (eN l[x]) l[x].names)).2):=by
      simp[bodyT,hmd,hkk]
     rw[hbd] at hB ⊢
     simp only[List.length_append,List.length_cons,List.length_nil] at hB
     refine C_of (hW6.write [83,84,82,85,67,84] (by simp only[List.length_cons,List.length_nil];omega)) ?_
     rintro _ m7 ⟨bf7,hW7,hC7⟩
     have hb47:=(hC7.keep hb46 hn4.1 hn4.2 fun e=>hf4 _ e rfl).1
     have hniN:isNilOf .slice nm=some false:=by
      rcases hnm with ⟨_,h,_⟩|⟨_,_,_,_,rfl,_⟩
      ·omega
      ·rfl
     simp[bx (own_read hb47)]
     refine C_of (all_ok H.tx H.full ih (zs:=eN l[x]) (items:=named (eN l[x]) l[x].names) (fun z hz=>eN_lt H.tx.good hx (by rw[hmd];exact hz)) (by rw[eN_len];have:=H.tx.els _ (List.getElem_mem hx);omega) hW7 hS'
      (fun bf' m' hc=>by rw[eN_cast H.tx.good hx];exact he.mono (hc.pre0 hW7)) (.inr ⟨l[x].names,hniN,fun bf' m' hc=>hnm.mono (hc.pre0 hW7),by rw[eN_len];exact hnl,rfl⟩) (by omega)
      (by simp only[List.length_append,List.length_cons,List.length_nil];omega)) ?_
     rintro _ m8 ⟨bf8,hW8,hC8⟩
     simp
     exact ⟨bf8,by simpa[List.append_assoc] using hW8,hC06.trans (hC7.trans hC8)⟩
    ·simp[hkk]
     have hu:isU l[x]=true:=by simp[isU,hkk]
     have hbd:bodyT l (txM l f) (s++ [x]) x=([85,78,73,79,78]++([40]++((txL (txM l f) true (s++ [x]) (bare (basesOf l x))).1++ [41])),(txL (txM l f) true (s++ [x]) (bare (basesOf l x))).2):=by
      simp[bodyT,hmd,hkk]
     rw[hbd] at hB ⊢
     simp only[List.length_append,List.length_cons,List.length_nil] at hB
     refine C_of (hW6.write [85,78,73,79,78] (by simp only[List.length_cons,List.length_nil];omega)) ?_
     rintro _ m7 ⟨bf7,hW7,hC7⟩
     obtain ⟨ad7,hb7,had7⟩:=hW7.blk
     simp
     refine W_draw (fun _ _ _=>True) (by simp[maxDst]) ?_
     refine D_pc 0 10 [10,11] ?_
     simp[bx (own_read hb7)]
     intro fs1 h1
     refine D_X rfl rfl fun m8 hm8 _=>?_
     simp
     have hW8:=hW7.mono hm8
     refine C_of (k54 sT rk l ds x hx hu m8 (H.tab.mono hW8.pre) (H.rks.mono hW8.pre) H.dl H.tx.good H.t13 H.sm) ?_
     rintro v m9 ⟨hm9,O,zs,⟨hO,hOm⟩,hZs,hsb⟩
     have hum:isU (mdAt l x)=true:=by rw[hmd];exact hu
     have hzb:=once_eq H.tx.good H.ord hx hum (fun j=>by rw[hOm];unfold IsBase;rw[if_pos hum]) hsb
     subst hzb
     refine ⟨by simp[lateOf],?_⟩
     refine D_X rfl rfl fun m10 hm10 _=>?_
     simp
     have hW10:=hW8.mono (hm9.trans hm10)
     have hZ10:=hZs.mono hm10
     have hbl:=bases_lt H.tx.good hx
     refine C_of (all_ok H.tx H.full ih (zs:=basesOf l x) (items:=bare (basesOf l x)) hbl (by have:=(basesEx H.tx.good hx).length H.tx.good hx;have:=H.tx.len;omega) hW10 hS'
      (fun bf' m' hc=>ints_of_nat (hZ10.ch hc.1 fun c hc' e=>by
       have h1:=(hZs.blk_lo hc').1
       have h2:=hW8.lt
       rcases e with e|e|e
       ·omega
       ·omega
       ·have:=(hW8.buf.blk_lo e).2;omega)) (.inl ⟨rfl,rfl⟩) (by omega)
      (by simp only[List.length_append,List.length_cons,List.length_nil];omega)) ?_
     rintro _ m11 ⟨bf11,hW11,hC11⟩
     refine ⟨by simp[lateOf],?_⟩
     refine D_end fun m12 hm12 _=>?_
     simp
     exact ⟨bf11,by simpa[List.append_assoc] using hW11.mono hm12,hC06.trans (hC7.trans ((WC.of_prefix (hm8.trans (hm9.trans hm10))).trans (hC11.trans (.of_prefix hm12))))⟩
    ·simp[hkk]
     have hl1:1≤l[x].elems.length:=by
      have h1:=hshd.1
      simp[least,hkk] at h1
      omega
     have h64:=H.tx.els _ (List.getElem_mem hx)
     have hwl:IntKind.i64.wrap ((l[x].elems.length:Int)-1)=((l[x].elems.length-1:Nat):Int):=by rw[wrap64 (by omega) (by omega)];omega
     have hbd:bodyT l (txM l f) (s++ [x]) x=if 1<l[x].elems.length then ([80,82,79,67,40]++((txL (txM l f) true (s++ [x]) (bare ((eN l[x]).take (l[x].elems.length-1)))).1++([41,32]++(txM l f (txL (txM l f) true (s++ [x]) (bare ((eN l[x]).take (l[x].elems.length-1)))).2 ((eN l[x]).getD (l[x].elems.length-1) 0)).1)),
      (txM l f (txL (txM l f) true (s++ [x]) (bare ((eN l[x]).take (l[x].elems.length-1)))).2 ((eN l[x]).getD (l[x].elems.length-1) 0)).2) else ([80,82,79,67,32]++(txM l f (s++ [x]) ((eN l[x]).getD 0 0)).1,(txM l f (s++ [x]) ((eN l[x]).getD 0 0)).2):=by
      simp[bodyT,hmd,hkk]
     refine C_of (hW6.write [80,82,79,67] (by rw[hbd] at hB;split at hB<;>simp only[List.length_append,List.length_cons,List.length_nil] at hB ⊢ <;>omega)) ?_
     rintro _ m7 ⟨bf7,hW7,hC7⟩
     obtain ⟨hb47,hf47⟩:=hC7.keep hb46 hn4.1 hn4.2 fun e=>hf4 _ e rfl
     have he7:=he.mono hW7.pre
     simp[bx (own_read hb47),he7.len,hwl]
     obtain ⟨J2,hJ2⟩: ∃J:AFrame→AMem→Prop,∀a' m',J a' m'↔(∃bf' pr s',a'.forget [0,4]=mat 159 [(0,.ptr b 0),(4,.ptr b4 0)]∧WS m0 b mb sT rk ds m' bf' (bs++pr) s'∧Seen l s'∧s.length<s'.length∧WC b mb bf m bf' m'∧
      m'[b4]? =some (ABlk.own [AVal.int .i64 l[x].kind,AVal.int .i64 l[x].size,e,nm,AVal.int .i64 l[x].dims,AVal.bool l[x].flex] 39 none)∧bf'.blk≠some b4∧
      bodyT l (txM l f) (s++ [x]) x=(pr++ [32]++(txM l f s' ((eN l[x]).getD (l[x].elems.length-1) 0)).1,(txM l f s' ((eN l[x]).getD (l[x].elems.length-1) 0)).2)):=⟨_,fun _ _=>Iff.rfl⟩
     refine bbind_J J2 ?_ ?_
     ·refine bbind_dec (fun h0=>?_) fun h0=>?_
      ·have h1:1<l[x].elems.length:=by omega
       rw[if_pos h1] at hbd
       rw[hbd] at hB
       simp only[List.length_append,List.length_cons,List.length_nil] at hB
       have hes:=eN_cast H.tx.good hx
       obtain ⟨t7,q1,q2⟩:=he7.take (i:=l[x].elems.length-1) (by omega)
       simp[bx (own_read hb47),q1]
       have hzt: ∀z∈(eN l[x]).take (l[x].elems.length-1),z<l.length:=fun z hz=>eN_lt H.tx.good hx (by rw[hmd];exact mem_take hz)
       refine C_of (all_ok H.tx H.full ih (zs:=(eN l[x]).take (l[x].elems.length-1)) (items:=bare ((eN l[x]).take (l[x].elems.length-1))) hzt (by rw[List.length_take,eN_len];omega) hW7 hS'
        (fun bf' m' hc=>by rw[List.map_take,hes];exact q2 m' (he.mono (hc.pre0 hW7))) (.inl ⟨rfl,rfl⟩) (by omega)
        (by simp only[List.length_append,List.length_cons,List.length_nil];omega)) ?_
       rintro _ m8 ⟨bf8,hW8,hC8⟩
       simp
       obtain ⟨r1,r2⟩:=hC8.keep hb47 hn4.1 hn4.2 hf47
       have hsn:=txL_seen (fun s z hs hz=>txM_seen H.tx H.full f hs hz) (bare ((eN l[x]).take (l[x].elems.length-1))) true (s++ [x]) hS' fun p hp=>(bare_ok hzt p hp).1
       exact (hJ2 _ _).2 ⟨bf8,_,_,rfl,by simpa[List.append_assoc] using hW8,hsn.1,by omega,hC06.trans (hC7.trans hC8),r1,r2,by rw[hbd];simp[List.append_assoc]⟩
      ·have h1: ¬1<l[x].elems.length:=by omega
       rw[if_neg h1] at hbd
       have h2:l[x].elems.length-1=0:=by omega
       simp
       exact (hJ2 _ _).2 ⟨bf7,[80,82,79,67],s++ [x],rfl,hW7,hS',by omega,hC06.trans hC7,hb47,hf47,by rw[hbd,h2];simp⟩
     ·intro a' m8 hJ8
      obtain ⟨bf8,pr,s8,hfa8,hW8,hS8,hs8,hC8,hb48,hf48,hbd8⟩:=(hJ2 _ _).1 hJ8
      clear hJ8 hJ2 J2
      simp[hfa8]
      rw[hbd8] at hB
      simp only[List.length_append,List.length_cons,List.length_nil] at hB
      refine C_of (hW8.write [32] (by simp only[List.length_append,List.length_cons,List.length_nil];omega)) ?_
      rintro _ m9 ⟨bf9,hW9,hC9⟩
      simp
      exact (hJ _ _).2 ⟨bf9,pr++ [32],s8,rfl,by simpa[List.append_assoc] using hW9,hS8,hs8,hC8.trans hC9,(hC9.keep hb48 hn4.1 hn4.2 hf48).1,by omega,hbd8⟩
end Go.Proofs.YtlniliigcnedmaaGreatDoor
namespace Go.Proofs.YtlniliigcnedmaaGreatDoor
open Go Ax
set_option maxRecDepth 100000
theorem toB_u8: ∀bs:List UInt8,toB (bs.map u8A)=some bs
 | []=>rfl
 |x::bs=>by
  have h:(0:Int)≤((x.toNat:Nat):Int)∧((x.toNat:Nat):Int)<256:=by have:=x.toNat_lt;omega
  simp only[List.map_cons,u8A,toB,if_pos h,toB_u8 bs,Option.map_some]
  simp
theorem k46 (b lo:Nat) (ad bf x y z:AVal) (bs:List UInt8) (m:AMem) (hb:m[b]? =some (.own [ad,bf,x,y,z] 71 none)) (hO:OwL u8A lo m 5 bf bs) (hne:bs≠ []) (hsz:bs.length≤1099511627776):
  ACalls Tryz.prog 46 [.ptr b 0] m fun v m'=>v= .str ⟨bs.toArray⟩∧Ch (fun c=>bf.blk=some c) m m':=by
 have hl:0<bs.length:=List.length_pos_iff.2 hne
 refine w46 ?_
 rcases hO with ⟨_,h,_⟩|⟨b',o,cap,gr,bl,gr',rfl,h0,h1,h2,_⟩
 ·omega
 simp
 refine W_draw (fun _ _ _=>True) (by simp[maxDst]) ?_
 refine D_pc 0 10 [10,11] ?_
 simp[bx (own_read hb),sdataE,hl]
 intro fs1 hf1
 refine D_X rfl rfl fun m2 hm2 _=>?_
 have h12:=own_mono h1 hm2
 have hcond:(0:Int)<bs.length∧(bs.length:Int)≤9223372036854775807:=by omega
 have h2':readN bl o bs.length=some (bs.map u8A):=by simpa using h2
 simp[lateOf,ustrE,hcond,h12,h2',toB_u8,hl]
 refine D_pc 11 1 [] ?_ (hfs:=fun _ _=>trivial)
 simp
 intro fs2 hf2
 refine D_end fun m3 hm3 _=>?_
 simp
 exact (((Ch.of_prefix hm2).trans (Ch.setS (S:=Eq b') _ rfl)).trans (.of_prefix hm3)).weaken fun c _ e=>by rw[←e];rfl
theorem txM_ne (l:List Md) (f:Nat) (s:List Nat) (m:Nat):(txM l (f+1) s m).1≠ []:=by
 unfold txM
 split
 ·unfold plainT kindT
  simp only[ne_eq,List.append_eq_nil_iff,not_and]
  intro _
  repeat' split
  all_goals simp
 ·split
  ·simp
  ·unfold bodyT
   repeat' split
   all_goals simp
noncomputable def textV (l:List Md) (x:Int):List UInt8:=if rightI l [x]≠0 then [] else textT l x.toNat
theorem rightN1 {l:List Md} {u:Int} (h:rightI l [u]=0):checkI l=0∧ ∃a:Nat,u=a∧a<l.length:=by
 unfold rightI at h
 split at h
 ·omega
 ·rename_i h1
  split at h
  ·omega
  ·rename_i h2
   simp[outB] at h2
   exact ⟨by omega,u.toNat,by omega,by omega⟩
theorem text_len {l:List Md} (hc:checkI l=0) (hl:l.length≤60) {x:Nat} (hx:x<l.length):(txM l (l.length+1) [] x).1.length≤600000:=by
 obtain ⟨h1,h2,_⟩:=txT_of hc hl
 have:=txM_grow h1 h2 (l.length+1) [] x Seen.nil hx
 have h3:=this.len
 have h4:=this.seen.len
 simp only[List.length_nil] at h3
 omega
set_option maxHeartbeats 4000000 in
theorem k15 (s:AVal) (l:List Md) (x:Int) (m:AMem) (hs:RTab m s l) (hsm: ∀y∈l,smallN y) (hT:checkI l=0→T13 l) (hl:l.length<2^20):
  ACalls Tryz.prog 15 [s,.int .i64 x] m fun v m'=>m<+:m'∧v= .tuple [.str ⟨(textV l x).toArray⟩,.int .i64 (rightI l [x])]:=by
 refine w15 ?_
 simp[fillA,setN]
 have hA:=OwL.new (f:=AVal.int .i64) m 3 [x]
 have hm1:m<+:m++ [.own [.int .i64 x] 3 none]:=List.prefix_append _ _
 simp at hA
 generalize AVal.slice m.length 0 1 1 none=t1 at*
 generalize m++ [.own [.int .i64 x] 3 none]=m1 at*
 refine C_of (k43 s t1 l [x] m1 (hs.mono hm1) hA.ints hsm (by omega) (by simp)) ?_
 rintro _ m2 ⟨rfl,hm2⟩
 have hm02:=hm1.trans hm2
 by_cases hri:rightI l [x]=0
 rotate_left
 ·simp[bneT hri,hri,textV]
  exact hm02
 obtain ⟨hc,a,rfl,ha⟩:=rightN1 hri
 have hT:=hT hc
 have h60:=hT.t60.len
 have ok:=okT_of hc
 obtain ⟨htx,hfl,hsh⟩:=txT_of hc h60
 simp[hri,textV]
 refine C_of (k44 s l m2 (hs.mono hm02) ok.good hT.t60 hsm ok.h64) ?_
 rintro v3 m3 ⟨hm3,ds,kd,hX,hD⟩
 have hm03:=hm02.trans hm3
 obtain ⟨hs1,hs2⟩:=hs.self
 obtain ⟨hv1,hv2⟩:=(Ow.sl hX).self
 simp[fillA,setN,hs1,hs2,hv1,hv2]
 have hmap:(m3++ [ABlk.mp [],ABlk.own [AVal.nilptr,AVal.nilslice,s,v3,AVal.map m3.length] 71 none])[m3.length]? =some (.mp []):=by simp
 have hblk:(m3++ [ABlk.mp [],ABlk.own [AVal.nilptr,AVal.nilslice,s,v3,AVal.map m3.length] 71 none])[m3.length+1]? =some (.own [AVal.nilptr,AVal.nilslice,s,v3,AVal.map m3.length] 71 none):=by simp
 have hm4:m3<+:m3++ [ABlk.mp [],ABlk.own [AVal.nilptr,AVal.nilslice,s,v3,AVal.map m3.length] 71 none]:=List.prefix_append _ _
 generalize m3++ [ABlk.mp [],ABlk.own [AVal.nilptr,AVal.nilslice,s,v3,AVal.map m3.length] 71 none]=m4 at*
 have hW:WS m3 (m3.length+1) m3.length s v3 ds m4 .nilslice [] []:=⟨⟨_,hblk,.inl rfl⟩,hmap,OwL.nil,hm4,by omega,by omega⟩
 have H:WT l m3 s v3 ds:=⟨htx,hfl,hsh,hT,hsm,hs.mono hm03,ints_of_nat hX,hD.len,hD.sameOrd⟩
 have htl:=text_len hc h60 ha
 refine C_of (mode_ok H (l.length+1) a m4 .nilslice [] [] hW Seen.nil ha (by simp) (by simp;omega)) ?_
 rintro _ m5 ⟨bf5,hW5,hC5⟩
 obtain ⟨ad5,hb5,had5⟩:=hW5.blk
 simp only[List.nil_append] at hW5
 simp
 refine C_of (k46 _ m3.length ad5 bf5 s v3 _ _ m5 hb5 hW5.buf (txM_ne l _ [] a) (by omega)) ?_
 rintro _ m6 ⟨rfl,hch6⟩
 simp
 refine ⟨hm03.trans (hch6.pre hW5.pre fun c hc e=>by have:=(hW5.buf.blk_lo e).1;omega),?_⟩
 rw[hri]
 exact ⟨rfl,rfl⟩
end Go.Proofs.YtlniliigcnedmaaGreatDoor
namespace Go.Proofs.YtlniliigcnedmaaGreatDoor
open Go Ax
set_option maxRecDepth 100000
theorem k94a (n:Nat) (m:AMem) (hn:n<10):ACalls Tryz.prog 94 [.int .i64 n] m fun v m'=>v= .str ⟨#[(48+n).toUInt8]⟩∧m<+:m':=by
 refine w94 ?_
 have h1:(n:Int)<10:=by omega
 have h2:IntKind.u8.wrap (48+IntKind.u8.wrap (n:Int))=((48+n:Nat):Int):=by
  have:n=0∨n=1∨n=2∨n=3∨n=4∨n=5∨n=6∨n=7∨n=8∨n=9:=by omega
  rcases this with rfl|rfl|rfl|rfl|rfl|rfl|rfl|rfl|rfl|rfl<;>decide
 have hb:b2sE (m++ [ABlk.own [AVal.int IntKind.u8 ((48+n:Nat):Int)] 5 none]) (.slice m.length 0 1 1 none)=some (.str ⟨#[(48+n).toUInt8]⟩):=by
  have e1:(0:Int)≤((48+n:Nat):Int):=by omega
  have e2:((48+n:Nat):Int)<256:=by omega
  simp only[b2sE,readB_new,Option.bind_some]
  rw[show readN [AVal.int IntKind.u8 ((48+n:Nat):Int)] 0 1=some [AVal.int IntKind.u8 ((48+n:Nat):Int)] from rfl]
  simp only[Option.bind_some,toB,if_pos (And.intro e1 e2),Option.map_some,Int.toNat_natCast]
 simp[h1,fillA,setN,h2]
 simp at hb
 rw[hb]
 simp
theorem k94: ∀(f n:Nat) (m:AMem),n<10^(f+1)→n<2^60→f<2^60→ACalls Tryz.prog 94 [.int .i64 n] m fun v m'=>v= .str ⟨(digB (f+1) n).toArray⟩∧m<+:m'
 |0,n,m,hn,_,_=>by
  have hn:n<10:=by omega
  simp only[digB,if_pos hn]
  exact k94a n m hn
 |f+1,n,m,hn,h60,hf=>by
  by_cases h:n<10
  ·rw[digB,if_pos h]
   exact k94a n m h
  rw[digB,if_neg h]
  refine w94 ?_
  have h1: ¬(n:Int)<10:=by omega
  have h2:IntKind.i64.wrap ((n:Int) / 10)=((n / 10:Nat):Int):=wrap64 (by omega) (by omega)
  have h3:IntKind.i64.wrap ((n:Int)%10)=((n%10:Nat):Int):=wrap64 (by omega) (by omega)
  have hp:10^(f+1+1)=10*10^(f+1):=by rw[Nat.pow_succ,Nat.mul_comm]
  simp[h1,h2]
  refine C_of (k94 f (n / 10) m (by omega) (by omega) (by omega)) ?_
  rintro _ m1 ⟨rfl,hm1⟩
  simp[h3]
  refine C_of (k94a (n%10) m1 (Nat.mod_lt _ (by omega))) ?_
  rintro _ m2 ⟨rfl,hm2⟩
  have hadd:binStr .add ⟨(digB (f+1) (n / 10)).toArray⟩ ⟨#[(48+n%10).toUInt8]⟩=some (.str ⟨(digB (f+1) (n / 10)++ [(48+n%10).toUInt8]).toArray⟩):=str_add _ _ (by have:=digB_len (f+1) (n / 10);have e:(⟨#[(48+n%10).toUInt8]⟩:ByteArray).size=1:=rfl;omega)
  generalize (48+n%10).toUInt8=u8 at*
  simp[hadd,hm1.trans hm2]
theorem k93 (c:List AVal) (x:Md) (m:AMem) (hx:RMode m c x) (hs:shaped x) (hk:0≤x.kind∧x.kind<9):ACalls Tryz.prog 93 [.agg c] m fun v m'=>v= .str ⟨(plainT x).toArray⟩∧m<+:m':=by
 refine w93 ?_
 obtain ⟨e,nm,rfl,he,hn⟩:=hx
 have h1:=Sl.one he
 have h2:=Sl.one hn
 simp[h1,h2]
 have hb:readB (m++ [ABlk.own [AVal.int IntKind.i64 x.kind,AVal.int IntKind.i64 x.size,e,nm,AVal.int IntKind.i64 x.dims,AVal.bool x.flex] 39 none]) m.length=some [AVal.int IntKind.i64 x.kind,AVal.int IntKind.i64 x.size,e,nm,AVal.int IntKind.i64 x.dims,AVal.bool x.flex]:=readB_new ..
 have hm1:m<+:m++ [ABlk.own [AVal.int IntKind.i64 x.kind,AVal.int IntKind.i64 x.size,e,nm,AVal.int IntKind.i64 x.dims,AVal.bool x.flex] 39 none]:=List.prefix_append _ _
 generalize m++ [ABlk.own [AVal.int IntKind.i64 x.kind,AVal.int IntKind.i64 x.size,e,nm,AVal.int IntKind.i64 x.dims,AVal.bool x.flex] 39 none]=m1 at*
 generalize m.length=b4 at*
 have hsz:sizeOk x:=hs.2.2.2.2.1
 obtain ⟨J,hJ⟩: ∃J:AFrame→AMem→Prop,∀a' m',J a' m'↔(a'.forget [1,3]=mat 34 [(1,.ptr b4 0),(3,.str ⟨(sizeT x).toArray⟩)]∧m'=m1):=⟨_,fun _ _=>Iff.rfl⟩
 refine bbind_J J ?_ ?_
 ·by_cases e1:x.size=1
  ·simp[e1]
   exact (hJ _ _).2 ⟨by simp[sizeT,e1],rfl⟩
  by_cases e2:x.size= -1
  ·simp[e2,bx hb]
   exact (hJ _ _).2 ⟨by simp[sizeT,e2],rfl⟩
  simp[beqF e1,beqF e2,bx hb]
  exact (hJ _ _).2 ⟨by simp[sizeT,e1,e2],rfl⟩
 intro a m2 hJ2
 obtain ⟨hfa,rfl⟩:=(hJ _ _).1 hJ2
 simp[hfa,bx hb]
 have hs0: ¬(x.kind=3∨x.kind=4∨x.kind=5)→sizeT x= []:=fun h=>by
  unfold sizeOk at hsz
  rw[if_neg h] at hsz
  simp[sizeT,hsz]
 have hk9:x.kind=0∨x.kind=1∨x.kind=2∨x.kind=3∨x.kind=4∨x.kind=5∨x.kind=6∨x.kind=7∨x.kind=8:=by omega
 have hl:(sizeT x).length≤6:=by unfold sizeT;split;decide;split<;>decide
 have hadd: ∀t:ByteArray,t.size≤6→binStr .add ⟨(sizeT x).toArray⟩ t=some (.str ⟨(sizeT x++t.data.toList).toArray⟩):=fun t ht=>str_add _ _ (by omega)
 rcases hk9 with hk|hk|hk|hk|hk|hk|hk|hk|hk
 case inr.inr.inr.inl=>
  simp[hk,hadd ⟨#[73,78,84]⟩ (by decide),hm1,plainT,kindT]
 case inr.inr.inr.inr.inl=>
  simp[hk,hadd ⟨#[82,69,65,76]⟩ (by decide),hm1,plainT,kindT]
 case inr.inr.inr.inr.inr.inl=>
  simp[hk,hadd ⟨#[66,73,84,83]⟩ (by decide),hm1,plainT,kindT]
 all_goals simp[hk,hm1,plainT,kindT,hs0 (by omega)]
end Go.Proofs.YtlniliigcnedmaaGreatDoor
namespace Go.Proofs.YtlniliigcnedmaaGreatDoor
open Go Ax
set_option maxRecDepth 100000
structure WU (l:List Md) (m0:AMem) (b:Nat) (sT rk:AVal) (m:AMem) (sn:AVal) (s:List Nat):Prop where
 blk:m[b]? =some (.own [sT,rk,sn] 77 none)
 seen:OwL natI m0.length m 3 sn (s.map (RR l))
 pre:m0<+:m
 lo:m0.length≤b
section
variable {l:List Md} {m0:AMem} {b:Nat} {sT rk:AVal} {m m':AMem} {sn sn':AVal} {s:List Nat}
theorem WU.mono (h:WU l m0 b sT rk m sn s) (hm:m<+:m'):WU l m0 b sT rk m' sn s:=⟨own_mono h.blk hm,h.seen.mono hm,h.pre.trans hm,h.lo⟩
theorem WU.ne (h:WU l m0 b sT rk m sn s):sn.blk≠some b:=fun e=>by
 obtain ⟨bl,g,h3⟩:=h.seen.own e
 rw[h.blk] at h3
 simp at h3
theorem WU.lt (h:WU l m0 b sT rk m sn s):b<m.length:=(List.getElem?_eq_some_iff.1 h.blk).1
theorem WU.pre0 (h:WU l m0 b sT rk m sn s) (hc:WC b b sn m sn' m'):m0<+:m':=hc.1.pre h.pre fun c hc e=>by
 rcases e with e|e|e
 ·have:=h.lo;omega
 ·have:=h.lo;omega
 ·have:=(h.seen.blk_lo e).1;omega
end
def TextOK (l:List Md) (m0:AMem) (b:Nat) (sT rk:AVal) (f:Nat):Prop:=
 ∀(x:Nat) (m:AMem) (sn:AVal) (s:List Nat),WU l m0 b sT rk m sn s→Seen l s→x<l.length→l.length<f+s.length→
  ACalls Tryz.prog 49 [.ptr b 0,.int .i64 x] m fun v m'=> ∃sn',v= .str ⟨(txM l f s x).1.toArray⟩∧WU l m0 b sT rk m' sn' (txM l f s x).2∧WC b b sn m sn' m'
set_option maxHeartbeats 4000000 in
theorem list_ok {l:List Md} (ht:TxT l) (hF:Full l) {m0:AMem} {b:Nat} {sT rk:AVal} {f:Nat} (hM:TextOK l m0 b sT rk f) {t nm:AVal} {zs:List Nat} {items:List (Nat×List UInt8)} (hz: ∀z∈zs,z<l.length) (hzl:zs.length<2^40)
  {m:AMem} {sn:AVal} {s:List Nat} (hW:WU l m0 b sT rk m sn s) (hS:Seen l s) (hI:StI b b sn m t zs) (hN:Items nm b b sn m zs items) (hfu:l.length<f+s.length) (hB:(txL (txM l f) true s items).1.length≤2^60):
  ACalls Tryz.prog 95 [.ptr b 0,t,nm] m fun v m'=> ∃sn',v= .str ⟨(txL (txM l f) true s items).1.toArray⟩∧WU l m0 b sT rk m' sn' (txL (txM l f) true s items).2∧WC b b sn m sn' m':=by
 refine w95 ?_
 simp
 generalize hT:txL (txM l f) true s items=T at*
 obtain ⟨I,hI'⟩: ∃I:Nat→AFrame→AMem→Prop,∀q a m',I q a m'↔(∃(i:Nat) (bf':AVal) (bs':List UInt8) (s':List Nat),i+q=zs.length∧a=h95_0 (.ptr b 0) t nm (.str ⟨bs'.toArray⟩) (.int .i64 i)∧WU l m0 b sT rk m' bf' s'∧Seen l s'∧s.length≤s'.length∧WC b b sn m bf' m'∧
  bs'++(txL (txM l f) (i==0) s' (items.drop i)).1=T.1∧(txL (txM l f) (i==0) s' (items.drop i)).2=T.2):=⟨_,fun _ _ _=>Iff.rfl⟩
 refine W_loop I zs.length ((hI' _ _ _).2 ⟨0,sn,[],s,by simp,by simp,hW,hS,Nat.le_refl _,WC.refl ..,by simp[hT],by simp[hT]⟩) ?_
 rintro q a m2 hIn
 obtain ⟨i,bf2,bs2,s2,hi,rfl,hW2,hS2,hs2,hC2,e1,e2⟩:=(hI' _ _ _).1 hIn
 clear hIn
 have hlen:=(hI bf2 m2 hC2).len
 simp at hlen
 simp[hlen]
 refine bbind_dec (fun hil=>?_) fun hil=>?_
 ·have hil:i<zs.length:=by omega
  have hw:=step64 (k:=i) (n:=zs.length) hil (by omega)
  obtain ⟨q,rfl⟩: ∃q',q=q'+1:=⟨q-1,by omega⟩
  obtain ⟨b9,o9,g1,g2⟩:=(hI bf2 m2 hC2).at (i:=i) (by simpa using hil)
  simp at g2
  obtain ⟨tn,hat,hnm⟩:=hN.at hil
  have hdrop:items.drop i=(zs[i],tn)::items.drop (i+1):=by
   rw[List.drop_eq_getElem_cons (by rw[hN.len];exact hil)]
   congr 1
   have:=(List.getElem?_eq_some_iff.1 hat).2
   exact this
  rw[hdrop] at e1 e2
  simp only[txL] at e1 e2
  have hzi:=hz _ (List.getElem_mem hil)
  have hsn:=txM_seen ht hF f hS2 hzi
  have hBB:bs2.length+((if i==0 then [] else [44,32]:List UInt8)++((txM l f s2 zs[i]).1++(tn++(txL (txM l f) false (txM l f s2 zs[i]).2 (items.drop (i+1))).1))).length≤2^60:=by
   have:=congrArg List.length e1
   simp only[List.length_append,List.length_cons,List.length_nil] at this ⊢
   omega
  simp only[List.length_append] at hBB
  simp
  obtain ⟨pr,hpr⟩: ∃pr:List UInt8,pr=bs2++if i==0 then [] else [44,32]:=⟨_,rfl⟩
  have hprl:pr.length=bs2.length+(if i==0 then [] else [44,32]:List UInt8).length:=by rw[hpr,List.length_append]
  obtain ⟨J,hJ⟩: ∃J:AFrame→AMem→Prop,∀a' m',J a' m'↔(a'.forget [0,1,2,7,8]=mat 38 [(0,.ptr b 0),(1,t),(2,nm),(7,.str ⟨pr.toArray⟩),(8,.int .i64 i)]∧m'=m2):=⟨_,fun _ _=>Iff.rfl⟩
  refine bbind_J J ?_ ?_
  ·refine bbind_dec (fun h0=>?_) fun h0=>?_
   ·have h0':(i==0)=false:=by simp;omega
    have hadd:binStr .add ⟨bs2.toArray⟩ ⟨#[44,32]⟩=some (.str ⟨(bs2++ [44,32]).toArray⟩):=str_add _ _ (by show _+2≤_;omega)
    simp[hadd]
    refine (hJ _ _).2 ⟨?_,rfl⟩
    rw[hpr,h0']
    simp
   ·have h0':(i==0)=true:=by simp;omega
    simp
    refine (hJ _ _).2 ⟨?_,rfl⟩
    rw[hpr,h0']
    simp
  ·intro a m3 hJ3
   obtain ⟨hfa,rfl⟩:=(hJ _ _).1 hJ3
   clear hJ3 hJ J
   simp[hfa,g1,g2]
   refine C_of (hM zs[i] m3 bf2 s2 hW2 hS2 hzi (by omega)) ?_
   rintro _ m4 ⟨bf4,rfl,hW4,hC4⟩
   have hC24:=hC2.trans hC4
   have hadd:binStr .add ⟨pr.toArray⟩ ⟨(txM l f s2 zs[i]).1.toArray⟩=some (.str ⟨(pr++(txM l f s2 zs[i]).1).toArray⟩):=str_add _ _ (by rw[ba_size];omega)
   generalize hX:txM l f s2 zs[i]=X at*
   simp[hadd]
   rcases hnm with ⟨rfl,rfl⟩|⟨ns,hns,hst,hin,rfl⟩
   ·simp[hw]
    refine ⟨q,by omega,(hI' _ _ _).2 ⟨i+1,bf4,pr++X.1,_,by omega,by simp,hW4,hsn.1,by omega,hC24,?_,?_⟩⟩
    ·rw[show (i+1==0)=false from rfl,←e1,hpr]
     simp[List.append_assoc]
    ·rw[show (i+1==0)=false from rfl]
     exact e2
   ·obtain ⟨b8,o8,p1,p2⟩:=(hst bf4 m4 hC24).at (i:=i) hin
    have hnl:=(hst bf4 m4 hC24).len
    have hn0:(0:Int)<ns.length:=by omega
    have hadd2:binStr .add ⟨(pr++X.1).toArray⟩ ⟨#[32]⟩=some (.str ⟨(pr++X.1++ [32]).toArray⟩):=str_add _ _ (by show _+1≤_;simp only[List.length_append] at hBB ⊢;omega)
    have hsz:ns[i].size=ns[i].data.toList.length:=by rw[Array.length_toList];rfl
    have hadd3:binStr .add ⟨(pr++X.1++ [32]).toArray⟩ ns[i]=some (.str ⟨(pr++X.1++ [32]++ns[i].data.toList).toArray⟩):=str_add _ _ (by simp only[List.length_append,List.length_cons,List.length_nil] at hBB ⊢;omega)
    have hn0':0<ns.length:=by omega
    obtain ⟨R,hR⟩: ∃R:List UInt8,R=pr++X.1:=⟨_,rfl⟩
    rw[←hR] at hadd2 hadd3 ⊢
    obtain ⟨Q,hQ⟩: ∃Q:List UInt8,Q=R++ [32]:=⟨_,rfl⟩
    rw[←hQ] at hadd2 hadd3
    obtain ⟨V,hV⟩: ∃V:List UInt8,V=Q++ns[i].data.toList:=⟨_,rfl⟩
    rw[←hV] at hadd3
    simp[hnl,hn0',hadd2,p1,p2,hadd3,hw]
    refine ⟨q,by omega,(hI' _ _ _).2 ⟨i+1,bf4,V,_,by omega,by simp,hW4,hsn.1,by omega,hC24,?_,?_⟩⟩
    ·rw[show (i+1==0)=false from rfl,←e1,hV,hQ,hR,hpr]
     simp[List.append_assoc]
    ·rw[show (i+1==0)=false from rfl]
     exact e2
 ·have hil:i=zs.length:=by omega
  subst hil
  rw[List.drop_eq_nil_of_le (by rw[hN.len];omega)] at e1 e2
  simp only[txL,List.append_nil] at e1 e2
  subst e1 e2
  simp
  exact ⟨bf2,hW2,hC2⟩
end Go.Proofs.YtlniliigcnedmaaGreatDoor
namespace Go.Proofs.YtlniliigcnedmaaGreatDoor
open Go Ax
set_option maxRecDepth 100000
theorem agg_store {m:AMem} {b n:Nat} {z cs:List AVal} {ty:TypeId} {g:Option Nat} (h:m[b]? =some (.own z ty g)) (h1:cs.length=n) (h2:z.length=n) (h3:cs.all AVal.one=true): ∃m',storeE m n (.ptr b 0) (.agg cs)=some (.undef,m')∧m'[b]? =some (.own cs ty g)∧Ch (fun c=>c=b) m m':=by
 refine ⟨m.set b (.own cs ty g),?_,List.getElem?_set_self (List.getElem?_eq_some_iff.1 h).1,Ch.setS _ rfl⟩
 have hs:setN z 0 cs=cs:=by
  apply List.ext_getElem?
  intro i
  rw[setN_get _ _ _ _ (by omega)]
  by_cases hi:i<cs.length
  ·rw[if_pos (by omega)];simp
  ·rw[if_neg (by omega),List.getElem?_eq_none (by omega),List.getElem?_eq_none (by omega)]
 simp only[storeE,AVal.cells,h1,writeB,h]
 simp[h3,hs,h1,h2]
def OwM (lo:Nat) (m:AMem) (c:List AVal) (x:Md):Prop:= ∃e nm,c= [.int .i64 x.kind,.int .i64 x.size,e,nm,.int .i64 x.dims,.bool x.flex]∧OwL (AVal.int .i64) lo m 3 e x.elems∧OwL AVal.str lo m 9 nm x.names
theorem OwM.mode {lo:Nat} {m:AMem} {c:List AVal} {x:Md} (h:OwM lo m c x):RMode m c x:=by
 obtain ⟨e,nm,rfl,h1,h2⟩:=h
 exact ⟨e,nm,rfl,h1.ints,Ow.sl h2⟩
theorem OwM.mono {lo:Nat} {m m':AMem} {c:List AVal} {x:Md} (h:OwM lo m c x) (hm:m<+:m'):OwM lo m' c x:=by
 obtain ⟨e,nm,rfl,h1,h2⟩:=h
 exact ⟨e,nm,rfl,h1.mono hm,h2.mono hm⟩
theorem OwM.lo {lo lo':Nat} {m:AMem} {c:List AVal} {x:Md} (h:OwM lo m c x) (hl:lo'≤lo):OwM lo' m c x:=by
 obtain ⟨e,nm,rfl,h1,h2⟩:=h
 exact ⟨e,nm,rfl,h1.lo' hl,h2.lo' hl⟩
theorem OwM.ch {S:Nat→Prop} {lo:Nat} {m m':AMem} {c:List AVal} {x:Md} (h:OwM lo m c x) (hc:Ch S m m') (hs: ∀b,S b→b<lo):OwM lo m' c x:=by
 obtain ⟨e,nm,rfl,h1,h2⟩:=h
 exact ⟨e,nm,rfl,h1.ch hc fun b hb hS=>by have:=(h1.blk_lo hb).1;have:=hs b hS;omega,h2.ch hc fun b hb hS=>by have:=(h2.blk_lo hb).1;have:=hs b hS;omega⟩
theorem cellsInts {m:AMem} {s:AVal} {xs:List Int} (h:RInts m s xs):sliceCells m 1 s=some (xs.length,xs.map fun x=> .int .i64 x):=Sl.cells h
theorem cellsStrs {m:AMem} {s:AVal} {xs:List ByteArray} (h:RStrs m s xs):sliceCells m 1 s=some (xs.length,xs.map fun x=> .str x):=Sl.cells h
set_option maxHeartbeats 2000000 in
theorem k60 (c:List AVal) (x:Md) (m:AMem) (hx:RMode m c x) (hsz:x.elems.length<2^40∧x.names.length<2^40):
  ACalls Tryz.prog 60 [.agg c] m fun v m'=>m<+:m'∧ ∃c',v= .agg c'∧OwM m.length m' c' x:=by
 obtain ⟨e,nm,rfl,he,hnm⟩:=hx
 refine w60 ?_
 have h1:=Sl.one he
 have h2:=Sl.one hnm
 simp[h1,h2]
 have hbA:(m++ [ABlk.own [.int .i64 x.kind,.int .i64 x.size,e,nm,.int .i64 x.dims,.bool x.flex] 39 none,ABlk.own [.int .i64 0,.int .i64 0,.nilslice,.nilslice,.int .i64 0,.bool false] 39 none])[m.length]? =some (ABlk.own [.int .i64 x.kind,.int .i64 x.size,e,nm,.int .i64 x.dims,.bool x.flex] 39 none):=by simp
 have hbB:(m++ [ABlk.own [.int .i64 x.kind,.int .i64 x.size,e,nm,.int .i64 x.dims,.bool x.flex] 39 none,ABlk.own [.int .i64 0,.int .i64 0,.nilslice,.nilslice,.int .i64 0,.bool false] 39 none])[m.length+1]? =some (ABlk.own [.int .i64 0,.int .i64 0,.nilslice,.nilslice,.int .i64 0,.bool false] 39 none):=by rw[List.getElem?_append_right (by omega)];simp
 have hm01:m<+:m++ [ABlk.own [.int .i64 x.kind,.int .i64 x.size,e,nm,.int .i64 x.dims,.bool x.flex] 39 none,ABlk.own [.int .i64 0,.int .i64 0,.nilslice,.nilslice,.int .i64 0,.bool false] 39 none]:=List.prefix_append _ _
 have hl:(m++ [ABlk.own [.int .i64 x.kind,.int .i64 x.size,e,nm,.int .i64 x.dims,.bool x.flex] 39 none,ABlk.own [.int .i64 0,.int .i64 0,.nilslice,.nilslice,.int .i64 0,.bool false] 39 none]).length=m.length+2:=by simp
 generalize m++ [ABlk.own [.int .i64 x.kind,.int .i64 x.size,e,nm,.int .i64 x.dims,.bool x.flex] 39 none,ABlk.own [.int .i64 0,.int .i64 0,.nilslice,.nilslice,.int .i64 0,.bool false] 39 none]=m1 at*
 -- the numbers
 have hN:=OwL.new (f:=AVal.int .i64) m1 3 []
 have hm12:m1<+:m1++ [.own ([].map (AVal.int .i64)) 3 none]:=List.prefix_append _ _
 simp[fillA] at hN ⊢
 replace hm12:m1<+:m1++ [.own [] 3 none]:=hm12
 have hl2:=hm12.length_le
 generalize m1++ [.own [] 3 none]=m2 at*
 have hr2:=bx (own_read (own_mono hbA hm12)) 2
 simp at hr2
 obtain ⟨t1,m3,happ,hch3,hO,hbl⟩:=hN.append (by omega) (by_:=8) (by decide) x.elems (by simp;omega)
 have hm03:m<+:m3:=hch3.pre (hm01.trans hm12) fun b hb h=>by simp[AVal.blk] at h;omega
 have hbA3:=own_ch (own_mono hbA hm12) hch3 fun h=>by simp[AVal.blk] at h;omega
 have hbB3:=own_ch (own_mono hbB hm12) hch3 fun h=>by simp[AVal.blk] at h;omega
 have hO1:OwL (AVal.int .i64) m1.length m3 3 t1 x.elems:=by simpa using hO
 have ts:=(Ow.sl hO1).self
 obtain ⟨m4,hst4,hbA4,hch4⟩:=fld_store (i:=2) hbA3 (by simp) ts.2 ts.1
 simp[hr2,cellsInts (he.mono (hm01.trans hm12)),happ,hst4]
 have hm04:m<+:m4:=hch4.pre hm03 fun b hb h=>by omega
 have hbB4:=own_ch hbB3 hch4 fun h=>by omega
 have hO4:=hO1.ch hch4 fun b hb h=>by have:=(hO1.blk_lo hb).1;omega
 have hl34:m3.length≤m4.length:=hch4.len
 have hl23:m2.length≤m3.length:=hch3.len
 simp at hbA4
 clear hst4 happ hN hr2 hch3 hch4 hO hO1 hbA3 hbB3
 -- the texts
 have hN:=OwL.new (f:=AVal.str) m4 9 []
 have hm45:m4<+:m4++ [.own ([].map AVal.str) 9 none]:=List.prefix_append _ _
 simp[fillA] at hN ⊢
 replace hm45:m4<+:m4++ [.own [] 9 none]:=hm45
 have hl5:=hm45.length_le
 generalize m4++ [.own [] 9 none]=m5 at*
 have hr5:=bx (own_read (own_mono hbA4 hm45)) 3
 simp at hr5
 obtain ⟨t2,m6,happ,hch6,hO,hbl2⟩:=hN.append (by omega) (by_:=16) (by decide) x.names (by simp;omega)
 have hm06:m<+:m6:=hch6.pre (hm04.trans hm45) fun b hb h=>by simp[AVal.blk] at h;have:=hm04.length_le;omega
 have hbA6:=own_ch (own_mono hbA4 hm45) hch6 fun h=>by simp[AVal.blk] at h;have:=hm04.length_le;omega
 have hbB6:=own_ch (own_mono hbB4 hm45) hch6 fun h=>by simp[AVal.blk] at h;omega
 have hO6:OwL AVal.str m4.length m6 9 t2 x.names:=by simpa using hO
 have hI6:=(hO4.mono hm45).ch hch6 fun b hb h=>by simp[AVal.blk] at h;have:=(hO4.blk_lo hb).2;omega
 have ts2:=(Ow.sl hO6).self
 obtain ⟨m7,hst7,hbA7,hch7⟩:=fld_store (i:=3) hbA6 (by simp) ts2.2 ts2.1
 simp[hr5,cellsStrs (hnm.mono (hm04.trans hm45)),happ,hst7]
 have hm07:m<+:m7:=hch7.pre hm06 fun b hb h=>by omega
 have hbB7:=own_ch hbB6 hch7 fun h=>by omega
 have hO7:=hO6.ch hch7 fun b hb h=>by have:=(hO6.blk_lo hb).1;omega
 have hI7:=hI6.ch hch7 fun b hb h=>by have:=(hI6.blk_lo hb).1;omega
 simp at hbA7
 have hrA:=bxW (own_read hbA7) 6
 simp[readN] at hrA
 have hall: [AVal.int .i64 x.kind,.int .i64 x.size,t1,t2,.int .i64 x.dims,.bool x.flex].all AVal.one=true:=by simp[ts.1,ts2.1]
 obtain ⟨m8,hst8,hbB8,hch8⟩:=agg_store (n:=6) hbB7 (cs:= [.int .i64 x.kind,.int .i64 x.size,t1,t2,.int .i64 x.dims,.bool x.flex]) rfl rfl hall
 have hrB:=bxW (own_read hbB8) 6
 simp[readN] at hrB
 simp[hrA,hst8,hrB]
 exact ⟨hch8.pre hm07 fun b hb h=>by omega,t1,t2,rfl,(hI7.ch hch8 fun b hb h=>by have:=(hI7.blk_lo hb).1;omega).lo' (by omega),(hO7.ch hch8 fun b hb h=>by have:=(hO7.blk_lo hb).1;omega).lo' (by omega)⟩
theorem OwT.pushM {lo:Nat} {m:AMem} {s:AVal} {l:List Md} (h:OwT lo m s l) (hlo:lo≤m.length) {c:List AVal} {x:Md} {q:Nat} (hx:OwM q m c x) (hq: ∀b,s.blk=some b→b<q) (hlq:lo≤q) (hn:l.length<2^30):
  ∃s' m',appendE m 6 80 39 s 1 c=some (s',m')∧Ch (fun b=>s.blk=some b) m m'∧OwT lo m' s' (l++ [x])∧(∀b,s'.blk=some b→s.blk=some b∨m.length≤b):=
 h.push hlo (fun _ hc=>(hx.ch hc fun b hb=>by rcases hb with hb|hb;exact hq b hb;omega).mode) hn
theorem lit6 (m:AMem) (c:List AVal) (hc:c.length=6) (g:Option Nat):sliceCells (m++ [.own c 39 g]) 6 (.slice m.length 0 1 1 none)=some (1,c):=by
 simp[sliceCells,readB,ABlk.cells,readN,hc,List.take_of_length_le]
theorem lit6' {m:AMem} {b:Nat} {c:List AVal} {g:Option Nat} (h:m[b]? =some (.own c 39 g)) (hc:c.length=6):sliceCells m 6 (.slice b 0 1 1 none)=some (1,c):=by
 simp[sliceCells,readB,h,ABlk.cells,readN,hc,List.take_of_length_le]
set_option maxHeartbeats 2000000 in
theorem k76 (s:AVal) (l:List Md) (m:AMem) (hs:RTab m s l) (hsz: ∀x∈l,x.elems.length<2^40∧x.names.length<2^40) (hn:l.length<2^20):
  ACalls Tryz.prog 76 [s] m fun v m'=>m<+:m'∧OwT m.length m' v l:=by
 refine w76 ?_
 simp
 obtain ⟨I,hI⟩: ∃I:Nat→AFrame→AMem→Prop,∀q f m',I q f m'↔(∃(k:Nat) (o:AVal),k+q=l.length∧f=h76_0 s o (.int .i64 k)∧m<+:m'∧OwT m.length m' o (l.take k)):=⟨_,fun _ _ _=>Iff.rfl⟩
 refine W_loop I l.length ((hI _ _ _).2 ⟨0,.nilslice,by simp,by simp,List.prefix_refl _,[],.nil,by simp⟩) ?_
 rintro q f m1 hIn
 obtain ⟨k,o,hk,rfl,hm1,hO⟩:=(hI _ _ _).1 hIn
 clear hIn
 simp[(hs.mono hm1).len]
 refine bbind_dec (fun hkl=>?_) fun hkl=>?_
 ·have hkl:k<l.length:=by omega
  have hw:=step64 (k:=k) (n:=l.length) hkl (by omega)
  obtain ⟨q,rfl⟩: ∃q',q=q'+1:=⟨q-1,by omega⟩
  obtain ⟨bx',ox,c,h4,h5,_,_,h6⟩:=(hs.mono hm1).atC hkl
  simp[h4,h5]
  refine C_of (k60 c l[k] m1 h6 (hsz _ (List.getElem_mem hkl))) ?_
  rintro _ m2 ⟨hm2,c',rfl,hM⟩
  have hcl:=hM.mode.all
  have hm23:m2<+:m2++ [ABlk.own c' 39 none]:=List.prefix_append _ _
  have hsc:=lit6 m2 c' hcl.1 none
  have hOb: ∀b,o.blk=some b→b<m1.length:=fun b hb=>(hO.blk_lo hb).2
  obtain ⟨e,nm,hce,_,_⟩:=id hM
  have hfill:fillA [.int .i64 0,.int .i64 0,.nilslice,.nilslice,.int .i64 0,.bool false] [(0,6,.agg c')]=some c':=by
   subst hce
   have h:=hcl.2
   simp only[List.all_cons,List.all_nil,Bool.and_eq_true] at h
   simp[fillA,setN,h.2.2.1,h.2.2.2.1]
  simp[hfill]
  generalize m2++ [ABlk.own c' 39 none]=m3 at*
  have hm13:=hm2.trans hm23
  obtain ⟨o',m4,happ,hch,hO4,_⟩:=(hO.mono hm13).pushM (by have:=(hm1.trans hm13).length_le;omega) (hM.mono hm23) hOb (by have:=hm1.length_le;omega) (by simp;omega)
  simp[hsc,happ,hw]
  refine ⟨q,by omega,(hI _ _ _).2 ⟨k+1,o',by omega,by simp,hch.pre (hm1.trans hm13) fun b hb h=>by have:=(hO.blk_lo h).1;omega,?_⟩⟩
  rw[List.take_add_one,List.getElem?_eq_getElem hkl]
  exact hO4
 ·have hkl:k=l.length:=by omega
  subst hkl
  rw[List.take_length] at hO
  simp
  exact ⟨hm1,hO⟩
end Go.Proofs.YtlniliigcnedmaaGreatDoor
namespace Go.Proofs.YtlniliigcnedmaaGreatDoor.Ax
open Go Go.ChangeShapes Go.WideShapes Go.ChangeAt Go.RowKit
set_option maxRecDepth 100000
def RoMem (m:AMem):Prop:= ∀(b:Nat) blk,m[b]? =some blk→blk.isOwn=false
theorem Sim.nil (w:World):Sim [] [] w:=⟨rfl,by simp,by simp,by simp⟩
theorem RoMem.nil:RoMem []:=by intro b blk h;simp at h
theorem Sim.ro {ρ:List RB} {m:AMem} {w:World} (h:Sim ρ m w) (hm:RoMem m) {a:RB} (cs:List AVal) (ha:a.block<w.heap.size) (hc: ∀(i:Nat) x,cs[i]? =some x→ ∃v,w.cell? (at_ a i)=some v∧VR ρ x v):
  Sim (ρ++ [a]) (m++ [.ro cs]) w∧RoMem (m++ [.ro cs]):=by
 have hp:ρ<+:ρ++ [a]:=List.prefix_append _ _
 have hr:RoMem (m++ [.ro cs]):=by
  intro b blk hb
  rcases Nat.lt_or_ge b m.length with hlt|hge
  ·rw[List.getElem?_append_left hlt] at hb;exact hm b blk hb
  ·rw[List.getElem?_append_right hge] at hb
   cases hk:b-m.length with
   |zero=>rw[hk] at hb;simp at hb;subst hb;rfl
   |succ k=>rw[hk] at hb;simp at hb
 refine ⟨⟨by simp[h.len],?_,?_,?_⟩,hr⟩
 ·intro b blk a' hb ha'
  rcases Nat.lt_or_ge b m.length with hlt|hge
  ·rw[List.getElem?_append_left hlt] at hb
   rw[List.getElem?_append_left (by rw[h.len];exact hlt)] at ha'
   exact (h.ok b blk a' hb ha').mono hp
  ·rw[List.getElem?_append_right hge] at hb
   rw[List.getElem?_append_right (by rw[h.len];exact hge),h.len] at ha'
   cases hk:b-m.length with
   |zero=>
    rw[hk] at hb ha'
    simp only[List.getElem?_cons_zero,Option.some.injEq] at hb ha'
    subst hb ha'
    intro i x hx
    obtain ⟨v,h1,h2⟩:=hc i x hx
    exact ⟨v,h1,VR.mono hp x v h2⟩
   |succ k=>rw[hk] at hb;simp at hb
 ·intro b b' blk blk' a1 a2 _ hb _ _ _ ho
  rw[hr b blk hb] at ho
  simp at ho
 ·intro b a' ha'
  rcases Nat.lt_or_ge b ρ.length with hlt|hge
  ·rw[List.getElem?_append_left hlt] at ha';exact h.bound b a' ha'
  ·rw[List.getElem?_append_right hge] at ha'
   cases hk:b-ρ.length with
   |zero=>rw[hk] at ha';simp at ha';subst ha';exact ha
   |succ k=>rw[hk] at ha';simp at ha'
theorem slice_in {ρ:List RB} {m:AMem} {w:World} (h:Sim ρ m w) (hm:RoMem m) (hne:0<w.heap.size) {a:Addr} {len cap esz:Nat} (hlc:len≤cap)
  (hcell:cap≠0→ ∃v,w.cell? a=some v) {xs:List AVal} (hx:xs.length=len*esz) (hc: ∀(i:Nat) x,xs[i]? =some x→ ∃v,w.cell? (a.add i)=some v∧VR ρ x v):
  ∃ρ' m' s,ρ<+:ρ'∧m<+:m'∧RoMem m'∧Sim ρ' m' w∧VR ρ' s (.slice (some a) len cap)∧Sl m' esz s len xs:=by
 by_cases hcap:cap=0
 ·subst hcap
  obtain rfl:len=0:=by omega
  obtain rfl:xs= []:=List.eq_nil_of_length_eq_zero (by simpa using hx)
  obtain ⟨h1,h2⟩:=h.ro hm (a:=⟨0,0,0,0⟩) [] hne (by simp)
  refine ⟨_,_,.slice m.length 0 0 0 none,List.prefix_append _ _,List.prefix_append _ _,h2,h1,?_,.inr ⟨_,_,_,_,rfl,⟨by omega,.inl rfl⟩,.inl ⟨rfl,rfl⟩⟩⟩
  simp only[VR]
  exact ⟨⟨0,0,0,0⟩,a,0,rfl,by rw[←h.len];simp,by simp,by omega,by simp,by omega,by simp⟩
 ·obtain ⟨v0,hv0⟩:=hcell hcap
  have hs:=World.cell?_spot hv0
  obtain ⟨b,off,sp⟩:=a
  simp only at hs
  subst hs
  have hb:b<w.heap.size:=by
   rcases Nat.lt_or_ge b w.heap.size with hlt|hge
   ·exact hlt
   ·unfold World.cell? at hv0
    simp only[Array.getElem?_eq_none hge] at hv0
    simp at hv0
  obtain ⟨h1,h2⟩:=h.ro hm (a:=⟨b,off,0,0⟩) xs hb fun i x hx=>by
   obtain ⟨v,h1,h2⟩:=hc i x hx
   rw[Go.WideShapes.add_plain] at h1
   exact ⟨v,h1,h2⟩
  refine ⟨_,_,.slice m.length 0 len cap none,List.prefix_append _ _,List.prefix_append _ _,h2,h1,?_,.inr ⟨_,_,_,_,rfl,⟨hlc,.inl rfl⟩,?_⟩⟩
  ·simp only[VR]
   exact ⟨⟨b,off,0,0⟩,_,cap,rfl,by rw[←h.len];simp,by simp,hlc,by simp,by omega,by simp⟩
  ·by_cases hl:len=0
   ·subst hl
    exact .inl ⟨rfl,List.eq_nil_of_length_eq_zero (by simpa using hx)⟩
   ·refine .inr ⟨hl,xs,by simp[readB,ABlk.cells],?_⟩
    have h0:0+len*esz≤xs.length:=by omega
    unfold readN
    rw[if_pos h0,List.drop_zero,List.take_of_length_le (by omega)]
def Enters (w:World) (vs:List Value) (Rep:AMem→List AVal→Prop):Prop:=
 ∀ρ m,Sim ρ m w→RoMem m→ ∃ρ' m' xs,ρ<+:ρ'∧m<+:m'∧RoMem m'∧Sim ρ' m' w∧VRs ρ' xs vs∧Rep m' xs
variable {H:Type} {enc:TypeId×Value→H} {P:Program} {w:World} {base:Nat} {spare:Nat→Bool} {held:Bool}
theorem enters_ints (hne:0<w.heap.size) {t e:TypeId} {fuel:Nat} {cs:List Value} {x:DataW H×List MemPlace} (ht:P.underlying t=some (.slice e)) (he:P.underlying e=some (.int .i64)) (hc:P.cellsOf e=1)
  (h:DataW.trod enc P w base (fun _=>true) held fuel t cs=some x):
  ∃zs:List Int,Enters w cs (fun m xs=> ∃s,xs= [s]∧RInts m s zs)∧(P.bytesOf e=8→ ∀B,(x.1.weights P t).all (· ≤B)=true→zs.length≤B):=by
 rcases open_ints ht he hc h with ⟨rfl,rfl⟩|⟨a,len,cap,zs,rfl,_,hlc,_,hz,rfl,hcell,_⟩
 ·exact ⟨[],fun ρ m hs hm=>⟨ρ,m,[.nilslice],List.prefix_refl _,List.prefix_refl _,hm,hs,by simp[VRs,VR],.nilslice,rfl,Sl.nil⟩,by simp⟩
 ·simp only[if_true] at hz
  refine ⟨zs.take len,fun ρ m hs hm=>?_,?_⟩
  ·obtain ⟨ρ',m',s,h1,h2,h3,h4,h5,h6⟩:=slice_in (esz:=1) hs hm hne hlc (fun hcap=>⟨_,by have:=hcell 0 (by omega);simpa[Addr.add] using this⟩) (xs:=(zs.take len).map fun x=> .int .i64 x) (by simp;omega)
    (fun i x hx=>by
     simp only[List.getElem?_map,Option.map_eq_some_iff] at hx
     obtain ⟨z,hz',rfl⟩:=hx
     have hi:i<zs.length:=by
      have:=(List.getElem?_eq_some_iff.1 hz').1
      simp at this;omega
     have hg:zs[i]? =some z:=by
      rw[List.getElem?_take] at hz'
      split at hz'
      ·exact hz'
      ·simp at hz'
     exact ⟨_,hcell i hi,by simp[VR,List.getD,hg]⟩)
   refine ⟨ρ',m',[s],h1,h2,h3,h4,by simp only[VRs];exact ⟨_,_,rfl,h5,rfl⟩,s,rfl,?_⟩
   have hl:(zs.take len).length=len:=by simp;omega
   unfold RInts
   rw[hl]
   exact h6
  ·intro hb B hB
   simp only[DataW.weights,ht,List.all_cons,Bool.and_eq_true,decide_eq_true_eq] at hB
   have:=hB.1
   rw[hb] at this
   simp[lits] at this ⊢
   omega
theorem enters_strs (hne:0<w.heap.size) {t e:TypeId} {fuel:Nat} {cs:List Value} {x:DataW H×List MemPlace} (ht:P.underlying t=some (.slice e)) (he:P.underlying e=some .string) (hc:P.cellsOf e=1)
  (h:DataW.trod enc P w base (fun _=>true) held fuel t cs=some x):
  ∃zs:List ByteArray,Enters w cs (fun m xs=> ∃s,xs= [s]∧RStrs m s zs)∧(P.bytesOf e=16→ ∀B,(x.1.weights P t).all (· ≤B)=true→zs.length≤B∧ ∀z∈zs,z.size≤B):=by
 rcases open_strings ht he hc h with ⟨rfl,rfl⟩|⟨a,len,cap,zs,rfl,_,hlc,_,hz,rfl,hcell,_⟩
 ·exact ⟨[],fun ρ m hs hm=>⟨ρ,m,[.nilslice],List.prefix_refl _,List.prefix_refl _,hm,hs,by simp[VRs,VR],.nilslice,rfl,Sl.nil⟩,by simp⟩
 ·simp only[if_true] at hz
  refine ⟨zs.take len,fun ρ m hs hm=>?_,?_⟩
  ·obtain ⟨ρ',m',s,h1,h2,h3,h4,h5,h6⟩:=slice_in (esz:=1) hs hm hne hlc (fun hcap=>⟨_,by have:=hcell 0 (by omega);simpa[Addr.add] using this⟩) (xs:=(zs.take len).map fun x=> .str x) (by simp;omega)
    (fun i x hx=>by
     simp only[List.getElem?_map,Option.map_eq_some_iff] at hx
     obtain ⟨z,hz',rfl⟩:=hx
     have hi:i<zs.length:=by
      have:=(List.getElem?_eq_some_iff.1 hz').1
      simp at this;omega
     have hg:zs[i]? =some z:=by
      rw[List.getElem?_take] at hz'
      split at hz'
      ·exact hz'
      ·simp at hz'
     exact ⟨_,hcell i hi,by simp[VR,List.getD,hg]⟩)
   refine ⟨ρ',m',[s],h1,h2,h3,h4,by simp only[VRs];exact ⟨_,_,rfl,h5,rfl⟩,s,rfl,?_⟩
   have hl:(zs.take len).length=len:=by simp;omega
   unfold RStrs
   rw[hl]
   exact h6
  ·intro hb B hB
   simp only[DataW.weights,ht,List.all_cons,Bool.and_eq_true,decide_eq_true_eq,List.all_append] at hB
   obtain ⟨h1,h2,_⟩:=hB
   rw[hb] at h1
   refine ⟨by simp[strs] at h1 ⊢;omega,fun z hz'=>?_⟩
   have key: ∀l:List ByteArray,(DataW.weightsAll (H:=H) P e (strs l)).all (· ≤B)=true→ ∀z∈l,z.size≤B:=by
    intro l
    induction l with
    |nil=>simp
    |cons y ys ih=>
     intro hl z hz
     simp only[strs,List.map_cons,DataW.weightsAll,DataW.weights,List.cons_append,List.nil_append,List.all_cons,Bool.and_eq_true,decide_eq_true_eq] at hl
     rcases List.mem_cons.1 hz with rfl|hz
     ·have:=hl.1;simpa using this
     ·exact ih (by simpa[strs] using hl.2) z hz
   exact key _ h2 z hz'
structure ModeT (P:Program) where
 tT:TypeId
 tM:TypeId
 tI:TypeId
 eI:TypeId
 tS:TypeId
 eS:TypeId
 k0:TypeId
 k1:TypeId
 k4:TypeId
 k5:TypeId
 fs:Array Field
 hT:P.underlying tT=some (.slice tM)
 hM:P.underlying tM=some (.struct fs)
 hI:P.underlying tI=some (.slice eI)
 hi:P.underlying eI=some (.int .i64)
 hS:P.underlying tS=some (.slice eS)
 hs:P.underlying eS=some .string
 h0:P.underlying k0=some (.int .i64)
 h1:P.underlying k1=some (.int .i64)
 h4:P.underlying k4=some (.int .i64)
 h5:P.underlying k5=some .bool
 cM:P.cellsOf tM=6
 ci:P.cellsOf eI=1
 cs:P.cellsOf eS=1
 c0:P.cellsOf k0=1
 c1:P.cellsOf k1=1
 cI:P.cellsOf tI=1
 cS:P.cellsOf tS=1
 c4:P.cellsOf k4=1
 c5:P.cellsOf k5=1
 bi:P.bytesOf eI=8
 bs:P.bytesOf eS=16
 bM:1≤P.bytesOf tM
 sz:fs.size=6
 f0:(fs[0]?).map (fun f=>(f.type,f.offset))=some (k0,0)
 f1:(fs[1]?).map (fun f=>(f.type,f.offset))=some (k1,1)
 f2:(fs[2]?).map (fun f=>(f.type,f.offset))=some (tI,2)
 f3:(fs[3]?).map (fun f=>(f.type,f.offset))=some (tS,3)
 f4:(fs[4]?).map (fun f=>(f.type,f.offset))=some (k4,4)
 f5:(fs[5]?).map (fun f=>(f.type,f.offset))=some (k5,5)
structure MdB (B:Nat) (x:Md):Prop where
 elems:x.elems.length≤B
 names:x.names.length≤B
 each: ∀z∈x.names,z.size≤B
theorem field_of {fs:Array Field} {i:Nat} {t:TypeId} {o:Nat} (h:(fs[i]?).map (fun f=>(f.type,f.offset))=some (t,o)): ∃f,fs[i]? =some f∧f.type=t∧f.offset=o:=by
 cases hf:fs[i]? with
 |none=>rw[hf] at h;simp at h
 |some f=>rw[hf] at h;simp at h;exact ⟨f,rfl,h.1,h.2⟩
theorem weights_parts {e:TypeId} {fs:Array Field} (ht:P.underlying e=some (.struct fs)) {xs:List (DataW H×List MemPlace)} {i:Nat} {f:Field} {y:DataW H×List MemPlace} (hf:fs[i]? =some f) (hy:xs[i]? =some y) {B:Nat}
  (h:((DataW.agg (xs.map (·.1))).weights P e).all (· ≤B)=true):(y.1.weights P f.type).all (· ≤B)=true:=by
 simp only[DataW.weights,ht] at h
 rw[List.all_eq_true] at h ⊢
 intro n hn
 exact h n (DataW.weights_mem_each (j:=i) (t:=f.type) (d:=y.1) (by simp[hf]) (by simp[hy]) n hn)
theorem enters_mode (hne:0<w.heap.size) (T:ModeT P) {fuel:Nat} {cs:List Value} {x:DataW H×List MemPlace} (h:DataW.trod enc P w base (fun _=>true) held fuel T.tM cs=some x):
  ∃md:Md,Enters w cs (fun m xs=>RMode m xs md)∧(∀B,(x.1.weights P T.tM).all (· ≤B)=true→MdB B md):=by
 obtain ⟨xs,n,_,rfl,hl,hxl,hall⟩:=DataW.trod_struct T.hM h
 rw[T.cM] at hl
 rw[T.sz] at hxl
 obtain ⟨c0,c1,c2,c3,c4,c5,rfl⟩: ∃c0 c1 c2 c3 c4 c5,cs= [c0,c1,c2,c3,c4,c5]:=by
  match cs,hl with
  | [c0,c1,c2,c3,c4,c5],_=>exact ⟨_,_,_,_,_,_,rfl⟩
 obtain ⟨x0,x1,x2,x3,x4,x5,rfl⟩: ∃c0 c1 c2 c3 c4 c5,xs= [c0,c1,c2,c3,c4,c5]:=by
  match xs,hxl with
  | [c0,c1,c2,c3,c4,c5],_=>exact ⟨_,_,_,_,_,_,rfl⟩
 obtain ⟨g0,a0,t0,o0⟩:=field_of T.f0
 obtain ⟨g1,a1,t1,o1⟩:=field_of T.f1
 obtain ⟨g2,a2,t2,o2⟩:=field_of T.f2
 obtain ⟨g3,a3,t3,o3⟩:=field_of T.f3
 obtain ⟨g4,a4,t4,o4⟩:=field_of T.f4
 obtain ⟨g5,a5,t5,o5⟩:=field_of T.f5
 have e0:=hall 0 g0 a0
 have e1:=hall 1 g1 a1
 have e2:=hall 2 g2 a2
 have e3:=hall 3 g3 a3
 have e4:=hall 4 g4 a4
 have e5:=hall 5 g5 a5
 rw[t0,o0,T.c0] at e0
 rw[t1,o1,T.c1] at e1
 rw[t2,o2,T.cI] at e2
 rw[t3,o3,T.cS] at e3
 rw[t4,o4,T.c4] at e4
 rw[t5,o5,T.c5] at e5
 simp only[List.drop_zero,List.drop_succ_cons,List.take_succ_cons,List.take_zero,List.getElem?_cons_zero,List.getElem?_cons_succ] at e0 e1 e2 e3 e4 e5
 obtain ⟨n0,q0,rfl,_⟩:=DataW.trod_int T.h0 e0
 obtain ⟨n1,q1,rfl,_⟩:=DataW.trod_int T.h1 e1
 obtain ⟨n4,q4,rfl,_⟩:=DataW.trod_int T.h4 e4
 obtain ⟨n5,q5,rfl⟩:=DataW.trod_bool T.h5 e5
 simp only[List.cons.injEq,and_true] at q0 q1 q4 q5
 subst q0 q1 q4 q5
 obtain ⟨el,hel,hel'⟩:=enters_ints hne T.hI T.hi T.ci e2
 obtain ⟨nm,hnm,hnm'⟩:=enters_strs hne T.hS T.hs T.cs e3
 refine ⟨⟨n0,n1,el,nm,n4,n5⟩,fun ρ m hs hm=>?_,fun B hB=>?_⟩
 ·obtain ⟨ρ1,m1,ys,h1,h2,h3,h4,h5,s,rfl,h6⟩:=hel ρ m hs hm
  obtain ⟨ρ2,m2,ys,k1,k2,k3,k4,k5,s',rfl,k6⟩:=hnm ρ1 m1 h4 h3
  simp only[VRs] at h5 k5
  obtain ⟨_,_,hh,h5,rfl⟩:=h5
  obtain ⟨_,_,hk,k5,rfl⟩:=k5
  simp only[List.cons.injEq,and_true] at hh hk
  subst hh hk
  refine ⟨ρ2,m2,[.int .i64 n0,.int .i64 n1,s,s',.int .i64 n4,.bool n5],h1.trans k1,h2.trans k2,k3,k4,?_,s,s',rfl,h6.mono k2,k6⟩
  simp only[VRs,VR]
  exact ⟨_,_,rfl,rfl,_,_,rfl,rfl,_,_,rfl,VR.mono k1 _ _ h5,_,_,rfl,k5,_,_,rfl,rfl,_,_,rfl,rfl,rfl⟩
 ·have w2:=weights_parts (i:=2) T.hM a2 (y:=x2) (by simp) hB
  have w3:=weights_parts (i:=3) T.hM a3 (y:=x3) (by simp) hB
  rw[t2] at w2
  rw[t3] at w3
  obtain ⟨p1,p2⟩:=hnm' T.bs B w3
  exact ⟨hel' T.bi B w2,p1,p2⟩
theorem weightsAll_mem {e:TypeId} {B:Nat}: ∀{l:List (DataW H)},(DataW.weightsAll P e l).all (· ≤B)=true→ ∀d∈l,(d.weights P e).all (· ≤B)=true
 | [],_,d,hd=>by simp at hd
 |y::ys,h,d,hd=>by
  simp only[DataW.weightsAll,List.all_append,Bool.and_eq_true] at h
  rcases List.mem_cons.1 hd with rfl|hd
  ·exact h.1
  ·exact weightsAll_mem h.2 d hd
theorem enters_tab (T:ModeT P) {fuel:Nat} {cs:List Value} (hne: ∀a len cap,cs= [.slice (some a) len cap]→0<w.heap.size) {x:DataW H×List MemPlace} (h:DataW.trod enc P w base (fun _=>true) held fuel T.tT cs=some x):
  ∃l:List Md,Enters w cs (fun m xs=> ∃s,xs= [s]∧RTab m s l)∧(∀B,(x.1.weights P T.tT).all (· ≤B)=true→l.length≤B∧ ∀md∈l,MdB B md):=by
 rcases Go.Deep.open_slice T.hT h with ⟨rfl,rfl⟩|⟨a,len,cap,mm,n,D,Pl,rfl,_,hlc,_,hmm,rfl,hel⟩
 ·exact ⟨[],fun ρ m hs hm=>⟨ρ,m,[.nilslice],List.prefix_refl _,List.prefix_refl _,hm,hs,by simp[VRs,VR],.nilslice,rfl,[],Sl.nil,by simp⟩,by simp⟩
 ·replace hne:=hne _ _ _ rfl
  simp only[if_true] at hmm
  subst hmm
  rw[T.cM] at hel
  have hmd: ∀i,i<len→ ∃(cs':List Value) (md:Md),w.cells? base (a.add (i*6)) 6=some cs'∧Enters w cs' (fun m xs=>RMode m xs md)∧(∀B,((D i).weights P T.tM).all (· ≤B)=true→MdB B md):=by
   intro i hi
   obtain ⟨cs',h1,h2⟩:=hel i (by omega)
   obtain ⟨md,h3,h4⟩:=enters_mode hne T h2
   exact ⟨cs',md,h1,h3,h4⟩
  have hl: ∃l:List Md,l.length=len∧ ∀(i:Nat) md,l[i]? =some md→ ∃(cs':List Value),w.cells? base (a.add (i*6)) 6=some cs'∧Enters w cs' (fun m xs=>RMode m xs md)∧(∀B,((D i).weights P T.tM).all (· ≤B)=true→MdB B md):=by
   have: ∀k,k≤len→ ∃l:List Md,l.length=k∧ ∀(i:Nat) md,l[i]? =some md→ ∃(cs':List Value),w.cells? base (a.add (i*6)) 6=some cs'∧Enters w cs' (fun m xs=>RMode m xs md)∧(∀B,((D i).weights P T.tM).all (· ≤B)=true→MdB B md):=by
    intro k
    induction k with
    |zero=>exact fun _=>⟨[],rfl,by simp⟩
    |succ k ih=>
     intro hk
     obtain ⟨l,h1,h2⟩:=ih (by omega)
     obtain ⟨cs',md,h3,h4⟩:=hmd k (by omega)
     refine ⟨l++ [md],by simp[h1],fun i md' hi=>?_⟩
     rcases Nat.lt_or_ge i l.length with hlt|hge
     ·rw[List.getElem?_append_left hlt] at hi;exact h2 i md' hi
     ·rw[List.getElem?_append_right hge] at hi
      cases hj:i-l.length with
      |zero=>
       rw[hj] at hi
       simp only[List.getElem?_cons_zero,Option.some.injEq] at hi
       subst hi
       obtain rfl:i=k:=by omega
       exact ⟨cs',h3,h4⟩
      |succ j=>rw[hj] at hi;simp at hi
   exact this len (Nat.le_refl _)
  obtain ⟨l,hlen,hl⟩:=hl
  refine ⟨l,fun ρ m hs hm=>?_,fun B hB=>?_⟩
  ·have key: ∀k,k≤len→ ∃(ρ':List RB) (m':AMem) (xs:List AVal),ρ<+:ρ'∧m<+:m'∧RoMem m'∧Sim ρ' m' w∧xs.length=k*6∧(∀(i:Nat) x,xs[i]? =some x→ ∃v,w.cell? (a.add i)=some v∧VR ρ' x v)∧
     ∀(i:Nat) md,i<k→l[i]? =some md→RMode m' ((xs.drop (i*6)).take 6) md:=by
    intro k
    induction k with
    |zero=>exact fun _=>⟨ρ,m,[],List.prefix_refl _,List.prefix_refl _,hm,hs,rfl,by simp,by omega⟩
    |succ k ih=>
     intro hk
     obtain ⟨ρ1,m1,xs,h1,h2,h3,h4,h5,h6,h7⟩:=ih (by omega)
     obtain ⟨md,hmdk⟩: ∃md,l[k]? =some md:=⟨l[k],List.getElem?_eq_getElem (by omega)⟩
     obtain ⟨cs',c1,c2,_⟩:=hl k md hmdk
     obtain ⟨ρ2,m2,ys,g1,g2,g3,g4,g5,g6⟩:=c2 ρ1 m1 h4 h3
     obtain ⟨_,c3,c4⟩:=World.cells?_some c1
     have hys:ys.length=6:=by rw[←g5.length];exact c3
     refine ⟨ρ2,m2,xs++ys,h1.trans g1,h2.trans g2,g3,g4,by simp[h5,hys];omega,fun i x hx=>?_,fun i md' hi hmd'=>?_⟩
     ·rcases Nat.lt_or_ge i xs.length with hlt|hge
      ·rw[List.getElem?_append_left hlt] at hx
       obtain ⟨v,hv,hr⟩:=h6 i x hx
       exact ⟨v,hv,VR.mono g1 x v hr⟩
      ·rw[List.getElem?_append_right hge] at hx
       have hj:i-xs.length<6:=by rw[←hys];exact (List.getElem?_eq_some_iff.1 hx).1
       obtain ⟨v,hv,hr⟩:=g5.get _ x hx
       refine ⟨v,?_,hr⟩
       have:=c4 (i-xs.length) hj
       rw[Addr.add_add,hv] at this
       rw[←this]
       congr 2
       omega
     ·rcases Nat.lt_or_ge i k with hlt|hge
      ·have:=(h7 i md' hlt hmd').mono g2
       rw[List.drop_append_of_le_length (by omega),List.take_append_of_le_length (by simp;omega)]
       exact this
      ·obtain rfl:i=k:=by omega
       rw[hmdk] at hmd'
       simp only[Option.some.injEq] at hmd'
       subst hmd'
       rw[List.drop_append,h5,Nat.sub_self,List.drop_eq_nil_of_le (by omega)]
       simp only[List.nil_append,List.drop_zero]
       rw[List.take_of_length_le (by omega)]
       exact g6
   obtain ⟨ρ1,m1,xs,h1,h2,h3,h4,h5,h6,h7⟩:=key len (Nat.le_refl _)
   obtain ⟨ρ',m',s,g1,g2,g3,g4,g5,g6⟩:=slice_in (esz:=6) h4 h3 hne hlc (fun hcap=>by
    obtain ⟨cs',c1,_⟩:=hel 0 (by omega)
    obtain ⟨_,c3,c4⟩:=World.cells?_some c1
    have:=c4 0 (by omega)
    rw[Addr.add_add] at this
    rw[List.getElem?_eq_getElem (by omega)] at this
    exact ⟨_,by simpa[Addr.add] using this⟩) h5 h6
   refine ⟨ρ',m',[s],h1.trans g1,h2.trans g2,g3,g4,by simp only[VRs];exact ⟨_,_,rfl,g5,rfl⟩,s,rfl,xs,by rw[hlen];exact g6,fun i md hi=>(h7 i md (by have:=(List.getElem?_eq_some_iff.1 hi).1;omega) hi).mono g2⟩
  ·simp only[DataW.weights,T.hT,List.all_cons,Bool.and_eq_true,decide_eq_true_eq,List.all_append] at hB
   obtain ⟨b1,b2,_⟩:=hB
   refine ⟨?_,fun md hmd=>?_⟩
   ·have:=T.bM
    simp only[List.length_map,List.length_range] at b1
    have h3:len≤(len+(mm-len))*P.bytesOf T.tM:=by
     calc len≤(len+(mm-len))*1:=by omega
      _≤_:=Nat.mul_le_mul_left _ this
    omega
   ·obtain ⟨i,hi,rfl⟩:=List.getElem_of_mem hmd
    obtain ⟨cs',_,_,c5⟩:=hl i l[i] (List.getElem?_eq_getElem hi)
    exact c5 B (weightsAll_mem b2 (D i) (List.mem_map.2 ⟨i,by simp;omega,rfl⟩))
theorem below_of_evol {ρ ρ':List RB} {m m':AMem} {w':World} (hm:RoMem m) (h:Evol ρ m w ρ' m' w'):Below w.heap.size w w':=
 ⟨h.os,h.tape,h.output,h.size,fun k hk=>h.frame k hk fun ⟨b,blk,a,hb,ho,_⟩=>by rw[hm b blk hb] at ho;cases ho⟩
theorem heap_pos {r:Reach} {b0:Nat} {t e:TypeId} {a:Addr} {len cap:Nat} (ht:P.underlying t=some (.slice e)) (hval:Value.okWide P w r b0 t (.slice (some a) len cap)):0<w.heap.size:=by
 simp only[Value.okWide,ht,Cell.okWide,Cell.ok,World.has] at hval
 obtain ⟨_,_,_,_,row,cells,h,_⟩:=hval
 unfold World.shape? at h
 rcases Nat.eq_zero_or_pos w.heap.size with h0|h0
 ·rw[Array.getElem?_eq_none (by omega)] at h
  simp at h
 ·exact h0
end Go.Proofs.YtlniliigcnedmaaGreatDoor.Ax
namespace Go.Proofs.YtlniliigcnedmaaGreatDoor
open Go Ax
set_option maxRecDepth 100000
structure Fits (l:List Md):Prop where
 n:l.length≤13
 n12:l.length≤12
 sm: ∀x∈l,smallN x
 h40: ∀x∈l,x.elems.length<2^40∧x.names.length<2^40
theorem fits_of {l:List Md} (hb: ∀md∈l,MdB reachBytes md) (h:(decide ((l.length:Int)≤12)&&l.all fun x=>decide (x.elems.length≤6)&&decide (x.names.length≤6))=true):Fits l:=by
 rw[Bool.and_eq_true,decide_eq_true_iff,List.all_eq_true] at h
 obtain ⟨h1,h2⟩:=h
 refine ⟨by omega,by omega,fun x hx=>?_,fun x hx=>?_⟩
 ·have:=h2 x hx
  rw[Bool.and_eq_true,decide_eq_true_iff,decide_eq_true_iff] at this
  refine ⟨by omega,by omega,fun s hs=>?_⟩
  have h3:=(hb x hx).each s hs
  have h4:reachBytes<2^62:=by decide
  omega
 ·have:=h2 x hx
  rw[Bool.and_eq_true,decide_eq_true_iff,decide_eq_true_iff] at this
  omega
end Go.Proofs.YtlniliigcnedmaaGreatDoor
namespace Go.Proofs.YtlniliigcnedmaaGreatDoor
open Go Ax
set_option maxRecDepth 100000
theorem k27 (s t:AVal) (xs:List Int) (m:AMem) (hs:RInts m s xs) (ht:RInts m t xs) (hn:xs.length<2^62):ACalls Tryz.prog 27 [s,t] m fun v m'=>v= .bool true∧m<+:m':=by
 refine w27 ?_
 simp[hs.len,ht.len]
 refine W_loop (fun q a m'=> ∃k:Nat,k+q=xs.length∧a=h27_0 s t (.int .i64 xs.length) (.int .i64 k)∧m<+:m') xs.length ⟨0,by simp⟩ ?_
 rintro q a m1 ⟨k,hk,rfl,hm1⟩
 simp
 refine bbind_dec (fun hkl=>?_) fun hkl=>?_
 ·have hkl:k<xs.length:=by omega
  have hw:=step64 hkl hn
  obtain ⟨q,rfl⟩: ∃q',q=q'+1:=⟨q-1,by omega⟩
  obtain ⟨b1,o1,g1,g2⟩:=(hs.mono hm1).at hkl
  obtain ⟨b2,o2,g3,g4⟩:=(ht.mono hm1).at hkl
  simp
  refine W_drawPR (by simp[maxDst]) rfl rfl ?_
  simp[g1,g2,g3,g4,hw]
  intro m2 hm2
  exact ⟨q,by omega,k+1,by omega,by simp,hm1.trans hm2⟩
 ·simp
  exact hm1
end Go.Proofs.YtlniliigcnedmaaGreatDoor
namespace Go.Proofs.YtlniliigcnedmaaGreatDoor
open Go Ax
set_option maxRecDepth 100000
theorem k51 (s t:AVal) (xs ys:List Int) (m:AMem) (hs:RInts m s xs) (ht:RInts m t ys) (hn:xs.length<2^62):ACalls Tryz.prog 51 [s,t] m fun v m'=>v= .bool (decide (xs=ys))∧m<+:m':=by
 refine w51 ?_
 by_cases hl:xs.length=ys.length
 rotate_left
 ·have hl': ¬(xs.length:Int)=ys.length:=by omega
  have: ¬xs=ys:=fun e=>hl (by rw[e])
  simp[hs.len,ht.len,bneT hl',this]
 simp[hs.len,ht.len,hl]
 refine W_loop (fun q a m'=> ∃k:Nat,k+q=xs.length∧a=h51_0 s t (.int .i64 k)∧m<+:m'∧ ∀(j:Nat) x,j<k→xs[j]? =some x→ys[j]? =some x) xs.length ⟨0,by simp⟩ ?_
 rintro q a m1 ⟨k,hk,rfl,hm1,he⟩
 simp[(hs.mono hm1).len,hl]
 refine bbind_dec (fun hkl=>?_) fun hkl=>?_
 ·have hkl:k<xs.length:=by omega
  have hw:=step64 hkl hn
  obtain ⟨q,rfl⟩: ∃q',q=q'+1:=⟨q-1,by omega⟩
  obtain ⟨b1,o1,g1,g2⟩:=(hs.mono hm1).at hkl
  obtain ⟨b2,o2,g3,g4⟩:=(ht.mono hm1).at (i:=k) (by omega)
  simp
  refine W_drawPR (by simp[maxDst]) rfl rfl ?_
  simp[g1,g2,g3,g4]
  intro m2 hm2
  by_cases hxy:xs[k]=ys[k]'(by omega)
  ·simp[hxy,hw]
   refine ⟨q,by omega,k+1,by omega,by simp,hm1.trans hm2,fun j x hj hx=>?_⟩
   by_cases hjk:j=k
   ·subst hjk
    rw[List.getElem?_eq_getElem hkl] at hx
    cases hx
    rw[hxy]
    exact List.getElem?_eq_getElem (by omega)
   ·exact he j x (by omega) hx
  ·have: ¬xs=ys:=fun e=>hxy (by subst e;rfl)
   simp[bneT hxy,this]
   exact hm1.trans hm2
 ·have hkl:k=xs.length:=by omega
  subst hkl
  have:xs=ys:=by
   apply List.ext_getElem?
   intro i
   cases hi:xs[i]? with
   |some x=>exact (he i x (List.getElem?_eq_some_iff.1 hi).1 hi).symm
   |none=>exact (List.getElem?_eq_none (by have:=List.getElem?_eq_none_iff.1 hi;omega)).symm
  simp[this]
  exact hm1
theorem k63 (s t:AVal) (xs:List ByteArray) (m:AMem) (hs:RStrs m s xs) (ht:RStrs m t xs) (hn:xs.length<2^62):ACalls Tryz.prog 63 [s,t] m fun v m'=>v= .bool true∧m<+:m':=by
 refine w63 ?_
 simp[hs.len,ht.len]
 refine W_loop (fun q a m'=> ∃k:Nat,k+q=xs.length∧a=h63_0 s t (.int .i64 xs.length) (.int .i64 k)∧m<+:m') xs.length ⟨0,by simp⟩ ?_
 rintro q a m1 ⟨k,hk,rfl,hm1⟩
 simp
 refine bbind_dec (fun hkl=>?_) fun hkl=>?_
 ·have hkl:k<xs.length:=by omega
  have hw:=step64 hkl hn
  obtain ⟨q,rfl⟩: ∃q',q=q'+1:=⟨q-1,by omega⟩
  obtain ⟨b1,o1,g1,g2⟩:=(hs.mono hm1).at hkl
  obtain ⟨b2,o2,g3,g4⟩:=(ht.mono hm1).at hkl
  simp
  refine W_drawPR (by simp[maxDst]) rfl rfl ?_
  have hne:binStr .neq xs[k] xs[k]=some (.bool false):=by simp[binStr]
  simp[g1,g2,g3,g4,hw,hne]
  intro m2 hm2
  exact ⟨q,by omega,k+1,by omega,by simp,hm1.trans hm2⟩
 ·simp
  exact hm1
theorem k62 (c d:List AVal) (x:Md) (m:AMem) (hx:RMode m c x) (hy:RMode m d x) (hsz:smallN x):ACalls Tryz.prog 62 [.agg c,.agg d] m fun v m'=>v= .bool true∧m<+:m':=by
 obtain ⟨e,nm,rfl,he,hnm⟩:=hx
 obtain ⟨e2,nm2,rfl,he2,hnm2⟩:=hy
 refine w62 ?_
 have h1:=Sl.one he
 have h2:=Sl.one hnm
 have h3:=Sl.one he2
 have h4:=Sl.one hnm2
 simp[h1,h2,h3,h4]
 obtain ⟨hb1,hb2,hm01⟩:=two_box m [.int .i64 x.kind,.int .i64 x.size,e,nm,.int .i64 x.dims,.bool x.flex] [.int .i64 x.kind,.int .i64 x.size,e2,nm2,.int .i64 x.dims,.bool x.flex] 39 39
 generalize m++ [.own [.int .i64 x.kind,.int .i64 x.size,e,nm,.int .i64 x.dims,.bool x.flex] 39 none,.own [.int .i64 x.kind,.int .i64 x.size,e2,nm2,.int .i64 x.dims,.bool x.flex] 39 none]=m1 at*
 simp[bx hb1,bx hb2]
 refine C_of (k27 e e2 x.elems m1 (he.mono hm01) (he2.mono hm01) hsz.1) ?_
 rintro _ m2 ⟨rfl,hm2⟩
 simp[bx (readB_mono hm2 hb1),bx (readB_mono hm2 hb2)]
 refine C_of (k63 nm nm2 x.names m2 (hnm.mono (hm01.trans hm2)) (hnm2.mono (hm01.trans hm2)) hsz.2.1) ?_
 rintro _ m3 ⟨rfl,hm3⟩
 simp[bx (readB_mono (hm2.trans hm3) hb1),bx (readB_mono (hm2.trans hm3) hb2)]
 exact hm01.trans (hm2.trans hm3)
theorem k61 (s t:AVal) (l:List Md) (m:AMem) (hs:RTab m s l) (ht:RTab m t l) (hsz: ∀x∈l,smallN x) (hn:l.length<2^62):ACalls Tryz.prog 61 [s,t,.func (.func 62) [] []] m fun v m'=>v= .bool true∧m<+:m':=by
 refine w61 ?_
 simp[hs.len,ht.len]
 refine W_loop (fun q a m'=> ∃k:Nat,k+q=l.length∧a=h61_0 t (.func (.func 62) [] []) s (.int .i64 l.length) (.int .i64 k)∧m<+:m') l.length ⟨0,by simp⟩ ?_
 rintro q a m1 ⟨k,hk,rfl,hm1⟩
 simp
 refine bbind_dec (fun hkl=>?_) fun hkl=>?_
 ·have hkl:k<l.length:=by omega
  have hw:=step64 hkl hn
  obtain ⟨q,rfl⟩: ∃q',q=q'+1:=⟨q-1,by omega⟩
  obtain ⟨b1,o1,c1,g1,g2,_,_,g3⟩:=(hs.mono hm1).atC hkl
  obtain ⟨b2,o2,c2,g4,g5,_,_,g6⟩:=(ht.mono hm1).atC hkl
  have a1:=g3.all
  have a2:=g6.all
  simp[g1,g2]
  rw[store_new _ _ c1 _ _ 6 a1.1 rfl a1.2]
  have hbx:=readB_new m1 c1 39 none
  have hm12:m1<+:m1++ [.own c1 39 none]:=List.prefix_append _ _
  simp
  generalize m1++ [.own c1 39 none]=m2 at*
  simp[g4,loadE_mono hm12 g5]
  rw[store_new _ _ c2 _ _ 6 a2.1 rfl a2.2]
  have hby:=readB_new m2 c2 39 none
  have hm23:m2<+:m2++ [.own c2 39 none]:=List.prefix_append _ _
  simp
  generalize m2++ [.own c2 39 none]=m3 at*
  have r1:readN c1 0 6=some c1:=by unfold readN;rw[if_pos (by omega),List.drop_zero,List.take_of_length_le (by omega)]
  have r2:readN c2 0 6=some c2:=by unfold readN;rw[if_pos (by omega),List.drop_zero,List.take_of_length_le (by omega)]
  simp[bxW (readB_mono hm23 hbx),bxW hby,r1,r2]
  refine C_of (k62 c1 c2 l[k] m3 (g3.mono (hm12.trans hm23)) (g6.mono (hm12.trans hm23)) (hsz _ (List.getElem_mem hkl))) ?_
  rintro _ m4 ⟨rfl,hm4⟩
  simp[hw]
  exact ⟨q,by omega,k+1,by omega,by simp,hm1.trans ((hm12.trans hm23).trans hm4)⟩
 ·simp
  exact hm1
theorem k30 (s t:AVal) (l:List Md) (m:AMem) (hs:RTab m s l) (ht:RTab m t l) (hsz: ∀x∈l,smallN x) (hn:l.length<2^62):ACalls Tryz.prog 30 [s,t] m fun v m'=>v= .bool true∧m<+:m':=by
 refine w30 ?_
 simp
 refine C_of (k61 s t l m hs ht hsz hn) ?_
 rintro _ m2 ⟨rfl,hm2⟩
 simp[hm2]
end Go.Proofs.YtlniliigcnedmaaGreatDoor
namespace Go.Proofs.YtlniliigcnedmaaGreatDoor
open Go Ax
set_option maxRecDepth 100000
set_option maxHeartbeats 8000000 in
theorem k39 (s:AVal) (c:List AVal) (l:List Md) (x:Md) (m:AMem) (hs:RTab m s l) (hx:RMode m c x) (hsz: ∀y∈l++ [x],smallN y) (h40: ∀y∈l++ [x],y.elems.length<2^40∧y.names.length<2^40) (hn:l.length<2^20):
  ACalls Tryz.prog 39 [s,.agg c] m fun v m'=>m<+:m'∧v= .tuple [.int .i64 ((findI l x).getD 0:Nat),.bool (findI l x).isSome]:=by
 have hx0:=hx
 have hcl:=hx.all
 obtain ⟨e,nm,rfl,he,hnm⟩:=hx
 refine w39 ?_
 have h1:=Sl.one he
 have h2:=Sl.one hnm
 simp[h1,h2]
 have hb0:=readB_new m [.int .i64 x.kind,.int .i64 x.size,e,nm,.int .i64 x.dims,.bool x.flex] 39 none
 have hm01:m<+:m++ [.own [.int .i64 x.kind,.int .i64 x.size,e,nm,.int .i64 x.dims,.bool x.flex] 39 none]:=List.prefix_append _ _
 generalize m++ [.own [.int .i64 x.kind,.int .i64 x.size,e,nm,.int .i64 x.dims,.bool x.flex] 39 none]=m1 at*
 generalize m.length=b3 at*
 have hxs:=hsz x (by simp)
 have hx40:=h40 x (by simp)
 -- the elements
 obtain ⟨J,hJ⟩: ∃J:AFrame→AMem→Prop,∀f m',J f m'↔(f.forget [0,3]=mat 83 [(0,s),(3,.ptr b3 0)]∧m1<+:m'∧ ∀e∈x.elems,outB l.length e=false):=⟨_,fun _ _=>Iff.rfl⟩
 refine W_JB J ?_ ?_
 ·obtain ⟨I,hI⟩: ∃I:Nat→AFrame→AMem→Prop,∀q f m',I q f m'↔(∃k:Nat,k+q=x.elems.length∧f=h39_0 s (.ptr b3 0) (.int .i64 k)∧m1<+:m'∧ ∀(j:Nat) e,j<k→x.elems[j]? =some e→outB l.length e=false):=⟨_,fun _ _ _=>Iff.rfl⟩
  refine W_loop I x.elems.length ((hI _ _ _).2 ⟨0,by simp,by simp,List.prefix_refl _,fun _ _ h=>by omega⟩) ?_
  rintro q f m2 hIn
  obtain ⟨k,hk,rfl,hm2,ho⟩:=(hI _ _ _).1 hIn
  clear hIn
  have hm02:=hm01.trans hm2
  simp[bx (readB_mono hm2 hb0),(he.mono hm02).len]
  refine bbind_dec (fun hkl=>?_) fun hkl=>?_
  ·have hkl:k<x.elems.length:=by omega
   have hw:=step64 hkl (by omega)
   obtain ⟨q,rfl⟩: ∃q',q=q'+1:=⟨q-1,by omega⟩
   obtain ⟨b1,o1,g1,g2⟩:=(he.mono hm02).at hkl
   simp[bx (readB_mono hm2 hb0),g1,g2]
   refine C_of (k65 s l x.elems[k] m2 (hs.mono hm02)) ?_
   rintro _ m3 ⟨rfl,rfl⟩
   have hob:outB l.length x.elems[k]= !(decide (0≤x.elems[k])&&decide (x.elems[k]<l.length)):=rfl
   cases hin:(decide (0≤x.elems[k])&&decide (x.elems[k]<l.length))
   ·rw[hin] at hob
    have hf:=findI_none (l:=l) (x:=x) ⟨_,List.getElem_mem hkl,hob⟩
    simp[hf]
    exact hm02
   ·rw[hin] at hob
    simp[hw]
    refine ⟨q,by omega,(hI _ _ _).2 ⟨k+1,by omega,by simp,hm2,fun j e hj hje=>?_⟩⟩
    by_cases hjk:j=k
    ·subst hjk;rw[List.getElem?_eq_getElem hkl] at hje;cases hje;exact hob
    ·exact ho j e (by omega) hje
  ·simp
   refine (hJ _ _).2 ⟨by simp,hm2,fun e he'=>?_⟩
   obtain ⟨j,hj,rfl⟩:=List.getElem_of_mem he'
   exact ho j _ (by omega) (List.getElem?_eq_getElem hj)
 intro f m2 hJ2
 obtain ⟨hf,hm2,hin⟩:=(hJ _ _).1 hJ2
 clear hJ2 hJ
 have hm02:=hm01.trans hm2
 simp[hf]
 -- the table with it
 refine W_draw (fun _ _ _=>True) (by simp[maxDst]) ?_
 have hr2:=bxW (readB_mono hm2 hb0) 6
 simp[readN] at hr2
 refine D_pc 0 1 [2,1,3,4,5,6] ?_
 simp
 intro _ _
 refine D_R rfl trivial ⟨_,List.prefix_refl _,fun _ h=>by cases h⟩ ?_
 simp[hr2]
 refine D_X rfl rfl fun m3 hm3 _=>?_
 simp
 refine C_of (k76 s l m3 (hs.mono (hm02.trans hm3)) (fun y hy=>h40 y (by simp[hy])) hn) ?_
 rintro t4 m4 ⟨hm4,hT⟩
 have hm24:=hm3.trans hm4
 refine ⟨by simp[lateOf,ROp.ev,readB_mono hm24 (readB_mono hm2 hb0),readN],?_⟩
 refine D_X rfl rfl fun m5 hm5 _=>?_
 simp
 refine C_of (k60 _ x m5 (hx0.mono ((hm02.trans hm24).trans hm5)) hx40) ?_
 rintro _ m6 ⟨hm6,c6,rfl,hM⟩
 refine ⟨by simp[lateOf],?_⟩
 have hcl6:=hM.mode.all
 obtain ⟨e6,nm6,hc6,_,_⟩:=id hM
 have hfill:fillA [.int .i64 0,.int .i64 0,.nilslice,.nilslice,.int .i64 0,.bool false] [(0,6,.agg c6)]=some c6:=by
  subst hc6
  have h:=hcl6.2
  simp only[List.all_cons,List.all_nil,Bool.and_eq_true] at h
  simp[fillA,setN,h.2.2.1,h.2.2.2.1]
 refine D_A rfl trivial ?_
 simp[hfill]
 intro b'
 refine D_W rfl rfl fun m7 hm7 hf7=>?_
 have h7:=hf7 4
 simp[upd] at h7
 have hm47:=(hm5.trans hm6).trans hm7
 obtain ⟨t8,m8,happ,hch8,hT8,_⟩:=(hT.mono hm47).pushM (by have:=hm4.length_le;have:=hm47.length_le;omega) (hM.mono hm7) (fun b hb=>by have:=(hT.blk_lo hb).2;have:=hm5.length_le;omega) (by have:=hm4.length_le;have:=hm5.length_le;omega) (by omega)
 simp[lit6' h7 hcl6.1,happ]
 refine D_P rfl trivial ?_
 simp
 refine D_end fun m9 hm9 _=>?_
 have hm38:m3<+:m8:=hch8.pre (hm4.trans hm47) fun b hb h=>by have:=(hT.blk_lo h).1;omega
 have hm29:=(hm3.trans hm38).trans hm9
 have hm09:=hm02.trans hm29
 have hT9:=(hT8.mono hm9).tab
 have hlL:(l++ [x]).length=l.length+1:=by simp
 have hb9:=readB_mono hm29 (readB_mono hm2 hb0)
 clear happ hch8 h7 hT hT8 hM hfill hcl6 hr2
 simp
 refine C_of (k59 t8 (l++ [x]) m9 hT9 hsz (by omega)) ?_
 rintro _ m10 ⟨rfl,hm10⟩
 by_cases hc:checkI (l++ [x])=0
 rotate_left
 ·have hfi:findI l x=none:=by rw[findI_ok hin,if_pos hc]
  simp[bneT hc,hfi]
  exact hm09.trans hm10
 have ok:=okT_of hc
 simp[hc]
 -- the first one that may be equal
 obtain ⟨J,hJ⟩: ∃J:AFrame→AMem→Prop,∀f m',J f m'↔(∃i:Nat,f.forget [0,3,7,8]=mat 83 [(0,s),(3,.ptr b3 0),(7,t8),(8,.int .i64 i)]∧m10<+:m'∧i≤l.length∧(∀j,j<i→firstC (mdAt l j) x≠0)∧(i<l.length→firstC (mdAt l i) x=0)):=⟨_,fun _ _=>Iff.rfl⟩
 refine W_JB J ?_ ?_
 ·obtain ⟨I,hI⟩: ∃I:Nat→AFrame→AMem→Prop,∀q f m',I q f m'↔(∃i:Nat,i+q=l.length∧f=h39_1 s (.ptr b3 0) t8 (.int .i64 i)∧m10<+:m'∧ ∀j,j<i→firstC (mdAt l j) x≠0):=⟨_,fun _ _ _=>Iff.rfl⟩
  refine W_loop I l.length ((hI _ _ _).2 ⟨0,by simp,by simp,List.prefix_refl _,fun _ h=>by omega⟩) ?_
  rintro q f m11 hIn
  obtain ⟨i,hi,rfl,hm11,hne⟩:=(hI _ _ _).1 hIn
  clear hIn
  have hm011:=(hm09.trans hm10).trans hm11
  simp
  refine W_draw (fun _ _ _=>True) (by simp[maxDst]) ?_
  refine D_pc 0 10 [10,11,12] ?_
  by_cases hil:i<l.length
  ·have hil':(i:Int)<l.length:=by omega
   obtain ⟨bi,oi,ci,g1,g2,_,_,g3⟩:=(hs.mono hm011).atC hil
   have hrx:=bxW (readB_mono (hm10.trans hm11) hb9) 6
   simp[readN] at hrx
   simp[(hs.mono hm011).len,hil',g1,g2,hrx]
   intro _ _
   refine D_Xg rfl rfl (b:=true) (by simp) (fun _ m12 hm12 _=>?_) (fun h=>absurd rfl h)
   simp
   have hmi:l[i]∈l++ [x]:=by simp
   refine C_of (k50 ci _ l[i] x m12 (g3.mono hm12) (hx0.mono (hm011.trans hm12)) (hsz _ hmi) hxs (ok.names _ hmi x (by simp))) ?_
   rintro _ m13 ⟨rfl,hm13⟩
   refine ⟨by simp[lateOf],?_⟩
   refine D_pc 11 2 [] ?_
   simp
   intro _ _
   refine D_end fun m14 hm14 _=>?_
   have hm1114:=(hm12.trans hm13).trans hm14
   rw[←mdAt_eq hil]
   by_cases hf0:firstC (mdAt l i) x=0
   ·simp[hf0]
    exact (hJ _ _).2 ⟨i,by simp,hm11.trans hm1114,by omega,hne,fun _=>hf0⟩
   ·have hw:=step64 hil (by omega)
    simp[bneT hf0,hw]
    refine ⟨q-1,by omega,(hI _ _ _).2 ⟨i+1,by omega,by simp,hm11.trans hm1114,fun j hj=>?_⟩⟩
    by_cases hji:j=i
    ·subst hji;exact hf0
    ·exact hne j (by omega)
  ·have hil': ¬(i:Int)<l.length:=by omega
   simp[(hs.mono hm011).len,hil']
   intro _ _
   refine D_Xg rfl rfl (b:=false) (by simp) (fun h=>by cases h) (fun _ m12 hm12 _=>⟨by simp[lateOf],?_⟩)
   refine D_pc 11 2 [] ?_
   simp
   intro _ _
   refine D_end fun m14 hm14 _=>?_
   simp
   exact (hJ _ _).2 ⟨i,by simp,hm11.trans (hm12.trans hm14),by omega,hne,fun h=>absurd h hil⟩
 intro f m11 hJ2
 obtain ⟨i,hf,hm11,hil,hne,hi0⟩:=(hJ _ _).1 hJ2
 clear hJ2 hJ
 have hm011:=(hm09.trans hm10).trans hm11
 have hlast:l.length<(l++ [x]).length:=by omega
 have hneR: ∀j,j<i→RR (l++ [x]) j≠RR (l++ [x]) l.length:=fun j hj h=>by
  have:=RR_first (by omega) hlast h
  rw[mdAt_app (by omega),mdAt_last] at this
  exact hne j hj this
 simp[hf,(hs.mono hm011).len]
 by_cases hin':i=l.length
 ·subst hin'
  have hfi:=findI_last hin hc hneR
  simp[hfi]
  exact hm011
 have hil2:i<l.length:=by omega
 have hi': ¬(i:Int)=l.length:=by omega
 obtain ⟨bi,oi,ei,g1,g2,g3⟩:=hs.elems hil2
 have hrx:=bx (readB_mono (hm10.trans hm11) hb9) 2
 simp at hrx
 have g2':=(g2 m11 hm011).2
 simp[beqF hi']
 refine W_draw (fun _ _ _=>True) (by simp[maxDst]) ?_
 refine D_pc 0 7 [7] ?_
 simp[g1,g2',hrx]
 intro _ _
 refine D_X rfl rfl fun m12 hm12 _=>?_
 simp
 have hli:=hsz l[i] (by simp)
 refine C_of (k51 ei e l[i].elems x.elems m12 (g3.mono (hm011.trans hm12)) (he.mono (hm011.trans hm12)) hli.1) ?_
 rintro _ m13 ⟨rfl,hm13⟩
 refine ⟨by simp[lateOf],?_⟩
 refine D_end fun m14 hm14 _=>?_
 have hm1114:=(hm12.trans hm13).trans hm14
 have hm1014:=hm11.trans hm1114
 have hm014:=hm011.trans hm1114
 by_cases hel:l[i].elems=x.elems
 ·have hRR:RR (l++ [x]) i=RR (l++ [x]) l.length:=by
   refine RR_same (by omega) hlast ?_ ?_
   ·rw[mdAt_app hil2,mdAt_last];exact hi0 hil2
   ·rw[mdAt_app hil2,mdAt_last,mdAt_eq hil2];exact hel
  have hfi:=findI_some hin hc hil2 hRR hneR
  simp[hel,hfi]
  exact hm014
 simp[hel]
 refine C_of (k48 t8 (l++ [x]) m14 (hT9.mono (hm10.trans hm1014)) ok.good ok.len hsz ok.h64 ok.names) ?_
 rintro v15 m15 ⟨hm15,hR⟩
 have hRi:=ints_of_nat hR
 have hrat: ∀j,j<l.length+1→ ∃b o,(∀k,iaddrE 1 v15 (.int k (j:Nat))=some (.ptr b o))∧ ∀m',m15<+:m'→loadE m' 1 false (.ptr b o)=some (.int .i64 (RR (l++ [x]) j:Nat)):=fun j hj=>by
  obtain ⟨b,o,h1,h2⟩:=hRi.at (i:=j) (by simp[Rl_length];omega)
  have hg:(Rl (l++ [x]) ((l++ [x]).length+1))[j]? =some (RR (l++ [x]) j):=Rl_get _ _ (by omega)
  have hg2:(Rl (l++ [x]) ((l++ [x]).length+1))[j]'(by rw[Rl_length];omega)=RR (l++ [x]) j:=by
   have:=List.getElem?_eq_getElem (l:=Rl (l++ [x]) ((l++ [x]).length+1)) (i:=j) (by rw[Rl_length];omega)
   rw[hg] at this;simpa using this.symm
  refine ⟨b,o,h1,fun m' hm'=>?_⟩
  rw[loadE_mono hm' h2]
  simp only[List.getElem_map,hg2]
 obtain ⟨bn,on,gn1,gn2⟩:=hrat l.length (by omega)
 simp
 obtain ⟨I,hI⟩: ∃I:Nat→AFrame→AMem→Prop,∀q f m',I q f m'↔(∃j:Nat,j+q=l.length∧i≤j∧f=h39_2 s v15 (.int .i64 j)∧m15<+:m'∧ ∀k,k<j→RR (l++ [x]) k≠RR (l++ [x]) l.length):=⟨_,fun _ _ _=>Iff.rfl⟩
 refine W_loop I (l.length-i) ((hI _ _ _).2 ⟨i,by omega,by omega,by simp,List.prefix_refl _,hneR⟩) ?_
 rintro q f m16 hIn
 obtain ⟨j,hj,hij,rfl,hm16,hnk⟩:=(hI _ _ _).1 hIn
 clear hIn
 have hm016:=(hm014.trans hm15).trans hm16
 simp[(hs.mono hm016).len]
 refine bbind_dec (fun hjl=>?_) fun hjl=>?_
 ·have hjl:j<l.length:=by omega
  have hw:=step64 hjl (by omega)
  obtain ⟨q,rfl⟩: ∃q',q=q'+1:=⟨q-1,by omega⟩
  obtain ⟨bj,oj,gj1,gj2⟩:=hrat j (by omega)
  have gj:=gj2 m16 hm16
  have gn:=gn2 m16 hm16
  simp
  refine W_drawPR (by simp[maxDst]) rfl rfl ?_
  simp[gj1,gj,(hs.mono hm016).len,gn1,gn]
  intro m17 hm17
  by_cases hRR:RR (l++ [x]) j=RR (l++ [x]) l.length
  ·have hfi:=findI_some hin hc hjl hRR hnk
   simp[hRR,hfi]
   exact hm016.trans hm17
  ·have hRR': ¬((RR (l++ [x]) j:Nat):Int)=(RR (l++ [x]) l.length:Nat):=by omega
   simp[beqF hRR',hw]
   refine ⟨q,by omega,(hI _ _ _).2 ⟨j+1,by omega,by omega,by simp,hm16.trans hm17,fun k hk=>?_⟩⟩
   by_cases hkj:k=j
   ·subst hkj;exact hRR
   ·exact hnk k (by omega)
 ·have hfi:=findI_last hin hc fun k hk=>hnk k (by omega)
  simp[hfi]
  exact hm016
end Go.Proofs.YtlniliigcnedmaaGreatDoor
namespace Go.Proofs.YtlniliigcnedmaaGreatDoor
open Go Ax
set_option maxRecDepth 100000
set_option maxHeartbeats 8000000 in
theorem k41f (s:AVal) (c:List AVal) (l:List Md) (x:Md) (m:AMem) (hs:RTab m s l) (hx:RMode m c x) (hsz: ∀y∈l++ [x],smallN y) (h40: ∀y∈l++ [x],y.elems.length<2^40∧y.names.length<2^40) (hn:l.length<2^20):
  ACalls Tryz.prog 41 [s,.agg c] m fun v m'=>m<+:m'∧ ∃t,v= .tuple [t,.int .i64 (putI l x).2.1,.int .i64 (putI l x).2.2]∧TabS (fun b=>b<m.length) m' t (putI l x).1:=by
 have hx0:=hx
 have hcl:=hx.all
 obtain ⟨e,nm,rfl,he,hnm⟩:=hx
 refine w41 ?_
 have h1:=Sl.one he
 have h2:=Sl.one hnm
 simp[h1,h2]
 have hb0:=readB_new m [.int .i64 x.kind,.int .i64 x.size,e,nm,.int .i64 x.dims,.bool x.flex] 39 none
 have hm01:m<+:m++ [.own [.int .i64 x.kind,.int .i64 x.size,e,nm,.int .i64 x.dims,.bool x.flex] 39 none]:=List.prefix_append _ _
 generalize m++ [.own [.int .i64 x.kind,.int .i64 x.size,e,nm,.int .i64 x.dims,.bool x.flex] 39 none]=m1 at*
 generalize hb3:m.length=b3 at*
 have hlL:(l++ [x]).length=l.length+1:=by simp
 have hx40:=h40 x (by simp)
 refine C_of (k59 s l m1 (hs.mono hm01) (fun y hy=>hsz y (by simp[hy])) (by omega)) ?_
 rintro _ m2 ⟨rfl,hm2⟩
 have hm02:=hm01.trans hm2
 by_cases hc:checkI l=0
 rotate_left
 ·have hp:putI l x=([],0,checkI l):=by
   unfold putI
   rw[if_pos hc]
  simp[bneT hc,hp]
  exact ⟨hm02,TabS.nil⟩
 have hp:putI l x=match findI l x with
   |some i=>(l,(i:Int),0)
   |none=>if checkI (l++ [x])≠0 then ([],0,checkI (l++ [x])) else (l++ [x],(l.length:Int),0):=by
  unfold putI
  rw[if_neg (by simp[hc])]
  all_goals (cases findI l x<;>rfl)
 have hr2:=bxW (readB_mono hm2 hb0) 6
 simp[readN] at hr2
 simp[hc,hr2]
 refine C_of (k39 s _ l x m2 (hs.mono hm02) (hx0.mono hm02) hsz h40 hn) ?_
 rintro _ m3 ⟨hm3,rfl⟩
 have hm03:=hm02.trans hm3
 cases hf:findI l x with
 |some i=>
  rw[hf] at hp
  simp only at hp
  simp
  refine C_of (k76 s l m3 (hs.mono hm03) (fun y hy=>h40 y (by simp[hy])) hn) ?_
  rintro t4 m4 ⟨hm4,hT⟩
  simp[hp]
  exact ⟨hm03.trans hm4,hT.tabS.weaken fun b hb=>by have:=hm03.length_le;omega⟩
 |none=>
  rw[hf] at hp
  simp only at hp
  simp
  have hb3:=readB_mono (hm2.trans hm3) hb0
  refine W_draw (fun _ _ _=>True) (by simp[maxDst]) ?_
  have hr3:=bxW hb3 6
  simp[readN] at hr3
  refine D_pc 0 1 [2,1,3,4,5,6] ?_
  simp
  intro _ _
  refine D_R rfl trivial ⟨_,List.prefix_refl _,fun _ h=>by cases h⟩ ?_
  simp[hr3]
  refine D_X rfl rfl fun m4 hm4 _=>?_
  simp
  refine C_of (k76 s l m4 (hs.mono (hm03.trans hm4)) (fun y hy=>h40 y (by simp[hy])) hn) ?_
  rintro t5 m5 ⟨hm5,hT⟩
  refine ⟨by simp[lateOf,ROp.ev,readB_mono (hm4.trans hm5) hb3,readN],?_⟩
  refine D_X rfl rfl fun m6 hm6 _=>?_
  simp
  refine C_of (k60 _ x m6 (hx0.mono (((hm03.trans hm4).trans hm5).trans hm6)) hx40) ?_
  rintro _ m7 ⟨hm7,c7,rfl,hM⟩
  refine ⟨by simp[lateOf],?_⟩
  have hcl7:=hM.mode.all
  obtain ⟨e7,nm7,hc7,_,_⟩:=id hM
  have hfill:fillA [.int .i64 0,.int .i64 0,.nilslice,.nilslice,.int .i64 0,.bool false] [(0,6,.agg c7)]=some c7:=by
   subst hc7
   have h:=hcl7.2
   simp only[List.all_cons,List.all_nil,Bool.and_eq_true] at h
   simp[fillA,setN,h.2.2.1,h.2.2.2.1]
  refine D_A rfl trivial ?_
  simp[hfill]
  intro b'
  refine D_W rfl rfl fun m8 hm8 hf8=>?_
  have h8:=hf8 4
  simp[upd] at h8
  have hm58:=(hm6.trans hm7).trans hm8
  obtain ⟨t9,m9,happ,hch9,hT9,_⟩:=(hT.mono hm58).pushM (by have:=hm5.length_le;have:=hm58.length_le;omega) (hM.mono hm8) (fun b hb=>by have:=(hT.blk_lo hb).2;have:=hm6.length_le;omega) (by have:=hm5.length_le;have:=hm6.length_le;omega) (by omega)
  simp[lit6' h8 hcl7.1,happ]
  refine D_P rfl trivial ?_
  simp
  refine D_end fun m10 hm10 _=>?_
  have hm49:m4<+:m9:=hch9.pre (hm5.trans hm58) fun b hb h=>by have:=(hT.blk_lo h).1;omega
  have hm310:=(hm4.trans hm49).trans hm10
  have hm010:=hm03.trans hm310
  have hT10:=(hT9.mono hm10).tab
  simp
  refine C_of (k59 t9 (l++ [x]) m10 hT10 hsz (by omega)) ?_
  rintro _ m11 ⟨rfl,hm11⟩
  by_cases hc2:checkI (l++ [x])=0
  ·rw[if_neg (by simp[hc2])] at hp
   simp[hc2,hp,(hs.mono (hm010.trans hm11)).len]
   exact ⟨hm010.trans hm11,(hT9.mono (hm10.trans hm11)).tabS.weaken fun b hb=>by have:=(hm03.trans hm4).length_le;omega⟩
  ·rw[if_pos hc2] at hp
   simp[bneT hc2,hp]
   exact ⟨hm010.trans hm11,TabS.nil⟩
theorem k41 (s:AVal) (c:List AVal) (l:List Md) (x:Md) (m:AMem) (hs:RTab m s l) (hx:RMode m c x) (hsz: ∀y∈l++ [x],smallN y) (h40: ∀y∈l++ [x],y.elems.length<2^40∧y.names.length<2^40) (hn:l.length<2^20):
  ACalls Tryz.prog 41 [s,.agg c] m fun v m'=>m<+:m'∧ ∃t,v= .tuple [t,.int .i64 (putI l x).2.1,.int .i64 (putI l x).2.2]∧RTab m' t (putI l x).1:=by
 refine (k41f s c l x m hs hx hsz h40 hn).mono ?_
 rintro v m' ⟨h1,t,h2,h3⟩
 exact ⟨h1,t,h2,h3.tab⟩
end Go.Proofs.YtlniliigcnedmaaGreatDoor
namespace Go.Proofs.YtlniliigcnedmaaGreatDoor
open Go Ax
set_option maxRecDepth 100000
structure UpTo (f:Nat→Nat) (ms:List Nat) (r:Nat) (zs:List Nat):Prop where
 asc:zs.Pairwise (fun a b=>f a<f b)
 sub: ∀z∈zs,z∈ms∧f z<r
 cov: ∀y∈ms,f y<r→ ∃z∈zs,f z=f y∧z≤y
theorem UpTo.skip {f:Nat→Nat} {ms:List Nat} {r:Nat} {zs:List Nat} (h:UpTo f ms r zs) (hn: ∀y∈ms,f y≠r):UpTo f ms (r+1) zs:=
 ⟨h.asc,fun z hz=>⟨(h.sub z hz).1,by have:=(h.sub z hz).2;omega⟩,fun y hy hl=>h.cov y hy (by have:=hn y hy;omega)⟩
theorem UpTo.take {f:Nat→Nat} {ms:List Nat} {r:Nat} {zs:List Nat} (h:UpTo f ms r zs) {k:Nat} (hk:k∈ms) (hr:f k=r) (hl: ∀y∈ms,f y=r→k≤y):UpTo f ms (r+1) (zs++ [k]):=by
 refine ⟨?_,fun z hz=>?_,fun y hy hlt=>?_⟩
 ·rw[List.pairwise_append]
  refine ⟨h.asc,by simp,fun a ha b hb=>?_⟩
  simp at hb
  subst hb
  have:=(h.sub a ha).2
  omega
 ·rcases List.mem_append.1 hz with hz|hz
  ·exact ⟨(h.sub z hz).1,by have:=(h.sub z hz).2;omega⟩
  ·simp at hz;subst hz;exact ⟨hk,by omega⟩
 ·by_cases he:f y=r
  ·exact ⟨k,by simp,by omega,hl y hy he⟩
  ·obtain ⟨z,h1,h2⟩:=h.cov y hy (by omega)
   exact ⟨z,by simp[h1],h2⟩
end Go.Proofs.YtlniliigcnedmaaGreatDoor
namespace Go.Proofs.YtlniliigcnedmaaGreatDoor
open Go Ax
open Relation
set_option maxRecDepth 100000
theorem rlAt {m:AMem} {r:AVal} {l:List Md} (h:RInts m r ((Rl l (l.length+1)).map fun z:Nat=>(z:Int))) {j:Nat} (hj:j<l.length): ∃b o,(∀k,iaddrE 1 r (.int k (j:Nat))=some (.ptr b o))∧ ∀m',m<+:m'→loadE m' 1 false (.ptr b o)=some (.int .i64 (RR l j:Nat)):=by
 obtain ⟨b,o,h1,h2⟩:=h.at (i:=j) (by simp[Rl_length];omega)
 have hg:(Rl l (l.length+1))[j]? =some (RR l j):=Rl_get _ _ hj
 have hg2:(Rl l (l.length+1))[j]'(by rw[Rl_length];omega)=RR l j:=by
  have:=List.getElem?_eq_getElem (l:=Rl l (l.length+1)) (i:=j) (by rw[Rl_length];omega)
  rw[hg] at this;simpa using this.symm
 refine ⟨b,o,h1,fun m' hm'=>?_⟩
 rw[loadE_mono hm' h2]
 simp only[List.getElem_map,hg2]
end Go.Proofs.YtlniliigcnedmaaGreatDoor
namespace Go.Proofs.YtlniliigcnedmaaGreatDoor
open Go Ax
set_option maxRecDepth 100000
structure WTu (l:List Md) (m0:AMem) (sT rk:AVal):Prop where
 tx:TxT l
 full:Full l
 sh: ∀x∈l,0≤x.kind∧x.kind<14∧shaped x
 tab:RTab m0 sT l
 rks:RInts m0 rk ((Rl l (l.length+1)).map fun z:Nat=>(z:Int))
theorem numOf_at {l:List Md} {s:List Nat} {x i:Nat} (hi:i<s.length) (h: ∀j (hj:j<i),RR l (s[j]'(by omega))≠RR l x) (e:RR l s[i]=RR l x):numOf l s x=some i:=by
 unfold numOf
 rw[List.findIdx?_eq_some_iff_getElem]
 exact ⟨hi,by simpa using e,fun j hj=>by simpa using h j hj⟩
theorem numOf_no {l:List Md} {s:List Nat} {x:Nat} (h: ∀j (hj:j<s.length),RR l s[j]≠RR l x):numOf l s x=none:=by
 rw[numOf_none]
 intro z hz
 obtain ⟨j,hj,rfl⟩:=List.mem_iff_getElem.1 hz
 exact h j hj
theorem tx_small {l:List Md} (ht:TxT l) (hf:Full l) (f:Nat) {s:List Nat} {x:Nat} (hs:Seen l s) (hx:x<l.length):(txM l f s x).1.length≤600000:=by
 have h:=txM_grow ht hf f s x hs hx
 have:=h.len
 have:=h.seen.len
 have:=ht.len
 omega
theorem txL_small {l:List Md} (ht:TxT l) (hf:Full l) (f:Nat) {s:List Nat} {zs:List (Nat×List UInt8)} (hs:Seen l s) (hz: ∀p∈zs,p.1<l.length∧p.2.length≤41) (hn:zs.length≤64):(txL (txM l f) true s zs).1.length≤600000:=by
 have h:=txL_grow (fun s z a b=>txM_grow ht hf f s z a b) zs true s hs hz
 have:=h.len
 have:=h.seen.len
 have:=ht.len
 omega
theorem named_ok {l:List Md} (ht:TxT l) {x:Nat} (hx:x<l.length): ∀p∈named (eN l[x]) l[x].names,p.1<l.length∧p.2.length≤41:=by
 intro p hp
 obtain ⟨h1,n,h2,h3⟩:=named_mem hp
 rw[←mdAt_eq hx] at h1 h2
 refine ⟨eN_lt ht.good hx h1,?_⟩
 rw[h3]
 have:=ht.nms _ (mdAt_mem hx) n h2
 simp only[List.length_cons,Array.length_toList]
 show n.size+1≤41
 omega
set_option maxHeartbeats 8000000 in
theorem text_ok {l:List Md} {m0:AMem} {b:Nat} {sT rk:AVal} (H:WTu l m0 sT rk): ∀f,TextOK l m0 b sT rk f
 |0=>fun x m sn s hW hS hx hfu=>by have:=hS.len;omega
 |f+1=>by
  have ih:=text_ok (b:=b) H f
  intro x m sn s hW hS hx hfu
  refine w49 ?_
  have hb0:=hW.blk
  obtain ⟨bx',ox,c,h4,h5,_,_,h6⟩:=H.tab.atC hx
  replace h5:=loadE_mono hW.pre h5
  simp[bx (own_read hb0),h4,h5]
  have hcl:=h6.all
  rw[store_new _ _ c _ _ 6 hcl.1 rfl hcl.2]
  have hb4:(m++ [ABlk.own c 39 none])[m.length]? =some (.own c 39 none):=by simp
  have hm1:m<+:m++ [ABlk.own c 39 none]:=List.prefix_append _ _
  have hn4:m.length≠b:=by have:=hW.lt;omega
  have hf4:sn.blk≠some m.length:=fun e=>by have:=(hW.seen.blk_lo e).2;omega
  have h6':=h6
  obtain ⟨e,nm,c0,c1,c2,c3,c4,c5,he,hnm,rfl⟩:=h6.get
  have hsh:=H.sh _ (List.getElem_mem hx)
  have hmd:=mdAt_eq hx
  have hl60:=H.tx.len
  generalize m++ [ABlk.own [AVal.int .i64 l[x].kind,AVal.int .i64 l[x].size,e,nm,AVal.int .i64 l[x].dims,AVal.bool l[x].flex] 39 none]=m1 at*
  generalize m.length=b4 at*
  have hW1:=hW.mono hm1
  simp[bx (own_read hb4)]
  obtain ⟨J,hJ⟩: ∃J:AFrame→AMem→Prop,∀a' m',J a' m'↔(a'.forget [0,1,5]=mat 148 [(0,.ptr b 0),(1,.int .i64 x),(5,.ptr b4 0)]∧m'=m1∧9≤l[x].kind):=⟨_,fun _ _=>Iff.rfl⟩
  refine bbind_J J ?_ ?_
  ·refine bbind_dec (fun hk=>?_) fun hk=>?_
   rotate_left
   ·simp
    exact (hJ _ _).2 ⟨rfl,rfl,by simpa using hk⟩
   have hk9:l[x].kind<9:=by simpa using hk
   have htx:txM l (f+1) s x=(plainT l[x],s):=by simp[txM,hmd,hk9]
   rw[htx]
   simp[bxW (own_read hb4),readN]
   refine C_of (k93 _ l[x] m1 (h6'.mono (hW.pre.trans hm1)) hsh.2.2 ⟨hsh.1,hk9⟩) ?_
   rintro _ m2 ⟨rfl,hm2⟩
   simp
   exact ⟨sn,hW1.mono hm2,.of_prefix (hm1.trans hm2)⟩
  ·intro a m2' hJ2
   obtain ⟨hfa,hme,hk9⟩:=(hJ _ _).1 hJ2
   rw[hme]
   clear hJ2 hJ J
   simp[hfa]
   obtain ⟨ba,oa,hpa,hla⟩:=rlAt H.rks hx
   have hSl:=hS.len
   obtain ⟨I,hI'⟩: ∃I:Nat→AFrame→AMem→Prop,∀q a m',I q a m'↔(∃i:Nat,i+q=s.length∧a=h49_0 (.ptr b 0) (.int .i64 x) (.ptr b4 0) (.int .i64 i)∧m1<+:m'∧ ∀j (hj:j<i) (hjs:j<s.length),RR l s[j]≠RR l x):=⟨_,fun _ _ _=>Iff.rfl⟩
   refine W_loop I s.length ((hI' _ _ _).2 ⟨0,by simp,by simp,List.prefix_refl _,fun j hj=>by omega⟩) ?_
   rintro q a m2 hIn
   obtain ⟨i,hi,rfl,hm2,hno⟩:=(hI' _ _ _).1 hIn
   clear hIn
   have hW2:=hW1.mono hm2
   have hlen:=hW2.seen.len
   simp at hlen
   simp[bx (own_read hW2.blk),hlen]
   refine bbind_dec (fun hil=>?_) fun hil=>?_
   ·have hil:i<s.length:=by omega
    have hw:=step64 (k:=i) (n:=s.length) hil (by omega)
    obtain ⟨q,rfl⟩: ∃q',q=q'+1:=⟨q-1,by omega⟩
    obtain ⟨b9,o9,_,g1,g2,_⟩:=hW2.seen.at (i:=i) (by simpa using hil)
    simp at g2
    have hla2:=hla m2 hW2.pre
    have hxy:(((RR l s[i]:Nat):Int)==((RR l x:Nat):Int))=decide (RR l s[i]=RR l x):=by
     rw[Bool.eq_iff_iff,decide_eq_true_iff,beq_iff_eq]
     constructor<;>intro h<;>omega
    simp
    refine W_drawPR (by simp[maxDst]) rfl rfl ?_
    simp[bx (own_read hW2.blk),g1,g2,hpa,hla2,hxy]
    intro m3 hm3
    refine bbind_dec (fun hd=>?_) fun hd=>?_
    ·have hn:=numOf_at (l:=l) (x:=x) hil (fun j hj=>hno j hj (by omega)) hd
     have hnk: ¬l[x].kind<9:=by omega
     have htx:txM l (f+1) s x=(35::digB 20 i,s):=by simp[txM,hmd,hnk,hn]
     rw[htx]
     simp
     refine C_of (k94 19 i m3 (by omega) (by omega) (by omega)) ?_
     rintro _ m4 ⟨rfl,hm4⟩
     have hadd:binStr .add ⟨#[35]⟩ ⟨(digB 20 i).toArray⟩=some (.str ⟨(35::digB 20 i).toArray⟩):=str_add [35] _ (by rw[ba_size];have:=digB_len 20 i;simp;omega)
     simp[hadd]
     exact ⟨sn,hW2.mono (hm3.trans hm4),.of_prefix (hm1.trans (hm2.trans (hm3.trans hm4)))⟩
    ·simp[hw]
     refine ⟨q,by omega,(hI' _ _ _).2 ⟨i+1,by omega,by simp,hm2.trans hm3,fun j hj hjs=>?_⟩⟩
     by_cases ej:j=i
     ·subst ej;exact hd
     ·exact hno j (by omega) hjs
   have hil:i=s.length:=by omega
   subst hil
   have hn:=numOf_no (l:=l) (x:=x) fun j hj=>hno j hj hj
   have hnk: ¬l[x].kind<9:=by omega
   have htx:txM l (f+1) s x=bodyT l (txM l f) (s++ [x]) x:=by simp[txM,hmd,hnk,hn]
   rw[htx]
   have hS':=hS.add hx hn
   have hla2:=hla m2 hW2.pre
   simp
   clear hI'
   have hb42:=own_mono hb4 hm2
   refine W_draw (fun _ _ _=>True) (by simp[maxDst]) ?_
   refine D_pc 0 12 [12,13,14,15,16] ?_
   simp[bx (own_read hW2.blk),hpa,hla2]
   intro fs1 h1
   refine D_An rfl trivial ?_
   simp[fillA,setN]
   intro bl hbl
   refine D_W rfl rfl fun m3 hm3 hf3=>?_
   have hf10:=hf3 12
   simp[upd] at hf10
   have hsc:sliceCells m3 1 (.slice bl 0 1 1 none)=some (1,[.int .i64 (RR l x:Nat)]):=by simp[sliceCells,readB,hf10,ABlk.cells,readN]
   have hW3:=hW2.mono hm3
   obtain ⟨sn4,m4,happ,hch4,hseen4,hbl4⟩:=hW3.seen.push hW3.pre.length_le (by_:=8) (by decide) (RR l x) (by simp;omega)
   have hb44:=own_ch (own_mono hb42 hm3) hch4 hf4
   have hbw4:=own_ch hW3.blk hch4 hW3.ne
   have hn44:sn4.blk≠some b4:=fun e=>by
    obtain ⟨bl',g',h3'⟩:=hseen4.own e
    rw[hb44] at h3'
    simp at h3'
   have hnb4:sn4.blk≠some b:=fun e=>by
    obtain ⟨bl',g',h3'⟩:=hseen4.own e
    rw[hbw4] at h3'
    simp at h3'
   simp[hsc,happ]
   refine D_pc 14 2 [16] ?_ (hfs:=fun _ _=>trivial)
   simp
   intro fs2 _
   refine D_W rfl rfl fun m5 hm5 _=>?_
   obtain ⟨hsl1,hsl2⟩:=Sl.self (Ow.sl hseen4)
   obtain ⟨m6,hst6,hb6,hc6⟩:=fld_store (i:=2) (v:=sn4) (own_mono hbw4 hm5) (by simp) hsl2 hsl1
   simp at hb6
   simp[hst6]
   refine D_end fun m7 hm7 _=>?_
   have hC6:WC b b sn m sn4 m7:=(WC.of_prefix (hm1.trans (hm2.trans hm3))).trans (WC.trans (bf1:=sn4) ⟨hch4.weaken fun c _ e=> .inr (.inr e),hbl4⟩ ((WC.of_prefix hm5).trans (WC.trans (bf1:=sn4) ⟨hc6.weaken fun c _ e=> .inl e,fun c e=> .inl e⟩ (.of_prefix hm7))))
   have hp6:m0<+:m7:=hW.pre0 hC6
   have hW7:WU l m0 b sT rk m7 sn4 (s++ [x]):=⟨own_mono hb6 hm7,((hseen4.mono hm5).ch hc6 fun c hc e=>hnb4 (e▸hc)).mono hm7|>(by simpa using ·),hp6,hW.lo⟩
   have hb47:=own_mono (own_ch (own_mono hb44 hm5) hc6 fun e=>hn4 e) hm7
   clear hst6 hb6 hc6 hf10 hsc happ hch4 hseen4 hbl4 hf3
   have hshd:=hsh.2.2
   have hmp:(s++ [x]).length=s.length+1:=by simp
   have he7:=he.mono hp6
   have hel:=H.tx.els _ (List.getElem_mem hx)
   have hkk:l[x].kind=9∨l[x].kind=10∨l[x].kind=11∨l[x].kind=12∨l[x].kind=13:=by omega
   simp[bx (own_read hb47)]
   rcases hkk with hkk|hkk|hkk|hkk|hkk
   ·have hl1:l[x].elems.length=1:=by
     have h1:=hshd.1;have h2:=hshd.2.1
     simp[least,most,hkk] at h1 h2
     omega
    obtain ⟨b9,o9,q1,q2⟩:=he7.at (i:=0) (by omega)
    rw[eN_at H.tx.good hx (by omega)] at q2
    have hlt:=eN_getD (k:=0) H.tx.good hx (by rw[hmd];omega)
    rw[hmd] at hlt
    have hbd:bodyT l (txM l f) (s++ [x]) x=([82,69,70,32]++(txM l f (s++ [x]) ((eN l[x]).getD 0 0)).1,(txM l f (s++ [x]) ((eN l[x]).getD 0 0)).2):=by
     simp[bodyT,hmd,hkk]
    rw[hbd]
    generalize (eN l[x]).getD 0 0=la at*
    have hsm:=tx_small H.tx H.full f hS' hlt
    have q1':=q1 .i64
    simp at q1'
    simp[hkk,bx (own_read hb47),q1',q2]
    refine C_of (ih la m7 sn4 (s++ [x]) hW7 hS' hlt (by omega)) ?_
    rintro _ m8 ⟨sn8,rfl,hW8,hC8⟩
    have hadd:binStr .add ⟨#[82,69,70,32]⟩ ⟨(txM l f (s++ [x]) la).1.toArray⟩=some (.str ⟨([82,69,70,32]++(txM l f (s++ [x]) la).1).toArray⟩):=str_add [82,69,70,32] _ (by rw[ba_size];simp;omega)
    simp at hadd
    simp[hadd]
    exact ⟨sn8,hW8,hC6.trans hC8⟩
   ·have hl1:l[x].elems.length=1:=by
     have h1:=hshd.1;have h2:=hshd.2.1
     simp[least,most,hkk] at h1 h2
     omega
    have hdm:1≤l[x].dims∧l[x].dims≤3:=by
     have h1:=hshd.2.2.2.1
     simpa[dimsOk,hkk] using h1
    obtain ⟨dm,hdmE⟩: ∃dm:Nat,l[x].dims=dm:=⟨l[x].dims.toNat,by omega⟩
    obtain ⟨b9,o9,q1,q2⟩:=he7.at (i:=0) (by omega)
    rw[eN_at H.tx.good hx (by omega)] at q2
    have hlt:=eN_getD (k:=0) H.tx.good hx (by rw[hmd];omega)
    rw[hmd] at hlt
    obtain ⟨pr,hpr⟩: ∃pr:List UInt8,pr=(if l[x].flex=true then [70,76,69,88,32] else [])++ [91]:=⟨_,rfl⟩
    have hprl:pr.length≤6:=by rw[hpr];split<;>simp
    have hbd:bodyT l (txM l f) (s++ [x]) x=(pr++List.replicate (dm-1) 44++ [93]++(txM l f (s++ [x]) ((eN l[x]).getD 0 0)).1,(txM l f (s++ [x]) ((eN l[x]).getD 0 0)).2):=by
     rw[hpr,show dm-1=(l[x].dims-1).toNat by omega]
     simp[bodyT,hmd,hkk]
    rw[hbd]
    generalize (eN l[x]).getD 0 0=la at*
    have hsm:=tx_small H.tx H.full f hS' hlt
    have q1':=q1 .i64
    simp at q1'
    simp[hkk,bx (own_read hb47)]
    obtain ⟨J2,hJ2⟩: ∃J:AFrame→AMem→Prop,∀a' m',J a' m'↔(a'.forget [0,5,7]=mat 148 [(0,.ptr b 0),(5,.ptr b4 0),(7,.str ⟨pr.toArray⟩)]∧m'=m7):=⟨_,fun _ _=>Iff.rfl⟩
    refine bbind_J J2 ?_ ?_
    ·cases h0':l[x].flex
     ·simp
      exact (hJ2 _ _).2 ⟨by rw[hpr,h0'];simp,rfl⟩
     ·simp
      exact (hJ2 _ _).2 ⟨by rw[hpr,h0'];simp,rfl⟩
    intro a' m7' hJ7
    obtain ⟨hfa7,hme⟩:=(hJ2 _ _).1 hJ7
    rw[hme]
    clear hJ7 hJ2 J2
    simp[hfa7]
    obtain ⟨I,hI'⟩: ∃I:Nat→AFrame→AMem→Prop,∀q a m',I q a m'↔(∃i:Nat,i+1+q=dm∧a=h49_1 (.ptr b 0) (.ptr b4 0) (.str ⟨(pr++List.replicate i 44).toArray⟩) (.int .i64 ((i+1:Nat):Int))∧m'=m7):=⟨_,fun _ _ _=>Iff.rfl⟩
    refine W_loop I (dm-1) ((hI' _ _ _).2 ⟨0,by omega,by simp,rfl⟩) ?_
    rintro q a m8 hIn
    obtain ⟨i,hi,rfl,hme8⟩:=(hI' _ _ _).1 hIn
    rw[hme8]
    clear hIn
    simp[bx (own_read hb47),hdmE]
    refine bbind_dec (fun hil=>?_) fun hil=>?_
    ·have hil:i+1<dm:=by omega
     have hw:=step64 (k:=i+1) (n:=dm) hil (by omega)
     simp at hw
     obtain ⟨q,rfl⟩: ∃q',q=q'+1:=⟨q-1,by omega⟩
     obtain ⟨rl,hrl⟩: ∃rl:List UInt8,rl=pr++List.replicate i 44:=⟨_,rfl⟩
     have hrll:rl.length=pr.length+i:=by rw[hrl];simp
     have hadd:binStr .add ⟨rl.toArray⟩ ⟨#[44]⟩=some (.str ⟨(rl++ [44]).toArray⟩):=str_add _ _ (by show _+1≤_;omega)
     rw[←hrl]
     simp[hadd,hw]
     refine ⟨q,by omega,(hI' _ _ _).2 ⟨i+1,by omega,?_,rfl⟩⟩
     rw[hrl,List.replicate_succ',←List.append_assoc]
     simp
    ·have hil:i=dm-1:=by omega
     obtain ⟨rl,hrl⟩: ∃rl:List UInt8,rl=pr++List.replicate i 44:=⟨_,rfl⟩
     have hrll:rl.length=pr.length+i:=by rw[hrl];simp
     rw[←hil,←hrl]
     clear hI'
     have hadd:binStr .add ⟨rl.toArray⟩ ⟨#[93]⟩=some (.str ⟨(rl++ [93]).toArray⟩):=str_add _ _ (by show _+1≤_;omega)
     obtain ⟨R,hR⟩: ∃R:List UInt8,R=rl++ [93]:=⟨_,rfl⟩
     have hRl:R.length=rl.length+1:=by rw[hR];simp
     rw[←hR] at hadd ⊢
     simp[hadd,bx (own_read hb47),q1',q2]
     refine C_of (ih la m7 sn4 (s++ [x]) hW7 hS' hlt (by omega)) ?_
     rintro _ m8 ⟨sn8,rfl,hW8,hC8⟩
     have hadd2:binStr .add ⟨R.toArray⟩ ⟨(txM l f (s++ [x]) la).1.toArray⟩=some (.str ⟨(R++(txM l f (s++ [x]) la).1).toArray⟩):=str_add _ _ (by rw[ba_size];omega)
     simp[hadd2]
     exact ⟨sn8,hW8,hC6.trans hC8⟩
   ·have hl1:1≤l[x].elems.length:=by
     have h1:=hshd.1
     simp[least,hkk] at h1
     omega
    have hnl:l[x].names.length=l[x].elems.length:=by
     have h1:=hshd.2.2.1
     simp[nNames,hkk] at h1
     omega
    have hniN:isNilOf .slice nm=some false:=by
     rcases hnm with ⟨_,h,_⟩|⟨_,_,_,_,rfl,_⟩
     ·omega
     ·rfl
    have hnok:=named_ok H.tx hx
    have hsm:=txL_small H.tx H.full f hS' hnok (by simp only[named,List.length_zipWith,eN_len];omega)
    have hbd:bodyT l (txM l f) (s++ [x]) x=([83,84,82,85,67,84,40]++(txL (txM l f) true (s++ [x]) (named (eN l[x]) l[x].names)).1++ [41],(txL (txM l f) true (s++ [x]) (named (eN l[x]) l[x].names)).2):=by
     simp[bodyT,hmd,hkk]
    rw[hbd]
    simp[hkk,bx (own_read hb47)]
    refine C_of (list_ok H.tx H.full ih (zs:=eN l[x]) (items:=named (eN l[x]) l[x].names) (fun z hz=>eN_lt H.tx.good hx (by rw[hmd];exact hz)) (by rw[eN_len];omega) hW7 hS'
     (fun bf' m' hc=>by rw[eN_cast H.tx.good hx];exact he.mono (hW7.pre0 hc)) (.inr ⟨l[x].names,hniN,fun bf' m' hc=>hnm.mono (hW7.pre0 hc),by rw[eN_len];exact hnl,rfl⟩) (by omega) (by omega)) ?_
    rintro _ m8 ⟨sn8,rfl,hW8,hC8⟩
    generalize txL (txM l f) true (s++ [x]) (named (eN l[x]) l[x].names)=T at*
    have hadd:binStr .add ⟨#[83,84,82,85,67,84,40]⟩ ⟨T.1.toArray⟩=some (.str ⟨([83,84,82,85,67,84,40]++T.1).toArray⟩):=str_add [83,84,82,85,67,84,40] _ (by rw[ba_size];simp;omega)
    obtain ⟨R,hR⟩: ∃R:List UInt8,R= [83,84,82,85,67,84,40]++T.1:=⟨_,rfl⟩
    have hRl:R.length=7+T.1.length:=by rw[hR];simp;omega
    rw[←hR] at hadd
    have hadd2:binStr .add ⟨R.toArray⟩ ⟨#[41]⟩=some (.str ⟨(R++ [41]).toArray⟩):=str_add _ _ (by show _+1≤_;omega)
    simp[hadd,hadd2]
    exact ⟨by rw[hR];simp,sn8,hW8,hC6.trans hC8⟩
   ·have hu':isU l[x]=true:=by simp[isU,hkk]
    have hu:isU (mdAt l x)=true:=by rw[hmd];exact hu'
    have h64: ∀y∈l,y.elems.length≤64:=H.tx.els
    have hbl':=(basesEx H.tx.good hx).length H.tx.good hx
    have hsm:=txL_small H.tx H.full f hS' (bare_ok (bases_lt H.tx.good hx)) (by simp only[bare,List.length_map];omega)
    have hbd:bodyT l (txM l f) (s++ [x]) x=([85,78,73,79,78,40]++(txL (txM l f) true (s++ [x]) (bare (basesOf l x))).1++ [41],(txL (txM l f) true (s++ [x]) (bare (basesOf l x))).2):=by
     simp[bodyT,hmd,hkk]
    rw[hbd]
    simp[hkk]
    refine W_draw (fun _ _ _=>True) (by simp[maxDst]) ?_
    refine D_pc 0 6 [7,8,9,10,6,11,12,13,14,15] ?_
    simp[bx (own_read hW7.blk)]
    intro fs3 h3
    refine D_pc 7 4 [6,11,12,13,14,15] ?_ (hfs:=h3)
    simp[bx (own_read hW7.blk)]
    intro fs4 _
    refine D_X rfl rfl fun m8 hm8 _=>?_
    simp
    refine C_of (k56 sT l x hx hu' m8 (H.tab.mono (hp6.trans hm8)) H.tx.good (by omega) h64) ?_
    rintro v9 m9 ⟨hm9,O,hO,hOn,hOm⟩
    have hp9:=hm8.trans hm9
    refine ⟨by simp[lateOf,bx (own_read (hW7.mono hp9).blk)],?_⟩
    refine D_X rfl rfl fun m10 hm10 _=>?_
    simp
    have hOl:=nodup_le l.length O hOn fun x hx=>((hOm x).1 hx).lt H.tx.good
    refine C_of (k55 v9 rk O (Rl l (l.length+1)) m10 ((ints_of_nat hO).mono hm10) (H.rks.mono (hp6.trans (hp9.trans hm10))) (fun x hx=>by rw[Rl_length];exact ((hOm x).1 hx).lt H.tx.good) (by omega)) ?_
    rintro v11 m11 ⟨hm11,zs,hzs,hsb⟩
    have hBo:BasesOk l x zs:=⟨fun _=>⟨O,hOm,hsb.congr (n:=l.length) (fun x hx=>((hOm x).1 hx).lt H.tx.good) fun x hx=>by rw[Rl_getD l _ hx];rfl⟩,fun h=>by rw[hu] at h;cases h⟩
    obtain rfl:=hBo.eq
    have hp11:=hp9.trans (hm10.trans hm11)
    refine ⟨by simp[lateOf],?_⟩
    refine D_X rfl rfl fun m12 hm12 _=>?_
    simp
    have hp12:=hp11.trans hm12
    have hW12:=hW7.mono hp12
    have hlo12: ∀c,v11.blk=some c→m7.length≤c:=fun c e=>by
     have:=(hzs.blk_lo e).1
     have:=(hp9.trans hm10).length_le
     omega
    refine C_of (list_ok H.tx H.full ih (zs:=basesOf l x) (items:=bare (basesOf l x)) (bases_lt H.tx.good hx) (by omega) hW12 hS'
     (fun bf' m' hc=>ints_of_nat ((hzs.mono hm12).ch hc.1 fun c hc' e=>by
      have h1:=hlo12 c hc'
      rcases e with e|e|e
      ·have:=hW7.lt;omega
      ·have:=hW7.lt;omega
      ·have:=(hW7.seen.blk_lo e).2;omega)) (.inl ⟨rfl,rfl⟩) (by omega) (by omega)) ?_
    rintro _ m13 ⟨sn8,rfl,hW8,hC8⟩
    refine ⟨by simp[lateOf],?_⟩
    generalize txL (txM l f) true (s++ [x]) (bare (basesOf l x))=T at*
    have hadd:binStr .add ⟨#[85,78,73,79,78,40]⟩ ⟨T.1.toArray⟩=some (.str ⟨([85,78,73,79,78,40]++T.1).toArray⟩):=str_add [85,78,73,79,78,40] _ (by rw[ba_size];simp;omega)
    obtain ⟨R,hR⟩: ∃R:List UInt8,R= [85,78,73,79,78,40]++T.1:=⟨_,rfl⟩
    have hRl:R.length=6+T.1.length:=by rw[hR];simp;omega
    rw[←hR] at hadd
    have hadd2:binStr .add ⟨R.toArray⟩ ⟨#[41]⟩=some (.str ⟨(R++ [41]).toArray⟩):=str_add _ _ (by show _+1≤_;omega)
    refine D_pc 13 3 [] ?_ (hfs:=fun _ _=>trivial)
    simp[hadd,hadd2]
    intro fs5 _
    refine D_end fun m14 hm14 _=>?_
    simp
    exact ⟨by rw[hR];simp,sn8,hW8.mono hm14,hC6.trans ((WC.of_prefix hp12).trans (hC8.trans (.of_prefix hm14)))⟩
   ·have hl1:1≤l[x].elems.length:=by
     have h1:=hshd.1
     simp[least,hkk] at h1
     omega
    have hwl:IntKind.i64.wrap ((l[x].elems.length:Int)-1)=((l[x].elems.length-1:Nat):Int):=by rw[wrap64 (by omega) (by omega)];omega
    obtain ⟨n,hn1⟩: ∃n,l[x].elems.length=n+1:=⟨l[x].elems.length-1,by omega⟩
    have hlt:=eN_getD (k:=n) H.tx.good hx (by rw[hmd];omega)
    rw[hmd] at hlt
    simp[hkk,bx (own_read hb47),he7.len,hwl]
    rw[show l[x].elems.length-1=n by omega]
    by_cases h1:0<n
    ·have hbs: ∀z∈(eN l[x]).take n,z<l.length:=fun z hz=>eN_lt H.tx.good hx (by rw[hmd];exact mem_take hz)
     have hsm:=txL_small H.tx H.full f hS' (bare_ok hbs) (by simp only[bare,List.length_map,List.length_take,eN_len];omega)
     have hbd:bodyT l (txM l f) (s++ [x]) x=([80,82,79,67,40]++(txL (txM l f) true (s++ [x]) (bare ((eN l[x]).take n))).1++ [41,32]++(txM l f (txL (txM l f) true (s++ [x]) (bare ((eN l[x]).take n))).2 ((eN l[x]).getD n 0)).1,(txM l f (txL (txM l f) true (s++ [x]) (bare ((eN l[x]).take n))).2 ((eN l[x]).getD n 0)).2):=by
      simp[bodyT,hmd,hkk,hn1,h1]
     rw[hbd]
     obtain ⟨s',hsl,hsT⟩:=he7.take (i:=n) (by omega)
     have hsn:=txL_seen (fun s z a b=>txM_seen H.tx H.full f a b) (bare ((eN l[x]).take n)) true (s++ [x]) hS' (fun p hp=>(bare_ok hbs p hp).1)
     simp[h1,hsl,bx (own_read hb47)]
     refine C_of (list_ok H.tx H.full ih (zs:=(eN l[x]).take n) (items:=bare ((eN l[x]).take n)) hbs (by simp only[List.length_take,eN_len];omega) hW7 hS'
      (fun bf' m' hc=>by rw[List.map_take,eN_cast H.tx.good hx];exact hsT m' (he.mono (hW7.pre0 hc))) (.inl ⟨rfl,rfl⟩) (by omega) (by omega)) ?_
     rintro _ m8 ⟨sn8,rfl,hW8,hC8⟩
     have hb48:=(hC8.keep hb47 hn4 hn4 hn44).1
     generalize txL (txM l f) true (s++ [x]) (bare ((eN l[x]).take n))=T at*
     have hadd:binStr .add ⟨#[80,82,79,67,40]⟩ ⟨T.1.toArray⟩=some (.str ⟨([80,82,79,67,40]++T.1).toArray⟩):=str_add [80,82,79,67,40] _ (by rw[ba_size];simp;omega)
     obtain ⟨R,hR⟩: ∃R:List UInt8,R= [80,82,79,67,40]++T.1:=⟨_,rfl⟩
     have hRl:R.length=5+T.1.length:=by rw[hR];simp;omega
     rw[←hR] at hadd
     have hadd2:binStr .add ⟨R.toArray⟩ ⟨#[41,32]⟩=some (.str ⟨(R++ [41,32]).toArray⟩):=str_add _ _ (by show _+2≤_;omega)
     obtain ⟨V,hV⟩: ∃V:List UInt8,V=R++ [41,32]:=⟨_,rfl⟩
     have hVl:V.length=R.length+2:=by rw[hV];simp
     rw[←hV] at hadd2
     have he8:=he.mono hW8.pre
     obtain ⟨b9,o9,q1,q2⟩:=he8.at (i:=n) (by omega)
     rw[eN_at H.tx.good hx (by omega)] at q2
     generalize (eN l[x]).getD n 0=la at*
     have hsm2:=tx_small H.tx H.full f hsn.1 hlt
     simp[hadd,hadd2,bx (own_read hb48),q1,q2]
     refine C_of (ih la m8 sn8 T.2 hW8 hsn.1 hlt (by omega)) ?_
     rintro _ m9 ⟨sn9,rfl,hW9,hC9⟩
     have hadd3:binStr .add ⟨V.toArray⟩ ⟨(txM l f T.2 la).1.toArray⟩=some (.str ⟨(V++(txM l f T.2 la).1).toArray⟩):=str_add _ _ (by rw[ba_size];omega)
     simp[hadd3]
     exact ⟨by rw[hV,hR];simp,sn9,hW9,hC6.trans (hC8.trans hC9)⟩
    ·have hn0:n=0:=by omega
     subst hn0
     have hbd:bodyT l (txM l f) (s++ [x]) x=([80,82,79,67,32]++(txM l f (s++ [x]) ((eN l[x]).getD 0 0)).1,(txM l f (s++ [x]) ((eN l[x]).getD 0 0)).2):=by
      simp[bodyT,hmd,hkk,hn1]
     rw[hbd]
     obtain ⟨b9,o9,q1,q2⟩:=he7.at (i:=0) (by omega)
     rw[eN_at H.tx.good hx (by omega)] at q2
     generalize (eN l[x]).getD 0 0=la at*
     have hsm2:=tx_small H.tx H.full f hS' hlt
     have q1':=q1 .i64
     simp at q1'
     simp[bx (own_read hb47),q1',q2]
     refine C_of (ih la m7 sn4 (s++ [x]) hW7 hS' hlt (by omega)) ?_
     rintro _ m8 ⟨sn8,rfl,hW8,hC8⟩
     have hadd:binStr .add ⟨#[80,82,79,67,32]⟩ ⟨(txM l f (s++ [x]) la).1.toArray⟩=some (.str ⟨([80,82,79,67,32]++(txM l f (s++ [x]) la).1).toArray⟩):=str_add [80,82,79,67,32] _ (by rw[ba_size];simp;omega)
     simp at hadd
     simp[hadd]
     exact ⟨sn8,hW8,hC6.trans hC8⟩
end Go.Proofs.YtlniliigcnedmaaGreatDoor
namespace Go.Proofs.YtlniliigcnedmaaGreatDoor
open Go Ax
set_option maxRecDepth 100000
def firstOf (ds:List Nat) (k:Nat):Nat:=(fidx (fun i=>(ds.map fun z:Nat=>(z:Int))[i]? ==some (k:Int)) 0 ds.length).toNat
def badAt (l:List Md) (ds:List Nat) (k:Nat):Prop:=isU (mdAt l (firstOf ds k))=true∧(basesOf l (firstOf ds k)).length<2
noncomputable def redOf (l:List Md) (ds:List Nat) (k:Nat):Md:=
 ⟨(mdAt l (firstOf ds k)).kind,(mdAt l (firstOf ds k)).size,(if isU (mdAt l (firstOf ds k))=true then basesOf l (firstOf ds k) else eN (mdAt l (firstOf ds k))).map fun z=>((ds.getD z 0:Nat):Int),(mdAt l (firstOf ds k)).names,(mdAt l (firstOf ds k)).dims,(mdAt l (firstOf ds k)).flex⟩
noncomputable def redT (l:List Md) (ds:List Nat) (kd:Nat):List Md:=(List.range kd).map (redOf l ds)
theorem redT_len (l:List Md) (ds:List Nat) (kd:Nat):(redT l ds kd).length=kd:=by simp[redT]
theorem chunk_setN {cs c:List AVal} {n k i:Nat} (hl:cs.length=n*6) (hc:c.length=6) (hk:k<n):chunk (setN cs (k*6) c) i=if i=k then c else chunk cs i:=by
 have hb:k*6+c.length≤cs.length:=by rw[hl,hc];omega
 refine List.ext_getElem? fun j=>?_
 unfold chunk
 rw[List.getElem?_take]
 split
 ·rename_i hj
  rw[List.getElem?_drop,setN_get _ _ _ _ hb]
  by_cases hik:i=k
  ·subst hik
   rw[if_pos rfl,if_pos (by omega)]
   congr 1;omega
  ·rw[if_neg hik,if_neg (by omega),List.getElem?_take,if_pos hj,List.getElem?_drop]
 ·rename_i hj
  split
  ·rw[List.getElem?_eq_none (by omega)]
  ·rw[List.getElem?_take,if_neg hj]
set_option maxHeartbeats 4000000 in
theorem k28f (s:AVal) (l:List Md) (m:AMem) (hs:RTab m s l) (hsz: ∀x∈l,smallN x) (hnm: ∀x∈l,x.names.length<2^40) (hn:T13 l) (hc:checkI l=0):
  ACalls Tryz.prog 28 [s] m fun v m'=>m<+:m'∧ ∃ds kd,DenseOf l.length (fun a b=>RR l a<RR l b) ds kd∧((∃t n,v= .tuple [t,n,.int .i64 0]∧OwL natI m.length m' 3 n ds∧OwT m.length m' t (redT l ds kd)∧ ∀k,k<kd→ ¬badAt l ds k)∨(v= .tuple [.nilslice,.nilslice,.int .i64 14]∧ ∃k,k<kd∧badAt l ds k)):=by
 refine w28 ?_
 have h60:=hn.len
 have ok:=okT_of hc
 simp
 refine C_of (k52 s l m hs hsz (by omega)) ?_
 rintro _ m1 ⟨rfl,hm1⟩
 simp[hc]
 refine C_of (k44 s l m1 (hs.mono hm1) ok.good hn.t60 hsz ok.h64) ?_
 rintro v2 m2 ⟨hm2,ds,kd,hX,hD⟩
 simp[hX.len]
 have hm02:=hm1.trans hm2
 have hdl:=hD.len
 -- the number of classes
 obtain ⟨I,hI⟩: ∃I:Nat→AFrame→AMem→Prop,∀q a m',I q a m'↔(∃(i n:Nat),i+q=ds.length∧a=h28_0 s v2 (.int .i64 n) v2 (.int .i64 ds.length) (.int .i64 i)∧m'=m2∧n≤kd∧(∀(j:Nat) d,j<i→ds[j]? =some d→d<n)):=⟨_,fun _ _ _=>Iff.rfl⟩
 refine W_loop I ds.length ((hI _ _ _).2 ⟨0,0,by simp,rfl,rfl,by omega,fun _ _ h=>by omega⟩) ?_
 rintro q a m3 hIn
 obtain ⟨i,n,hi,rfl,rfl,hnk,hlt⟩:=(hI _ _ _).1 hIn
 clear hIn
 simp
 refine bbind_dec (fun h=>?_) fun h=>?_
 ·have h:i<ds.length:=by omega
  have hw:=step64 (k:=i) (n:=ds.length) h (by omega)
  obtain ⟨q,rfl⟩: ∃q',q=q'+1:=⟨q-1,by omega⟩
  obtain ⟨b,o,_,h1,h2,_⟩:=hX.at h
  have hds:ds[i]? =some ds[i]:=List.getElem?_eq_getElem h
  have hb:=hD.bound i _ hds
  have hle:=hD.le
  simp only[natI] at h2
  have hw2:IntKind.i64.wrap ((ds[i]:Int)+1)=(ds[i]:Int)+1:=wrap64 (by omega) (by omega)
  simp[h1,h2,hw,hw2]
  by_cases hmx:n<ds[i]+1
  ·have hmx':(n:Int)<ds[i]+1:=by omega
   simp[hmx']
   exact ⟨q,by omega,(hI _ _ _).2 ⟨i+1,ds[i]+1,by omega,by simp,rfl,by omega,fun j d hj hd=>by
    by_cases hji:j=i
    ·subst hji;rw[hds] at hd;cases hd;omega
    ·have:=hlt j d (by omega) hd;omega⟩⟩
  ·have hmx': ¬(n:Int)<ds[i]+1:=by omega
   simp[hmx']
   exact ⟨q,by omega,(hI _ _ _).2 ⟨i+1,n,by omega,by simp,rfl,hnk,fun j d hj hd=>by
    by_cases hji:j=i
    ·subst hji;rw[hds] at hd;cases hd;omega
    ·exact hlt j d (by omega) hd⟩⟩
 ·simp
  have hle:=hD.le
  have hnkd:n=kd:=by
   rcases Nat.lt_or_ge n kd with h|h
   ·obtain ⟨a,ha⟩:=hD.surj n h
    have:=hlt a n (by have:=(List.getElem?_eq_some_iff.1 ha).1;omega) ha
    omega
   ·omega
  have hc1:80*(n:Int)≤281474976710656:=by omega
  have hc2:(n:Int)≤9223372036854775807:=by omega
  simp[hc1,hc2]
  clear hI I
  have hZ0:Ow m3.length (m3++ [.own (List.replicate n [AVal.int .i64 0,AVal.int .i64 0,AVal.nilslice,AVal.nilslice,AVal.int .i64 0,AVal.bool false]).flatten 39 none]) 6 39 (.slice m3.length 0 n n none) n (List.replicate n [AVal.int .i64 0,AVal.int .i64 0,AVal.nilslice,AVal.nilslice,AVal.int .i64 0,AVal.bool false]).flatten:=Ow.new (by simp) (by simp[List.all_flatten])
  have hm34:m3<+:m3++ [.own (List.replicate n [AVal.int .i64 0,AVal.int .i64 0,AVal.nilslice,AVal.nilslice,AVal.int .i64 0,AVal.bool false]).flatten 39 none]:=List.prefix_append _ _
  generalize AVal.slice m3.length 0 n n none=t10 at*
  generalize m3++ [.own (List.replicate n [AVal.int .i64 0,AVal.int .i64 0,AVal.nilslice,AVal.nilslice,AVal.int .i64 0,AVal.bool false]).flatten 39 none]=m4 at*
  have hXi:=ints_of_nat hX
  obtain ⟨I,hI⟩: ∃I:Nat→AFrame→AMem→Prop,∀q a m',I q a m'↔(∃(i:Nat) (cs:List AVal),i+q=n∧a=h28_1 s v2 t10 (.int .i64 n) (.int .i64 i)∧m3<+:m'∧Ow m3.length m' 6 39 t10 n cs∧(∀i',i'<i→ ∀m'',Ch (fun b=>t10.blk=some b∨b<m3.length) m' m''→RMode m'' (chunk cs i') (redOf l ds i'))∧ ∀i',i'<i→ ¬badAt l ds i'):=⟨_,fun _ _ _=>Iff.rfl⟩
  refine W_loop I n ((hI _ _ _).2 ⟨0,_,by simp,rfl,hm34,hZ0,fun _ h=>by omega,fun _ h=>by omega⟩) ?_
  clear hZ0 hm34
  rintro q a m4 hIn
  obtain ⟨k,cs,hk,rfl,hm4,hZ,hrow,hnb⟩:=(hI _ _ _).1 hIn
  clear hIn
  simp
  refine bbind_dec (fun hkn=>?_) fun hkn=>?_
  ·have hw:=step64 (k:=k) (n:=n) hkn (by omega)
   obtain ⟨q,rfl⟩: ∃q',q=q'+1:=⟨q-1,by omega⟩
   simp
   refine C_of (k57 v2 _ k m4 (hXi.mono hm4) (by simp;omega)) ?_
   rintro _ m4 ⟨rfl,rfl⟩
   obtain ⟨j0,hj0⟩:=hD.surj k (by omega)
   obtain ⟨j,_,hjl,hjf,hjp⟩:=fidx_spec (p:=fun i=>(ds.map fun z:Nat=>(z:Int))[i]? ==some (k:Int)) ds.length 0 ((fidx_nonneg _ _ _).2 ⟨j0,by omega,by have:=(List.getElem?_eq_some_iff.1 hj0).1;omega,by simp[hj0]⟩)
   have hfo:firstOf ds k=j:=by unfold firstOf;rw[hjf];rfl
   rw[List.length_map,hjf]
   have hj:j<l.length:=by omega
   have hmj:=mdAt_eq hj
   obtain ⟨bx',ox,c,h4,h5,_,_,h6⟩:=hs.atC hj
   replace h5:=loadE_mono (hm02.trans hm4) h5
   simp[h4,h5]
   have hcl:=h6.all
   rw[store_new _ _ c _ _ 6 hcl.1 rfl hcl.2]
   have hb13:(m4++ [ABlk.own c 39 none])[m4.length]? =some (.own c 39 none):=by simp
   have hb13l:m3.length≤m4.length:=hm4.length_le
   have hm45:m4<+:m4++ [ABlk.own c 39 none]:=List.prefix_append _ _
   have hZb: ∀b,t10.blk=some b→b≠m4.length:=fun b hb e=>by have:=(hZ.blk_lo hb).2;omega
   have hl5:(m4++ [ABlk.own c 39 none]).length=m4.length+1:=by simp
   simp
   generalize m4++ [ABlk.own c 39 none]=m5 at*
   have hZlt: ∀b,t10.blk=some b→b<m4.length:=fun b hb=>(hZ.blk_lo hb).2
   generalize hb13d:m4.length=b13 at*
   obtain ⟨e,nm,c0,c1,c2,c3,c4,c5,he,hnm',rfl⟩:=h6.get
   have hm05:=hm4.trans hm45
   simp[bx (own_read hb13)]
   refine C_of (k58 nm _ m5 (hnm'.mono (hm02.trans hm05)) (hnm _ (List.getElem_mem hj))) ?_
   rintro v6 m6 ⟨hm56,hNm,hv1,hv2⟩
   have hb6:=own_mono hb13 hm56
   obtain ⟨m7,hst,hb7,hch7⟩:=fld_store (i:=3) hb6 (by simp) hv2 hv1
   have hm37:m3<+:m7:=hch7.pre (hm05.trans hm56) fun b hb e=>by omega
   have hZ7:=(Ow.mono (hm45.trans hm56) hZ).ch hch7 fun b hb=>hZb b hb
   simp at hb7
   simp[hst]
   simp[bx (own_read hb7)]
   have hNm7:OwL AVal.str (b13+1) m7 9 v6 l[j].names:=(hNm.ch hch7 fun b hb e=>by have:=(hNm.blk_lo hb).1;omega).lo' (by omega)
   have hch47:Ch (fun c=>c=b13) m4 m7:=(Ch.of_prefix (hm45.trans hm56)).trans hch7
   clear hb6 hb13 hch7 hNm
   have hgj:=ok.good _ (List.getElem_mem hj)
   have hconv: ∀xs:List Int,(∀e∈xs,0≤e∧e<(l.length:Int))→((xs.map Int.toNat).map fun z:Nat=>(z:Int))=xs:=fun xs hx=>by
    rw[List.map_map]
    conv=>rhs;rw[←List.map_id xs]
    refine List.map_congr_left fun e he=>?_
    have:=hx e he
    simp only[Function.comp,id]
    omega
   have hl57:m5.length≤m7.length:=by have:=hm56.length_le;have:=(fld_len hst);omega
   obtain ⟨J,hJ⟩: ∃J:AFrame→AMem→Prop,∀a' m',J a' m'↔(∃(t14:AVal) (ws:List Nat) (c':List AVal),a'.forget [0,6,10,11,13,14,38,39]=mat 89 [(0,s),(6,v2),(10,t10),(11,.int .i64 k),(13,.ptr b13 0),(14,t14),(38,.int .i64 n),(39,.int .i64 k)]∧m3<+:m'∧Ch (fun c=>c=b13) m4 m'∧b13<m'.length∧m'[b13]? =some (.own c' 39 none)∧c'= [AVal.int .i64 l[j].kind,AVal.int .i64 l[j].size,e,v6,AVal.int .i64 l[j].dims,AVal.bool l[j].flex]∧OwL AVal.str (b13+1) m' 9 v6 l[j].names∧ws=(if isU l[j] then basesOf l j else eN l[j])∧ ¬badAt l ds k∧c'.length=6∧c'.all AVal.one=true∧(∀m'',Ch (fun c=>c=b13) m' m''→RInts m'' t14 (ws.map fun z:Nat=>(z:Int)))∧(∀w∈ws,w<l.length)∧ws.length<2^20∧Ow m3.length m' 6 39 t10 n cs):=⟨_,fun _ _=>Iff.rfl⟩
   refine bbind_J J ?_ ?_
   ·have hall7: [AVal.int .i64 l[j].kind,AVal.int .i64 l[j].size,e,v6,AVal.int .i64 l[j].dims,AVal.bool l[j].flex].all AVal.one=true:=by
     have:=(Sl.self he).1
     simp only[List.all_cons,List.all_nil,this,hv1];rfl
    by_cases hu:isU l[j]=true
    ·have hkk:l[j].kind=12:=by simpa[isU] using hu
     simp[hkk]
     refine C_of (k54 s v2 l ds j hj hu m7 (hs.mono (hm02.trans hm37)) (hXi.mono hm37) (by omega) ok.good hn hsz) ?_
     rintro v8 m8 ⟨hm78,O,zs,⟨hO,hOm⟩,hZs,hsb⟩
     have hum:isU (mdAt l j)=true:=by rw[hmj];exact hu
     have hzb:zs=basesOf l j:=once_eq ok.good hD.sameOrd hj hum (fun i=>by rw[hOm];unfold IsBase;rw[if_pos hum]) hsb
     simp[hZs.len]
     refine bbind_dec (fun h2=>?_) fun h2=>?_
     ·simp
      exact ⟨(hm02.trans hm37).trans hm78,ds,kd,hD,k,by omega,by unfold badAt;rw[hfo,hmj];exact ⟨hu,by rw[←hzb];omega⟩⟩
     ·simp
      have hzO:=nodup_le l.length zs (hsb.asc.imp fun hab=>by intro e;subst e;omega) fun z hz=>IsPart.lt ok.good ((hOm z).1 (hsb.sub z hz))
      exact (hJ _ _).2 ⟨_,zs,_,rfl,hm37.trans hm78,hch47.trans (.of_prefix hm78),by have:=hm78.length_le;omega,own_mono hb7 hm78,rfl,hNm7.mono hm78,by rw[if_pos hu];exact hzb,by unfold badAt;rw[hfo,hmj];rintro ⟨_,h⟩;rw[←hzb] at h;omega,rfl,hall7,fun m'' hc=>ints_of_nat (hZs.ch hc fun b hb e=>by have:=(hZs.blk_lo hb).1;omega),fun w hw=>IsPart.lt ok.good ((hOm w).1 (hsb.sub w hw)),by omega,Ow.mono hm78 hZ7⟩
    ·have hkk: ¬l[j].kind=12:=by simpa[isU] using hu
     simp[beqF hkk]
     refine (hJ _ _).2 ⟨e,l[j].elems.map Int.toNat,_,rfl,hm37,hch47,by omega,hb7,rfl,hNm7,by rw[if_neg hu];rfl,by unfold badAt;rw[hfo,hmj];rintro ⟨h,_⟩;exact hu h,rfl,hall7,fun m'' hc=>?_,fun w hw=>?_,by have:=ok.h64 _ (List.getElem_mem hj);simp;omega,hZ7⟩
     ·rw[hconv _ hgj]
      exact he.mono (hm02.trans (hc.pre hm37 fun b hb e=>by omega))
     ·obtain ⟨z,hz,rfl⟩:=List.mem_map.1 hw
      have:=hgj z hz;omega
   ·intro a m8 hJ8
    obtain ⟨t14,ws,c',hfa,hm8,hch48,hbl8,hb8,hce,hNm8,hwse,hnbk,hc6,hca,hws,hwl,hwn,hZ8⟩:=(hJ _ _).1 hJ8
    clear hJ8
    simp[hfa]
    obtain ⟨m9,hst9,hb9,hch9⟩:=fld_store (i:=2) (v:= .nilslice) hb8 (by omega) rfl rfl
    simp[hst9,(hws m8 (.refl _ _)).len]
    have hws0:=(hws m8 (.refl _ _)).len
    have hZ8b: ∀b,t10.blk=some b→b<m8.length:=fun b hb=>(hZ8.blk_lo hb).2
    obtain ⟨I2,hI2⟩: ∃I:Nat→AFrame→AMem→Prop,∀q a m',I q a m'↔(∃(p:Nat) (cs2:List AVal) (t2:AVal) (xs:List Int),p+q=ws.length∧a=h28_2 s v2 t10 (.int .i64 k) (.ptr b13 0) (.int .i64 n) (.int .i64 k) t14 (.int .i64 ws.length) (.int .i64 p)∧Ch (fun c=>c=b13) m8 m'∧m'[b13]? =some (.own cs2 39 none)∧cs2.length=6∧cs2.all AVal.one=true∧cs2[2]? =some t2∧OwL (AVal.int .i64) m8.length m' 3 t2 xs∧xs.length=p∧cs2= [AVal.int .i64 l[j].kind,AVal.int .i64 l[j].size,t2,v6,AVal.int .i64 l[j].dims,AVal.bool l[j].flex]∧xs=(ws.take p).map fun z=>((ds.getD z 0:Nat):Int)):=⟨_,fun _ _ _=>Iff.rfl⟩
    refine W_loop I2 ws.length ((hI2 _ _ _).2 ⟨0,_,.nilslice,[],by simp,rfl,hch9,hb9,by simpa using hc6,?_,List.getElem?_set_self (by omega),OwL.nil,rfl,by rw[hce];rfl,rfl⟩) ?_
    ·exact all_set hca rfl
    rintro q2 a2 m10 hIn
    obtain ⟨p,cs2,t2,xs,hp,rfl,hch10,hb10,hc26,hc2a,hc22,hT,hxl,hc2e,hxe⟩:=(hI2 _ _ _).1 hIn
    clear hIn
    simp
    have hm3':m3<+:m10:=hch10.pre hm8 fun b hb e=>by omega
    refine bbind_dec (fun hpl=>?_) fun hpl=>?_
    ·have hwp:=step64 (k:=p) (n:=ws.length) hpl (by omega)
     obtain ⟨q2,rfl⟩: ∃q',q2=q'+1:=⟨q2-1,by omega⟩
     have hws10:=hws m10 hch10
     obtain ⟨b1,o1,g1,g2⟩:=hws10.at (i:=p) (by simpa using hpl)
     simp at g2
     have hwk:=hwl _ (List.getElem_mem hpl)
     have htk:(ws.take (p+1)).map (fun z=>((ds.getD z 0:Nat):Int))=(ws.take p).map (fun z=>((ds.getD z 0:Nat):Int))++ [((ds.getD ws[p] 0:Nat):Int)]:=by rw[List.take_succ_eq_append_getElem hpl,List.map_append];rfl
     generalize ws[p]=w at*
     obtain ⟨b2,o2,g3,g4⟩:=ranksAt hXi (x:=w) (by omega)
     replace g4:=g4 m10 hm3'
     generalize ds.getD w 0=dw at*
     simp[g1,g2]
     refine W_draw (fun _ _ _=>True) (by simp[maxDst]) ?_
     refine D_pc 0 6 [6,7,8,9] ?_
     simp[bx (own_read hb10),hc22,g3,g4]
     intro _ _
     refine D_A rfl trivial ?_
     simp[fillA,setN]
     intro a78
     refine D_W rfl rfl fun m11 hm11 hf=>?_
     have h6':=hf 6
     simp[upd] at h6'
     have hA:RInts m11 (.slice a78 0 1 1 none) [(dw:Int)]:= .inr ⟨a78,0,1,none,rfl,⟨by simp,.inl rfl⟩,.inr ⟨by simp,_,by simp[readB,h6',ABlk.cells];rfl,by simp[readN]⟩⟩
     have hAs:=ints_append hA
     simp at hAs
     have hch11:=hch10.andThen (.of_prefix (S:=fun _=>False) hm11) fun b hb h=>h.elim
     obtain ⟨t2',m12,happ,hch12,hT12,hbl⟩:=(hT.mono hm11).push hch11.len (by_:=8) (by decide) dw (by omega)
     simp[hAs,happ]
     have hb11:=own_ch (own_mono hb10 hm11) hch12 fun e=>by have:=(hT.blk_lo e).1;omega
     refine D_P rfl trivial ?_
     simp
     refine D_W rfl rfl fun m13 hm13 _=>?_
     have hb13':=own_mono hb11 hm13
     have hself:=(Ow.sl hT12).self
     obtain ⟨m14,hst14,hb14,hch14⟩:=fld_store (i:=2) (v:=t2') hb13' (by omega) hself.2 hself.1
     simp[hst14]
     refine D_end fun m15 hm15 _=>?_
     simp[hwp]
     refine ⟨q2,by omega,(hI2 _ _ _).2 ⟨p+1,cs2.set 2 t2',t2',xs++ [(dw:Int)],by omega,by simp,?_,own_mono hb14 hm15,by simpa using hc26,all_set hc2a hself.1,List.getElem?_set_self (by omega),?_,by simp;omega,by rw[hc2e];rfl,by rw[htk,hxe]⟩⟩
     ·refine (((hch11.andThen hch12 fun b hb h=>by have:=(hT.blk_lo h).1;omega).andThen (.of_prefix (S:=fun _=>False) hm13) fun b hb h=>h.elim).andThen hch14 fun b hb h=>h).andThen (.of_prefix (S:=fun _=>False) hm15) fun b hb h=>h.elim
     ·refine ((hT12.mono hm13).ch hch14 fun b hb e=>?_).mono hm15
      rcases hbl b hb with h|h
      ·have:=(hT.blk_lo h).1;omega
      ·have:=hch11.len;omega
    ·have hZ10:=hZ8.ch hch10 fun b hb=>hZb b hb
     obtain ⟨b5,o5,hb5,g5,g6⟩:=Ow.store hZ10 (i:=k) hkn
     have hcc:(AVal.agg cs2).cells=cs2:=rfl
     obtain ⟨m11,hst11,hch11,hZ11⟩:=g6 0 (.agg cs2) (by rw[hcc];omega) (by rw[hcc];exact hc2a)
     rw[hcc,hc26] at hst11
     have hrd:readN cs2 0 6=some cs2:=by
      unfold readN
      rw[if_pos (by omega),List.drop_zero,List.take_of_length_le (by omega)]
     simp at hst11
     simp[bxW (own_read hb10),hrd,g5,hst11,hw]
     have hpw:p=ws.length:=by omega
     rw[hpw,List.take_length] at hxe
     have hcl:cs.length=n*6:=by have:=(Ow.sl hZ).length;simpa using this
     have hch411:Ch (fun b=>t10.blk=some b∨b<m3.length) m4 m11:=((hch48.trans hch10).weaken (T:=fun b=>t10.blk=some b∨b<m3.length) fun c hc e=>absurd e (by omega)).trans (hch11.weaken fun c _ e=> .inl (e▸hb5))
     have hb5lt:b5<b13:=by have:=hZlt _ hb5;omega
     have h8l:=hch48.len
     refine ⟨q,by omega,(hI _ _ _).2 ⟨k+1,_,by omega,by simp,hch11.pre hm3' fun b hb e=>?_,hZ11,fun i' hi' m'' hc=>?_,fun i' hi'=>?_⟩⟩
     ·have:=(hZ10.blk_lo hb5).1
      omega
     ·rw[hcc,Nat.add_zero,chunk_setN hcl hc26 hkn]
      by_cases hik:i'=k
      ·subst hik
       rw[if_pos rfl,hc2e]
       have hT11:=(hT.ch hch11 fun b hb e=>by have:=(hT.blk_lo hb).1;omega).ch hc fun b hb e=>by
        have:=(hT.blk_lo hb).1
        rcases e with e|e
        ·have:=hZlt _ e;omega
        ·omega
       have hN11:=((hNm8.ch hch10 fun b hb e=>by have:=(hNm8.blk_lo hb).1;omega).ch hch11 fun b hb e=>by have:=(hNm8.blk_lo hb).1;omega).ch hc fun b hb e=>by
        have:=(hNm8.blk_lo hb).1
        rcases e with e|e
        ·have:=hZlt _ e;omega
        ·have:=hm4.length_le;omega
       refine ⟨t2,v6,?_,?_,?_⟩
       ·unfold redOf;rw[hfo,hmj]
       ·have:(redOf l ds i').elems=xs:=by rw[hxe,hwse];unfold redOf;rw[hfo,hmj]
        rw[this]
        exact hT11.ints
       ·have:(redOf l ds i').names=l[j].names:=by unfold redOf;rw[hfo,hmj]
        rw[this]
        exact Ow.sl hN11
      ·rw[if_neg hik]
       exact hrow i' (by omega) m'' (hch411.trans hc)
     ·by_cases hik:i'=k
      ·subst hik;exact hnbk
      ·exact hnb i' (by omega)
  ·simp
   have hkn:k=n:=by omega
   subst hkn
   refine ⟨hm02.trans hm4,ds,kd,hD,t10,v2,⟨rfl,rfl⟩,(hX.mono hm4).lo' hm1.length_le,⟨cs,?_,fun i x hx m'' hc=>?_⟩,fun k' hk'=>hnb k' (by omega)⟩
   ·rw[redT_len,←hnkd]
    exact Ow.lo hZ hm02.length_le
   ·have hi:i<kd:=by have:=(List.getElem?_eq_some_iff.1 hx).1;rw[redT_len] at this;exact this
    have hxe:x=redOf l ds i:=by
     rw[redT,List.getElem?_map,List.getElem?_range hi] at hx
     exact (Option.some.inj hx).symm
    rw[hxe]
    exact hrow i (by omega) m'' (hc.weaken fun c _ e=>e.imp id fun e=>by have:=hm02.length_le;omega)
end Go.Proofs.YtlniliigcnedmaaGreatDoor
namespace Go.Proofs.YtlniliigcnedmaaGreatDoor
open Go Ax
set_option maxRecDepth 100000
noncomputable def leastI (l:List Md) (p:Nat):Int:=fidx (fun i=>RR l i==RR l p) 0 l.length
end Go.Proofs.YtlniliigcnedmaaGreatDoor
namespace Go.Proofs.YtlniliigcnedmaaGreatDoor
open Go Ax
open Relation
set_option maxRecDepth 100000
structure Bisim (l:List Md) (E:Nat→Nat→Prop):Prop where
 lt: ∀a b,E a b→a<l.length∧b<l.length
 first: ∀a b,E a b→firstC (mdAt l a) (mdAt l b)=0
 up: ∀a b j,E a b→isU (mdAt l a)=true→IsPart l a j→ ∃j',IsPart l b j'∧E j j'
 down: ∀a b j,E a b→isU (mdAt l b)=true→IsPart l b j→ ∃j',IsPart l a j'∧E j' j
 len: ∀a b,E a b→isU (mdAt l a)=false→(mdAt l a).elems.length=(mdAt l b).elems.length
 el: ∀(a b k:Nat) (e e':Int),E a b→isU (mdAt l a)=false→(mdAt l a).elems[k]? =some e→(mdAt l b).elems[k]? =some e'→E e.toNat e'.toNat
theorem Bisim.R {l:List Md} {E:Nat→Nat→Prop} (h:Bisim l E): ∀d a b,E a b→R l d a=R l d b
 |0,_,_,_=>rfl
 |d+1,a,b,he=>by
  have ih:=h.R d
  obtain ⟨ha,hb⟩:=h.lt a b he
  have hf:=h.first a b he
  have hu:isU (mdAt l a)=isU (mdAt l b):=by unfold isU;rw[firstC_kind hf]
  have hk:keyOf l (Go.Proofs.YtlniliigcnedmaaGreatDoor.R l d) a=keyOf l (Go.Proofs.YtlniliigcnedmaaGreatDoor.R l d) b:=by
   unfold keyOf
   rw[←hu]
   cases hua:isU (mdAt l a)
   ·rw[if_neg (by simp),if_neg (by simp)]
    refine List.ext_getElem? fun k=>?_
    rw[List.getElem?_map,List.getElem?_map]
    have hl:=h.len a b he hua
    by_cases hkl:k<(mdAt l a).elems.length
    ·rw[List.getElem?_eq_getElem hkl,List.getElem?_eq_getElem (by omega)]
     simp only[Option.map_some,Option.some.injEq,Int.natCast_inj]
     exact ih _ _ (h.el a b k _ _ he hua (List.getElem?_eq_getElem hkl) (List.getElem?_eq_getElem (by omega)))
    ·rw[List.getElem?_eq_none (by omega),List.getElem?_eq_none (by omega)]
   ·rw[if_pos rfl,if_pos rfl]
    congr 1
    apply List.filter_congr
    intro v _
    rw[decide_eq_decide]
    constructor
    ·rintro ⟨j,h1,h2⟩
     obtain ⟨j',h3,h4⟩:=h.up a b j he hua h1
     exact ⟨j',h3,by rw[←ih _ _ h4];exact h2⟩
    ·rintro ⟨j,h1,h2⟩
     obtain ⟨j',h3,h4⟩:=h.down a b j he (by rw[←hu];exact hua) h1
     exact ⟨j',h3,by rw[ih _ _ h4];exact h2⟩
  have hc:cmpR l (Go.Proofs.YtlniliigcnedmaaGreatDoor.R l d) d a b=0:=by
   unfold cmpR thenC
   have h0:cmpI (Go.Proofs.YtlniliigcnedmaaGreatDoor.R l d a:Nat) (Go.Proofs.YtlniliigcnedmaaGreatDoor.R l d b:Nat)=0:=cmpI_zero.2 (by rw[ih a b he])
   simp only[h0]
   by_cases hd:d=0
   ·simp[hd,hf]
   ·simp[hd,hk,lexC_refl]
  have h1:=R_lt l d (b:=b) ha
  have h2:=R_lt l d (b:=a) hb
  have h3:=(cmpR_ord l (Go.Proofs.YtlniliigcnedmaaGreatDoor.R l d) d).anti a b trivial trivial
  have h4:=(cmpR_ord l (Go.Proofs.YtlniliigcnedmaaGreatDoor.R l d) d).anti b a trivial trivial
  omega
theorem Bisim.RR {l:List Md} {E:Nat→Nat→Prop} (h:Bisim l E) {a b:Nat} (he:E a b):RR l a=RR l b:=h.R _ a b he
theorem RR_part {l:List Md} (hg:goodT l) {a b j:Nat} (ha:a<l.length) (hb:b<l.length) (h:RR l a=RR l b) (hu:isU (mdAt l a)=true) (hj:IsPart l a j): ∃j',IsPart l b j'∧RR l j=RR l j':=by
 have hk:=RR_key hg ha hb h
 have hub:isU (mdAt l b)=true:=by unfold isU at hu ⊢;rw[←firstC_kind (RR_first ha hb h)];exact hu
 have hr: ∀a,a<l.length→RR l a<l.length:=fun a ha=>R_bound l _ ha
 have k1:=((keyOf_isKey hg hr a).un hu).2 (RR l j:Int)
 have k2:=((keyOf_isKey hg hr b).un hub).2 (RR l j:Int)
 rw[hk] at k1
 obtain ⟨j',h1,h2⟩:=k2.1 (k1.2 ⟨j,hj,rfl⟩)
 exact ⟨j',h1,by omega⟩
theorem RR_elem {l:List Md} (hg:goodT l) {a b:Nat} (ha:a<l.length) (hb:b<l.length) (h:RR l a=RR l b) (hu:isU (mdAt l a)=false):(mdAt l a).elems.length=(mdAt l b).elems.length∧ ∀(k:Nat) (e e':Int),(mdAt l a).elems[k]? =some e→(mdAt l b).elems[k]? =some e'→RR l e.toNat=RR l e'.toNat:=by
 have hk:=RR_key hg ha hb h
 have hub:isU (mdAt l b)=false:=by unfold isU at hu ⊢;rw[←firstC_kind (RR_first ha hb h)];exact hu
 have hr: ∀a,a<l.length→RR l a<l.length:=fun a ha=>R_bound l _ ha
 have k1:=(keyOf_isKey hg hr a).el hu
 have k2:=(keyOf_isKey hg hr b).el hub
 rw[hk,k2] at k1
 refine ⟨by have:=congrArg List.length k1;simpa using this.symm,fun k e e' h1 h2=>?_⟩
 have:=congrArg (·[k]?) k1
 simp only[List.getElem?_map,h1,h2,Option.map_some,Option.some.injEq,Int.natCast_inj] at this
 exact this.symm
section
variable {l:List Md} {zs:List Nat}
theorem RR_app {x:Md} (hg:goodT l) (hg':goodT (l++ [x])) {a b:Nat} (ha:a<l.length) (hb:b<l.length) (h:RR (l++ [x]) a=RR (l++ [x]) b):RR l a=RR l b:=by
 have hl:(l++ [x]).length=l.length+1:=by simp
 have hel: ∀{a k:Nat} {e:Int},a<l.length→(mdAt l a).elems[k]? =some e→e.toNat<l.length:=fun {a k e} ha h=>by
  have:=hg (mdAt l a) (by rw[mdAt_eq ha];exact List.getElem_mem ha) e (List.mem_of_getElem? h)
  omega
 refine Bisim.RR (E:=fun a b=>a<l.length∧b<l.length∧RR (l++ [x]) a=RR (l++ [x]) b) ⟨fun a b h=>⟨h.1,h.2.1⟩,fun a b h=>?_,fun a b j h hu hj=>?_,fun a b j h hu hj=>?_,fun a b h hu=>?_,fun a b k e e' h hu h1 h2=>?_⟩ ⟨ha,hb,h⟩
 ·have:=RR_first (by omega) (by omega) h.2.2
  rwa[mdAt_app h.1,mdAt_app h.2.1] at this
 ·obtain ⟨j',h1,h2⟩:=RR_part hg' (by omega) (by omega) h.2.2 (by rw[mdAt_app h.1];exact hu) ((part_old hg h.1).2 hj)
  have h1:=(part_old hg h.2.1).1 h1
  exact ⟨j',h1,hj.lt hg,h1.lt hg,h2⟩
 ·obtain ⟨j',h1,h2⟩:=RR_part hg' (by omega) (by omega) h.2.2.symm (by rw[mdAt_app h.2.1];exact hu) ((part_old hg h.2.1).2 hj)
  have h1:=(part_old hg h.1).1 h1
  exact ⟨j',h1,h1.lt hg,hj.lt hg,h2.symm⟩
 ·have:=(RR_elem hg' (by omega) (by omega) h.2.2 (by rw[mdAt_app h.1];exact hu)).1
  rwa[mdAt_app h.1,mdAt_app h.2.1] at this
 ·have:=(RR_elem hg' (by omega) (by omega) h.2.2 (by rw[mdAt_app h.1];exact hu)).2 k e e'
  rw[mdAt_app h.1,mdAt_app h.2.1] at this
  exact ⟨hel h.1 h1,hel h.2.1 h2,this h1 h2⟩
end
end Go.Proofs.YtlniliigcnedmaaGreatDoor
namespace Go.Proofs.YtlniliigcnedmaaGreatDoor
open Go Ax
open Relation
set_option maxRecDepth 100000
def nmVX:ByteArray:=⟨#[118]⟩
def nmNX:ByteArray:=⟨#[110,101,120,116]⟩
def tabAX:List Md:= [⟨11,0,[1,2],[nmVX,nmNX],0,false⟩,mdU 3 [],mdU 9 [3],⟨11,0,[1,4],[nmVX,nmNX],0,false⟩,mdU 9 [0]]
theorem noRankX {l:List Md} {p:Md→Bool} (f:Nat→Nat) (h: ∀a b,stepR l p a b→f b<f a) {r:Nat}: ¬TransGen (stepR l p) r r:=fun hr=>by
 have key: ∀{a b},TransGen (stepR l p) a b→f b<f a:=fun h'=>by
  induction h' with
  |single h1=>exact h _ _ h1
  |tail _ h1 ih=>have:=h _ _ h1;omega
 have:=key hr
 omega
theorem tabA_atX {a:Nat} {x:Md} (h:tabAX[a]? =some x):(a=0∧x=⟨11,0,[1,2],[nmVX,nmNX],0,false⟩)∨(a=1∧x=mdU 3 [])∨(a=2∧x=mdU 9 [3])∨(a=3∧x=⟨11,0,[1,4],[nmVX,nmNX],0,false⟩)∨(a=4∧x=mdU 9 [0]):=by
 match a,h with
 |0,h=>simp[tabAX] at h;exact .inl ⟨rfl,h.symm⟩
 |1,h=>simp[tabAX] at h;exact .inr (.inl ⟨rfl,h.symm⟩)
 |2,h=>simp[tabAX] at h;exact .inr (.inr (.inl ⟨rfl,h.symm⟩))
 |3,h=>simp[tabAX] at h;exact .inr (.inr (.inr (.inl ⟨rfl,h.symm⟩)))
 |4,h=>simp[tabAX] at h;exact .inr (.inr (.inr (.inr ⟨rfl,h.symm⟩)))
 |a+5,h=>simp[tabAX] at h
theorem ba_loop (bs:ByteArray): ∀(n i:Nat) (r:List UInt8),bs.size-i=n→ByteArray.toList.loop bs i r=r.reverse++bs.data.toList.drop i
 |0,i,r,h=>by
  rw[ByteArray.toList.loop,if_neg (by omega),List.drop_eq_nil_of_le (by rw[Array.length_toList];show bs.size≤i;omega),List.append_nil]
 |n+1,i,r,h=>by
  have hi:i<bs.size:=by omega
  have hi':i<bs.data.toList.length:=by rw[Array.length_toList];exact hi
  rw[ByteArray.toList.loop,if_pos hi,ba_loop bs n (i+1) _ (by omega),List.drop_eq_getElem_cons hi']
  have:bs.get! i=bs.data.toList[i]:=by
   cases bs with
   |mk d=>
    have hd:i<d.size:=hi
    show d[i]! =d.toList[i]
    simp[hd]
  simp[this]
theorem ba_toList (bs:ByteArray):bs.toList=bs.data.toList:=by
 unfold ByteArray.toList
 rw[ba_loop bs _ 0 [] rfl]
 simp
theorem sEq_iff (x y:ByteArray):sEq x y=true↔x=y:=by
 unfold sEq
 rw[ba_toList,ba_toList,beq_iff_eq,Array.toList_inj]
 cases x;cases y;simp
theorem oneAX: ∀x∈tabAX,oneI x tabAX.length=0:=by
 have ht:twiceB [nmVX,nmNX]=false:=twiceB_false fun i hi j hj=>by
  have:i=1∧j=0:=by simp at hi;omega
  obtain ⟨rfl,rfl⟩:=this
  have: ¬sEq nmNX nmVX=true:=by rw[sEq_iff];decide
  simpa using this
 have hS: ∀e:List Int,e= [1,2]∨e= [1,4]→oneI ⟨11,0,e,[nmVX,nmNX],0,false⟩ 5=0:=by
  intro e he
  unfold oneI
  rcases he with rfl|rfl
  ·rw[if_neg (by decide),if_neg (by decide),if_neg (by decide),if_neg (by rw[ht];simp)]
  ·rw[if_neg (by decide),if_neg (by decide),if_neg (by decide),if_neg (by rw[ht];simp)]
 intro x hx
 simp only[tabAX,List.mem_cons,List.mem_nil_iff,or_false] at hx
 rcases hx with rfl|rfl|rfl|rfl|rfl
 ·exact hS _ (.inl rfl)
 ·decide
 ·decide
 ·exact hS _ (.inr rfl)
 ·decide
theorem checkAX:checkI tabAX=0:=by
 refine checkOk_iff.2 ⟨by decide,oneAX,by decide,fun r hr=>?_,fun x hx hf=>?_⟩
 ·rintro (h|h)
  ·refine noRankX (l:=tabAX) (fun a=>if a=0∨a=3 then 1 else 0) (fun a b h=>?_) h
   obtain ⟨x,h1,h2,h3⟩:=h
   rcases tabA_atX h1 with ⟨rfl,rfl⟩|⟨rfl,rfl⟩|⟨rfl,rfl⟩|⟨rfl,rfl⟩|⟨rfl,rfl⟩
   ·simp at h3
    have:b=1∨b=2:=by omega
    rcases this with rfl|rfl<;>simp
   ·simp[mdU] at h3
   ·simp[mdU,yinB] at h2
   ·simp at h3
    have:b=1∨b=4:=by omega
    rcases this with rfl|rfl<;>simp
   ·simp[mdU,yinB] at h2
  ·refine noRankX (l:=tabAX) (fun a=>if a=2∨a=4 then 1 else 0) (fun a b h=>?_) h
   obtain ⟨x,h1,h2,h3⟩:=h
   rcases tabA_atX h1 with ⟨rfl,rfl⟩|⟨rfl,rfl⟩|⟨rfl,rfl⟩|⟨rfl,rfl⟩|⟨rfl,rfl⟩
   ·simp[yangB] at h2
   ·simp[mdU] at h3
   ·simp[mdU] at h3
    have:b=3:=by omega
    subst this;simp
   ·simp[yangB] at h2
   ·simp[mdU] at h3
    have:b=0:=by omega
    subst this;simp
 ·have:tabAX.all (fun x=> !flexOf x)=true:=by decide
  have:=List.all_eq_true.1 this x hx
  rw[hf] at this
  cases this
theorem md1X:mdAt tabAX 1=mdU 3 []:=rfl
theorem md2X:mdAt tabAX 2=mdU 9 [3]:=rfl
theorem md3X:mdAt tabAX 3=⟨11,0,[1,4],[nmVX,nmNX],0,false⟩:=rfl
theorem md4X:mdAt tabAX 4=mdU 9 [0]:=rfl
def relAX (a b:Nat):Prop:=(a=b∧a<5)∨(a=0∧b=3)∨(a=3∧b=0)∨(a=2∧b=4)∨(a=4∧b=2)
instance (a b:Nat):Decidable (relAX a b):=by unfold relAX;infer_instance
theorem notUX {a:Nat} (h:a<5):isU (mdAt tabAX a)=false:=by
 have: ∀a<5,isU (mdAt tabAX a)=false:=by decide
 exact this a h
theorem bisimAX:Bisim tabAX relAX:=by
 have hlt: ∀a b,relAX a b→a<5∧b<5:=by rintro a b (h|h|h|h|h)<;>omega
 refine ⟨hlt,fun a b h=>?_,fun a b j h hu=>?_,fun a b j h hu=>?_,fun a b h _=>?_,fun a b k e e' h _ h1 h2=>?_⟩
 ·have hse: ∀x:Md,firstC x x=0:=fun x=>firstC_ord.self trivial
  rcases h with ⟨rfl,_⟩|⟨rfl,rfl⟩|⟨rfl,rfl⟩|⟨rfl,rfl⟩|⟨rfl,rfl⟩
  ·exact hse _
  ·exact hse (mdAt tabAX 0)
  ·exact hse (mdAt tabAX 3)
  ·exact hse (mdAt tabAX 2)
  ·exact hse (mdAt tabAX 4)
 ·rw[notUX (hlt a b h).1] at hu;cases hu
 ·rw[notUX (hlt a b h).2] at hu;cases hu
 ·have: ∀a<5,∀b<5,relAX a b→(mdAt tabAX a).elems.length=(mdAt tabAX b).elems.length:=by decide
  exact this a (hlt a b h).1 b (hlt a b h).2 h
 ·have key: ∀a<5,∀b<5,relAX a b→ ∀k<2,∀h1:k<(mdAt tabAX a).elems.length,∀h2:k<(mdAt tabAX b).elems.length,relAX (mdAt tabAX a).elems[k].toNat (mdAt tabAX b).elems[k].toNat:=by decide
  obtain ⟨g1,rfl⟩:=List.getElem?_eq_some_iff.1 h1
  obtain ⟨g2,rfl⟩:=List.getElem?_eq_some_iff.1 h2
  have hk:k<2:=by
   have: ∀a<5,(mdAt tabAX a).elems.length≤2:=by decide
   have:=this a (hlt a b h).1
   omega
  exact key a (hlt a b h).1 b (hlt a b h).2 h k hk g1 g2
theorem rr03:RR tabAX 0=RR tabAX 3:=bisimAX.RR (by decide)
theorem rr24:RR tabAX 2=RR tabAX 4:=bisimAX.RR (by decide)
theorem rr12:RR tabAX 1<RR tabAX 2:=RR_kindlt (by decide) (by decide) (by decide)
theorem rr20:RR tabAX 2<RR tabAX 0:=RR_kindlt (by decide) (by decide) (by decide)
theorem textAX:textT tabAX 2= [82,69,70,32,83,84,82,85,67,84,40,73,78,84,32,118,44,32,35,48,32,110,101,120,116,41]:=by
 have h1:=rr12
 have h2:=rr20
 have h3:=rr03
 have h4:=rr24
 have n1:numOf tabAX [] 2=none:=numOf_none.2 (by simp)
 have n2:numOf tabAX [2] 3=none:=numOf_none.2 (by simp;omega)
 have n3:numOf tabAX [2,3] 4=some 0:=by unfold numOf;simp[List.findIdx?_cons,h4]
 have hl:tabAX.length=5:=rfl
 unfold textT
 rw[hl]
 have t1:txM tabAX 4 [2,3] 1=([73,78,84],[2,3]):=by
  unfold txM;rw[md1X];simp[mdU,plainT,sizeT,kindT]
 have t4:txM tabAX 4 [2,3] 4=([35,48],[2,3]):=by
  unfold txM;rw[md4X];simp[mdU,n3,digB]
 have t3:txM tabAX 5 [2] 3=([83,84,82,85,67,84,40,73,78,84,32,118,44,32,35,48,32,110,101,120,116,41],[2,3]):=by
  unfold txM;rw[md3X];simp only[n2]
  unfold bodyT;rw[md3X];simp[eN,named,txL,t1,t4,nmVX,nmNX]
 unfold txM;rw[md2X];simp only[n1]
 unfold bodyT;rw[md2X];simp[eN,mdU,t3]
theorem denseAX {ds:List Nat} {kd:Nat} (h:DenseOf 5 (fun a b=>RR tabAX a<RR tabAX b) ds kd):ds= [2,0,1,2,1]∧kd=3:=by
 have h1:=rr12
 have h2:=rr20
 have h3:=rr03
 have h4:=rr24
 obtain ⟨hl,ho,hb,hs⟩:=h
 match ds,hl with
 | [a,b,c,d,e],_=>
  have o:=fun i j x y (hi: [a,b,c,d,e][i]? =some x) (hj: [a,b,c,d,e][j]? =some y)=>ho i j x y hi hj
  have o10:=o 1 2 b c rfl rfl
  have o20:=o 2 0 c a rfl rfl
  have o03:=o 0 3 a d rfl rfl
  have o30:=o 3 0 d a rfl rfl
  have o24:=o 2 4 c e rfl rfl
  have o42:=o 4 2 e c rfl rfl
  have e1:a=d:=by omega
  have e2:c=e:=by omega
  subst e1 e2
  have l1:b<c:=o10.2 h1
  have l2:c<a:=o20.2 h2
  have ba:=hb 0 a rfl
  have cov: ∀v,v<kd→v=a∨v=b∨v=c:=fun v hv=>by
   obtain ⟨i,hi⟩:=hs v hv
   match i,hi with
   |0,hi=>simp at hi;omega
   |1,hi=>simp at hi;omega
   |2,hi=>simp at hi;omega
   |3,hi=>simp at hi;omega
   |4,hi=>simp at hi;omega
   |i+5,hi=>simp at hi
  have c0:=cov 0 (by omega)
  have c1:=cov 1 (by omega)
  have c2:=cov 2 (by omega)
  have hb0:b=0:=by omega
  have hc1:c=1:=by omega
  have ha2:a=2:=by omega
  subst hb0 hc1 ha2
  refine ⟨rfl,?_⟩
  rcases Nat.lt_or_ge 3 kd with h|h
  ·have:=cov 3 (by omega);omega
  ·omega
theorem notBadAX {ds:List Nat} {k:Nat} (h:ds= [2,0,1,2,1]) (hk:k<3): ¬badAt tabAX ds k:=by
 rintro ⟨hu,_⟩
 have:firstOf ds k<5:=by
  subst h
  have: ∀k<3,firstOf [2,0,1,2,1] k<5:=by decide
  exact this k hk
 rw[notUX this] at hu
 cases hu
end Go.Proofs.YtlniliigcnedmaaGreatDoor
namespace Go.Proofs.YtlniliigcnedmaaGreatDoor
open Go Ax
set_option maxRecDepth 100000
theorem k17 (s:AVal) (l:List Md) (a b:Nat) (m:AMem) (hs:RTab m s l) (hsz: ∀x∈l,smallN x) (hn:T13 l) (hc:checkI l=0) (ha:a<l.length) (hb:b<l.length):
  ACalls Tryz.prog 17 [s,.int .i64 a,.int .i64 b] m fun v m'=>v= .tuple [.bool (decide (RR l a=RR l b)),.int .i64 0]∧m<+:m':=by
 refine w17 ?_
 have h60:=hn.len
 have ok:=okT_of hc
 simp[fillA,setN]
 have hA:=two_ints m a b
 have hm1:m<+:m++ [.own [.int .i64 (a:Int),.int .i64 (b:Int)] 3 none]:=List.prefix_append _ _
 generalize AVal.slice m.length 0 2 2 none=t1 at*
 generalize m++ [.own [.int .i64 (a:Int),.int .i64 (b:Int)] 3 none]=m1 at*
 refine C_of (k43 s t1 l [(a:Int),(b:Int)] m1 (hs.mono hm1) hA.ints hsz (by omega) (by simp)) ?_
 rintro _ m2 ⟨rfl,hm2⟩
 rw[rightI_two hc ha hb]
 simp
 refine C_of (k44 s l m2 (hs.mono (hm1.trans hm2)) ok.good hn.t60 hsz ok.h64) ?_
 rintro v3 m3 ⟨hm3,ds,kd,hX,hD⟩
 have hXi:=ints_of_nat hX
 obtain ⟨ba,oa,hpa,hla⟩:=ranksAt hXi (x:=a) (by rw[hD.len];exact ha)
 obtain ⟨bb,ob,hpb,hlb⟩:=ranksAt hXi (x:=b) (by rw[hD.len];exact hb)
 have hla:=hla m3 (List.prefix_refl _)
 have hlb:=hlb m3 (List.prefix_refl _)
 have heq:=hD.sameOrd.eq ha hb
 generalize ds.getD a 0=x at*
 generalize ds.getD b 0=y at*
 have hxy:((x:Int)==(y:Int))=decide (RR l a=RR l b):=by
  rw[Bool.eq_iff_iff,decide_eq_true_iff,←heq]
  simp
  omega
 simp
 refine W_drawPR (by simp[maxDst]) rfl rfl ?_
 simp[hpa,hla,hpb,hlb,hxy]
 intro m4 hm4
 exact ((hm1.trans hm2).trans hm3).trans hm4
end Go.Proofs.YtlniliigcnedmaaGreatDoor
namespace Go.Proofs.YtlniliigcnedmaaGreatDoor
open Go Ax
set_option maxRecDepth 100000
def blkAX (n:Nat):List ABlk:=
 [.own [.int .i64 1,.int .i64 2] 3 none,.own [.str ⟨#[118]⟩,.str ⟨#[110,101,120,116]⟩] 9 none,.own [.int .i64 3] 3 none,.own [.int .i64 1,.int .i64 4] 3 none,.own [.str ⟨#[118]⟩,.str ⟨#[110,101,120,116]⟩] 9 none,.own [.int .i64 0] 3 none,
  .own [.int .i64 11,.int .i64 0,.slice n 0 2 2 none,.slice (n+1) 0 2 2 none,.int .i64 0,.bool false,.int .i64 3,.int .i64 0,.nilslice,.nilslice,.int .i64 0,.bool false,
   .int .i64 9,.int .i64 0,.slice (n+2) 0 1 1 none,.nilslice,.int .i64 0,.bool false,.int .i64 11,.int .i64 0,.slice (n+3) 0 2 2 none,.slice (n+4) 0 2 2 none,.int .i64 0,.bool false,
   .int .i64 9,.int .i64 0,.slice (n+5) 0 1 1 none,.nilslice,.int .i64 0,.bool false] 39 none]
theorem rdAX {m bs:List ABlk} {k:Nat} {cs:List AVal} {ty:TypeId} {g:Option Nat} (h:bs[k]? =some (.own cs ty g)):readB (m++bs) (m.length+k)=some cs:=by
 simp[readB,List.getElem?_append_right,h,ABlk.cells]
theorem tabA_okX (m:AMem):RTab (m++blkAX m.length) (.slice (m.length+6) 0 5 5 none) tabAX:=by
 have r:=fun k cs ty g h=> @rdAX m (blkAX m.length) k cs ty g h
 have i0:RInts (m++blkAX m.length) (.slice m.length 0 2 2 none) [1,2]:= .inr ⟨_,_,_,_,rfl,⟨by decide,.inl rfl⟩,.inr ⟨by decide,_,r 0 _ _ _ rfl,rfl⟩⟩
 have i1:RStrs (m++blkAX m.length) (.slice (m.length+1) 0 2 2 none) [nmVX,nmNX]:= .inr ⟨_,_,_,_,rfl,⟨by decide,.inl rfl⟩,.inr ⟨by decide,_,r 1 _ _ _ rfl,rfl⟩⟩
 have i2:RInts (m++blkAX m.length) (.slice (m.length+2) 0 1 1 none) [3]:= .inr ⟨_,_,_,_,rfl,⟨by decide,.inl rfl⟩,.inr ⟨by decide,_,r 2 _ _ _ rfl,rfl⟩⟩
 have i3:RInts (m++blkAX m.length) (.slice (m.length+3) 0 2 2 none) [1,4]:= .inr ⟨_,_,_,_,rfl,⟨by decide,.inl rfl⟩,.inr ⟨by decide,_,r 3 _ _ _ rfl,rfl⟩⟩
 have i4:RStrs (m++blkAX m.length) (.slice (m.length+4) 0 2 2 none) [nmVX,nmNX]:= .inr ⟨_,_,_,_,rfl,⟨by decide,.inl rfl⟩,.inr ⟨by decide,_,r 4 _ _ _ rfl,rfl⟩⟩
 have i5:RInts (m++blkAX m.length) (.slice (m.length+5) 0 1 1 none) [0]:= .inr ⟨_,_,_,_,rfl,⟨by decide,.inl rfl⟩,.inr ⟨by decide,_,r 5 _ _ _ rfl,rfl⟩⟩
 refine ⟨_,.inr ⟨_,_,_,_,rfl,⟨by decide,.inl rfl⟩,.inr ⟨by decide,_,r 6 _ _ _ rfl,rfl⟩⟩,fun i x hx=>?_⟩
 rcases tabA_atX hx with ⟨rfl,rfl⟩|⟨rfl,rfl⟩|⟨rfl,rfl⟩|⟨rfl,rfl⟩|⟨rfl,rfl⟩
 ·exact ⟨_,_,rfl,i0,i1⟩
 ·exact ⟨_,_,rfl,Sl.nil,Sl.nil⟩
 ·exact ⟨_,_,rfl,i2,Sl.nil⟩
 ·exact ⟨_,_,rfl,i3,i4⟩
 ·exact ⟨_,_,rfl,i5,Sl.nil⟩
theorem smallAX: ∀x∈tabAX,smallN x:=by
 intro x hx
 simp only[tabAX,List.mem_cons,List.mem_nil_iff,or_false] at hx
 rcases hx with rfl|rfl|rfl|rfl|rfl
 ·exact ⟨by decide,by decide,by decide⟩
 ·exact ⟨by decide,by decide,by decide⟩
 ·exact ⟨by decide,by decide,by decide⟩
 ·exact ⟨by decide,by decide,by decide⟩
 ·exact ⟨by decide,by decide,by decide⟩
set_option maxHeartbeats 4000000 in
theorem k13 (m:AMem):ACalls Tryz.prog 13 [] m fun v m'=>v= .bool true∧m<+:m':=by
 refine w13 ?_
 simp[fillA,setN]
 have hT:=tabA_okX m
 have hm1:m<+:m++blkAX m.length:=List.prefix_append _ _
 simp only[blkAX] at hT hm1
 generalize m++_=m1 at*
 generalize AVal.slice (m.length+6) 0 5 5 none=s at*
 have hri:rightI tabAX [2]=0:=by
  unfold rightI
  rw[if_neg (by rw[checkAX];simp),if_neg (by decide)]
 have hT13:T13 tabAX:=T13.of (by decide)
 refine C_of (k15 s tabAX 2 m1 hT smallAX (fun _=>hT13) (by decide)) ?_
 rintro _ m2 ⟨hm2,rfl⟩
 have htx:textV tabAX 2=textT tabAX 2:=by unfold textV;rw[if_neg (by simp[hri])];rfl
 rw[hri,htx,textAX]
 simp
 refine C_of (k17 s tabAX 0 3 m2 (hT.mono hm2) smallAX hT13 checkAX (by decide) (by decide)) ?_
 rintro _ m3 ⟨rfl,hm3⟩
 have hm13:=hm2.trans hm3
 simp[rr03]
 have hnm: ∀x∈tabAX,x.names.length<2^40:=by decide
 refine C_of (k28f s tabAX m3 (hT.mono hm13) smallAX hnm hT13 checkAX) ?_
 rintro v4 m4 ⟨hm4,ds,kd,hD,h⟩
 obtain ⟨hds,rfl⟩:=denseAX hD
 rcases h with ⟨t,n,rfl,hn,ht,_⟩|⟨_,k,hk,hb⟩
 rotate_left
 ·exact absurd hb (notBadAX hds hk)
 have htl:=ht.tab.len
 rw[redT_len] at htl
 have hni:=ints_of_nat hn
 subst hds
 have hse: ∀x:ByteArray,binStr .eql x x=some (.bool true):=fun x=>by simp[binStr]
 have hw0:IntKind.i64.wrap 0=0:=wrap64 (by omega) (by omega)
 simp[hse,htl,fillA,setN,hw0]
 have hA:RInts (m4++ [ABlk.own [AVal.int .i64 2,.int .i64 0,.int .i64 1,.int .i64 2,.int .i64 1] 3 none]) (.slice m4.length 0 5 5 none) [2,0,1,2,1]:=(OwL.new (f:=AVal.int .i64) m4 3 [2,0,1,2,1]).ints
 have hm5:m4<+:m4++ [ABlk.own [AVal.int .i64 2,.int .i64 0,.int .i64 1,.int .i64 2,.int .i64 1] 3 none]:=List.prefix_append _ _
 refine C_of (k27 n _ [2,0,1,2,1] _ (hni.mono hm5) hA (by decide)) ?_
 rintro _ m6 ⟨rfl,hm6⟩
 simp
 exact hm1.trans (hm13.trans (hm4.trans (hm5.trans hm6)))
end Go.Proofs.YtlniliigcnedmaaGreatDoor
namespace Go.Proofs.YtlniliigcnedmaaGreatDoor
open Go Ax
set_option maxRecDepth 100000
theorem w18 {args m R} (h:W Tryz.prog (.seq (.reg [qb 6 false,qi 7 0]) (.kill [0,1,2] (.seq (.seq (.reg [qv 10 0,qv 11 1,qv 12 2,⟨some 13,.A (.bslice 3 2 [(.int .i64 0)] [(0,(1,(.t 11))),(1,(1,(.t 12)))]),none⟩,qc 14 47 [(.t 10),(.t 13)],qv 8 14]) (.kill [0,1,2,8] (.seq (.reg [qv 15 8,qk 16 .neq 15 0]) (.kill [0,1,2,8,16] (.cond (.t 16) (.seq (.reg [qv 17 8,qb 6 false,qv 7 17]) .ret) .skip))))) (.kill [0,1,2] (.seq (.seq (.draw true [qv 18 1,qv 19 2,qo 20 .eql 18 19,qv 21 20,⟨some 22,.P (.mov (.t 0)),(some (21,false))⟩,⟨some 23,.P (.mov (.t 1)),(some (21,false))⟩,⟨some 24,.P (.iaddr 6 (.t 22) (.t 23)),(some (21,false))⟩,⟨some 25,.R (.load 6 true (.t 24)),(some (21,false))⟩,⟨some 26,.P (.mov (.t 0)),(some (21,false))⟩,⟨some 27,.P (.mov (.t 2)),(some (21,false))⟩,⟨some 28,.P (.iaddr 6 (.t 26) (.t 27)),(some (21,false))⟩,⟨some 29,.R (.load 6 true (.t 28)),(some (21,false))⟩,⟨some 30,.C (.c (.func (.func 50) [] [])) [(.t 25),(.t 29)],(some (21,false))⟩,⟨some 31,.P (.bin .neq (.t 30) (qz 0)),(some (21,false))⟩,⟨some 32,.P (.pick (.t 21) (.c (.bool true)) (.t 31)),none⟩,qv 33 32,⟨some 34,.P (.mov (.t 0)),(some (33,false))⟩,⟨some 35,.P (.mov (.t 1)),(some (33,false))⟩,⟨some 36,.P (.iaddr 6 (.t 34) (.t 35)),(some (33,false))⟩,⟨some 37,.P (.faddr 2 (.t 36)),(some (33,false))⟩,⟨some 38,.R (.load 1 false (.t 37)),(some (33,false))⟩,⟨some 39,.P (.mov (.t 0)),(some (33,false))⟩,⟨some 40,.P (.mov (.t 2)),(some (33,false))⟩,⟨some 41,.P (.iaddr 6 (.t 39) (.t 40)),(some (33,false))⟩,⟨some 42,.P (.faddr 2 (.t 41)),(some (33,false))⟩,⟨some 43,.R (.load 1 false (.t 42)),(some (33,false))⟩,⟨some 44,.C (.c (.func (.func 51) [] [])) [(.t 38),(.t 43)],(some (33,false))⟩,⟨some 45,.P (.pick (.t 33) (.c (.bool true)) (.t 44)),none⟩] [[],[],[],[],[],[],[],[],[],[],[],[],[],[12],[12],[12],[12],[12],[12],[12],[12],[12],[12],[12],[12],[12],[12],[12,26]] [[],[],[],[],[],[],[],[],[],[],[],[],[],[],[],[],[],[],[],[],[],[],[],[],[],[],[],[]] [0,1,2,3,4,5,6,7,8,9,10,11,12,13,14,15,16,17,18,19,20,21,22,23,24,25,26,27]) (.kill [0,1,2,45] (.cond (.t 45) (.seq (.draw true [qv 46 1,qv 47 2,qo 48 .eql 46 47,qv 49 48,⟨some 50,.P (.mov (.t 0)),(some (49,false))⟩,⟨some 51,.P (.mov (.t 1)),(some (49,false))⟩,⟨some 52,.P (.iaddr 6 (.t 50) (.t 51)),(some (49,false))⟩,⟨some 53,.R (.load 6 true (.t 52)),(some (49,false))⟩,⟨some 54,.P (.mov (.t 0)),(some (49,false))⟩,⟨some 55,.P (.mov (.t 2)),(some (49,false))⟩,⟨some 56,.P (.iaddr 6 (.t 54) (.t 55)),(some (49,false))⟩,⟨some 57,.R (.load 6 true (.t 56)),(some (49,false))⟩,⟨some 58,.C (.c (.func (.func 50) [] [])) [(.t 53),(.t 57)],(some (49,false))⟩,⟨some 59,.P (.bin .eql (.t 58) (qz 0)),(some (49,false))⟩,⟨some 60,.P (.pick (.t 49) (.c (.bool true)) (.t 59)),none⟩,qv 6 60,qi 7 0] [[],[],[],[],[],[],[],[],[],[],[],[],[],[12],[12],[12],[12]] [[],[],[],[],[],[],[],[],[],[],[],[],[],[],[],[],[]] [0,1,2,3,4,5,6,7,8,9,10,11,12,13,14,15,16]) .ret) .skip))) (.kill [0,1,2] (.seq (.reg [qv 61 0,qc 62 48 [(.t 61)],qv 9 62]) (.kill [1,2,9] (.seq (.draw true [qv 63 9,qv 64 1,qa 65 1 63 64,ql 66 65,qv 67 9,qv 68 2,qa 69 1 67 68,ql 70 69,qo 71 .eql 66 70,qv 6 71,qi 7 0] [[],[],[],[],[],[],[],[],[],[],[]] [[],[],[],[],[],[],[],[],[],[],[]] [0,1,2,3,4,5,6,7,8,9,10]) .ret))))))))) (E [(.tmp 6),(.tmp 7)] R .mk) .mk (mat 72 (sArgs 0 args)) m) (hl:Nat.ble args.length 72=true:=by rfl):ACalls Tryz.prog 18 args m R:=walk mix (by kernel_rfl) (Nat.le_of_ble_eq_true hl) h
end Go.Proofs.YtlniliigcnedmaaGreatDoor
namespace Go.Proofs.YtlniliigcnedmaaGreatDoor
open Go Ax Go.ChangeShapes Go.WideShapes Go.ChangeAt Go.RowKit
set_option maxRecDepth 100000
theorem under22: Tryz.prog.underlying 22=some (.slice 39):=by kernel_rfl
theorem under3: Tryz.prog.underlying 3=some (.int .i64):=by kernel_rfl
theorem under4: Tryz.prog.underlying 4=some .bool:=by kernel_rfl
theorem under33: Tryz.prog.underlying 36=some (.slice 3):=by kernel_rfl
theorem under47: Tryz.prog.underlying 37=some (.slice 9):=by kernel_rfl
theorem under9: Tryz.prog.underlying 9=some .string:=by kernel_rfl
theorem laidOut:laidOutB Tryz.prog=true:=by kernel_rfl
theorem own0:ownKnob Tryz.prog.godebug=none:=by kernel_rfl
noncomputable def fs49:Array Field:=match Tryz.prog.underlying 39 with|some (.struct fs)=>fs|_=> #[]
noncomputable def modeT:ModeT Tryz.prog:=
 {tT:=22,tM:=39,tI:=36,eI:=3,tS:=37,eS:=9,k0:=3,k1:=3,k4:=3,k5:=4,fs:=fs49,
  hT:=under22,hM:=by kernel_rfl,hI:=under33,hi:=under3,hS:=under47,hs:=under9,h0:=under3,h1:=under3,h4:=under3,h5:=under4,
  cM:=by kernel_rfl,ci:=by kernel_rfl,cs:=by kernel_rfl,c0:=by kernel_rfl,c1:=by kernel_rfl,cI:=by kernel_rfl,cS:=by kernel_rfl,c4:=by kernel_rfl,c5:=by kernel_rfl,
  bi:=by kernel_rfl,bs:=by kernel_rfl,bM:=of_decide_eq_true (by kernel_rfl),sz:=by kernel_rfl,f0:=by kernel_rfl,f1:=by kernel_rfl,f2:=by kernel_rfl,f3:=by kernel_rfl,f4:=by kernel_rfl,f5:=by kernel_rfl}
def LawTII (f:FuncId):Prop:= ∀(m:AMem) (s:AVal) (l:List Md) (u v:Int),RTab m s l→l.length≤reachBytes→(∀md∈l,MdB reachBytes md)→ACalls Tryz.prog f [s,.int .i64 u,.int .i64 v] m fun r _=>r= .bool true
end Go.Proofs.YtlniliigcnedmaaGreatDoor
namespace Go.Proofs.YtlniliigcnedmaaGreatDoor
open Go Ax
open Relation
set_option maxRecDepth 100000
theorem FlexP.congr {l:List Md} (hg:goodT l) {a:Nat} (h:FlexP l a): ∀{b},a<l.length→b<l.length→RR l a=RR l b→FlexP l b:=by
 induction h with
 | @flex a x h1 h2 h3=>
  intro b ha hb he
  have hf:=RR_first ha hb he
  have hx:mdAt l a=x:=by rw[mdAt_eq ha];rw[List.getElem?_eq_getElem ha] at h1;exact Option.some.inj h1
  rw[hx] at hf
  have hk:=firstC_kind hf
  have hfl:x.flex=(mdAt l b).flex:=by
   have hz: ∀{x y:Int} {xs:List Int},firstNZ (x::xs)=0→x=0∧firstNZ xs=0:=fun {x y xs} h=>by
    rw[firstNZ_cons] at h
    split at h
    ·omega
    ·rename_i h0;exact ⟨by omega,h⟩
   unfold firstC firstL at hf
   have e1:=(hz (y:=0) hf).2
   have e2:=(hz (y:=0) e1).2
   have e3:=(hz (y:=0) e2).2
   have e4:=(hz (y:=0) e3).1
   have:=cmpI_zero.1 e4
   cases hx1:x.flex<;>cases hx2:(mdAt l b).flex<;>simp[bi,hx1,hx2] at this ⊢
  refine .flex (x:=mdAt l b) (by rw[mdAt_eq hb];exact List.getElem?_eq_getElem hb) ?_ ?_
  ·unfold rowStruct at h2 ⊢;rw[←hk];exact h2
  ·rw[←hfl];exact h3
 | @step a c h1 _ ih=>
  intro b ha hb he
  obtain ⟨x,g1,g2,g3⟩:=h1
  have hx:mdAt l a=x:=by rw[mdAt_eq ha];rw[List.getElem?_eq_getElem ha] at g1;exact Option.some.inj g1
  have hf:=RR_first ha hb he
  rw[hx] at hf
  have hk:=firstC_kind hf
  have hua:isU (mdAt l a)=false:=by
   rw[hx]
   unfold rowStruct at g2
   simp only[Bool.or_eq_true,beq_iff_eq] at g2
   simp[isU]
   omega
  obtain ⟨hl,hel⟩:=RR_elem hg ha hb he hua
  rw[hx] at hl hel
  obtain ⟨k,hk1,hk2⟩:=List.mem_iff_getElem.1 g3
  have hkb:k<(mdAt l b).elems.length:=by omega
  have hcl:c<l.length:=by have:=hg x (List.mem_of_getElem? g1) _ g3;omega
  have hmem:(mdAt l b).elems[k]∈(mdAt l b).elems:=List.getElem_mem hkb
  have hbm:=hg (mdAt l b) (by rw[mdAt_eq hb];exact List.getElem_mem hb) _ hmem
  have h5:=hel k _ _ (List.getElem?_eq_getElem hk1) (List.getElem?_eq_getElem hkb)
  rw[hk2,Int.toNat_natCast] at h5
  obtain ⟨d,hd⟩: ∃d:Nat,(mdAt l b).elems[k]=d:=⟨(mdAt l b).elems[k].toNat,by omega⟩
  rw[hd] at h5 hmem hbm
  rw[Int.toNat_natCast] at h5
  refine .step (k:=d) ⟨mdAt l b,by rw[mdAt_eq hb];exact List.getElem?_eq_getElem hb,?_,hmem⟩ (ih hcl (by omega) h5)
  unfold rowStruct at g2 ⊢;rw[←hk];exact g2
theorem RR_grow {l:List Md} {x:Md} (hg:goodT l) {a b:Nat} (ha:a<l.length) (hb:b<l.length) (h:RR l a=RR l b):RR (l++ [x]) a=RR (l++ [x]) b:=by
 have hl:(l++ [x]).length=l.length+1:=by simp
 have hel: ∀{a k:Nat} {e:Int},a<l.length→(mdAt l a).elems[k]? =some e→e.toNat<l.length:=fun {a k e} ha h=>by
  have:=hg (mdAt l a) (by rw[mdAt_eq ha];exact List.getElem_mem ha) e (List.mem_of_getElem? h)
  omega
 refine Bisim.RR (E:=fun a b=>a<l.length∧b<l.length∧RR l a=RR l b) ⟨fun a b h=>⟨by omega,by omega⟩,fun a b h=>?_,fun a b j h hu hj=>?_,fun a b j h hu hj=>?_,fun a b h hu=>?_,fun a b k e e' h hu h1 h2=>?_⟩ ⟨ha,hb,h⟩
 ·rw[mdAt_app h.1,mdAt_app h.2.1];exact RR_first h.1 h.2.1 h.2.2
 ·rw[mdAt_app h.1] at hu
  have hj':=(part_old hg h.1).1 hj
  obtain ⟨j',h1,h2⟩:=RR_part hg h.1 h.2.1 h.2.2 hu hj'
  exact ⟨j',(part_old hg h.2.1).2 h1,hj'.lt hg,h1.lt hg,h2⟩
 ·rw[mdAt_app h.2.1] at hu
  have hj':=(part_old hg h.2.1).1 hj
  obtain ⟨j',h1,h2⟩:=RR_part hg h.2.1 h.1 h.2.2.symm hu hj'
  exact ⟨j',(part_old hg h.1).2 h1,h1.lt hg,hj'.lt hg,h2.symm⟩
 ·rw[mdAt_app h.1] at hu
  rw[mdAt_app h.1,mdAt_app h.2.1]
  exact (RR_elem hg h.1 h.2.1 h.2.2 hu).1
 ·rw[mdAt_app h.1] at hu h1
  rw[mdAt_app h.2.1] at h2
  exact ⟨hel h.1 h1,hel h.2.1 h2,(RR_elem hg h.1 h.2.1 h.2.2 hu).2 k e e' h1 h2⟩
structure Left (l:List Md) (u part:Nat) (k:List Md) (q:Nat):Prop where
 ck:checkI k=0
 len:k.length≤l.length+1
 ge:l.length≤k.length
 ql:q<k.length
 rr: ∀a b,a<l.length→b<l.length→(RR k a=RR k b↔RR l a=RR l b)
 md: ∀a,a<l.length→mdAt k a=mdAt l a
 parts: ∀a j,a<l.length→(IsPart k a j↔IsPart l a j)
 nf: ¬FlexP k q
 nfp: ∀a,a<l.length→FlexP k a→FlexP l a
 up: ∀j,IsBase k q j→ ∃z∈leftI l u part,RR k j=RR k z
 dn: ∀z∈leftI l u part,∃j,IsBase k q j∧RR k j=RR k z
section
variable {l:List Md} {u part:Nat}
end
end Go.Proofs.YtlniliigcnedmaaGreatDoor
