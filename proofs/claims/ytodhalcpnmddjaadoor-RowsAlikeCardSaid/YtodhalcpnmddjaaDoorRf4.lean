/- Layer 22's laws.  Conditions: none beyond those stated. -/
import Derived.Test.YtodhalcpnmddjaaDoorRf3
import Derived.Shelf.Strings.OnBuilder
import Derived.Shelf.Strconv.Itoa4
import Derived.Test.YtodhalcpnmddjaaDoorProg
import Derived.Lib.AppendIntMem
import Derived.ProofKit
import Derived.SizedLaws
import Derived.SliceStrings
import Derived.Deep.Slices
import Derived.DataElems
import Derived.Test.YtodhalcpnmddjaaDoorCards
import Derived.Test.YtodhalcpnmddjaaDoorTie
import Derived.OpenShut
import Derived.Deep.DeepHandedRow
import Derived.Lib.LaidU8
set_option linter.unusedSimpArgs false
set_option linter.unusedVariables false
set_option linter.unusedSectionVars false
namespace Go.Proofs.YtodhalcpnmddjaaDoor
open Go Ax
set_option maxRecDepth 100000
theorem prodN_drop {bs:List (Int×Int)} {i:Nat} (hi:i<bs.length):prodN (bs.drop i)=lenB bs[i]*prodN (bs.drop (i+1)):=by
 rw[List.drop_eq_getElem_cons hi,prodN]
theorem store_boxN {m:AMem} {b n:Nat} {z cs:List AVal} {ty:TypeId} {g:Option Nat} (hb:m[b]? =some (.own z ty g)) (h1:cs.length=n) (h2:z.length=n) (h3:cs.all AVal.one=true):storeE m n (.ptr b 0) (.agg cs)=some (.undef,m.set b (.own cs ty g)):=by
 have hs:setN z 0 cs=cs:=by
  have:=setN_all cs z [] (by omega)
  simpa using this
 have h4:cs.length≤z.length:=by omega
 have h3':=h3
 rw[List.all_eq_true] at h3'
 simp[storeE,h1,writeB,hb,h2,hs]
 exact h3'
set_option maxHeartbeats 4000000 in
theorem k47 (s:AVal) (bs:List (Int×Int)) (m:AMem) (hs:SlF 2 bdC m s bs) (hn:bs.length<2^40) (hnear: ∀x∈bs,(nearI x.1&&nearI x.2)=true):
  ACalls Tryd.prog 47 [s] m fun v m'=>m<+:m'∧ ∃t,v= .agg [.int .i64 0,t]∧OwF 3 dmC m.length m' 92 t (plainW bs):=by
 refine w47 ?_
 simp[hs.len]
 have hm1:m<+:m++ [ABlk.own [AVal.int .i64 0,AVal.nilslice] 26 none]:=List.prefix_append _ _
 have hx1:(m++ [ABlk.own [AVal.int .i64 0,AVal.nilslice] 26 none])[m.length]? =some (.own [.int .i64 0,.nilslice] 26 none):=by simp
 generalize hm1e:m++ [ABlk.own [AVal.int .i64 0,AVal.nilslice] 26 none]=m1 at*
 have hl1:m1.length=m.length+1:=by rw[←hm1e];simp
 rw[if_pos (by omega)]
 have hrep:(List.replicate bs.length [AVal.int .i64 0,AVal.int .i64 0,AVal.int .i64 0]).flatten=(List.replicate bs.length (⟨0,0,0⟩:Dm)).flatMap dmC:=by
  rw[List.flatMap_replicate];rfl
 simp[hrep]
 have hO2:=OwF.new (w:=3) (f:=dmC) m1 92 (List.replicate bs.length ⟨0,0,0⟩)
 have hm2:m1<+:m1++ [ABlk.own ((List.replicate bs.length (⟨0,0,0⟩:Dm)).flatMap dmC) 92 none]:=List.prefix_append _ _
 have hl2:(m1++ [ABlk.own ((List.replicate bs.length (⟨0,0,0⟩:Dm)).flatMap dmC) 92 none]).length=m1.length+1:=by simp
 generalize m1++ [ABlk.own ((List.replicate bs.length (⟨0,0,0⟩:Dm)).flatMap dmC) 92 none]=m2 at*
 rw[List.length_replicate] at hO2
 simp[fillA,setN]
 rw[store_new m2 _ [AVal.int .i64 0,AVal.slice m1.length 0 bs.length bs.length none] 26 none 2 rfl rfl rfl]
 have hm3:m2<+:m2++ [ABlk.own [AVal.int .i64 0,AVal.slice m1.length 0 bs.length bs.length none] 26 none]:=List.prefix_append _ _
 have hb3:=readB_new m2 [AVal.int .i64 0,AVal.slice m1.length 0 bs.length bs.length none] 26 none
 generalize m2++ [ABlk.own [AVal.int .i64 0,AVal.slice m1.length 0 bs.length bs.length none] 26 none]=m3 at*
 have hO3:=hO2.mono hm3
 have hsl:(AVal.slice m1.length 0 bs.length bs.length none).blk=some m1.length:=rfl
 generalize AVal.slice m1.length 0 bs.length bs.length none=sl at*
 generalize hb3e:m2.length=b3 at*
 have hm13:=hm2.trans hm3
 have hm03:=hm1.trans hm13
 have hx3:=prefix_get hm13 hx1
 clear hO2 hm2 hm1 hx1 hrep
 have hw0:IntKind.i64.wrap ((bs.length:Int)-1)=(bs.length:Int)-1:=wrap64 (by omega) (by omega)
 simp[hs.len,hw0]
 obtain ⟨I,hI⟩: ∃I:Nat→AFrame→AMem→Prop,∀q f m',I q f m'↔(q≤bs.length∧f=h47_0 s (.ptr m.length 0) (.ptr b3 0) (.int .i64 (IntKind.i64.wrap (prodN (bs.drop q):Int))) (.int .i64 ((q:Int)-1))∧
  (∃ys,OwF 3 dmC m1.length m' 92 sl ys∧ys.length=bs.length∧ys.drop q=(plainW bs).drop q)∧Ch (fun b=>sl.blk=some b) m3 m'):=⟨_,fun _ _ _=>Iff.rfl⟩
 refine W_loop I bs.length ((hI _ _ _).2 ⟨Nat.le_refl _,?_,⟨_,hO3,by simp,by rw[List.drop_of_length_le (by simp),List.drop_of_length_le (by rw[plainW_len];omega)]⟩,.refl _ _⟩) ?_
 ·rw[List.drop_length,show (prodN []:Int)=1 from rfl,show IntKind.i64.wrap 1=1 from wrap64 (by omega) (by omega)]
 rintro q f m4 hIn
 obtain ⟨hq,rfl,⟨ys,hO4,hyl,hyd⟩,hc4⟩:=(hI _ _ _).1 hIn
 clear hIn
 have hnb: ∀b,b<m1.length→ ¬sl.blk=some b:=fun b hb h=>by rw[hsl] at h;cases h;omega
 have hb4:=hc4.read (fun h=>by rw[hsl] at h;cases h;omega) hb3
 simp
 refine bbind_dec (fun hq0=>?_) fun hq0=>?_
 rotate_left
 ·have:q=0:=by omega
  subst this
  rw[List.drop_zero,List.drop_zero] at hyd
  subst hyd
  have hbw:=bxW hb4 2
  simp[readN] at hbw
  simp[hbw]
  have hx4:=hc4.keep _ _ hx3 (hnb _ (by omega))
  obtain ⟨o1,o2⟩:=hO4.sl.one
  rw[store_boxN (cs:= [.int .i64 0,sl]) (n:=2) hx4 rfl rfl (by simp[o1])]
  have hcc:Ch (fun b=>sl.blk=some b∨b=m.length) m3 (m4.set m.length (.own [.int .i64 0,sl] 26 none)):=(hc4.weaken fun b _ h=> .inl h).set (.inl (.inr rfl)) _
  have hlt:=(List.getElem?_eq_some_iff.1 hx4).1
  simp[loadE,readB,hlt,ABlk.cells,readN]
  refine ⟨hcc.pre hm03 fun b hb h=>?_,(hO4.ch (Ch.setS (S:=fun b=>b=m.length) _ rfl) fun b hb h=>?_).lo' (by omega)⟩
  ·rcases h with h|h
   ·exact hnb b (by omega) h
   ·omega
  ·subst h
   exact hnb _ (by omega) hb
 obtain ⟨p,rfl⟩: ∃p,q=p+1:=⟨q-1,by omega⟩
 have hp:p<bs.length:=by omega
 have hm04:m<+:m4:=hc4.pre hm03 fun b hb=>hnb b (by omega)
 obtain ⟨bk,ok,p1,_,p3⟩:=(hs.mono hm04).at hp
 simp
 refine W_draw (fun _ _ _=>True) (by simp[maxDst]) ?_
 refine D_pc 0 10 [10] ?_
 have hnx:=hnear bs[p] (List.getElem_mem hp)
 have hln:=near_len hnx
 have hget:=plainW_get hp
 have hpd:=prodN_drop hp
 simp only[bdC] at p3
 simp[bx hb4,p1,p3,fillA,setN]
 obtain ⟨bq,oq,e1,e2,_,_,e3,_⟩:=hO4.at (i:=p) (by omega)
 simp[e2]
 intro fs _
 refine D_W rfl rfl fun m5 hm5 _=>?_
 obtain ⟨bq',oq',e1',e2',_,_,e3',_⟩:=(hO4.mono hm5).at (i:=p) (by omega)
 obtain ⟨rfl,rfl⟩:bq'=bq∧oq'=oq:=by have:=(e2' .i64).symm.trans (e2 .i64);simpa using this
 obtain ⟨m6,f1,f2,f3⟩:=e3' ⟨bs[p].1,bs[p].2,IntKind.i64.wrap (prodN (bs.drop (p+1)):Int)⟩
 simp only[dmC] at f1
 simp[f1]
 refine D_end fun m7 hm7 _=>?_
 have hc7:Ch (fun b=>sl.blk=some b) m3 m7:=hc4.trans ((Ch.of_prefix hm5).trans ((f2.weaken fun b _ h=>by rw[h];exact e1').trans (.of_prefix hm7)))
 have hm07:m<+:m7:=hc7.pre hm03 fun b hb=>hnb b (by omega)
 have hO7:=f3.mono hm7
 obtain ⟨bk',ok',p1',_,p3'⟩:=(hs.mono hm07).at hp
 simp only[bdC] at p3'
 simp[p1',p3']
 refine C_of (k71 bs[p].1 bs[p].2 m7 (by simpa using hnx)) ?_
 rintro _ m8 ⟨rfl,hm8⟩
 rw[hln.1]
 have hw1:IntKind.i64.wrap (IntKind.i64.wrap (prodN (bs.drop (p+1)):Int)*(lenB bs[p]:Int))=IntKind.i64.wrap (prodN (bs.drop p):Int):=by
  rw[wrap_mul_l,hpd,Nat.mul_comm,Int.natCast_mul]
 have hw2:IntKind.i64.wrap ((p:Int)-1)=(p:Int)-1:=wrap64 (by omega) (by omega)
 simp[hw1,hw2]
 refine ⟨p,by omega,(hI _ _ _).2 ⟨by omega,by simp,⟨_,hO7.mono hm8,by simpa using hyl,?_⟩,hc7.trans (.of_prefix hm8)⟩⟩
 rw[List.drop_eq_getElem_cons (by simp;omega),List.drop_eq_getElem_cons (i:=p) (l:=plainW bs) (by rw[plainW_len];omega),hget,List.getElem_set_self,List.drop_set_of_lt (by omega),hyd]
end Go.Proofs.YtodhalcpnmddjaaDoor
namespace Go.Proofs.YtodhalcpnmddjaaDoor
open Go Ax
set_option maxRecDepth 100000
theorem DsR.zero (m:AMem):DsR m (.agg [.int .i64 0,.nilslice]) .zero:=⟨.nilslice,rfl,SlF.nil,fun b h=>by cases h⟩
theorem DsR.own {m:AMem} {lo:Nat} {ty:TypeId} {b:Int} {t:AVal} {ds:List Dm} (h:OwF 3 dmC lo m ty t ds):DsR m (.agg [.int .i64 b,t]) ⟨b,ds⟩:=⟨t,rfl,h.sl,fun b hb=>(h.blk_lo hb).2⟩
def DsO (lo:Nat) (m:AMem) (v:AVal) (d:Dsc):Prop:= ∃s,v= .agg [.int .i64 d.b,s]∧SlF 3 dmC m s d.ds∧ ∀b,s.blk=some b→lo≤b∧b<m.length
theorem DsO.ds {lo:Nat} {m:AMem} {v:AVal} {d:Dsc} (h:DsO lo m v d):DsR m v d:=let ⟨s,h1,h2,h3⟩:=h;⟨s,h1,h2,fun b hb=>(h3 b hb).2⟩
theorem DsO.zero (lo:Nat) (m:AMem):DsO lo m (.agg [.int .i64 0,.nilslice]) .zero:=⟨.nilslice,rfl,SlF.nil,fun b h=>by cases h⟩
theorem DsO.own {m:AMem} {lo lo':Nat} {ty:TypeId} {b:Int} {t:AVal} {ds:List Dm} (h:OwF 3 dmC lo m ty t ds) (hl:lo'≤lo):DsO lo' m (.agg [.int .i64 b,t]) ⟨b,ds⟩:=⟨t,rfl,h.sl,fun b hb=>by have:=h.blk_lo hb;omega⟩
theorem k12 (s:AVal) (bs:List (Int×Int)) (m:AMem) (hs:SlF 2 bdC m s bs) (hn:bs.length<2^40):
  ACalls Tryd.prog 12 [s] m fun v m'=>m<+:m'∧ ∃w,v= .tuple [w,.int .i64 (makeD bs).2]∧DsO m.length m' w (makeD bs).1:=by
 refine w12 ?_
 simp
 have hm1:m<+:m++ [ABlk.own [AVal.int .i64 0,AVal.nilslice] 26 none]:=List.prefix_append _ _
 have hx1:(m++ [ABlk.own [AVal.int .i64 0,AVal.nilslice] 26 none])[m.length]? =some (.own [.int .i64 0,.nilslice] 26 none):=by simp
 generalize m++ [ABlk.own [AVal.int .i64 0,AVal.nilslice] 26 none]=m1 at*
 refine C_of (k46 s bs m1 (hs.mono hm1) (by omega)) ?_
 rintro _ m2 ⟨hm2,rfl⟩
 have hx2:=prefix_get hm2 hx1
 have hlt:=(List.getElem?_eq_some_iff.1 hx2).1
 by_cases hc:checkB bs=0
 rotate_left
 ·have hmk:makeD bs=(.zero,checkB bs):=by unfold makeD;rw[if_pos hc]
  simp[bneT hc,fillA]
  rw[store_boxN (cs:= [.int .i64 0,.nilslice]) (n:=2) hx2 rfl rfl rfl]
  simp[loadE,readB,hlt,ABlk.cells,readN,hmk]
  have hcc:Ch (fun b=>b=m.length) m2 (m2.set m.length (.own [.int .i64 0,.nilslice] 26 none)):=Ch.setS _ rfl
  exact ⟨hcc.pre (hm1.trans hm2) fun b hb h=>by omega,DsO.zero _ _⟩
 have hmk:makeD bs=(⟨0,plainW bs⟩,0):=by unfold makeD;rw[if_neg (by simp[hc])]
 obtain ⟨_,hc2,_⟩:=check_zero.1 hc
 simp[hc]
 refine C_of (k47 s bs m2 (hs.mono (hm1.trans hm2)) hn (fun x hx=>by simp[hc2 x hx])) ?_
 rintro _ m3 ⟨hm3,t,rfl,hO⟩
 have hx3:=prefix_get hm3 hx2
 have hlt:=(List.getElem?_eq_some_iff.1 hx3).1
 obtain ⟨o1,o2⟩:=hO.sl.one
 simp
 rw[store_boxN (cs:= [.int .i64 0,t]) (n:=2) hx3 rfl rfl (by simp[o1])]
 simp[loadE,readB,hlt,ABlk.cells,readN,hmk]
 have hcc:Ch (fun b=>b=m.length) m3 (m3.set m.length (.own [.int .i64 0,t] 26 none)):=Ch.setS _ rfl
 refine ⟨hcc.pre (hm1.trans (hm2.trans hm3)) fun b hb h=>by omega,DsO.own (hO.ch hcc fun b hb h=>?_) (by have:=(hm1.trans hm2).length_le;omega)⟩
 have:=(hO.blk_lo hb).1
 omega
theorem count_eq {d:Dsc} (h:d.bad=false):(cntI d.bnds).getD 0=d.count∧cntI d.bnds≠none:=by
 obtain ⟨hc,_⟩:=right_zero.1 (d.ok h)
 obtain ⟨_,_,h3⟩:=check_zero.1 hc
 unfold Dsc.count
 rw[if_neg (by simp[h])]
 by_cases he:emptyB d.bnds=true
 ·simp[cntI,he]
 ·have he:emptyB d.bnds=false:=by simpa using he
  have:=h3 he
  unfold cntI Dsc.bnds
  rw[if_neg (by simpa using he),if_pos this]
  rw[if_neg (by simpa using he)]
  simp
theorem bad_near {d:Dsc} (h:d.bad=false): ∀x∈d.bnds,(nearI x.1&&nearI x.2)=true:=by
 obtain ⟨hc,_⟩:=right_zero.1 (d.ok h)
 obtain ⟨_,h2,_⟩:=check_zero.1 hc
 exact fun x hx=>by simp[h2 x hx]
theorem k23 (v:AVal) (d:Dsc) (m:AMem) (hv:DsR m v d) (hl:d.ds.length<2^30):ACalls Tryd.prog 23 [v] m fun r m'=>m<+:m'∧r= .int .i64 d.count:=by
 have hv0:=hv
 obtain ⟨s,rfl,hs,hsb⟩:=hv
 refine w23 ?_
 obtain ⟨h1,h2⟩:=hs.one
 simp[h1,h2]
 have hb:=readB_new m [AVal.int .i64 d.b,s] 26 none
 have hm:m<+:m++ [ABlk.own [AVal.int .i64 d.b,s] 26 none]:=List.prefix_append _ _
 generalize m++ [ABlk.own [AVal.int .i64 d.b,s] 26 none]=m1 at*
 generalize m.length=b0 at*
 have hbw:=bxW hb 2
 simp[readN] at hbw
 simp[hbw]
 refine C_of (k58 _ d m1 (hv0.mono hm) hl) ?_
 rintro _ m2 ⟨hm2,rfl⟩
 by_cases hd:d.bad=true
 ·simp[hd,Dsc.count,hm.trans hm2]
 have hd:d.bad=false:=by simpa using hd
 have hbw:=bxW (readB_mono hm2 hb) 2
 simp[readN] at hbw
 simp[hd,hbw]
 refine C_of (k54 s d.b d.ds m2 (hs.mono (hm.trans hm2)) hl) ?_
 rintro v2 m3 ⟨hm3,hO⟩
 have hlb:(bndsD d.ds).length=d.ds.length:=by simp[bndsD]
 simp
 refine C_of (k55 v2 (bndsD d.ds) m3 hO.sl (by omega) (bad_near hd)) ?_
 rintro _ m4 ⟨hm4,rfl⟩
 have hc:=(count_eq hd).1
 unfold Dsc.bnds at hc
 simp[hc,hm.trans (hm2.trans (hm3.trans hm4))]
theorem k25 (v:AVal) (d:Dsc) (m:AMem) (hv:DsR m v d) (hl:d.ds.length<2^30):ACalls Tryd.prog 25 [v] m fun r m'=>m<+:m'∧SlF 2 bdC m' r (if d.bad=true then [] else d.bnds):=by
 have hv0:=hv
 obtain ⟨s,rfl,hs,hsb⟩:=hv
 refine w25 ?_
 obtain ⟨h1,h2⟩:=hs.one
 simp[h1,h2]
 have hb:=readB_new m [AVal.int .i64 d.b,s] 26 none
 have hm:m<+:m++ [ABlk.own [AVal.int .i64 d.b,s] 26 none]:=List.prefix_append _ _
 generalize m++ [ABlk.own [AVal.int .i64 d.b,s] 26 none]=m1 at*
 generalize m.length=b0 at*
 have hbw:=bxW hb 2
 simp[readN] at hbw
 simp[hbw]
 refine C_of (k58 _ d m1 (hv0.mono hm) hl) ?_
 rintro _ m2 ⟨hm2,rfl⟩
 by_cases hd:d.bad=true
 ·simp[hd,hm.trans hm2]
  exact SlF.nil
 have hd:d.bad=false:=by simpa using hd
 have hbw:=bxW (readB_mono hm2 hb) 2
 simp[readN] at hbw
 simp[hd,hbw]
 refine C_of (k54 s d.b d.ds m2 (hs.mono (hm.trans hm2)) hl) ?_
 rintro v2 m3 ⟨hm3,hO⟩
 rw[if_neg (by simp[hd])]
 simp[hm.trans (hm2.trans hm3)]
 exact hO.sl
theorem k65 (v:AVal) (d:Dsc) (k:Int) (m:AMem) (hv:DsR m v d) (hl:d.ds.length<2^30):ACalls Tryd.prog 65 [v,.int .i64 k] m fun r m'=>m<+:m'∧r= .int .i64 (d.dimE k):=by
 have hv0:=hv
 obtain ⟨s,rfl,hs,hsb⟩:=hv
 refine w65 ?_
 obtain ⟨h1,h2⟩:=hs.one
 simp[h1,h2]
 have hb:=readB_new m [AVal.int .i64 d.b,s] 26 none
 have hm:m<+:m++ [ABlk.own [AVal.int .i64 d.b,s] 26 none]:=List.prefix_append _ _
 generalize m++ [ABlk.own [AVal.int .i64 d.b,s] 26 none]=m1 at*
 generalize m.length=b0 at*
 have hbw:=bxW hb 2
 simp[readN] at hbw
 simp[hbw]
 refine C_of (k58 _ d m1 (hv0.mono hm) hl) ?_
 rintro _ m2 ⟨hm2,rfl⟩
 by_cases hd:d.bad=true
 ·simp[hd,Dsc.dimE,hm.trans hm2]
 have hd:d.bad=false:=by simpa using hd
 have hb2:=readB_mono hm2 hb
 by_cases h0:k<0
 ·simp[hd,Dsc.dimE,h0,hm.trans hm2]
 by_cases h1:(d.ds.length:Int)≤k
 ·simp[hd,Dsc.dimE,h0,h1,bx hb2,hs.len,hm.trans hm2]
 ·simp[hd,Dsc.dimE,h0,h1,bx hb2,hs.len,hm.trans hm2]
set_option maxHeartbeats 4000000 in
theorem k67 (s:AVal) (b:Int) (ds:List Dm) (m:AMem) (hs:SlF 3 dmC m s ds) (hl:ds.length<2^30):ACalls Tryd.prog 67 [.agg [.int .i64 b,s]] m fun r m'=>m<+:m'∧ ∃t,r= .agg [.int .i64 b,t]∧OwF 3 dmC m.length m' 92 t ds:=by
 refine w67 ?_
 obtain ⟨h1,h2⟩:=hs.one
 simp[h1,h2]
 have hb:=readB_new m [AVal.int .i64 b,s] 26 none
 have hm:m<+:m++ [ABlk.own [AVal.int .i64 b,s] 26 none,ABlk.own [AVal.int .i64 0,AVal.nilslice] 26 none]:=List.prefix_append _ _
 have hb:readB (m++ [ABlk.own [AVal.int .i64 b,s] 26 none,ABlk.own [AVal.int .i64 0,AVal.nilslice] 26 none]) m.length=some [.int .i64 b,s]:=by simp[readB,ABlk.cells]
 have hx:(m++ [ABlk.own [AVal.int .i64 b,s] 26 none,ABlk.own [AVal.int .i64 0,AVal.nilslice] 26 none])[m.length+1]? =some (.own [.int .i64 0,.nilslice] 26 none):=by simp
 have hl1:(m++ [ABlk.own [AVal.int .i64 b,s] 26 none,ABlk.own [AVal.int .i64 0,AVal.nilslice] 26 none]).length=m.length+2:=by simp
 generalize m++ [ABlk.own [AVal.int .i64 b,s] 26 none,ABlk.own [AVal.int .i64 0,AVal.nilslice] 26 none]=m1 at*
 refine W_draw (fun _ _ _=>True) (by simp[maxDst]) ?_
 refine D_pc 0 2 [2,3,4,5,6,7] ?_
 simp[bx hb]
 intro fs hfs
 refine D_An rfl trivial ?_
 simp[fillA]
 intro b5 hb5
 refine D_P rfl trivial ?_
 simp
 refine D_R rfl trivial ⟨m1,List.prefix_refl _,fun j hj=>by simp at hj⟩ ?_
 simp[bx hb]
 refine D_X rfl rfl fun m2 hm2 hf=>?_
 have hf2:=hf 2
 simp[upd] at hf2
 have hO0:OwF 3 dmC m1.length m2 92 (.slice b5 0 0 0 none) ([]:List Dm):= .inr ⟨b5,0,0,none,[],none,rfl,hb5,hf2,by simp[readN],by simp,by simp,by simp,.inl rfl⟩
 have hm02:=hm.trans hm2
 obtain ⟨t,m3,happ,hch,hO3,hg3⟩:=hO0.append (by_:=24) (by have:=hm2.length_le;omega) (by omega) ds (by simp;omega)
 have hsc:=(hs.mono hm02).cells
 have hb3:readB m3 m.length=some [.int .i64 b,s]:=hch.read (fun h=>by simp[AVal.blk] at h;omega) (readB_mono hm2 hb)
 have hx3:m3[m.length+1]? =some (.own [.int .i64 0,.nilslice] 26 none):=hch.keep _ _ (prefix_get hm2 hx) (fun h=>by simp[AVal.blk] at h;omega)
 simp[hsc,happ,lateOf]
 refine ⟨by simp[bx hb3],?_⟩
 rw[List.nil_append] at hO3
 obtain ⟨o1,o2⟩:=hO3.sl.one
 refine D_P rfl trivial ?_
 simp[fillA,setN,o1,o2]
 refine D_W rfl rfl fun m4 hm4 _=>?_
 have hx4:=prefix_get hm4 hx3
 simp
 rw[store_boxN (cs:= [.int .i64 b,t]) (n:=2) hx4 rfl rfl (by simp[o1])]
 simp
 refine D_end fun m5 hm5 _=>?_
 have hO5:=hO3.mono hm4
 have c3:Ch (fun c=>c=b5) m1 m3:=(Ch.of_prefix hm2).trans (hch.weaken fun c _ h=>by simpa[AVal.blk] using h.symm)
 have hc:Ch (fun c=>c=b5∨c=m.length+1) m1 m5:=(((c3.weaken fun c _ h=> .inl h).trans (.of_prefix hm4)).set (.inl (.inr rfl)) _).trans (.of_prefix hm5)
 have hl4:=(List.getElem?_eq_some_iff.1 hx4).1
 have hx5:m5[m.length+1]? =some (.own [.int .i64 b,t] 26 none):=prefix_get hm5 (by rw[List.getElem?_set_self hl4])
 simp[bxW (box_read hx5),readN]
 refine ⟨hc.pre hm fun c hc h=>by omega,?_⟩
 refine ((hO5.ch (Ch.setS (S:=fun c=>c=m.length+1) _ rfl) fun c hb h=>?_).mono hm5).lo' (by omega)
 have:=(hO3.blk_lo hb).1
 omega
end Go.Proofs.YtodhalcpnmddjaaDoor
namespace Go.Proofs.YtodhalcpnmddjaaDoor
open Go Ax
set_option maxRecDepth 100000
def sl3E (esz:Nat) (v lo hi mx:AVal):Option AVal:=match v,bdE (some lo) 0 with
 | .nilslice,some l=>(bdE (some hi) 0).bind fun h=>(bdE (some mx) 0).bind fun m=>evSlice esz .nilslice l h (some m)
 | .slice b o n k ex,some l=>(bdE (some hi) n).bind fun h=>(bdE (some mx) 0).bind fun m=>evSlice esz (.slice b o n k ex) l h (some m)
 |_,_=>none
theorem ev_sl3 (a:AFrame) (esz:Nat) (x lo hi mx:Arg):POp.ev a (.slice esz x (some lo) (some hi) (some mx))=sl3E esz (a.ev x) (a.ev lo) (a.ev hi) (a.ev mx):=by
 simp only[POp.ev,bnd_eq,sl3E,Option.map_some]
 cases a.ev x<;>cases bdE (some (a.ev lo)) 0<;>rfl
theorem ev_clr (a:AFrame) (m:AMem) (z:List AVal) (x:Arg):WOp.ev a m (.clear z x)=clearE m z (a.ev x):=rfl
theorem flat_take {α:Type} {w:Nat} {f:α→List AVal} [hf:SCell w f]: ∀(xs:List α) (k:Nat),(xs.flatMap f).take (k*w)=(xs.take k).flatMap f
 | [],k=>by simp
 |x::xs,0=>by simp
 |x::xs,k+1=>by
  rw[List.flatMap_cons,List.take_succ_cons,List.flatMap_cons,List.take_append,List.take_of_length_le (by rw[hf.len,Nat.succ_mul];omega),hf.len,Nat.succ_mul,Nat.add_sub_cancel,flat_take xs k]
theorem flat_erase {α:Type} {w:Nat} {f:α→List AVal} [hf:SCell w f] (xs:List α) (k:Nat):(xs.eraseIdx k).flatMap f=(xs.flatMap f).take (k*w)++(xs.flatMap f).drop ((k+1)*w):=by
 rw[List.eraseIdx_eq_take_drop_succ,List.flatMap_append,flat_drop,flat_take]
set_option maxHeartbeats 4000000 in
theorem k66 (t:AVal) (ty:TypeId) (ds:List Dm) (k lo:Nat) (m:AMem) (hO:OwF 3 dmC lo m ty t ds) (hk:k<ds.length) (hl:ds.length<2^30) (hty:ty=92):
  ACalls Tryd.prog 66 [t,.int .i64 k,.int .i64 ((k:Int)+1)] m fun r m'=>OwF 3 dmC lo m' ty r (ds.eraseIdx k)∧Ch (fun b=>t.blk=some b) m m'∧r.blk=t.blk:=by
 have hO0:=hO
 rcases hO with ⟨_,h,_⟩|⟨b,o,cap,gr,bl,gr',rfl,h1,h2,h3,h4,h5,h6,h7⟩
 ·omega
 refine w66 ?_
 have hne: ¬(k:Int)=(k:Int)+1:=by omega
 have hcapg:gr=none∨gr=some 3:=h7.imp id (·.1)
 have hk1:(0:Int)≤(k:Int)+1:=by omega
 have hk2:((k:Int)+1).toNat=k+1:=by omega
 have hc1:k+1≤ds.length:=by omega
 simp[ev_sl3,sl3E,bdE,evSlice,hk1,hc1,h4,beqF hne]
 refine W_draw (fun _ _ _=>True) (by simp[maxDst]) ?_
 have hkc:k≤cap:=by omega
 refine D_pc 0 6 [6,7] ?_
 simp[sliceE,bdE,evSlice,hk1,hk2,hc1,h4,hkc,hcapg]
 intro fs _
 refine D_W rfl rfl fun m2 hm2 _=>?_
 have hb2:=prefix_get hm2 h2
 obtain ⟨s',e1,e2,e3⟩:=Ow.drop (hO0.mono hm2) (i:=k+1) hc1
 have hs':s'= .slice b (o+(k+1)*3) (ds.length-(k+1)) (cap-(k+1)) gr:=by
  have:=e1 .i64
  simp[sliceE,bdE,evSlice,hk1,hk2,hc1,h4,hkc,hcapg] at this
  exact this.symm
 subst hs'
 have hsc:=(Ow.sl e2).cells
 rw[flat_drop] at hsc
 have hF:((ds.drop (k+1)).flatMap dmC).length=(ds.length-(k+1))*3:=by rw[flat_len,List.length_drop]
 have hF1:=flat_one (f:=dmC) (ds.drop (k+1))
 have hG:(ds.flatMap dmC).length=ds.length*3:=flat_len ds
 have hGd: ∀i,((ds.drop (k+1)).flatMap dmC)[i]? =(ds.flatMap dmC)[(k+1)*3+i]? :=fun i=>by rw[←flat_drop,List.getElem?_drop]
 have hE:=flat_erase (f:=dmC) ds k
 generalize (ds.drop (k+1)).flatMap dmC=F at*
 have hwb:writeB m2 b (o+k*3) F=some (m2.set b (.own (setN bl (o+k*3) F) ty gr')):=by
  simp only[writeB,hb2]
  rw[if_pos ⟨by omega,hF1⟩]
 have happ:appendE m2 3 24 92 (.slice b o k cap gr) (ds.length-(k+1)) F=some (.slice b o (ds.length-1) cap gr,m2.set b (.own (setN bl (o+k*3) F) ty gr')):=by
  unfold appendE
  rw[if_neg (by simp[hF1])]
  by_cases h0:ds.length-(k+1)=0
  ·rw[h0,Nat.zero_mul] at hF
   have:F= []:=List.eq_nil_of_length_eq_zero hF
   subst this
   have hset:m2.set b (.own (setN bl (o+k*3) []) ty gr')=m2:=by
    refine List.ext_getElem? fun i=>?_
    rw[List.getElem?_set]
    split
    ·rename_i h
     subst h
     rw[if_pos (List.getElem?_eq_some_iff.1 hb2).1,hb2]
     rfl
    ·rfl
   rw[hset]
   simp[h0]
   omega
  ·simp only[h0,if_false]
   rw[if_pos (by omega),hwb]
   simp
   omega
 simp[hsc,happ]
 refine D_P rfl trivial ?_
 simp
 refine D_end fun m3 hm3 _=>?_
 have hl2:=(List.getElem?_eq_some_iff.1 hb2).1
 have hb3:m3[b]? =some (.own (setN bl (o+k*3) F) ty gr'):=prefix_get hm3 (by rw[List.getElem?_set_self hl2])
 have hn1:ds.length-1≤cap:=by omega
 have hn2:ds.length-(ds.length-1)=1:=by omega
 have hle0:(0:Int)≤((ds.length-1:Nat):Int):=by omega
 have hcl:clearE m3 [.int .i64 0,.int .i64 0,.int .i64 0] (.slice b (o+(ds.length-1)*3) 1 (cap-(ds.length-1)) gr)=some (.undef,m3.set b (.own (setN (setN bl (o+k*3) F) (o+(ds.length-1)*3) [.int .i64 0,.int .i64 0,.int .i64 0]) ty gr')):=by
  have hw:o+(ds.length-1)*3+3≤bl.length:=by omega
  simp[clearE,writeB,hb3,setN_length,hw]
 simp[sliceE,bdE,evSlice,hle0,h4,hcapg,hn2,ev_clr,hcl]
 have hl3:=(List.getElem?_eq_some_iff.1 hb3).1
 refine ⟨.inr ⟨b,o,cap,gr,_,gr',?_,h1,by rw[List.getElem?_set_self hl3],?_,by rw[List.length_eraseIdx_of_lt hk];omega,by simpa[setN_length] using h5,?_,h7⟩,?_,rfl⟩
 ·rw[List.length_eraseIdx_of_lt hk]
 ·rw[List.length_eraseIdx_of_lt hk,hE]
  unfold readN
  rw[if_pos (by simp only[setN_length];omega)]
  congr 1
  refine List.ext_getElem? fun i=>?_
  rw[List.getElem?_take,List.getElem?_drop]
  by_cases hi:i<(ds.length-1)*3
  ·rw[if_pos hi,setN_get _ _ _ _ (by simp only[setN_length,List.length_cons,List.length_nil];omega),if_neg (by omega),setN_get _ _ _ _ (by omega)]
   by_cases hik:k*3≤i
   ·rw[if_pos (by omega),List.getElem?_append_right (by rw[List.length_take];omega),List.length_take,List.getElem?_drop,hGd]
    congr 1
    omega
   ·rw[if_neg (by omega),List.getElem?_append_left (by rw[List.length_take];omega),List.getElem?_take,if_pos (by omega)]
    exact readN_get h3 (by omega)
  ·rw[if_neg hi,List.getElem?_eq_none]
   rw[List.length_append,List.length_take,List.length_drop]
   omega
 ·exact all_setN (all_setN h6 hF1) rfl
 ·have hS:(AVal.slice b o ds.length cap gr).blk=some b:=rfl
  exact Ch.set (Ch.trans (Ch.set (S:=fun c=>(AVal.slice b o ds.length cap gr).blk=some c) (Ch.of_prefix hm2) (.inl hS) _) (.of_prefix hm3)) (.inl hS) _
end Go.Proofs.YtodhalcpnmddjaaDoor
namespace Go.Proofs.YtodhalcpnmddjaaDoor
open Go Ax
set_option maxRecDepth 100000
theorem store_cell {m:AMem} {b j:Nat} {cs:List AVal} {v:AVal} {ty:TypeId} {g:Option Nat} (hb:m[b]? =some (.own cs ty g)) (hj:j<cs.length) (h1:v.cells= [v]) (h2:v.one=true):storeE m 1 (.ptr b j) v=some (.undef,m.set b (.own (cs.set j v) ty g)):=by
 have:j+1≤cs.length:=hj
 simp[storeE,h1,writeB,hb,h2,setN,this]
theorem dim_pos {d:Dsc} {k:Int} (h:d.dimE k=0): ∃kn:Nat,k=kn∧ ∃hk:kn<d.ds.length,d.at k=d.ds[kn]∧d.bad=false:=by
 obtain ⟨h1,h2,h3,h4⟩:=d.dim_zero h
 refine ⟨k.toNat,by omega,h3,?_,h1⟩
 rw[List.getElem?_eq_getElem h3] at h4
 exact (Option.some.inj h4).symm
theorem sub_place {d:Dsc} (hb:d.bad=false) (he:emptyB d.bnds=false) {kn:Nat} (hk:kn<d.ds.length) {i:Int} (h1:d.ds[kn].l≤i) (h2:i≤d.ds[kn].u):
  IntKind.i64.wrap (i-d.ds[kn].l)=i-d.ds[kn].l∧IntKind.i64.wrap ((i-d.ds[kn].l)*d.ds[kn].s)=(i-d.ds[kn].l)*d.ds[kn].s∧IntKind.i64.wrap (d.b+(i-d.ds[kn].l)*d.ds[kn].s)=d.b+(i-d.ds[kn].l)*d.ds[kn].s:=by
 obtain ⟨r1,r2,r3,r4⟩:=d.rngs hb he
 obtain ⟨x1,x2,x3,x4⟩:=r1 d.ds[kn] (List.getElem_mem hk)
 have hlow:=rngs_low r1
 have hn:=(Dm.n_pos x1).2
 generalize d.ds[kn]=x at*
 have hsm:=mul_small x1 x2 x4
 obtain ⟨j,hj⟩: ∃j:Nat,i-x.l=(j:Int):=⟨(i-x.l).toNat,by omega⟩
 rw[hj]
 have hbt:=mul_between (s:=x.s) (i:=j) (n:=x.n) (by omega)
 generalize (j:Int)*x.s=y at*
 generalize ((x.n:Int)-1)*x.s=z at*
 exact ⟨wrap64 (by omega) (by omega),wrap64 (by omega) (by omega),wrap64 (by omega) (by omega)⟩
set_option maxHeartbeats 4000000 in
theorem k40 (v:AVal) (d:Dsc) (k i:Int) (m:AMem) (hv:DsR m v d) (hl:d.ds.length<2^30):ACalls Tryd.prog 40 [v,.int .i64 k,.int .i64 i] m fun r m'=>m<+:m'∧ ∃w,r= .tuple [w,.int .i64 (subD d k i).2]∧DsR m' w (subD d k i).1:=by
 have hv0:=hv
 obtain ⟨s,rfl,hs,hsb⟩:=hv
 refine w40 ?_
 obtain ⟨h1,h2⟩:=hs.one
 simp[h1,h2]
 have hm:m<+:m++ [ABlk.own [AVal.int .i64 d.b,s] 26 none,ABlk.own [AVal.int .i64 0,AVal.nilslice] 26 none]:=List.prefix_append _ _
 have hb:readB (m++ [ABlk.own [AVal.int .i64 d.b,s] 26 none,ABlk.own [AVal.int .i64 0,AVal.nilslice] 26 none]) m.length=some [.int .i64 d.b,s]:=by simp[readB,ABlk.cells]
 have hx:(m++ [ABlk.own [AVal.int .i64 d.b,s] 26 none,ABlk.own [AVal.int .i64 0,AVal.nilslice] 26 none])[m.length+1]? =some (.own [.int .i64 0,.nilslice] 26 none):=by simp
 have hl1:(m++ [ABlk.own [AVal.int .i64 d.b,s] 26 none,ABlk.own [AVal.int .i64 0,AVal.nilslice] 26 none]).length=m.length+2:=by simp
 generalize m++ [ABlk.own [AVal.int .i64 d.b,s] 26 none,ABlk.own [AVal.int .i64 0,AVal.nilslice] 26 none]=m1 at*
 have hbw:=bxW hb 2
 simp[readN] at hbw
 simp[hbw]
 refine C_of (k65 _ d k m1 (hv0.mono hm) hl) ?_
 rintro _ m2 ⟨hm2,rfl⟩
 have hm02:=hm.trans hm2
 have hb2:=readB_mono hm2 hb
 have hx2:=prefix_get hm2 hx
 have ret0: ∀(m':AMem) (e:Int),m1<+:m'→(d.dimE k≠0∧e=d.dimE k∨d.dimE k=0∧(i<(d.at k).l∨(d.at k).u<i)∧e=20)→m'[m.length+1]? =some (.own [.int .i64 0,.nilslice] 26 none)→
   m<+:m'.set (m.length+1) (.own [.int .i64 0,.nilslice] 26 none)∧subD d k i=(.zero,e):=by
  intro m' e h1 h2 h3
  refine ⟨(Ch.set (Ch.of_prefix (S:=fun b=>b=m.length+1) h1) (.inl rfl) _).pre hm fun b hb h=>by omega,?_⟩
  unfold subD
  rcases h2 with ⟨h,rfl⟩|⟨h,h',rfl⟩
  ·rw[if_pos h]
  ·rw[if_neg (by simp[h]),if_pos h']
 by_cases hk0:d.dimE k=0
 rotate_left
 ·have hlt:=(List.getElem?_eq_some_iff.1 hx2).1
  obtain ⟨g1,g2⟩:=ret0 m2 _ hm2 (.inl ⟨hk0,rfl⟩) hx2
  simp[bneT hk0,fillA]
  rw[store_boxN (cs:= [.int .i64 0,.nilslice]) (n:=2) hx2 rfl rfl rfl]
  simp[loadE,readB,hlt,ABlk.cells,readN,g1,g2]
  exact DsR.zero _
 obtain ⟨kn,rfl,hkn,hat,hbad⟩:=dim_pos hk0
 simp[hk0,bx hb2]
 obtain ⟨bk,ok,p1,_,p3⟩:=(hs.mono hm02).at hkn
 rw[hat] at ret0
 have hsp:=fun he h1 h2=>sub_place hbad he hkn (i:=i) h1 h2
 have hsub: ¬(i<d.ds[kn].l∨d.ds[kn].u<i)→subD d kn i=(⟨if emptyB d.bnds=true then 0 else d.b+(i-d.ds[kn].l)*d.ds[kn].s,d.ds.eraseIdx kn⟩,0):=fun h=>by
  unfold subD
  rw[if_neg (by simp[hk0]),hat,if_neg h]
  rfl
 generalize d.ds[kn]=x at*
 simp only[dmC] at p3
 simp[p1,p3]
 rw[store_new _ _ [AVal.int .i64 x.l,AVal.int .i64 x.u,AVal.int .i64 x.s] _ _ 3 rfl rfl rfl]
 have hb9:=readB_new m2 [AVal.int .i64 x.l,AVal.int .i64 x.u,AVal.int .i64 x.s] 92 none
 have hm3:m2<+:m2++ [ABlk.own [AVal.int .i64 x.l,AVal.int .i64 x.u,AVal.int .i64 x.s] 92 none]:=List.prefix_append _ _
 generalize m2++ [ABlk.own [AVal.int .i64 x.l,AVal.int .i64 x.u,AVal.int .i64 x.s] 92 none]=m3 at*
 generalize m2.length=b9 at*
 have hb9w:=bxW hb9 2
 simp[readN] at hb9w
 simp[hb9w]
 refine C_of (k61 x.l x.u i m3) ?_
 rintro _ m4 ⟨rfl,hm4⟩
 have hm24:=hm3.trans hm4
 have hm04:=hm02.trans hm24
 have hx4:=prefix_get hm24 hx2
 have hb4:=readB_mono hm24 hb2
 have hb94:=readB_mono hm4 hb9
 by_cases hin:i<x.l∨x.u<i
 ·have hlt:=(List.getElem?_eq_some_iff.1 hx4).1
  obtain ⟨g1,g2⟩:=ret0 m4 20 (hm2.trans hm24) (.inr ⟨hk0,hin,rfl⟩) hx4
  have hf:(decide (x.l≤i)&&decide (i≤x.u))=false:=by
   rcases hin with h|h
   ·rw[decide_eq_false (by omega),Bool.false_and]
   ·rw[decide_eq_false (p:=i≤x.u) (by omega),Bool.and_false]
  rw[hf]
  simp[fillA]
  rw[store_boxN (cs:= [.int .i64 0,.nilslice]) (n:=2) hx4 rfl rfl rfl]
  simp[loadE,readB,hlt,ABlk.cells,readN,g1,g2]
  exact DsR.zero _
 have hf:(decide (x.l≤i)&&decide (i≤x.u))=true:=by rw[decide_eq_true (by omega),decide_eq_true (p:=i≤x.u) (by omega)];rfl
 rw[hf]
 have hbw:=bxW hb4 2
 simp[readN] at hbw
 simp[hbw]
 refine C_of (k67 s d.b d.ds m4 (hs.mono hm04) hl) ?_
 rintro _ m5 ⟨hm5,t,rfl,hO⟩
 have hwk:IntKind.i64.wrap ((kn:Int)+1)=(kn:Int)+1:=wrap64 (by omega) (by omega)
 simp[hwk]
 refine C_of (k66 t _ d.ds kn m4.length m5 hO hkn hl rfl) ?_
 rintro t' m6 ⟨hO6,hc6,hb6⟩
 have hm46:m4<+:m6:=hc6.pre hm5 fun b hb h=>by have:=(hO.blk_lo h).1;omega
 have hm06:=hm04.trans hm46
 obtain ⟨o1,o2⟩:=hO6.sl.one
 simp[o2,o1,fillA,setN]
 rw[store_new _ _ [AVal.int .i64 0,t'] _ _ 2 rfl rfl (by simp[o1])]
 have hm7:m6<+:m6++ [ABlk.own [AVal.int .i64 0,t'] 26 none]:=List.prefix_append _ _
 have hx10:(m6++ [ABlk.own [AVal.int .i64 0,t'] 26 none])[m6.length]? =some (.own [.int .i64 0,t'] 26 none):=by simp
 have hl4:=hm04.length_le
 have hl46:=hm46.length_le
 have hlx:=(List.getElem?_eq_some_iff.1 hx4).1
 generalize m6++ [ABlk.own [AVal.int .i64 0,t'] 26 none]=m7 at*
 generalize hb10:m6.length=b10 at*
 have hm47:=hm46.trans hm7
 have hbw:=bxW (readB_mono hm47 hb4) 2
 simp[readN] at hbw
 simp[hbw]
 refine C_of (k23 _ d m7 (hv0.mono (hm04.trans hm47)) hl) ?_
 rintro _ m8 ⟨hm8,rfl⟩
 have hm48:=hm47.trans hm8
 have hx10':=prefix_get hm8 hx10
 have hx8:=prefix_get hm48 hx4
 have hb8:=readB_mono hm48 hb4
 have hb98:=readB_mono hm48 hb94
 have hO8:=(hO6.mono hm7).mono hm8
 have hbl: ∀b,t'.blk=some b→m.length+1<b∧b<b10:=fun b hb=>by have:=hO6.blk_lo hb;omega
 have hlt10:=(List.getElem?_eq_some_iff.1 hx10').1
 have fin: ∀base:Int,(subD d kn i=(⟨base,d.ds.eraseIdx kn⟩,0))→ ∀m9:AMem,m9[b10]? =some (.own [.int .i64 base,t'] 26 none)→Ch (fun b=>b=b10) m8 m9→
   m9[m.length+1]? =some (.own [.int .i64 0,.nilslice] 26 none)∧m<+:m9.set (m.length+1) (.own [.int .i64 base,t'] 26 none)∧DsR (m9.set (m.length+1) (.own [.int .i64 base,t'] 26 none)) (.agg [.int .i64 base,t']) (subD d kn i).1:=by
  intro base hs9 m9 hx9 hc9
  have q1:=hc9.keep _ _ hx8 (by omega)
  have q2:Ch (fun b=>b=b10∨b=m.length+1) m8 (m9.set (m.length+1) (.own [.int .i64 base,t'] 26 none)):=(hc9.weaken fun b _ h=> .inl h).set (.inl (.inr rfl)) _
  refine ⟨q1,q2.pre (hm04.trans hm48) fun b hb h=>by omega,?_⟩
  rw[hs9]
  exact DsR.own (hO8.ch q2 fun b hb h=>by have:=hbl b hb;omega)
 by_cases hc:0<d.count
 ·have he:emptyB d.bnds=false:=by
   unfold Dsc.count at hc
   rw[if_neg (by simp[hbad])] at hc
   split at hc
   ·omega
   ·rename_i h;simpa using h
  obtain ⟨w1,w2,w3⟩:=hsp he (by omega) (by omega)
  have hs9:=hsub hin
  rw[if_neg (by simp[he])] at hs9
  simp[hc,bx hb8,bx hb98,w1,w2,w3]
  rw[store_cell (cs:= [.int .i64 0,t']) hx10' (by simp) rfl rfl,List.set_cons_zero]
  obtain ⟨q1,q2,q3⟩:=fin _ hs9 (m8.set b10 (.own [.int .i64 (d.b+(i-x.l)*x.s),t'] 26 none)) (by rw[List.getElem?_set_self hlt10]) (Ch.setS _ rfl)
  have q4:(m8.set b10 (.own [.int .i64 (d.b+(i-x.l)*x.s),t'] 26 none))[b10]? =some (.own [.int .i64 (d.b+(i-x.l)*x.s),t'] 26 none):=by rw[List.getElem?_set_self hlt10]
  have hlt9:=(List.getElem?_eq_some_iff.1 q1).1
  generalize m8.set b10 (.own [.int .i64 (d.b+(i-x.l)*x.s),t'] 26 none)=m9 at*
  simp[bxW (box_read q4),readN]
  rw[store_boxN (cs:= [.int .i64 (d.b+(i-x.l)*x.s),t']) (n:=2) q1 rfl rfl (by simp[o1])]
  rw[hs9] at q3
  simp[loadE,readB,hlt9,ABlk.cells,readN,q2,hs9]
  exact q3
 ·have he:emptyB d.bnds=true:=by
   unfold Dsc.count at hc
   rw[if_neg (by simp[hbad])] at hc
   by_cases he:emptyB d.bnds=true
   ·exact he
   ·have he':emptyB d.bnds=false:=by simpa using he
    have:=prodN_pos he'
    rw[if_neg he] at hc
    omega
  have hs9:=hsub hin
  rw[if_pos he] at hs9
  have hc0:d.count=0:=by omega
  obtain ⟨q1,q2,q3⟩:=fin _ hs9 m8 hx10' (.refl _ _)
  have hlt9:=(List.getElem?_eq_some_iff.1 q1).1
  simp[hc0,bxW (box_read hx10'),readN]
  rw[store_boxN (cs:= [.int .i64 0,t']) (n:=2) q1 rfl rfl (by simp[o1])]
  rw[hs9] at q3
  simp[loadE,readB,hlt9,ABlk.cells,readN,q2,hs9]
  exact q3
end Go.Proofs.YtodhalcpnmddjaaDoor
namespace Go.Proofs.YtodhalcpnmddjaaDoor
open Go Ax
set_option maxRecDepth 100000
def inI (ds:List Dm) (ss:List Int) (i:Nat):Bool:=match ds[i]?,ss[i]? with
 |some d,some x=>decide (d.l≤x)&&decide (x≤d.u)
 |_,_=>true
def outI (ds:List Dm) (ss:List Int):Option Nat:=(List.range ds.length).find? fun i=> !inI ds ss i
def placeD (d:Dsc) (ss:List Int):Int×Int×Int:=
 if d.bad=true then (0,0,2) else if ss.length≠d.ds.length then (0,0,14) else match outI d.ds ss with
  |some i=>(0,i,20)
  |none=>(d.b+plcO d.ds ss,0,0)
theorem find_range {p:Nat→Bool} {n i:Nat} (hi:i<n) (h: ∀j,j<i→p j=false) (hp:p i=true):(List.range n).find? p=some i:=by
 obtain ⟨c,rfl⟩: ∃c,n=i+(c+1):=⟨n-i-1,by omega⟩
 rw[List.range_add,List.find?_append,List.find?_eq_none.2 (fun x hx=>by rw[h x (List.mem_range.1 hx)];simp),List.range_succ_eq_map]
 simp[hp]
theorem find_none {p:Nat→Bool} {n:Nat} (h: ∀j,j<n→p j=false):(List.range n).find? p=none:=
 List.find?_eq_none.2 fun x hx=>by rw[h x (List.mem_range.1 hx)];simp
theorem plcO_snoc (d:Dm) (x:Int): ∀(ds:List Dm) (ss:List Int),ss.length=ds.length→plcO (ds++ [d]) (ss++ [x])=plcO ds ss+(x-d.l)*d.s
 | [],[],_=>by simp[plcO]
 |e::ds,y::ss,h=>by
  simp only[List.cons_append,plcO,plcO_snoc d x ds ss (by simpa using h)]
  omega
 | [],_::_,h=>by simp at h
 |_::_,[],h=>by simp at h
set_option maxHeartbeats 4000000 in
theorem k28 (v t:AVal) (d:Dsc) (ss:List Int) (m:AMem) (hv:DsR m v d) (ht:RInts m t ss) (hl:d.ds.length<2^30) (hls:ss.length<2^62):ACalls Tryd.prog 28 [v,t] m fun r m'=>m<+:m'∧r= .tuple [.int .i64 (placeD d ss).1,.int .i64 (placeD d ss).2.1,.int .i64 (placeD d ss).2.2]:=by
 have hv0:=hv
 obtain ⟨s,rfl,hs,hsb⟩:=hv
 refine w28 ?_
 obtain ⟨h1,h2⟩:=hs.one
 simp[h1,h2]
 have hb:=readB_new m [AVal.int .i64 d.b,s] 26 none
 have hm:m<+:m++ [ABlk.own [AVal.int .i64 d.b,s] 26 none]:=List.prefix_append _ _
 generalize m++ [ABlk.own [AVal.int .i64 d.b,s] 26 none]=m1 at*
 generalize m.length=b0 at*
 have hbw:=bxW hb 2
 simp[readN] at hbw
 simp[hbw]
 refine C_of (k58 _ d m1 (hv0.mono hm) hl) ?_
 rintro _ m2 ⟨hm2,rfl⟩
 have hm02:=hm.trans hm2
 have hb2:=readB_mono hm2 hb
 by_cases hd:d.bad=true
 ·simp[hd,placeD,hm02]
 have hd:d.bad=false:=by simpa using hd
 simp[hd,bx hb2,hs.len,ht.len]
 by_cases hlen:ss.length=d.ds.length
 rotate_left
 ·have hlen': ¬((ss.length:Int)=(d.ds.length:Int)):=by omega
  simp[bneT hlen',placeD,hd,hlen,hm02]
 have hlen':(ss.length:Int)=(d.ds.length:Int):=by omega
 simp[hlen',bx hb2,hs.len]
 have hp:placeD d ss=match outI d.ds ss with|some i=>(0,(i:Int),20)|none=>(d.b+plcO d.ds ss,0,0):=by
  unfold placeD
  rw[if_neg (by simp[hd]),if_neg (by simp[hlen])]
 obtain ⟨I,hI⟩: ∃I:Nat→AFrame→AMem→Prop,∀q f m',I q f m'↔(∃(i:Nat),i+q=d.ds.length∧f=h28_0 t (.ptr b0 0) s (.int .i64 d.ds.length) (.int .i64 i)∧m2<+:m'∧ ∀j,j<i→inI d.ds ss j=true):=⟨_,fun _ _ _=>Iff.rfl⟩
 refine W_loop I d.ds.length ((hI _ _ _).2 ⟨0,by simp,by simp,List.prefix_refl _,fun j hj=>by omega⟩) ?_
 rintro q f m3 hIn
 obtain ⟨i,hq,rfl,hm3,hin⟩:=(hI _ _ _).1 hIn
 clear hIn
 have hm03:=hm02.trans hm3
 simp
 refine bbind_dec (fun hil=>?_) fun hil=>?_
 ·have hil:i<d.ds.length:=by omega
  have his:i<ss.length:=by omega
  have hw:IntKind.i64.wrap ((i:Int)+1)=(i:Int)+1:=wrap64 (by omega) (by omega)
  obtain ⟨bk,ok,p1,_,p3⟩:=(hs.mono hm03).at hil
  have hiI:inI d.ds ss i=(decide (d.ds[i].l≤ss[i])&&decide (ss[i]≤d.ds[i].u)):=by
   unfold inI
   rw[List.getElem?_eq_getElem hil,List.getElem?_eq_getElem his]
  generalize d.ds[i]=x at*
  simp only[dmC] at p3
  simp[p1,p3]
  rw[store_new _ _ [AVal.int .i64 x.l,AVal.int .i64 x.u,AVal.int .i64 x.s] _ _ 3 rfl rfl rfl]
  have hb9:=readB_new m3 [AVal.int .i64 x.l,AVal.int .i64 x.u,AVal.int .i64 x.s] 92 none
  have hm4:m3<+:m3++ [ABlk.own [AVal.int .i64 x.l,AVal.int .i64 x.u,AVal.int .i64 x.s] 92 none]:=List.prefix_append _ _
  generalize m3++ [ABlk.own [AVal.int .i64 x.l,AVal.int .i64 x.u,AVal.int .i64 x.s] 92 none]=m4 at*
  generalize m3.length=b9 at*
  have hb9w:=bxW hb9 2
  simp[readN] at hb9w
  obtain ⟨bt,ot,r1,r2⟩:=(ht.mono (hm03.trans hm4)).at his
  simp
  refine W_draw (fun _ _ _=>True) (by simp[maxDst]) ?_
  refine D_pc 0 6 [6,7] ?_
  simp[hb9w,r1,r2]
  intro fs _
  refine D_X rfl rfl fun m5 hm5 _=>?_
  simp
  refine C_of (k61 x.l x.u ss[i] m5) ?_
  rintro _ m6 ⟨rfl,hm6⟩
  rw[←hiI]
  refine ⟨by simp[lateOf],?_⟩
  refine D_P rfl trivial ?_
  simp
  refine D_end fun m7 hm7 _=>?_
  have hm37:=hm4.trans (hm5.trans (hm6.trans hm7))
  by_cases hok:inI d.ds ss i=true
  ·simp[hok,hw]
   refine ⟨q-1,by omega,(hI _ _ _).2 ⟨i+1,by omega,by simp,hm3.trans hm37,fun j hj=>?_⟩⟩
   by_cases h:j=i
   ·subst h;exact hok
   ·exact hin j (by omega)
  ·have hok:inI d.ds ss i=false:=by simpa using hok
   have ho:outI d.ds ss=some i:=find_range hil (fun j hj=>by simp[hin j hj]) (by simp[hok])
   simp[hok,hp,ho,hm03.trans hm37]
 have:i=d.ds.length:=by omega
 subst this
 have ho:outI d.ds ss=none:=find_none fun j hj=>by simp[hin j hj]
 rw[ho] at hp
 simp only at hp
 have hb3:=readB_mono hm3 hb2
 have hne:d.ds≠ []→emptyB d.bnds=false:=fun _=>by
  unfold emptyB Dsc.bnds bndsD
  rw[List.any_map,List.any_eq_false]
  intro x hx
  obtain ⟨j,hj,rfl⟩:=List.getElem_of_mem hx
  have:=hin j hj
  unfold inI at this
  rw[List.getElem?_eq_getElem hj,List.getElem?_eq_getElem (by omega)] at this
  simp only[Bool.and_eq_true,decide_eq_true_eq] at this
  simp[lenB,lenI]
  omega
 have hrg:rngs d.ds∧(d.ds≠ []→0≤d.b+lowS d.ds∧d.b+highS d.ds<2147483648)∧d.ds.length≤3:=by
  by_cases h0:d.ds= []
  ·rw[h0];exact ⟨fun x hx=>by simp at hx,fun h=>absurd rfl h,by simp⟩
  ·obtain ⟨r1,r2,r3,r4⟩:=d.rngs hd (hne h0)
   exact ⟨r1,fun _=>⟨r3,r4⟩,r2⟩
 obtain ⟨r1,r2,r3⟩:=hrg
 simp[bx hb3,hs.len]
 obtain ⟨I,hI⟩: ∃I:Nat→AFrame→AMem→Prop,∀q f m',I q f m'↔(∃(i:Nat),i+q=d.ds.length∧f=h28_1 t (.int .i64 (d.b+plcO (d.ds.take i) (ss.take i))) s (.int .i64 d.ds.length) (.int .i64 i)∧m3<+:m'∧ -72057594037927936*(i:Int)≤plcO (d.ds.take i) (ss.take i)∧plcO (d.ds.take i) (ss.take i)≤72057594037927936*(i:Int)):=⟨_,fun _ _ _=>Iff.rfl⟩
 refine W_loop I d.ds.length ((hI _ _ _).2 ⟨0,by simp,by simp[plcO],List.prefix_refl _,by simp[plcO],by simp[plcO]⟩) ?_
 rintro q f m4 hIn
 obtain ⟨i,hq,rfl,hm4,e1,e2⟩:=(hI _ _ _).1 hIn
 clear hIn
 have hm04:=hm03.trans hm4
 simp
 refine bbind_dec (fun hil=>?_) fun hil=>?_
 rotate_left
 ·have:i=d.ds.length:=by omega
  subst this
  rw[List.take_length,←hlen,List.take_length]
  simp[hp,hm04]
 have hil:i<d.ds.length:=by omega
 have his:i<ss.length:=by omega
 have hw:IntKind.i64.wrap ((i:Int)+1)=(i:Int)+1:=wrap64 (by omega) (by omega)
 obtain ⟨bk,ok,p1,_,p3⟩:=(hs.mono hm04).at hil
 obtain ⟨x1,x2,x3,x4⟩:=r1 d.ds[i] (List.getElem_mem hil)
 have hlow:=rngs_low r1
 obtain ⟨r4,r5⟩:=r2 (fun h=>by rw[h] at hil;simp at hil)
 have hiI:=hin i hil
 have hsn:=plcO_snoc d.ds[i] ss[i] (d.ds.take i) (ss.take i) (by simp;omega)
 rw[←take_snoc hil,←take_snoc his] at hsn
 unfold inI at hiI
 rw[List.getElem?_eq_getElem hil,List.getElem?_eq_getElem his] at hiI
 simp only[Bool.and_eq_true,decide_eq_true_eq] at hiI
 obtain ⟨bt,ot,g1,g2⟩:=(ht.mono hm04).at his
 have g2': ∀m',m4<+:m'→loadE m' 1 false (.ptr bt ot)=some (.int .i64 ss[i]):=fun m' h=>by
  obtain ⟨bt',ot',g1',g2'⟩:=(ht.mono (hm04.trans h)).at his
  obtain ⟨rfl,rfl⟩:bt'=bt∧ot'=ot:=by have:=(g1' .i64).symm.trans (g1 .i64);simpa using this
  exact g2'
 generalize d.ds[i]=x at*
 generalize ss[i]=y at*
 have hn:=(Dm.n_pos x1).2
 obtain ⟨j,hj⟩: ∃j:Nat,y-x.l=(j:Int):=⟨(y-x.l).toNat,by omega⟩
 have hbt:=mul_between (s:=x.s) (i:=j) (n:=x.n) (by omega)
 have hsm:=mul_small x1 x2 x4
 rw[hj] at hsn
 simp only[dmC] at p3
 simp[p1,p3]
 rw[store_new _ _ [AVal.int .i64 x.l,AVal.int .i64 x.u,AVal.int .i64 x.s] _ _ 3 rfl rfl rfl]
 have hb9:=readB_new m4 [AVal.int .i64 x.l,AVal.int .i64 x.u,AVal.int .i64 x.s] 92 none
 have hm5:m4<+:m4++ [ABlk.own [AVal.int .i64 x.l,AVal.int .i64 x.u,AVal.int .i64 x.s] 92 none]:=List.prefix_append _ _
 generalize m4++ [ABlk.own [AVal.int .i64 x.l,AVal.int .i64 x.u,AVal.int .i64 x.s] 92 none]=m5 at*
 generalize m4.length=b9 at*
 have hw1:IntKind.i64.wrap (y-x.l)=(j:Int):=by rw[hj];exact wrap64 (by omega) (by omega)
 simp
 refine W_drawPR (by simp[maxDst]) rfl rfl ?_
 have hw2:IntKind.i64.wrap ((j:Int)*x.s)=(j:Int)*x.s:=by
  generalize (j:Int)*x.s=z at*
  generalize ((x.n:Int)-1)*x.s=y at*
  exact wrap64 (by omega) (by omega)
 have hw3:IntKind.i64.wrap (d.b+plcO (d.ds.take i) (ss.take i)+(j:Int)*x.s)=d.b+plcO (d.ds.take (i+1)) (ss.take (i+1)):=by
  rw[hsn]
  generalize (j:Int)*x.s=z at*
  generalize ((x.n:Int)-1)*x.s=y at*
  rw[wrap64 (by omega) (by omega)]
  omega
 simp[g1,g2' _ hm5,bx hb9,hw1,hw2,hw3]
 intro m6 hm6
 simp[hw]
 refine ⟨q-1,by omega,(hI _ _ _).2 ⟨i+1,by omega,by simp,hm4.trans (hm5.trans hm6),?_,?_⟩⟩
 ·rw[hsn]
  generalize (j:Int)*x.s=z at*
  generalize ((x.n:Int)-1)*x.s=y at*
  omega
 ·rw[hsn]
  generalize (j:Int)*x.s=z at*
  generalize ((x.n:Int)-1)*x.s=y at*
  omega
end Go.Proofs.YtodhalcpnmddjaaDoor
namespace Go.Proofs.YtodhalcpnmddjaaDoor
open Go Ax
set_option maxRecDepth 100000
theorem near_k374 {b:Int×Int} (h:(nearI b.1&&nearI b.2)=true):b.2<b.1∨(-(2^61)≤b.1∧b.2≤2^61):=by
 simp only[nearI,Bool.and_eq_true,decide_eq_true_eq] at h
 omega
def prodI (bs:List (Int×Int)):Int:=match cntI bs with
 |some n=>n
 |none=> -1
set_option maxHeartbeats 4000000 in
theorem k60 (s:AVal) (bs:List (Int×Int)) (m:AMem) (hs:SlF 2 bdC m s bs) (hn:bs.length<2^62) (hnear: ∀x∈bs,(nearI x.1&&nearI x.2)=true):
  ACalls Tryd.prog 60 [s] m fun v m'=>m<+:m'∧v= .int .i64 (prodI bs):=by
 refine w60 ?_
 simp
 obtain ⟨I,hI⟩: ∃I:Nat→AFrame→AMem→Prop,∀q f m',I q f m'↔(∃(i:Nat),i+q=bs.length∧f=h60_0 s (.int .i64 i)∧m<+:m'∧emptyB (bs.take i)=false):=⟨_,fun _ _ _=>Iff.rfl⟩
 refine W_loop I bs.length ((hI _ _ _).2 ⟨0,by simp,by simp,List.prefix_refl _,rfl⟩) ?_
 rintro q f m2 hIn
 obtain ⟨i,hq,rfl,hm2,he⟩:=(hI _ _ _).1 hIn
 clear hIn
 simp[hs.len]
 refine bbind_dec (fun hil=>?_) fun hil=>?_
 ·have hil:i<bs.length:=by omega
  have hw:IntKind.i64.wrap ((i:Int)+1)=(i:Int)+1:=wrap64 (by omega) (by omega)
  obtain ⟨b1,o1,p1,p2,_⟩:=(hs.mono hm2).at hil
  have hx:=hnear bs[i] (List.getElem_mem hil)
  have htk:emptyB (bs.take (i+1))=(emptyB (bs.take i)||lenB bs[i]==0):=any_take_succ hil _
  have hall:emptyB (bs.take (i+1))=true→emptyB bs=true:=any_take_le
  obtain ⟨hl1,hl2⟩:=near_len hx
  generalize bs[i]=x at*
  have p20:=p2 0 (by omega)
  have p21:=p2 1 (by omega)
  simp[bdC] at p20 p21
  simp
  refine W_draw (fun _ _ _=>True) (by simp[maxDst]) ?_
  refine D_pc 0 10 [10,11] ?_
  simp[p1,p20,p21]
  intro fs _
  refine D_X rfl rfl fun m3 hm3 _=>?_
  simp
  refine C_of (k49 x.1 x.2 m3 (near_k374 hx)) ?_
  rintro _ _ ⟨rfl,rfl⟩
  rw[hl1]
  refine ⟨by simp[lateOf],?_⟩
  refine D_P rfl trivial ?_
  simp
  refine D_end fun m4 hm4 _=>?_
  have hm24:=hm3.trans hm4
  by_cases h0:lenB x=0
  ·rw[h0,he] at htk
   have hE:=hall htk
   have hp:prodI bs=0:=by unfold prodI cntI;rw[if_pos hE];rfl
   simp[h0,hp,hm2.trans hm24]
  ·have h0': ¬((lenB x:Int)=0):=by omega
   have h0'':(lenB x==0)=false:=by simpa using h0
   rw[he,h0''] at htk
   simp[beqF h0',hw]
   exact ⟨q-1,by omega,(hI _ _ _).2 ⟨i+1,by omega,by simp,hm2.trans hm24,htk⟩⟩
 have:i=bs.length:=by omega
 subst this
 rw[List.take_length] at he
 simp
 obtain ⟨I,hI⟩: ∃I:Nat→AFrame→AMem→Prop,∀q f m',I q f m'↔(∃(i:Nat),i+q=bs.length∧f=h60_1 s (.int .i64 (prodN (bs.take i):Nat)) (.int .i64 i)∧m<+:m'∧prodN (bs.take i)≤65536):=⟨_,fun _ _ _=>Iff.rfl⟩
 refine W_loop I bs.length ((hI _ _ _).2 ⟨0,by simp,by simp[prodN],hm2,by simp[prodN]⟩) ?_
 clear hm2
 rintro q f m2 hIn
 obtain ⟨i,hq,rfl,hm2,hp⟩:=(hI _ _ _).1 hIn
 clear hIn
 simp[hs.len]
 refine bbind_dec (fun hil=>?_) fun hil=>?_
 ·have hil:i<bs.length:=by omega
  have hw:IntKind.i64.wrap ((i:Int)+1)=(i:Int)+1:=wrap64 (by omega) (by omega)
  obtain ⟨b1,o1,p1,p2,_⟩:=(hs.mono hm2).at hil
  have hx:=hnear bs[i] (List.getElem_mem hil)
  have htk:=prodN_take hil
  have hle:=lenB_le he hil
  have hple:=prodN_le he (i:=i+1) (by omega)
  obtain ⟨hl1,hl2⟩:=near_len hx
  generalize bs[i]=x at*
  have p20:=p2 0 (by omega)
  have p21:=p2 1 (by omega)
  simp[bdC] at p20 p21
  simp
  refine W_draw (fun _ _ _=>True) (by simp[maxDst]) ?_
  refine D_pc 0 10 [10,11] ?_
  simp[p1,p20,p21]
  intro fs _
  refine D_X rfl rfl fun m3 hm3 _=>?_
  simp
  refine C_of (k49 x.1 x.2 m3 (near_k374 hx)) ?_
  rintro _ _ ⟨rfl,rfl⟩
  rw[hl1]
  refine ⟨by simp[lateOf],?_⟩
  refine D_P rfl trivial ?_
  simp
  refine D_end fun m4 hm4 _=>?_
  have hm24:=hm2.trans (hm3.trans hm4)
  have hno:65536<prodN bs→prodI bs= -1:=fun h=>by
   unfold prodI cntI
   rw[if_neg (by simp[he]),if_neg (by omega)]
  by_cases h0:65536<lenB x
  ·have h0':(65536:Int)<(lenB x:Int):=by omega
   simp[h0',hno (by omega),hm24]
  have h0': ¬(65536:Int)<(lenB x:Int):=by omega
  have hmul:(prodN (bs.take i):Int)*(lenB x:Int)=(prodN (bs.take (i+1)):Int):=by rw[htk,Int.natCast_mul]
  have hb:prodN (bs.take (i+1))≤65536*65536:=by rw[htk];exact Nat.mul_le_mul hp (by omega)
  have hw2:IntKind.i64.wrap ((prodN (bs.take i):Int)*(lenB x:Int))=(prodN (bs.take (i+1)):Int):=by rw[hmul];exact wrap64 (by omega) (by omega)
  by_cases h1:65536<prodN (bs.take (i+1))
  ·have h1':(65536:Int)<(prodN (bs.take (i+1)):Int):=by omega
   simp[h0',hw2,h1',hno (by omega),hm24]
  ·have h1': ¬(65536:Int)<(prodN (bs.take (i+1)):Int):=by omega
   simp[h0',hw2,h1',hw]
   exact ⟨q-1,by omega,(hI _ _ _).2 ⟨i+1,by omega,by simp,hm24,by omega⟩⟩
 ·have:i=bs.length:=by omega
  subst this
  rw[List.take_length] at hp ⊢
  have hc:prodI bs=prodN bs:=by
   unfold prodI cntI
   rw[if_neg (by simp[he]),if_pos hp]
  simp[hc,hm2]
set_option maxHeartbeats 4000000 in
theorem k48 (s:AVal) (bs:List (Int×Int)) (m:AMem) (hs:SlF 2 bdC m s bs) (hn:bs.length<2^62):
  ACalls Tryd.prog 48 [s] m fun v m'=>m<+:m'∧v= .int .i64 (checkB bs):=by
 refine w48 ?_
 simp[hs.len]
 refine bbind_dec (fun h=>?_) fun h=>?_
 ·have:3<bs.length:=by omega
  simp[checkB,this]
 have hlen: ¬3<bs.length:=by omega
 simp
 obtain ⟨I,hI⟩: ∃I:Nat→AFrame→AMem→Prop,∀q f m',I q f m'↔(∃(i:Nat),i+q=bs.length∧f=h48_0 s (.int .i64 i)∧m<+:m'∧((bs.take i).any fun b=> !(nearI b.1&&nearI b.2))=false):=⟨_,fun _ _ _=>Iff.rfl⟩
 refine W_loop I bs.length ((hI _ _ _).2 ⟨0,by simp,by simp,List.prefix_refl _,rfl⟩) ?_
 rintro q f m2 hIn
 obtain ⟨i,hq,rfl,hm2,he⟩:=(hI _ _ _).1 hIn
 clear hIn
 simp[hs.len]
 refine bbind_dec (fun hil=>?_) fun hil=>?_
 ·have hil:i<bs.length:=by omega
  have hw:IntKind.i64.wrap ((i:Int)+1)=(i:Int)+1:=wrap64 (by omega) (by omega)
  obtain ⟨b1,o1,p1,p2,_⟩:=(hs.mono hm2).at hil
  have htk:=any_take_succ hil fun b:Int×Int=> !(nearI b.1&&nearI b.2)
  have hall:((bs.take (i+1)).any fun b:Int×Int=> !(nearI b.1&&nearI b.2))=true→(bs.any fun b:Int×Int=> !(nearI b.1&&nearI b.2))=true:=any_take_le
  rw[he,Bool.false_or] at htk
  generalize bs[i]=x at*
  have p20:=p2 0 (by omega)
  have p21:=p2 1 (by omega)
  simp[bdC] at p20 p21
  simp[p1,p20]
  refine C_of (k73 x.1 m2) ?_
  rintro _ m2 ⟨rfl,rfl⟩
  have bad:((nearI x.1&&nearI x.2)=false)→checkB bs=20:=fun hb=>by
   rw[hb] at htk
   unfold checkB
   rw[if_neg hlen,if_pos (hall htk)]
  cases h1:nearI x.1
  ·simp[bad (by simp[h1]),hm2]
  ·simp[p1,p21]
   refine C_of (k73 x.2 m2) ?_
   rintro _ m2 ⟨rfl,rfl⟩
   cases h2:nearI x.2
   ·simp[bad (by simp[h2]),hm2]
   ·simp[hw]
    exact ⟨q-1,by omega,(hI _ _ _).2 ⟨i+1,by omega,by simp,hm2,by rw[htk];simp[h1,h2]⟩⟩
 have:i=bs.length:=by omega
 subst this
 rw[List.take_length] at he
 have hnear: ∀x∈bs,(nearI x.1&&nearI x.2)=true:=by
  intro x hx
  have:=List.any_eq_false.1 he x hx
  simpa using this
 simp
 refine C_of (k60 s bs m2 (hs.mono hm2) hn hnear) ?_
 rintro _ m3 ⟨hm3,rfl⟩
 have hc:checkB bs=if cntI bs=none then 3 else 0:=by
  unfold checkB
  rw[if_neg hlen,if_neg (by rw[he];simp)]
 cases h3:cntI bs with
 |none=>simp[hc,h3,prodI,hm2.trans hm3]
 |some n=>
  have hneg: ¬((n:Int)<0):=by omega
  simp[hc,h3,prodI,hm2.trans hm3,hneg]
end Go.Proofs.YtodhalcpnmddjaaDoor
namespace Go.Proofs
open Go.Shelf
def Tryd.lays156_ren:Go.Shelf.Ren:=⟨fun|156=>51|165=>77|166=>78|169=>79|240=>90|241=>91|276=>98|277=>99|n=>n,fun|31=>93|9=>9|3=>3|4=>4|0=>0|20=>20|72=>122|76=>126|70=>119|37=>120|75=>125|127=>141|164=>149|5=>5|80=>128|n=>n,fun|n=>n⟩
theorem Tryd.lays156:Go.Proofs.Lays.n156 Tryd.prog Tryd.lays156_ren:={
 mixed:=by kernel_rfl
 f156:=Tryd.func51.trans (congrArg some (by kernel_rfl))
 f165:=Tryd.func77.trans (congrArg some (by kernel_rfl))
 f166:=Tryd.func78.trans (congrArg some (by kernel_rfl))
 f169:=Tryd.func79.trans (congrArg some (by kernel_rfl))
 f240:=Tryd.func90.trans (congrArg some (by kernel_rfl))
 f241:=Tryd.func91.trans (congrArg some (by kernel_rfl))
 f276:=Tryd.func98.trans (congrArg some (by kernel_rfl))
 f277:=Tryd.func99.trans (congrArg some (by kernel_rfl))
 t0:=Tryd.underlying0
 a0:=Tryd.isAgg0
 z0:=Tryd.sizeOf0
 v0:=Tryd.zeroValue0
 t3:=Tryd.underlying3
 a3:=Tryd.isAgg3
 z3:=Tryd.sizeOf3
 v3:=Tryd.zeroValue3
 t4:=Tryd.underlying4
 a4:=Tryd.isAgg4
 z4:=Tryd.sizeOf4
 v4:=Tryd.zeroValue4
 t9:=Tryd.underlying9
 a9:=Tryd.isAgg9
 z9:=Tryd.sizeOf9
 v9:=Tryd.zeroValue9
 t20:=Tryd.underlying20
 a20:=Tryd.isAgg20
 z20:=Tryd.sizeOf20
 v20:=Tryd.zeroValue20
 t31:=Tryd.underlying93
 a31:=Tryd.isAgg93
 z31:=Tryd.sizeOf93
 v31:=Tryd.zeroValue93
 t37:=Tryd.underlying120
 a37:=Tryd.isAgg120
 z37:=Tryd.sizeOf120
 v37:=Tryd.zeroValue120
 t70:=Tryd.underlying119
 a70:=Tryd.isAgg119
 z70:=Tryd.sizeOf119
 v70:=Tryd.zeroValue119
 t72:=Tryd.underlying122
 a72:=Tryd.isAgg122
 z72:=Tryd.sizeOf122
 v72:=Tryd.zeroValue122
 t75:=Tryd.underlying125
 a75:=Tryd.isAgg125
 z75:=Tryd.sizeOf125
 v75:=Tryd.zeroValue125
 t76:=Tryd.underlying126
 a76:=Tryd.isAgg126
 z76:=Tryd.sizeOf126
 v76:=Tryd.zeroValue126
 t127:=Tryd.underlying141
 a127:=Tryd.isAgg141
 z127:=Tryd.sizeOf141
 v127:=Tryd.zeroValue141
 t164:=Tryd.underlying149
 a164:=Tryd.isAgg149
 z164:=Tryd.sizeOf149
 v164:=Tryd.zeroValue149}
theorem Tryd.Builder_Extra_156:Builder.Extra Tryd.prog Tryd.lays156_ren:={
 sizeBuilder:=by kernel_rfl
 liesBuilder:=by kernel_rfl
 t5:=Tryd.underlying5
 a5:=Tryd.isAgg5
 z5:=Tryd.sizeOf5
 v5:=Tryd.zeroValue5
 infoByte:=by kernel_rfl
 cellsByte:=by kernel_rfl
 sizeByte:=by kernel_rfl
 neB5:=by decide}
open Go.RowKit in
theorem Tryd.strings_Join_none (a:Option Addr) (c:Nat) (sep:ByteArray) (w:World):
  Calls Tryd.prog 51 #[.slice a 0 c,.string sep] w fun e w'=>e= .returned (.string ⟨#[]⟩)∧w'=w:=Any.strings_Join_none Tryd.lays156 Tryd.Builder_Extra_156 a c sep w
open Go.RowKit in
theorem Tryd.strings_Join (bk o c:Nat) (xs:List ByteArray) (sep:ByteArray) (w:World) (hcells: ∀(j:Nat) x,xs[j]? =some x→w.cell? ⟨bk,o+j,none⟩=some (.string x)) (hbk:bk<w.heap.size) (hN:xs.length≤140737488355328) (hcap:xs.length≤c) (hlen:(Lib.join (xs.map (·.data.toList)) sep.data.toList).length≤140737488355328):
  Calls Tryd.prog 51 #[.slice (some ⟨bk,o,none⟩) xs.length c,.string sep] w fun e w'=>e= .returned (.string ⟨(Lib.join (xs.map (·.data.toList)) sep.data.toList).toArray⟩)∧Below w.heap.size w w':=Any.strings_Join Tryd.lays156 Tryd.Builder_Extra_156 bk o c xs sep w hcells hbk hN hcap hlen
def Tryd.laysM173_ren:Go.Shelf.Ren:=⟨fun|173=>50|246=>76|283=>86|284=>87|285=>88|286=>89|129=>94|317=>93|318=>95|319=>96|320=>97|337=>101|338=>102|n=>n,fun|2=>2|3=>3|9=>9|4=>4|171=>136|0=>0|53=>129|37=>120|5=>5|173=>139|212=>144|51=>145|20=>20|213=>146|46=>147|232=>154|233=>155|n=>n,fun|17=>0|18=>2|19=>3|n=>n⟩
theorem Tryd.laysM173:Go.Proofs.LaysM.n173 Tryd.prog Tryd.laysM173_ren:={
 mixed:=by kernel_rfl
 f129:=Tryd.func94.trans (congrArg some (by kernel_rfl))
 f173:=Tryd.func50.trans (congrArg some (by kernel_rfl))
 f246:=Tryd.func76.trans (congrArg some (by kernel_rfl))
 f283:=Tryd.func86.trans (congrArg some (by kernel_rfl))
 f284:=Tryd.func87.trans (congrArg some (by kernel_rfl))
 f285:=Tryd.func88.trans (congrArg some (by kernel_rfl))
 f286:=Tryd.func89.trans (congrArg some (by kernel_rfl))
 f317:=Tryd.func93.trans (congrArg some (by kernel_rfl))
 f318:=Tryd.func95.trans (congrArg some (by kernel_rfl))
 f319:=Tryd.func96.trans (congrArg some (by kernel_rfl))
 f320:=Tryd.func97.trans (congrArg some (by kernel_rfl))
 f337:=Tryd.func101.trans (congrArg some (by kernel_rfl))
 f338:=Tryd.func102.trans (congrArg some (by kernel_rfl))
 t0:=Tryd.underlying0
 a0:=Tryd.isAgg0
 z0:=Tryd.sizeOf0
 v0:=Tryd.zeroValue0
 t2:=Tryd.underlying2
 a2:=Tryd.isAgg2
 z2:=Tryd.sizeOf2
 v2:=Tryd.zeroValue2
 t3:=Tryd.underlying3
 a3:=Tryd.isAgg3
 z3:=Tryd.sizeOf3
 v3:=Tryd.zeroValue3
 t4:=Tryd.underlying4
 a4:=Tryd.isAgg4
 z4:=Tryd.sizeOf4
 v4:=Tryd.zeroValue4
 t5:=Tryd.underlying5
 a5:=Tryd.isAgg5
 z5:=Tryd.sizeOf5
 v5:=Tryd.zeroValue5
 t9:=Tryd.underlying9
 a9:=Tryd.isAgg9
 z9:=Tryd.sizeOf9
 v9:=Tryd.zeroValue9
 t20:=Tryd.underlying20
 a20:=Tryd.isAgg20
 z20:=Tryd.sizeOf20
 v20:=Tryd.zeroValue20
 t37:=Tryd.underlying120
 a37:=Tryd.isAgg120
 z37:=Tryd.sizeOf120
 v37:=Tryd.zeroValue120
 t46:=Tryd.underlying147
 a46:=Tryd.isAgg147
 z46:=Tryd.sizeOf147
 v46:=Tryd.zeroValue147
 t51:=Tryd.underlying145
 a51:=Tryd.isAgg145
 z51:=Tryd.sizeOf145
 v51:=Tryd.zeroValue145
 t53:=Tryd.underlying129
 a53:=Tryd.isAgg129
 z53:=Tryd.sizeOf129
 v53:=Tryd.zeroValue129
 t171:=Tryd.underlying136
 a171:=Tryd.isAgg136
 z171:=Tryd.sizeOf136
 v171:=Tryd.zeroValue136
 t173:=Tryd.underlying139
 a173:=Tryd.isAgg139
 z173:=Tryd.sizeOf139
 v173:=Tryd.zeroValue139
 t212:=Tryd.underlying144
 a212:=Tryd.isAgg144
 z212:=Tryd.sizeOf144
 v212:=Tryd.zeroValue144
 t213:=Tryd.underlying146
 a213:=Tryd.isAgg146
 z213:=Tryd.sizeOf146
 t232:=Tryd.underlying154
 a232:=Tryd.isAgg154
 z232:=Tryd.sizeOf154
 v232:=Tryd.zeroValue154
 t233:=Tryd.underlying155
 a233:=Tryd.isAgg155
 z233:=Tryd.sizeOf155
 v233:=Tryd.zeroValue155
 g17:=by kernel_rfl
 g18:=by kernel_rfl
 g19:=by kernel_rfl
 i0:=by kernel_rfl
 i2:=by kernel_rfl
 i3:=by kernel_rfl
 i4:=by kernel_rfl
 i5:=by kernel_rfl
 i9:=by kernel_rfl
 i20:=by kernel_rfl
 i37:=by kernel_rfl
 i46:=by kernel_rfl
 i51:=by kernel_rfl
 i53:=by kernel_rfl
 i171:=by kernel_rfl
 i173:=by kernel_rfl
 i212:=by kernel_rfl
 i232:=by kernel_rfl
 i233:=by kernel_rfl
 m17:=by kernel_rfl
 m18:=by kernel_rfl
 m19:=by kernel_rfl}
open Go.RowKit Go.Sort Go.Lib in
theorem Tryd.strconv_FormatInt_10 (n:Int) (h0: -9223372036854775808≤n) (h1:n≤9223372036854775807) (w:World) (htab:Lib.TabIs Tryd.prog w "internal/strconv.uint64pow10" .u64 Lib.pow10Tab):
  Calls Tryd.prog 50 #[.int .i64 n,.int .i64 10] w fun e w'=>e= .returned (.string ⟨(Lib.itoa n).toArray⟩)∧ ∃k os,w'=grow (w.drewN k) os:=Any.strconv_FormatInt_10 Tryd.laysM173 n h0 h1 w htab
end Go.Proofs
namespace Go.Proofs.YtodhalcpnmddjaaDoor
open Go Ax Go.RowKit
set_option maxRecDepth 100000
theorem below_sim {ρ:List RB} {m:AMem} {w w':World} (h:Sim ρ m w) (hb:Below w.heap.size w w'):Sim ρ m w'∧Evol ρ m w ρ m w':=
 ⟨⟨h.len,fun b blk a h1 h2=>(h.ok b blk a h1 h2).heapA (hb.block _ (h.bound b a h2)),h.sep,fun b a ha=>Nat.lt_of_lt_of_le (h.bound b a ha) hb.size⟩,⟨List.prefix_refl _,hb.os,hb.tape,hb.output,hb.size,fun r hr _=>hb.block r hr,fun r hr=> .inr hr⟩⟩
abbrev strB (l:List UInt8):AVal:= .str ⟨l.toArray⟩
instance:Cell strB:=⟨fun _=>rfl,fun _=>rfl⟩
theorem ba_len (l:List UInt8):(⟨l.toArray⟩:ByteArray).size=l.length:=by simp[ByteArray.size]
theorem ba_app (a b:List UInt8):(⟨a.toArray⟩++⟨b.toArray⟩:ByteArray)=⟨(a++b).toArray⟩:=by
 apply ByteArray.ext
 simp
theorem str_app (a b:List UInt8) (h:a.length+b.length≤9223372036854775807):binStr .add ⟨a.toArray⟩ ⟨b.toArray⟩=some (strB (a++b)):=by
 simp only[binStr,ba_len]
 rw[if_pos h,ba_app]
theorem gPow: Tryd.prog.globalNamed "internal/strconv.uint64pow10" =some 0:=by kernel_rfl
theorem pow_cells: ∀p∈globs,p.1=0∧p.2.length=20∧ ∀i,i<20→p.2[i]? =some (.int .u64 ((10^i:Nat):Int)):=by
 intro p hp
 simp only[globs,List.mem_singleton] at hp
 subst hp
 refine ⟨rfl,rfl,fun i hi=>?_⟩
 exact pow_at i hi
where pow_at: ∀i,i<20→(globs.head (by simp[globs])).2[i]? =some (.int .u64 ((10^i:Nat):Int))
 |0,_=>rfl
 |1,_=>rfl
 |2,_=>rfl
 |3,_=>rfl
 |4,_=>rfl
 |5,_=>rfl
 |6,_=>rfl
 |7,_=>rfl
 |8,_=>rfl
 |9,_=>rfl
 |10,_=>rfl
 |11,_=>rfl
 |12,_=>rfl
 |13,_=>rfl
 |14,_=>rfl
 |15,_=>rfl
 |16,_=>rfl
 |17,_=>rfl
 |18,_=>rfl
 |19,_=>rfl
 |n+20,h=>by omega
theorem tab_is {ρ:List RB} {m:AMem} {w:World} (h:Glob ρ m w):Lib.TabIs Tryd.prog w "internal/strconv.uint64pow10" .u64 Lib.pow10Tab:=by
 obtain ⟨p,hp⟩: ∃p,p∈globs:=⟨_,List.mem_singleton.2 rfl⟩
 obtain ⟨_,_,h3,arr,t,fz,h4,h5⟩:=h p hp
 obtain ⟨e0,e1,e2⟩:=pow_cells p hp
 rw[e0] at h3 h4
 rw[e1] at h5
 unfold Lib.TabIs World.var?
 rw[gPow]
 simp only[Option.bind_some]
 rw[h4]
 simp only[Option.some.injEq]
 refine Array.ext (by rw[h5];simp[Lib.pow10Tab]) fun i hi hi'=>?_
 have hi20:i<20:=by rw[h5] at hi;exact hi
 obtain ⟨v,hv,hr⟩:=h3 i _ (e2 i hi20)
 simp only[VR] at hr
 subst hr
 unfold World.cell? at hv
 simp only[h4] at hv
 have:arr[i]? =some (.int .u64 ((10^i:Nat):Int)):=by simpa using hv
 rw[Array.getElem?_eq_getElem hi] at this
 rw[Option.some.inj this]
 simp[Lib.pow10Tab]
theorem k50 (n:Int) (h0: -9223372036854775808≤n) (h1:n≤9223372036854775807) (m:AMem):ACalls Tryd.prog 50 [.int .i64 n,.int .i64 10] m fun v m'=>v=strB (Lib.itoa n)∧m'=m:=by
 refine ⟨⟨_,Tryd.func50,by kernel_rfl,by kernel_rfl⟩,fun ρ w args' hs hg hv=>?_⟩
 simp only[VRs,VR] at hv
 obtain ⟨_,_,e1,rfl,_,_,rfl,rfl,rfl⟩:=hv
 obtain rfl:args'= #[.int .i64 n,.int .i64 10]:=by rw[←Array.toList_inj];simpa using e1
 refine (Tryd.strconv_FormatInt_10 n h0 h1 w (tab_is hg)).mono ?_
 rintro e w' ⟨rfl,k,os,rfl⟩
 exact ⟨_,_,m,ρ,rfl,⟨rfl,rfl⟩,by simp[VR],below_sim hs (Lib.below_grow _ _ (Nat.le_refl _) _ _)⟩
theorem k51 (s:AVal) (ss:List (List UInt8)) (sep:UInt8) (m:AMem) (h:Sl m 1 s ss.length (ss.map strB)) (hn:ss.length≤2^40) (hl:(Lib.join ss [sep]).length≤2^46):
  ACalls Tryd.prog 51 [s,.str ⟨#[sep]⟩] m fun v m'=>v=strB (Lib.join ss [sep])∧m'=m:=by
 refine ⟨⟨_,Tryd.func51,by kernel_rfl,by kernel_rfl⟩,fun ρ w args' hs _ hv=>?_⟩
 simp only[VRs,VR] at hv
 obtain ⟨sv,_,e1,hsv,_,_,rfl,rfl,rfl⟩:=hv
 obtain rfl:args'= #[sv,.string ⟨#[sep]⟩]:=by rw[←Array.toList_inj];simpa using e1
 have hend: ∀{w':World} {e:Ending},e= .returned (.string ⟨(Lib.join ss [sep]).toArray⟩)∧Below w.heap.size w w'→ ∃v' v m' ρ',e= .returned v'∧(v=strB (Lib.join ss [sep])∧m'=m)∧VR ρ' v v'∧Sim ρ' m' w'∧Evol ρ m w ρ' m' w':=fun {w' e} ⟨he,hb⟩=>⟨_,_,m,ρ,he,⟨rfl,rfl⟩,by simp[VR],below_sim hs hb⟩
 rcases h with ⟨rfl,e,_⟩|⟨b,o,cap,gr,rfl,⟨hcap,_⟩,h2⟩
 ·simp only[VR] at hsv
  subst hsv
  obtain rfl:=List.eq_nil_of_length_eq_zero e
  exact (Tryd.strings_Join_none none 0 ⟨#[sep]⟩ w).mono fun e w' ⟨he,hw⟩=>hend ⟨he,hw▸Below.refl _ _⟩
 ·simp only[VR] at hsv
  obtain ⟨A,a',c,rfl,hA,hc,hlc,_,hcc,_⟩:=hsv
  rcases h2 with ⟨e,_⟩|⟨hne,bl,h3,h4⟩
  ·rw[e]
   obtain rfl:=List.eq_nil_of_length_eq_zero e
   exact (Tryd.strings_Join_none (some a') c ⟨#[sep]⟩ w).mono fun e w' ⟨he,hw⟩=>hend ⟨he,hw▸Below.refl _ _⟩
  ·have hc:=hc (by omega)
   subst hc
   have hlen:(ss.map fun l:List UInt8=>(⟨l.toArray⟩:ByteArray)).length=ss.length:=by simp
   have hmm:(ss.map fun l:List UInt8=>(⟨l.toArray⟩:ByteArray)).map (·.data.toList)=ss:=by rw[List.map_map];exact (List.map_congr_left fun _ _=>rfl).trans (List.map_id _)
   have hj:= Tryd.strings_Join A.block (A.off+o) c (ss.map fun l:List UInt8=>(⟨l.toArray⟩:ByteArray)) ⟨#[sep]⟩ w (fun j x hx=>by
    rw[List.getElem?_map] at hx
    obtain ⟨y,hy,rfl⟩:=Option.map_eq_some_iff.1 hx
    have hjl:=(List.getElem?_eq_some_iff.1 hy).1
    have:=readN_get h4 (i:=j) (by omega)
    rw[List.getElem?_map,hy] at this
    have hmb: ∃blk,m[b]? =some blk∧blk.cells=some bl:=by
     unfold readB at h3
     cases hmb:m[b]? with
     |none=>rw[hmb] at h3;simp at h3
     |some blk=>rw[hmb] at h3;exact ⟨blk,rfl,h3⟩
    obtain ⟨blk,g1,g2⟩:=hmb
    obtain ⟨v,p1,p2⟩:=hs.read g1 g2 hA this
    simp only[VR] at p2
    subst p2
    simpa[at_,Nat.add_assoc] using p1) (hs.bound b A hA) (by rw[hlen];omega) (by rw[hlen];omega) (by rw[hmm];show (Lib.join ss [sep]).length≤_;omega)
   rw[hlen,hmm] at hj
   exact hj.mono fun e w' h=>hend h
theorem dec_len: ∀(k u:Nat),u<10^(k+1)→(Lib.decDigits u).length≤k+1
 |0,u,h=>by unfold Lib.decDigits;rw[dif_pos (by simpa using h)];simp
 |k+1,u,h=>by
  unfold Lib.decDigits
  split
  ·simp
  ·have:=dec_len k (u / 10) (by rw[Nat.div_lt_iff_lt_mul (by omega),←Nat.pow_succ];exact h)
   rw[List.length_append]
   simp only[List.length_cons,List.length_nil]
   omega
theorem itoa_len {n:Int} (h0: -9223372036854775808≤n) (h1:n≤9223372036854775807):(Lib.itoa n).length≤21:=by
 unfold Lib.itoa
 split
 ·have:=dec_len 19 n.natAbs (by omega)
  simp only[List.length_cons]
  omega
 ·have:=dec_len 19 n.toNat (by omega)
  omega
def i64 (n:Int):Prop:= -9223372036854775808≤n∧n≤9223372036854775807
def oneB (b:Int×Int):List UInt8:=Lib.itoa b.1++ [58]++Lib.itoa b.2
def textB (bs:List (Int×Int)):List UInt8:= [91]++Lib.join (bs.map oneB) [44]++ [93]
theorem oneB_len {b:Int×Int} (h:i64 b.1∧i64 b.2):(oneB b).length≤43:=by
 have h1:=itoa_len h.1.1 h.1.2
 have h2:=itoa_len h.2.1 h.2.2
 unfold oneB
 simp only[List.length_append,List.length_cons,List.length_nil]
 omega
theorem join_len {ss:List (List UInt8)} {c:Nat} (h: ∀x∈ss,x.length≤c):(Lib.join ss [44]).length≤ss.length*(c+1):=by
 unfold Lib.join
 induction ss with
 |nil=>simp
 |cons x ss ih=>
  have hx:=h x List.mem_cons_self
  have:=ih fun y hy=>h y (List.mem_cons_of_mem _ hy)
  cases ss with
  |nil=>simp[List.intercalate];omega
  |cons y ys=>
   have he:List.intercalate [44] (x::y::ys)=x++ [44]++List.intercalate [44] (y::ys):=by simp[List.intercalate]
   rw[he,List.length_append,List.length_append,show (x::y::ys).length=(y::ys).length+1 from rfl,Nat.succ_mul]
   simp only[List.length_cons,List.length_nil] at this ⊢
   omega
set_option maxHeartbeats 4000000 in
theorem k16 (s:AVal) (bs:List (Int×Int)) (m:AMem) (hs:SlF 2 bdC m s bs) (hn:bs.length≤1000) (h64: ∀x∈bs,i64 x.1∧i64 x.2):
  ACalls Tryd.prog 16 [s] m fun v m'=>m<+:m'∧v=strB (textB bs):=by
 refine w16 ?_
 simp[hs.len]
 obtain ⟨I,hI⟩: ∃I:Nat→AFrame→AMem→Prop,∀q f m',I q f m'↔(∃(i:Nat) (o:AVal),i+q=bs.length∧f=h16_0 o s (.int .i64 bs.length) (.int .i64 i)∧m<+:m'∧OwL strB m.length m' 9 o ((bs.take i).map oneB)):=⟨_,fun _ _ _=>Iff.rfl⟩
 refine W_loop I bs.length ((hI _ _ _).2 ⟨0,.nilslice,by simp,by simp,List.prefix_refl _,OwL.nil⟩) ?_
 rintro q f m2 hIn
 obtain ⟨i,o,hq,rfl,hm2,hO⟩:=(hI _ _ _).1 hIn
 clear hIn
 simp
 refine bbind_dec (fun hil=>?_) fun hil=>?_
 rotate_left
 ·have:i=bs.length:=by omega
  subst this
  rw[List.take_length] at hO
  simp
  have hlen:(bs.map oneB).length=bs.length:=by simp
  have hj:(Lib.join (bs.map oneB) [44]).length≤bs.length*44:=by
   have:=join_len (ss:=bs.map oneB) (c:=43) (fun x hx=>by
    obtain ⟨b,hb,rfl⟩:=List.mem_map.1 hx
    exact oneB_len (h64 b hb))
   simpa using this
  refine C_of (k51 o (bs.map oneB) 44 m2 (Ow.sl hO) (by omega) (by omega)) ?_
  rintro _ m2 ⟨rfl,rfl⟩
  have e1:=str_app [91] (Lib.join (bs.map oneB) [44]) (by simp only[List.length_cons,List.length_nil];omega)
  have e2:=str_app ([91]++Lib.join (bs.map oneB) [44]) [93] (by simp only[List.length_append,List.length_cons,List.length_nil];omega)
  simp at e1 e2
  simp[e1,e2,textB,hm2]
 have hil:i<bs.length:=by omega
 have hw:IntKind.i64.wrap ((i:Int)+1)=(i:Int)+1:=wrap64 (by omega) (by omega)
 obtain ⟨b1,o1,p1,_,p3⟩:=(hs.mono hm2).at hil
 have htk:=take_snoc hil
 have hx64:=h64 bs[i] (List.getElem_mem hil)
 generalize bs[i]=x at*
 have l1:=itoa_len hx64.1.1 hx64.1.2
 have l2:=itoa_len hx64.2.1 hx64.2.2
 simp only[bdC] at p3
 simp[p1,p3]
 rw[store_new _ _ [AVal.int .i64 x.1,AVal.int .i64 x.2] _ _ 2 rfl rfl rfl]
 have hb3:=readB_new m2 [AVal.int .i64 x.1,AVal.int .i64 x.2] 83 none
 have hm3:m2<+:m2++ [ABlk.own [AVal.int .i64 x.1,AVal.int .i64 x.2] 83 none]:=List.prefix_append _ _
 generalize m2++ [ABlk.own [AVal.int .i64 x.1,AVal.int .i64 x.2] 83 none]=m3 at*
 generalize m2.length=b3 at*
 have e1:=str_app (Lib.itoa x.1) [58] (by simp only[List.length_cons,List.length_nil];omega)
 have e2:=str_app (Lib.itoa x.1++ [58]) (Lib.itoa x.2) (by simp only[List.length_append,List.length_cons,List.length_nil];omega)
 have e3:Lib.itoa x.1++ [58]++Lib.itoa x.2=oneB x:=rfl
 simp only[List.append_assoc,List.singleton_append] at e1 e2 e3
 simp
 refine W_draw (fun i v _=>match i with
  |3=>v=strB (Lib.itoa x.1)
  |7=>v=strB (Lib.itoa x.2)
  |_=>True) (by simp[maxDst]) ?_
 refine D_pc 0 3 [3,4,5,6,7,8,9,10,11] ?_
 simp[bx hb3]
 intro fs _
 refine D_Cv (fn:=50) (fs':= []) (cs:= []) (strB (Lib.itoa x.1)) rfl trivial rfl (by simp) (fun m' h1 _=>by simpa using (k50 x.1 hx64.1.1 hx64.1.2 m').mono fun v m'' h=>⟨by rw[h.2];exact List.prefix_refl _,h.1⟩) ?_
 simp
 have hf1: ∀j m',upd fs 3 (fun _=>True) j m':=upd_true (by assumption) _
 refine D_pc 4 3 [7,8,9,10,11] (hfs:=hf1) ?_
 simp[e1,bx hb3]
 intro fs2 hfs2
 refine D_Cv (fn:=50) (fs':= []) (cs:= []) (strB (Lib.itoa x.2)) rfl trivial rfl (by simp) (fun m' h1 _=>by simpa using (k50 x.2 hx64.2.1 hx64.2.2 m').mono fun v m'' h=>⟨by rw[h.2];exact List.prefix_refl _,h.1⟩) ?_
 simp
 refine D_P rfl trivial ?_
 simp[e2,e3]
 refine D_An rfl trivial ?_
 simp[fillA,setN]
 intro b9 hb9
 refine D_X rfl rfl fun m4 hm4 hf=>?_
 have hf9:=hf 9
 simp[upd] at hf9
 have hsc:sliceCells m4 1 (.slice b9 0 1 1 none)=some (1,[strB (oneB x)]):=by simp[sliceCells,readB,hf9,ABlk.cells,readN]
 have hm24:=hm3.trans hm4
 have hm04:=hm2.trans hm24
 obtain ⟨o',m5,happ,hch,hO5,_⟩:=OwL.append (hO.mono hm24) (by have:=hm04.length_le;omega) (by_:=16) (by omega) [oneB x] (by simp;omega)
 simp at happ
 simp[hsc,happ,lateOf]
 refine D_P rfl trivial ?_
 simp
 refine D_end fun m6 hm6 _=>?_
 simp[hw]
 refine ⟨q-1,by omega,(hI _ _ _).2 ⟨i+1,o',by omega,by simp,(hch.pre hm04 fun b hb e=>by have:=(hO.blk_lo e).1;omega).trans hm6,?_⟩⟩
 rw[htk,List.map_append]
 exact hO5.mono hm6
end Go.Proofs.YtodhalcpnmddjaaDoor
namespace Go.Proofs.YtodhalcpnmddjaaDoor
open Go Ax
set_option maxRecDepth 100000
def D0:Dsc:=⟨0,[⟨1,2,3⟩,⟨0,2,1⟩]⟩
def S0:Dsc:=⟨3,[⟨0,2,1⟩]⟩
theorem e_make:makeD [(1,2),(0,2)]=(D0,0):=rfl
theorem e_count:D0.count=6:=rfl
theorem e_place:placeD D0 [2,1]=(4,0,0):=rfl
theorem e_sub:subD D0 0 2=(S0,0):=rfl
theorem e_bad:S0.bad=false:=rfl
theorem e_meet:meetD S0 D0=true:=rfl
theorem e_same:sameD S0 S0=true:=same_self e_bad
theorem e_text:textB [(0,2)]= [91,48,58,50,93]:=by
 simp[textB,oneB,Lib.itoa,Lib.decDigits,Lib.join,List.intercalate]
set_option maxHeartbeats 4000000 in
theorem k11 (m:AMem):ACalls Tryd.prog 11 [] m fun v m'=>m<+:m'∧v= .bool true:=by
 refine w11 ?_
 simp[fillA,setN]
 have hO:=OwF.new (w:=2) (f:=bdC) m 83 [(1,2),(0,2)]
 have hm1:m<+:m++ [ABlk.own [AVal.int .i64 1,AVal.int .i64 2,AVal.int .i64 0,AVal.int .i64 2] 83 none]:=List.prefix_append _ _
 have hs1:SlF 2 bdC (m++ [ABlk.own [AVal.int .i64 1,AVal.int .i64 2,AVal.int .i64 0,AVal.int .i64 2] 83 none]) (.slice m.length 0 2 2 none) [(1,2),(0,2)]:=hO.sl
 clear hO
 generalize m++ [ABlk.own [AVal.int .i64 1,AVal.int .i64 2,AVal.int .i64 0,AVal.int .i64 2] 83 none]=m1 at*
 refine C_of (k12 _ [(1,2),(0,2)] m1 hs1 (by simp)) ?_
 rw[e_make]
 rintro _ m2 ⟨hm2,w,rfl,hD⟩
 replace hD:=hD.ds
 obtain ⟨s,rfl,hs,hsb⟩:=id hD
 obtain ⟨o1,o2⟩:=hs.one
 simp
 rw[store_new m2 _ [AVal.int .i64 D0.b,s] _ _ 2 rfl rfl (by simp[o1])]
 have hb:=readB_new m2 [AVal.int .i64 D0.b,s] 26 none
 have hm3:m2<+:m2++ [ABlk.own [AVal.int .i64 D0.b,s] 26 none]:=List.prefix_append _ _
 generalize m2++ [ABlk.own [AVal.int .i64 D0.b,s] 26 none]=m3 at*
 generalize m2.length=b1 at*
 have hbw:=bxW hb 2
 simp[readN] at hbw
 simp[hbw,fillA,setN]
 have hs4:RInts (m3++ [ABlk.own [AVal.int .i64 2,AVal.int .i64 1] 2 none]) (.slice m3.length 0 2 2 none) [2,1]:=OwL.ints (Ow.new (m:=m3) (ty:=2) (esz:=1) (n:=2) (cs:= [AVal.int .i64 2,AVal.int .i64 1]) rfl rfl)
 have hm4:m3<+:m3++ [ABlk.own [AVal.int .i64 2,AVal.int .i64 1] 2 none]:=List.prefix_append _ _
 generalize m3++ [ABlk.own [AVal.int .i64 2,AVal.int .i64 1] 2 none]=m4 at*
 refine C_of (k28 _ _ D0 [2,1] m4 (hD.mono (hm3.trans hm4)) hs4 (by simp[D0]) (by simp)) ?_
 rw[e_place]
 rintro _ m5 ⟨hm5,rfl⟩
 have hm35:=hm4.trans hm5
 have hbw:=bxW (readB_mono hm35 hb) 2
 simp[readN] at hbw
 simp[hbw]
 refine C_of (k40 _ D0 0 2 m5 (hD.mono (hm3.trans hm35)) (by simp[D0])) ?_
 rw[e_sub]
 rintro _ m6 ⟨hm6,w',rfl,hS⟩
 obtain ⟨s',rfl,hs',hsb'⟩:=id hS
 obtain ⟨o1',o2'⟩:=hs'.one
 simp
 rw[store_new m6 _ [AVal.int .i64 S0.b,s'] _ _ 2 rfl rfl (by simp[o1'])]
 have hb6:=readB_new m6 [AVal.int .i64 S0.b,s'] 26 none
 have hm7:m6<+:m6++ [ABlk.own [AVal.int .i64 S0.b,s'] 26 none]:=List.prefix_append _ _
 generalize m6++ [ABlk.own [AVal.int .i64 S0.b,s'] 26 none]=m7 at*
 generalize m6.length=b6 at*
 have hm37:=hm35.trans (hm6.trans hm7)
 have hD7:=hD.mono (hm3.trans hm37)
 have hS7:=hS.mono hm7
 have hm07:=hm1.trans (hm2.trans (hm3.trans hm37))
 have hb7:=readB_mono hm37 hb
 clear hb hbw hs4 hm4 hm5 hm35 hm6 hm7 hm37 hD hS hm1 hm2 hm3 hs1 hs hs'
 have hbw:=bxW hb7 2
 simp[readN] at hbw
 simp[hbw]
 refine C_of (k23 _ D0 m7 hD7 (by simp[D0])) ?_
 rw[e_count]
 rintro _ m8 ⟨hm8,rfl⟩
 have hbw:=bxW (readB_mono hm8 hb6) 2
 simp[readN] at hbw
 have hs0b:S0.b=3:=rfl
 simp[bx (readB_mono hm8 hb6),hbw,hs0b]
 have hS8:=hS7.mono hm8
 rw[hs0b] at hS8 hb6
 refine C_of (k25 _ S0 m8 hS8 (by simp[S0])) ?_
 rw[e_bad]
 rintro v9 m9 ⟨hm9,hB9⟩
 rw[if_neg (by simp),show S0.bnds= [(0,2)] from rfl] at hB9
 simp
 refine C_of (k16 v9 [(0,2)] m9 hB9 (by simp) (by simp[i64])) ?_
 rw[e_text]
 rintro _ m10 ⟨hm10,rfl⟩
 have hteq:binStr .eql ⟨#[91,48,58,50,93]⟩ ⟨#[91,48,58,50,93]⟩=some (.bool true):=by simp[binStr]
 have hm810:=hm8.trans (hm9.trans hm10)
 have hbw:=bxW (readB_mono hm810 hb6) 2
 simp[readN] at hbw
 simp[hteq,hbw]
 refine C_of (k25 _ S0 m10 (hS8.mono (hm9.trans hm10)) (by simp[S0])) ?_
 rw[e_bad]
 rintro v11 m11 ⟨hm11,hB11⟩
 rw[if_neg (by simp),show S0.bnds= [(0,2)] from rfl] at hB11
 simp[fillA,setN]
 have hO:=(OwF.new (w:=2) (f:=bdC) m11 83 [(0,2)]).sl
 have hm12:m11<+:m11++ [ABlk.own [AVal.int .i64 0,AVal.int .i64 2] 83 none]:=List.prefix_append _ _
 have hs12:SlF 2 bdC (m11++ [ABlk.own [AVal.int .i64 0,AVal.int .i64 2] 83 none]) (.slice m11.length 0 1 1 none) [(0,2)]:=hO
 clear hO
 generalize m11++ [ABlk.own [AVal.int .i64 0,AVal.int .i64 2] 83 none]=m12 at*
 refine C_of (k18 v11 _ [(0,2)] [(0,2)] m12 (hB11.mono hm12) hs12 (by simp)) ?_
 rintro _ m13 ⟨hm13,rfl⟩
 have hm813:=hm810.trans (hm11.trans (hm12.trans hm13))
 have hbw:=bxW (readB_mono hm813 hb6) 2
 simp[readN] at hbw
 simp[hbw]
 have hS13:=hS8.mono ((hm9.trans hm10).trans (hm11.trans (hm12.trans hm13)))
 refine C_of (k33 _ _ S0 S0 m13 hS13 hS13 (by simp[S0]) (by simp[S0])) ?_
 rw[e_same]
 rintro _ m14 ⟨hm14,rfl⟩
 have hm814:=hm813.trans hm14
 have hbw:=bxW (readB_mono hm814 hb6) 2
 simp[readN] at hbw
 have hbw':=bxW (readB_mono hm814 hb7) 2
 simp[readN] at hbw'
 simp[hbw,hbw']
 refine C_of (k35 _ _ S0 D0 m14 (hS13.mono hm14) (hD7.mono hm814) (by simp[S0]) (by simp[D0])) ?_
 rw[e_meet]
 rintro _ m15 ⟨hm15,rfl⟩
 simp[hm07.trans (hm814.trans hm15)]
end Go.Proofs.YtodhalcpnmddjaaDoor
namespace Go.Proofs.YtodhalcpnmddjaaDoor
open Go Ax
set_option maxRecDepth 100000
theorem plain_take {bs:List (Int×Int)} {i:Nat} (hi:i<bs.length):(plainW bs).take (i+1)=(plainW bs).take i++ [⟨bs[i].1,bs[i].2,IntKind.i64.wrap (prodN (bs.drop (i+1)):Int)⟩]:=by
 rw[take_snoc (by rw[plainW_len];exact hi),plainW_get hi]
set_option maxHeartbeats 8000000 in
theorem k13 (s:AVal) (bs:List (Int×Int)) (m:AMem) (hs:SlF 2 bdC m s bs) (hn:bs.length<2^30):
  ACalls Tryd.prog 13 [s] m fun v m'=>m<+:m'∧ ∃w,v= .tuple [w,.int .i64 (makeD bs).2]∧DsO m.length m' w (makeD bs).1:=by
 refine w13 ?_
 simp
 have hm1:m<+:m++ [ABlk.own [AVal.int .i64 0,AVal.nilslice] 32 none]:=List.prefix_append _ _
 have hx1:(m++ [ABlk.own [AVal.int .i64 0,AVal.nilslice] 32 none])[m.length]? =some (.own [.int .i64 0,.nilslice] 32 none):=by simp
 generalize m++ [ABlk.own [AVal.int .i64 0,AVal.nilslice] 32 none]=m1 at*
 refine C_of (k48 s bs m1 (hs.mono hm1) (by omega)) ?_
 rintro _ m2 ⟨hm2,rfl⟩
 have hx2:=prefix_get hm2 hx1
 have hlt:=(List.getElem?_eq_some_iff.1 hx2).1
 by_cases hc:checkB bs=0
 rotate_left
 ·have hmk:makeD bs=(.zero,checkB bs):=by unfold makeD;rw[if_pos hc]
  simp[bneT hc,fillA]
  rw[store_boxN (cs:= [.int .i64 0,.nilslice]) (n:=2) hx2 rfl rfl rfl]
  simp[loadE,readB,hlt,ABlk.cells,readN,hmk]
  have hcc:Ch (fun b=>b=m.length) m2 (m2.set m.length (.own [.int .i64 0,.nilslice] 32 none)):=Ch.setS _ rfl
  exact ⟨hcc.pre (hm1.trans hm2) fun b hb h=>by omega,DsO.zero _ _⟩
 have hmk:makeD bs=(⟨0,plainW bs⟩,0):=by unfold makeD;rw[if_neg (by simp[hc])]
 obtain ⟨_,hc2,_⟩:=check_zero.1 hc
 have hnear: ∀x∈bs,(nearI x.1&&nearI x.2)=true:=fun x hx=>by simp[hc2 x hx]
 simp[hc]
 have hm3:m2<+:m2++ [ABlk.own [AVal.int .i64 0,AVal.nilslice] 32 none]:=List.prefix_append _ _
 have hx3:(m2++ [ABlk.own [AVal.int .i64 0,AVal.nilslice] 32 none])[m2.length]? =some (.own [.int .i64 0,.nilslice] 32 none):=by simp
 have hl3:(m2++ [ABlk.own [AVal.int .i64 0,AVal.nilslice] 32 none]).length=m2.length+1:=by simp
 generalize m2++ [ABlk.own [AVal.int .i64 0,AVal.nilslice] 32 none]=m3 at*
 generalize hb5:m2.length=b5 at*
 have hx23:=prefix_get hm3 hx2
 have hm03:=hm1.trans (hm2.trans hm3)
 clear hm1 hm2 hm3 hx1 hx2
 obtain ⟨I,hI⟩: ∃I:Nat→AFrame→AMem→Prop,∀q f m',I q f m'↔(∃(i:Nat) (o:AVal),i+q=bs.length∧f=h13_0 s (.ptr m.length 0) (.ptr b5 0) (.int .i64 i)∧m'[b5]? =some (.own [.int .i64 0,o] 32 none)∧OwF 3 dmC m3.length m' 90 o ((plainW bs).take i)∧Ch (fun b=>b=b5) m3 m'):=⟨_,fun _ _ _=>Iff.rfl⟩
 refine W_loop I bs.length ((hI _ _ _).2 ⟨0,.nilslice,by simp,by simp,hx3,OwF.nil,.refl _ _⟩) ?_
 rintro q f m4 hIn
 obtain ⟨i,o,hq,rfl,hx4,hO4,hc4⟩:=(hI _ _ _).1 hIn
 clear hIn
 have hm04:=hc4.pre hm03 fun b hb h=>by have:=hm03.length_le;omega
 simp[hs.len]
 refine bbind_dec (fun hil=>?_) fun hil=>?_
 rotate_left
 ·have:i=bs.length:=by omega
  subst this
  rw[List.take_of_length_le (by rw[plainW_len];omega)] at hO4
  obtain ⟨o1,o2⟩:=hO4.sl.one
  have hx24:=hc4.keep _ _ hx23 (by omega)
  have hlt4:=(List.getElem?_eq_some_iff.1 hx24).1
  simp[bxW (box_read hx4),readN]
  rw[store_boxN (cs:= [.int .i64 0,o]) (n:=2) hx24 rfl rfl (by simp[o1])]
  simp[loadE,readB,hlt4,ABlk.cells,readN,hmk]
  have hcc:Ch (fun b=>b=b5∨b=m.length) m3 (m4.set m.length (.own [.int .i64 0,o] 32 none)):=(hc4.weaken fun b _ h=> .inl h).set (.inl (.inr rfl)) _
  refine ⟨hcc.pre hm03 fun b hb h=>by omega,DsO.own (hO4.ch (Ch.setS (S:=fun b=>b=m.length) _ rfl) fun b hb h=>?_) (by have:=hm03.length_le;omega)⟩
  have:=(hO4.blk_lo hb).1
  omega
 have hil:i<bs.length:=by omega
 have hwi:IntKind.i64.wrap ((i:Int)+1)=((i+1:Nat):Int):=by rw[wrap64 (by omega) (by omega)];rfl
 simp[hwi]
 obtain ⟨I2,hI2⟩: ∃I:Nat→AFrame→AMem→Prop,∀q f m',I q f m'↔(∃(k:Nat),i+1+k+q=bs.length∧f=h13_1 s (.ptr m.length 0) (.ptr b5 0) (.int .i64 i) (.int .i64 (IntKind.i64.wrap (prodN ((bs.drop (i+1)).take k):Int))) (.int .i64 ((i+1+k:Nat):Int))∧m4<+:m'):=⟨_,fun _ _ _=>Iff.rfl⟩
 refine W_loop I2 (bs.length-(i+1)) ((hI2 _ _ _).2 ⟨0,by omega,?_,List.prefix_refl _⟩) ?_
 ·rw[List.take_zero,show (prodN []:Int)=1 from rfl,show IntKind.i64.wrap 1=1 from wrap64 (by omega) (by omega)]
  simp
 rintro q2 f m5 hIn
 obtain ⟨k,hq2,rfl,hm5⟩:=(hI2 _ _ _).1 hIn
 clear hIn
 have hm05:=hm04.trans hm5
 simp[hs.len]
 refine bbind_dec (fun hkl=>?_) fun hkl=>?_
 ·have hkl:i+1+k<bs.length:=by omega
  have hwk:IntKind.i64.wrap (((i+1+k:Nat):Int)+1)=((i+1+(k+1):Nat):Int):=by rw[wrap64 (by omega) (by omega)];omega
  obtain ⟨b1,o1,p1,p2,_⟩:=(hs.mono hm05).at hkl
  have hx:=hnear bs[i+1+k] (List.getElem_mem hkl)
  have htk:prodN ((bs.drop (i+1)).take (k+1))=prodN ((bs.drop (i+1)).take k)*lenB bs[i+1+k]:=by
   rw[prodN_take (by rw[List.length_drop];omega),List.getElem_drop]
  obtain ⟨hl1,hl2⟩:=near_len hx
  generalize bs[i+1+k]=x at*
  have p20:=p2 0 (by omega)
  have p21:=p2 1 (by omega)
  simp[bdC] at p20 p21
  push_cast at p1 hwk
  simp
  refine W_draw (fun _ _ _=>True) (by simp[maxDst]) ?_
  refine D_pc 0 11 [11,12,13] ?_
  simp[p1,p20,p21]
  intro fs _
  refine D_X rfl rfl fun m6 hm6 _=>?_
  simp
  refine C_of (k49 x.1 x.2 m6 (near_k374 hx)) ?_
  rintro _ m6 ⟨rfl,rfl⟩
  rw[hl1]
  refine ⟨by simp[lateOf],?_⟩
  refine D_pc 12 2 [] (hfs:=fun _ _=>trivial) ?_
  have hw1:IntKind.i64.wrap (IntKind.i64.wrap (prodN ((bs.drop (i+1)).take k):Int)*(lenB x:Int))=IntKind.i64.wrap (prodN ((bs.drop (i+1)).take (k+1)):Int):=by
   rw[wrap_mul_l,htk,Int.natCast_mul]
  simp[hw1]
  intro _ _
  refine D_end fun m7 hm7 _=>?_
  simp[hwk]
  refine ⟨q2-1,by omega,(hI2 _ _ _).2 ⟨k+1,by omega,by simp,hm5.trans (hm6.trans hm7)⟩⟩
 have hk:i+1+k=bs.length:=by omega
 have hdt:(bs.drop (i+1)).take k=bs.drop (i+1):=List.take_of_length_le (by rw[List.length_drop];omega)
 rw[hdt]
 clear hI2 hwi
 have hx5:=prefix_get hm5 hx4
 have hb5r:=box_read hx5
 obtain ⟨b1,o1,p1,p2,_⟩:=(hs.mono hm05).at hil
 have hpt:=plain_take hil
 generalize bs[i]=x at*
 have p20:=p2 0 (by omega)
 have p21:=p2 1 (by omega)
 simp[bdC] at p20 p21
 simp
 refine W_draw (fun _ _ _=>True) (by simp[maxDst]) ?_
 refine D_pc 0 14 [14,15,16,17] ?_
 simp[bx hb5r,p1,p20,p21,fillA,setN]
 intro fs _
 refine D_An rfl trivial ?_
 simp[fillA,setN]
 intro b9 hb9
 refine D_X rfl rfl fun m6 hm6 hf=>?_
 have hf9:=hf 14
 simp[upd] at hf9
 have hsc:sliceCells m6 3 (.slice b9 0 1 1 none)=some (1,[.int .i64 x.1,.int .i64 x.2,.int .i64 (IntKind.i64.wrap (prodN (bs.drop (i+1)):Int))]):=by simp[sliceCells,readB,hf9,ABlk.cells,readN]
 have hm46:=hm5.trans hm6
 have hl46:=hm46.length_le
 have hl34:=hc4.len
 obtain ⟨o',m7,happ,hch,hO7,hg7⟩:=(hO4.mono hm46).push (by omega) (by_:=24) (by omega) ⟨x.1,x.2,IntKind.i64.wrap (prodN (bs.drop (i+1)):Int)⟩ (by rw[List.length_take,plainW_len];omega)
 simp only[dmC] at happ
 simp[hsc,happ,lateOf]
 refine D_P rfl trivial ?_
 simp
 refine D_W rfl rfl fun m8 hm8 _=>?_
 have hblo: ∀b,o.blk=some b→m3.length≤b:=fun b hb=>(hO4.blk_lo hb).1
 have hx7:=hch.keep b5 _ (prefix_get hm6 hx5) (fun h=>by have:=hblo _ h;omega)
 have hx8:=prefix_get hm8 hx7
 obtain ⟨q1,q2⟩:=hO7.sl.one
 simp
 rw[store_cell (cs:= [.int .i64 0,o]) hx8 (by simp) q2 q1]
 simp
 refine D_end fun m9 hm9 _=>?_
 have hl8:=(List.getElem?_eq_some_iff.1 hx8).1
 have hx9:m9[b5]? =some (.own [.int .i64 0,o'] 32 none):=prefix_get hm9 (by rw[List.getElem?_set_self hl8])
 have hc9:Ch (fun b=>b=b5) m3 m9:=by
  have h1:Ch (fun b=>b=b5∨o.blk=some b) m4 m9:=((((Ch.of_prefix hm46).trans (hch.weaken fun b _ h=> .inr h)).trans (.of_prefix hm8)).set (.inl (.inl rfl)) _).trans (.of_prefix hm9)
  refine ch_trans2 hc4 h1 fun b hb=>?_
  rcases hb with h|h
  ·exact .inl h
  ·exact .inr (hblo b h)
 have hwi:IntKind.i64.wrap ((i:Int)+1)=(i:Int)+1:=wrap64 (by omega) (by omega)
 simp[hwi]
 refine ⟨q-1,by omega,(hI _ _ _).2 ⟨i+1,o',by omega,by simp,hx9,?_,hc9⟩⟩
 rw[hpt]
 refine ((hO7.mono hm8).ch (Ch.setS (S:=fun b=>b=b5) _ rfl) fun b hb h=>?_).mono hm9
 have:=(hO7.blk_lo hb).1
 omega
end Go.Proofs.YtodhalcpnmddjaaDoor
namespace Go.Proofs.YtodhalcpnmddjaaDoor
open Go Ax
set_option maxRecDepth 100000
set_option maxHeartbeats 4000000 in
theorem k14 (s:AVal) (bs:List (Int×Int)) (m:AMem) (hs:SlF 2 bdC m s bs) (hn:bs.length<2^30):ACalls Tryd.prog 14 [s] m fun v m'=>m<+:m'∧SlF 2 bdC m' v bs:=by
 refine w14 ?_
 simp
 obtain ⟨I,hI⟩: ∃I:Nat→AFrame→AMem→Prop,∀q f m',I q f m'↔(∃(i:Nat) (o:AVal),i+q=bs.length∧f=h14_0 s o (.int .i64 i)∧m<+:m'∧OwF 2 bdC m.length m' 88 o (bs.take i)):=⟨_,fun _ _ _=>Iff.rfl⟩
 refine W_loop I bs.length ((hI _ _ _).2 ⟨0,.nilslice,by simp,by simp,List.prefix_refl _,OwF.nil⟩) ?_
 rintro q f m2 hIn
 obtain ⟨i,o,hq,rfl,hm2,hO⟩:=(hI _ _ _).1 hIn
 clear hIn
 simp[hs.len]
 refine bbind_dec (fun hil=>?_) fun hil=>?_
 rotate_left
 ·have:i=bs.length:=by omega
  subst this
  rw[List.take_length] at hO
  simp
  exact ⟨hm2,hO.sl⟩
 have hil:i<bs.length:=by omega
 have hw:IntKind.i64.wrap ((i:Int)+1)=(i:Int)+1:=wrap64 (by omega) (by omega)
 obtain ⟨b1,o1,p1,p2,_⟩:=(hs.mono hm2).at hil
 have htk:=take_snoc hil
 generalize bs[i]=x at*
 have p20:=p2 0 (by omega)
 have p21:=p2 1 (by omega)
 simp[bdC] at p20 p21
 simp
 refine W_draw (fun _ _ _=>True) (by simp[maxDst]) ?_
 refine D_pc 0 12 [12,13,14] ?_
 simp[p1,p20,p21,fillA,setN]
 intro fs _
 refine D_An rfl trivial ?_
 simp[fillA,setN]
 intro b9 hb9
 refine D_X rfl rfl fun m3 hm3 hf=>?_
 have hf9:=hf 12
 simp[upd] at hf9
 have hsc:sliceCells m3 2 (.slice b9 0 1 1 none)=some (1,[.int .i64 x.1,.int .i64 x.2]):=by simp[sliceCells,readB,hf9,ABlk.cells,readN]
 have hm03:=hm2.trans hm3
 obtain ⟨o',m4,happ,hch,hO4,hg4⟩:=(hO.mono hm3).push (by have:=hm03.length_le;omega) (by_:=16) (by omega) x (by simp;omega)
 simp only[bdC] at happ
 simp[hsc,happ,lateOf]
 refine D_P rfl trivial ?_
 simp
 refine D_end fun m5 hm5 _=>?_
 simp[hw]
 refine ⟨q-1,by omega,(hI _ _ _).2 ⟨i+1,o',by omega,by simp,(hch.pre hm03 fun b hb e=>by have:=(hO.blk_lo e).1;omega).trans hm5,?_⟩⟩
 rw[htk]
 exact hO4.mono hm5
set_option maxHeartbeats 4000000 in
theorem k15 (v w:AVal) (d:Dsc) (m:AMem) (hv:DsR m v d) (hw:DsR m w d) (hn:d.ds.length<2^30):ACalls Tryd.prog 15 [v,w] m fun r m'=>m<+:m'∧r= .bool true:=by
 obtain ⟨s,rfl,hs,_⟩:=hv
 obtain ⟨t,rfl,ht,_⟩:=hw
 refine w15 ?_
 obtain ⟨h1,h2⟩:=hs.one
 obtain ⟨h1',h2'⟩:=ht.one
 simp[h1,h2,h1',h2']
 have hm:m<+:m++ [ABlk.own [AVal.int .i64 d.b,s] 26 none,ABlk.own [AVal.int .i64 d.b,t] 32 none]:=List.prefix_append _ _
 have hb:readB (m++ [ABlk.own [AVal.int .i64 d.b,s] 26 none,ABlk.own [AVal.int .i64 d.b,t] 32 none]) m.length=some [.int .i64 d.b,s]:=by simp[readB,ABlk.cells]
 have hb':readB (m++ [ABlk.own [AVal.int .i64 d.b,s] 26 none,ABlk.own [AVal.int .i64 d.b,t] 32 none]) (m.length+1)=some [.int .i64 d.b,t]:=by simp[readB,ABlk.cells]
 generalize m++ [ABlk.own [AVal.int .i64 d.b,s] 26 none,ABlk.own [AVal.int .i64 d.b,t] 32 none]=m1 at*
 simp[bx hb,bx hb',hs.len,ht.len]
 obtain ⟨I,hI⟩: ∃I:Nat→AFrame→AMem→Prop,∀q f m',I q f m'↔(∃(i:Nat),i+q=d.ds.length∧f=h15_0 (.ptr m.length 0) (.ptr (m.length+1) 0) (.int .i64 i)∧m1<+:m'):=⟨_,fun _ _ _=>Iff.rfl⟩
 refine W_loop I d.ds.length ((hI _ _ _).2 ⟨0,by simp,by simp,List.prefix_refl _⟩) ?_
 rintro q f m2 hIn
 obtain ⟨i,hq,rfl,hm2⟩:=(hI _ _ _).1 hIn
 clear hIn
 have hb2:=readB_mono hm2 hb
 have hb2':=readB_mono hm2 hb'
 simp[bx hb2,hs.len]
 refine bbind_dec (fun hil=>?_) fun hil=>?_
 rotate_left
 ·simp[hm.trans hm2]
 have hil:i<d.ds.length:=by omega
 have hw:IntKind.i64.wrap ((i:Int)+1)=(i:Int)+1:=wrap64 (by omega) (by omega)
 obtain ⟨b1,o1,p1,p2,_⟩:=(hs.mono (hm.trans hm2)).at hil
 obtain ⟨b1',o1',p1',p2',_⟩:=(ht.mono (hm.trans hm2)).at hil
 generalize d.ds[i]=x at*
 have p20:=p2 0 (by omega)
 have p21:=p2 1 (by omega)
 have p22:=p2 2 (by omega)
 have p20':=p2' 0 (by omega)
 have p21':=p2' 1 (by omega)
 have p22':=p2' 2 (by omega)
 simp[dmC] at p20 p21 p22 p20' p21' p22'
 simp
 refine W_drawPR (by simp[maxDst]) rfl rfl ?_
 simp[bx hb2,bx hb2',p1,p1',p20,p21,p22,p20',p21',p22']
 intro m3 hm3
 simp[hw]
 exact ⟨q-1,by omega,(hI _ _ _).2 ⟨i+1,by omega,by simp,hm2.trans hm3⟩⟩
def joinD (n:Int) (bs:List (Int×Int)):Dsc×Int:=if n<0 then (.zero,11) else makeD ((1,n)::bs)
set_option maxHeartbeats 4000000 in
theorem k37 (s:AVal) (n:Int) (bs:List (Int×Int)) (m:AMem) (hs:SlF 2 bdC m s bs) (hn:bs.length<2^20):
  ACalls Tryd.prog 37 [.int .i64 n,s] m fun v m'=>m<+:m'∧ ∃w,v= .tuple [w,.int .i64 (joinD n bs).2]∧DsO m.length m' w (joinD n bs).1:=by
 refine w37 ?_
 have hm1:m<+:m++ [ABlk.own [AVal.int .i64 0,AVal.nilslice] 26 none]:=List.prefix_append _ _
 have hx1:(m++ [ABlk.own [AVal.int .i64 0,AVal.nilslice] 26 none])[m.length]? =some (.own [.int .i64 0,.nilslice] 26 none):=by simp
 simp
 generalize m++ [ABlk.own [AVal.int .i64 0,AVal.nilslice] 26 none]=m1 at*
 refine bbind_dec (fun h=>?_) fun h=>?_
 ·have hlt:=(List.getElem?_eq_some_iff.1 hx1).1
  have hj:joinD n bs=(.zero,11):=by unfold joinD;rw[if_pos h]
  simp[fillA]
  rw[store_boxN (cs:= [.int .i64 0,.nilslice]) (n:=2) hx1 rfl rfl rfl]
  simp[loadE,readB,hlt,ABlk.cells,readN,hj]
  have hcc:Ch (fun b=>b=m.length) m1 (m1.set m.length (.own [.int .i64 0,.nilslice] 26 none)):=Ch.setS _ rfl
  exact ⟨hcc.pre hm1 fun b hb h=>by omega,DsO.zero _ _⟩
 have hj:joinD n bs=makeD ((1,n)::bs):=by unfold joinD;rw[if_neg h]
 simp[fillA,setN]
 have hO:=OwF.new (w:=2) (f:=bdC) m1 83 [(1,n)]
 have hm2:m1<+:m1++ [ABlk.own [AVal.int .i64 1,AVal.int .i64 n] 83 none]:=List.prefix_append _ _
 have hO2:OwF 2 bdC m1.length (m1++ [ABlk.own [AVal.int .i64 1,AVal.int .i64 n] 83 none]) 83 (.slice m1.length 0 1 1 none) [(1,n)]:=hO
 clear hO
 have hbl:(AVal.slice m1.length 0 1 1 none).blk=some m1.length:=rfl
 have hl12:(m1++ [ABlk.own [AVal.int .i64 1,AVal.int .i64 n] 83 none]).length=m1.length+1:=by simp
 generalize AVal.slice m1.length 0 1 1 none=sl at*
 generalize m1++ [ABlk.own [AVal.int .i64 1,AVal.int .i64 n] 83 none]=m2 at*
 have hs2:=hs.mono (hm1.trans hm2)
 obtain ⟨o',m3,happ,hch,hO3,hg3⟩:=hO2.append (by omega) (by_:=16) (by omega) bs (by simp;omega)
 simp[hs2.cells,happ]
 have hx2:=prefix_get hm2 hx1
 have hl1:=(List.getElem?_eq_some_iff.1 hx1).1
 have hx3:=hch.keep _ _ hx2 (fun h=>by rw[hbl,Option.some.injEq] at h;omega)
 have hm13:m1<+:m3:=hch.pre hm2 fun b hb h=>by rw[hbl,Option.some.injEq] at h;omega
 refine C_of (k12 o' ((1,n)::bs) m3 hO3.sl (by simp;omega)) ?_
 rintro _ m4 ⟨hm4,w,rfl,hD⟩
 obtain ⟨t,rfl,ht,htb⟩:=hD
 obtain ⟨o1,o2⟩:=ht.one
 have hx4:=prefix_get hm4 hx3
 have hlt:=(List.getElem?_eq_some_iff.1 hx4).1
 simp
 rw[store_boxN (cs:= [.int .i64 (makeD ((1,n)::bs)).1.b,t]) (n:=2) hx4 rfl rfl (by simp[o1])]
 simp[loadE,readB,hlt,ABlk.cells,readN,hj]
 have hcc:Ch (fun b=>b=m.length) m4 (m4.set m.length (.own [.int .i64 (makeD ((1,n)::bs)).1.b,t] 26 none)):=Ch.setS _ rfl
 refine ⟨hcc.pre (hm1.trans (hm13.trans hm4)) fun b hb h=>by omega,t,rfl,ht.ch hcc fun b hb h=>?_,fun b hb=>⟨?_,by simpa using (htb b hb).2⟩⟩
 ·have:=(htb b hb).1
  have:=hm13.length_le
  omega
 ·have:=(htb b hb).1
  have:=hm1.length_le
  have:=hm13.length_le
  omega
set_option maxHeartbeats 4000000 in
theorem k38 (s:AVal) (n:Int) (bs:List (Int×Int)) (m:AMem) (hs:SlF 2 bdC m s bs) (hn:bs.length<2^20):
  ACalls Tryd.prog 38 [.int .i64 n,s] m fun v m'=>m<+:m'∧ ∃w,v= .tuple [w,.int .i64 (joinD n bs).2]∧DsO m.length m' w (joinD n bs).1:=by
 refine w38 ?_
 have hm1:m<+:m++ [ABlk.own [AVal.int .i64 0,AVal.nilslice] 32 none]:=List.prefix_append _ _
 have hx1:(m++ [ABlk.own [AVal.int .i64 0,AVal.nilslice] 32 none])[m.length]? =some (.own [.int .i64 0,.nilslice] 32 none):=by simp
 simp
 generalize m++ [ABlk.own [AVal.int .i64 0,AVal.nilslice] 32 none]=m1 at*
 refine bbind_dec (fun h=>?_) fun h=>?_
 ·have hlt:=(List.getElem?_eq_some_iff.1 hx1).1
  have hj:joinD n bs=(.zero,11):=by unfold joinD;rw[if_pos h]
  simp[fillA]
  rw[store_boxN (cs:= [.int .i64 0,.nilslice]) (n:=2) hx1 rfl rfl rfl]
  simp[loadE,readB,hlt,ABlk.cells,readN,hj]
  have hcc:Ch (fun b=>b=m.length) m1 (m1.set m.length (.own [.int .i64 0,.nilslice] 32 none)):=Ch.setS _ rfl
  exact ⟨hcc.pre hm1 fun b hb h=>by omega,DsO.zero _ _⟩
 have hj:joinD n bs=makeD ((1,n)::bs):=by unfold joinD;rw[if_neg h]
 simp[fillA,setN]
 have hO:=OwF.new (w:=2) (f:=bdC) m1 88 [(1,n)]
 have hm2:m1<+:m1++ [ABlk.own [AVal.int .i64 1,AVal.int .i64 n] 88 none]:=List.prefix_append _ _
 have hO2:OwF 2 bdC m1.length (m1++ [ABlk.own [AVal.int .i64 1,AVal.int .i64 n] 88 none]) 88 (.slice m1.length 0 1 1 none) [(1,n)]:=hO
 clear hO
 have hbl:(AVal.slice m1.length 0 1 1 none).blk=some m1.length:=rfl
 have hl12:(m1++ [ABlk.own [AVal.int .i64 1,AVal.int .i64 n] 88 none]).length=m1.length+1:=by simp
 generalize AVal.slice m1.length 0 1 1 none=sl at*
 generalize m1++ [ABlk.own [AVal.int .i64 1,AVal.int .i64 n] 88 none]=m2 at*
 have hs2:=hs.mono (hm1.trans hm2)
 obtain ⟨o',m3,happ,hch,hO3,hg3⟩:=hO2.append (by omega) (by_:=16) (by omega) bs (by simp;omega)
 simp[hs2.cells,happ]
 have hx2:=prefix_get hm2 hx1
 have hl1:=(List.getElem?_eq_some_iff.1 hx1).1
 have hx3:=hch.keep _ _ hx2 (fun h=>by rw[hbl,Option.some.injEq] at h;omega)
 have hm13:m1<+:m3:=hch.pre hm2 fun b hb h=>by rw[hbl,Option.some.injEq] at h;omega
 refine C_of (k13 o' ((1,n)::bs) m3 hO3.sl (by simp;omega)) ?_
 rintro _ m4 ⟨hm4,w,rfl,hD⟩
 obtain ⟨t,rfl,ht,htb⟩:=hD
 obtain ⟨o1,o2⟩:=ht.one
 have hx4:=prefix_get hm4 hx3
 have hlt:=(List.getElem?_eq_some_iff.1 hx4).1
 simp
 rw[store_boxN (cs:= [.int .i64 (makeD ((1,n)::bs)).1.b,t]) (n:=2) hx4 rfl rfl (by simp[o1])]
 simp[loadE,readB,hlt,ABlk.cells,readN,hj]
 have hcc:Ch (fun b=>b=m.length) m4 (m4.set m.length (.own [.int .i64 (makeD ((1,n)::bs)).1.b,t] 32 none)):=Ch.setS _ rfl
 refine ⟨hcc.pre (hm1.trans (hm13.trans hm4)) fun b hb h=>by omega,t,rfl,ht.ch hcc fun b hb h=>?_,fun b hb=>⟨?_,by simpa using (htb b hb).2⟩⟩
 ·have:=(htb b hb).1
  have:=hm13.length_le
  omega
 ·have:=(htb b hb).1
  have:=hm1.length_le
  have:=hm13.length_le
  omega
set_option maxHeartbeats 4000000 in
theorem k6 (s:AVal) (n:Int) (bs:List (Int×Int)) (m:AMem) (hs:SlF 2 bdC m s bs) (hn:bs.length<2^62):
  ACalls Tryd.prog 6 [.int .i64 n,s] m fun v m'=>m<+:m'∧v= .bool true:=by
 refine w6 ?_
 simp
 refine C_of (k11 m) ?_
 rintro _ m1 ⟨hm1,rfl⟩
 simp[hs.len]
 by_cases hl:5<bs.length
 ·have hl':(5:Int)<(bs.length:Int):=by omega
  simp[hl']
  refine C_of (k11 m1) ?_
  rintro _ m2 ⟨hm2,rfl⟩
  simp[hm1.trans hm2]
 have hl': ¬(5:Int)<(bs.length:Int):=by omega
 simp[hl']
 refine C_of (k37 s n bs m1 (hs.mono hm1) (by omega)) ?_
 rintro _ m2 ⟨hm2,w,rfl,hD⟩
 replace hD:=hD.ds
 obtain ⟨t,rfl,ht,htb⟩:=id hD
 obtain ⟨o1,o2⟩:=ht.one
 simp
 rw[store_new m2 _ [AVal.int .i64 (joinD n bs).1.b,t] _ _ 2 rfl rfl (by simp[o1])]
 have hb:=readB_new m2 [AVal.int .i64 (joinD n bs).1.b,t] 26 none
 have hm3:m2<+:m2++ [ABlk.own [AVal.int .i64 (joinD n bs).1.b,t] 26 none]:=List.prefix_append _ _
 generalize m2++ [ABlk.own [AVal.int .i64 (joinD n bs).1.b,t] 26 none]=m3 at*
 generalize m2.length=b5 at*
 have hm03:=hm1.trans (hm2.trans hm3)
 simp
 refine C_of (k14 s bs m3 (hs.mono hm03) (by omega)) ?_
 rintro v4 m4 ⟨hm4,hs4⟩
 simp
 refine C_of (k38 v4 n bs m4 hs4 (by omega)) ?_
 rintro _ m5 ⟨hm5,w',rfl,hE⟩
 replace hE:=hE.ds
 obtain ⟨t',rfl,ht',htb'⟩:=id hE
 obtain ⟨o1',o2'⟩:=ht'.one
 simp
 rw[store_new m5 _ [AVal.int .i64 (joinD n bs).1.b,t'] _ _ 2 rfl rfl (by simp[o1'])]
 have hb7:=readB_new m5 [AVal.int .i64 (joinD n bs).1.b,t'] 32 none
 have hm6:m5<+:m5++ [ABlk.own [AVal.int .i64 (joinD n bs).1.b,t'] 32 none]:=List.prefix_append _ _
 generalize m5++ [ABlk.own [AVal.int .i64 (joinD n bs).1.b,t'] 32 none]=m6 at*
 generalize m5.length=b7 at*
 have hm36:=hm4.trans (hm5.trans hm6)
 have hbw:=bxW (readB_mono hm36 hb) 2
 have hbw7:=bxW hb7 2
 simp[readN] at hbw hbw7
 simp[hbw,hbw7]
 have hlen:(joinD n bs).1.ds.length<2^30:=by
  unfold joinD makeD
  split
  ·simp[Dsc.zero]
  ·split
   ·simp[Dsc.zero]
   ·simp only[plainW_len,List.length_cons];omega
 refine C_of (k15 _ _ (joinD n bs).1 m6 (hD.mono (hm3.trans hm36)) (hE.mono hm6) hlen) ?_
 rintro _ m7 ⟨hm7,rfl⟩
 simp[hm03.trans (hm36.trans hm7)]
end Go.Proofs.YtodhalcpnmddjaaDoor
namespace Go.Proofs.YtodhalcpnmddjaaDoor
open Go Ax
set_option maxRecDepth 100000
def farT (s:Int):Bool:=decide (1099511627776<s)||decide (s< -1099511627776)
def stepsOk:List Dm→List Int→Bool
 |d::ds,x::xs=>(decide (x=d.l)|| !farT d.s)&&stepsOk ds xs
 |_,_=>true
def atOk (b:Int) (ds:List Dm) (ss:List Int) (n:Int):Bool:= !farB b&&(stepsOk ds ss&&(decide (0≤b+plcO ds ss)&&decide (b+plcO ds ss<n)))
theorem farS_eq (d:Dm):farS d=(decide (2≤d.n)&&farT d.s):=rfl
theorem mem_els {d:Dm} {ds:List Dm} {x:Int} {xs:List Int}:x::xs∈els (d::ds)↔(∃i:Nat,i<d.n∧x=d.l+i)∧xs∈els ds:=by
 rw[els,List.mem_flatMap]
 constructor
 ·rintro ⟨i,hi,h⟩
  obtain ⟨tt,ht,e⟩:=List.mem_map.1 h
  simp only[List.cons.injEq] at e
  obtain ⟨rfl,rfl⟩:=e
  exact ⟨⟨i,List.mem_range.1 hi,rfl⟩,ht⟩
 ·rintro ⟨⟨i,hi,rfl⟩,h⟩
  exact ⟨i,List.mem_range.2 hi,List.mem_map.2 ⟨xs,h,rfl⟩⟩
theorem fstE_mem: ∀{ds:List Dm},(∀d∈ds,1≤d.n)→fstE ds∈els ds
 | [],_=>by simp[fstE,els]
 |d::ds,h=>mem_els.2 ⟨⟨0,by have:=h d List.mem_cons_self;omega,by simp⟩,fstE_mem fun d hd=>h d (List.mem_cons_of_mem _ hd)⟩
theorem steps_all: ∀{ds:List Dm},(∀d∈ds,1≤d.n)→((∀ss∈els ds,stepsOk ds ss=true)↔ds.any farS=false)
 | [],_=>by simp[stepsOk]
 |d::ds,h=>by
  have ih:=steps_all (ds:=ds) fun d hd=>h d (List.mem_cons_of_mem _ hd)
  have hd1:=h d List.mem_cons_self
  have hf:=fstE_mem (ds:=ds) fun d hd=>h d (List.mem_cons_of_mem _ hd)
  rw[List.any_cons,Bool.or_eq_false_iff,←ih]
  constructor
  ·intro hs
   refine ⟨?_,fun ss hss=>?_⟩
   ·rw[farS_eq]
    by_cases h2:2≤d.n
    ·have:=hs _ (mem_els.2 ⟨⟨1,by omega,rfl⟩,hf⟩)
     rw[stepsOk,Bool.and_eq_true,Bool.or_eq_true,decide_eq_true_iff] at this
     rcases this.1 with h3|h3
     ·omega
     ·have h4:farT d.s=false:=by simpa using h3
      rw[h4,Bool.and_false]
    ·rw[decide_eq_false h2,Bool.false_and]
   ·have:=hs _ (mem_els.2 ⟨⟨0,by omega,rfl⟩,hss⟩)
    rw[stepsOk,Bool.and_eq_true] at this
    exact this.2
  ·rintro ⟨h1,h2⟩ ss hss
   match ss,hss with
   | [],hss=>have:=els_len hss;simp at this
   |x::xs,hss=>
    obtain ⟨⟨i,hi,rfl⟩,hxs⟩:=mem_els.1 hss
    rw[stepsOk,h2 xs hxs,Bool.and_true,Bool.or_eq_true,decide_eq_true_iff]
    by_cases h0:i=0
    ·subst h0;exact .inl (by simp)
    ·rw[farS_eq,decide_eq_true (show 2≤d.n by omega),Bool.true_and] at h1
     exact .inr (by rw[h1];rfl)
theorem at_all {b n:Int} {ds:List Dm} (h:emptyB (bndsD ds)=false):(∀ss∈els ds,atOk b ds ss n=true)↔rangeI b ds n=0:=by
 have hp:=empty_pos h
 have hst:=steps_all hp
 have hin:(∀ss∈els ds,0≤b+plcO ds ss∧b+plcO ds ss<n)↔ ∀o∈offs ds,0≤b+o∧b+o<n:=by
  rw[←els_offs]
  simp only[List.mem_map]
  constructor
  ·rintro hh _ ⟨ss,hss,rfl⟩;exact hh ss hss
  ·intro hh ss hss;exact hh _ ⟨ss,hss,rfl⟩
 constructor
 ·intro hh
  have hb:farB b=false:=by
   have:=hh _ (fstE_mem hp)
   unfold atOk at this
   rw[Bool.and_eq_true] at this
   simpa using this.1
  have hs:ds.any farS=false:=hst.1 fun ss hss=>by
   have:=hh ss hss
   unfold atOk at this
   rw[Bool.and_eq_true,Bool.and_eq_true] at this
   exact this.2.1
  refine (range_iff h hb hs).2 (hin.1 fun ss hss=>?_)
  have:=hh ss hss
  unfold atOk at this
  rw[Bool.and_eq_true,Bool.and_eq_true,Bool.and_eq_true,decide_eq_true_iff,decide_eq_true_iff] at this
  exact this.2.2
 ·intro hr ss hss
  have h1:farB b=false∧ds.any farS=false:=by
   unfold rangeI at hr
   split at hr
   ·cases hr
   ·rename_i hh
    simp only[not_or,Bool.not_eq_true] at hh
    exact hh
  have h2:=(hin.2 ((range_iff h h1.1 h1.2).1 hr)) ss hss
  unfold atOk
  rw[h1.1,hst.2 h1.2 ss hss,decide_eq_true h2.1,decide_eq_true h2.2]
  rfl
end Go.Proofs.YtodhalcpnmddjaaDoor
namespace Go.Proofs.YtodhalcpnmddjaaDoor
open Go Ax
set_option maxRecDepth 100000
set_option maxHeartbeats 4000000 in
theorem k26 (v:AVal) (d:Dsc) (m:AMem) (hv:DsR m v d) (hn:d.ds.length<2^30):ACalls Tryd.prog 26 [v] m fun r m'=>m<+:m'∧SlF 2 bdC m' r d.bnds:=by
 obtain ⟨s,rfl,hs,_⟩:=hv
 obtain ⟨b,ds⟩:=d
 simp only[Dsc.bnds] at*
 refine w26 ?_
 obtain ⟨h1,h2⟩:=hs.one
 simp[h1,h2]
 have hb:=readB_new m [AVal.int .i64 b,s] 32 none
 have hm:m<+:m++ [ABlk.own [AVal.int .i64 b,s] 32 none]:=List.prefix_append _ _
 generalize m++ [ABlk.own [AVal.int .i64 b,s] 32 none]=m1 at*
 generalize hb0:m.length=b0 at*
 obtain ⟨I,hI⟩: ∃I:Nat→AFrame→AMem→Prop,∀q f m',I q f m'↔(∃(i:Nat) (o:AVal),i+q=ds.length∧f=h26_0 (.ptr b0 0) o (.int .i64 i)∧m1<+:m'∧OwF 2 bdC m1.length m' 88 o (bndsD (ds.take i))):=⟨_,fun _ _ _=>Iff.rfl⟩
 refine W_loop I ds.length ((hI _ _ _).2 ⟨0,.nilslice,by simp,by simp,List.prefix_refl _,OwF.nil⟩) ?_
 rintro q f m2 hIn
 obtain ⟨i,o,hq,rfl,hm2,hO⟩:=(hI _ _ _).1 hIn
 clear hIn
 have hb2:=readB_mono hm2 hb
 have hm02:=hm.trans hm2
 simp[bx hb2,hs.len]
 refine bbind_dec (fun hil=>?_) fun hil=>?_
 rotate_left
 ·have:i=ds.length:=by omega
  subst this
  rw[List.take_length] at hO
  simp
  exact ⟨hm02,hO.sl⟩
 have hil:i<ds.length:=by omega
 have hw:IntKind.i64.wrap ((i:Int)+1)=(i:Int)+1:=wrap64 (by omega) (by omega)
 obtain ⟨b1,o1,p1,p2,_⟩:=(hs.mono hm02).at hil
 have htk:bndsD (ds.take (i+1))=bndsD (ds.take i)++ [(ds[i].l,ds[i].u)]:=by
  unfold bndsD
  rw[take_snoc hil,List.map_append]
  rfl
 have hlen:(bndsD (ds.take i)).length=i:=by simp[bndsD];omega
 generalize ds[i]=x at*
 have p20:=p2 0 (by omega)
 have p21:=p2 1 (by omega)
 simp[dmC] at p20 p21
 simp
 refine W_draw (fun _ _ _=>True) (by simp[maxDst]) ?_
 refine D_pc 0 14 [14,15,16] ?_
 simp[bx hb2,p1,p20,p21,fillA,setN]
 intro fs _
 refine D_An rfl trivial ?_
 simp[fillA,setN]
 intro b9 hb9
 refine D_X rfl rfl fun m3 hm3 hf=>?_
 have hf9:=hf 14
 simp[upd] at hf9
 have hsc:sliceCells m3 2 (.slice b9 0 1 1 none)=some (1,[.int .i64 x.l,.int .i64 x.u]):=by simp[sliceCells,readB,hf9,ABlk.cells,readN]
 have hm13:=hm2.trans hm3
 obtain ⟨o',m4,happ,hch,hO4,hg4⟩:=(hO.mono hm3).push (by have:=hm13.length_le;omega) (by_:=16) (by omega) (x.l,x.u) (by omega)
 simp only[bdC] at happ
 simp[hsc,happ,lateOf]
 refine D_P rfl trivial ?_
 simp
 refine D_end fun m5 hm5 _=>?_
 simp[hw]
 refine ⟨q-1,by omega,(hI _ _ _).2 ⟨i+1,o',by omega,by simp,(hch.pre hm13 fun b hb e=>by have:=(hO.blk_lo e).1;omega).trans hm5,?_⟩⟩
 rw[htk]
 exact hO4.mono hm5
theorem nxt_take: ∀(k:Nat) (ds:List Dm) (xs ys:List Int),k≤ds.length→xs.length=ds.length→nxtE (ds.drop k) (xs.drop k)=some ys→nxtE ds xs=some (xs.take k++ys)
 |0,ds,xs,ys,_,_,h=>by simpa using h
 |k+1,d::ds,x::xs,ys,hk,hl,h=>by
  simp only[List.drop_succ_cons] at h
  have:=nxt_take k ds xs ys (by simpa using hk) (by simpa using hl) h
  simp[nxtE,this]
 |k+1,[],_,_,hk,_,_=>by simp at hk
 |k+1,_::_,[],_,_,hl,_=>by simp at hl
def inAll (ds:List Dm) (xs:List Int):Prop:=xs.length=ds.length∧ ∀(i:Nat) (d:Dm) (x:Int),ds[i]? =some d→xs[i]? =some x→d.l≤x∧x≤d.u
def nearD (ds:List Dm):Prop:= ∀x∈ds,(nearI x.l&&nearI x.u)=true
set_option maxHeartbeats 8000000 in
theorem k64 (v t:AVal) (d:Dsc) (xs:List Int) (lo:Nat) (m:AMem) (hv:DsR m v d) (hn:d.ds.length<2^30) (hO:OwL (AVal.int .i64) lo m 2 t xs) (hx:inAll d.ds xs) (hnr:nearD d.ds) (hbl: ∀s,v= .agg [.int .i64 d.b,s]→ ∀b,s.blk=some b→ ¬t.blk=some b):
  ACalls Tryd.prog 64 [v,t] m fun r m'=>Ch (fun b=>t.blk=some b) m m'∧r= .bool (nxtE d.ds xs).isSome∧OwL (AVal.int .i64) lo m' 2 t ((nxtE d.ds xs).getD (fstE d.ds)):=by
 obtain ⟨s,rfl,hs,hsb⟩:=hv
 replace hbl:=hbl s rfl
 obtain ⟨b,ds⟩:=d
 simp only at*
 obtain ⟨hxl,hxi⟩:=hx
 refine w64 ?_
 obtain ⟨h1,h2⟩:=hs.one
 simp[h1,h2]
 have hb:=readB_new m [AVal.int .i64 b,s] 32 none
 have hm:m<+:m++ [ABlk.own [AVal.int .i64 b,s] 32 none]:=List.prefix_append _ _
 have hO1:=hO.mono hm
 generalize m++ [ABlk.own [AVal.int .i64 b,s] 32 none]=m1 at*
 have hlt: ∀c,t.blk=some c→c<m.length:=fun c h=>(hO.blk_lo h).2
 generalize hb0:m.length=b0 at*
 have hw0:IntKind.i64.wrap ((xs.length:Int)-1)=(xs.length:Int)-1:=wrap64 (by omega) (by omega)
 simp[hO1.len,hw0]
 obtain ⟨I,hI⟩: ∃I:Nat→AFrame→AMem→Prop,∀q f m',I q f m'↔(q≤ds.length∧f=h64_0 t (.ptr b0 0) (.int .i64 ((q:Int)-1))∧Ch (fun c=>t.blk=some c) m1 m'∧OwL (AVal.int .i64) lo m' 2 t (xs.take q++fstE (ds.drop q))∧nxtE (ds.drop q) (xs.drop q)=none):=⟨_,fun _ _ _=>Iff.rfl⟩
 refine W_loop I ds.length ((hI _ _ _).2 ⟨Nat.le_refl _,by simp[hxl],.refl _ _,?_,?_⟩) ?_
 ·rw[List.take_of_length_le (by omega),List.drop_length]
  simpa[fstE] using hO1
 ·rw[List.drop_length];simp[nxtE]
 rintro q f m2 hIn
 obtain ⟨hq,rfl,hc2,hO2,hnx⟩:=(hI _ _ _).1 hIn
 clear hIn
 have hb2:=hc2.read (fun h=>by have:=hlt _ h;omega) hb
 have hs2:SlF 3 dmC m2 s ds:=(hs.mono hm).ch hc2 hbl
 simp
 refine bbind_dec (fun hq0=>?_) fun hq0=>?_
 rotate_left
 ·have:q=0:=by omega
  subst this
  simp only[List.take_zero,List.drop_zero,List.nil_append] at hO2 hnx
  simp[hnx]
  exact ⟨(Ch.of_prefix hm).trans hc2,hO2⟩
 obtain ⟨p,rfl⟩: ∃p,q=p+1:=⟨q-1,by omega⟩
 have hp:p<ds.length:=by omega
 have hpx:p<xs.length:=by omega
 obtain ⟨g1,g2⟩:=hxi p ds[p] xs[p] (List.getElem?_eq_getElem hp) (List.getElem?_eq_getElem hpx)
 have hnp:=hnr ds[p] (List.getElem_mem hp)
 simp only[nearI,Bool.and_eq_true,decide_eq_true_eq] at hnp
 have hcp:((p+1:Nat):Int)-1=(p:Int):=by omega
 have hL:xs.take (p+1)++fstE (ds.drop (p+1))=xs.take p++xs[p]::fstE (ds.drop (p+1)):=by rw[take_snoc hpx,List.append_assoc];rfl
 rw[hL] at hO2
 have hplen:(xs.take p).length=p:=by rw[List.length_take];omega
 have hset: ∀z,(xs.take p++xs[p]::fstE (ds.drop (p+1))).set p z=xs.take p++z::fstE (ds.drop (p+1)):=fun z=>by
  rw[List.set_append_right _ _ (by omega),hplen,Nat.sub_self,List.set_cons_zero]
 obtain ⟨bt,ot,e0,e1,e2,e3⟩:=hO2.at (i:=p) (by simp;omega)
 have hget:(xs.take p++xs[p]::fstE (ds.drop (p+1)))[p]'(by simp;omega)=xs[p]:=by
  rw[List.getElem_append_right (by omega)]
  simp[hplen]
 rw[hget] at e2
 have hdr:nxtE (ds.drop p) (xs.drop p)=if xs[p]+1≤ds[p].u then some ((xs[p]+1)::fstE (ds.drop (p+1))) else none:=by
  rw[List.drop_eq_getElem_cons hp,List.drop_eq_getElem_cons hpx]
  simp only[nxtE,hnx]
 have hfd:fstE (ds.drop p)=ds[p].l::fstE (ds.drop (p+1)):=by rw[List.drop_eq_getElem_cons hp];rfl
 have hnt:=nxt_take p ds xs ((xs[p]+1)::fstE (ds.drop (p+1))) (by omega) hxl
 have hw1:IntKind.i64.wrap (xs[p]+1)=xs[p]+1:=wrap64 (by omega) (by omega)
 have hw2:IntKind.i64.wrap ((p:Int)-1)=(p:Int)-1:=wrap64 (by omega) (by omega)
 obtain ⟨m3,s1,s2,s3⟩:=e3 (xs[p]+1)
 rw[hset] at s3
 have hc3:Ch (fun c=>t.blk=some c) m1 m3:=hc2.trans (s2.weaken fun c _ h=>by rw[h];exact e0)
 have hb3:=hc3.read (fun h=>by have:=hlt _ h;omega) hb
 have hs3:SlF 3 dmC m3 s ds:=(hs.mono hm).ch hc3 hbl
 obtain ⟨bt',ot',e0',e1',e2',e3'⟩:=s3.at (i:=p) (by simp;omega)
 have hget':(xs.take p++(xs[p]+1)::fstE (ds.drop (p+1)))[p]'(by simp;omega)=xs[p]+1:=by
  rw[List.getElem_append_right (by omega)]
  simp[hplen]
 rw[hget'] at e2'
 obtain ⟨rfl,rfl⟩:bt'=bt∧ot'=ot:=by have:=(e1' .i64).symm.trans (e1 .i64);simpa using this
 obtain ⟨bd,od,p1,p2,_⟩:=hs3.at hp
 have p20:=p2 0 (by omega)
 have p21:=p2 1 (by omega)
 simp[dmC] at p20 p21
 have hset': ∀z,(xs.take p++(xs[p]+1)::fstE (ds.drop (p+1))).set p z=xs.take p++z::fstE (ds.drop (p+1)):=fun z=>by
  rw[List.set_append_right _ _ (by omega),hplen,Nat.sub_self,List.set_cons_zero]
 rw[hcp]
 simp[e1,e2,hw1,s1]
 refine W_drawPR (by simp[maxDst]) rfl rfl ?_
 simp[e1,e2',bx hb3,p1,p21]
 intro m4 hm4
 have hc4:=hc3.trans (.of_prefix hm4)
 by_cases hu:xs[p]+1≤ds[p].u
 ·rw[hdr,if_pos hu] at hnt
  have:=hnt rfl
  simp[hu,this]
  exact ⟨(Ch.of_prefix hm).trans hc4,s3.mono hm4⟩
 ·obtain ⟨bt2,ot2,e02,e12,_,e32⟩:=(s3.mono hm4).at (i:=p) (by simp;omega)
  obtain ⟨rfl,rfl⟩:bt2=bt'∧ot2=ot':=by have:=(e12 .i64).symm.trans (e1 .i64);simpa using this
  obtain ⟨m5,q1,q2,q3⟩:=e32 ds[p].l
  rw[hset'] at q3
  have hb4:=readB_mono hm4 hb3
  obtain ⟨bd2,od2,p12,p22,_⟩:=(hs3.mono hm4).at hp
  have p220:=p22 0 (by omega)
  simp[dmC] at p220
  simp[hu,bx hb4,p12,p220,e1,q1,hw2]
  refine ⟨p,by omega,(hI _ _ _).2 ⟨by omega,by simp,hc4.trans (q2.weaken fun c _ h=>by rw[h];exact e02),?_,?_⟩⟩
  ·rw[hfd];exact q3
  ·rw[hdr,if_neg hu]
end Go.Proofs.YtodhalcpnmddjaaDoor
namespace Go.Proofs.YtodhalcpnmddjaaDoor
open Go Ax
set_option maxRecDepth 100000
theorem els_in: ∀{ds:List Dm} {ss:List Int},ss∈els ds→inAll ds ss
 | [],ss,h=>by simp[els] at h;subst h;exact ⟨rfl,fun i d x hd=>by simp at hd⟩
 |d::ds,ss,h=>by
  rw[els,List.mem_flatMap] at h
  obtain ⟨i,hi,h⟩:=h
  obtain ⟨tt,ht,rfl⟩:=List.mem_map.1 h
  have hin:=List.mem_range.1 hi
  obtain ⟨h1,h2⟩:=els_in ht
  refine ⟨by simp[h1],fun j e x hd hx=>?_⟩
  cases j with
  |zero=>
   simp at hd hx
   subst hd hx
   obtain ⟨_,hn⟩:=Dm.n_pos (d:=d) (by omega)
   omega
  |succ j=>exact h2 j e x (by simpa using hd) (by simpa using hx)
def elsD (d:Dsc):List (List Int):=match cntI d.bnds with
 |some (_+1)=>els d.ds
 |_=> []
def ElR (lo:Nat) (m:AMem) (s:AVal) (xss:List (List Int)) (t:AVal):Prop:=
 ∃ss:List AVal,Ow lo m 1 50 s ss.length ss∧ss.length=xss.length∧ ∀(i:Nat) (x:AVal) (ys:List Int),ss[i]? =some x→xss[i]? =some ys→RInts m x ys∧ ∀b,x.blk=some b→lo≤b∧b<m.length∧ ¬s.blk=some b∧ ¬t.blk=some b
theorem ElR.nil {lo:Nat} {m:AMem} {t:AVal}:ElR lo m .nilslice [] t:=⟨[],Ow.nil,rfl,fun i x ys h=>by simp at h⟩
theorem ElR.ch {lo:Nat} {m m':AMem} {s t:AVal} {xss:List (List Int)} {S:Nat→Prop} (h:ElR lo m s xss t) (hc:Ch S m m') (hs: ∀b,lo≤b→b<m.length→S b→t.blk=some b) (hst: ∀b,s.blk=some b→ ¬t.blk=some b):ElR lo m' s xss t:=by
 obtain ⟨ss,h1,h2,h3⟩:=h
 refine ⟨ss,Ow.ch hc h1 fun b hb hS=>?_,h2,fun i x ys hx hy=>?_⟩
 ·have:=Ow.blk_lo h1 hb
  exact hst b hb (hs b this.1 this.2 hS)
 ·obtain ⟨g1,g2⟩:=h3 i x ys hx hy
  refine ⟨Sl.ch hc g1 fun b hb hS=>?_,fun b hb=>?_⟩
  ·obtain ⟨a1,a2,_,a4⟩:=g2 b hb
   exact a4 (hs b a1 a2 hS)
  ·obtain ⟨a1,a2,a3,a4⟩:=g2 b hb
   exact ⟨a1,Nat.lt_of_lt_of_le a2 hc.len,a3,a4⟩
theorem ElR.mono {lo:Nat} {m m':AMem} {s t:AVal} {xss:List (List Int)} (h:ElR lo m s xss t) (hm:m<+:m'):ElR lo m' s xss t:=by
 obtain ⟨ss,h1,h2,h3⟩:=h
 refine ⟨ss,Ow.mono hm h1,h2,fun i x ys hx hy=>?_⟩
 obtain ⟨g1,g2⟩:=h3 i x ys hx hy
 exact ⟨Sl.mono g1 hm,fun b hb=>by obtain ⟨a1,a2,a3,a4⟩:=g2 b hb;exact ⟨a1,Nat.lt_of_lt_of_le a2 hm.length_le,a3,a4⟩⟩
theorem ElR.push {lo:Nat} {m:AMem} {s t x:AVal} {xss:List (List Int)} {ys:List Int} (h:ElR lo m s xss t) (hlo:lo≤m.length) (hx:RInts m x ys) (hxb: ∀b,x.blk=some b→lo≤b∧b<m.length∧ ¬s.blk=some b∧ ¬t.blk=some b) (hsz:xss.length≤2^40):
  ∃s' m',appendE m 1 24 50 s 1 [x]=some (s',m')∧Ch (fun b=>s.blk=some b) m m'∧ElR lo m' s' (xss++ [ys]) t∧(∀b,s'.blk=some b→s.blk=some b∨m.length≤b):=by
 obtain ⟨ss,h1,h2,h3⟩:=h
 have hx1:=(rints_one hx).1
 obtain ⟨s',m',e1,e2,e3,e4⟩:=Ow.append h1 hlo (k:=1) (xs:= [x]) (bytes:=24) rfl (by simp[hx1]) (by omega) (by omega)
 refine ⟨s',m',e1,e2,⟨ss++ [x],by rw[List.length_append];exact e3,by simp[h2],fun i z zs hz hzs=>?_⟩,e4⟩
 have key: ∀{z:AVal} {zs:List Int},RInts m z zs→(∀b,z.blk=some b→lo≤b∧b<m.length∧ ¬s.blk=some b∧ ¬t.blk=some b)→RInts m' z zs∧ ∀b,z.blk=some b→lo≤b∧b<m'.length∧ ¬s'.blk=some b∧ ¬t.blk=some b:=fun g1 g2=>
  ⟨Sl.ch e2 g1 fun b hb hS=>(g2 b hb).2.2.1 hS,fun b hb=>by
   obtain ⟨a1,a2,a3,a4⟩:=g2 b hb
   refine ⟨a1,Nat.lt_of_lt_of_le a2 e2.len,fun hs'=>?_,a4⟩
   rcases e4 b hs' with h|h
   ·exact a3 h
   ·omega⟩
 rcases Nat.lt_or_ge i ss.length with hlt|hge
 ·rw[List.getElem?_append_left hlt] at hz
  rw[List.getElem?_append_left (by omega)] at hzs
  obtain ⟨g1,g2⟩:=h3 i z zs hz hzs
  exact key g1 g2
 ·rw[List.getElem?_append_right hge] at hz
  rw[List.getElem?_append_right (by omega),←h2] at hzs
  cases hi:i-ss.length with
  |zero=>
   rw[hi] at hz hzs
   simp only[List.getElem?_cons_zero,Option.some.injEq] at hz hzs
   subst hz hzs
   exact key hx hxb
  |succ j=>rw[hi] at hz;simp at hz
theorem ElR.len {lo:Nat} {m:AMem} {s t:AVal} {xss:List (List Int)} (h:ElR lo m s xss t):lenE s=some (.int .i64 xss.length):=by
 obtain ⟨ss,h1,h2,_⟩:=h
 rw[←h2]
 exact (Ow.sl h1).len
theorem ElR.at {lo:Nat} {m:AMem} {s t:AVal} {xss:List (List Int)} (h:ElR lo m s xss t) {i:Nat} (hi:i<xss.length): ∃b o x,(∀k,iaddrE 1 s (.int k i)=some (.ptr b o))∧loadE m 1 false (.ptr b o)=some x∧RInts m x xss[i]:=by
 obtain ⟨ss,h1,h2,h3⟩:=h
 obtain ⟨b,o,e1,e2,_⟩:=(Ow.sl h1).at (i:=i) (by omega)
 have hx:=e2 0 (by omega)
 simp only[Nat.mul_one,Nat.add_zero] at hx
 have hil:i<ss.length:=by omega
 rw[List.getElem?_eq_getElem hil] at hx
 exact ⟨b,o,ss[i],e1,hx,(h3 i _ _ (List.getElem?_eq_getElem hil) (List.getElem?_eq_getElem hi)).1⟩
end Go.Proofs.YtodhalcpnmddjaaDoor
namespace Go.Proofs.YtodhalcpnmddjaaDoor
open Go Ax
set_option maxRecDepth 100000
theorem chain_get {f:List Int→Option (List Int)}: ∀{ys:List (List Int)} {x:List Int},Chain f x ys→ ∀(k:Nat) (hk:k<(x::ys).length),f (x::ys)[k]=(x::ys)[k+1]?
 | [],x,h,k,hk=>by
  obtain rfl:k=0:=by simpa using hk
  exact h
 |y::ys,x,⟨h0,h1⟩,0,_=>by simpa using h0
 |y::ys,x,⟨h0,h1⟩,k+1,hk=>by simpa using chain_get h1 k (by simpa using hk)
theorem els_nxt {ds:List Dm} (h: ∀d∈ds,1≤d.n):(els ds)[0]? =some (fstE ds)∧ ∀(k:Nat) (hk:k<(els ds).length),nxtE ds (els ds)[k]=(els ds)[k+1]? :=by
 obtain ⟨rest,h1,h2⟩:=els_chain h
 rw[h1]
 exact ⟨rfl,fun k hk=>chain_get h2 k hk⟩
theorem cnt_pos {ds:List Dm} {n:Nat} (h:cntI (bndsD ds)=some (n+1)):(∀d∈ds,1≤d.n)∧cntN ds=n+1∧n+1≤65536:=by
 unfold cntI at h
 split at h
 ·simp at h
 rename_i he
 split at h
 ·rename_i hp
  rw[prodN_cnt] at h hp
  simp only[Option.some.injEq] at h
  refine ⟨fun d hd=>?_,h,by omega⟩
  have he:emptyB (bndsD ds)=false:=by simpa using he
  unfold emptyB at he
  rw[List.any_eq_false] at he
  have:=he (d.l,d.u) (List.mem_map.2 ⟨d,hd,rfl⟩)
  have hl:lenB (d.l,d.u)=d.n:=rfl
  rw[hl] at this
  simp at this
  omega
 ·simp at h
set_option maxHeartbeats 8000000 in
theorem k39 (v:AVal) (d:Dsc) (m:AMem) (hv:DsR m v d) (hn:d.ds.length<2^30) (hnr:nearD d.ds):
  ACalls Tryd.prog 39 [v] m fun r m'=>m<+:m'∧ElR m.length m' r (elsD d) .nilslice:=by
 obtain ⟨s,rfl,hs,hsb⟩:=hv
 have hvr: ∀m',m<+:m'→DsR m' (.agg [.int .i64 d.b,s]) d:=fun m' hm=>DsR.mono ⟨s,rfl,hs,hsb⟩ hm
 refine w39 ?_
 obtain ⟨h1,h2⟩:=hs.one
 simp[h1,h2]
 have hb:=readB_new m [AVal.int .i64 d.b,s] 32 none
 have hm:m<+:m++ [ABlk.own [AVal.int .i64 d.b,s] 32 none]:=List.prefix_append _ _
 have hlen1:(m++ [ABlk.own [AVal.int .i64 d.b,s] 32 none]).length=m.length+1:=by simp
 generalize m++ [ABlk.own [AVal.int .i64 d.b,s] 32 none]=m1 at*
 generalize hb0:m.length=b0 at*
 simp[bxW hb,readN]
 refine C_of (k26 _ d m1 (hvr m1 hm) hn) ?_
 rintro w m2 ⟨hm2,hw⟩
 simp
 have hnb: ∀x∈d.bnds,(nearI x.1&&nearI x.2)=true:=fun x hx=>by
  obtain ⟨e,he,rfl⟩:=List.mem_map.1 hx
  exact hnr e he
 have hbl:d.bnds.length=d.ds.length:=by simp[Dsc.bnds,bndsD]
 refine C_of (k60 w d.bnds m2 hw (by omega) hnb) ?_
 rintro _ m3 ⟨hm3,rfl⟩
 simp
 have hm13:=hm2.trans hm3
 have hm03:=hm.trans hm13
 have hb3:=readB_mono hm13 hb
 refine bbind_dec (fun h=>?_) fun h=>?_
 ·have:elsD d= []:=by
   unfold elsD
   split
   ·rename_i n e
    simp[prodI,e] at h
    omega
   ·rfl
  simp[this]
  exact ⟨hm03,ElR.nil⟩
 obtain ⟨n,hcn⟩: ∃n,cntI d.bnds=some (n+1):=by
  unfold prodI at h
  split at h
  ·rename_i n e
   exact ⟨n-1,by rw[e];congr 1;omega⟩
  ·omega
 have hel:elsD d=els d.ds:=by unfold elsD;rw[hcn]
 obtain ⟨hpos,hcnt,hsmall⟩:=cnt_pos (ds:=d.ds) hcn
 obtain ⟨hel0,helk⟩:=els_nxt hpos
 have hell:=els_count d.ds
 rw[hcnt] at hell
 rw[hel]
 clear h
 simp
 obtain ⟨I,hI⟩: ∃I:Nat→AFrame→AMem→Prop,∀q f m',I q f m'↔(∃(i:Nat) (o:AVal),i+q=d.ds.length∧f=h39_0 (.ptr b0 0) o (.int .i64 i)∧m3<+:m'∧OwL (AVal.int .i64) m3.length m' 2 o (fstE (d.ds.take i))):=⟨_,fun _ _ _=>Iff.rfl⟩
 refine W_loop I d.ds.length ((hI _ _ _).2 ⟨0,.nilslice,by simp,by simp,List.prefix_refl _,OwL.nil⟩) ?_
 rintro q f m4 hIn
 obtain ⟨i,o,hq,rfl,hm4,hO⟩:=(hI _ _ _).1 hIn
 clear hIn
 have hb4:=readB_mono hm4 hb3
 have hm04:=hm03.trans hm4
 simp[bx hb4,hs.len]
 refine bbind_dec (fun hil=>?_) fun hil=>?_
 ·have hil:i<d.ds.length:=by omega
  have hw:IntKind.i64.wrap ((i:Int)+1)=(i:Int)+1:=wrap64 (by omega) (by omega)
  obtain ⟨b1,o1,p1,p2,_⟩:=(hs.mono hm04).at hil
  have htk:fstE (d.ds.take (i+1))=fstE (d.ds.take i)++ [d.ds[i].l]:=by
   unfold fstE
   rw[take_snoc hil,List.map_append]
   rfl
  have hlen:(fstE (d.ds.take i)).length=i:=by simp[fstE];omega
  generalize d.ds[i]=x at*
  have p20:=p2 0 (by omega)
  simp[dmC] at p20
  simp[bx hb4,p1,p20,fillA,setN]
  have hpf:m4<+:m4++ [ABlk.own [AVal.int .i64 x.l] 2 none]:=List.prefix_append _ _
  have hsc:sliceCells (m4++ [ABlk.own [AVal.int .i64 x.l] 2 none]) 1 (.slice m4.length 0 1 1 none)=some (1,[.int .i64 x.l]):=by simp[sliceCells,readB,ABlk.cells,readN]
  obtain ⟨o',m6,happ,hch,hO6,hg6⟩:=(hO.mono hpf).push (by have:=(hm4.trans hpf).length_le;omega) (by_:=8) (by omega) x.l (by omega)
  simp[hsc,happ,hw]
  refine ⟨q-1,by omega,(hI _ _ _).2 ⟨i+1,o',by omega,by simp,hch.pre (hm4.trans hpf) fun b hb e=>by have:=(hO.blk_lo e).1;omega,?_⟩⟩
  rw[htk]
  exact hO6
 have:i=d.ds.length:=by omega
 subst this
 rw[List.take_length] at hO
 clear hI hil hq
 simp
 have hlo4:b0+1≤m4.length:=by have:=(hm13.trans hm4).length_le;omega
 have hlo3:b0+1≤m3.length:=by have:=hm13.length_le;omega
 have hst: ∀b,o.blk=some b→ ¬s.blk=some b:=fun b hb he=>by
  have:=(hO.blk_lo hb).1
  have:=hsb b he
  omega
 obtain ⟨J,hJ⟩: ∃J:Nat→AFrame→AMem→Prop,∀q f m',J q f m'↔(∃(k:Nat) (w:AVal) (bb:Bool),k+q=n+1∧bb=decide (k<n+1)∧f=h39_1 (.ptr b0 0) o w (.bool bb)∧m<+:m'∧readB m' b0=some [.int .i64 d.b,s]∧ElR (b0+1) m' w ((els d.ds).take k) o∧(∀b,w.blk=some b→ ¬o.blk=some b)∧b0+1≤m'.length∧(∃ys,OwL (AVal.int .i64) m3.length m' 2 o ys∧(∀h:k<(els d.ds).length,ys=(els d.ds)[k]))∧ ∀b,o.blk=some b→b<m'.length):=⟨_,fun _ _ _=>Iff.rfl⟩
 refine W_loop J (n+1) ((hJ _ _ _).2 ⟨0,.nilslice,true,by simp,by simp,by simp,hm04,hb4,by simpa using ElR.nil,fun b hb=>by simp[AVal.blk] at hb,hlo4,⟨_,hO,fun h=>?_⟩,fun b hb=>(hO.blk_lo hb).2⟩) ?_
 ·have:=hel0
  rw[List.getElem?_eq_getElem h] at this
  simpa using this.symm
 rintro q f m5 hIn
 obtain ⟨k,w,bb,hq,hbb,rfl,hm05,hb5,hE,hwo,hlo5,⟨ys,hO5,hys⟩,hob⟩:=(hJ _ _ _).1 hIn
 clear hIn
 simp
 by_cases hk:k<n+1
 rotate_left
 ·obtain rfl:k=n+1:=by omega
  simp at hbb
  subst hbb
  rw[List.take_of_length_le (by omega)] at hE
  simp
  obtain ⟨ss,g1,g2,g3⟩:=hE
  exact ⟨hm05,ss,Ow.lo g1 (Nat.le_succ _),g2,fun i x zs hx hz=>⟨(g3 i x zs hx hz).1,fun b hb=>by obtain ⟨a1,a2,a3,_⟩:=(g3 i x zs hx hz).2 b hb;exact ⟨by omega,a2,a3,by simp[AVal.blk]⟩⟩⟩
 have hys:=hys (by omega)
 have hke:k<(els d.ds).length:=by omega
 simp[hk] at hbb
 subst hbb
 simp
 have hpf:m5<+:m5++ [ABlk.own [] 2 none]:=List.prefix_append _ _
 have hN:OwL (AVal.int .i64) m5.length (m5++ [ABlk.own [] 2 none]) 2 (.slice m5.length 0 0 0 none) []:=OwL.new (f:=AVal.int .i64) m5 2 []
 obtain ⟨t',m6,happ,hch,hO6,hg6⟩:=hN.append hpf.length_le (by_:=8) (by omega) ys (by
   have:ys.length=d.ds.length:=by rw[hys];exact els_len (List.getElem_mem hke)
   simp;omega)
 have hsc:=(hO5.mono hpf).ints.cells
 rw[List.nil_append] at hO6
 simp[fillA,hsc,happ]
 have hc56:Ch (fun b=>b=m5.length) m5 m6:=(Ch.of_prefix hpf).trans (hch.weaken fun c _ h=>by simpa[AVal.blk] using h.symm)
 obtain ⟨to_,tc⟩:=rints_one hO6.ints
 simp[to_,tc,setN]
 have hE6:ElR (b0+1) m6 w ((els d.ds).take k) o:=hE.ch hc56 (fun b hb hb' h=>by omega) hwo
 have hpf6:m6<+:m6++ [ABlk.own [t'] 50 none]:=List.prefix_append _ _
 have hsc6:sliceCells (m6++ [ABlk.own [t'] 50 none]) 1 (.slice m6.length 0 1 1 none)=some (1,[t']):=by simp[sliceCells,readB,ABlk.cells,readN]
 have hl56:=hc56.len
 have hwlo: ∀b,w.blk=some b→b0+1≤b∧b<m5.length:=fun b hb=>by
  obtain ⟨ss,g1,_⟩:=hE
  exact Ow.blk_lo g1 hb
 have ht': ∀b,t'.blk=some b→m5.length≤b∧b<m6.length:=fun b hb=>hO6.blk_lo hb
 obtain ⟨w',m8,happ8,hch8,hE8,hg8⟩:=(hE6.mono hpf6).push (x:=t') (ys:=ys) (by simp;omega) (hO6.mono hpf6).ints (fun b hb=>by
  have:=ht' b hb
  refine ⟨by omega,by simp;omega,fun h=>?_,fun h=>?_⟩
  ·have:=hwlo b h;omega
  ·have:=hob b h;omega) (by rw[List.length_take];omega)
 simp[hsc6,happ8]
 have hc58:Ch (fun b=>w.blk=some b∨b=m5.length) m5 m8:=((hc56.weaken fun c _ h=> .inr h).trans (.of_prefix hpf6)).trans (hch8.weaken fun c _ h=> .inl h)
 have hm08:m<+:m8:=hc58.pre hm05 fun b hb h=>by
  rcases h with h|h
  ·have:=(hwlo b h).1;omega
  ·omega
 have hl58:=hc58.len
 have hb8:=hc58.read (fun h=>by
  rcases h with h|h
  ·have:=(hwlo b0 h).1;omega
  ·omega) hb5
 have hO8:OwL (AVal.int .i64) m3.length m8 2 o ys:=hO5.ch hc58 fun b hb h=>by
  rcases h with h|h
  ·exact hwo b h hb
  ·have:=hob b hb;omega
 have hol: ∀b,o.blk=some b→b0+1≤b:=fun b hb=>by have:=(hO5.blk_lo hb).1;omega
 simp[bxW hb8,readN]
 refine C_of (k64 _ o d ys m3.length m8 (hvr m8 hm08) hn hO8 (els_in (by rw[hys];exact List.getElem_mem hke)) hnr (fun s' hs' b hb h=>?_)) ?_
 ·simp only[AVal.agg.injEq,List.cons.injEq,and_true,true_and] at hs'
  subst hs'
  have:=hol b h
  have:=hsb b hb
  omega
 rintro _ m9 ⟨hc89,rfl,hO9⟩
 simp
 have hnx:=helk k hke
 rw[←hys] at hnx
 have hw'o: ∀b,w'.blk=some b→ ¬o.blk=some b:=fun b hb h=>by
  rcases hg8 b hb with h'|h'
  ·exact hwo b h' h
  ·have:=hob b h
   simp at h'
   omega
 refine ⟨q-1,by omega,(hJ _ _ _).2 ⟨k+1,w',(nxtE d.ds ys).isSome,by omega,?_,by simp,hc89.pre hm08 fun b hb h=>by have:=hol b h;omega,hc89.read (fun h=>by have:=hol _ h;omega) hb8,?_,hw'o,by have:=hc89.len;omega,⟨_,hO9,fun h=>?_⟩,fun b hb=>(hO9.blk_lo hb).2⟩⟩
 ·rw[hnx]
  by_cases h:k+1<n+1
  ·rw[List.getElem?_eq_getElem (by omega)]
   simp[h]
  ·rw[List.getElem?_eq_none (by omega)]
   simp[h]
 ·rw[take_snoc hke,←hys]
  exact hE8.ch hc89 (fun b _ _ h=>h) hw'o
 ·rw[hnx,List.getElem?_eq_getElem h]
  rfl
end Go.Proofs.YtodhalcpnmddjaaDoor
namespace Go.Proofs.YtodhalcpnmddjaaDoor
open Go Ax
set_option maxRecDepth 100000
def atP (b:Int) (ds:List Dm) (ss:List Int):Int:=if farB b=true∨stepsOk ds ss=false then 0 else b+plcO ds ss
def Sm (ds:List Dm):Prop:=ds.length≤3∧ ∀d∈ds,d.n≤65536
theorem farT_iff {s:Int}:farT s=false↔ -1099511627776≤s∧s≤1099511627776:=by
 unfold farT
 rw[Bool.or_eq_false_iff,decide_eq_false_iff_not,decide_eq_false_iff_not]
 omega
set_option maxHeartbeats 8000000 in
theorem k57 (v t:AVal) (d:Dsc) (ss:List Int) (n:Int) (m:AMem) (hv:DsR m v d) (ht:RInts m t ss) (hx:inAll d.ds ss) (hnr:nearD d.ds) (hsm:Sm d.ds):
  ACalls Tryd.prog 57 [v,t,.int .i64 n] m fun r m'=>m<+:m'∧r= .tuple [.int .i64 (atP d.b d.ds ss),.bool (atOk d.b d.ds ss n)]:=by
 obtain ⟨s,rfl,hs,hsb⟩:=hv
 obtain ⟨hl3,hsn⟩:=hsm
 obtain ⟨hxl,hxi⟩:=hx
 refine w57 ?_
 obtain ⟨h1,h2⟩:=hs.one
 simp[h1,h2]
 have hb:=readB_new m [AVal.int .i64 d.b,s] 32 none
 have hm:m<+:m++ [ABlk.own [AVal.int .i64 d.b,s] 32 none]:=List.prefix_append _ _
 generalize m++ [ABlk.own [AVal.int .i64 d.b,s] 32 none]=m1 at*
 generalize hb0:m.length=b0 at*
 simp[bx hb]
 by_cases hf:farB d.b=true
 ·have hp:atP d.b d.ds ss=0:=by unfold atP;rw[if_pos (.inl hf)]
  have ho:atOk d.b d.ds ss n=false:=by unfold atOk;rw[hf];rfl
  by_cases h3:d.b< -1152921504606846976
  ·simp[h3,hp,ho,hm]
  ·have h4:1152921504606846976<d.b:=by unfold farB at hf;simp only[Bool.or_eq_true,decide_eq_true_eq] at hf;omega
   simp[h3,h4,hp,ho,hm]
 have hf:farB d.b=false:=by simpa using hf
 have hf2:=hf
 unfold farB at hf2
 rw[Bool.or_eq_false_iff,decide_eq_false_iff_not,decide_eq_false_iff_not] at hf2
 obtain ⟨g1,g2⟩:=hf2
 simp[g1,g2]
 obtain ⟨I,hI⟩: ∃I:Nat→AFrame→AMem→Prop,∀q f m',I q f m'↔(∃(i:Nat) (a:Int),i+q=d.ds.length∧f=h57_0 t (.int .i64 n) (.ptr b0 0) (.int .i64 a) (.int .i64 i)∧m1<+:m'∧a+plcO (d.ds.drop i) (ss.drop i)=d.b+plcO d.ds ss∧stepsOk d.ds ss=stepsOk (d.ds.drop i) (ss.drop i)∧ -1152921504606846976-72057594037927936*(i:Int)≤a∧a≤1152921504606846976+72057594037927936*(i:Int)):=⟨_,fun _ _ _=>Iff.rfl⟩
 refine W_loop I d.ds.length ((hI _ _ _).2 ⟨0,d.b,by simp,by simp,List.prefix_refl _,by simp,by simp,by omega,by omega⟩) ?_
 rintro q f m2 hIn
 obtain ⟨i,a,hq,rfl,hm2,ha,hst,ha1,ha2⟩:=(hI _ _ _).1 hIn
 clear hIn
 have hb2:=readB_mono hm2 hb
 have hm02:=hm.trans hm2
 simp[(ht.mono hm02).len]
 refine bbind_dec (fun hil=>?_) fun hil=>?_
 rotate_left
 ·have:i=d.ds.length:=by omega
  subst this
  rw[List.drop_length] at ha hst
  simp only[plcO,stepsOk,Int.add_zero] at ha hst
  have hp:atP d.b d.ds ss=a:=by unfold atP;rw[if_neg (by simp[hf,hst]),ha]
  have ho:atOk d.b d.ds ss n=(decide (0≤a)&&decide (a<n)):=by unfold atOk;rw[hf,hst,←ha];rfl
  by_cases h0:0≤a
  ·simp[h0,hp,ho,hm02]
  ·simp[h0,hp,ho,hm02]
 have hil':i<ss.length:=by omega
 have hil:i<d.ds.length:=by omega
 have hw:IntKind.i64.wrap ((i:Int)+1)=(i:Int)+1:=wrap64 (by omega) (by omega)
 obtain ⟨bd,od,p1,p2,_⟩:=(hs.mono hm02).at hil
 obtain ⟨bt,ot,r1,r2⟩:=(ht.mono hm02).at hil'
 obtain ⟨x1,x2⟩:=hxi i d.ds[i] ss[i] (List.getElem?_eq_getElem hil) (List.getElem?_eq_getElem hil')
 have xn:=hsn d.ds[i] (List.getElem_mem hil)
 have xr:=hnr d.ds[i] (List.getElem_mem hil)
 rw[List.drop_eq_getElem_cons hil,List.drop_eq_getElem_cons hil'] at ha hst
 generalize d.ds[i]=x at*
 generalize ss[i]=y at*
 have p20:=p2 0 (by omega)
 have p22:=p2 2 (by omega)
 simp[dmC] at p20 p22
 simp only[nearI,Bool.and_eq_true,decide_eq_true_eq] at xr
 have hn1:1≤x.n:=by unfold Dm.n lenI;split<;>omega
 have hn2:=(Dm.n_pos hn1).2
 obtain ⟨j,hj⟩: ∃j:Nat,y-x.l=(j:Int):=⟨(y-x.l).toNat,by omega⟩
 have hw1:IntKind.i64.wrap (y-x.l)=(j:Int):=by rw[hj];exact wrap64 (by omega) (by omega)
 simp only[plcO,stepsOk] at ha hst
 rw[hj] at ha
 simp
 refine W_drawPR (by simp[maxDst]) rfl rfl ?_
 simp[bx hb2,p1,p20,p22,r1,r2,hw1]
 intro m3 hm3
 have hm13:=hm2.trans hm3
 by_cases hj0:j=0
 ·have:y=x.l:=by omega
  subst hj0
  simp[hw]
  refine ⟨q-1,by omega,(hI _ _ _).2 ⟨i+1,a,by omega,by simp,hm13,by simpa using ha,by rw[hst,this];simp,by omega,by omega⟩⟩
 have hj0': ¬((j:Int)=0):=by omega
 have hyl: ¬(y=x.l):=by omega
 simp[beqF hj0']
 by_cases hft:farT x.s=true
 ·have hst0:stepsOk d.ds ss=false:=by rw[hst,hft];simp[hyl]
  have hp:atP d.b d.ds ss=0:=by unfold atP;rw[if_pos (.inr hst0)]
  have ho:atOk d.b d.ds ss n=false:=by unfold atOk;rw[hf,hst0];rfl
  by_cases h3:1099511627776<x.s
  ·simp[h3,hp,ho,hm.trans hm13]
  ·have h4:x.s< -1099511627776:=by unfold farT at hft;simp only[Bool.or_eq_true,decide_eq_true_eq] at hft;omega
   simp[h3,h4,hp,ho,hm.trans hm13]
 have hft:farT x.s=false:=by simpa using hft
 obtain ⟨s1,s2⟩:=farT_iff.1 hft
 have s3: ¬1099511627776<x.s:=by omega
 have s4: ¬x.s< -1099511627776:=by omega
 have hbt:=mul_between (s:=x.s) (i:=j) (n:=x.n) (by omega)
 have hms:=mul_small hn1 xn (.inr ⟨s1,s2⟩)
 have hw2:IntKind.i64.wrap ((j:Int)*x.s)=(j:Int)*x.s:=by
  generalize (j:Int)*x.s=z at*
  generalize ((x.n:Int)-1)*x.s=y at*
  exact wrap64 (by omega) (by omega)
 have hw3:IntKind.i64.wrap (a+(j:Int)*x.s)=a+(j:Int)*x.s:=by
  generalize (j:Int)*x.s=z at*
  generalize ((x.n:Int)-1)*x.s=y at*
  exact wrap64 (by omega) (by omega)
 simp[s3,s4,hw2,hw3,hw]
 refine ⟨q-1,by omega,(hI _ _ _).2 ⟨i+1,a+(j:Int)*x.s,by omega,by simp,hm13,by rw[←ha];omega,by rw[hst,hft];simp,?_,?_⟩⟩
 ·generalize (j:Int)*x.s=z at*
  generalize ((x.n:Int)-1)*x.s=y at*
  omega
 ·generalize (j:Int)*x.s=z at*
  generalize ((x.n:Int)-1)*x.s=y at*
  omega
end Go.Proofs.YtodhalcpnmddjaaDoor
namespace Go.Proofs.YtodhalcpnmddjaaDoor
open Go Ax
set_option maxRecDepth 100000
theorem near_of {ds:List Dm} (h:checkB (bndsD ds)=0):nearD ds:=fun x hx=>by
 have:=(check_zero.1 h).2.1 (x.l,x.u) (List.mem_map.2 ⟨x,hx,rfl⟩)
 simp[this]
theorem sm_of {ds:List Dm} (h:checkB (bndsD ds)=0) (he:emptyB (bndsD ds)=false):Sm ds:=by
 obtain ⟨h1,_,h3⟩:=check_zero.1 h
 have hl:(bndsD ds).length=ds.length:=by simp[bndsD]
 refine ⟨by omega,fun d hd=>?_⟩
 obtain ⟨i,hi,rfl⟩:=List.getElem_of_mem hd
 have:=lenB_le he (i:=i) (by omega)
 have e:lenB ((bndsD ds)[i]'(by omega))=ds[i].n:=by simp[bndsD];rfl
 rw[e] at this
 have:=h3 he
 omega
theorem check_cnt {bs:List (Int×Int)} (h:checkB bs=0):cntI bs=some (if emptyB bs=true then 0 else prodN bs):=by
 have h3:=(check_zero.1 h).2.2
 unfold cntI
 by_cases he:emptyB bs=true
 ·rw[if_pos he,if_pos he]
 ·rw[if_neg he,if_neg he,if_pos (h3 (by simpa using he))]
theorem elsD_ok {d:Dsc} (h:checkB d.bnds=0):elsD d=if emptyB d.bnds=true then [] else els d.ds:=by
 unfold elsD
 rw[check_cnt h]
 by_cases he:emptyB d.bnds=true
 ·rw[if_pos he,if_pos he]
 ·rw[if_neg he,if_neg he]
  have:=prodN_pos (bs:=d.bnds) (by simpa using he)
  obtain ⟨k,hk⟩: ∃k,prodN d.bnds=k+1:=⟨prodN d.bnds-1,by omega⟩
  rw[hk]
theorem elsD_mem {d:Dsc} (h:checkB d.bnds=0) {ss:List Int} (hs:ss∈elsD d):emptyB d.bnds=false∧ss∈els d.ds:=by
 rw[elsD_ok h] at hs
 by_cases he:emptyB d.bnds=true
 ·rw[if_pos he] at hs;simp at hs
 ·rw[if_neg he] at hs;exact ⟨by simpa using he,hs⟩
theorem elsD_len {d:Dsc} (h:checkB d.bnds=0):(elsD d).length≤65536:=by
 rw[elsD_ok h]
 split
 ·simp
 ·rename_i he
  rw[els_count,←prodN_cnt]
  exact (check_zero.1 h).2.2 (by simpa using he)
theorem right_els {d:Dsc} {n:Int} (h:checkB d.bnds=0):rightD d.b d.ds n=if (∀ss∈elsD d,atOk d.b d.ds ss n=true) then 0 else 11:=by
 have hb:bndsD d.ds=d.bnds:=rfl
 unfold rightD
 rw[hb,if_neg (by omega)]
 rw[elsD_ok h]
 by_cases he:emptyB d.bnds=true
 ·rw[if_pos he,if_pos he,if_pos (fun ss hs=>by simp at hs)]
 ·rw[if_neg he,if_neg he]
  have:=at_all (b:=d.b) (n:=n) (ds:=d.ds) (by simpa using he)
  by_cases ha: ∀ss∈els d.ds,atOk d.b d.ds ss n=true
  ·rw[if_pos ha,this.1 ha]
  ·rw[if_neg ha]
   rcases range_11 d.b d.ds n with h0|h0
   ·exact absurd (this.2 h0) ha
   ·exact h0
set_option maxHeartbeats 8000000 in
theorem k22 (v:AVal) (d:Dsc) (n:Int) (m:AMem) (hv:DsR m v d) (hn:d.ds.length<2^30):ACalls Tryd.prog 22 [v,.int .i64 n] m fun r m'=>m<+:m'∧r= .int .i64 (rightD d.b d.ds n):=by
 have hv0:=hv
 obtain ⟨s,rfl,hs,hsb⟩:=hv
 refine w22 ?_
 obtain ⟨h1,h2⟩:=hs.one
 simp[h1,h2]
 have hb:=readB_new m [AVal.int .i64 d.b,s] 32 none
 have hm:m<+:m++ [ABlk.own [AVal.int .i64 d.b,s] 32 none]:=List.prefix_append _ _
 generalize m++ [ABlk.own [AVal.int .i64 d.b,s] 32 none]=m1 at*
 generalize hb0:m.length=b0 at*
 simp[bxW hb,readN]
 refine C_of (k26 _ d m1 (hv0.mono hm) hn) ?_
 rintro w m2 ⟨hm2,hw⟩
 simp
 have hbl:d.bnds.length=d.ds.length:=by simp[Dsc.bnds,bndsD]
 refine C_of (k48 w d.bnds m2 hw (by omega)) ?_
 rintro _ m3 ⟨hm3,rfl⟩
 have hm13:=hm2.trans hm3
 have hm03:=hm.trans hm13
 have hb3:=readB_mono hm13 hb
 by_cases hc:checkB d.bnds=0
 rotate_left
 ·have:rightD d.b d.ds n=checkB d.bnds:=by unfold rightD;exact if_pos hc
  simp[bneT hc,this,hm03]
 simp[hc,bxW hb3,readN]
 refine C_of (k39 _ d m3 (hv0.mono hm03) hn (near_of hc)) ?_
 rintro w m4 ⟨hm4,hE⟩
 have hm04:=hm03.trans hm4
 have hb4:=readB_mono hm4 hb3
 have hel:=elsD_len hc
 simp
 obtain ⟨I,hI⟩: ∃I:Nat→AFrame→AMem→Prop,∀q f m',I q f m'↔(∃(i:Nat),i+q=(elsD d).length∧f=h22_0 (.int .i64 n) (.ptr b0 0) w (.int .i64 i)∧m4<+:m'∧ ∀(j:Nat) (hj:j<(elsD d).length),j<i→atOk d.b d.ds (elsD d)[j] n=true):=⟨_,fun _ _ _=>Iff.rfl⟩
 refine W_loop I (elsD d).length ((hI _ _ _).2 ⟨0,by simp,by simp,List.prefix_refl _,fun j hj h=>by omega⟩) ?_
 rintro q f m5 hIn
 obtain ⟨i,hq,rfl,hm5,hok⟩:=(hI _ _ _).1 hIn
 clear hIn
 have hm05:=hm04.trans hm5
 have hb5:=readB_mono hm5 hb4
 simp[hE.len]
 refine bbind_dec (fun hil=>?_) fun hil=>?_
 rotate_left
 ·have:rightD d.b d.ds n=0:=by
   rw[right_els hc,if_pos fun ss hs=>?_]
   obtain ⟨j,hj,rfl⟩:=List.getElem_of_mem hs
   exact hok j hj (by omega)
  simp[this,hm05]
 have hil:i<(elsD d).length:=by omega
 have hw:IntKind.i64.wrap ((i:Int)+1)=(i:Int)+1:=wrap64 (by omega) (by omega)
 obtain ⟨bt,ot,x,p1,p2,p3⟩:=(hE.mono hm5).at hil
 obtain ⟨he,hmem⟩:=elsD_mem hc (List.getElem_mem hil)
 simp
 refine W_draw (fun _ _ _=>True) (by simp[maxDst]) ?_
 refine D_pc 0 6 [6,7,8,9,10,11] ?_
 simp[bxW hb5,readN,p1,p2]
 intro fs _
 refine D_X rfl rfl fun m6 hm6 _=>?_
 simp
 refine C_of (k57 _ x d (elsD d)[i] n m6 (hv0.mono (hm05.trans hm6)) (p3.mono hm6) (els_in hmem) (near_of hc) (sm_of hc he)) ?_
 rintro _ m7 ⟨hm7,rfl⟩
 refine ⟨by simp[lateOf],?_⟩
 refine D_pc 7 5 [] ?_
 simp
 intro fs _
 refine D_end fun m8 hm8 _=>?_
 have hm58:=hm6.trans (hm7.trans hm8)
 by_cases ho:atOk d.b d.ds (elsD d)[i] n=true
 ·simp[ho,hw]
  refine ⟨q-1,by omega,(hI _ _ _).2 ⟨i+1,by omega,by simp,hm5.trans hm58,fun j hj hji=>?_⟩⟩
  by_cases h:j=i
  ·subst h;exact ho
  ·exact hok j hj (by omega)
 ·have:rightD d.b d.ds n=11:=by
   rw[right_els hc,if_neg fun h=>ho (h _ (List.getElem_mem hil))]
  simp[ho,this,hm05.trans hm58]
set_option maxHeartbeats 4000000 in
theorem k59 (v:AVal) (d:Dsc) (m:AMem) (hv:DsR m v d) (hn:d.ds.length<2^30):ACalls Tryd.prog 59 [v] m fun r m'=>m<+:m'∧r= .bool d.bad:=by
 have hv0:=hv
 obtain ⟨s,rfl,hs,hsb⟩:=hv
 refine w59 ?_
 obtain ⟨h1,h2⟩:=hs.one
 simp[h1,h2]
 have hb:=readB_new m [AVal.int .i64 d.b,s] 32 none
 have hm:m<+:m++ [ABlk.own [AVal.int .i64 d.b,s] 32 none]:=List.prefix_append _ _
 generalize m++ [ABlk.own [AVal.int .i64 d.b,s] 32 none]=m1 at*
 generalize hb0:m.length=b0 at*
 simp[bxW hb,readN]
 refine C_of (k22 _ d _ m1 (hv0.mono hm) hn) ?_
 rintro w m2 ⟨hm2,rfl⟩
 have hr:d.rightI 2147483648=rightD d.b d.ds 2147483648:=rfl
 unfold Dsc.bad
 rw[hr]
 by_cases h:rightD d.b d.ds 2147483648=0
 ·simp[h,hm.trans hm2]
 ·simp[bneT h,h,hm.trans hm2]
set_option maxHeartbeats 4000000 in
theorem k24 (v:AVal) (d:Dsc) (m:AMem) (hv:DsR m v d) (hn:d.ds.length<2^30):ACalls Tryd.prog 24 [v] m fun r m'=>m<+:m'∧r= .int .i64 d.count:=by
 have hv0:=hv
 obtain ⟨s,rfl,hs,hsb⟩:=hv
 refine w24 ?_
 obtain ⟨h1,h2⟩:=hs.one
 simp[h1,h2]
 have hb:=readB_new m [AVal.int .i64 d.b,s] 32 none
 have hm:m<+:m++ [ABlk.own [AVal.int .i64 d.b,s] 32 none]:=List.prefix_append _ _
 generalize m++ [ABlk.own [AVal.int .i64 d.b,s] 32 none]=m1 at*
 generalize hb0:m.length=b0 at*
 simp[bxW hb,readN]
 refine C_of (k59 _ d m1 (hv0.mono hm) hn) ?_
 rintro w m2 ⟨hm2,rfl⟩
 have hm02:=hm.trans hm2
 have hb2:=readB_mono hm2 hb
 by_cases hd:d.bad=true
 ·simp[hd,hm02,Dsc.count]
 have hd:d.bad=false:=by simpa using hd
 have hc:checkB d.bnds=0:=(right_zero.1 (Dsc.ok hd)).1
 simp[hd,bxW hb2,readN]
 refine C_of (k26 _ d m2 (hv0.mono hm02) hn) ?_
 rintro w m3 ⟨hm3,hw⟩
 simp
 have hbl:d.bnds.length=d.ds.length:=by simp[Dsc.bnds,bndsD]
 have hnb: ∀x∈d.bnds,(nearI x.1&&nearI x.2)=true:=fun x hx=>by
  obtain ⟨e,he,rfl⟩:=List.mem_map.1 hx
  exact near_of hc e he
 refine C_of (k60 w d.bnds m3 hw (by omega) hnb) ?_
 rintro _ m4 ⟨hm4,rfl⟩
 have:prodI d.bnds=(d.count:Int):=by
  unfold prodI Dsc.count
  rw[check_cnt hc]
  by_cases he:emptyB d.bnds=true
  ·simp[hd,he]
  ·simp[hd,he]
 simp[this,hm02.trans (hm3.trans hm4)]
end Go.Proofs.YtodhalcpnmddjaaDoor
namespace Go.Proofs.YtodhalcpnmddjaaDoor
open Go Ax
set_option maxRecDepth 100000
theorem at_places {d:Dsc} (h:d.bad=false):d.places=(elsD d).map fun ss=>atP d.b d.ds ss:=by
 have hr:=right_zero.1 (Dsc.ok h)
 rw[elsD_ok hr.1]
 unfold Dsc.places
 by_cases he:emptyB d.bnds=true
 ·rw[if_pos (.inr he),if_pos he]
  rfl
 ·rw[if_neg (by simp[h,he]),if_neg he,←els_offs,List.map_map]
  have he:emptyB d.bnds=false:=by simpa using he
  have hz:rangeI d.b d.ds 2147483648=0:=by
   have h0:=Dsc.ok h
   have hb:bndsD d.ds=d.bnds:=rfl
   unfold rightD at h0
   rw[hb,if_neg (by have:checkB d.bnds=0:=hr.1;omega),if_neg (by simp[he])] at h0
   exact h0
  have ha:=(at_all he).2 hz
  refine List.map_congr_left fun ss hs=>?_
  have:=ha ss hs
  unfold atOk at this
  simp only[Bool.and_eq_true,Bool.not_eq_true'] at this
  show d.b+plcO d.ds ss=_
  unfold atP
  rw[if_neg (by simp[this.1,this.2.1])]
theorem at_ok {d:Dsc} (h:d.bad=false) {ss:List Int} (hs:ss∈els d.ds) (he:emptyB d.bnds=false):atP d.b d.ds ss=d.b+plcO d.ds ss:=by
 have hr:=right_zero.1 (Dsc.ok h)
 have h0:=Dsc.ok h
 have hb:bndsD d.ds=d.bnds:=rfl
 unfold rightD at h0
 rw[hb,if_neg (by have:checkB d.bnds=0:=hr.1;omega),if_neg (by simp[he])] at h0
 have ha:=(at_all he).2 h0 ss hs
 unfold atOk at ha
 simp only[Bool.and_eq_true,Bool.not_eq_true'] at ha
 unfold atP
 rw[if_neg (by simp[ha.1,ha.2.1])]
theorem in_els: ∀{ds:List Dm} {ss:List Int},inAll ds ss→ss∈els ds
 | [],[],_=>by simp[els]
 | [],_::_,h=>by simp[inAll] at h
 |_::_,[],h=>by simp[inAll] at h
 |d::ds,x::xs,⟨h1,h2⟩=>by
  have hx:=h2 0 d x (by simp) (by simp)
  refine mem_els.2 ⟨⟨(x-d.l).toNat,?_,by omega⟩,in_els ⟨by simpa using h1,fun i e y he hy=>h2 (i+1) e y (by simpa using he) (by simpa using hy)⟩⟩
  unfold Dm.n lenI
  split<;>omega
set_option maxHeartbeats 8000000 in
theorem k29 (v t:AVal) (d:Dsc) (ss:List Int) (m:AMem) (hv:DsR m v d) (ht:RInts m t ss) (hl:d.ds.length<2^30) (hls:ss.length<2^62):ACalls Tryd.prog 29 [v,t] m fun r m'=>m<+:m'∧r= .tuple [.int .i64 (placeD d ss).1,.int .i64 (placeD d ss).2.1,.int .i64 (placeD d ss).2.2]:=by
 have hv0:=hv
 obtain ⟨s,rfl,hs,hsb⟩:=hv
 refine w29 ?_
 obtain ⟨h1,h2⟩:=hs.one
 simp[h1,h2]
 have hb:=readB_new m [AVal.int .i64 d.b,s] 32 none
 have hm:m<+:m++ [ABlk.own [AVal.int .i64 d.b,s] 32 none]:=List.prefix_append _ _
 generalize m++ [ABlk.own [AVal.int .i64 d.b,s] 32 none]=m1 at*
 generalize hb0:m.length=b0 at*
 simp[bxW hb,readN]
 refine C_of (k59 _ d m1 (hv0.mono hm) hl) ?_
 rintro _ m2 ⟨hm2,rfl⟩
 have hm02:=hm.trans hm2
 have hb2:=readB_mono hm2 hb
 by_cases hd:d.bad=true
 ·simp[hd,placeD,hm02]
 have hd:d.bad=false:=by simpa using hd
 simp[hd,bx hb2,hs.len,ht.len]
 by_cases hlen:ss.length=d.ds.length
 rotate_left
 ·have hlen': ¬((ss.length:Int)=(d.ds.length:Int)):=by omega
  simp[bneT hlen',placeD,hd,hlen,hm02]
 have hlen':(ss.length:Int)=(d.ds.length:Int):=by omega
 simp[hlen']
 have hp:placeD d ss=match outI d.ds ss with|some i=>(0,(i:Int),20)|none=>(d.b+plcO d.ds ss,0,0):=by
  unfold placeD
  rw[if_neg (by simp[hd]),if_neg (by simp[hlen])]<;>rfl
 obtain ⟨I,hI⟩: ∃I:Nat→AFrame→AMem→Prop,∀q f m',I q f m'↔(∃(i:Nat),i+q=d.ds.length∧f=h29_0 t (.ptr b0 0) (.int .i64 i)∧m2<+:m'∧ ∀j,j<i→inI d.ds ss j=true):=⟨_,fun _ _ _=>Iff.rfl⟩
 refine W_loop I d.ds.length ((hI _ _ _).2 ⟨0,by simp,by simp,List.prefix_refl _,fun j hj=>by omega⟩) ?_
 rintro q f m3 hIn
 obtain ⟨i,hq,rfl,hm3,hin⟩:=(hI _ _ _).1 hIn
 clear hIn
 have hm03:=hm02.trans hm3
 have hb3:=readB_mono hm3 hb2
 simp[(ht.mono hm03).len,hlen']
 refine bbind_dec (fun hil=>?_) fun hil=>?_
 ·have hil:i<d.ds.length:=by omega
  have his:i<ss.length:=by omega
  have hw:IntKind.i64.wrap ((i:Int)+1)=(i:Int)+1:=wrap64 (by omega) (by omega)
  obtain ⟨bk,ok,p1,p2,_⟩:=(hs.mono hm03).at hil
  obtain ⟨bt,ot,r1,r2⟩:=(ht.mono hm03).at his
  have hiI:inI d.ds ss i=(decide (d.ds[i].l≤ss[i])&&decide (ss[i]≤d.ds[i].u)):=by
   unfold inI
   rw[List.getElem?_eq_getElem hil,List.getElem?_eq_getElem his]
  generalize d.ds[i]=x at*
  generalize ss[i]=y at*
  have p20:=p2 0 (by omega)
  have p21:=p2 1 (by omega)
  simp[dmC] at p20 p21
  simp
  refine W_drawPR (by simp[maxDst]) rfl rfl ?_
  by_cases hok:inI d.ds ss i=true
  ·have hok':=hok
   rw[hiI] at hok'
   simp only[Bool.and_eq_true,decide_eq_true_eq] at hok'
   have e1: ¬y<x.l:=by omega
   have e2: ¬x.u<y:=by omega
   simp[bx hb3,p1,p20,p21,r1,r2,e1,e2]
   intro m4 hm4
   simp[hw]
   refine ⟨q-1,by omega,(hI _ _ _).2 ⟨i+1,by omega,by simp,hm3.trans hm4,fun j hj=>?_⟩⟩
   by_cases h:j=i
   ·subst h;exact hok
   ·exact hin j (by omega)
  ·have hok:inI d.ds ss i=false:=by simpa using hok
   have ho:outI d.ds ss=some i:=find_range hil (fun j hj=>by simp[hin j hj]) (by simp[hok])
   rw[hok] at hiI
   by_cases e1:y<x.l
   ·simp[bx hb3,p1,p20,p21,r1,r2,e1]
    intro m4 hm4
    simp[hp,ho,hm03.trans hm4]
   ·have e2:x.u<y:=by
     by_cases e2:x.u<y
     ·exact e2
     ·have:(decide (x.l≤y)&&decide (y≤x.u))=true:=by simp;omega
      rw[this] at hiI;cases hiI
    simp[bx hb3,p1,p20,p21,r1,r2,e1,e2]
    intro m4 hm4
    simp[hp,ho,hm03.trans hm4]
 have:i=d.ds.length:=by omega
 subst this
 have ho:outI d.ds ss=none:=find_none fun j hj=>by simp[hin j hj]
 rw[ho] at hp
 simp only at hp
 have hia:inAll d.ds ss:=⟨hlen,fun j e x he hx=>by
  have hj:=(List.getElem?_eq_some_iff.1 he).1
  have:=hin j hj
  unfold inI at this
  rw[he,hx] at this
  simpa using this⟩
 have hmem:=in_els hia
 have he:emptyB d.bnds=false:=by
  unfold emptyB Dsc.bnds bndsD
  rw[List.any_map,List.any_eq_false]
  intro x hx
  obtain ⟨j,hj,rfl⟩:=List.getElem_of_mem hx
  have:=hin j hj
  unfold inI at this
  rw[List.getElem?_eq_getElem hj,List.getElem?_eq_getElem (by omega)] at this
  simp only[Bool.and_eq_true,decide_eq_true_eq] at this
  simp[lenB,lenI]
  omega
 have hc:checkB d.bnds=0:=(right_zero.1 (Dsc.ok hd)).1
 simp[bxW hb3,readN]
 refine C_of (k57 _ t d ss _ m3 (hv0.mono hm03) (ht.mono hm03) hia (near_of hc) (sm_of hc he)) ?_
 rintro _ m4 ⟨hm4,rfl⟩
 simp[hp,at_ok hd hmem he,hm03.trans hm4]
set_option maxHeartbeats 8000000 in
theorem k32 (v:AVal) (d:Dsc) (m:AMem) (hv:DsR m v d) (hl:d.ds.length<2^30):ACalls Tryd.prog 32 [v] m fun r m'=>m<+:m'∧RInts m' r d.places:=by
 have hv0:=hv
 obtain ⟨s,rfl,hs,hsb⟩:=hv
 refine w32 ?_
 obtain ⟨h1,h2⟩:=hs.one
 simp[h1,h2]
 have hb:=readB_new m [AVal.int .i64 d.b,s] 32 none
 have hm:m<+:m++ [ABlk.own [AVal.int .i64 d.b,s] 32 none]:=List.prefix_append _ _
 generalize m++ [ABlk.own [AVal.int .i64 d.b,s] 32 none]=m1 at*
 generalize hb0:m.length=b0 at*
 simp[bxW hb,readN]
 refine C_of (k59 _ d m1 (hv0.mono hm) hl) ?_
 rintro _ m2 ⟨hm2,rfl⟩
 have hm02:=hm.trans hm2
 have hb2:=readB_mono hm2 hb
 by_cases hd:d.bad=true
 ·have:d.places= []:=by unfold Dsc.places;rw[if_pos (.inl hd)]
  simp[hd,this,hm02]
  exact Sl.nil
 have hd:d.bad=false:=by simpa using hd
 have hc:checkB d.bnds=0:=(right_zero.1 (Dsc.ok hd)).1
 rw[at_places hd]
 simp[hd,bxW hb2,readN]
 refine C_of (k39 _ d m2 (hv0.mono hm02) hl (near_of hc)) ?_
 rintro w m3 ⟨hm3,hE⟩
 have hm03:=hm02.trans hm3
 have hb3:=readB_mono hm3 hb2
 have hel:=elsD_len hc
 simp
 obtain ⟨I,hI⟩: ∃I:Nat→AFrame→AMem→Prop,∀q f m',I q f m'↔(∃(i:Nat) (o:AVal),i+q=(elsD d).length∧f=h32_0 (.ptr b0 0) w o (.int .i64 i)∧m3<+:m'∧OwL (AVal.int .i64) m3.length m' 3 o (((elsD d).take i).map fun ss=>atP d.b d.ds ss)):=⟨_,fun _ _ _=>Iff.rfl⟩
 refine W_loop I (elsD d).length ((hI _ _ _).2 ⟨0,.nilslice,by simp,by simp,List.prefix_refl _,OwL.nil⟩) ?_
 rintro q f m4 hIn
 obtain ⟨i,o,hq,rfl,hm4,hO⟩:=(hI _ _ _).1 hIn
 clear hIn
 have hm04:=hm03.trans hm4
 have hb4:=readB_mono hm4 hb3
 simp[hE.len]
 refine bbind_dec (fun hil=>?_) fun hil=>?_
 rotate_left
 ·have:i=(elsD d).length:=by omega
  subst this
  rw[List.take_length] at hO
  simp[hm04]
  exact hO.ints
 have hil:i<(elsD d).length:=by omega
 have hw:IntKind.i64.wrap ((i:Int)+1)=(i:Int)+1:=wrap64 (by omega) (by omega)
 have htk:((elsD d).take (i+1)).map (fun ss=>atP d.b d.ds ss)=((elsD d).take i).map (fun ss=>atP d.b d.ds ss)++ [atP d.b d.ds (elsD d)[i]]:=by
  rw[take_snoc hil,List.map_append]
  rfl
 have hlen:(((elsD d).take i).map fun ss=>atP d.b d.ds ss).length=i:=by simp;omega
 obtain ⟨bt,ot,x,p1,p2,p3⟩:=(hE.mono hm4).at hil
 obtain ⟨he,hmem⟩:=elsD_mem hc (List.getElem_mem hil)
 simp
 refine W_draw (fun _ _ _=>True) (by simp[maxDst]) ?_
 refine D_pc 0 5 [5,6,7,8,9,10] ?_
 simp[bxW hb4,readN,p1,p2]
 intro fs _
 refine D_X rfl rfl fun m5 hm5 _=>?_
 simp
 refine C_of (k57 _ x d (elsD d)[i] 2147483648 m5 (hv0.mono (hm04.trans hm5)) (p3.mono hm5) (els_in hmem) (near_of hc) (sm_of hc he)) ?_
 rintro _ m6 ⟨hm6,rfl⟩
 refine ⟨by simp[lateOf],?_⟩
 refine D_pc 6 5 [] ?_
 simp
 intro fs _
 refine D_end fun m7 hm7 _=>?_
 have hm47:=hm5.trans (hm6.trans hm7)
 simp[fillA,setN]
 have hpf:m7<+:m7++ [ABlk.own [AVal.int .i64 (atP d.b d.ds (elsD d)[i])] 3 none]:=List.prefix_append _ _
 have hsc:sliceCells (m7++ [ABlk.own [AVal.int .i64 (atP d.b d.ds (elsD d)[i])] 3 none]) 1 (.slice m7.length 0 1 1 none)=some (1,[.int .i64 (atP d.b d.ds (elsD d)[i])]):=by simp[sliceCells,readB,ABlk.cells,readN]
 have hm37:=hm4.trans (hm47.trans hpf)
 obtain ⟨o',m8,happ,hch,hO8,hg8⟩:=(hO.mono (hm47.trans hpf)).push (by exact hm37.length_le) (by_:=8) (by omega) (atP d.b d.ds (elsD d)[i]) (by omega)
 simp[hsc,happ,hw]
 refine ⟨q-1,by omega,(hI _ _ _).2 ⟨i+1,o',by omega,by simp,hch.pre hm37 fun b hb e=>by have:=(hO.blk_lo e).1;omega,?_⟩⟩
 rw[htk]
 exact hO8
end Go.Proofs.YtodhalcpnmddjaaDoor
namespace Go.Proofs.YtodhalcpnmddjaaDoor
open Go Ax
set_option maxRecDepth 100000
set_option maxHeartbeats 4000000 in
theorem k19 (s t:AVal) (xs ys:List (Int×Int)) (m:AMem) (hs:SlF 2 bdC m s xs) (ht:SlF 2 bdC m t ys) (hn:xs.length<2^62):ACalls Tryd.prog 19 [s,t] m fun v m'=>m<+:m'∧v= .bool (decide (xs=ys)):=by
 refine w19 ?_
 simp[hs.len,ht.len]
 by_cases hl:xs.length=ys.length
 rotate_left
 ·have:xs≠ys:=fun e=>hl (by rw[e])
  have hl': ¬((xs.length:Int)=(ys.length:Int)):=by omega
  simp[bneT hl',this]
 simp[hl]
 refine W_loop (fun q a m'=> ∃k:Nat,k+q=ys.length∧a=h19_0 s t (.int .i64 k)∧m<+:m'∧xs.take k=ys.take k) ys.length ⟨0,by simp,by simp,List.prefix_refl _,by simp⟩ ?_
 rintro q a m1 ⟨k,hk,rfl,hm1,he⟩
 simp[(hs.mono hm1).len,hl]
 refine bbind_dec (fun h=>?_) fun h=>?_
 ·simp
  have h:k<ys.length:=by omega
  have h':k<xs.length:=by omega
  obtain ⟨b,o,p1,_,p2⟩:=(hs.mono hm1).at h'
  obtain ⟨b',o',p1',_,p2'⟩:=(ht.mono hm1).at h
  refine W_drawPR (by simp[maxDst]) rfl rfl ?_
  have hsu:=take_eq_succ h' h
  have hne:xs[k]≠ys[k]→xs≠ys:=fun hx e=>hx (by simp[e])
  generalize xs[k]=x at*
  generalize ys[k]=y at*
  simp only[bdC] at p2 p2'
  simp[p1,p2,p1',p2',eqC]
  intro m2 hm2
  by_cases hx:x=y
  ·subst hx
   have hw:IntKind.i64.wrap ((k:Int)+1)=(k:Int)+1:=wrap64 (by omega) (by omega)
   simp[hw]
   exact ⟨q-1,by omega,k+1,by omega,by simp,hm1.trans hm2,hsu.2 ⟨he,rfl⟩⟩
  ·have hb:(!(x.1==y.1&&x.2==y.2))=true:=by
    rw[Bool.not_eq_true',Bool.and_eq_false_iff]
    by_cases h1:x.1=y.1
    ·right
     simpa using fun h2=>hx (Prod.ext h1 h2)
    ·left
     simpa using h1
   have hb2:((!x.1==y.1)||(!x.2==y.2))=true:=by
    cases h1:x.1==y.1<;>cases h2:x.2==y.2<;>simp_all
   simp[hb2,hne hx,hm1.trans hm2]
 ·have:k=ys.length:=by omega
  subst this
  rw[List.take_length,←hl,List.take_length] at he
  simp[he,hm1]
set_option maxHeartbeats 4000000 in
theorem k30 (s t:AVal) (xs ys:List Int) (m:AMem) (hs:RInts m s xs) (ht:RInts m t ys) (hn:xs.length<2^62):ACalls Tryd.prog 30 [s,t] m fun v m'=>m<+:m'∧v= .bool (decide (xs=ys)):=by
 refine w30 ?_
 simp[hs.len,ht.len]
 by_cases hl:xs.length=ys.length
 rotate_left
 ·have:xs≠ys:=fun e=>hl (by rw[e])
  have hl': ¬((xs.length:Int)=(ys.length:Int)):=by omega
  simp[bneT hl',this]
 simp[hl]
 refine W_loop (fun q a m'=> ∃k:Nat,k+q=ys.length∧a=h30_0 s t (.int .i64 k)∧m<+:m'∧xs.take k=ys.take k) ys.length ⟨0,by simp,by simp,List.prefix_refl _,by simp⟩ ?_
 rintro q a m1 ⟨k,hk,rfl,hm1,he⟩
 simp[(hs.mono hm1).len,hl]
 refine bbind_dec (fun h=>?_) fun h=>?_
 ·simp
  have h:k<ys.length:=by omega
  have h':k<xs.length:=by omega
  obtain ⟨b,o,p1,p2⟩:=(hs.mono hm1).at h'
  obtain ⟨b',o',p1',p2'⟩:=(ht.mono hm1).at h
  refine W_drawPR (by simp[maxDst]) rfl rfl ?_
  have hsu:=take_eq_succ h' h
  have hne:xs[k]≠ys[k]→xs≠ys:=fun hx e=>hx (by simp[e])
  generalize xs[k]=x at*
  generalize ys[k]=y at*
  simp[p1,p2,p1',p2']
  intro m2 hm2
  by_cases hx:x=y
  ·subst hx
   have hw:IntKind.i64.wrap ((k:Int)+1)=(k:Int)+1:=wrap64 (by omega) (by omega)
   simp[hw]
   exact ⟨q-1,by omega,k+1,by omega,by simp,hm1.trans hm2,hsu.2 ⟨he,rfl⟩⟩
  ·simp[bneT hx,hne hx,hm1.trans hm2]
 ·have:k=ys.length:=by omega
  subst this
  rw[List.take_length,←hl,List.take_length] at he
  simp[he,hm1]
set_option maxHeartbeats 8000000 in
theorem k34 (v v':AVal) (d e:Dsc) (m:AMem) (hv:DsR m v d) (hv':DsR m v' e) (hl:d.ds.length<2^30) (hl':e.ds.length<2^30):ACalls Tryd.prog 34 [v,v'] m fun r m'=>m<+:m'∧r= .bool (sameD d e):=by
 have hv0:=hv
 have hv0':=hv'
 obtain ⟨s,rfl,hs,hsb⟩:=hv
 obtain ⟨s',rfl,hs',hsb'⟩:=hv'
 refine w34 ?_
 obtain ⟨h1,h2⟩:=hs.one
 obtain ⟨h1',h2'⟩:=hs'.one
 simp[h1,h2,h1',h2']
 have hm:m<+:m++ [ABlk.own [AVal.int .i64 d.b,s] 32 none,ABlk.own [AVal.int .i64 e.b,s'] 32 none]:=List.prefix_append _ _
 have hb:readB (m++ [ABlk.own [AVal.int .i64 d.b,s] 32 none,ABlk.own [AVal.int .i64 e.b,s'] 32 none]) m.length=some [.int .i64 d.b,s]:=by simp[readB,ABlk.cells]
 have hb':readB (m++ [ABlk.own [AVal.int .i64 d.b,s] 32 none,ABlk.own [AVal.int .i64 e.b,s'] 32 none]) (m.length+1)=some [.int .i64 e.b,s']:=by simp[readB,ABlk.cells]
 generalize m++ [ABlk.own [AVal.int .i64 d.b,s] 32 none,ABlk.own [AVal.int .i64 e.b,s'] 32 none]=m1 at*
 have hbw:=bxW hb 2
 have hbw':=bxW hb' 2
 simp[readN] at hbw hbw'
 refine W_draw (fun i v m=>match i with
  |1=>v= .bool d.bad
  |4=>v= .bool e.bad
  |8=>SlF 2 bdC m v d.bnds
  |10=>SlF 2 bdC m v e.bnds
  |11=>v= .bool (decide (d.bnds=e.bnds))
  |_=>True) (by simp[maxDst]) ?_
 refine D_pc 0 1 [1,2,3,4,5,6,7,8,9,10,11,12,13] ?_
 simp[hbw]
 intro fs _
 refine D_Cv (fn:=59) (fs':= []) (cs:= []) (.bool d.bad) rfl trivial rfl (by simp) (fun m' h1 _=>by simpa using k59 _ d m' (hv0.mono (hm.trans h1)) hl) ?_
 simp
 have hf1: ∀j m',upd fs 1 (fun _=>True) j m':=upd_true (by assumption) _
 by_cases hd:d.bad=true
 ·have hsm:sameD d e=false:=by simp[sameD,hd]
  rw[hd]
  repeat (first|(refine D_skip rfl rfl (by simp) ?_;simp)|(refine D_P rfl trivial ?_;simp))
  refine D_end fun m2 hm2 _=>?_
  simp[hsm,hm.trans hm2]
 have hd:d.bad=false:=by simpa using hd
 rw[hd]
 refine D_pc 2 2 [4,5,6,7,8,9,10,11,12,13] (hfs:=hf1) ?_
 simp[hbw']
 intro fs2 _
 refine D_Cv (fn:=59) (fs':= []) (cs:= []) (.bool e.bad) rfl (by simp[gOK]) rfl (by simp) (fun m' h1 _=>by simpa using k59 _ e m' (hv0'.mono (hm.trans h1)) hl') ?_
 simp
 have hf2: ∀j m',upd fs2 4 (fun _=>True) j m':=upd_true (by assumption) _
 by_cases he:e.bad=true
 ·have hsm:sameD d e=false:=by simp[sameD,he]
  rw[he]
  refine D_P rfl (by simp[gOK]) ?_
  simp
  repeat (first|(refine D_skip rfl rfl (by simp) ?_;simp)|(refine D_P rfl trivial ?_;simp))
  refine D_end fun m2 hm2 _=>?_
  simp[hsm,hm.trans hm2]
 have he:e.bad=false:=by simpa using he
 rw[he]
 refine D_pc 5 3 [8,9,10,11,12,13] (hfs:=hf2) ?_
 simp[hbw]
 intro fs3 hf3
 refine D_C (fn:=26) (fs':= []) (cs:= []) rfl (by simp[gOK]) (by simp) (fun m' h1 _=>by simpa using k26 _ d m' (hv0.mono (hm.trans h1)) hl) (flat_new _ _) (fun v m m' hm h=>h.mono hm) ?_
 intro v10 m10 hm10 hv10
 simp
 refine D_R rfl (by simp[gOK]) ⟨m10,hm10,fun j _=>upd_all hf3 hv10 j⟩ ?_
 simp[hbw']
 refine D_C (fn:=26) (fs':= []) (cs:= []) rfl (by simp[gOK]) (by simp) (fun m' h1 _=>by simpa using k26 _ e m' (hv0'.mono (hm.trans h1)) hl') (flat_new _ _) (fun v m m' hm h=>h.mono hm) ?_
 intro v12 m12 hm12 hv12
 simp
 have hlb:d.bnds.length<2^62:=by simp[Dsc.bnds,bndsD];omega
 refine D_Cv (fn:=19) (fs':= []) (cs:= []) (.bool (decide (d.bnds=e.bnds))) rfl (by simp[gOK]) rfl (by simp) (fun m' h1 hp=>?_) ?_
 ·have p10:=hp 8 (by simp)
  have p12:=hp 10 (by simp)
  simp[upd] at p10 p12
  simpa using k19 v10 v12 d.bnds e.bnds m' p10 p12 hlb
 simp
 refine D_P rfl (by simp[gOK]) ?_
 simp
 refine D_P rfl (by simp[gOK]) ?_
 simp
 refine D_end fun m2 hm2 _=>?_
 by_cases hbe:d.bnds=e.bnds
 rotate_left
 ·have hsm:sameD d e=false:=by simp[sameD,hbe]
  simp[hbe,hsm,hm.trans hm2]
 have hb2:=readB_mono hm2 hb
 have hb2':=readB_mono hm2 hb'
 have hbw:=bxW hb2 2
 have hbw':=bxW hb2' 2
 simp[readN] at hbw hbw'
 simp[hbe]
 refine W_draw (fun _ _ _=>True) (by simp[maxDst]) ?_
 refine D_pc 0 1 [2,1,3,4,5] ?_
 simp[hbw]
 intro fs _
 refine D_R rfl trivial ⟨_,List.prefix_refl _,fun j hj=>by simp at hj⟩ ?_
 simp[hbw']
 refine D_X rfl rfl fun m3 hm3 _=>?_
 simp
 have hm13:=hm2.trans hm3
 refine C_of (k32 _ d m3 (hv0.mono (hm.trans hm13)) hl) ?_
 rintro p m4 ⟨hm4,hp⟩
 have hm14:=hm13.trans hm4
 have hbw4:=bxW (readB_mono hm14 hb') 2
 simp[readN] at hbw4
 refine ⟨by simp[lateOf,hbw4],?_⟩
 refine D_X rfl rfl fun m5 hm5 _=>?_
 simp
 have hm15:=hm14.trans hm5
 refine C_of (k32 _ e m5 (hv0'.mono (hm.trans hm15)) hl') ?_
 rintro p' m6 ⟨hm6,hp'⟩
 have hm16:=hm15.trans hm6
 refine ⟨by simp[lateOf],?_⟩
 refine D_pc 4 2 [] ?_
 simp
 intro fs _
 refine D_end fun m7 hm7 _=>?_
 have hm17:=hm16.trans hm7
 replace hp:=hp.mono (hm5.trans (hm6.trans hm7))
 replace hp':=hp'.mono hm7
 have hll:d.places.length=e.places.length:=by
  unfold Dsc.places
  simp only[hd,he,hbe,Bool.false_eq_true,false_or]
  split
  ·rfl
  ·rename_i hq
   have c1: ∀ds:List Dm,(offs ds).length=prodN (bndsD ds):=fun ds=>by rw[←els_offs,List.length_map,els_count,prodN_cnt]
   have hbe':bndsD d.ds=bndsD e.ds:=hbe
   rw[List.length_map,List.length_map,c1,c1,hbe']
 have hpl:d.places.length≤65536:=places_len d
 simp
 refine W_loop (fun q a m'=> ∃k:Nat,k+q=d.places.length∧a=h34_0 p p' (.int .i64 k)∧m7<+:m'∧d.places.take k=e.places.take k) d.places.length ⟨0,by simp,by simp,List.prefix_refl _,by simp⟩ ?_
 rintro q a m8 ⟨k,hk,rfl,hm8,hte⟩
 simp[(hp.mono hm8).len]
 have hm18:=hm17.trans hm8
 refine bbind_dec (fun h=>?_) fun h=>?_
 ·simp
  have h:k<d.places.length:=by omega
  have h':k<e.places.length:=by omega
  obtain ⟨b,o,p1,p2⟩:=(hp.mono hm8).at h
  obtain ⟨b',o',p1',p2'⟩:=(hp'.mono hm8).at h'
  refine W_drawPR (by simp[maxDst]) rfl rfl ?_
  have hsu:=take_eq_succ h h'
  have hne:d.places[k]≠e.places[k]→d.places≠e.places:=fun hx e=>hx (by simp[e])
  generalize d.places[k]=x at*
  generalize e.places[k]=y at*
  simp[p1,p2,p1',p2']
  intro m9 hm9
  by_cases hx:x=y
  ·subst hx
   have hw:IntKind.i64.wrap ((k:Int)+1)=(k:Int)+1:=wrap64 (by omega) (by omega)
   simp[hw]
   exact ⟨q-1,by omega,k+1,by omega,by simp,hm8.trans hm9,hsu.2 ⟨hte,rfl⟩⟩
  ·simp[bneT hx,hne hx,sameD,hm.trans (hm18.trans hm9)]
 ·have:k=d.places.length:=by omega
  subst this
  rw[List.take_length,hll,List.take_length] at hte
  simp[sameD,hd,he,hbe,hte,hm.trans hm18]
end Go.Proofs.YtodhalcpnmddjaaDoor
namespace Go.Proofs.YtodhalcpnmddjaaDoor
open Go Ax
set_option maxRecDepth 100000
set_option maxHeartbeats 8000000 in
theorem k36 (v v':AVal) (d e:Dsc) (m:AMem) (hv:DsR m v d) (hv':DsR m v' e) (hl:d.ds.length<2^30) (hl':e.ds.length<2^30):ACalls Tryd.prog 36 [v,v'] m fun r m'=>m<+:m'∧r= .bool (meetD d e):=by
 have hv0:=hv
 have hv0':=hv'
 obtain ⟨s,rfl,hs,hsb⟩:=hv
 obtain ⟨s',rfl,hs',hsb'⟩:=hv'
 refine w36 ?_
 obtain ⟨h1,h2⟩:=hs.one
 obtain ⟨h1',h2'⟩:=hs'.one
 simp[h1,h2,h1',h2']
 have hm:m<+:m++ [ABlk.own [AVal.int .i64 d.b,s] 32 none,ABlk.own [AVal.int .i64 e.b,s'] 32 none]:=List.prefix_append _ _
 have hb:readB (m++ [ABlk.own [AVal.int .i64 d.b,s] 32 none,ABlk.own [AVal.int .i64 e.b,s'] 32 none]) m.length=some [.int .i64 d.b,s]:=by simp[readB,ABlk.cells]
 have hb':readB (m++ [ABlk.own [AVal.int .i64 d.b,s] 32 none,ABlk.own [AVal.int .i64 e.b,s'] 32 none]) (m.length+1)=some [.int .i64 e.b,s']:=by simp[readB,ABlk.cells]
 generalize m++ [ABlk.own [AVal.int .i64 d.b,s] 32 none,ABlk.own [AVal.int .i64 e.b,s'] 32 none]=m1 at*
 have hbw:=bxW hb 2
 have hbw':=bxW hb' 2
 simp[readN] at hbw hbw'
 refine W_draw (fun _ _ _=>True) (by simp[maxDst]) ?_
 refine D_pc 0 1 [2,1,3,4,5] ?_
 simp[hbw]
 intro fs _
 refine D_R rfl trivial ⟨_,List.prefix_refl _,fun j hj=>by simp at hj⟩ ?_
 simp[hbw']
 refine D_X rfl rfl fun m3 hm3 _=>?_
 simp
 have hm13:=hm3
 refine C_of (k32 _ d m3 (hv0.mono (hm.trans hm13)) hl) ?_
 rintro p m4 ⟨hm4,hp⟩
 have hm14:=hm13.trans hm4
 have hbw4:=bxW (readB_mono hm14 hb') 2
 simp[readN] at hbw4
 refine ⟨by simp[lateOf,hbw4],?_⟩
 refine D_X rfl rfl fun m5 hm5 _=>?_
 simp
 have hm15:=hm14.trans hm5
 refine C_of (k32 _ e m5 (hv0'.mono (hm.trans hm15)) hl') ?_
 rintro p' m6 ⟨hm6,hp'⟩
 have hm16:=hm15.trans hm6
 refine ⟨by simp[lateOf],?_⟩
 refine D_pc 4 2 [] ?_
 simp
 intro fs _
 refine D_end fun m7 hm7 _=>?_
 have hm07:=hm.trans (hm16.trans hm7)
 replace hp:=hp.mono (hm5.trans (hm6.trans hm7))
 replace hp':=hp'.mono hm7
 have hpl:d.places.length≤65536:=places_len d
 have hpl':e.places.length≤65536:=places_len e
 simp
 refine W_loop (fun q a m'=> ∃k:Nat,k+q=d.places.length∧a=h36_0 p p' (.int .i64 k)∧m7<+:m'∧ ∀j (hj:j<d.places.length),j<k→ ¬d.places[j]∈e.places) d.places.length ⟨0,by simp,by simp,List.prefix_refl _,fun j hj h=>by omega⟩ ?_
 rintro q a m8 ⟨k,hk,rfl,hm8,hno⟩
 simp[(hp.mono hm8).len]
 refine bbind_dec (fun h=>?_) fun h=>?_
 rotate_left
 ·have:meetD d e=false:=by
   unfold meetD
   rw[List.any_eq_false]
   intro x hx
   obtain ⟨j,hj,rfl⟩:=List.getElem_of_mem hx
   simpa using hno j hj (by omega)
  simp[this,hm07.trans hm8]
 have h:k<d.places.length:=by omega
 simp
 refine W_loop (fun r a m'=> ∃l:Nat,l+r=e.places.length∧a=h36_1 p p' (.int .i64 k) (.int .i64 l)∧m8<+:m'∧ ∀j (hj:j<e.places.length),j<l→e.places[j]≠d.places[k]) e.places.length ⟨0,by simp,by simp,List.prefix_refl _,fun j hj h=>by omega⟩ ?_
 rintro r a m9 ⟨l,hl,rfl,hm9,hnl⟩
 have hm79:=hm8.trans hm9
 simp[(hp'.mono hm79).len]
 refine bbind_dec (fun h'=>?_) fun h'=>?_
 rotate_left
 ·have hw:IntKind.i64.wrap ((k:Int)+1)=(k:Int)+1:=wrap64 (by omega) (by omega)
  simp[hw]
  refine ⟨q-1,by omega,k+1,by omega,by simp,hm79,fun j hj hjk=>?_⟩
  by_cases hjk':j=k
  ·subst hjk'
   intro hc
   obtain ⟨i,hi,hie⟩:=List.getElem_of_mem hc
   exact hnl i hi (by omega) hie
  ·exact hno j hj (by omega)
 have h':l<e.places.length:=by omega
 obtain ⟨b,o,p1,p2⟩:=(hp.mono hm79).at h
 obtain ⟨b',o',p1',p2'⟩:=(hp'.mono hm79).at h'
 have hyes:d.places[k]=e.places[l]→meetD d e=true:=fun he=>by
  unfold meetD
  exact List.any_eq_true.2 ⟨_,List.getElem_mem h,List.contains_iff_mem.2 (by rw[he];exact List.getElem_mem h')⟩
 have hne: ∀j (hj:j<e.places.length),j=l→d.places[k]≠e.places[l]→e.places[j]≠d.places[k]:=fun j hj hjl hx=>by subst hjl;exact fun h=>hx h.symm
 simp
 refine W_drawPR (by simp[maxDst]) rfl rfl ?_
 simp[p1,p2,p1',p2']
 intro m10 hm10
 by_cases hx:d.places[k]=e.places[l]
 ·simp[hx,hyes hx,hm07.trans (hm79.trans hm10)]
 ·have hw:IntKind.i64.wrap ((l:Int)+1)=(l:Int)+1:=wrap64 (by omega) (by omega)
  simp[beqF hx,hw]
  refine ⟨r-1,by omega,l+1,by omega,by simp,hm9.trans hm10,fun j hj hjl=>?_⟩
  by_cases hjl':j=l
  ·exact hne j hj hjl' hx
  ·exact hnl j hj (by omega)
end Go.Proofs.YtodhalcpnmddjaaDoor
namespace Go.Proofs.YtodhalcpnmddjaaDoor
open Go Ax
set_option maxRecDepth 100000
theorem dec_step {u:Nat} (h: ¬u<10):Lib.decDigits u=Lib.decDigits (u / 10)++ [UInt8.ofNat (48+u%10)]:=by
 rw[Lib.decDigits,dif_neg h]
theorem dec_one {u:Nat} (h:u<10):Lib.decDigits u= [UInt8.ofNat (48+u)]:=by
 rw[Lib.decDigits,dif_pos h]
theorem wrapU {x:Int} (h0:0≤x) (h1:x<18446744073709551616):IntKind.u64.wrap x=x:=by
 unfold IntKind.wrap
 simp[IntKind.bits,IntKind.signed]
 omega
theorem wrapB {x:Int} (h0:0≤x) (h1:x<256):IntKind.u8.wrap x=x:=by
 unfold IntKind.wrap
 simp[IntKind.bits,IntKind.signed]
 omega
theorem wrapNeg {n:Int} (h0: -9223372036854775808≤n) (h1:n<0):IntKind.u64.wrap (-IntKind.u64.wrap n)=(n.natAbs:Int):=by
 unfold IntKind.wrap
 simp[IntKind.bits,IntKind.signed]
 omega
theorem b2s_one (m:AMem) {x:Int} (h0:0≤x) (h1:x<256):b2sE (m++ [ABlk.own [AVal.int .u8 x] 5 none]) (.slice m.length 0 1 1 none)=some (strB [UInt8.ofNat x.toNat]):=by
 simp[b2sE,readB,ABlk.cells,readN,toB,h0,h1]
set_option maxHeartbeats 8000000 in
theorem k52 (n:Int) (h:i64 n) (m:AMem):ACalls Tryd.prog 52 [.int .i64 n] m fun v m'=>m<+:m'∧v=strB (Lib.itoa n):=by
 obtain ⟨h0,h1⟩:=h
 refine w52 ?_
 simp
 obtain ⟨J,hJ⟩: ∃J:AFrame→AMem→Prop,∀a' m',J a' m'↔(∃(u0:Nat) (sg:List UInt8),a'.forget [3,4]=mat 33 [(3,.int .u64 u0),(4,strB sg)]∧m'=m∧u0<10^19∧sg.length≤1∧Lib.itoa n=sg++Lib.decDigits u0):=⟨_,fun _ _=>Iff.rfl⟩
 refine bbind_J J ?_ ?_
 ·refine bbind_dec (fun hn=>?_) fun hn=>?_
  ·simp
   refine (hJ _ _).2 ⟨n.natAbs,[45],by rw[wrapNeg h0 hn];rfl,rfl,by omega,by simp,?_⟩
   unfold Lib.itoa
   rw[if_pos hn]
   rfl
  ·simp
   refine (hJ _ _).2 ⟨n.toNat,[],?_,rfl,by omega,by simp,?_⟩
   ·rw[wrapU (by omega) (by omega),show (n.toNat:Int)=n by omega]
    rfl
   ·unfold Lib.itoa
    rw[if_neg hn]
    rfl
 ·intro a m1 hJ1
  obtain ⟨u0,sg,hfa,rfl,hu0,hsg,hit⟩:=(hJ _ _).1 hJ1
  clear hJ1 hJ J
  simp[hfa]
  have hdl:=dec_len 19 u0 (by omega)
  obtain ⟨I,hI⟩: ∃I:Nat→AFrame→AMem→Prop,∀q f m',I q f m'↔(∃(tl:List UInt8),q<10^19∧f=h52_0 (.int .u64 q) (strB sg) (strB tl)∧m1<+:m'∧Lib.decDigits u0=Lib.decDigits q++tl):=⟨_,fun _ _ _=>Iff.rfl⟩
  refine W_loop I u0 ((hI _ _ _).2 ⟨[],hu0,by simp,List.prefix_refl _,by simp⟩) ?_
  rintro q f m2 hIn
  obtain ⟨tl,hq,rfl,hm2,htl⟩:=(hI _ _ _).1 hIn
  clear hIn
  have htll:tl.length≤20:=by
   have:=congrArg List.length htl
   rw[List.length_append] at this
   omega
  simp
  refine bbind_dec (fun h9=>?_) fun h9=>?_
  ·have h9': ¬q<10:=by omega
   have e1:(q:Int).tmod 10=((q%10:Nat):Int):=rfl
   have e2:(q:Int).tdiv 10=((q / 10:Nat):Int):=rfl
   rw[dec_step h9'] at htl
   have hlt:q / 10<q:=by omega
   have hd10:q%10<10:=by omega
   generalize q%10=dd at*
   generalize q / 10=r at*
   have e3:IntKind.u64.wrap (48+(dd:Int))=48+(dd:Int):=wrapU (by omega) (by omega)
   have e4:IntKind.u8.wrap (48+(dd:Int))=48+(dd:Int):=wrapB (by omega) (by omega)
   have e5:IntKind.u64.wrap (r:Int)=(r:Int):=wrapU (by omega) (by omega)
   have e6:=b2s_one m2 (x:=48+(dd:Int)) (by omega) (by omega)
   rw[show (48+(dd:Int)).toNat=48+dd by omega] at e6
   have e7:=str_app [UInt8.ofNat (48+dd)] tl (by simp only[List.length_cons,List.length_nil];omega)
   simp only[List.singleton_append] at e7
   generalize UInt8.ofNat (48+dd)=c at*
   rw[show [c].toArray= #[c] from rfl] at e7
   simp[e1,e2,e3,e4,e5,fillA,setN,e6,e7]
   exact ⟨r,hlt,(hI _ _ _).2 ⟨c::tl,by omega,by simp,hm2.trans (List.prefix_append _ _),by rw[htl];simp⟩⟩
  ·have h9':q<10:=by omega
   rw[dec_one h9'] at htl
   have e3:IntKind.u64.wrap (48+(q:Int))=48+(q:Int):=wrapU (by omega) (by omega)
   have e4:IntKind.u8.wrap (48+(q:Int))=48+(q:Int):=wrapB (by omega) (by omega)
   have e6:=b2s_one m2 (x:=48+(q:Int)) (by omega) (by omega)
   rw[show (48+(q:Int)).toNat=48+q by omega] at e6
   have e7:=str_app sg [UInt8.ofNat (48+q)] (by simp only[List.length_cons,List.length_nil];omega)
   have e8:=str_app (sg++ [UInt8.ofNat (48+q)]) tl (by simp only[List.length_append,List.length_cons,List.length_nil];omega)
   have e9:sg++ [UInt8.ofNat (48+q)]++tl=Lib.itoa n:=by rw[hit,htl];simp
   rw[e9] at e8
   generalize UInt8.ofNat (48+q)=c at*
   rw[show [c].toArray= #[c] from rfl] at e7
   clear e9
   generalize sg++ [c]=sc at*
   simp[e3,e4,fillA,setN,e6,e7,e8]
   exact hm2.trans (List.prefix_append _ _)
theorem join_snoc (sep x:List UInt8): ∀(xs:List (List UInt8)),Lib.join (xs++ [x]) sep=if xs= [] then x else Lib.join xs sep++sep++x
 | []=>by simp[Lib.join,List.intercalate]
 | [y]=>by simp[Lib.join,List.intercalate]
 |y::z::xs=>by
  have:=join_snoc sep x (z::xs)
  rw[if_neg (by simp)] at this
  rw[if_neg (by simp)]
  have h: ∀(a b:List UInt8) (l:List (List UInt8)),Lib.join (a::b::l) sep=a++sep++Lib.join (b::l) sep:=fun a b l=>by simp[Lib.join,List.intercalate]
  rw[show y::z::xs++ [x]=y::z::(xs++ [x]) from rfl,h,h,show z::(xs++ [x])=z::xs++ [x] from rfl,this]
  simp
set_option maxHeartbeats 8000000 in
theorem k17 (s:AVal) (bs:List (Int×Int)) (m:AMem) (hs:SlF 2 bdC m s bs) (hn:bs.length≤2^30) (hb: ∀b∈bs,i64 b.1∧i64 b.2):ACalls Tryd.prog 17 [s] m fun v m'=>m<+:m'∧v=strB (textB bs):=by
 refine w17 ?_
 simp
 have hlb: ∀i,i≤bs.length→(Lib.join ((bs.take i).map oneB) [44]).length≤2^30*44:=fun i hi=>by
  have:=join_len (ss:=(bs.take i).map oneB) (c:=43) (fun x hx=>by
   obtain ⟨b,hbm,rfl⟩:=List.mem_map.1 hx
   exact oneB_len (hb b (List.mem_of_mem_take hbm)))
  rw[List.length_map,List.length_take] at this
  omega
 obtain ⟨tx,htx⟩: ∃tx:Nat→List UInt8,∀i,tx i=91::Lib.join ((bs.take i).map oneB) [44]:=⟨_,fun _=>rfl⟩
 have htl: ∀i,i≤bs.length→(tx i).length≤2^30*44+1:=fun i hi=>by
  have:=hlb i hi
  rw[htx]
  simp only[List.length_cons]
  omega
 have ht0:tx 0= [91]:=by rw[htx];simp[Lib.join,List.intercalate]
 obtain ⟨I,hI⟩: ∃I:Nat→AFrame→AMem→Prop,∀q f m',I q f m'↔(∃(i:Nat),i+q=bs.length∧f=h17_0 s (strB (tx i)) (.int .i64 i)∧m<+:m'):=⟨_,fun _ _ _=>Iff.rfl⟩
 refine W_loop I bs.length ((hI _ _ _).2 ⟨0,by simp,by simp[ht0],List.prefix_refl _⟩) ?_
 rintro q f m2 hIn
 obtain ⟨i,hq,rfl,hm2⟩:=(hI _ _ _).1 hIn
 clear hIn
 have hli:=htl i (by omega)
 simp[(hs.mono hm2).len]
 refine bbind_dec (fun hil=>?_) fun hil=>?_
 rotate_left
 ·have:i=bs.length:=by omega
  subst this
  have e:=str_app (tx bs.length) [93] (by simp only[List.length_cons,List.length_nil];omega)
  have e':tx bs.length++ [93]=textB bs:=by rw[htx,List.take_length];rfl
  rw[e',show [(93:UInt8)].toArray= #[93] from rfl] at e
  simp[e]
  exact hm2
 have hil:i<bs.length:=by omega
 have hw:IntKind.i64.wrap ((i:Int)+1)=(i:Int)+1:=wrap64 (by omega) (by omega)
 obtain ⟨b1,o1,p1,p2,_⟩:=(hs.mono hm2).at hil
 have hx64:=hb bs[i] (List.getElem_mem hil)
 have hj:tx (i+1)=(if i=0 then [91] else tx i++ [44])++oneB bs[i]:=by
  rw[htx,htx,take_snoc hil,List.map_append]
  simp only[List.map_cons,List.map_nil]
  rw[join_snoc]
  by_cases h0:i=0
  ·subst h0;simp[Lib.join,List.intercalate]
  ·rw[if_neg (by simp;exact ⟨h0,fun h=>by rw[h] at hil;simp at hil⟩),if_neg h0]
   simp
 have hol:=oneB_len hx64
 generalize bs[i]=x at*
 have p20:=p2 0 (by omega)
 have p21:=p2 1 (by omega)
 simp[bdC] at p20 p21
 have l1:=itoa_len hx64.1.1 hx64.1.2
 have l2:=itoa_len hx64.2.1 hx64.2.2
 have e1:=str_app (Lib.itoa x.1) [58] (by simp only[List.length_cons,List.length_nil];omega)
 have e2:=str_app (Lib.itoa x.1++ [58]) (Lib.itoa x.2) (by simp only[List.length_append,List.length_cons,List.length_nil];omega)
 have e3:Lib.itoa x.1++ [58]++Lib.itoa x.2=oneB x:=rfl
 rw[e3] at e2
 generalize Lib.itoa x.1++ [58]=t1 at*
 simp
 obtain ⟨J,hJ⟩: ∃J:AFrame→AMem→Prop,∀a' m',J a' m'↔(∃(u:List UInt8),a'.forget [0,3,4]=mat 33 [(0,s),(3,strB u),(4,.int .i64 i)]∧m'=m2∧u.length≤2^30*44+2∧u++oneB x=tx (i+1)):=⟨_,fun _ _=>Iff.rfl⟩
 refine bbind_J J ?_ ?_
 ·refine bbind_dec (fun h0=>?_) fun h0=>?_
  ·have e:=str_app (tx i) [44] (by simp only[List.length_cons,List.length_nil];omega)
   rw[show [(44:UInt8)].toArray= #[44] from rfl] at e
   simp[e]
   refine (hJ _ _).2 ⟨tx i++ [44],rfl,rfl,?_,?_⟩
   ·simp only[List.length_append,List.length_cons,List.length_nil];omega
   ·rw[hj,if_neg (by omega)]
  ·simp
   refine (hJ _ _).2 ⟨tx i,rfl,rfl,by omega,?_⟩
   have:i=0:=by omega
   subst this
   rw[hj,if_pos rfl,ht0]
 intro a m3 hJ3
 obtain ⟨u,hfa,rfl,hul,hu⟩:=(hJ _ _).1 hJ3
 clear hJ3 hJ J
 simp[hfa]
 have e4:=str_app u (oneB x) (by omega)
 rw[hu] at e4
 refine W_draw (fun i v _=>match i with
  |6=>v=strB (Lib.itoa x.1)
  |13=>v=strB (Lib.itoa x.2)
  |_=>True) (by simp[maxDst]) ?_
 refine D_pc 0 6 [6,7,8,9,10,11,12,13,14,15,16] ?_
 simp[p1,p20]
 intro fs _
 refine D_Cv (fn:=52) (fs':= []) (cs:= []) (strB (Lib.itoa x.1)) rfl trivial rfl (by simp) (fun m' h1 _=>by simpa using k52 x.1 hx64.1 m') ?_
 simp
 have hf1: ∀j m',upd fs 6 (fun _=>True) j m':=upd_true (by assumption) _
 refine D_pc 7 6 [13,14,15,16] (hfs:=hf1) ?_
 simp[e1,p1,p21]
 intro fs2 hfs2
 refine D_Cv (fn:=52) (fs':= []) (cs:= []) (strB (Lib.itoa x.2)) rfl trivial rfl (by simp) (fun m' h1 _=>by simpa using k52 x.2 hx64.2 m') ?_
 simp
 have hf2: ∀j m',upd fs2 13 (fun _=>True) j m':=upd_true (by assumption) _
 refine D_pc 14 3 [] (hfs:=hf2) ?_
 simp[e2,e4]
 intro fs3 hfs3
 refine D_end fun m6 hm6 _=>?_
 simp[hw]
 exact ⟨q-1,by omega,(hI _ _ _).2 ⟨i+1,by omega,by simp,hm2.trans hm6⟩⟩
end Go.Proofs.YtodhalcpnmddjaaDoor
namespace Go.Proofs.YtodhalcpnmddjaaDoor
open Go Ax
set_option maxRecDepth 100000
set_option maxHeartbeats 8000000 in
theorem k27 (v:AVal) (d:Dsc) (m:AMem) (hv:DsR m v d) (hn:d.ds.length<2^30):
  ACalls Tryd.prog 27 [v] m fun w m'=>m<+:m'∧DsO m.length m' w d:=by
 have hv0:=hv
 obtain ⟨s,rfl,hs,hsb⟩:=hv
 refine w27 ?_
 obtain ⟨h1,h2⟩:=hs.one
 simp[h1,h2]
 have hb:=readB_new m [AVal.int .i64 d.b,s] 26 none
 have hm1:m<+:m++ [ABlk.own [AVal.int .i64 d.b,s] 26 none,ABlk.own [AVal.int .i64 0,AVal.nilslice] 32 none]:=List.prefix_append _ _
 have hb:readB (m++ [ABlk.own [AVal.int .i64 d.b,s] 26 none,ABlk.own [AVal.int .i64 0,AVal.nilslice] 32 none]) m.length=some [.int .i64 d.b,s]:=by simp[readB,ABlk.cells]
 have hx1:(m++ [ABlk.own [AVal.int .i64 d.b,s] 26 none,ABlk.own [AVal.int .i64 0,AVal.nilslice] 32 none])[m.length+1]? =some (.own [.int .i64 0,.nilslice] 32 none):=by simp
 have hl1:(m++ [ABlk.own [AVal.int .i64 d.b,s] 26 none,ABlk.own [AVal.int .i64 0,AVal.nilslice] 32 none]).length=m.length+2:=by simp
 generalize m++ [ABlk.own [AVal.int .i64 d.b,s] 26 none,ABlk.own [AVal.int .i64 0,AVal.nilslice] 32 none]=m1 at*
 simp[bx hb,fillA,setN]
 rw[store_new m1 _ [AVal.int .i64 d.b,AVal.nilslice] _ _ 2 rfl rfl rfl]
 simp
 have hm2:m1<+:m1++ [ABlk.own [AVal.int .i64 d.b,AVal.nilslice] 32 none]:=List.prefix_append _ _
 have hx3:(m1++ [ABlk.own [AVal.int .i64 d.b,AVal.nilslice] 32 none])[m1.length]? =some (.own [.int .i64 d.b,.nilslice] 32 none):=by simp
 have hl3:(m1++ [ABlk.own [AVal.int .i64 d.b,AVal.nilslice] 32 none]).length=m1.length+1:=by simp
 generalize m1++ [ABlk.own [AVal.int .i64 d.b,AVal.nilslice] 32 none]=m3 at*
 generalize hb5:m1.length=b5 at*
 have hx23:=prefix_get hm2 hx1
 have hb3:=readB_mono hm2 hb
 have hm03:=hm1.trans hm2
 clear hm1 hm2 hx1 hb
 obtain ⟨I,hI⟩: ∃I:Nat→AFrame→AMem→Prop,∀q f m',I q f m'↔(∃(i:Nat) (o:AVal),i+q=d.ds.length∧f=h27_0 (.ptr m.length 0) (.ptr (m.length+1) 0) (.ptr b5 0) (.int .i64 i)∧m'[b5]? =some (.own [.int .i64 d.b,o] 32 none)∧OwF 3 dmC m3.length m' 90 o (d.ds.take i)∧Ch (fun b=>b=b5) m3 m'):=⟨_,fun _ _ _=>Iff.rfl⟩
 refine W_loop I d.ds.length ((hI _ _ _).2 ⟨0,.nilslice,by simp,by simp,hx3,OwF.nil,.refl _ _⟩) ?_
 rintro q f m4 hIn
 obtain ⟨i,o,hq,rfl,hx4,hO4,hc4⟩:=(hI _ _ _).1 hIn
 clear hIn
 have hm04:=hc4.pre hm03 fun b hb h=>by omega
 have hb4:=hc4.read (by omega) hb3
 simp[bx hb4,hs.len]
 refine bbind_dec (fun hil=>?_) fun hil=>?_
 rotate_left
 ·have:i=d.ds.length:=by omega
  subst this
  rw[List.take_length] at hO4
  obtain ⟨o1,o2⟩:=hO4.sl.one
  have hx24:=hc4.keep _ _ hx23 (by omega)
  have hlt4:=(List.getElem?_eq_some_iff.1 hx24).1
  simp[bxW (box_read hx4),readN]
  rw[store_boxN (cs:= [.int .i64 d.b,o]) (n:=2) hx24 rfl rfl (by simp[o1])]
  simp[loadE,readB,hlt4,ABlk.cells,readN]
  have hcc:Ch (fun b=>b=b5∨b=m.length+1) m3 (m4.set (m.length+1) (.own [.int .i64 d.b,o] 32 none)):=(hc4.weaken fun b _ h=> .inl h).set (.inl (.inr rfl)) _
  have hO5:=hO4.ch (Ch.setS (S:=fun b=>b=m.length+1) (.own [.int .i64 d.b,o] 32 none) rfl) fun b hb h=>by
   have:=(hO4.blk_lo hb).1
   omega
  exact ⟨hcc.pre hm03 fun b hb h=>by omega,DsO.own hO5 (by omega)⟩
 have hil:i<d.ds.length:=by omega
 obtain ⟨b1,o1,p1,p2,_⟩:=(hs.mono hm04).at hil
 have hpt:=take_snoc hil
 generalize d.ds[i]=x at*
 have p20:=p2 0 (by omega)
 have p21:=p2 1 (by omega)
 have p22:=p2 2 (by omega)
 simp[dmC] at p20 p21 p22
 have hb5r:=box_read hx4
 simp
 refine W_draw (fun _ _ _=>True) (by simp[maxDst]) ?_
 refine D_pc 0 23 [23,24,25,26] ?_
 simp[bx hb5r,bx hb4,p1,p20,p21,p22,fillA,setN]
 intro fs _
 refine D_An rfl trivial ?_
 simp[fillA,setN]
 intro b9 hb9
 refine D_X rfl rfl fun m6 hm6 hf=>?_
 have hf9:=hf 23
 simp[upd] at hf9
 have hsc:sliceCells m6 3 (.slice b9 0 1 1 none)=some (1,[.int .i64 x.l,.int .i64 x.u,.int .i64 x.s]):=by simp[sliceCells,readB,hf9,ABlk.cells,readN]
 have hl46:=hm6.length_le
 have hl34:=hc4.len
 obtain ⟨o',m7,happ,hch,hO7,hg7⟩:=(hO4.mono hm6).push (by omega) (by_:=24) (by omega) x (by rw[List.length_take];omega)
 simp only[dmC] at happ
 simp[hsc,happ,lateOf]
 refine D_P rfl trivial ?_
 simp
 refine D_W rfl rfl fun m8 hm8 _=>?_
 have hblo: ∀b,o.blk=some b→m3.length≤b:=fun b hb=>(hO4.blk_lo hb).1
 have hx7:=hch.keep b5 _ (prefix_get hm6 hx4) (fun h=>by have:=hblo _ h;omega)
 have hx8:=prefix_get hm8 hx7
 obtain ⟨q1,q2⟩:=hO7.sl.one
 simp
 rw[store_cell (cs:= [.int .i64 d.b,o]) hx8 (by simp) q2 q1]
 simp
 refine D_end fun m9 hm9 _=>?_
 have hl8:=(List.getElem?_eq_some_iff.1 hx8).1
 have hx9:m9[b5]? =some (.own [.int .i64 d.b,o'] 32 none):=prefix_get hm9 (by rw[List.getElem?_set_self hl8])
 have hc9:Ch (fun b=>b=b5) m3 m9:=by
  have h1:Ch (fun b=>b=b5∨o.blk=some b) m4 m9:=((((Ch.of_prefix hm6).trans (hch.weaken fun b _ h=> .inr h)).trans (.of_prefix hm8)).set (.inl (.inl rfl)) _).trans (.of_prefix hm9)
  refine ch_trans2 hc4 h1 fun b hb=>?_
  rcases hb with h|h
  ·exact .inl h
  ·exact .inr (hblo b h)
 have hwi:IntKind.i64.wrap ((i:Int)+1)=(i:Int)+1:=wrap64 (by omega) (by omega)
 simp[hwi]
 refine ⟨q-1,by omega,(hI _ _ _).2 ⟨i+1,o',by omega,by simp,hx9,?_,hc9⟩⟩
 rw[hpt]
 refine ((hO7.mono hm8).ch (Ch.setS (S:=fun b=>b=b5) _ rfl) fun b hb h=>?_).mono hm9
 have:=(hO7.blk_lo hb).1
 omega
end Go.Proofs.YtodhalcpnmddjaaDoor
namespace Go.Proofs.YtodhalcpnmddjaaDoor
open Go Ax
set_option maxRecDepth 100000
def FewR (d:Dsc) (v:AVal):Prop:= ∃b,v= .bool b∧(b=true→d.ds.length≤5)
set_option maxHeartbeats 8000000 in
theorem k20 (v:AVal) (d:Dsc) (m:AMem) (hv:DsR m v d) (hn:d.ds.length<2^62):ACalls Tryd.prog 20 [v] m fun r m'=>m<+:m'∧FewR d r:=by
 obtain ⟨s,rfl,hs,hsb⟩:=hv
 refine w20 ?_
 obtain ⟨h1,h2⟩:=hs.one
 simp[h1,h2]
 have hb:=readB_new m [AVal.int .i64 d.b,s] 26 none
 have hm:m<+:m++ [ABlk.own [AVal.int .i64 d.b,s] 26 none]:=List.prefix_append _ _
 generalize m++ [ABlk.own [AVal.int .i64 d.b,s] 26 none]=m1 at*
 generalize m.length=b0 at*
 simp[bx hb,hs.len]
 refine bbind_dec (fun h5=>?_) fun h5=>?_
 ·simp[FewR,hm]
 have h5:d.ds.length≤5:=by omega
 have hF: ∀b:Bool,FewR d (.bool b):=fun b=>⟨b,rfl,fun _=>h5⟩
 simp
 obtain ⟨I,hI⟩: ∃I:Nat→AFrame→AMem→Prop,∀q f m',I q f m'↔(∃(i:Nat) (n:Int),i+q=d.ds.length∧f=h20_0 (.ptr b0 0) (.int .i64 n) (.int .i64 i)∧m1<+:m'∧0≤n∧n≤200):=⟨_,fun _ _ _=>Iff.rfl⟩
 refine W_loop I d.ds.length ((hI _ _ _).2 ⟨0,1,by simp,by simp,List.prefix_refl _,by omega,by omega⟩) ?_
 rintro q f m2 hIn
 obtain ⟨i,n,hq,rfl,hm2,hn0,hn1⟩:=(hI _ _ _).1 hIn
 clear hIn
 have hb2:=readB_mono hm2 hb
 have hm02:=hm.trans hm2
 simp[bx hb2,hs.len]
 refine bbind_dec (fun hil=>?_) fun hil=>?_
 rotate_left
 ·simp[hm02,hF]
 have hil:i<d.ds.length:=by omega
 have hw:IntKind.i64.wrap ((i:Int)+1)=(i:Int)+1:=wrap64 (by omega) (by omega)
 obtain ⟨b1,o1,p1,p2,_⟩:=(hs.mono hm02).at hil
 generalize d.ds[i]=x at*
 have p20:=p2 0 (by omega)
 have p21:=p2 1 (by omega)
 simp[dmC] at p20 p21
 simp
 refine W_drawPR (by simp[maxDst]) rfl rfl ?_
 simp[bx hb2,p1,p20,p21]
 intro m3 hm3
 have hm03:=hm02.trans hm3
 by_cases g1:x.l< -2147483648
 ·simp[g1,hm03,hF]
 by_cases g2:2147483648<x.u
 ·simp[g1,g2,hm03,hF]
 by_cases g3:2147483648<x.l
 ·simp[g1,g2,g3,hm03,hF]
 by_cases g4:x.u< -2147483648
 ·simp[g1,g2,g3,g4,hm03,hF]
 simp[g1,g2,g3,g4]
 refine C_of (k49 x.l x.u m3 (by omega)) ?_
 rintro _ m4 ⟨rfl,rfl⟩
 have hl0:0≤lenI x.l x.u:=by unfold lenI;split<;>omega
 simp
 obtain ⟨y,hy⟩: ∃y,y=if 201<lenI x.l x.u then 201 else lenI x.l x.u:=⟨_,rfl⟩
 have hy0:0≤y∧y≤201:=by rw[hy];split<;>omega
 have hp:0≤n*y∧n*y≤40200:=by
  refine ⟨Int.mul_nonneg hn0 hy0.1,?_⟩
  have a1:=Int.mul_le_mul_of_nonneg_right hn1 hy0.1
  have a2:=Int.mul_le_mul_of_nonneg_left hy0.2 (show (0:Int)≤200 by omega)
  omega
 have hwp:IntKind.i64.wrap (n*y)=n*y:=by
  generalize n*y=z at*
  exact wrap64 (by omega) (by omega)
 have hev: ∀z:Int,POp.ev (mat 54 [(49,AVal.int .i64 (lenI x.l x.u)),(48,AVal.int .i64 x.u),(47,AVal.int .i64 x.l),(46,AVal.int .i64 n),(1,AVal.ptr b0 0),(3,AVal.int .i64 n),(4,AVal.int .i64 (i:Int)),(5,AVal.int .i64 x.l),(6,AVal.int .i64 x.u)]) (POp.min (Arg.t 49) (Arg.c (AVal.int .i64 201)))=some (.int .i64 y):=fun _=>by rw[hy];rfl
 rw[hev 0]
 simp[hwp]
 by_cases g5:200<n*y
 ·simp[g5,hm03,hF]
 ·simp[g5,hw]
  exact ⟨q-1,by omega,(hI _ _ _).2 ⟨i+1,n*y,by omega,by simp,hm2.trans hm3,hp.1,by omega⟩⟩
end Go.Proofs.YtodhalcpnmddjaaDoor
namespace Go.Proofs.YtodhalcpnmddjaaDoor
open Go Ax
set_option maxRecDepth 100000
theorem w3 {args m R} (h:W Tryd.prog (.seq (.reg [qb 6 false]) (.kill [0,1,2] (.seq (.seq (.reg [qv 11 0,qn 12 11,qk 13 .gtr 12 5,qv 14 13,⟨some 15,.P (.mov (.t 1)),(some (14,false))⟩,⟨some 16,.P (.len (.t 15)),(some (14,false))⟩,⟨some 17,.P (.bin .gtr (.t 16) (qz 5)),(some (14,false))⟩,⟨some 18,.P (.pick (.t 14) (.c (.bool true)) (.t 17)),none⟩]) (.kill [0,1,2,18] (.cond (.t 18) (.seq (.reg [qc 19 11 [],qv 6 19]) .ret) .skip))) (.kill [0,1,2] (.seq (.reg [qv 21 0,qc 22 12 [(.t 21)],qv 20 22,qx 23 20 0,qx 24 20 1,⟨some 7,.A (.alloc 26 [(.int .i64 0),.nilslice]),none⟩,⟨none,.W (.store 2 (.t 7) (.t 23)),none⟩,qv 8 24]) (.kill [0,1,2,7,8] (.seq (.reg [qv 26 0,qc 27 14 [(.t 26)],qc 28 13 [(.t 27)],qv 25 28,qx 29 25 0,qx 30 25 1,⟨some 9,.A (.alloc 32 [(.int .i64 0),.nilslice]),none⟩,⟨none,.W (.store 2 (.t 9) (.t 29)),none⟩,qv 10 30]) (.kill [0,1,2,7,8,9,10] (.seq (.seq (.reg [qc 31 11 [],⟨some 32,.P (.un .not (.t 31)),none⟩,qv 33 32,⟨some 34,.P (.mov (.t 8)),(some (33,false))⟩,⟨some 35,.P (.mov (.t 10)),(some (33,false))⟩,⟨some 36,.P (.bin .neq (.t 34) (.t 35)),(some (33,false))⟩,⟨some 37,.P (.pick (.t 33) (.c (.bool true)) (.t 36)),none⟩,qv 38 37,⟨some 39,.R (.load 2 true (.t 7)),(some (38,false))⟩,⟨some 40,.R (.load 2 true (.t 9)),(some (38,false))⟩,⟨some 41,.C (.c (.func (.func 15) [] [])) [(.t 39),(.t 40)],(some (38,false))⟩,⟨some 42,.P (.un .not (.t 41)),(some (38,false))⟩,⟨some 43,.P (.pick (.t 38) (.c (.bool true)) (.t 42)),none⟩,qv 44 43,⟨some 45,.P (.mov (.t 0)),(some (44,false))⟩,⟨some 46,.C (.c (.func (.func 16) [] [])) [(.t 45)],(some (44,false))⟩,⟨some 47,.P (.mov (.t 0)),(some (44,false))⟩,⟨some 48,.C (.c (.func (.func 14) [] [])) [(.t 47)],(some (44,false))⟩,⟨some 49,.C (.c (.func (.func 17) [] [])) [(.t 48)],(some (44,false))⟩,⟨some 50,.P (.bin .neq (.t 46) (.t 49)),(some (44,false))⟩,⟨some 51,.P (.pick (.t 44) (.c (.bool true)) (.t 50)),none⟩,qv 52 51,⟨some 53,.P (.mov (.t 0)),(some (52,false))⟩,⟨some 54,.P (.mov (.t 1)),(some (52,false))⟩,⟨some 55,.C (.c (.func (.func 18) [] [])) [(.t 53),(.t 54)],(some (52,false))⟩,⟨some 56,.P (.mov (.t 0)),(some (52,false))⟩,⟨some 57,.C (.c (.func (.func 14) [] [])) [(.t 56)],(some (52,false))⟩,⟨some 58,.P (.mov (.t 1)),(some (52,false))⟩,⟨some 59,.C (.c (.func (.func 14) [] [])) [(.t 58)],(some (52,false))⟩,⟨some 60,.C (.c (.func (.func 19) [] [])) [(.t 57),(.t 59)],(some (52,false))⟩,⟨some 61,.P (.eqB true (.t 55) (.t 60)),(some (52,false))⟩,⟨some 62,.P (.pick (.t 52) (.c (.bool true)) (.t 61)),none⟩]) (.kill [2,7,9,62] (.cond (.t 62) (.seq (.reg [qb 6 false]) .ret) .skip))) (.kill [2,7,9] (.seq (.draw false [⟨some 63,.R (.load 2 true (.t 7)),none⟩,qc 64 20 [(.t 63)],⟨some 65,.P (.un .not (.t 64)),none⟩,qv 66 65,⟨some 67,.R (.load 2 true (.t 7)),(some (66,false))⟩,⟨some 68,.P (.mov (.t 2)),(some (66,false))⟩,⟨some 69,.C (.c (.func (.func 21) [] [])) [(.t 67),(.t 68)],(some (66,false))⟩,⟨some 70,.R (.load 2 true (.t 9)),(some (66,false))⟩,⟨some 71,.P (.mov (.t 2)),(some (66,false))⟩,⟨some 72,.C (.c (.func (.func 22) [] [])) [(.t 70),(.t 71)],(some (66,false))⟩,⟨some 73,.P (.bin .eql (.t 69) (.t 72)),(some (66,false))⟩,⟨some 74,.P (.mov (.t 73)),(some (66,false))⟩,⟨some 75,.R (.load 2 true (.t 7)),(some (74,true))⟩,⟨some 76,.C (.c (.func (.func 23) [] [])) [(.t 75)],(some (74,true))⟩,⟨some 77,.R (.load 2 true (.t 9)),(some (74,true))⟩,⟨some 78,.C (.c (.func (.func 24) [] [])) [(.t 77)],(some (74,true))⟩,⟨some 79,.P (.bin .eql (.t 76) (.t 78)),(some (74,true))⟩,⟨some 80,.P (.pick (.t 74) (.t 79) (.c (.bool false))),(some (66,false))⟩,⟨some 81,.P (.mov (.t 80)),(some (66,false))⟩,⟨some 82,.R (.load 2 true (.t 7)),(some (81,true))⟩,⟨some 83,.C (.c (.func (.func 25) [] [])) [(.t 82)],(some (81,true))⟩,⟨some 84,.C (.c (.func (.func 16) [] [])) [(.t 83)],(some (81,true))⟩,⟨some 85,.R (.load 2 true (.t 9)),(some (81,true))⟩,⟨some 86,.C (.c (.func (.func 26) [] [])) [(.t 85)],(some (81,true))⟩,⟨some 87,.C (.c (.func (.func 17) [] [])) [(.t 86)],(some (81,true))⟩,⟨some 88,.P (.bin .eql (.t 84) (.t 87)),(some (81,true))⟩,⟨some 89,.P (.pick (.t 81) (.t 88) (.c (.bool false))),(some (66,false))⟩,⟨some 90,.P (.pick (.t 66) (.c (.bool true)) (.t 89)),none⟩,qv 6 90] [[],[],[1],[1],[1],[1],[1],[1],[1],[1,6],[1,6,9],[1,6,9],[1,6,9],[1,6,9],[1,6,9],[1,6,9,13],[1,6,9,13,15],[1,6,9,13,15],[1,6,9,13,15],[1,6,9,13,15],[1,6,9,13,15],[1,6,9,13,15,20],[1,6,9,13,15],[1,6,9,13,15,20,21],[1,6,9,13,15,20,21,23],[1,6,9,13,15,20,21,23,24],[1,6,9,13,15,20,21,23,24],[1,6,9,13,15,20,21,23,24],[1,6,9,13,15,20,21,23,24]] [[],[],[],[],[],[],[],[],[],[],[],[],[],[],[],[],[],[],[],[],[],[],[],[],[],[],[],[],[]] [0,1,2,3,4,5,6,7,8,9,10,11,12,13,14,15,16,17,18,19,20,21,22,23,24,25,26,27,28]) .ret))))))))))) (E [(.tmp 6)] R .mk) .mk (mat 91 (sArgs 0 args)) m) (hl:Nat.ble args.length 91=true:=by rfl):ACalls Tryd.prog 3 args m R:=walk mix (by kernel_rfl) (Nat.le_of_ble_eq_true hl) h
end Go.Proofs.YtodhalcpnmddjaaDoor
namespace Go.Proofs.YtodhalcpnmddjaaDoor
open Go Ax
set_option maxRecDepth 100000
theorem upd_at {fs:Facts} {m:AMem} (h: ∀j,fs j m) {i:Nat} {φ:AMem→Prop} (hφ:φ m) (j:Nat):upd fs i φ j m:=by
 unfold upd
 split
 ·exact hφ
 ·exact h j
theorem str_ne (x:ByteArray):binStr .neq x x=some (.bool false):=by simp[binStr]
theorem str_eq (x:ByteArray):binStr .eql x x=some (.bool true):=by simp[binStr]
theorem make_len (bs:List (Int×Int)):(makeD bs).1.ds.length≤bs.length:=by
 unfold makeD
 split
 ·simp[Dsc.zero]
 ·simp[plainW_len]
theorem make_i64 {bs:List (Int×Int)} (h: ∀b∈bs,i64 b.1∧i64 b.2): ∀b∈(makeD bs).1.bnds,i64 b.1∧i64 b.2:=by
 unfold makeD
 split
 ·intro b hb;simp[Dsc.zero,Dsc.bnds,bndsD] at hb
 ·show ∀b∈bndsD (plainW bs),_
  rw[plainW_bnds]
  exact h
theorem zero_bad:Dsc.zero.bad=false:=by
 simp[Dsc.bad,Dsc.rightI,Dsc.zero,rightD,checkB,bndsD,cntI,emptyB,prodN,rangeI,farB,lowS,highS]
theorem make_bad (bs:List (Int×Int)):(makeD bs).1.bad=false:=by
 by_cases h:(makeD bs).2=0
 ·exact (make_right h).1
 ·have:makeD bs=(.zero,checkB bs):=by
   unfold makeD at h ⊢
   split at h
   ·rename_i hc;rw[if_pos hc]
   ·exact absurd rfl h
  rw[this]
  exact zero_bad
set_option maxHeartbeats 8000000 in
theorem k3 (s t:AVal) (bs cs:List (Int×Int)) (n:Int) (m:AMem) (hs:SlF 2 bdC m s bs) (ht:SlF 2 bdC m t cs) (hb: ∀b∈bs,i64 b.1∧i64 b.2) (hn:bs.length<2^62) (hn':cs.length<2^62):
  ACalls Tryd.prog 3 [s,t,.int .i64 n] m fun v m'=>m<+:m'∧v= .bool true:=by
 refine w3 ?_
 simp[hs.len,ht.len]
 by_cases hl:5<bs.length
 ·have hl':(5:Int)<(bs.length:Int):=by omega
  simp[hl']
  refine C_of (k11 m) ?_
  rintro _ m1 ⟨hm1,rfl⟩
  simp[hm1]
 have hl': ¬(5:Int)<(bs.length:Int):=by omega
 by_cases hk:5<cs.length
 ·have hk':(5:Int)<(cs.length:Int):=by omega
  simp[hl',ht.len,hk']
  refine C_of (k11 m) ?_
  rintro _ m1 ⟨hm1,rfl⟩
  simp[hm1]
 have hk': ¬(5:Int)<(cs.length:Int):=by omega
 simp[hl',ht.len,hk']
 refine C_of (k12 s bs m hs (by omega)) ?_
 rintro _ m2 ⟨hm2,w,rfl,hD⟩
 replace hD:=hD.ds
 obtain ⟨u,rfl,hu,hub⟩:=id hD
 obtain ⟨o1,o2⟩:=hu.one
 simp
 rw[store_new m2 _ [AVal.int .i64 (makeD bs).1.b,u] _ _ 2 rfl rfl (by simp[o1])]
 have hb3:=readB_new m2 [AVal.int .i64 (makeD bs).1.b,u] 26 none
 have hm3:m2<+:m2++ [ABlk.own [AVal.int .i64 (makeD bs).1.b,u] 26 none]:=List.prefix_append _ _
 generalize m2++ [ABlk.own [AVal.int .i64 (makeD bs).1.b,u] 26 none]=m3 at*
 generalize m2.length=b5 at*
 have hm03:=hm2.trans hm3
 simp
 refine C_of (k14 s bs m3 (hs.mono hm03) (by omega)) ?_
 rintro v4 m4 ⟨hm4,hs4⟩
 simp
 refine C_of (k13 v4 bs m4 hs4 (by omega)) ?_
 rintro _ m5 ⟨hm5,w',rfl,hE⟩
 replace hE:=hE.ds
 obtain ⟨u',rfl,hu',hub'⟩:=id hE
 obtain ⟨o1',o2'⟩:=hu'.one
 simp
 rw[store_new m5 _ [AVal.int .i64 (makeD bs).1.b,u'] _ _ 2 rfl rfl (by simp[o1'])]
 have hb7:=readB_new m5 [AVal.int .i64 (makeD bs).1.b,u'] 32 none
 have hm6:m5<+:m5++ [ABlk.own [AVal.int .i64 (makeD bs).1.b,u'] 32 none]:=List.prefix_append _ _
 generalize m5++ [ABlk.own [AVal.int .i64 (makeD bs).1.b,u'] 32 none]=m6 at*
 generalize m5.length=b7 at*
 have hm36:=hm4.trans (hm5.trans hm6)
 have hm06:=hm03.trans hm36
 have hb6:=readB_mono hm36 hb3
 have hD6:=hD.mono (hm3.trans hm36)
 have hE6:=hE.mono hm6
 have hlen:(makeD bs).1.ds.length≤5:=by have:=make_len bs;omega
 have hi:=make_i64 hb
 have hbd:=make_bad bs
 clear hb3 hD hE hm3 hm4 hm5 hm6 hm36 hm2 hm03 hs4
 generalize (makeD bs).1=d at*
 generalize (makeD bs).2=err at*
 simp
 refine C_of (k11 m6) ?_
 rintro _ m7 ⟨hm7,rfl⟩
 have hbw:=bxW (readB_mono hm7 hb6) 2
 have hbw7:=bxW (readB_mono hm7 hb7) 2
 simp[readN] at hbw hbw7
 simp[hbw,hbw7]
 refine C_of (k15 _ _ d m7 (hD6.mono hm7) (hE6.mono hm7) (by omega)) ?_
 rintro _ m8 ⟨hm8,rfl⟩
 simp
 have hm68:=hm7.trans hm8
 refine C_of (k16 s bs m8 (hs.mono (hm06.trans hm68)) (by omega) hb) ?_
 rintro _ m9 ⟨hm9,rfl⟩
 simp
 have hm69:=hm68.trans hm9
 refine C_of (k14 s bs m9 (hs.mono (hm06.trans hm69)) (by omega)) ?_
 rintro v10 m10 ⟨hm10,hs10⟩
 simp
 have hm610:=hm69.trans hm10
 refine C_of (k17 v10 bs m10 hs10 (by omega) hb) ?_
 rintro _ m11 ⟨hm11,rfl⟩
 simp[str_ne]
 have hm611:=hm610.trans hm11
 refine C_of (k18 s t bs cs m11 (hs.mono (hm06.trans hm611)) (ht.mono (hm06.trans hm611)) (by omega)) ?_
 rintro _ m12 ⟨hm12,rfl⟩
 simp
 have hm612:=hm611.trans hm12
 refine C_of (k14 s bs m12 (hs.mono (hm06.trans hm612)) (by omega)) ?_
 rintro v13 m13 ⟨hm13,hs13⟩
 simp
 have hm613:=hm612.trans hm13
 refine C_of (k14 t cs m13 (ht.mono (hm06.trans hm613)) (by omega)) ?_
 rintro v14 m14 ⟨hm14,ht14⟩
 simp
 refine C_of (k19 v13 v14 bs cs m14 (hs13.mono hm14) ht14 (by omega)) ?_
 rintro _ m15 ⟨hm15,rfl⟩
 have hm615:=hm613.trans (hm14.trans hm15)
 have hb15:=readB_mono hm615 hb6
 have hb715:=readB_mono hm615 hb7
 have hD15:=hD6.mono hm615
 have hE15:=hE6.mono hm615
 have hm015:=hm06.trans hm615
 have hbw:=bxW hb15 2
 have hbw7:=bxW hb715 2
 simp[readN] at hbw hbw7
 clear hb6 hb7 hm615 hm613 hm612 hm611 hm610 hm69 hm68 hm14 hm13 hm12 hm11 hm10 hm9 hm8 hm7 hD6 hE6 hm06
 simp
 refine W_draw (fun i v m=>match i with
  |1=>FewR d v
  |6=>v= .int .i64 (rightD d.b d.ds n)
  |9=>v= .int .i64 (rightD d.b d.ds n)
  |13=>v= .int .i64 d.count
  |15=>v= .int .i64 d.count
  |20=>SlF 2 bdC m v d.bnds
  |21=>v=strB (textB d.bnds)
  |23=>SlF 2 bdC m v d.bnds
  |24=>v=strB (textB d.bnds)
  |_=>True) (by simp[maxDst]) ?_
 refine D_pc 0 1 [1,2,3,4,5,6,7,8,9,10,11,12,13,14,15,16,17,18,19,20,21,22,23,24,25,26,27,28] ?_
 simp[hbw]
 intro fs hfs
 refine D_C (fn:=20) (fs':= []) (cs:= []) rfl trivial (by simp) (fun m' h1 _=>by simpa using k20 _ d m' (hD15.mono h1) (by omega)) ⟨.bool false,m15,List.prefix_refl _,false,rfl,by simp⟩ (fun v m m' _ h=>h) ?_
 rintro _ m16 hm16 ⟨fb,rfl,hfb⟩
 have hf1: ∀j m',upd fs 1 (fun _=>FewR d (.bool fb)) j m':=fun j m'=>upd_all hfs ⟨fb,rfl,hfb⟩ j
 simp
 cases fb with
 |false=>
  repeat (first|(refine D_skip rfl rfl (by simp) ?_;simp)|(refine D_P rfl trivial ?_;simp))
  refine D_end fun m2 hm2 _=>?_
  simp[hm015.trans hm2]
 |true=>
  refine D_pc 2 4 [6,7,8,9,10,11,12,13,14,15,16,17,18,19,20,21,22,23,24,25,26,27,28] (hfs:=hf1) ?_
  simp[hbw]
  intro fs2 hfs2
  refine D_Cv (fn:=21) (fs':= []) (cs:= []) (.int .i64 (rightD d.b d.ds n)) rfl (by simp[gOK]) rfl (by simp) (fun m' h1 _=>by simpa using k21 _ d n m' (hD15.mono h1) (by omega)) ?_
  simp
  have hf2: ∀j m',upd fs2 6 (fun _=>True) j m':=upd_true (by assumption) _
  refine D_pc 7 2 [9,10,11,12,13,14,15,16,17,18,19,20,21,22,23,24,25,26,27,28] (hfs:=hf2) ?_
  simp[hbw7]
  intro fs3 hfs3
  refine D_Cv (fn:=22) (fs':= []) (cs:= []) (.int .i64 (rightD d.b d.ds n)) rfl (by simp[gOK]) rfl (by simp) (fun m' h1 _=>by simpa using k22 _ d n m' (hE15.mono h1) (by omega)) ?_
  simp
  have hf3: ∀j m',upd fs3 9 (fun _=>True) j m':=upd_true (by assumption) _
  refine D_pc 10 3 [13,14,15,16,17,18,19,20,21,22,23,24,25,26,27,28] (hfs:=hf3) ?_
  simp[hbw]
  intro fs4 hfs4
  refine D_Cv (fn:=23) (fs':= []) (cs:= []) (.int .i64 d.count) rfl (by simp[gOK]) rfl (by simp) (fun m' h1 _=>by simpa using k23 _ d m' (hD15.mono h1) (by omega)) ?_
  simp
  have hf4: ∀j m',upd fs4 13 (fun _=>True) j m':=upd_true (by assumption) _
  refine D_pc 14 1 [15,16,17,18,19,20,21,22,23,24,25,26,27,28] (hfs:=hf4) ?_
  simp[hbw7]
  intro fs5 hfs5
  refine D_Cv (fn:=24) (fs':= []) (cs:= []) (.int .i64 d.count) rfl (by simp[gOK]) rfl (by simp) (fun m' h1 _=>by simpa using k24 _ d m' (hE15.mono h1) (by omega)) ?_
  simp
  have hf5: ∀j m',upd fs5 15 (fun _=>True) j m':=upd_true (by assumption) _
  refine D_pc 16 4 [20,21,22,23,24,25,26,27,28] (hfs:=hf5) ?_
  simp[hbw]
  intro fs6 hfs6
  refine D_C (fn:=25) (fs':= []) (cs:= []) rfl (by simp[gOK]) (by simp) (fun m' h1 _=>by simpa[hbd] using k25 _ d m' (hD15.mono h1) (by omega)) (flat_new _ _) (fun v m m' hm h=>h.mono hm) ?_
  intro v10 m10 hm10 hv10
  simp
  have hbl:d.bnds.length≤5:=by simp[Dsc.bnds,bndsD];omega
  refine D_Cv (fn:=16) (fs':= []) (cs:= []) (strB (textB d.bnds)) rfl (by simp[gOK]) rfl (by simp) (fun m' h1 hp=>?_) ?_
  ·have p10:=hp 20 (by simp)
   simp[upd] at p10
   simpa using k16 v10 d.bnds m' p10 (by omega) hi
  simp
  refine D_R rfl (by simp[gOK]) ⟨m10,hm10,fun j _=>upd_at (upd_at (fun j=>hfs6 j _) hv10) trivial j⟩ ?_
  simp[hbw7]
  refine D_C (fn:=26) (fs':= []) (cs:= []) rfl (by simp[gOK]) (by simp) (fun m' h1 _=>by simpa using k26 _ d m' (hE15.mono h1) (by omega)) (flat_new _ _) (fun v m m' hm h=>h.mono hm) ?_
  intro v12 m12 hm12 hv12
  simp
  refine D_Cv (fn:=17) (fs':= []) (cs:= []) (strB (textB d.bnds)) rfl (by simp[gOK]) rfl (by simp) (fun m' h1 hp=>?_) ?_
  ·have p12:=hp 23 (by simp)
   simp[upd] at p12
   simpa using k17 v12 d.bnds m' p12 (by omega) hi
  simp
  repeat (refine D_P rfl (by simp[gOK]) ?_;simp[str_eq])
  refine D_end fun m2 hm2 _=>?_
  simp[hm015.trans hm2]
end Go.Proofs.YtodhalcpnmddjaaDoor
namespace Go.Proofs.YtodhalcpnmddjaaDoor
open Go Ax
set_option maxRecDepth 100000
set_option maxHeartbeats 8000000 in
theorem k4 (v t:AVal) (d:Dsc) (ss:List Int) (n:Int) (m:AMem) (hv:DsR m v d) (ht:RInts m t ss) (hn:d.ds.length<2^62) (hn':ss.length<2^62):
  ACalls Tryd.prog 4 [v,t,.int .i64 n] m fun v m'=>m<+:m'∧v= .bool true:=by
 have hv0:=hv
 obtain ⟨s,rfl,hs,hsb⟩:=hv
 refine w4 ?_
 obtain ⟨h1,h2⟩:=hs.one
 simp[h1,h2]
 have hb:=readB_new m [AVal.int .i64 d.b,s] 26 none
 have hm:m<+:m++ [ABlk.own [AVal.int .i64 d.b,s] 26 none]:=List.prefix_append _ _
 generalize m++ [ABlk.own [AVal.int .i64 d.b,s] 26 none]=m1 at*
 generalize hb0:m.length=b0 at*
 refine C_of (k11 m1) ?_
 rintro _ m2 ⟨hm2,rfl⟩
 have hm02:=hm.trans hm2
 have hb2:=readB_mono hm2 hb
 simp[bxW hb2,readN]
 refine C_of (k20 _ d m2 (hv0.mono hm02) hn) ?_
 rintro _ m3 ⟨hm3,fb,rfl,hfb⟩
 have hm03:=hm02.trans hm3
 have hb3:=readB_mono hm3 hb2
 cases fb with
 |false=>
  simp
  refine C_of (k11 m3) ?_
  rintro _ m4 ⟨hm4,rfl⟩
  simp[hm03.trans hm4]
 |true=>
 have hlen:d.ds.length≤5:=hfb rfl
 simp[ht.len]
 refine bbind_dec (fun h6=>?_) fun h6=>?_
 ·simp
  refine C_of (k11 m3) ?_
  rintro _ m4 ⟨hm4,rfl⟩
  simp[hm03.trans hm4]
 simp[bxW hb3,readN]
 refine C_of (k27 _ d m3 (hv0.mono hm03) (by omega)) ?_
 rintro w' m4 ⟨hm4,hE⟩
 replace hE:=hE.ds
 obtain ⟨u',rfl,hu',hub'⟩:=id hE
 obtain ⟨o1',o2'⟩:=hu'.one
 simp
 rw[store_new m4 _ [AVal.int .i64 d.b,u'] _ _ 2 rfl rfl (by simp[o1'])]
 have hb7:=readB_new m4 [AVal.int .i64 d.b,u'] 32 none
 have hm5:m4<+:m4++ [ABlk.own [AVal.int .i64 d.b,u'] 32 none]:=List.prefix_append _ _
 generalize m4++ [ABlk.own [AVal.int .i64 d.b,u'] 32 none]=m5 at*
 generalize m4.length=b7 at*
 have hm35:=hm4.trans hm5
 have hm05:=hm03.trans hm35
 have hb5:=readB_mono hm35 hb3
 have hE5:=hE.mono hm5
 simp[bxW hb5,readN]
 refine C_of (k28 _ t d ss m5 (hv0.mono hm05) (ht.mono hm05) (by omega) hn') ?_
 rintro _ m6 ⟨hm6,rfl⟩
 have hm06:=hm05.trans hm6
 have hb76:=readB_mono hm6 hb7
 simp[bxW hb76,readN]
 refine C_of (k29 _ t d ss m6 (hE5.mono hm6) (ht.mono hm06) (by omega) hn') ?_
 rintro _ m7 ⟨hm7,rfl⟩
 have hm07:=hm06.trans hm7
 have hb77:=readB_mono hm7 hb76
 have hb67:=readB_mono (hm6.trans hm7) hb5
 have hv7:=hv0.mono hm07
 have hE7:=hE5.mono (hm6.trans hm7)
 clear hb76 hb5 hE5 hE hb3 hb2 hb hb7 hm2 hm3 hm4 hm5 hm6 hm35 hm05 hm06 hm03 hm02
 have hbw:=bxW hb67 2
 have hbw7:=bxW hb77 2
 simp[readN] at hbw hbw7
 simp
 refine W_draw (fun i v m=>match i with
  |16=>v= .int .i64 (rightD d.b d.ds n)
  |19=>v= .int .i64 (rightD d.b d.ds n)
  |24=>v= .int .i64 d.count
  |26=>v= .int .i64 d.count
  |31=>RInts m v d.places
  |33=>RInts m v d.places
  |34=>v= .bool true
  |_=>True) (by simp[maxDst]) ?_
 refine D_pc 0 16 [16,17,18,19,20,21,22,23,24,25,26,27,28,29,30,31,32,33,34,35,36] ?_
 simp[hbw]
 intro fs hfs
 refine D_Cv (fn:=21) (fs':= []) (cs:= []) (.int .i64 (rightD d.b d.ds n)) rfl (by simp[gOK]) rfl (by simp) (fun m' h1 _=>by simpa using k21 _ d n m' (hv7.mono h1) (by omega)) ?_
 simp
 have hf2: ∀j m',upd fs 16 (fun _=>True) j m':=upd_true (by assumption) _
 refine D_pc 17 2 [19,20,21,22,23,24,25,26,27,28,29,30,31,32,33,34,35,36] (hfs:=hf2) ?_
 simp[hbw7]
 intro fs3 hfs3
 refine D_Cv (fn:=22) (fs':= []) (cs:= []) (.int .i64 (rightD d.b d.ds n)) rfl (by simp[gOK]) rfl (by simp) (fun m' h1 _=>by simpa using k22 _ d n m' (hE7.mono h1) (by omega)) ?_
 simp
 have hf3: ∀j m',upd fs3 19 (fun _=>True) j m':=upd_true (by assumption) _
 refine D_pc 20 4 [24,25,26,27,28,29,30,31,32,33,34,35,36] (hfs:=hf3) ?_
 simp[hbw]
 intro fs4 hfs4
 refine D_Cv (fn:=23) (fs':= []) (cs:= []) (.int .i64 d.count) rfl (by simp[gOK]) rfl (by simp) (fun m' h1 _=>by simpa using k23 _ d m' (hv7.mono h1) (by omega)) ?_
 simp
 have hf4: ∀j m',upd fs4 24 (fun _=>True) j m':=upd_true (by assumption) _
 refine D_pc 25 1 [26,27,28,29,30,31,32,33,34,35,36] (hfs:=hf4) ?_
 simp[hbw7]
 intro fs5 hfs5
 refine D_Cv (fn:=24) (fs':= []) (cs:= []) (.int .i64 d.count) rfl (by simp[gOK]) rfl (by simp) (fun m' h1 _=>by simpa using k24 _ d m' (hE7.mono h1) (by omega)) ?_
 simp
 have hf5: ∀j m',upd fs5 26 (fun _=>True) j m':=upd_true (by assumption) _
 refine D_pc 27 4 [31,32,33,34,35,36] (hfs:=hf5) ?_
 simp[hbw]
 intro fs6 hfs6
 refine D_C (fn:=31) (fs':= []) (cs:= []) rfl (by simp[gOK]) (by simp) (fun m' h1 _=>by simpa using (k31 _ d m' (hv7.mono h1) (by omega)).mono fun v m'' h=>⟨h.1,h.2.ints⟩) (ints_new _ _) (fun v m m' hm h=>Sl.mono h hm) ?_
 intro v10 m10 hm10 hv10
 simp
 refine D_R rfl (by simp[gOK]) ⟨m10,hm10,fun j _=>upd_at (fun j=>hfs6 j _) hv10 j⟩ ?_
 simp[hbw7]
 refine D_C (fn:=32) (fs':= []) (cs:= []) rfl (by simp[gOK]) (by simp) (fun m' h1 _=>by simpa using k32 _ d m' (hE7.mono h1) (by omega)) (ints_new _ _) (fun v m m' hm h=>Sl.mono h hm) ?_
 intro v12 m12 hm12 hv12
 simp
 refine D_Cv (fn:=30) (fs':= []) (cs:= []) (.bool true) rfl (by simp[gOK]) rfl (by simp) (fun m' h1 hp=>?_) ?_
 ·have p10:=hp 31 (by simp)
  have p12:=hp 33 (by simp)
  simp[upd] at p10 p12
  simpa using k30 v10 v12 d.places d.places m' p10 p12 (by have:=places_len d;omega)
 simp
 repeat (refine D_P rfl (by simp[gOK]) ?_;simp)
 refine D_end fun m2 hm2 _=>?_
 simp[hm07.trans hm2]
end Go.Proofs.YtodhalcpnmddjaaDoor
namespace Go.Proofs.YtodhalcpnmddjaaDoor
open Go Ax
set_option maxRecDepth 100000
theorem sl_set {m:AMem} {s:AVal} {ds:List Dm} (h:SlF 3 dmC m s ds) {b:Nat} {cs:List AVal} {ty:TypeId} {g:Option Nat} (hb:m[b]? =some (.own cs ty g)) (hc:cs.length<3) (bl:ABlk):SlF 3 dmC (m.set b bl) s ds:=by
 rcases h with h|⟨b',o,cap,gr,h1,h2,h3⟩
 ·exact .inl h
 ·refine .inr ⟨b',o,cap,gr,h1,h2,?_⟩
  rcases h3 with h3|⟨hne,bs,h4,h5⟩
  ·exact .inl h3
  ·refine .inr ⟨hne,bs,?_,h5⟩
   have hbb:b≠b':=fun e=>by
    subst e
    have:readB m b=some cs:=by simp[readB,hb,ABlk.cells]
    rw[this] at h4
    simp only[Option.some.injEq] at h4
    subst h4
    unfold readN at h5
    split at h5
    ·rename_i hle
     have:ds.length*3≤2:=by omega
     omega
    ·cases h5
   unfold readB at h4 ⊢
   rw[List.getElem?_set_ne hbb]
   exact h4
theorem dsR_set {m:AMem} {v:AVal} {d:Dsc} (h:DsR m v d) {b:Nat} {cs:List AVal} {ty:TypeId} {g:Option Nat} (hb:m[b]? =some (.own cs ty g)) (hc:cs.length<3) (bl:ABlk):DsR (m.set b bl) v d:=by
 obtain ⟨s,h1,h2,h3⟩:=h
 exact ⟨s,h1,sl_set h2 hb hc bl,by simpa using h3⟩
set_option maxHeartbeats 16000000 in
theorem k5 (v v':AVal) (d e:Dsc) (m:AMem) (hv:DsR m v d) (hv':DsR m v' e) (hn:d.ds.length<2^62) (hn':e.ds.length<2^62):
  ACalls Tryd.prog 5 [v,v'] m fun v m'=>m<+:m'∧v= .bool true:=by
 have hv0:=hv
 have hv0':=hv'
 obtain ⟨s,rfl,hs,hsb⟩:=hv
 obtain ⟨s',rfl,hs',hsb'⟩:=hv'
 refine w5 ?_
 obtain ⟨h1,h2⟩:=hs.one
 obtain ⟨h1',h2'⟩:=hs'.one
 simp[h1,h2,h1',h2']
 have hm:m<+:m++ [ABlk.own [AVal.int .i64 d.b,s] 26 none,ABlk.own [AVal.int .i64 e.b,s'] 26 none]:=List.prefix_append _ _
 have hb:readB (m++ [ABlk.own [AVal.int .i64 d.b,s] 26 none,ABlk.own [AVal.int .i64 e.b,s'] 26 none]) m.length=some [.int .i64 d.b,s]:=by simp[readB,ABlk.cells]
 have hb':readB (m++ [ABlk.own [AVal.int .i64 d.b,s] 26 none,ABlk.own [AVal.int .i64 e.b,s'] 26 none]) (m.length+1)=some [.int .i64 e.b,s']:=by simp[readB,ABlk.cells]
 have hl1:(m++ [ABlk.own [AVal.int .i64 d.b,s] 26 none,ABlk.own [AVal.int .i64 e.b,s'] 26 none]).length=m.length+2:=by simp
 generalize m++ [ABlk.own [AVal.int .i64 d.b,s] 26 none,ABlk.own [AVal.int .i64 e.b,s'] 26 none]=m1 at*
 generalize hb0:m.length=b0 at*
 refine C_of (k11 m1) ?_
 rintro _ m2 ⟨hm2,rfl⟩
 have hm02:=hm.trans hm2
 have hb2:=readB_mono hm2 hb
 simp[bxW hb2,readN]
 refine C_of (k20 _ d m2 (hv0.mono hm02) hn) ?_
 rintro _ m3 ⟨hm3,fb,rfl,hfb⟩
 have hm03:=hm02.trans hm3
 have hb3:=readB_mono hm3 hb2
 have hb3':=readB_mono (hm2.trans hm3) hb'
 cases fb with
 |false=>
  simp
  refine C_of (k11 m3) ?_
  rintro _ m4 ⟨hm4,rfl⟩
  simp[hm03.trans hm4]
 |true=>
 have hlen:d.ds.length≤5:=hfb rfl
 simp[bxW hb3',readN]
 refine C_of (k20 _ e m3 (hv0'.mono hm03) hn') ?_
 rintro _ m4 ⟨hm4,fb,rfl,hfb'⟩
 have hm04:=hm03.trans hm4
 have hb4:=readB_mono hm4 hb3
 have hb4':=readB_mono hm4 hb3'
 cases fb with
 |false=>
  simp
  refine C_of (k11 m4) ?_
  rintro _ m5 ⟨hm5,rfl⟩
  simp[hm04.trans hm5]
 |true=>
 have hlen':e.ds.length≤5:=hfb' rfl
 have hl4:b0+2≤m4.length:=by have:=(hm2.trans (hm3.trans hm4)).length_le;omega
 clear hb3 hb3' hb2 hb hb' hm2 hm3 hm4
 have hbw:=bxW hb4 2
 have hbw':=bxW hb4' 2
 simp[readN] at hbw hbw'
 simp
 refine W_draw (fun i v m=>match i with
  |1=>DsR m v d
  |3=>DsR m v e
  |_=>True) (by simp[maxDst]) ?_
 refine D_pc 0 1 [1,2,3,4,5,6,7] ?_
 simp[hbw]
 intro fs hfs
 refine D_C (fn:=27) (fs':= []) (cs:= []) rfl trivial (by simp) (fun m' h1 _=>by simpa using (k27 _ d m' ((hv0.mono hm04).mono h1) (by omega)).mono fun v m'' h=>⟨h.1,h.2.ds⟩) ⟨_,m4,List.prefix_refl _,hv0.mono hm04⟩ (fun v m m' hm h=>h.mono hm) ?_
 intro v1 mA hmA hv1
 simp
 refine D_R rfl trivial ⟨_,List.prefix_refl _,fun j hj=>by simp at hj⟩ ?_
 simp[hbw']
 refine D_C (fn:=27) (fs':= []) (cs:= []) rfl trivial (by simp) (fun m' h1 _=>by simpa using (k27 _ e m' ((hv0'.mono hm04).mono h1) (by omega)).mono fun v m'' h=>⟨h.1,h.2.ds⟩) ⟨_,m4,List.prefix_refl _,hv0'.mono hm04⟩ (fun v m m' hm h=>h.mono hm) ?_
 intro v3 mB hmB hv3
 simp
 refine D_Am rfl trivial ?_
 simp[fillA]
 intro b5 hb5 hr5
 refine D_Am rfl trivial ?_
 simp[fillA]
 intro b6 hb6 hr6
 refine D_W rfl rfl fun m5 hm5 hf=>?_
 have f1:=hf 1
 have f3:=hf 3
 have f4:=hf 4
 have f5:=hf 5
 simp[upd] at f1 f3 f4 f5
 have hne4:m4≠ []:=fun h=>by rw[h] at hl4;simp at hl4
 have h56:b5≠b6:=fun h=>by
  have:=hr5 hne4
  have:=hr6 hne4
  omega
 obtain ⟨s1,rfl,hs1,hs1b⟩:=id f1
 obtain ⟨s3,rfl,hs3,hs3b⟩:=id f3
 obtain ⟨o1,o2⟩:=hs1.one
 obtain ⟨o3,o4⟩:=hs3.one
 simp
 rw[store_boxN (cs:= [.int .i64 d.b,s1]) (n:=2) f4 rfl rfl (by simp[o1])]
 simp
 have g1:=dsR_set f1 f4 (by simp) (.own [.int .i64 d.b,s1] 32 none)
 have g3:=dsR_set f3 f4 (by simp) (.own [.int .i64 d.b,s1] 32 none)
 have hl5:=(List.getElem?_eq_some_iff.1 f4).1
 have g4:(m5.set b5 (.own [.int .i64 d.b,s1] 32 none))[b5]? =some (.own [.int .i64 d.b,s1] 32 none):=by rw[List.getElem?_set_self hl5]
 have g5:(m5.set b5 (.own [.int .i64 d.b,s1] 32 none))[b6]? =some (.own [.int .i64 0,.nilslice] 32 none):=by rw[List.getElem?_set_ne h56];exact f5
 have hc5:Ch (fun b=>b=b5∨b=b6) m4 (m5.set b5 (.own [.int .i64 d.b,s1] 32 none)):=(Ch.of_prefix (S:=fun b=>b=b5∨b=b6) hm5).set (.inl (.inl rfl)) _
 generalize m5.set b5 (.own [.int .i64 d.b,s1] 32 none)=m6 at*
 refine D_W rfl rfl fun m7 hm7 _=>?_
 simp
 have k5:=prefix_get hm7 g5
 have k4:=prefix_get hm7 g4
 rw[store_boxN (cs:= [.int .i64 e.b,s3]) (n:=2) k5 rfl rfl (by simp[o3])]
 simp
 refine D_end fun m9 hm9 _=>?_
 have hl7:=(List.getElem?_eq_some_iff.1 k5).1
 have q5:m9[b6]? =some (.own [.int .i64 e.b,s3] 32 none):=prefix_get hm9 (by rw[List.getElem?_set_self hl7])
 have q4:m9[b5]? =some (.own [.int .i64 d.b,s1] 32 none):=prefix_get hm9 (by rw[List.getElem?_set_ne (Ne.symm h56)];exact k4)
 have q1:=(dsR_set (g1.mono hm7) k5 (by simp) (.own [.int .i64 e.b,s3] 32 none)).mono hm9
 have q3:=(dsR_set (g3.mono hm7) k5 (by simp) (.own [.int .i64 e.b,s3] 32 none)).mono hm9
 have hm49:m4<+:m9:=(((hc5.trans (.of_prefix hm7)).set (.inl (.inr rfl)) _).trans (.of_prefix hm9)).pre (List.prefix_refl _) fun b hb h=>by omega
 have hm09:=hm04.trans hm49
 have hb9:=readB_mono hm49 hb4
 have hb9':=readB_mono hm49 hb4'
 have hv9:=hv0.mono hm09
 have hv9':=hv0'.mono hm09
 clear hbw hbw' hb4 hb4'
 simp[bxW hb9,bxW hb9',readN]
 refine C_of (k33 _ _ d e m9 hv9 hv9' (by omega) (by omega)) ?_
 rintro _ m10 ⟨hm10,rfl⟩
 have hm010:=hm09.trans hm10
 have hvd:=hv9.mono hm10
 have hve:=hv9'.mono hm10
 have hwd:=q1.mono hm10
 have hwe:=q3.mono hm10
 have hbw:=bxW (readB_mono hm10 hb9) 2
 have hbw':=bxW (readB_mono hm10 hb9') 2
 have hbx:=bxW (readB_mono hm10 (box_read q4)) 2
 have hbx':=bxW (readB_mono hm10 (box_read q5)) 2
 simp[readN] at hbw hbw' hbx hbx'
 simp
 refine W_draw (fun i v m=>match i with
  |3=>v= .bool (sameD d e)
  |9=>v= .bool (sameD d e)
  |15=>v= .bool (meetD d e)
  |18=>v= .bool (meetD d e)
  |26=>v= .int .i64 d.count
  |32=>v= .bool (meetD d e)
  |38=>v= .bool (rightD d.b d.ds 2147483648==0)
  |40=>v= .int .i64 (rightD d.b d.ds 2147483648)
  |_=>True) (by simp[maxDst]) ?_
 refine D_pc 0 3 [3,4,5,6,7,8,9,10,11,12,13,14,15,16,17,18,19,20,21,22,23,24,25,26,27,28,29,30,31,32,33,34,35,36,37,38,39,40,41,42,43,44] ?_
 simp[hbx,hbx']
 intro fs1 hfs1
 refine D_Cv (fn:=34) (fs':= []) (cs:= []) (.bool (sameD d e)) rfl (by simp[gOK]) rfl (by simp) (fun m' h1 _=>by simpa using k34 _ _ d e m' (hwd.mono h1) (hwe.mono h1) (by omega) (by omega)) ?_
 simp
 have hf1: ∀j m',upd fs1 3 (fun _=>True) j m':=upd_true (by assumption) _
 refine D_pc 4 5 [9,10,11,12,13,14,15,16,17,18,19,20,21,22,23,24,25,26,27,28,29,30,31,32,33,34,35,36,37,38,39,40,41,42,43,44] (hfs:=hf1) ?_
 simp[hbw,hbw']
 intro fs2 hfs2
 refine D_Cv (fn:=33) (fs':= []) (cs:= []) (.bool (sameD d e)) rfl (by simp[gOK]) rfl (by simp) (fun m' h1 _=>by simpa[same_symm e d] using k33 _ _ e d m' (hve.mono h1) (hvd.mono h1) (by omega) (by omega)) ?_
 simp
 refine D_pc 10 5 [15,16,17,18,19,20,21,22,23,24,25,26,27,28,29,30,31,32,33,34,35,36,37,38,39,40,41,42,43,44] (hfs:=by repeat (first|assumption|refine upd_true ?_ _)) ?_
 simp[hbw,hbw']
 intro fs3 hfs3
 refine D_Cv (fn:=35) (fs':= []) (cs:= []) (.bool (meetD d e)) rfl (by simp[gOK]) rfl (by simp) (fun m' h1 _=>by simpa using k35 _ _ d e m' (hvd.mono h1) (hve.mono h1) (by omega) (by omega)) ?_
 simp
 refine D_pc 16 2 [18,19,20,21,22,23,24,25,26,27,28,29,30,31,32,33,34,35,36,37,38,39,40,41,42,43,44] (hfs:=by repeat (first|assumption|refine upd_true ?_ _)) ?_
 simp[hbx,hbx']
 intro fs4 hfs4
 refine D_Cv (fn:=36) (fs':= []) (cs:= []) (.bool (meetD d e)) rfl (by simp[gOK]) rfl (by simp) (fun m' h1 _=>by simpa using k36 _ _ d e m' (hwd.mono h1) (hwe.mono h1) (by omega) (by omega)) ?_
 simp
 have hdd:sameD d d=(rightD d.b d.ds 2147483648==0):=by
  rw[same_dd]
  unfold Dsc.bad Dsc.rightI
  cases h:(rightD d.b d.ds 2147483648==0)<;>simp_all
 refine D_pc 19 6 [25,26,27,28,29,30,31,32,33,34,35,36,37,38,39,40,41,42,43,44] (hfs:=by repeat (first|assumption|refine upd_true ?_ _)) ?_
 simp
 intro fs5 hfs5
 cases hsd:sameD d e with
 |false=>
  refine D_pc 25 1 [26,27,28,29,30,31,32,33,34,35,36,37,38,39,40,41,42,43,44] (hfs:=by repeat (first|assumption|refine upd_true ?_ _)) ?_
  simp
  intro fs6 hfs6
  refine D_skip rfl rfl (by simp) ?_
  simp
  refine D_pc 27 5 [32,33,34,35,36,37,38,39,40,41,42,43,44] (hfs:=by repeat (first|assumption|refine upd_true ?_ _)) ?_
  simp
  intro fs7 hfs7
  refine D_skip rfl rfl (by simp) ?_
  simp
  refine D_pc 33 5 [38,39,40,41,42,43,44] (hfs:=by repeat (first|assumption|refine upd_true ?_ _)) ?_
  simp[hbw]
  intro fs8 hfs8
  refine D_Cv (fn:=33) (fs':= []) (cs:= []) (.bool (rightD d.b d.ds 2147483648==0)) rfl (by simp[gOK]) rfl (by simp) (fun m' h1 _=>by simpa[hdd] using k33 _ _ d d m' (hvd.mono h1) (hvd.mono h1) (by omega) (by omega)) ?_
  simp
  refine D_pc 39 1 [40,41,42,43,44] (hfs:=by repeat (first|assumption|refine upd_true ?_ _)) ?_
  simp[hbw]
  intro fsa hfsa
  refine D_Cv (fn:=21) (fs':= []) (cs:= []) (.int .i64 (rightD d.b d.ds 2147483648)) rfl (by simp[gOK]) rfl (by simp) (fun m' h1 _=>by simpa using k21 _ d _ m' (hvd.mono h1) (by omega)) ?_
  simp
  refine D_pc 41 4 [] (hfs:=by repeat (first|assumption|refine upd_true ?_ _)) ?_
  simp
  intro fsb hfsb
  refine D_end fun m2 hm2 _=>?_
  simp[hm010.trans hm2]
 |true=>
  refine D_pc 25 1 [26,27,28,29,30,31,32,33,34,35,36,37,38,39,40,41,42,43,44] (hfs:=by repeat (first|assumption|refine upd_true ?_ _)) ?_
  simp[hbw]
  intro fs6 hfs6
  refine D_Cv (fn:=23) (fs':= []) (cs:= []) (.int .i64 d.count) rfl (by simp[gOK]) rfl (by simp) (fun m' h1 _=>by simpa using k23 _ d m' (hvd.mono h1) (by omega)) ?_
  simp
  by_cases hc:d.count=0
  ·simp[hc]
   refine D_pc 27 5 [32,33,34,35,36,37,38,39,40,41,42,43,44] (hfs:=by repeat (first|assumption|refine upd_true ?_ _)) ?_
   simp
   intro fs7 hfs7
   refine D_skip rfl rfl (by simp) ?_
   simp
   refine D_pc 33 5 [38,39,40,41,42,43,44] (hfs:=by repeat (first|assumption|refine upd_true ?_ _)) ?_
   simp[hbw]
   intro fs8 hfs8
   refine D_Cv (fn:=33) (fs':= []) (cs:= []) (.bool (rightD d.b d.ds 2147483648==0)) rfl (by simp[gOK]) rfl (by simp) (fun m' h1 _=>by simpa[hdd] using k33 _ _ d d m' (hvd.mono h1) (hvd.mono h1) (by omega) (by omega)) ?_
   simp
   refine D_pc 39 1 [40,41,42,43,44] (hfs:=by repeat (first|assumption|refine upd_true ?_ _)) ?_
   simp[hbw]
   intro fsa hfsa
   refine D_Cv (fn:=21) (fs':= []) (cs:= []) (.int .i64 (rightD d.b d.ds 2147483648)) rfl (by simp[gOK]) rfl (by simp) (fun m' h1 _=>by simpa using k21 _ d _ m' (hvd.mono h1) (by omega)) ?_
   simp
   refine D_pc 41 4 [] (hfs:=by repeat (first|assumption|refine upd_true ?_ _)) ?_
   simp
   intro fsb hfsb
   refine D_end fun m2 hm2 _=>?_
   simp[hm010.trans hm2]
  ·have hc': ¬((d.count:Int)=0):=by omega
   have hmt:=same_meet hsd hc
   refine D_pc 27 5 [32,33,34,35,36,37,38,39,40,41,42,43,44] (hfs:=by repeat (first|assumption|refine upd_true ?_ _)) ?_
   simp[beqF hc',hbw,hbw']
   intro fs7 hfs7
   refine D_Cv (fn:=35) (fs':= []) (cs:= []) (.bool (meetD d e)) rfl (by simp[gOK]) rfl (by simp) (fun m' h1 _=>by simpa using k35 _ _ d e m' (hvd.mono h1) (hve.mono h1) (by omega) (by omega)) ?_
   rw[hmt]
   simp
   refine D_pc 33 5 [38,39,40,41,42,43,44] (hfs:=by repeat (first|assumption|refine upd_true ?_ _)) ?_
   simp[hbw]
   intro fs8 hfs8
   refine D_Cv (fn:=33) (fs':= []) (cs:= []) (.bool (rightD d.b d.ds 2147483648==0)) rfl (by simp[gOK]) rfl (by simp) (fun m' h1 _=>by simpa[hdd] using k33 _ _ d d m' (hvd.mono h1) (hvd.mono h1) (by omega) (by omega)) ?_
   simp
   refine D_pc 39 1 [40,41,42,43,44] (hfs:=by repeat (first|assumption|refine upd_true ?_ _)) ?_
   simp[hbw]
   intro fsa hfsa
   refine D_Cv (fn:=21) (fs':= []) (cs:= []) (.int .i64 (rightD d.b d.ds 2147483648)) rfl (by simp[gOK]) rfl (by simp) (fun m' h1 _=>by simpa using k21 _ d _ m' (hvd.mono h1) (by omega)) ?_
   simp
   refine D_pc 41 4 [] (hfs:=by repeat (first|assumption|refine upd_true ?_ _)) ?_
   simp
   intro fsb hfsb
   refine D_end fun m2 hm2 _=>?_
   simp[hm010.trans hm2]
end Go.Proofs.YtodhalcpnmddjaaDoor
namespace Go.Proofs.YtodhalcpnmddjaaDoor.Ax
open Go Go.ChangeShapes Go.WideShapes Go.ChangeAt Go.RowKit
set_option maxRecDepth 100000
def RoMem (m:AMem):Prop:= ∀(b:Nat) blk,m[b]? =some blk→blk.isOwn=false
theorem Sim.nil (w:World):Sim [] [] w:=⟨rfl,by simp,by simp,by simp⟩
theorem RoMem.nil:RoMem []:=by intro b blk h;simp at h
theorem Sim.ro {ρ:List RB} {m:AMem} {w:World} (h:Sim ρ m w) (hm:RoMem m) {a:RB} (cs:List AVal) (ha:a.block<w.heap.size) (hc: ∀(i:Nat) x,cs[i]? =some x→ ∃v,w.cell? (at_ a i)=some v∧VR ρ x v):
  Sim (ρ++ [a]) (m++ [.ro cs]) w∧RoMem (m++ [.ro cs]):=by
 have hp:ρ<+:ρ++ [a]:=List.prefix_append _ _
 have hr:RoMem (m++ [.ro cs]):=by
  intro b blk hb
  rcases Nat.lt_or_ge b m.length with hlt|hge
  ·rw[List.getElem?_append_left hlt] at hb;exact hm b blk hb
  ·rw[List.getElem?_append_right hge] at hb
   cases hk:b-m.length with
   |zero=>rw[hk] at hb;simp at hb;subst hb;rfl
   |succ k=>rw[hk] at hb;simp at hb
 refine ⟨⟨by simp[h.len],?_,?_,?_⟩,hr⟩
 ·intro b blk a' hb ha'
  rcases Nat.lt_or_ge b m.length with hlt|hge
  ·rw[List.getElem?_append_left hlt] at hb
   rw[List.getElem?_append_left (by rw[h.len];exact hlt)] at ha'
   exact (h.ok b blk a' hb ha').mono hp
  ·rw[List.getElem?_append_right hge] at hb
   rw[List.getElem?_append_right (by rw[h.len];exact hge),h.len] at ha'
   cases hk:b-m.length with
   |zero=>
    rw[hk] at hb ha'
    simp only[List.getElem?_cons_zero,Option.some.injEq] at hb ha'
    subst hb ha'
    intro i x hx
    obtain ⟨v,h1,h2⟩:=hc i x hx
    exact ⟨v,h1,VR.mono hp x v h2⟩
   |succ k=>rw[hk] at hb;simp at hb
 ·intro b b' blk blk' a1 a2 _ hb _ _ _ ho
  rw[hr b blk hb] at ho
  simp at ho
 ·intro b a' ha'
  rcases Nat.lt_or_ge b ρ.length with hlt|hge
  ·rw[List.getElem?_append_left hlt] at ha';exact h.bound b a' ha'
  ·rw[List.getElem?_append_right hge] at ha'
   cases hk:b-ρ.length with
   |zero=>rw[hk] at ha';simp at ha';subst ha';exact ha
   |succ k=>rw[hk] at ha';simp at ha'
theorem slice_in {ρ:List RB} {m:AMem} {w:World} (h:Sim ρ m w) (hm:RoMem m) (hne:0<w.heap.size) {a:Addr} {len cap esz:Nat} (hlc:len≤cap)
  (hcell:cap≠0→ ∃v,w.cell? a=some v) {xs:List AVal} (hx:xs.length=len*esz) (hc: ∀(i:Nat) x,xs[i]? =some x→ ∃v,w.cell? (a.add i)=some v∧VR ρ x v):
  ∃ρ' m' s,ρ<+:ρ'∧m<+:m'∧RoMem m'∧Sim ρ' m' w∧VR ρ' s (.slice (some a) len cap)∧Sl m' esz s len xs:=by
 by_cases hcap:cap=0
 ·subst hcap
  obtain rfl:len=0:=by omega
  obtain rfl:xs= []:=List.eq_nil_of_length_eq_zero (by simpa using hx)
  obtain ⟨h1,h2⟩:=h.ro hm (a:=⟨0,0,0,0⟩) [] hne (by simp)
  refine ⟨_,_,.slice m.length 0 0 0 none,List.prefix_append _ _,List.prefix_append _ _,h2,h1,?_,.inr ⟨_,_,_,_,rfl,⟨by omega,.inl rfl⟩,.inl ⟨rfl,rfl⟩⟩⟩
  simp only[VR]
  exact ⟨⟨0,0,0,0⟩,a,0,rfl,by rw[←h.len];simp,by simp,by omega,by simp,by omega,by simp⟩
 ·obtain ⟨v0,hv0⟩:=hcell hcap
  have hs:=World.cell?_spot hv0
  obtain ⟨b,off,sp⟩:=a
  simp only at hs
  subst hs
  have hb:b<w.heap.size:=by
   rcases Nat.lt_or_ge b w.heap.size with hlt|hge
   ·exact hlt
   ·unfold World.cell? at hv0
    simp only[Array.getElem?_eq_none hge] at hv0
    simp at hv0
  obtain ⟨h1,h2⟩:=h.ro hm (a:=⟨b,off,0,0⟩) xs hb fun i x hx=>by
   obtain ⟨v,h1,h2⟩:=hc i x hx
   rw[Go.WideShapes.add_plain] at h1
   exact ⟨v,h1,h2⟩
  refine ⟨_,_,.slice m.length 0 len cap none,List.prefix_append _ _,List.prefix_append _ _,h2,h1,?_,.inr ⟨_,_,_,_,rfl,⟨hlc,.inl rfl⟩,?_⟩⟩
  ·simp only[VR]
   exact ⟨⟨b,off,0,0⟩,_,cap,rfl,by rw[←h.len];simp,by simp,hlc,by simp,by omega,by simp⟩
  ·by_cases hl:len=0
   ·subst hl
    exact .inl ⟨rfl,List.eq_nil_of_length_eq_zero (by simpa using hx)⟩
   ·refine .inr ⟨hl,xs,by simp[readB,ABlk.cells],?_⟩
    have h0:0+len*esz≤xs.length:=by omega
    unfold readN
    rw[if_pos h0,List.drop_zero,List.take_of_length_le (by omega)]
def Enters (w:World) (vs:List Value) (Rep:AMem→List AVal→Prop):Prop:=
 ∀ρ m,Sim ρ m w→RoMem m→ ∃ρ' m' xs,ρ<+:ρ'∧m<+:m'∧RoMem m'∧Sim ρ' m' w∧VRs ρ' xs vs∧Rep m' xs
variable {H:Type} {enc:TypeId×Value→H} {P:Program} {w:World} {base:Nat} {spare:Nat→Bool} {held:Bool}
structure ModeT (P:Program) where
 tT:TypeId
 tM:TypeId
 tI:TypeId
 eI:TypeId
 tS:TypeId
 eS:TypeId
 k0:TypeId
 k1:TypeId
 k4:TypeId
 k5:TypeId
 fs:Array Field
 hT:P.underlying tT=some (.slice tM)
 hM:P.underlying tM=some (.struct fs)
 hI:P.underlying tI=some (.slice eI)
 hi:P.underlying eI=some (.int .i64)
 hS:P.underlying tS=some (.slice eS)
 hs:P.underlying eS=some .string
 h0:P.underlying k0=some (.int .i64)
 h1:P.underlying k1=some (.int .i64)
 h4:P.underlying k4=some (.int .i64)
 h5:P.underlying k5=some .bool
 cM:P.cellsOf tM=6
 ci:P.cellsOf eI=1
 cs:P.cellsOf eS=1
 c0:P.cellsOf k0=1
 c1:P.cellsOf k1=1
 cI:P.cellsOf tI=1
 cS:P.cellsOf tS=1
 c4:P.cellsOf k4=1
 c5:P.cellsOf k5=1
 bi:P.bytesOf eI=8
 bs:P.bytesOf eS=16
 bM:1≤P.bytesOf tM
 sz:fs.size=6
 f0:(fs[0]?).map (fun f=>(f.type,f.offset))=some (k0,0)
 f1:(fs[1]?).map (fun f=>(f.type,f.offset))=some (k1,1)
 f2:(fs[2]?).map (fun f=>(f.type,f.offset))=some (tI,2)
 f3:(fs[3]?).map (fun f=>(f.type,f.offset))=some (tS,3)
 f4:(fs[4]?).map (fun f=>(f.type,f.offset))=some (k4,4)
 f5:(fs[5]?).map (fun f=>(f.type,f.offset))=some (k5,5)
theorem field_of {fs:Array Field} {i:Nat} {t:TypeId} {o:Nat} (h:(fs[i]?).map (fun f=>(f.type,f.offset))=some (t,o)): ∃f,fs[i]? =some f∧f.type=t∧f.offset=o:=by
 cases hf:fs[i]? with
 |none=>rw[hf] at h;simp at h
 |some f=>rw[hf] at h;simp at h;exact ⟨f,rfl,h.1,h.2⟩
theorem weights_parts {e:TypeId} {fs:Array Field} (ht:P.underlying e=some (.struct fs)) {xs:List (DataW H×List MemPlace)} {i:Nat} {f:Field} {y:DataW H×List MemPlace} (hf:fs[i]? =some f) (hy:xs[i]? =some y) {B:Nat}
  (h:((DataW.agg (xs.map (·.1))).weights P e).all (· ≤B)=true):(y.1.weights P f.type).all (· ≤B)=true:=by
 simp only[DataW.weights,ht] at h
 rw[List.all_eq_true] at h ⊢
 intro n hn
 exact h n (DataW.weights_mem_each (j:=i) (t:=f.type) (d:=y.1) (by simp[hf]) (by simp[hy]) n hn)
theorem below_of_evol {ρ ρ':List RB} {m m':AMem} {w':World} (hm:RoMem m) (h:Evol ρ m w ρ' m' w'):Below w.heap.size w w':=
 ⟨h.os,h.tape,h.output,h.size,fun k hk=>h.frame k hk fun ⟨b,blk,a,hb,ho,_⟩=>by rw[hm b blk hb] at ho;cases ho⟩
end Go.Proofs.YtodhalcpnmddjaaDoor.Ax
namespace Go.Proofs.YtodhalcpnmddjaaDoor.Ax
open Go Go.RowKit
variable {H:Type} {enc:TypeId×Value→H} {P:Program} {w:World} {base:Nat} {held:Bool}
theorem enters_slF {α:Type} {wd:Nat} {f:α→List AVal} [hf:SCell wd f] {t e:TypeId} (hwd:1≤wd) (hT:P.underlying t=some (.slice e)) (hc:P.cellsOf e=wd) (hB1:1≤P.bytesOf e)
  (hel: ∀{fuel:Nat} {cs:List Value} {x:DataW H×List MemPlace},DataW.trod enc P w base (fun _=>true) held fuel e cs=some x→ ∃y:α,Enters w cs (fun _ xs=>xs=f y)) {fuel:Nat} {cs:List Value}
  (hne: ∀a len cap,cs= [.slice (some a) len cap]→0<w.heap.size) {x:DataW H×List MemPlace} (h:DataW.trod enc P w base (fun _=>true) held fuel t cs=some x):
  ∃l:List α,Enters w cs (fun m xs=> ∃s,xs= [s]∧SlF wd f m s l)∧(∀B,(x.1.weights P t).all (· ≤B)=true→l.length≤B):=by
 rcases Go.Deep.open_slice hT h with ⟨rfl,rfl⟩|⟨a,len,cap,mm,n,D,Pl,rfl,_,hlc,_,hmm,rfl,hle⟩
 ·exact ⟨[],fun ρ m hs hm=>⟨ρ,m,[.nilslice],List.prefix_refl _,List.prefix_refl _,hm,hs,by simp[VRs,VR],.nilslice,rfl,SlF.nil⟩,by simp⟩
 ·replace hne:=hne _ _ _ rfl
  simp only[if_true] at hmm
  subst hmm
  rw[hc] at hle
  have hmd: ∀i,i<len→ ∃(cs':List Value) (y:α),w.cells? base (a.add (i*wd)) wd=some cs'∧Enters w cs' (fun _ xs=>xs=f y):=fun i hi=>by
   obtain ⟨cs',h1,h2⟩:=hle i (by omega)
   obtain ⟨y,h3⟩:=hel h2
   exact ⟨cs',y,h1,h3⟩
  have hl: ∃l:List α,l.length=len∧ ∀(i:Nat) y,l[i]? =some y→ ∃(cs':List Value),w.cells? base (a.add (i*wd)) wd=some cs'∧Enters w cs' (fun _ xs=>xs=f y):=by
   have: ∀k,k≤len→ ∃l:List α,l.length=k∧ ∀(i:Nat) y,l[i]? =some y→ ∃(cs':List Value),w.cells? base (a.add (i*wd)) wd=some cs'∧Enters w cs' (fun _ xs=>xs=f y):=by
    intro k
    induction k with
    |zero=>exact fun _=>⟨[],rfl,by simp⟩
    |succ k ih=>
     intro hk
     obtain ⟨l,h1,h2⟩:=ih (by omega)
     obtain ⟨cs',y,h3,h4⟩:=hmd k (by omega)
     refine ⟨l++ [y],by simp[h1],fun i y' hi=>?_⟩
     rcases Nat.lt_or_ge i l.length with hlt|hge
     ·rw[List.getElem?_append_left hlt] at hi;exact h2 i y' hi
     ·rw[List.getElem?_append_right hge] at hi
      cases hj:i-l.length with
      |zero=>
       rw[hj] at hi
       simp only[List.getElem?_cons_zero,Option.some.injEq] at hi
       subst hi
       obtain rfl:i=k:=by omega
       exact ⟨cs',h3,h4⟩
      |succ j=>rw[hj] at hi;simp at hi
   exact this len (Nat.le_refl _)
  obtain ⟨l,hlen,hl⟩:=hl
  refine ⟨l,fun ρ m hs hm=>?_,fun B hB=>?_⟩
  ·have key: ∀k,k≤len→ ∃(ρ':List RB) (m':AMem),ρ<+:ρ'∧m<+:m'∧RoMem m'∧Sim ρ' m' w∧(∀(i:Nat) x,((l.take k).flatMap f)[i]? =some x→ ∃v,w.cell? (a.add i)=some v∧VR ρ' x v):=by
    intro k
    induction k with
    |zero=>exact fun _=>⟨ρ,m,List.prefix_refl _,List.prefix_refl _,hm,hs,by simp⟩
    |succ k ih=>
     intro hk
     obtain ⟨ρ1,m1,h1,h2,h3,h4,h6⟩:=ih (by omega)
     have hkl:k<l.length:=by omega
     obtain ⟨cs',c1,c2⟩:=hl k l[k] (List.getElem?_eq_getElem hkl)
     obtain ⟨ρ2,m2,ys,g1,g2,g3,g4,g5,rfl⟩:=c2 ρ1 m1 h4 h3
     obtain ⟨_,c3,c4⟩:=World.cells?_some c1
     have hfl:((l.take k).flatMap f).length=k*wd:=by rw[flat_len,List.length_take,Nat.min_eq_left (by omega)]
     refine ⟨ρ2,m2,h1.trans g1,h2.trans g2,g3,g4,fun i x hx=>?_⟩
     rw[List.take_add_one,List.getElem?_eq_getElem hkl,Option.toList_some,List.flatMap_append,List.flatMap_cons,List.flatMap_nil,List.append_nil] at hx
     rcases Nat.lt_or_ge i (k*wd) with hlt|hge
     ·rw[List.getElem?_append_left (by omega)] at hx
      obtain ⟨v,hv,hr⟩:=h6 i x hx
      exact ⟨v,hv,VR.mono g1 x v hr⟩
     ·rw[List.getElem?_append_right (by omega),hfl] at hx
      have hj:=(List.getElem?_eq_some_iff.1 hx).1
      rw[hf.len] at hj
      obtain ⟨v,hv,hr⟩:=g5.get _ x hx
      refine ⟨v,?_,hr⟩
      have:=c4 (i-k*wd) hj
      rw[Addr.add_add,hv] at this
      rw[←this]
      congr 2
      omega
   obtain ⟨ρ1,m1,h1,h2,h3,h4,h6⟩:=key len (Nat.le_refl _)
   rw[List.take_of_length_le (by omega)] at h6
   obtain ⟨ρ',m',s,g1,g2,g3,g4,g5,g6⟩:=slice_in (esz:=wd) h4 h3 hne hlc (fun hcap=>by
    obtain ⟨cs',c1,_⟩:=hle 0 (by omega)
    obtain ⟨_,c3,c4⟩:=World.cells?_some c1
    have:=c4 0 (by omega)
    rw[Addr.add_add] at this
    rw[List.getElem?_eq_getElem (by omega)] at this
    exact ⟨_,by simpa[Addr.add] using this⟩) (xs:=l.flatMap f) (by rw[flat_len,hlen]) h6
   exact ⟨ρ',m',[s],h1.trans g1,h2.trans g2,g3,g4,by simp only[VRs];exact ⟨_,_,rfl,g5,rfl⟩,s,rfl,by unfold SlF;rw[hlen];exact g6⟩
  ·simp only[DataW.weights,hT,List.all_cons,Bool.and_eq_true,decide_eq_true_eq,List.all_append] at hB
   obtain ⟨b1,_⟩:=hB
   simp only[List.length_map,List.length_range] at b1
   have h3:len≤(len+(mm-len))*P.bytesOf e:=by
    calc len≤(len+(mm-len))*1:=by omega
     _≤_:=Nat.mul_le_mul_left _ hB1
   omega
end Go.Proofs.YtodhalcpnmddjaaDoor.Ax
namespace Go.Proofs.YtodhalcpnmddjaaDoor
open Go Ax Go.ChangeShapes Go.WideShapes Go.ChangeAt Go.RowKit
set_option maxRecDepth 100000
theorem under3: Tryd.prog.underlying 3=some (.int .i64):=by kernel_rfl
theorem under2: Tryd.prog.underlying 2=some (.int .i64):=by kernel_rfl
theorem under4: Tryd.prog.underlying 4=some .bool:=by kernel_rfl
theorem cells2: Tryd.prog.cellsOf 2=1:=by kernel_rfl
theorem cells3: Tryd.prog.cellsOf 3=1:=by kernel_rfl
theorem laidOut:laidOutB Tryd.prog=true:=by kernel_rfl
theorem own0:ownKnob Tryd.prog.godebug=none:=by kernel_rfl
def laidL:List (String×DataW Unit):= [("math/bits.deBruijn32tab",Rows.laid_math_bits_deBruijn32tab),("math/bits.deBruijn64tab",Rows.laid_math_bits_deBruijn64tab),("internal/strconv.uint64pow10",Rows.laid_internal_strconv_uint64pow10)]
noncomputable def tyPow:TypeId:=((Tryd.prog.globals[0]?).map (·.type)).getD 0
theorem gPowT:(Tryd.prog.globals[0]?).map (·.type)=some tyPow:=by kernel_rfl
theorem underPow: ∃e,Tryd.prog.underlying tyPow=some (.array 20 e)∧ Tryd.prog.underlying e=some (.int .u64)∧ Tryd.prog.cellsOf e=1∧ Tryd.prog.cellsOf tyPow=20:=by
 refine ⟨((match Tryd.prog.underlying tyPow with|some (.array _ e)=>e|_=>0)),by kernel_rfl,by kernel_rfl,by kernel_rfl,by kernel_rfl⟩
theorem pow_is {W:World} (hL:laidMetH Tryd.prog laidL W):Lib.TabIs Tryd.prog W "internal/strconv.uint64pow10" .u64 Lib.pow10Tab:=by
 have hL':laidMet Tryd.prog laidL W:=hL
 obtain ⟨g,t,cs,fuel,q,h1,h2,h3,h4⟩:=Lib.laidMet.reads hL' (n:= "internal/strconv.uint64pow10") (d:=Rows.laid_internal_strconv_uint64pow10) (by simp[laidL])
 obtain rfl:=Option.some.inj (gPow.symm.trans h1)
 obtain rfl:=Option.some.inj (gPowT.symm.trans h2)
 obtain ⟨e,e1,e2,e3,e4⟩:=underPow
 unfold Lib.TabIs
 rw[h3]
 have hd:(Rows.laid_internal_strconv_uint64pow10:DataW Unit)=Lib.tabData .u64 Lib.pow10Tab:=rfl
 rw[hd] at h4
 rw[←Lib.cells_of_tab e1 e2 e3 e4 h4]
theorem pow_heap {W:World} (hL:laidMetH Tryd.prog laidL W):0<W.heap.size:=by
 have hv:=pow_is hL
 unfold Lib.TabIs World.var? at hv
 rw[gPow] at hv
 simp only[Option.bind_some] at hv
 rcases Nat.eq_zero_or_pos W.heap.size with h0|h0
 ·rw[Array.getElem?_eq_none (by omega)] at hv
  simp at hv
 ·exact h0
theorem glob_of {ρ:List RB} {m:AMem} {W:World} (hL:laidMetH Tryd.prog laidL W) (hro:RoMem m):Glob ρ m W:=by
 have ht:=pow_is hL
 intro p hp
 obtain ⟨e0,e1,e2⟩:=pow_cells p hp
 have hv:=ht
 unfold Lib.TabIs World.var? at hv
 rw[gPow] at hv
 simp only[Option.bind_some] at hv
 rw[e0]
 cases hh:W.heap[0]? with
 |none=>rw[hh] at hv;simp at hv
 |some o=>
  rw[hh] at hv
  cases o<;>simp only[reduceCtorEq,Option.some.injEq] at hv
  rename_i arr t fz
  subst hv
  refine ⟨(Array.getElem?_eq_some_iff.1 hh).1,fun ho=>?_,fun i x hx=>?_,_,t,fz,rfl,by rw[e1];simp[Lib.pow10Tab]⟩
  ·obtain ⟨b,blk,a,hb,hown,_⟩:=ho
   rw[hro b blk hb] at hown
   cases hown
  ·have hi:i<20:=by have:=(List.getElem?_eq_some_iff.1 hx).1;omega
   rw[e2 i hi] at hx
   cases hx
   have:=ht.cell gPow i (by rw[Lib.pow10Tab_length];exact hi)
   rw[Lib.pow10Tab_at i hi] at this
   exact ⟨_,this,by simp[VR]⟩
theorem i64_of {n:Int} (h:(Lit.int .i64 n).wf=true):i64 n:=by
 simp only[Lit.wf,Bool.and_eq_true,decide_eq_true_eq] at h
 obtain ⟨h1,h2⟩:=h
 have e1:IntKind.i64.min= -9223372036854775808:=by decide
 have e2:IntKind.i64.max=9223372036854775807:=by decide
 rw[e1] at h1
 rw[e2] at h2
 exact ⟨h1,h2⟩
def Opn (t:TypeId) {α:Type} (Rep:α→AMem→AVal→Prop):Prop:=
 ∀{H:Type} {enc:TypeId×Value→H} {W:World} {r:Reach} {b0:Nat} {v:Value} {d:DataW H} {ps:List MemPlace},0<W.heap.size→Value.okWide Tryd.prog W r b0 t v→DataW.Trod enc Tryd.prog W 0 (fun _=>true) true t v d ps→(d.weights Tryd.prog t).all (· ≤reachBytes)=true→
  ∃y:α,∀ρ m,Sim ρ m W→RoMem m→ ∃ρ' m' x,ρ<+:ρ'∧m<+:m'∧RoMem m'∧Sim ρ' m' W∧VR ρ' x v∧Rep y m' x
theorem liftedR2 {os:Os} {F:Stop.Interp} (started:os.Started) {H:Type} {enc:TypeId×Value→H} {f:FuncId} {fn:Func} {s:ChangeSpec} {conds:List PathCond} {ta tb:TypeId} {α β:Type} {RA:α→AMem→AVal→Prop} {RB:β→AMem→AVal→Prop}
  (oA:Opn ta RA) (oB:Opn tb RB) (mA: ∀a m m' x,m<+:m'→RA a m x→RA a m' x) (cA: Tryd.prog.readableRec ta=true) (cA':ta< Tryd.prog.types.size) (cB: Tryd.prog.readableRec tb=true) (cB':tb< Tryd.prog.types.size)
  (noInit: Tryd.checked.prog.inits.idxOf? f=none) (hfn: Tryd.checked.prog.funcs[f]? =some fn) (hp:fn.params= #[ta,tb]) (hr:fn.resultTypes= #[4]) (hs:s.vars= [])
  (hsf: ∀d1 d2:DataW H,s.fn H [d1,d2]={results:= [.lit (.bool true)],args:= [d1,d2]})
  (witness: ∃(w:World) (tape:Tape) (i:Input),w.os=os∧(w.forCall tape i).Shaped Tryd.checked.prog∧i.vars= []∧Input.okWide Tryd.checked.prog (w.forCall tape i) .any w.heap.size f i∧
   (OpenSpec.ofChange s).preRow enc Tryd.prog fn conds false laidL (w.forCall tape i).memory i.args∧({}:Assume).holds Tryd.checked.prog (lone (Frame.enter Tryd.checked.prog f i.args .normal) [] (w.forCall tape i)))
  (law: ∀a b m x y,RA a m x→RB b m y→ACalls Tryd.prog f [x,y] m fun v _=>v= .bool true):
  ReturnsInHanded {} Tryd.checked os f .any ((OpenSpec.ofChange s).preRow enc Tryd.prog fn conds false laidL) (((OpenSpec.ofChange s).at F).post enc Tryd.prog fn false true false false):=by
 refine returnsInHanded_of_row (C:= Tryd.checked) (s:=OpenSpec.ofChange s) own0 started noInit hfn witness ?_
 intro W base args ds gs before hval0 hW _ _ hsz0 hL _ _
 show Calls _ _ _ _ fun e W'=> ∃v,e= .returned v∧s.post enc Tryd.prog fn false true false false W args v W'
 replace hW:DataW.Whole enc Tryd.prog fn.params.toList s.vars false W args.toList ds gs before:=hW
 have hW':=hW
 rw[hp] at hval0 hsz0
 obtain ⟨p,q,hA,hV,rfl,_,_⟩:=hW
 rw[hp] at hA
 rw[hs] at hV
 obtain ⟨v0,v1,d0,d1,p0,p1,rfl,rfl,rfl,h0,h1⟩:=trodAll_two hA
 obtain ⟨rfl,rfl⟩:=trodVars_none hV
 have hwt: ∀(j:Nat) (t:TypeId) (d:DataW H),[ta,tb][j]? =some t→ [d0,d1][j]? =some d→(d.weights Tryd.prog t).all (· ≤reachBytes)=true:=fun j t d ht hd=>by
  rw[List.all_eq_true] at hsz0 ⊢
  intro n hn
  exact hsz0 n (DataW.weights_mem_each (j:=j) (t:=t) (d:=d) (by rcases j with _|_|j<;>simp_all) (by rcases j with _|_|j<;>simp_all) n hn)
 have hne:0<W.heap.size:=pow_heap hL
 obtain ⟨a,ea⟩:=oA hne (hval0 0 ta v0 rfl rfl) h0 (hwt 0 ta d0 rfl rfl)
 obtain ⟨b,eb⟩:=oB hne (hval0 1 tb v1 rfl rfl) h1 (hwt 1 tb d1 rfl rfl)
 obtain ⟨ρ1,m1,x,_,_,hro1,hsim1,hvr1,hR1⟩:=ea [] [] (Sim.nil W) RoMem.nil
 obtain ⟨ρ2,m2,y,hp2,hm2,hro,hsim,hvr2,hR2⟩:=eb ρ1 m1 hsim1 hro1
 have hlt: ∀x∈p0++(p1++ []),x.block<W.heap.size:=fun x hx=>hW'.lt x (by simpa using hx)
 refine ((law a b m2 x y (mA _ _ _ _ hm2 hR1) hR2).2 ρ2 W #[v0,v1] hsim (glob_of hL hro) (by simp only[VRs];exact ⟨_,_,rfl,VR.mono hp2 _ _ hvr1,_,_,rfl,hvr2,rfl⟩)).mono fun e W' h=>?_
 obtain ⟨v',v,m'',ρ'',rfl,rfl,hv,_,hev⟩:=h
 simp only[VR] at hv
 subst hv
 have hb:=below_of_evol hro hev
 refine ⟨_,rfl,[d0,d1],[],_,[],p0++(p1++ []),[],hW',?_,?_,?_,hb.frame _,fun h=>by cases h⟩
 ·rw[hr]
  show DataW.TrodAll enc _ W' _ _ _ [4] _ (s.fn H [d0,d1]).results []
  rw[hsf]
  exact trodAll_mk1 (shut_bool under4 true)
 ·rw[hp]
  show DataW.TrodAll enc _ W' _ _ _ [ta,tb] _ (s.fn H [d0,d1]).args _
  rw[hsf]
  exact trodAll_cons_mk (Below.trod laidOut cA cA' h0 hb fun x hx=>hlt x (by simp[hx])) (trodAll_cons_mk (Below.trod laidOut cB cB' h1 hb fun x hx=>hlt x (by simp[hx])) trodAll_mk0)
 ·show DataW.TrodVars enc _ W' _ s.vars (s.fn H [d0,d1]).vars _
  rw[hsf,hs]
  rfl
end Go.Proofs.YtodhalcpnmddjaaDoor
namespace Go.Proofs.YtodhalcpnmddjaaDoor
open Go Ax Go.ChangeShapes Go.WideShapes Go.ChangeAt Go.RowKit
set_option maxRecDepth 100000
def FlatT (t:TypeId) (n:Nat):Prop:=
 ∀{H:Type} {enc:TypeId×Value→H} {W:World} {base:Nat} {held:Bool} {fuel:Nat} {cs:List Value} {x:DataW H×List MemPlace},DataW.trod enc Tryd.prog W base (fun _=>true) held fuel t cs=some x→
  ∃zs:List Int,zs.length=n∧cs=zs.map (Value.int .i64)∧ ∀z∈zs,i64 z
theorem flat_int {t:TypeId} (ht: Tryd.prog.underlying t=some (.int .i64)):FlatT t 1:=fun {H enc W base held fuel cs x} h=>by
 obtain ⟨n,rfl,_,hw⟩:=DataW.trod_int ht h
 exact ⟨[n],rfl,rfl,fun z hz=>by simp at hz;subst hz;exact i64_of hw⟩
def FA (fs:Array Field):Nat→Nat→List (TypeId×Nat)→Prop
 |_,_,[]=>True
 |k,o,p::L=>(fs[k]?).map (fun f=>(f.type,f.offset))=some (p.1,o)∧FA fs (k+1) (o+p.2) L
def sumN (L:List (TypeId×Nat)):Nat:=(L.map (·.2)).sum
theorem flat_fields {fs:Array Field} {H:Type} {enc:TypeId×Value→H} {W:World} {base:Nat} {held:Bool} {n:Nat} {cs:List Value} {xs:List (DataW H×List MemPlace)} (hx:xs.length=fs.size)
  (hall: ∀(i:Nat) (f:Field),fs[i]? =some f→DataW.trod enc Tryd.prog W base (fun _=>true) held n f.type ((cs.drop f.offset).take (Tryd.prog.cellsOf f.type))=xs[i]?):
  ∀(L:List (TypeId×Nat)) (k o:Nat),(∀p∈L,FlatT p.1 p.2∧ Tryd.prog.cellsOf p.1=p.2)→FA fs k o L→ ∃zs:List Int,zs.length=sumN L∧(cs.drop o).take (sumN L)=zs.map (Value.int .i64)∧ ∀z∈zs,i64 z
 | [],k,o,_,_=>⟨[],rfl,by simp[sumN],by simp⟩
 |p::L,k,o,hL,⟨hk,hF⟩=>by
  obtain ⟨hp,hc⟩:=hL p List.mem_cons_self
  obtain ⟨f,hf,ht,ho⟩:=field_of hk
  have e:=hall k f hf
  rw[ht,ho,hc] at e
  have hkl:k<xs.length:=by rw[hx];exact (Array.getElem?_eq_some_iff.1 hf).1
  rw[List.getElem?_eq_getElem hkl] at e
  obtain ⟨zs,h1,h2,h3⟩:=hp e
  obtain ⟨zs',g1,g2,g3⟩:=flat_fields hx hall L (k+1) (o+p.2) (fun q hq=>hL q (List.mem_cons_of_mem _ hq)) hF
  have hs:sumN (p::L)=p.2+sumN L:=by simp[sumN]
  refine ⟨zs++zs',by rw[List.length_append,h1,g1,hs],?_,fun z hz=>?_⟩
  ·rw[hs,List.take_add,h2,List.drop_drop,g2,List.map_append]
  ·rcases List.mem_append.1 hz with h|h
   ·exact h3 z h
   ·exact g3 z h
theorem flat_struct {t:TypeId} {fs:Array Field} {L:List (TypeId×Nat)} {n:Nat} (ht: Tryd.prog.underlying t=some (.struct fs)) (hc: Tryd.prog.cellsOf t=n) (hn:sumN L=n) (hL: ∀p∈L,FlatT p.1 p.2∧ Tryd.prog.cellsOf p.1=p.2) (hF:FA fs 0 0 L):FlatT t n:=fun {H enc W base held fuel cs x} h=>by
 obtain ⟨xs,k,_,rfl,hl,hxl,hall⟩:=DataW.trod_struct ht h
 rw[hc] at hl
 obtain ⟨zs,h1,h2,h3⟩:=flat_fields hxl hall L 0 0 hL hF
 rw[hn] at h1 h2
 rw[List.drop_zero,List.take_of_length_le (by omega)] at h2
 exact ⟨zs,h1,h2,h3⟩
theorem flat_vrs (ρ:List RB): ∀zs:List Int,VRs ρ (zs.map (AVal.int .i64)) (zs.map (Value.int .i64))
 | []=>by simp[VRs]
 |z::zs=>by simp only[List.map_cons,VRs,VR];exact ⟨_,_,rfl,rfl,flat_vrs ρ zs⟩
theorem agg_of {t:TypeId} {W:World} {r:Reach} {b0:Nat} {v:Value} {fs:Array Field} (ht: Tryd.prog.underlying t=some (.struct fs)) (hv:Value.okWide Tryd.prog W r b0 t v): ∃cs,v= .agg cs:=by
 simp only[Value.okWide,ht] at hv
 obtain ⟨cs,h1,_⟩:=hv
 exact ⟨cs,h1⟩
noncomputable def fsOf (t:TypeId):Array Field:=match Tryd.prog.underlying t with|some (.struct fs)=>fs|_=> #[]
theorem underBD: Tryd.prog.underlying 83=some (.struct (fsOf 83)):=by kernel_rfl
theorem underDM: Tryd.prog.underlying 92=some (.struct (fsOf 92)):=by kernel_rfl
theorem underDS: Tryd.prog.underlying 26=some (.struct (fsOf 26)):=by kernel_rfl
theorem underLDM: Tryd.prog.underlying 24=some (.slice 92):=by kernel_rfl
theorem flatBD:FlatT 83 2:=flat_struct (L:= [(2,1),(2,1)]) underBD (by kernel_rfl) rfl (by simp only[List.mem_cons,List.not_mem_nil,or_false,or_self,forall_eq];exact ⟨flat_int under2,cells2⟩) ⟨by kernel_rfl,by kernel_rfl,trivial⟩
theorem cellsBD: Tryd.prog.cellsOf 83=2:=by kernel_rfl
theorem flatDM:FlatT 92 3:=flat_struct (L:= [(83,2),(3,1)]) underDM (by kernel_rfl) rfl (fun p hp=>by
 simp only[List.mem_cons,List.not_mem_nil,or_false] at hp
 rcases hp with rfl|rfl
 ·exact ⟨flatBD,cellsBD⟩
 ·exact ⟨flat_int under3,cells3⟩) ⟨by kernel_rfl,by kernel_rfl,trivial⟩
end Go.Proofs.YtodhalcpnmddjaaDoor
namespace Go.Proofs.YtodhalcpnmddjaaDoor
open Go Ax Go.ChangeShapes Go.WideShapes Go.ChangeAt Go.RowKit
set_option maxRecDepth 100000
def BdW:Type:={b:Int×Int // i64 b.1∧i64 b.2}
def bdW (b:BdW):List AVal:=bdC b.1
instance:SCell 2 bdW:=⟨fun _=>rfl,fun _=>rfl⟩
def bsR (bs:List (Int×Int)) (m:AMem) (x:AVal):Prop:=SlF 2 bdC m x bs∧bs.length≤reachBytes∧ ∀b∈bs,i64 b.1∧i64 b.2
theorem bsR.mono (bs:List (Int×Int)) (m m':AMem) (x:AVal) (hm:m<+:m') (h:bsR bs m x):bsR bs m' x:=⟨h.1.mono hm,h.2⟩
theorem flat_map_val {α β γ:Type} (g:α→β) (f:β→List γ) (l:List α):(l.map g).flatMap f=l.flatMap fun x=>f (g x):=by
 induction l with
 |nil=>rfl
 |cons x l ih=>rw[List.map_cons,List.flatMap_cons,List.flatMap_cons,ih]
def ssR (ss:List Int) (m:AMem) (x:AVal):Prop:=RInts m x ss∧ss.length≤reachBytes
theorem ssR.mono (ss:List Int) (m m':AMem) (x:AVal) (hm:m<+:m') (h:ssR ss m x):ssR ss m' x:=⟨Sl.mono h.1 hm,h.2⟩
def DmW:Type:={x:Dm // i64 x.l∧i64 x.u∧i64 x.s}
def dmW (x:DmW):List AVal:=dmC x.1
instance:SCell 3 dmW:=⟨fun _=>rfl,fun _=>rfl⟩
def dsR (d:Dsc) (m:AMem) (x:AVal):Prop:=DsR m x d∧d.ds.length≤reachBytes∧i64 d.b∧ ∀y∈d.ds,i64 y.l∧i64 y.u∧i64 y.s
theorem dsR.mono (d:Dsc) (m m':AMem) (x:AVal) (hm:m<+:m') (h:dsR d m x):dsR d m' x:=⟨h.1.mono hm,h.2⟩
theorem f0D:((fsOf 26)[0]?).map (fun f=>(f.type,f.offset))=some (3,0):=by kernel_rfl
theorem f1D:((fsOf 26)[1]?).map (fun f=>(f.type,f.offset))=some (24,1):=by kernel_rfl
theorem szD:(fsOf 26).size=2:=by kernel_rfl
theorem cD: Tryd.prog.cellsOf 26=2:=by kernel_rfl
theorem cLD: Tryd.prog.cellsOf 24=1:=by kernel_rfl
theorem cellsDM: Tryd.prog.cellsOf 92=3:=by kernel_rfl
theorem opn_dsc:Opn 26 dsR:=fun {H enc W r b0 v d ps} hne hv hd hw=>by
 obtain ⟨fuel,hd⟩:=hd
 obtain ⟨cs,rfl⟩:=agg_of underDS hv
 obtain ⟨xs,n,_,hxe,hl,hxl,hall⟩:=DataW.trod_struct underDS hd
 rw[cD] at hl
 rw[szD] at hxl
 have hcl: ∃c0 c1,cs.toList= [c0,c1]:=by
  have h2:cs.toList.length=2:=hl
  match hcs:cs.toList,h2 with
  | [c0,c1],_=>exact ⟨c0,c1,rfl⟩
 obtain ⟨c0,c1,hcs⟩:=hcl
 have hvc:(Value.agg cs).cells=cs:=rfl
 obtain ⟨x0,x1,rfl⟩: ∃c0 c1,xs= [c0,c1]:=by
  match xs,hxl with
  | [c0,c1],_=>exact ⟨_,_,rfl⟩
 obtain ⟨g0,a0,t0,o0⟩:=field_of f0D
 obtain ⟨g1,a1,t1,o1⟩:=field_of f1D
 have e0:=hall 0 g0 a0
 have e1:=hall 1 g1 a1
 rw[t0,o0,cells3,hvc,hcs] at e0
 rw[t1,o1,cLD,hvc,hcs] at e1
 simp only[List.drop_zero,List.drop_succ_cons,List.take_succ_cons,List.take_zero,List.getElem?_cons_zero,List.getElem?_cons_succ] at e0 e1
 obtain ⟨z,hz,_,hzw⟩:=DataW.trod_int under3 e0
 simp only[List.cons.injEq,and_true] at hz
 subst hz
 obtain ⟨l,hent,hbd⟩:=enters_slF (enc:=enc) (f:=dmW) (by omega) underLDM cellsDM (of_decide_eq_true (by kernel_rfl)) (fun {fuel cs x} h=>by
  obtain ⟨zs,h1,rfl,h3⟩:=flatDM h
  obtain ⟨a,b,c,rfl⟩: ∃a b c,zs= [a,b,c]:=by
   match zs,h1 with
   | [a,b,c],_=>exact ⟨_,_,_,rfl⟩
  refine ⟨⟨⟨a,b,c⟩,h3 a (by simp),h3 b (by simp),h3 c (by simp)⟩,fun ρ m hs hm=>⟨ρ,m,_,List.prefix_refl _,List.prefix_refl _,hm,hs,flat_vrs ρ [a,b,c],rfl⟩⟩) (fun _ _ _ _=>hne) e1
 refine ⟨⟨z,l.map (·.1)⟩,fun ρ m hs hm=>?_⟩
 obtain ⟨ρ',m',xs,k1,k2,k3,k4,k5,s,rfl,k6⟩:=hent ρ m hs hm
 simp only[VRs] at k5
 obtain ⟨v1,_,e,k5,rfl⟩:=k5
 simp only[List.cons.injEq,and_true] at e
 subst e
 refine ⟨ρ',m',.agg [.int .i64 z,s],k1,k2,k3,k4,?_,⟨s,rfl,?_,fun b hb=>?_⟩,?_,i64_of hzw,fun y hy=>?_⟩
 ·simp only[VR,VRs]
  exact ⟨cs,rfl,_,_,hcs,rfl,_,_,rfl,k5,rfl⟩
 ·unfold SlF at k6 ⊢
  rw[List.length_map,flat_map_val]
  exact k6
 ·cases s<;>simp only[AVal.blk,reduceCtorEq,Option.some.injEq] at hb
  subst hb
  simp only[VR] at k5
  obtain ⟨a,_,_,_,h2,_⟩:=k5
  rw[←k4.len]
  exact (List.getElem?_eq_some_iff.1 h2).1
 ·rw[List.length_map]
  refine hbd _ ?_
  simp only[Prod.mk.injEq] at hxe
  obtain ⟨rfl,rfl⟩:=hxe
  have:=weights_parts (i:=1) underDS a1 (y:=x1) (by simp) hw
  rw[t1] at this
  exact this
 ·obtain ⟨y,_,rfl⟩:=List.mem_map.1 hy
  exact y.2
end Go.Proofs.YtodhalcpnmddjaaDoor
namespace Go.Proofs.YtodhalcpnmddjaaDoor
open Go Ax Go.ChangeShapes Go.WideShapes Go.ChangeAt Go.RowKit
set_option maxRecDepth 100000
def litsOf:DataW Unit→Array Value
 | .agg ds=>(ds.map fun| .lit l=>l.value|_=> .bool false).toArray
 |_=> #[]
noncomputable def setCells (a:Array Value):Obj→Obj
 | .cells _ t frozen=> .cells a t frozen
 |o=>o
noncomputable def laidWorld (os:Os):World:=
 {World.holding Tryd.prog os ⟨#[],#[],[]⟩ with heap:=((((World.holding Tryd.prog os ⟨#[],#[],[]⟩).heap.modify 0 (setCells (litsOf Rows.laid_internal_strconv_uint64pow10))).modify 2 (setCells (litsOf Rows.laid_math_bits_deBruijn32tab))).modify 3 (setCells (litsOf Rows.laid_math_bits_deBruijn64tab)))}
end Go.Proofs.YtodhalcpnmddjaaDoor
namespace Go.Proofs.YtodhalcpnmddjaaDoor
open Go Ax Go.ChangeShapes Go.WideShapes Go.ChangeAt Go.RowKit
set_option maxRecDepth 100000
end Go.Proofs.YtodhalcpnmddjaaDoor
