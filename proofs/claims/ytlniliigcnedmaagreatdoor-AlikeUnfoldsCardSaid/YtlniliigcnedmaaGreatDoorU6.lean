/- Layer 10's laws.  Conditions: none beyond those stated. -/
import Derived.Test.YtlniliigcnedmaaGreatDoorU5
import Derived.Shelf.Strings.OnBuilder
import Derived.Shelf.Sort.Plain
import Derived.Test.YtlniliigcnedmaaGreatDoorProg
import Derived.Laws.IdiomArrays
import Derived.Test.YtlniliigcnedmaaGreatDoorCards
import Derived.Test.YtlniliigcnedmaaGreatDoorTie
import Derived.Deep.DeepHandedRow
import Derived.Lib.LaidU8
import Derived.OpenShut
set_option linter.unusedSimpArgs false
set_option linter.unusedVariables false
namespace Go.Proofs.YtlniliigcnedmaaGreatDoor
open Go Ax
set_option maxRecDepth 100000
theorem txT_of {l:List Md} (hc:checkI l=0) (hl:l.length≤60):TxT l∧Full l∧ ∀x∈l,0≤x.kind∧x.kind<14∧shaped x:=by
 have ok:=okT_of hc
 have co:=checkOk_iff.1 hc
 have hsh: ∀x∈l,0≤x.kind∧x.kind<14∧shaped x:=fun x hx=>by
  have:=shapeI_zero (oneI_zero (co.one x hx)).1
  exact ⟨this.1,this.2.1,this.2.2.1⟩
 refine ⟨⟨ok.good,hl,ok.h64,fun x hx n hn=>?_,fun x hx=>?_⟩,fun x hx hk=>?_,hsh⟩
 ·have:=(oneI_zero (co.one x hx)).2.2.1 n hn
  simp only[wordB,Bool.and_eq_true,decide_eq_true_eq] at this
  exact this.2.2
 ·have:=(hsh x hx).2.2.2.2.2.1
  unfold dimsOk at this
  split at this<;>omega
 ·have h1:=(hsh x hx).2.2.1
  have h2:=(hsh x hx).2.1
  unfold least at h1
  split at h1
  ·omega
  ·split at h1<;>omega
theorem set_pre {m m':AMem} {n:Nat} (h:m<+:m') (hn:m.length≤n) (x:ABlk):m<+:m'.set n x:=((Ch.of_prefix (S:=fun _=>False) h).set (.inr hn) x).pre (List.prefix_refl _) fun _ _ h=>h
theorem set_get {m:AMem} {n:Nat} {y:ABlk} (h:m[n]? =some y) (x:ABlk):(m.set n x)[n]? =some x:=List.getElem?_set_self (List.getElem?_eq_some_iff.1 h).1
theorem WC.keep {b mb c:Nat} {bf bf':AVal} {m m':AMem} {blk:ABlk} (hc:WC b mb bf m bf' m') (h:m[c]? =some blk) (n1:c≠b) (n2:c≠mb) (n3:bf.blk≠some c):m'[c]? =some blk∧bf'.blk≠some c:=by
 refine ⟨own_ch h hc.1 fun e=>?_,fun e=>?_⟩
 ·rcases e with e|e|e
  ·exact n1 e
  ·exact n2 e
  ·exact n3 e
 ·rcases hc.2 c e with h'|h'
  ·exact n3 h'
  ·have:=(List.getElem?_eq_some_iff.1 h).1;omega
theorem WS.number {m0:AMem} {b mb:Nat} {sT rk:AVal} {ds:List Nat} {m:AMem} {bf:AVal} {bs:List UInt8} {s:List Nat} (h:WS m0 b mb sT rk ds m bf bs s) (x:Nat):WS m0 b mb sT rk ds (m.set mb (.mp (numE ds (s++ [x])))) bf bs (s++ [x])∧WC b mb bf m bf (m.set mb (.mp (numE ds (s++ [x])))):=by
 have hch:Ch (fun c=>c=mb) m (m.set mb (.mp (numE ds (s++ [x])))):=Ch.setS _ rfl
 have hn:=h.ne
 obtain ⟨ad,h1,h2⟩:=h.blk
 have hc:WC b mb bf m bf (m.set mb (.mp (numE ds (s++ [x])))):=⟨hch.weaken fun c _ e=> .inr (.inl e),fun c e=> .inl e⟩
 exact ⟨⟨⟨ad,own_ch h1 hch hn.1,h2⟩,set_get h.map _,h.buf.ch hch fun c e e'=>hn.2.2 (e'▸e),hc.pre0 h,h.lo⟩,hc⟩
theorem eN_cast {l:List Md} (hg:goodT l) {x:Nat} (hx:x<l.length):(eN l[x]).map (fun z:Nat=>(z:Int))=l[x].elems:=by
 unfold eN
 rw[List.map_map]
 conv=>rhs;rw[←List.map_id l[x].elems]
 refine List.map_congr_left fun e he=>?_
 have:=hg _ (List.getElem_mem hx) e he
 simp only[Function.comp,id]
 omega
theorem eN_at {l:List Md} (hg:goodT l) {x:Nat} (hx:x<l.length) {k:Nat} (hk:k<l[x].elems.length):l[x].elems[k]=(((eN l[x]).getD k 0:Nat):Int):=by
 have hk':k<(eN l[x]).length:=by rw[eN_len];exact hk
 have:=hg _ (List.getElem_mem hx) _ (List.getElem_mem hk)
 rw[List.getD_eq_getElem?_getD,List.getElem?_eq_getElem hk',Option.getD_some]
 simp only[eN,List.getElem_map]
 omega
structure WT (l:List Md) (m0:AMem) (sT rk:AVal) (ds:List Nat):Prop where
 tx:TxT l
 full:Full l
 sh: ∀x∈l,0≤x.kind∧x.kind<14∧shaped x
 t13:T13 l
 sm: ∀x∈l,smallN x
 tab:RTab m0 sT l
 rks:RInts m0 rk (ds.map fun z:Nat=>(z:Int))
 dl:ds.length=l.length
 ord:SameOrd l.length (fun a=>ds.getD a 0) (RR l)
theorem words_at {m:AMem} {k:Int} (h0:0≤k) (h9:k<9):loadE m 1 false (.gptr 0 k.toNat)=some (.str ⟨(kindT k).toArray⟩):=by
 have:k=0∨k=1∨k=2∨k=3∨k=4∨k=5∨k=6∨k=7∨k=8:=by omega
 rcases this with rfl|rfl|rfl|rfl|rfl|rfl|rfl|rfl|rfl<;>rfl
theorem find_size (x:Md):(findE [(-1,AVal.str ⟨#[83,72,79,82,84,32]⟩),(1,.str ⟨#[76,79,78,71,32]⟩)] x.size).getD (.str ⟨#[]⟩)= .str ⟨(sizeT x).toArray⟩∧(findE [(1,AVal.str ⟨#[76,79,78,71,32]⟩),(-1,.str ⟨#[83,72,79,82,84,32]⟩)] x.size).getD (.str ⟨#[]⟩)= .str ⟨(sizeT x).toArray⟩:=by
 unfold sizeT
 by_cases h1:x.size=1
 ·simp[h1,findE]
 ·by_cases h2:x.size= -1
  ·simp[h2,findE]
  ·have h1': ¬1=x.size:=fun e=>h1 e.symm
   have h2': ¬ -1=x.size:=fun e=>h2 e.symm
   simp[h1,h2,h1',h2',findE]
set_option maxHeartbeats 8000000 in
theorem mode_ok {l:List Md} {m0:AMem} {b mb:Nat} {sT rk:AVal} {ds:List Nat} (H:WT l m0 sT rk ds): ∀f,ModeOK l m0 b mb sT rk ds f
 |0=>fun x m bf bs s hW hS hx hfu=>by have:=hS.len;omega
 |f+1=>by
  have ih:=mode_ok (b:=b) (mb:=mb) H f
  intro x m bf bs s hW hS hx hfu hB
  refine w45 ?_
  obtain ⟨ad,hb0,had⟩:=hW.blk
  obtain ⟨bx',ox,c,h4,h5,_,_,h6⟩:=H.tab.atC hx
  replace h5:=loadE_mono hW.pre h5
  simp[bx (own_read hb0),h4,h5]
  have hcl:=h6.all
  rw[store_new _ _ c _ _ 6 hcl.1 rfl hcl.2]
  have hb4:(m++ [ABlk.own c 39 none])[m.length]? =some (.own c 39 none):=by simp
  have hm1:m<+:m++ [ABlk.own c 39 none]:=List.prefix_append _ _
  have hn4:m.length≠b∧m.length≠mb:=⟨by have:=hW.lt.1;omega,by have:=hW.lt.2;omega⟩
  have hf4: ∀c,bf.blk=some c→c≠m.length:=fun c hc e=>by have:=(hW.buf.blk_lo hc).2;omega
  obtain ⟨e,nm,c0,c1,c2,c3,c4,c5,he,hnm,rfl⟩:=h6.get
  have hsh:=H.sh _ (List.getElem_mem hx)
  have hmd:=mdAt_eq hx
  generalize m++ [ABlk.own [AVal.int .i64 l[x].kind,AVal.int .i64 l[x].size,e,nm,AVal.int .i64 l[x].dims,AVal.bool l[x].flex] 39 none]=m1 at*
  generalize m.length=b4 at*
  have hW1:=hW.mono hm1
  simp[bx (own_read hb4)]
  obtain ⟨J,hJ⟩: ∃J:AFrame→AMem→Prop,∀a' m',J a' m'↔(a'.forget [0,1,4]=mat 159 [(0,.ptr b 0),(1,.int .i64 x),(4,.ptr b4 0)]∧m'=m1∧9≤l[x].kind):=⟨_,fun _ _=>Iff.rfl⟩
  refine bbind_J J ?_ ?_
  ·refine bbind_dec (fun hk=>?_) fun hk=>?_
   rotate_left
   ·simp
    exact (hJ _ _).2 ⟨rfl,rfl,by simpa using hk⟩
   have hk9:l[x].kind<9:=by simpa using hk
   have htx:txM l (f+1) s x=(plainT l[x],s):=by simp[txM,hmd,hk9]
   rw[htx] at hB ⊢
   simp
   have hwd:=words_at (m:=m1) hsh.1 hk9
   refine W_draw2 (fun _ _ _=>True) (by simp[maxDst]) ?_ ?_
   ·refine D_pc 0 3 [7,8,10,11,12,13,3,4,5,6,9,14,15] ?_
    simp
    intro fs1 h1
    refine D_pc 7 2 [10,11,12,13,3,4,5,6,9,14,15] ?_ (hfs:=h1)
    simp[bx (own_read hb4)]
    intro fs2 h2
    refine D_pc 10 4 [3,4,5,6,9,14,15] ?_ (hfs:=h2)
    simp[bx (own_read hb4),POp.ev,hsh.1,hk9,hwd]
    intro _ _
    refine D_X rfl rfl fun m2 hm2 _=>?_
    have hb42:=own_mono hb4 hm2
    have hn2:=hm2.length_le
    have hb43:=own_mono hb42 (List.prefix_append m2 [.mp []])
    have hmp:(m2++ [ABlk.mp []])[m2.length]? =some (.mp []):=by simp
    have hp3:m1<+:m2++ [ABlk.mp []]:=hm2.trans (List.prefix_append _ _)
    simp[lateOf,bx (own_read hb42),words_at hsh.1 hk9]
    refine ⟨⟨by rw[bx (own_read hb43)];rfl,by rw[bx (own_read hb43)];rfl⟩,?_⟩
    generalize m2++ [ABlk.mp []]=m3 at*
    generalize m2.length=n3 at*
    refine D_X rfl rfl fun m4 hm4 _=>?_
    have hmp4:=own_mono hmp hm4
    simp[lateOf,mapsetE,hmp4,setE,words_at hsh.1 hk9]
    have hp5:=set_pre (hp3.trans hm4) hn2 (.mp [(-1,AVal.str ⟨#[83,72,79,82,84,32]⟩)])
    have hmp5:=set_get hmp4 (.mp [(-1,AVal.str ⟨#[83,72,79,82,84,32]⟩)])
    generalize m4.set n3 (.mp [(-1,AVal.str ⟨#[83,72,79,82,84,32]⟩)])=m5 at*
    refine ⟨⟨by rw[bx (own_read (own_mono hb4 hp5))];rfl,by rw[bx (own_read (own_mono hb4 hp5))];rfl⟩,?_⟩
    refine D_X rfl rfl fun m6 hm6 _=>?_
    have hmp6:=own_mono hmp5 hm6
    simp[lateOf,mapsetE,hmp6,setE,words_at hsh.1 hk9]
    have hp7:=set_pre (hp5.trans hm6) hn2 (.mp [(-1,AVal.str ⟨#[83,72,79,82,84,32]⟩),(1,.str ⟨#[76,79,78,71,32]⟩)])
    have hmp7:=set_get hmp6 (.mp [(-1,AVal.str ⟨#[83,72,79,82,84,32]⟩),(1,.str ⟨#[76,79,78,71,32]⟩)])
    generalize m6.set n3 (.mp [(-1,AVal.str ⟨#[83,72,79,82,84,32]⟩),(1,.str ⟨#[76,79,78,71,32]⟩)])=m7 at*
    refine ⟨⟨by rw[bx (own_read (own_mono hb4 hp7))];rfl,by rw[bx (own_read (own_mono hb4 hp7))];rfl⟩,?_⟩
    have hfd:=(find_size l[x]).1
    refine D_pc 6 1 [9,14,15] ?_ (hfs:=fun _ _=>trivial)
    simp
    intro fs3 h3
    refine D_pc 9 1 [14,15] ?_ (hfs:=h3)
    simp[lookupE,hmp7,hfd]
    intro fs4 h4
    refine D_pc 14 1 [15] ?_ (hfs:=h4)
    have hadd:binStr .add ⟨(sizeT l[x]).toArray⟩ ⟨(kindT l[x].kind).toArray⟩=some (.str ⟨(plainT l[x]).toArray⟩):=str_add _ _ (by rw[ba_size];have:=plainT_len l[x];unfold plainT at this;rw[List.length_append] at this;omega)
    simp[hadd]
    intro fs5 h5
    refine D_X rfl rfl fun m8 hm8 _=>?_
    simp
    refine C_of ((hW1.mono (hp7.trans hm8)).write (plainT l[x]) (by simpa using hB)) ?_
    rintro _ m9 ⟨bf9,hW9,hC9⟩
    refine ⟨by simp[lateOf],?_⟩
    refine D_end fun m10 hm10 _=>?_
    simp
    exact ⟨bf9,hW9.mono hm10,(WC.of_prefix (hm1.trans (hp7.trans hm8))).trans (hC9.trans (.of_prefix hm10))⟩
   ·refine D_pc 0 3 [7,8,10,11,12,13,3,5,4,6,9,14,15] ?_
    simp
    intro fs1 h1
    refine D_pc 7 2 [10,11,12,13,3,5,4,6,9,14,15] ?_ (hfs:=h1)
    simp[bx (own_read hb4)]
    intro fs2 h2
    refine D_pc 10 4 [3,5,4,6,9,14,15] ?_ (hfs:=h2)
    simp[bx (own_read hb4),POp.ev,hsh.1,hk9,hwd]
    intro _ _
    refine D_X rfl rfl fun m2 hm2 _=>?_
    have hb42:=own_mono hb4 hm2
    have hn2:=hm2.length_le
    have hb43:=own_mono hb42 (List.prefix_append m2 [.mp []])
    have hmp:(m2++ [ABlk.mp []])[m2.length]? =some (.mp []):=by simp
    have hp3:m1<+:m2++ [ABlk.mp []]:=hm2.trans (List.prefix_append _ _)
    simp[lateOf,bx (own_read hb42),words_at hsh.1 hk9]
    refine ⟨⟨by rw[bx (own_read hb43)];rfl,by rw[bx (own_read hb43)];rfl⟩,?_⟩
    generalize m2++ [ABlk.mp []]=m3 at*
    generalize m2.length=n3 at*
    refine D_X rfl rfl fun m4 hm4 _=>?_
    have hmp4:=own_mono hmp hm4
    simp[lateOf,mapsetE,hmp4,setE,words_at hsh.1 hk9]
    have hp5:=set_pre (hp3.trans hm4) hn2 (.mp [(1,AVal.str ⟨#[76,79,78,71,32]⟩)])
    have hmp5:=set_get hmp4 (.mp [(1,AVal.str ⟨#[76,79,78,71,32]⟩)])
    generalize m4.set n3 (.mp [(1,AVal.str ⟨#[76,79,78,71,32]⟩)])=m5 at*
    refine ⟨⟨by rw[bx (own_read (own_mono hb4 hp5))];rfl,by rw[bx (own_read (own_mono hb4 hp5))];rfl⟩,?_⟩
    refine D_X rfl rfl fun m6 hm6 _=>?_
    have hmp6:=own_mono hmp5 hm6
    simp[lateOf,mapsetE,hmp6,setE,words_at hsh.1 hk9]
    have hp7:=set_pre (hp5.trans hm6) hn2 (.mp [(1,AVal.str ⟨#[76,79,78,71,32]⟩),(-1,.str ⟨#[83,72,79,82,84,32]⟩)])
    have hmp7:=set_get hmp6 (.mp [(1,AVal.str ⟨#[76,79,78,71,32]⟩),(-1,.str ⟨#[83,72,79,82,84,32]⟩)])
    generalize m6.set n3 (.mp [(1,AVal.str ⟨#[76,79,78,71,32]⟩),(-1,.str ⟨#[83,72,79,82,84,32]⟩)])=m7 at*
    refine ⟨⟨by rw[bx (own_read (own_mono hb4 hp7))];rfl,by rw[bx (own_read (own_mono hb4 hp7))];rfl⟩,?_⟩
    have hfd:=(find_size l[x]).2
    refine D_pc 6 1 [9,14,15] ?_ (hfs:=fun _ _=>trivial)
    simp
    intro fs3 h3
    refine D_pc 9 1 [14,15] ?_ (hfs:=h3)
    simp[lookupE,hmp7,hfd]
    intro fs4 h4
    refine D_pc 14 1 [15] ?_ (hfs:=h4)
    have hadd:binStr .add ⟨(sizeT l[x]).toArray⟩ ⟨(kindT l[x].kind).toArray⟩=some (.str ⟨(plainT l[x]).toArray⟩):=str_add _ _ (by rw[ba_size];have:=plainT_len l[x];unfold plainT at this;rw[List.length_append] at this;omega)
    simp[hadd]
    intro fs5 h5
    refine D_X rfl rfl fun m8 hm8 _=>?_
    simp
    refine C_of ((hW1.mono (hp7.trans hm8)).write (plainT l[x]) (by simpa using hB)) ?_
    rintro _ m9 ⟨bf9,hW9,hC9⟩
    refine ⟨by simp[lateOf],?_⟩
    refine D_end fun m10 hm10 _=>?_
    simp
    exact ⟨bf9,hW9.mono hm10,(WC.of_prefix (hm1.trans (hp7.trans hm8))).trans (hC9.trans (.of_prefix hm10))⟩
  ·intro a m2 hJ2
   obtain ⟨hfa,rfl,hk9⟩:=(hJ _ _).1 hJ2
   clear hJ2 hJ J
   simp[hfa]
   have hSE:=DenseOf.sameEq (k:=0) H.ord
   have hfn:=find_num hSE hS hx
   obtain ⟨bk,ok,p1,p2⟩:=ranksAt H.rks (x:=x) (by rw[H.dl];exact hx)
   have p3:=p2 _ hW1.pre
   obtain ⟨ad1,hb1,had1⟩:=hW1.blk
   have hmp:=hW1.map
   have hnk: ¬l[x].kind<9:=by omega
   have hnadd:=numE_add ds s x
   generalize ds.getD x 0=dx at*
   refine W_drawPR (by simp[maxDst]) rfl rfl ?_
   simp[bx (own_read hb1),p1,p3,lookupE,hmp,hfn]
   intro m3 hm3
   cases hno:numOf l s x with
   |some n=>
    have htx:txM l (f+1) s x=(35::digB 20 n,s):=by simp[txM,hmd,hnk,hno]
    rw[htx] at hB ⊢
    have hnl:=numOf_lt hno
    have hsl:=hS.len
    have hl60:=H.tx.len
    simp
    refine W_draw (fun _ _ _=>True) (by simp[maxDst]) ?_
    refine D_pc 0 4 [4,5,6] ?_
    simp
    intro fs1 h1
    refine D_X rfl rfl fun m4 hm4 _=>?_
    simp
    refine C_of (k89 n (by omega) m4) ?_
    rintro _ m5 ⟨rfl,rfl⟩
    refine ⟨by simp[lateOf],?_⟩
    refine D_pc 5 1 [6] ?_ (hfs:=fun _ _=>trivial)
    have hadd:binStr .add ⟨#[35]⟩ ⟨(digB 20 n).toArray⟩=some (.str ⟨(35::digB 20 n).toArray⟩):=str_add [35] _ (by rw[ba_size];have:=digB_len 20 n;simp;omega)
    simp[hadd]
    intro fs2 h2
    refine D_X rfl rfl fun m6 hm6 _=>?_
    simp
    refine C_of ((hW1.mono (hm3.trans (hm4.trans hm6))).write (35::digB 20 n) (by simpa using hB)) ?_
    rintro _ m9 ⟨bf9,hW9,hC9⟩
    refine ⟨by simp[lateOf],?_⟩
    refine D_end fun m10 hm10 _=>?_
    simp
    exact ⟨bf9,hW9.mono hm10,(WC.of_prefix (hm1.trans (hm3.trans (hm4.trans hm6)))).trans (hC9.trans (.of_prefix hm10))⟩
   |none=>
    have htx:txM l (f+1) s x=bodyT l (txM l f) (s++ [x]) x:=by simp[txM,hmd,hnk,hno]
    rw[htx] at hB ⊢
    have hS':=hS.add hx hno
    simp
    refine W_draw (fun _ _ _=>True) (by simp[maxDst]) ?_
    have hb13:=own_mono hb1 hm3
    have hmp3:=own_mono hmp hm3
    have p4:=p2 _ (hW1.pre.trans hm3)
    refine D_pc 0 16 [16] ?_
    simp[bx (own_read hb13),p1,p4,mlenE,hmp3,numE_len]
    intro fs1 h1
    refine D_X rfl rfl fun m4 hm4 _=>?_
    have hmp4:=own_mono hmp3 hm4
    have hset:setE (numE ds s) (dx:Int) (.int .i64 s.length)=numE ds (s++ [x]):=by rw[set_none _ _ _ (by rw[hfn,hno];rfl),hnadd]
    simp[lateOf,mapsetE,hmp4]
    rw[hset]
    obtain ⟨hW5,hC5⟩:=(hW1.mono (hm3.trans hm4)).number x
    have hC05:=(WC.of_prefix (b:=b) (mb:=mb) (bf:=bf) (hm1.trans (hm3.trans hm4))).trans hC5
    obtain ⟨hb45,hf45⟩:=hC5.keep (own_mono hb4 (hm3.trans hm4)) hn4.1 hn4.2 fun e=>hf4 _ e rfl
    generalize m4.set mb (.mp (numE ds (s++ [x])))=m5 at*
    refine D_end fun m6 hm6 _=>?_
    have hW6:=hW5.mono hm6
    have hC06:=hC05.trans (.of_prefix hm6)
    have hb46:=own_mono hb45 hm6
    have hlast: ∀k,k<l[x].elems.length→l[x].elems[k]? =some (((eN l[x]).getD k 0:Nat):Int):=fun k hk=>by rw[List.getElem?_eq_getElem hk,eN_at H.tx.good hx hk]
    simp[bx (own_read hb46)]
    obtain ⟨J,hJ⟩: ∃J:AFrame→AMem→Prop,∀a' m',J a' m'↔(∃bf' pr s',a'.forget [0,4]=mat 159 [(0,.ptr b 0),(4,.ptr b4 0)]∧WS m0 b mb sT rk ds m' bf' (bs++pr) s'∧Seen l s'∧s.length<s'.length∧WC b mb bf m bf' m'∧
     m'[b4]? =some (ABlk.own [AVal.int .i64 l[x].kind,AVal.int .i64 l[x].size,e,nm,AVal.int .i64 l[x].dims,AVal.bool l[x].flex] 39 none)∧0<l[x].elems.length∧
     bodyT l (txM l f) (s++ [x]) x=(pr++(txM l f s' ((eN l[x]).getD (l[x].elems.length-1) 0)).1,(txM l f s' ((eN l[x]).getD (l[x].elems.length-1) 0)).2)):=⟨_,fun _ _=>Iff.rfl⟩
    refine bbind_JB J ?_ ?_
    rotate_left
    ·intro a' m7 hJ7
     obtain ⟨bf7,pr,s7,hfa7,hW7,hS7,hs7,hC7,hb47,hel,hbd⟩:=(hJ _ _).1 hJ7
     clear hJ7 hJ J
     simp[hfa7]
     have he7:=he.mono hW7.pre
     obtain ⟨b9,o9,q1,q2⟩:=he7.at (i:=l[x].elems.length-1) (by omega)
     rw[eN_at H.tx.good hx (by omega)] at q2
     have h64:=H.tx.els _ (List.getElem_mem hx)
     have hwl:IntKind.i64.wrap ((l[x].elems.length:Int)-1)=((l[x].elems.length-1:Nat):Int):=by rw[wrap64 (by omega) (by omega)];omega
     have hlt:=eN_getD (k:=l[x].elems.length-1) H.tx.good hx (by rw[hmd];omega)
     rw[hmd] at hlt
     rw[hbd] at hB ⊢
     generalize (eN l[x]).getD (l[x].elems.length-1) 0=la at*
     simp[bx (own_read hb47),he7.len,hwl,q1,q2]
     refine C_of (ih la m7 bf7 (bs++pr) s7 hW7 hS7 hlt (by omega) (by simp only[List.length_append] at hB ⊢;omega)) ?_
     rintro _ m8 ⟨bf8,hW8,hC8⟩
     simp
     exact ⟨bf8,by simpa[List.append_assoc] using hW8,hC7.trans hC8⟩
    have hkk:l[x].kind=9∨l[x].kind=10∨l[x].kind=11∨l[x].kind=12∨l[x].kind=13:=by omega
    have hshd:=hsh.2.2
    have hmp:(s++ [x]).length=s.length+1:=by simp
    rcases hkk with hkk|hkk|hkk|hkk|hkk
    ·simp[hkk]
     have hl1:l[x].elems.length=1:=by
      have h1:=hshd.1;have h2:=hshd.2.1
      simp[least,most,hkk] at h1 h2
      omega
     have hbd:bodyT l (txM l f) (s++ [x]) x=([82,69,70,32]++(txM l f (s++ [x]) ((eN l[x]).getD (l[x].elems.length-1) 0)).1,(txM l f (s++ [x]) ((eN l[x]).getD (l[x].elems.length-1) 0)).2):=by
      simp[bodyT,hmd,hkk,hl1]
     rw[hbd] at hB
     refine C_of (hW6.write [82,69,70,32] (by simp only[List.length_append] at hB ⊢;omega)) ?_
     rintro _ m7 ⟨bf7,hW7,hC7⟩
     simp
     exact (hJ _ _).2 ⟨bf7,_,_,rfl,hW7,hS',by omega,hC06.trans hC7,(hC7.keep hb46 hn4.1 hn4.2 fun e=>hf4 _ e rfl).1,by omega,hbd⟩
    ·simp[hkk,bx (own_read hb46)]
     have hl1:l[x].elems.length=1:=by
      have h1:=hshd.1;have h2:=hshd.2.1
      simp[least,most,hkk] at h1 h2
      omega
     have hdm:1≤l[x].dims∧l[x].dims≤3:=by
      have h1:=hshd.2.2.2.1
      simpa[dimsOk,hkk] using h1
     have hbd:bodyT l (txM l f) (s++ [x]) x=((if l[x].flex=true then ([70,76,69,88,32]:List UInt8) else [])++(91::(List.replicate (l[x].dims-1).toNat 44++ [93]))++(txM l f (s++ [x]) ((eN l[x]).getD (l[x].elems.length-1) 0)).1,(txM l f (s++ [x]) ((eN l[x]).getD (l[x].elems.length-1) 0)).2):=by
      simp[bodyT,hmd,hkk,hl1]
     rw[hbd] at hB
     simp only[List.length_append,List.length_cons,List.length_nil] at hB
     obtain ⟨J2,hJ2⟩: ∃J:AFrame→AMem→Prop,∀a' m',J a' m'↔(∃bf',a'.forget [0,4]=mat 159 [(0,.ptr b 0),(4,.ptr b4 0)]∧WS m0 b mb sT rk ds m' bf' (bs++(if l[x].flex=true then ([70,76,69,88,32]:List UInt8) else [])) (s++ [x])∧WC b mb bf m bf' m'∧
      m'[b4]? =some (ABlk.own [AVal.int .i64 l[x].kind,AVal.int .i64 l[x].size,e,nm,AVal.int .i64 l[x].dims,AVal.bool l[x].flex] 39 none)∧bf'.blk≠some b4):=⟨_,fun _ _=>Iff.rfl⟩
     refine bbind_J J2 ?_ ?_
     ·cases h0':l[x].flex
      rotate_left
      ·simp
       refine C_of (hW6.write [70,76,69,88,32] (by rw[h0'] at hB;simp only[if_true,List.length_cons,List.length_nil] at hB ⊢;omega)) ?_
       rintro _ m7 ⟨bf7,hW7,hC7⟩
       simp
       obtain ⟨q1,q2⟩:=hC7.keep hb46 hn4.1 hn4.2 fun e=>hf4 _ e rfl
       exact (hJ2 _ _).2 ⟨bf7,rfl,by rw[h0'];exact hW7,hC06.trans hC7,q1,q2⟩
      ·simp
       exact (hJ2 _ _).2 ⟨bf,rfl,by rw[h0'];simpa using hW6,hC06,hb46,fun e=>hf4 _ e rfl⟩
     ·intro a' m7 hJ7
      obtain ⟨bf7,hfa7,hW7,hC7,hb47,hf47⟩:=(hJ2 _ _).1 hJ7
      clear hJ7 hJ2 J2
      simp[hfa7]
      have hwd:IntKind.i64.wrap (l[x].dims-1)=(((l[x].dims-1).toNat:Nat):Int):=by rw[wrap64 (by omega) (by omega)];omega
      have hcl:(l[x].dims-1).toNat≤2:=by omega
      generalize (l[x].dims-1).toNat=cd at*
      have hk3:=fun m8=>k69 cd (by omega) m8
      have hrl:(List.replicate cd (44:UInt8)).length≤2:=by simp;omega
      generalize List.replicate cd (44:UInt8)=rl at*
      refine W_draw (fun _ _ _=>True) (by simp[maxDst]) ?_
      refine D_pc 0 6 [6,7,8,9] ?_
      simp[bx (own_read hb47),hwd]
      intro fs1 h1
      refine D_X rfl rfl fun m8 hm8 _=>?_
      simp
      refine C_of (hk3 m8) ?_
      rintro _ m9 ⟨rfl,rfl⟩
      refine ⟨by simp[lateOf],?_⟩
      refine D_pc 7 2 [9] ?_ (hfs:=fun _ _=>trivial)
      have hadd:binStr .add ⟨#[91]⟩ ⟨rl.toArray⟩=some (.str ⟨(91::rl:List UInt8).toArray⟩):=str_add [91] _ (by rw[ba_size];simp only[List.length_cons,List.length_nil];omega)
      have hadd2:binStr .add ⟨(91::rl:List UInt8).toArray⟩ ⟨#[93]⟩=some (.str ⟨(91::rl++ [93]:List UInt8).toArray⟩):=str_add (91::rl) ⟨#[93]⟩ (by show _+1≤_;simp only[List.length_cons];omega)
      simp only[List.cons_append] at hadd2
      simp[hadd,hadd2,-List.cons_append]
      intro fs2 h2
      refine D_X rfl rfl fun m10 hm10 _=>?_
      simp
      have hm710:=hm8.trans hm10
      refine C_of ((hW7.mono hm710).write (91::(rl++ [93])) (by simp only[List.length_append,List.length_cons,List.length_nil] at hB ⊢;omega)) ?_
      rintro _ m11 ⟨bf11,hW11,hC11⟩
      refine ⟨by simp[lateOf],?_⟩
      refine D_end fun m12 hm12 _=>?_
      simp
      obtain ⟨q1,q2⟩:=hC11.keep (own_mono hb47 hm710) hn4.1 hn4.2 hf47
      exact (hJ _ _).2 ⟨bf11,_,_,rfl,by simpa[List.append_assoc] using hW11.mono hm12,hS',by omega,hC7.trans ((WC.of_prefix hm710).trans (hC11.trans (.of_prefix hm12))),own_mono q1 hm12,by omega,by rw[hbd]⟩
    ·simp[hkk]
     have hl1:1≤l[x].elems.length:=by
      have h1:=hshd.1
      simp[least,hkk] at h1
      omega
     have hnl:l[x].names.length=l[x].elems.length:=by
      have h1:=hshd.2.2.1
      simp[nNames,hkk] at h1
      omega
     have hbd:bodyT l (txM l f) (s++ [x]) x=([83,84,82,85,67,84]++([40]++((txL (txM l f) true (s++ [x]) (named (eN l[x]) l[x].names)).1++ [41])),(txL (txM l f) true (s++ [x]) (named (eN l[x]) l[x].names)).2):=by
      simp[bodyT,hmd,hkk]
     rw[hbd] at hB ⊢
     simp only[List.length_append,List.length_cons,List.length_nil] at hB
     refine C_of (hW6.write [83,84,82,85,67,84] (by simp only[List.length_cons,List.length_nil];omega)) ?_
     rintro _ m7 ⟨bf7,hW7,hC7⟩
     have hb47:=(hC7.keep hb46 hn4.1 hn4.2 fun e=>hf4 _ e rfl).1
     have hniN:isNilOf .slice nm=some false:=by
      rcases hnm with ⟨_,h,_⟩|⟨_,_,_,_,rfl,_⟩
      ·omega
      ·rfl
     simp[bx (own_read hb47)]
     refine C_of (all_ok H.tx H.full ih (zs:=eN l[x]) (items:=named (eN l[x]) l[x].names) (fun z hz=>eN_lt H.tx.good hx (by rw[hmd];exact hz)) (by rw[eN_len];have:=H.tx.els _ (List.getElem_mem hx);omega) hW7 hS'
      (fun bf' m' hc=>by rw[eN_cast H.tx.good hx];exact he.mono (hc.pre0 hW7)) (.inr ⟨l[x].names,hniN,fun bf' m' hc=>hnm.mono (hc.pre0 hW7),by rw[eN_len];exact hnl,rfl⟩) (by omega)
      (by simp only[List.length_append,List.length_cons,List.length_nil];omega)) ?_
     rintro _ m8 ⟨bf8,hW8,hC8⟩
     simp
     exact ⟨bf8,by simpa[List.append_assoc] using hW8,hC06.trans (hC7.trans hC8)⟩
    ·simp[hkk]
     have hu:isU l[x]=true:=by simp[isU,hkk]
     have hbd:bodyT l (txM l f) (s++ [x]) x=([85,78,73,79,78]++([40]++((txL (txM l f) true (s++ [x]) (bare (basesOf l x))).1++ [41])),(txL (txM l f) true (s++ [x]) (bare (basesOf l x))).2):=by
      simp[bodyT,hmd,hkk]
     rw[hbd] at hB ⊢
     simp only[List.length_append,List.length_cons,List.length_nil] at hB
     refine C_of (hW6.write [85,78,73,79,78] (by simp only[List.length_cons,List.length_nil];omega)) ?_
     rintro _ m7 ⟨bf7,hW7,hC7⟩
     obtain ⟨ad7,hb7,had7⟩:=hW7.blk
     simp
     refine W_draw (fun _ _ _=>True) (by simp[maxDst]) ?_
     refine D_pc 0 10 [10,11] ?_
     simp[bx (own_read hb7)]
     intro fs1 h1
     refine D_X rfl rfl fun m8 hm8 _=>?_
     simp
     have hW8:=hW7.mono hm8
     refine C_of (k54 sT rk l ds x hx hu m8 (H.tab.mono hW8.pre) (H.rks.mono hW8.pre) H.dl H.tx.good H.t13 H.sm) ?_
     rintro v m9 ⟨hm9,O,zs,⟨hO,hOm⟩,hZs,hsb⟩
     have hum:isU (mdAt l x)=true:=by rw[hmd];exact hu
     have hzb:=once_eq H.tx.good H.ord hx hum (fun j=>by rw[hOm];unfold IsBase;rw[if_pos hum]) hsb
     subst hzb
     refine ⟨by simp[lateOf],?_⟩
     refine D_X rfl rfl fun m10 hm10 _=>?_
     simp
     have hW10:=hW8.mono (hm9.trans hm10)
     have hZ10:=hZs.mono hm10
     have hbl:=bases_lt H.tx.good hx
     refine C_of (all_ok H.tx H.full ih (zs:=basesOf l x) (items:=bare (basesOf l x)) hbl (by have:=(basesEx H.tx.good hx).length H.tx.good hx;have:=H.tx.len;omega) hW10 hS'
      (fun bf' m' hc=>ints_of_nat (hZ10.ch hc.1 fun c hc' e=>by
       have h1:=(hZs.blk_lo hc').1
       have h2:=hW8.lt
       rcases e with e|e|e
       ·omega
       ·omega
       ·have:=(hW8.buf.blk_lo e).2;omega)) (.inl ⟨rfl,rfl⟩) (by omega)
      (by simp only[List.length_append,List.length_cons,List.length_nil];omega)) ?_
     rintro _ m11 ⟨bf11,hW11,hC11⟩
     refine ⟨by simp[lateOf],?_⟩
     refine D_end fun m12 hm12 _=>?_
     simp
     exact ⟨bf11,by simpa[List.append_assoc] using hW11.mono hm12,hC06.trans (hC7.trans ((WC.of_prefix (hm8.trans (hm9.trans hm10))).trans (hC11.trans (.of_prefix hm12))))⟩
    ·simp[hkk]
     have hl1:1≤l[x].elems.length:=by
      have h1:=hshd.1
      simp[least,hkk] at h1
      omega
     have h64:=H.tx.els _ (List.getElem_mem hx)
     have hwl:IntKind.i64.wrap ((l[x].elems.length:Int)-1)=((l[x].elems.length-1:Nat):Int):=by rw[wrap64 (by omega) (by omega)];omega
     have hbd:bodyT l (txM l f) (s++ [x]) x=if 1<l[x].elems.length then ([80,82,79,67,40]++((txL (txM l f) true (s++ [x]) (bare ((eN l[x]).take (l[x].elems.length-1)))).1++([41,32]++(txM l f (txL (txM l f) true (s++ [x]) (bare ((eN l[x]).take (l[x].elems.length-1)))).2 ((eN l[x]).getD (l[x].elems.length-1) 0)).1)),
      (txM l f (txL (txM l f) true (s++ [x]) (bare ((eN l[x]).take (l[x].elems.length-1)))).2 ((eN l[x]).getD (l[x].elems.length-1) 0)).2) else ([80,82,79,67,32]++(txM l f (s++ [x]) ((eN l[x]).getD 0 0)).1,(txM l f (s++ [x]) ((eN l[x]).getD 0 0)).2):=by
      simp[bodyT,hmd,hkk]
     refine C_of (hW6.write [80,82,79,67] (by rw[hbd] at hB;split at hB<;>simp only[List.length_append,List.length_cons,List.length_nil] at hB ⊢ <;>omega)) ?_
     rintro _ m7 ⟨bf7,hW7,hC7⟩
     obtain ⟨hb47,hf47⟩:=hC7.keep hb46 hn4.1 hn4.2 fun e=>hf4 _ e rfl
     have he7:=he.mono hW7.pre
     simp[bx (own_read hb47),he7.len,hwl]
     obtain ⟨J2,hJ2⟩: ∃J:AFrame→AMem→Prop,∀a' m',J a' m'↔(∃bf' pr s',a'.forget [0,4]=mat 159 [(0,.ptr b 0),(4,.ptr b4 0)]∧WS m0 b mb sT rk ds m' bf' (bs++pr) s'∧Seen l s'∧s.length<s'.length∧WC b mb bf m bf' m'∧
      m'[b4]? =some (ABlk.own [AVal.int .i64 l[x].kind,AVal.int .i64 l[x].size,e,nm,AVal.int .i64 l[x].dims,AVal.bool l[x].flex] 39 none)∧bf'.blk≠some b4∧
      bodyT l (txM l f) (s++ [x]) x=(pr++ [32]++(txM l f s' ((eN l[x]).getD (l[x].elems.length-1) 0)).1,(txM l f s' ((eN l[x]).getD (l[x].elems.length-1) 0)).2)):=⟨_,fun _ _=>Iff.rfl⟩
     refine bbind_J J2 ?_ ?_
     ·refine bbind_dec (fun h0=>?_) fun h0=>?_
      ·have h1:1<l[x].elems.length:=by omega
       rw[if_pos h1] at hbd
       rw[hbd] at hB
       simp only[List.length_append,List.length_cons,List.length_nil] at hB
       have hes:=eN_cast H.tx.good hx
       obtain ⟨t7,q1,q2⟩:=he7.take (i:=l[x].elems.length-1) (by omega)
       simp[bx (own_read hb47),q1]
       have hzt: ∀z∈(eN l[x]).take (l[x].elems.length-1),z<l.length:=fun z hz=>eN_lt H.tx.good hx (by rw[hmd];exact mem_take hz)
       refine C_of (all_ok H.tx H.full ih (zs:=(eN l[x]).take (l[x].elems.length-1)) (items:=bare ((eN l[x]).take (l[x].elems.length-1))) hzt (by rw[List.length_take,eN_len];omega) hW7 hS'
        (fun bf' m' hc=>by rw[List.map_take,hes];exact q2 m' (he.mono (hc.pre0 hW7))) (.inl ⟨rfl,rfl⟩) (by omega)
        (by simp only[List.length_append,List.length_cons,List.length_nil];omega)) ?_
       rintro _ m8 ⟨bf8,hW8,hC8⟩
       simp
       obtain ⟨r1,r2⟩:=hC8.keep hb47 hn4.1 hn4.2 hf47
       have hsn:=txL_seen (fun s z hs hz=>txM_seen H.tx H.full f hs hz) (bare ((eN l[x]).take (l[x].elems.length-1))) true (s++ [x]) hS' fun p hp=>(bare_ok hzt p hp).1
       exact (hJ2 _ _).2 ⟨bf8,_,_,rfl,by simpa[List.append_assoc] using hW8,hsn.1,by omega,hC06.trans (hC7.trans hC8),r1,r2,by rw[hbd];simp[List.append_assoc]⟩
      ·have h1: ¬1<l[x].elems.length:=by omega
       rw[if_neg h1] at hbd
       have h2:l[x].elems.length-1=0:=by omega
       simp
       exact (hJ2 _ _).2 ⟨bf7,[80,82,79,67],s++ [x],rfl,hW7,hS',by omega,hC06.trans hC7,hb47,hf47,by rw[hbd,h2];simp⟩
     ·intro a' m8 hJ8
      obtain ⟨bf8,pr,s8,hfa8,hW8,hS8,hs8,hC8,hb48,hf48,hbd8⟩:=(hJ2 _ _).1 hJ8
      clear hJ8 hJ2 J2
      simp[hfa8]
      rw[hbd8] at hB
      simp only[List.length_append,List.length_cons,List.length_nil] at hB
      refine C_of (hW8.write [32] (by simp only[List.length_append,List.length_cons,List.length_nil];omega)) ?_
      rintro _ m9 ⟨bf9,hW9,hC9⟩
      simp
      exact (hJ _ _).2 ⟨bf9,pr++ [32],s8,rfl,by simpa[List.append_assoc] using hW9,hS8,hs8,hC8.trans hC9,(hC9.keep hb48 hn4.1 hn4.2 hf48).1,by omega,hbd8⟩
end Go.Proofs.YtlniliigcnedmaaGreatDoor
namespace Go.Proofs.YtlniliigcnedmaaGreatDoor
open Go Ax
open Relation
set_option maxRecDepth 100000
def Pw (R:Nat→Nat→Prop) (xs ys:List Nat):Prop:=xs.length=ys.length∧ ∀(k x y:Nat),xs[k]? =some x→ys[k]? =some y→R x y
theorem Pw.mono {R S:Nat→Nat→Prop} {xs ys:List Nat} (h:Pw R xs ys) (hs: ∀x y,R x y→S x y):Pw S xs ys:=⟨h.1,fun k x y a b=>hs x y (h.2 k x y a b)⟩
theorem Pw.nil {R:Nat→Nat→Prop}:Pw R [] []:=⟨rfl,fun k x y h=>by simp at h⟩
theorem Pw.cons {R:Nat→Nat→Prop} {x y:Nat} {xs ys:List Nat} (h:R x y) (hs:Pw R xs ys):Pw R (x::xs) (y::ys):=by
 refine ⟨by simp[hs.1],fun k a b ha hb=>?_⟩
 cases k with
 |zero=>simp at ha hb;subst ha hb;exact h
 |succ k=>exact hs.2 k a b (by simpa using ha) (by simpa using hb)
theorem Pw.app {R:Nat→Nat→Prop}: ∀{xs ys us vs:List Nat},Pw R xs ys→Pw R us vs→Pw R (xs++us) (ys++vs)
 | [],[],us,vs,_,h=>h
 | [],y::ys,us,vs,h,_=>by have:=h.1;simp at this
 |x::xs,[],us,vs,h,_=>by have:=h.1;simp at this
 |x::xs,y::ys,us,vs,h,h2=>Pw.cons (h.2 0 x y rfl rfl) (Pw.app ⟨by have:=h.1;simpa using this,fun k a b ha hb=>h.2 (k+1) a b (by simpa using ha) (by simpa using hb)⟩ h2)
theorem Pw.one {R:Nat→Nat→Prop} {xs ys:List Nat} (h1:xs.length=1) (h2:ys.length=1) (h:R (xs.getD 0 0) (ys.getD 0 0)):Pw R xs ys:=by
 match xs,ys,h1,h2 with
 | [x],[y],_,_=>exact Pw.cons (by simpa using h) Pw.nil
def Rel (l:List Md) (T T':List Nat) (a b:Nat):Prop:=
 ((mdAt l a).kind<9∧(mdAt l a).kind=(mdAt l b).kind∧(mdAt l a).size=(mdAt l b).size)∨(∃i u v:Nat,T[i]? =some u∧T'[i]? =some v∧RR l a=RR l u∧RR l b=RR l v)
theorem pre_get {T U:List Nat} (h:T<+:U) {i u:Nat} (hi:T[i]? =some u):U[i]? =some u:=by
 obtain ⟨r,rfl⟩:=h
 rw[List.getElem?_append_left (List.getElem?_eq_some_iff.1 hi).1]
 exact hi
theorem Rel.mono {l:List Md} {T T' U U':List Nat} {a b:Nat} (h:Rel l T T' a b) (h1:T<+:U) (h2:T'<+:U'):Rel l U U' a b:=by
 rcases h with h|⟨i,u,v,g1,g2,g3,g4⟩
 ·exact .inl h
 ·exact .inr ⟨i,u,v,pre_get h1 g1,pre_get h2 g2,g3,g4⟩
structure GoodP (l:List Md) (T T':List Nat) (a b:Nat):Prop where
 first:firstC (mdAt l a) (mdAt l b)=0
 bases:isU (mdAt l a)=true→Pw (Rel l T T') (basesOf l a) (basesOf l b)
 elems:isU (mdAt l a)=false→Pw (Rel l T T') (eN (mdAt l a)) (eN (mdAt l b))
theorem GoodP.mono {l:List Md} {T T' U U':List Nat} {a b:Nat} (h:GoodP l T T' a b) (h1:T<+:U) (h2:T'<+:U'):GoodP l U U' a b:=
 ⟨h.first,fun hu=>(h.bases hu).mono fun _ _ r=>r.mono h1 h2,fun hu=>(h.elems hu).mono fun _ _ r=>r.mono h1 h2⟩
structure Par (l:List Md) (n:Nat) (T T':List Nat):Prop where
 len:T.length=T'.length
 good: ∀(i u v:Nat),n≤i→T[i]? =some u→T'[i]? =some v→GoodP l T T' u v
section
variable {l:List Md} (hc:checkI l=0) (h60:l.length≤60)
include hc h60
end
end Go.Proofs.YtlniliigcnedmaaGreatDoor
namespace Go.Proofs.YtlniliigcnedmaaGreatDoor
open Go Ax
open Relation
set_option maxRecDepth 100000
theorem ns_inj: ∀{xs ys:List ByteArray},(xs.map fun n:ByteArray=>(32:UInt8)::n.data.toList)=(ys.map fun n=>32::n.data.toList)→xs=ys
 | [],[],_=>rfl
 | [],_::_,h=>by simp at h
 |_::_,[],h=>by simp at h
 |x::xs,y::ys,h=>by
  simp only[List.map_cons,List.cons.injEq,true_and] at h
  rw[ns_inj h.2]
  have:=Array.toList_inj.1 h.1
  cases x;cases y
  simp only at this
  rw[this]
theorem tag_bytes {s:ByteArray} (h:wordB 97 122 s=true): ∀c∈s.data.toList,isTag c:=by
 intro c hc
 obtain ⟨i,hi,rfl⟩:=List.mem_iff_getElem.1 hc
 have hs:i<s.size:=by rw[Array.length_toList] at hi;exact hi
 unfold wordB at h
 rw[Bool.and_eq_true] at h
 have hch:=(rall_iff _ _ _).1 h.1 i (by omega) (by omega)
 have he:chOf s i=((s.data.toList[i]).toNat:Int):=by
  unfold chOf
  rw[show s[i]? =some s[i] from getElem?_pos s i hs]
  rfl
 rw[he] at hch
 generalize s.data.toList[i]=d at*
 unfold okCh at hch
 simp only[Bool.or_eq_true,Bool.and_eq_true,decide_eq_true_iff] at hch
 unfold isTag
 omega
end Go.Proofs.YtlniliigcnedmaaGreatDoor
namespace Go.Proofs.YtlniliigcnedmaaGreatDoor
open Go Ax
set_option maxRecDepth 100000
def OwS (lo:Nat) (m:AMem) (s:AVal) (l:List Md):Prop:= ∃cs,Ow lo m 6 39 s l.length cs∧ ∀(i:Nat) x,l[i]? =some x→ ∀m',Ch (fun b=>s.blk=some b) m m'→RMode m' (chunk cs i) x
theorem OwS.tab {lo:Nat} {m:AMem} {s:AVal} {l:List Md} (h:OwS lo m s l):RTab m s l:=by
 obtain ⟨cs,h1,h2⟩:=h
 exact ⟨cs,h1.sl,fun i x hx=>h2 i x hx m (.refl _ _)⟩
theorem OwS.mono {lo:Nat} {m m':AMem} {s:AVal} {l:List Md} (h:OwS lo m s l) (hm:m<+:m'):OwS lo m' s l:=by
 obtain ⟨cs,h1,h2⟩:=h
 exact ⟨cs,h1.mono hm,fun i x hx m'' hc=>h2 i x hx m'' ((Ch.of_prefix hm).trans hc)⟩
theorem OwS.blk_lo {lo:Nat} {m:AMem} {s:AVal} {l:List Md} (h:OwS lo m s l) {b:Nat} (hb:s.blk=some b):lo≤b∧b<m.length:=by
 obtain ⟨cs,h1,_⟩:=h
 exact h1.blk_lo hb
theorem OwS.push {lo:Nat} {m:AMem} {s:AVal} {l:List Md} (h:OwS lo m s l) (hlo:lo≤m.length) {c:List AVal} {x:Md} (hx: ∀m',Ch (fun b=>s.blk=some b) m m'→RMode m' c x) (hn:l.length<2^30):
  ∃s' m',appendE m 6 80 39 s 1 c=some (s',m')∧Ch (fun b=>s.blk=some b) m m'∧OwS lo m' s' (l++ [x])∧(∀b,s'.blk=some b→s.blk=some b∨m.length≤b):=by
 obtain ⟨cs,h1,h2⟩:=h
 have hcl:=(hx m (.refl _ _)).all
 have hl:=h1.sl.length
 obtain ⟨s',m',e,hch,h3,h4⟩:=h1.append hlo (k:=1) (xs:=c) (bytes:=80) (by omega) hcl.2 (by decide) (by omega)
 refine ⟨s',m',e,hch,⟨cs++c,by simpa using h3,fun i y hy m2 hc2=>?_⟩,h4⟩
 have hcc:Ch (fun b=>s.blk=some b) m m2:=by
  have a1:Ch (fun b=>s.blk=some b∨m.length≤b) m m':=hch.weaken fun b _ hb=> .inl hb
  have a2:Ch (fun b=>s.blk=some b∨m.length≤b) m' m2:=hc2.weaken fun b _ hb=>h4 b hb
  exact (a1.trans a2).weaken fun b hb h=>by rcases h with h|h;exact h;omega
 rcases push_get hy with ⟨hi,hy⟩|⟨rfl,rfl⟩
 ·rw[chunk_append hl hi];exact h2 i y hy m2 hcc
 ·rw[chunk_last hl hcl.1];exact hx m2 hcc
def shiftM (n:Nat) (x:Md):Md:={x with elems:=x.elems.map (· +(n:Int))}
def bothT (l k:List Md):List Md:=l++k.map (shiftM l.length)
end Go.Proofs.YtlniliigcnedmaaGreatDoor
namespace Go.Proofs.YtlniliigcnedmaaGreatDoor
open Go Ax
open Relation
set_option maxRecDepth 100000
structure PutT (l:List Md) (zs:List Nat) (k:List Md) (q:Nat):Prop where
 ck:checkI k=0
 len:k.length≤l.length+1
 ge:l.length≤k.length
 ql:q<k.length
 rr: ∀a b,a<l.length→b<l.length→(RR k a=RR k b↔RR l a=RR l b)
 md: ∀a,a<l.length→mdAt k a=mdAt l a
 parts: ∀a j,a<l.length→(IsPart k a j↔IsPart l a j)
 dn: ∀z∈zs,∃j,IsBase k q j∧RR k j=RR k z
section
variable {k:List Md}
end
end Go.Proofs.YtlniliigcnedmaaGreatDoor
namespace Go.Proofs.YtlniliigcnedmaaGreatDoor
open Go Ax
open Relation
structure Sub (l:List Md) (f:Nat→Nat) (k:List Md):Prop where
 lt: ∀a,a<k.length→f a<l.length
 md: ∀a x,k[a]? =some x→l[f a]? =some {x with elems:=x.elems.map fun e=>((f e.toNat:Nat):Int)}
section
variable {l k:List Md} {f:Nat→Nat}
theorem step_lt {l:List Md} (hg:goodT l) {p:Md→Bool} {x y:Nat} (h:stepR l p x y):x<l.length∧y<l.length:=by
 obtain ⟨z,g1,_,g3⟩:=h
 have:=hg z (List.mem_of_getElem? g1) _ g3
 exact ⟨(List.getElem?_eq_some_iff.1 g1).1,by omega⟩
theorem Sub.at (h:Sub l f k) {a:Nat} (ha:a<k.length):mdAt l (f a)={mdAt k a with elems:=(mdAt k a).elems.map fun e=>((f e.toNat:Nat):Int)}:=by
 have:=h.md a k[a] (List.getElem?_eq_getElem ha)
 rw[mdAt_eq ha]
 unfold mdAt
 rw[this]
 rfl
theorem Sub.step (h:Sub l f k) (hg:goodT k) {a b:Nat} (ha:a<k.length):stepR l isU (f a) b↔ ∃c:Nat,b=f c∧stepR k isU a c:=by
 have hx:k[a]? =some k[a]:=List.getElem?_eq_getElem ha
 have hy:=h.md a _ hx
 constructor
 ·rintro ⟨x,h1,h2,h3⟩
  rw[hy] at h1
  simp only[Option.some.injEq] at h1
  subst h1
  obtain ⟨d,hd,he⟩:=List.mem_map.1 h3
  have:=hg k[a] (List.getElem_mem ha) d hd
  exact ⟨d.toNat,by omega,k[a],hx,h2,by rw[show ((d.toNat:Nat):Int)=d by omega];exact hd⟩
 ·rintro ⟨c,rfl,y,h1,h2,h3⟩
  rw[hx] at h1
  simp only[Option.some.injEq] at h1
  subst h1
  exact ⟨_,hy,h2,List.mem_map.2 ⟨c,h3,by simp⟩⟩
theorem bothL:(bothT l k).length=l.length+k.length:=by simp[bothT]
theorem bothHi {a:Nat}:(bothT l k)[l.length+a]? =(k[a]?).map (shiftM l.length):=by
 unfold bothT
 rw[List.getElem?_append_right (by omega),Nat.add_sub_cancel_left,List.getElem?_map]
theorem mapE_id {n:Nat} {x:Md} (h: ∀e∈x.elems,0≤e∧e<n):{x with elems:=x.elems.map fun e=>((e.toNat:Nat):Int)}=x:=by
 have:x.elems.map (fun e=>((e.toNat:Nat):Int))=x.elems:=by
  conv=>rhs;rw[←List.map_id x.elems]
  exact List.map_congr_left fun e he=>by have:=h e he;show ((e.toNat:Nat):Int)=e;omega
 rw[this]
theorem Sub.app (hgl:goodT l) (r:List Md):Sub (l++r) (fun a=>a) l:=⟨fun a ha=>by simp;omega,fun a x hx=>by
 have ha:=(List.getElem?_eq_some_iff.1 hx).1
 rw[List.getElem?_append_left ha,hx,mapE_id (n:=l.length) (hgl x (List.mem_of_getElem? hx))]⟩
theorem Sub.lo (hgl:goodT l):Sub (bothT l k) (fun a=>a) l:=Sub.app hgl _
theorem Sub.hi (hg:goodT k):Sub (bothT l k) (fun a=>l.length+a) k:=⟨fun a ha=>by rw[bothL];omega,fun a x hx=>by
 rw[bothHi,hx]
 simp only[Option.map_some,shiftM,Option.some.injEq]
 congr 1
 exact List.map_congr_left fun e he=>by have:=hg x (List.mem_of_getElem? hx) e he;omega⟩
end
end Go.Proofs.YtlniliigcnedmaaGreatDoor
namespace Go.Proofs.YtlniliigcnedmaaGreatDoor
open Go Ax
open Relation
def withE (x:Md) (f:Nat→Nat):Md:={x with elems:=x.elems.map fun e=>((f e.toNat:Nat):Int)}
section
variable {l k:List Md} {f:Nat→Nat}
theorem Sub.one (h:Sub l f k) {x:Md} (hx:oneI x k.length=0):oneI (withE x f) l.length=0:=by
 obtain ⟨h1,h2,h3,h4⟩:=oneI_zero hx
 have hs:shapeI (withE x f)=shapeI x:=by
  unfold shapeI shaped dimsOk sizeOk least most nNames withE
  simp only[List.length_map]
  rfl
 unfold oneI
 rw[hs,if_neg (by simpa using h1),if_neg,if_neg,if_neg]
 ·show ¬twiceB x.names=true
  rw[h4];simp
 ·show ¬(x.names.any fun s=> !wordB 97 122 s)=true
  rw[Bool.not_eq_true,List.any_eq_false]
  intro s hs
  simp[h3 s hs]
 ·rw[Bool.not_eq_true,List.any_eq_false]
  intro e he
  obtain ⟨d,hd,rfl⟩:=List.mem_map.1 he
  have:=h2 d hd
  have:=h.lt d.toNat (by omega)
  simp[outB]
  omega
end
end Go.Proofs.YtlniliigcnedmaaGreatDoor
namespace Go.Proofs.YtlniliigcnedmaaGreatDoor
open Go Ax
open Relation
set_option maxRecDepth 100000
section
variable {l:List Md} (hc:checkI l=0) (h60:l.length≤60)
include hc h60
omit hc h60 in
theorem Rel.congr {T T':List Nat} {a b a' b':Nat} (ha:a<l.length) (ha':a'<l.length) (hb:b<l.length) (hb':b'<l.length) (h1:RR l a=RR l a') (h2:RR l b=RR l b') (h:Rel l T T' a b):Rel l T T' a' b':=by
 rcases h with ⟨g1,g2,g3⟩|⟨i,u,v,g1,g2,g3,g4⟩
 ·obtain ⟨q1,q2,_⟩:=firstC_all (RR_first ha ha' h1)
  obtain ⟨p1,p2,_⟩:=firstC_all (RR_first hb hb' h2)
  exact .inl ⟨by omega,by omega,by omega⟩
 ·exact .inr ⟨i,u,v,g1,g2,by omega,by omega⟩
end
end Go.Proofs.YtlniliigcnedmaaGreatDoor
namespace Go.Proofs.YtlniliigcnedmaaGreatDoor
open Go Ax
open Relation
set_option maxRecDepth 100000
structure Emb (l:List Md) (f:Nat→Nat) (k:List Md):Prop where
 lt: ∀a,a<k.length→f a<l.length
 first: ∀a,a<k.length→firstC (mdAt l (f a)) (mdAt k a)=0
 elem: ∀a,a<k.length→isU (mdAt k a)=false→ ∀(i:Nat) (e e':Int),(mdAt l (f a)).elems[i]? =some e→(mdAt k a).elems[i]? =some e'→ ∀d,R l d e.toNat=R l d (f e'.toNat)
 up: ∀a,a<k.length→isU (mdAt k a)=true→ ∀j,IsPart l (f a) j→ ∃c,IsPart k a c∧ ∀d,R l d j=R l d (f c)
 down: ∀a,a<k.length→isU (mdAt k a)=true→ ∀c,IsPart k a c→ ∃j,IsPart l (f a) j∧ ∀d,R l d j=R l d (f c)
theorem firstC_sign {x x' y y':Md} (h1:firstC x x'=0) (h2:firstC y y'=0):firstC x y<0↔firstC x' y'<0:=by
 have o:=firstC_ord
 have a1:firstC x' x=0:=(o.zero trivial trivial).1 h1
 have a2:firstC y' y=0:=(o.zero trivial trivial).1 h2
 constructor
 ·intro h
  exact o.le_lt trivial trivial trivial (by omega) (o.lt_le trivial trivial trivial h (by omega))
 ·intro h
  exact o.le_lt trivial trivial trivial (by omega:firstC x x'≤0) (o.lt_le trivial trivial trivial h (by omega))
section
variable {l k:List Md} {f:Nat→Nat}
theorem Emb.key (h:Emb l f k) (hgl:goodT l) {a d:Nat} (ha:a<k.length):IsKey k (fun x=>R l d (f x)) a (keyOf l (R l d) (f a)):=by
 have hk:=keyOf_isKey hgl (fun a ha=>R_bound l d ha) (f a) (r:=R l d)
 have hfc:=firstC_all (h.first a ha)
 have hu:isU (mdAt l (f a))=isU (mdAt k a):=by unfold isU;rw[hfc.1]
 refine ⟨fun hu1=>?_,fun hu1=>?_⟩
 ·obtain ⟨q1,q2⟩:=hk.un (by rw[hu];exact hu1)
  refine ⟨q1,fun v=>?_⟩
  rw[q2]
  constructor
  ·rintro ⟨j,hj,rfl⟩
   obtain ⟨c,hc,he⟩:=h.up a ha hu1 j hj
   exact ⟨c,hc,by rw[he d]⟩
  ·rintro ⟨c,hc,rfl⟩
   obtain ⟨j,hj,he⟩:=h.down a ha hu1 c hc
   exact ⟨j,hj,by rw[he d]⟩
 ·rw[hk.el (by rw[hu];exact hu1)]
  have hl:(mdAt l (f a)).elems.length=(mdAt k a).elems.length:=hfc.2.2.2.2.1 (by rw[hfc.1];simpa[isU] using hu1)
  refine List.ext_getElem? fun i=>?_
  rw[List.getElem?_map,List.getElem?_map]
  rcases Nat.lt_or_ge i (mdAt k a).elems.length with hi|hi
  ·have g1:=List.getElem?_eq_getElem hi
   have g2:=List.getElem?_eq_getElem (show i<(mdAt l (f a)).elems.length by omega)
   rw[g1,g2]
   simp only[Option.map_some,Option.some.injEq]
   rw[h.elem a ha hu1 i _ _ g2 g1 d]
  ·rw[List.getElem?_eq_none hi,List.getElem?_eq_none (by omega)]
   rfl
theorem Emb.R (h:Emb l f k) (hgl:goodT l) (hgk:goodT k): ∀d,SameOrd k.length (fun x=>R l d (f x)) (R k d)
 |0=>fun a b _ _=>Iff.rfl
 |d+1=>fun a b ha hb=>by
  have ih:=h.R hgl hgk d
  show Go.Proofs.YtlniliigcnedmaaGreatDoor.R l (d+1) (f a)<Go.Proofs.YtlniliigcnedmaaGreatDoor.R l (d+1) (f b)↔_
  rw[R_lt l d (h.lt a ha),R_lt k d ha]
  cases d with
  |zero=>
   have e1:cmpR l (Go.Proofs.YtlniliigcnedmaaGreatDoor.R l 0) 0 (f a) (f b)=firstC (mdAt l (f a)) (mdAt l (f b)):=by
    unfold cmpR thenC
    rw[if_neg (by simp[Go.Proofs.YtlniliigcnedmaaGreatDoor.R,cmpI])]
    exact if_pos rfl
   have e2:cmpR k (Go.Proofs.YtlniliigcnedmaaGreatDoor.R k 0) 0 a b=firstC (mdAt k a) (mdAt k b):=by
    unfold cmpR thenC
    rw[if_neg (by simp[Go.Proofs.YtlniliigcnedmaaGreatDoor.R,cmpI])]
    exact if_pos rfl
   rw[e1,e2]
   exact firstC_sign (h.first a ha) (h.first b hb)
  |succ d=>
   rw[←next_same hgk (by omega) ih ha hb (h.key hgl ha) (h.key hgl hb)]
   simp only[cmpR,thenC,if_neg (Nat.succ_ne_zero d)]
theorem RR_deep {l:List Md} (hg:goodT l) (e:Nat) {a:Nat} (ha:a<l.length):R l (l.length+1+e) a=RR l a:=R_stable hg (by omega) (RR_stable hg) e a ha
end
end Go.Proofs.YtlniliigcnedmaaGreatDoor
namespace Go.Proofs
open Go.Shelf
def Tryz.lays156_ren:Go.Shelf.Ren:=⟨fun|156=>68|165=>110|166=>88|169=>46|240=>120|241=>141|276=>166|277=>180|n=>n,fun|31=>37|9=>9|3=>3|4=>4|0=>0|20=>20|72=>69|76=>108|70=>66|37=>67|75=>107|127=>113|164=>167|5=>5|80=>73|n=>n,fun|n=>n⟩
theorem Tryz.lays156:Go.Proofs.Lays.n156 Tryz.prog Tryz.lays156_ren:={
 mixed:=by kernel_rfl
 f156:=Tryz.func68.trans (congrArg some (by kernel_rfl))
 f165:=Tryz.func110.trans (congrArg some (by kernel_rfl))
 f166:=Tryz.func88.trans (congrArg some (by kernel_rfl))
 f169:=Tryz.func46.trans (congrArg some (by kernel_rfl))
 f240:=Tryz.func120.trans (congrArg some (by kernel_rfl))
 f241:=Tryz.func141.trans (congrArg some (by kernel_rfl))
 f276:=Tryz.func166.trans (congrArg some (by kernel_rfl))
 f277:=Tryz.func180.trans (congrArg some (by kernel_rfl))
 t0:=Tryz.underlying0
 a0:=Tryz.isAgg0
 z0:=Tryz.sizeOf0
 v0:=Tryz.zeroValue0
 t3:=Tryz.underlying3
 a3:=Tryz.isAgg3
 z3:=Tryz.sizeOf3
 v3:=Tryz.zeroValue3
 t4:=Tryz.underlying4
 a4:=Tryz.isAgg4
 z4:=Tryz.sizeOf4
 v4:=Tryz.zeroValue4
 t9:=Tryz.underlying9
 a9:=Tryz.isAgg9
 z9:=Tryz.sizeOf9
 v9:=Tryz.zeroValue9
 t20:=Tryz.underlying20
 a20:=Tryz.isAgg20
 z20:=Tryz.sizeOf20
 v20:=Tryz.zeroValue20
 t31:=Tryz.underlying37
 a31:=Tryz.isAgg37
 z31:=Tryz.sizeOf37
 v31:=Tryz.zeroValue37
 t37:=Tryz.underlying67
 a37:=Tryz.isAgg67
 z37:=Tryz.sizeOf67
 v37:=Tryz.zeroValue67
 t70:=Tryz.underlying66
 a70:=Tryz.isAgg66
 z70:=Tryz.sizeOf66
 v70:=Tryz.zeroValue66
 t72:=Tryz.underlying69
 a72:=Tryz.isAgg69
 z72:=Tryz.sizeOf69
 v72:=Tryz.zeroValue69
 t75:=Tryz.underlying107
 a75:=Tryz.isAgg107
 z75:=Tryz.sizeOf107
 v75:=Tryz.zeroValue107
 t76:=Tryz.underlying108
 a76:=Tryz.isAgg108
 z76:=Tryz.sizeOf108
 v76:=Tryz.zeroValue108
 t127:=Tryz.underlying113
 a127:=Tryz.isAgg113
 z127:=Tryz.sizeOf113
 v127:=Tryz.zeroValue113
 t164:=Tryz.underlying167
 a164:=Tryz.isAgg167
 z164:=Tryz.sizeOf167
 v164:=Tryz.zeroValue167}
theorem Tryz.Builder_Extra_156:Builder.Extra Tryz.prog Tryz.lays156_ren:={
 sizeBuilder:=by kernel_rfl
 liesBuilder:=by kernel_rfl
 t5:=Tryz.underlying5
 a5:=Tryz.isAgg5
 z5:=Tryz.sizeOf5
 v5:=Tryz.zeroValue5
 infoByte:=by kernel_rfl
 cellsByte:=by kernel_rfl
 sizeByte:=by kernel_rfl
 neB5:=by decide}
open Go.RowKit in
theorem Tryz.strings_Join_none (a:Option Addr) (c:Nat) (sep:ByteArray) (w:World):
  Calls Tryz.prog 68 #[.slice a 0 c,.string sep] w fun e w'=>e= .returned (.string ⟨#[]⟩)∧w'=w:=Any.strings_Join_none Tryz.lays156 Tryz.Builder_Extra_156 a c sep w
open Go.RowKit in
theorem Tryz.strings_Join (bk o c:Nat) (xs:List ByteArray) (sep:ByteArray) (w:World) (hcells: ∀(j:Nat) x,xs[j]? =some x→w.cell? ⟨bk,o+j,none⟩=some (.string x)) (hbk:bk<w.heap.size) (hN:xs.length≤140737488355328) (hcap:xs.length≤c) (hlen:(Lib.join (xs.map (·.data.toList)) sep.data.toList).length≤140737488355328):
  Calls Tryz.prog 68 #[.slice (some ⟨bk,o,none⟩) xs.length c,.string sep] w fun e w'=>e= .returned (.string ⟨(Lib.join (xs.map (·.data.toList)) sep.data.toList).toArray⟩)∧Below w.heap.size w w':=Any.strings_Join Tryz.lays156 Tryz.Builder_Extra_156 bk o c xs sep w hcells hbk hN hcap hlen
def Tryz.lays190_ren:Go.Shelf.Ren:=⟨fun|190=>71|125=>115|258=>114|128=>154|129=>155|302=>145|303=>146|304=>147|305=>148|306=>149|307=>150|308=>151|309=>152|310=>153|333=>181|329=>182|330=>183|334=>184|335=>185|336=>186|344=>197|n=>n,fun|31=>37|9=>9|3=>3|46=>128|0=>0|51=>146|53=>149|4=>4|183=>154|182=>153|131=>57|5=>5|218=>179|222=>183|228=>193|229=>194|n=>n,fun|n=>n⟩
theorem Tryz.lays190:Go.Proofs.Lays.n190 Tryz.prog Tryz.lays190_ren:={
 mixed:=by kernel_rfl
 f125:=Tryz.func115.trans (congrArg some (by kernel_rfl))
 f128:=Tryz.func154.trans (congrArg some (by kernel_rfl))
 f129:=Tryz.func155.trans (congrArg some (by kernel_rfl))
 f190:=Tryz.func71.trans (congrArg some (by kernel_rfl))
 f258:=Tryz.func114.trans (congrArg some (by kernel_rfl))
 f302:=Tryz.func145.trans (congrArg some (by kernel_rfl))
 f303:=Tryz.func146.trans (congrArg some (by kernel_rfl))
 f304:=Tryz.func147.trans (congrArg some (by kernel_rfl))
 f305:=Tryz.func148.trans (congrArg some (by kernel_rfl))
 f306:=Tryz.func149.trans (congrArg some (by kernel_rfl))
 f307:=Tryz.func150.trans (congrArg some (by kernel_rfl))
 f308:=Tryz.func151.trans (congrArg some (by kernel_rfl))
 f309:=Tryz.func152.trans (congrArg some (by kernel_rfl))
 f310:=Tryz.func153.trans (congrArg some (by kernel_rfl))
 f329:=Tryz.func182.trans (congrArg some (by kernel_rfl))
 f330:=Tryz.func183.trans (congrArg some (by kernel_rfl))
 f333:=Tryz.func181.trans (congrArg some (by kernel_rfl))
 f334:=Tryz.func184.trans (congrArg some (by kernel_rfl))
 f335:=Tryz.func185.trans (congrArg some (by kernel_rfl))
 f336:=Tryz.func186.trans (congrArg some (by kernel_rfl))
 f344:=Tryz.func197.trans (congrArg some (by kernel_rfl))
 t0:=Tryz.underlying0
 a0:=Tryz.isAgg0
 z0:=Tryz.sizeOf0
 v0:=Tryz.zeroValue0
 t3:=Tryz.underlying3
 a3:=Tryz.isAgg3
 z3:=Tryz.sizeOf3
 v3:=Tryz.zeroValue3
 t4:=Tryz.underlying4
 a4:=Tryz.isAgg4
 z4:=Tryz.sizeOf4
 v4:=Tryz.zeroValue4
 t5:=Tryz.underlying5
 a5:=Tryz.isAgg5
 z5:=Tryz.sizeOf5
 v5:=Tryz.zeroValue5
 t9:=Tryz.underlying9
 a9:=Tryz.isAgg9
 z9:=Tryz.sizeOf9
 v9:=Tryz.zeroValue9
 t31:=Tryz.underlying37
 a31:=Tryz.isAgg37
 z31:=Tryz.sizeOf37
 v31:=Tryz.zeroValue37
 t46:=Tryz.underlying128
 a46:=Tryz.isAgg128
 z46:=Tryz.sizeOf128
 v46:=Tryz.zeroValue128
 t51:=Tryz.underlying146
 a51:=Tryz.isAgg146
 z51:=Tryz.sizeOf146
 v51:=Tryz.zeroValue146
 t53:=Tryz.underlying149
 a53:=Tryz.isAgg149
 z53:=Tryz.sizeOf149
 v53:=Tryz.zeroValue149
 t131:=Tryz.underlying57
 a131:=Tryz.isAgg57
 z131:=Tryz.sizeOf57
 v131:=Tryz.zeroValue57
 t182:=Tryz.underlying153
 a182:=Tryz.isAgg153
 z182:=Tryz.sizeOf153
 v182:=Tryz.zeroValue153
 t183:=Tryz.underlying154
 a183:=Tryz.isAgg154
 z183:=Tryz.sizeOf154
 v183:=Tryz.zeroValue154
 t218:=Tryz.underlying179
 a218:=Tryz.isAgg179
 z218:=Tryz.sizeOf179
 v218:=Tryz.zeroValue179
 t222:=Tryz.underlying183
 a222:=Tryz.isAgg183
 z222:=Tryz.sizeOf183
 v222:=Tryz.zeroValue183
 t228:=Tryz.underlying193
 a228:=Tryz.isAgg193
 z228:=Tryz.sizeOf193
 v228:=Tryz.zeroValue193
 t229:=Tryz.underlying194
 a229:=Tryz.isAgg194
 z229:=Tryz.sizeOf194
 v229:=Tryz.zeroValue194}
open Go.Sort Go.RowKit in
theorem Tryz.slices_Sort_string (blk off cap:Nat) (ss:List (List UInt8)) (w:World) (hH:Holds encStr w blk off ss.toArray) (hblk:blk<w.heap.size) (hsz:ss.length<4611686018427387904):
  Calls Tryz.prog 71 #[.slice (some ⟨blk,off,none⟩) ss.length cap] w fun e w'=>
   e= .returned (.tuple #[])∧ ∃n os,w'=grow (putRow encStr (Sort.ahead w n) blk off (ss.mergeSort fun x y=>decide (x≤y)).toArray) os:=Any.slices_Sort_string Tryz.lays190 blk off cap ss w hH hblk hsz
end Go.Proofs
namespace Go.Proofs.YtlniliigcnedmaaGreatDoor
open Go Ax Go.RowKit
set_option maxRecDepth 100000
abbrev strB (l:List UInt8):AVal:= .str ⟨l.toArray⟩
instance:Cell strB:=⟨fun _=>rfl,fun _=>rfl⟩
theorem str_eql (x y:List UInt8):binStr .eql ⟨x.toArray⟩ ⟨y.toArray⟩=some (.bool (decide (x=y))):=by
 simp only[binStr,ba_toList]
 rw[show (x==y)=decide (x=y) by rw[Bool.eq_iff_iff];simp]
theorem str_neq (x y:List UInt8):binStr .neq ⟨x.toArray⟩ ⟨y.toArray⟩=some (.bool (!decide (x=y))):=by
 simp only[binStr,ba_toList]
 rw[show (x==y)=decide (x=y) by rw[Bool.eq_iff_iff];simp]
theorem Ax.Sim.put {ρ:List RB} {m:AMem} {w w':World} (h:Sim ρ m w) {b:Nat} {cs cs':List AVal} {ty:TypeId} {gr:Option Nat} (hb:m[b]? =some (.own cs ty gr)) {a:RB} (ha:ρ[b]? =some a) {arr arr':Array Value} (h1:w.heap[a.block]? =some (.cells arr ty (0,0))) (h1':w'.heap[a.block]? =some (.cells arr' ty (0,0))) (hsz:arr'.size=arr.size) (hcl:cs'.length=cs.length)
  (hc: ∀(i:Nat) x,cs'[i]? =some x→ ∃v,arr'[a.off+i]? =some v∧VR ρ x v) (hs:w.heap.size≤w'.heap.size) (ho: ∀r,r<w.heap.size→r≠a.block→w'.heap[r]? =w.heap[r]?) (e1:w'.os=w.os) (e2:w'.tape=w.tape) (e3:w'.output=w.output):
  Sim ρ (m.set b (.own cs' ty gr)) w'∧Evol ρ m w ρ (m.set b (.own cs' ty gr)) w':=by
 obtain ⟨arr0,g1,h2,h3,h3',h4⟩:=h.ok b _ a hb ha
 rw[h1] at g1
 simp only[Option.some.injEq,Obj.cells.injEq,true_and,and_true] at g1
 subst g1
 have hbl:b<m.length:=(List.getElem?_eq_some_iff.1 hb).1
 have hget: ∀(b':Nat) blk,(m.set b (.own cs' ty gr))[b']? =some blk→(b'=b∧blk= .own cs' ty gr)∨(b'≠b∧m[b']? =some blk):=by
  intro b' blk hb'
  rw[List.getElem?_set] at hb'
  by_cases he:b=b'
  ·subst he
   rw[if_pos rfl,if_pos hbl,Option.some.injEq] at hb'
   exact .inl ⟨rfl,hb'.symm⟩
  ·rw[if_neg he] at hb'
   exact .inr ⟨fun e=>he e.symm,hb'⟩
 refine ⟨⟨by simp[h.len],?_,?_,fun b' a' ha'=>Nat.lt_of_lt_of_le (h.bound b' a' ha') hs⟩,⟨List.prefix_refl _,e1,e2,e3,hs,fun r hr hn=>ho r hr fun e=>hn ⟨b,_,a,hb,rfl,ha,e.symm⟩,?_⟩⟩
 ·intro b' blk a' hb' ha'
  rcases hget b' blk hb' with ⟨rfl,rfl⟩|⟨hne,hb'⟩
  ·rw[ha] at ha'
   simp only[Option.some.injEq] at ha'
   subst ha'
   exact ⟨arr',h1',by rw[hcl,hsz];exact h2,by rw[hcl,hsz];exact h3,by rw[hsz];exact h3',hc⟩
  ·cases hlv:blk.live with
   |false=>cases blk<;>simp_all[ABlk.live,BlkOK]
   |true=>
    have:=h.sep b b' _ blk a a' (Ne.symm hne) hb hb' ha ha' rfl hlv
    exact (h.ok b' blk a' hb' ha').heapA (ho _ (h.bound b' a' ha') (Ne.symm this))
 ·intro b1 b2 blk1 blk2 a1 a2 hne hb1 hb2 ha1 ha2 ho' hlv
  rcases hget b1 blk1 hb1 with ⟨rfl,rfl⟩|⟨hne1,hb1'⟩<;>rcases hget b2 blk2 hb2 with ⟨rfl,rfl⟩|⟨hne2,hb2'⟩
  ·exact absurd rfl hne
  ·exact h.sep b1 b2 _ blk2 a1 a2 hne hb hb2' ha1 ha2 rfl hlv
  ·exact h.sep b1 b2 blk1 _ a1 a2 hne hb1' hb ha1 ha2 ho' rfl
  ·exact h.sep b1 b2 blk1 blk2 a1 a2 hne hb1' hb2' ha1 ha2 ho' hlv
 ·rintro r ⟨b',blk,a',hb',ho',ha',rfl⟩
  rcases hget b' blk hb' with ⟨rfl,rfl⟩|⟨hne,hb'⟩
  ·exact .inr ⟨b',_,a',hb,rfl,ha',rfl⟩
  ·exact .inr ⟨b',blk,a',hb',ho',ha',rfl⟩
def srt (ss:List (List UInt8)):List (List UInt8):=ss.mergeSort fun x y=>decide (x≤y)
theorem k71 (s:AVal) (ss:List (List UInt8)) (lo:Nat) (ty:TypeId) (m:AMem) (h:OwL strB lo m ty s ss) (h0:ss≠ []) (hn:ss.length<2^60):
  ACalls Tryz.prog 71 [s] m fun v m'=>v= .tuple []∧Ch (fun b=>s.blk=some b) m m'∧OwL strB lo m' ty s (srt ss):=by
 have hlp:ss.length≠0:=fun e=>h0 (List.eq_nil_of_length_eq_zero e)
 rcases h with ⟨_,e,_⟩|⟨b,o,cap,gr,bl,gr',rfl,h1,h2,h3,h4,h5,h6,h7⟩
 ·omega
 refine ⟨⟨_,Tryz.func71,by kernel_rfl,by kernel_rfl⟩,fun ρ w args' hs _ hv=>?_⟩
 simp only[VRs,VR] at hv
 obtain ⟨_,_,e1,⟨A,a',c,rfl,hA,hc,hlc,_⟩,rfl⟩:=hv
 have hc:=hc (by omega)
 subst hc
 obtain rfl:args'= #[.slice (some ⟨A.block,A.off+o,none⟩) ss.length c]:=by rw[←Array.toList_inj];simpa using e1
 obtain ⟨arr,k1,k2,k3,k4,k5⟩:=hs.ok b _ A h2 hA
 have hlt:=hs.bound b A hA
 have hl3:=readN_length h3
 have hcell: ∀(j:Nat) x,ss[j]? =some x→arr[A.off+o+j]? =some (encStr x):=fun j x hx=>by
  have hj:=(List.getElem?_eq_some_iff.1 hx).1
  have:=readN_get h3 (i:=j) (by omega)
  rw[List.getElem?_map,hx] at this
  obtain ⟨v,q1,q2⟩:=k5 (o+j) _ this
  simp only[VR] at q2
  rw[←Nat.add_assoc] at q1
  rw[q1,q2]
 have hH:Sort.Holds encStr w A.block (A.off+o) ss.toArray:=fun j hj=>by
  have hj':j<ss.length:=by simpa using hj
  refine ⟨?_,by unfold World.frozen?;simp only[k1];simp⟩
  unfold World.cell?
  simp only[k1]
  rw[if_neg (by simp),hcell j ss[j] (List.getElem?_eq_getElem hj')]
  simp[hj']
 refine (Tryz.slices_Sort_string A.block (A.off+o) c ss w hH hlt (by omega)).mono fun e w' h=>?_
 obtain ⟨rfl,n,os,rfl⟩:=h
 have hperm:=List.mergeSort_perm ss (fun x y=>decide (x≤y))
 have hsl:(srt ss).length=ss.length:=hperm.length_eq
 have hput: ∀r:Nat,(Sort.grow (Sort.putRow encStr (Sort.ahead w n) A.block (A.off+o) (srt ss).toArray) os).heap[r]? =if r<w.heap.size then (if A.block=r then (w.heap[r]?).map (Sort.onCells (Sort.putCells encStr (A.off+o) (srt ss).toArray)) else w.heap[r]?) else os[r-w.heap.size]? :=fun r=>by
  show ((w.heap.modify A.block _)++os)[r]? =_
  rw[Array.getElem?_append,Array.size_modify,Array.getElem?_modify]
 obtain ⟨q1,q2⟩:=hs.put (w':=Sort.grow (Sort.putRow encStr (Sort.ahead w n) A.block (A.off+o) (srt ss).toArray) os) (cs':=setN bl o ((srt ss).map strB)) h2 hA (arr':=Sort.putCells encStr (A.off+o) (srt ss).toArray arr) k1 (by rw[hput,if_pos hlt,if_pos rfl,k1];rfl) (by simp[Sort.putCells]) (setN_length _ _ _) (fun i x hx=>by
   rw[setN_get _ _ _ _ (by simp only[List.length_map,hsl];omega)] at hx
   have hsz:A.off+i<arr.size:=by
    have:i<bl.length:=by
     by_cases hi:o≤i∧i<o+((srt ss).map strB).length
     ·rw[List.length_map,hsl] at hi;omega
     ·rw[if_neg hi] at hx;exact (List.getElem?_eq_some_iff.1 hx).1
    omega
   simp only[Sort.putCells,Array.getElem?_mapIdx,Array.getElem?_eq_getElem hsz,Option.map_some,List.size_toArray]
   by_cases hi:o≤i∧i<o+((srt ss).map strB).length
   ·rw[if_pos hi] at hx
    rw[List.length_map] at hi
    rw[if_pos (by omega)]
    refine ⟨_,rfl,?_⟩
    rw[List.getElem?_map,List.getElem?_eq_getElem (by omega)] at hx
    simp only[Option.map_some,Option.some.injEq] at hx
    subst hx
    have hlt':A.off+i-(A.off+o)<(srt ss).length:=by omega
    simp only[VR,encStr]
    have e:A.off+i-(A.off+o)=i-o:=by omega
    simp[e,show i-o<(srt ss).length by omega]
   ·rw[if_neg hi] at hx
    rw[List.length_map] at hi
    rw[if_neg (by omega)]
    obtain ⟨v,p1,p2⟩:=k5 i x hx
    rw[Array.getElem?_eq_getElem hsz] at p1
    exact ⟨v,p1,p2⟩) (by show w.heap.size≤((w.heap.modify A.block _)++os).size;simp) (fun r hr hne=>by rw[hput,if_pos hr,if_neg (Ne.symm hne)]) rfl rfl rfl
 refine ⟨.tuple #[],.tuple [],_,ρ,rfl,⟨rfl,Ch.setS (S:=fun c=>AVal.blk (.slice b o ss.length cap gr)=some c) _ rfl,?_⟩,by simp[VR,VRs],q1,q2⟩
 refine .inr ⟨b,o,cap,gr,_,gr',by rw[hsl],h1,List.getElem?_set_self (List.getElem?_eq_some_iff.1 h2).1,?_,by rw[hsl];exact h4,by rw[setN_length];exact h5,all_setN h6 (by simp),h7⟩
 unfold readN
 rw[setN_length,if_pos (by omega)]
 congr 1
 refine List.ext_getElem? fun q=>?_
 rw[List.getElem?_take]
 by_cases hq:q<ss.length
 ·rw[if_pos (by omega),List.getElem?_drop,setN_get _ _ _ _ (by simp only[List.length_map];omega),if_pos (by simp only[List.length_map];omega),Nat.add_sub_cancel_left]
 ·rw[if_neg (by omega),List.getElem?_eq_none (by simp only[List.length_map];omega)]
theorem repeatL_dot: ∀c:Nat,Lib.repeatL [46] c=List.replicate c 46
 |0=>rfl
 |c+1=>by rw[Lib.repeatL,repeatL_dot c];rfl
theorem k69d (c:Nat) (hc:c≤1000) (m:AMem):ACalls Tryz.prog 69 [.str ⟨#[46]⟩,.int .i64 c] m fun v m'=>v=strB (List.replicate c 46)∧m'=m:=by
 refine ACalls.of_below (v:= .string ⟨(List.replicate c 46).toArray⟩) ⟨_,Tryz.func69,by kernel_rfl,by kernel_rfl⟩ (by simp[VR]) fun w args' ρ hv=>?_
 simp only[VRs,VR] at hv
 obtain ⟨_,_,e1,rfl,_,_,rfl,rfl,rfl⟩:=hv
 obtain rfl:args'= #[.string ⟨#[46]⟩,.int .i64 c]:=by rw[←Array.toList_inj];simpa using e1
 have h:= Tryz.strings_Repeat ⟨#[46]⟩ c w (by omega) (by show 1*c≤_;omega)
 rw[show (⟨#[46]⟩:ByteArray).data.toList= [46] from rfl,repeatL_dot] at h
 exact h
theorem k68 (s:AVal) (ss:List (List UInt8)) (sep:UInt8) (m:AMem) (h:Sl m 1 s ss.length (ss.map strB)) (hn:ss.length≤2^40) (hl:(Lib.join ss [sep]).length≤2^46):
  ACalls Tryz.prog 68 [s,.str ⟨#[sep]⟩] m fun v m'=>v=strB (Lib.join ss [sep])∧m'=m:=by
 refine ⟨⟨_,Tryz.func68,by kernel_rfl,by kernel_rfl⟩,fun ρ w args' hs _ hv=>?_⟩
 simp only[VRs,VR] at hv
 obtain ⟨sv,_,e1,hsv,_,_,rfl,rfl,rfl⟩:=hv
 obtain rfl:args'= #[sv,.string ⟨#[sep]⟩]:=by rw[←Array.toList_inj];simpa using e1
 have hend: ∀{w':World} {e:Ending},e= .returned (.string ⟨(Lib.join ss [sep]).toArray⟩)∧Below w.heap.size w w'→ ∃v' v m' ρ',e= .returned v'∧(v=strB (Lib.join ss [sep])∧m'=m)∧VR ρ' v v'∧Sim ρ' m' w'∧Evol ρ m w ρ' m' w':=fun {w' e} ⟨he,hb⟩=>⟨_,_,m,ρ,he,⟨rfl,rfl⟩,by simp[VR],hs.below hb⟩
 rcases h with ⟨rfl,e,_⟩|⟨b,o,cap,gr,rfl,⟨hcap,_⟩,h2⟩
 ·simp only[VR] at hsv
  subst hsv
  obtain rfl:=List.eq_nil_of_length_eq_zero e
  exact (Tryz.strings_Join_none none 0 ⟨#[sep]⟩ w).mono fun e w' ⟨he,hw⟩=>hend ⟨he,hw▸Below.refl _ _⟩
 ·simp only[VR] at hsv
  obtain ⟨A,a',c,rfl,hA,hc,hlc,_,hcc,_⟩:=hsv
  rcases h2 with ⟨e,_⟩|⟨hne,bl,h3,h4⟩
  ·rw[e]
   obtain rfl:=List.eq_nil_of_length_eq_zero e
   exact (Tryz.strings_Join_none (some a') c ⟨#[sep]⟩ w).mono fun e w' ⟨he,hw⟩=>hend ⟨he,hw▸Below.refl _ _⟩
  ·have hc:=hc (by omega)
   subst hc
   have hlen:(ss.map fun l:List UInt8=>(⟨l.toArray⟩:ByteArray)).length=ss.length:=by simp
   have hmm:(ss.map fun l:List UInt8=>(⟨l.toArray⟩:ByteArray)).map (·.data.toList)=ss:=by rw[List.map_map];exact (List.map_congr_left fun _ _=>rfl).trans (List.map_id _)
   have hj:= Tryz.strings_Join A.block (A.off+o) c (ss.map fun l:List UInt8=>(⟨l.toArray⟩:ByteArray)) ⟨#[sep]⟩ w (fun j x hx=>by
    rw[List.getElem?_map] at hx
    obtain ⟨y,hy,rfl⟩:=Option.map_eq_some_iff.1 hx
    have hjl:=(List.getElem?_eq_some_iff.1 hy).1
    have:=readN_get h4 (i:=j) (by omega)
    rw[List.getElem?_map,hy] at this
    have hmb: ∃blk,m[b]? =some blk∧blk.cells=some bl:=by
     unfold readB at h3
     cases hmb:m[b]? with
     |none=>rw[hmb] at h3;simp at h3
     |some blk=>rw[hmb] at h3;exact ⟨blk,rfl,h3⟩
    obtain ⟨blk,g1,g2⟩:=hmb
    obtain ⟨v,p1,p2⟩:=hs.read g1 g2 hA this
    simp only[VR] at p2
    subst p2
    simpa[at_,Nat.add_assoc] using p1) (hs.bound b A hA) (by rw[hlen];omega) (by rw[hlen];omega) (by rw[hmm];show (Lib.join ss [sep]).length≤_;omega)
   rw[hlen,hmm] at hj
   exact hj.mono fun e w' h=>hend h
end Go.Proofs.YtlniliigcnedmaaGreatDoor
namespace Go.Proofs.YtlniliigcnedmaaGreatDoor
open Go Ax
set_option maxRecDepth 100000
def cpB (ys:List (List UInt8)):Nat→List (List UInt8)
 |0=> []
 |j+1=>if j≠0∧ys[j]? =ys[j-1]? then cpB ys j else cpB ys j++ [ys.getD j []]
set_option maxHeartbeats 4000000 in
theorem k72 (t:AVal) (ty:TypeId) (lo:Nat) (m0:AMem) (hlo:m0.length≤lo) (ys:List (List UInt8)) (hn:ys.length<2^62) (m:AMem) (hm:m0<+:m) (hX:OwL strB lo m ty t ys):
  ACalls Tryz.prog 72 [t] m fun v m'=>m0<+:m'∧Ch (fun b=>t.blk=some b) m m'∧OwL strB lo m' ty v (cpB ys ys.length)∧v.blk=t.blk:=by
 refine w72 ?_
 simp[hX.len]
 refine bbind_dec (fun h2=>?_) fun h2=>?_
 ·have hcp:cpB ys ys.length=ys:=by
   match ys,h2 with
   | [],_=>rfl
   | [a],_=>simp[cpB]
   |a::b::r,h2=>simp at h2;omega
  simp[hm,hcp,hX]
  exact .refl _ _
 simp
 obtain ⟨I,hI⟩: ∃I:Nat→AFrame→AMem→Prop,∀q a m',I q a m'↔(∃(k:Nat),k+q=ys.length∧1≤k∧a=h72_0 t (.int .i64 k)∧m<+:m'∧cpB ys k=ys.take k):=⟨_,fun _ _ _=>Iff.rfl⟩
 have h1:cpB ys 1=ys.take 1:=by
  match ys,h2 with
  | [],h2=>simp at h2
  |a::r,_=>simp[cpB]
 refine W_loop I (ys.length-1) ((hI _ _ _).2 ⟨1,by omega,by omega,rfl,List.prefix_refl _,h1⟩) ?_
 rintro q a m1 hIn
 obtain ⟨k,hk,hk1,rfl,hm1,hcp⟩:=(hI _ _ _).1 hIn
 clear hIn
 replace hX:=hX.mono hm1
 have hch:Ch (fun b=>t.blk=some b) m m1:= .of_prefix hm1
 replace hm:=hm.trans hm1
 simp[hX.len]
 refine bbind_dec (fun hkl=>?_) fun hkl=>?_
 ·have hw:=step64 hkl hn
  obtain ⟨q,rfl⟩: ∃q',q=q'+1:=⟨q-1,by omega⟩
  have hp:=pred64 (n:=k) (by omega) (by omega)
  obtain ⟨b1,o1,_,hp1,hl1,_⟩:=hX.at hkl
  obtain ⟨b0,o0,_,hp0,hl0,_⟩:=hX.at (i:=k-1) (by omega)
  simp
  refine W_drawPR (by simp[maxDst]) rfl rfl ?_
  simp[hp1,hl1,hp,hp0,hl0,str_eql]
  intro m2 hm2
  replace hX:=hX.mono hm2
  have hch2:=hch.trans (.of_prefix hm2)
  replace hm:=hm.trans hm2
  by_cases heq:ys[k]=ys[k-1]
  rotate_left
  ·have hcp':cpB ys (k+1)=ys.take (k+1):=by
    rw[cpB,if_neg,hcp]
    ·rw[List.take_add_one,List.getElem?_eq_getElem hkl];simp[List.getD,hkl]
    ·rintro ⟨_,h⟩
     rw[List.getElem?_eq_getElem hkl,List.getElem?_eq_getElem (by omega)] at h
     exact heq (by simpa using h)
   simp[heq,hw]
   exact ⟨q,by omega,(hI _ _ _).2 ⟨k+1,by omega,by omega,by simp,hm1.trans hm2,hcp'⟩⟩
  simp[heq]
  clear hp1 hl1 hp0 hl0
  obtain ⟨s2,hs2,_,_⟩:=hX.drop (i:=k) (by omega)
  have hs2': ∀(j:Nat),j<ys.length-k→ ∀kd,iaddrE 1 s2 (.int kd j)=iaddrE 1 t (.int kd (k+j:Nat)):=by
   intro j hj kd
   rcases hX with ⟨_,h1,_⟩|⟨b,o,cap,gr,bl,gr',rfl,_⟩
   ·omega
   ·have:=hs2 .i64
    simp only[sliceE,bdE,evSlice] at this
    simp at this
    obtain ⟨_,rfl⟩:=this
    have h3:((j:Int)<((ys.length-k:Nat):Int)):=by omega
    have h4:(((k+j:Nat):Int)<(ys.length:Int)):=by omega
    simp only[iaddrE]
    rw[if_pos ⟨by omega,by exact_mod_cast h3⟩,if_pos ⟨by omega,by exact_mod_cast h4⟩]
    simp
    omega
  have hs2l:lenE s2=some (.int .i64 (ys.length-k:Nat)):=by
   rcases hX with ⟨_,h1,_⟩|⟨b,o,cap,gr,bl,gr',rfl,_⟩
   ·omega
   ·have:=hs2 .i64
    simp only[sliceE,bdE,evSlice] at this
    simp at this
    obtain ⟨_,rfl⟩:=this
    rfl
  simp[hs2]
  obtain ⟨J,hJ⟩: ∃I:Nat→AFrame→AMem→Prop,∀q a m',I q a m'↔(∃(z p:Nat) (zs:List (List UInt8)),1≤p∧p+q=ys.length-k∧a=h72_1 t (.int .i64 z) s2 (.int .i64 p)∧m0<+:m'∧Ch (fun b=>t.blk=some b) m m'∧OwL strB lo m' ty t zs∧zs.length=ys.length∧z+1≤k+p∧(∀j,z≤j→zs[j]? =ys[j]?)∧zs.take z=cpB ys (k+p)):=⟨_,fun _ _ _=>Iff.rfl⟩
  have hcp1:ys.take k=cpB ys (k+1):=by
   rw[cpB,if_pos,hcp]
   refine ⟨by omega,?_⟩
   rw[List.getElem?_eq_getElem hkl,List.getElem?_eq_getElem (by omega),heq]
  refine W_loop J (ys.length-k-1) ((hJ _ _ _).2 ⟨k,1,ys,by omega,by omega,rfl,hm,hch2,hX,rfl,by omega,fun _ _=>rfl,hcp1⟩) ?_
  clear hX hm hch hch2 hm2
  rintro q2 a m3 hIn
  obtain ⟨z,p,zs,hp1,hpq,rfl,hm,hch,hZ,hzl,hzk,hze,hzt⟩:=(hJ _ _ _).1 hIn
  clear hIn
  simp[hs2l]
  refine bbind_dec (fun hpl=>?_) fun hpl=>?_
  ·have hpl:p<ys.length-k:=by omega
   have hwp:=step64 hpl (by omega)
   obtain ⟨q2,rfl⟩: ∃q',q2=q'+1:=⟨q2-1,by omega⟩
   have hpp:=pred64 (n:=p) (by omega) (by omega)
   obtain ⟨b1,o1,_,hp1',hl1,_⟩:=hZ.at (i:=k+p) (by omega)
   obtain ⟨b0,o0,_,hp0,hl0,_⟩:=hZ.at (i:=k+p-1) (by omega)
   have e1:=hs2' p hpl .i64
   have e0:=hs2' (p-1) (by omega) .i64
   rw[hp1' .i64] at e1
   rw[show k+(p-1)=k+p-1 by omega,hp0 .i64] at e0
   have v1:zs[k+p]'(by omega)=ys[k+p]'(by omega):=by
    have:=hze (k+p) (by omega)
    rw[List.getElem?_eq_getElem (by omega),List.getElem?_eq_getElem (by omega)] at this
    simpa using this
   have v0:zs[k+p-1]'(by omega)=ys[k+p-1]'(by omega):=by
    have:=hze (k+p-1) (by omega)
    rw[List.getElem?_eq_getElem (by omega),List.getElem?_eq_getElem (by omega)] at this
    simpa using this
   rw[v1] at hl1
   rw[v0] at hl0
   simp
   refine W_drawPR (by simp[maxDst]) rfl rfl ?_
   simp[e1,hl1,hpp,e0,hl0,str_neq]
   intro m4 hm4
   have hZ4:=hZ.mono hm4
   by_cases hne:ys[k+p]'(by omega)=ys[k+p-1]'(by omega)
   ·have hcp':cpB ys (k+p+1)=cpB ys (k+p):=by
     rw[cpB,if_pos]
     refine ⟨by omega,?_⟩
     rw[List.getElem?_eq_getElem (by omega),List.getElem?_eq_getElem (by omega),hne]
    simp[hne,hwp]
    exact ⟨q2,by omega,(hJ _ _ _).2 ⟨z,p+1,zs,by omega,by omega,by simp,hm.trans hm4,hch.trans (.of_prefix hm4),hZ4,hzl,by omega,hze,by rw[hzt,←hcp'];rfl⟩⟩
   ·have hcp':cpB ys (k+p+1)=cpB ys (k+p)++ [ys[k+p]'(by omega)]:=by
     rw[cpB,if_neg]
     ·simp[List.getD,show k+p<ys.length by omega]
     ·rintro ⟨_,h⟩
      rw[List.getElem?_eq_getElem (by omega),List.getElem?_eq_getElem (by omega)] at h
      exact hne (by simpa using h)
    have hwz:=step64 (k:=z) (n:=ys.length) (by omega) hn
    obtain ⟨bz,oz,hbz,hpz,_,hstz⟩:=hZ4.at (i:=z) (by omega)
    obtain ⟨m5,hst,hch5,hZ5⟩:=hstz (ys[k+p]'(by omega))
    simp[hne,e1,loadE_mono hm4 hl1,hpz,hst,hwz,hwp]
    refine ⟨q2,by omega,(hJ _ _ _).2 ⟨z+1,p+1,zs.set z (ys[k+p]'(by omega)),by omega,by omega,by simp,hch5.pre (hm.trans hm4) fun b hb=>?_,(hch.trans (.of_prefix hm4)).trans (hch5.weaken fun b _ hb=>by rw[hb];exact hbz),hZ5,by simpa using hzl,by omega,fun j hj=>?_,?_⟩⟩
    ·have:=(hZ4.blk_lo hbz).1;omega
    ·rw[List.getElem?_set_ne (by omega)];exact hze j (by omega)
    ·rw[show k+(p+1)=k+p+1 by omega,hcp',←hzt,List.take_add_one,List.getElem?_set_self (by omega)]
     simp[List.take_set]
     exact List.set_eq_of_length_le (by simp;omega)
  ·have hpe:k+p=ys.length:=by omega
   obtain ⟨s3,m4,hs3,hcl,hch4,hZ4⟩:=hZ.clear (i:=z) (by omega) []
   obtain ⟨s4,hs4,hZ5,hbl⟩:=hZ4.take (i:=z) (by simp;omega)
   simp[hs3,hcl,hs4]
   rw[List.take_append_of_le_length (by simp;omega),List.take_take,Nat.min_self,hzt,hpe] at hZ5
   exact ⟨hch4.pre hm fun b hb hbb=>by have:=(hZ.blk_lo hbb).1;omega,hch.trans hch4,hZ5,hbl⟩
 ·have hkl:k=ys.length:=by omega
  subst hkl
  rw[List.take_length] at hcp
  simp[hm,hcp,hX]
  exact hch
end Go.Proofs.YtlniliigcnedmaaGreatDoor
namespace Go.Proofs.YtlniliigcnedmaaGreatDoor
open Go Ax
open Relation
set_option maxRecDepth 100000
def hd3 (x:Md):List UInt8:= [(97+x.kind).toNat.toUInt8,(51+x.size).toNat.toUInt8,(48+x.dims).toNat.toUInt8]
def nmsL (x:Md):List (List UInt8):=x.names.map fun n=>n.data.toList
def uHead (x:Md):List UInt8:=((hd3 x++if x.flex=true then [33] else [])++Lib.join (nmsL x) [47])++if x.kind=12 then [] else List.replicate x.elems.length 46
def lvs (l:List Md):Nat→Nat→List Nat
 |0,_=> []
 |f+1,m=>(eN (mdAt l m)).flatMap fun e=>if isU (mdAt l e)=true then lvs l f e else [e]
def csB (ss:List (List UInt8)):List (List UInt8):=cpB (srt ss) (srt ss).length
def partsB (l:List Md) (F:Nat) (g:Nat→List UInt8) (m:Nat):List (List UInt8):=if isU (mdAt l m)=true then csB ((lvs l F m).map g) else (eN (mdAt l m)).map g
def unf (l:List Md) (F:Nat):Nat→Nat→List UInt8
 |0,m=>uHead (mdAt l m)
 |d+1,m=>((uHead (mdAt l m)++ [40])++Lib.join (partsB l F (unf l F d) m) [44])++ [41]
def dep (l:List Md):Nat→Nat→Prop
 |0,_=>False
 |f+1,m=> ∀e∈eN (mdAt l m),isU (mdAt l e)=true→dep l f e
theorem cpB_sorted {ys:List (List UInt8)} (hs:ys.Pairwise (· ≤ ·)): ∀j,j≤ys.length→(cpB ys j).Pairwise (fun a b=>a≤b∧a≠b)∧ ∀v,v∈cpB ys j↔v∈ys.take j
 |0,_=>by simp[cpB]
 |j+1,hj=>by
  obtain ⟨h1,h2⟩:=cpB_sorted hs j (by omega)
  have hjl:j<ys.length:=hj
  have htk:ys.take (j+1)=ys.take j++ [ys[j]]:=by rw[List.take_add_one,List.getElem?_eq_getElem hjl];rfl
  have hle: ∀i k (hi:i<k) (hk:k<ys.length),ys[i]'(by omega)≤ys[k]:=fun i k hi hk=>List.pairwise_iff_getElem.1 hs i k (by omega) hk hi
  rw[cpB]
  split
  ·rename_i hc
   refine ⟨h1,fun v=>?_⟩
   rw[h2,htk,List.mem_append,List.mem_singleton]
   constructor
   ·exact .inl
   ·rintro (h|rfl)
    ·exact h
    ·obtain ⟨h0,he⟩:=hc
     rw[List.getElem?_eq_getElem hjl,List.getElem?_eq_getElem (by omega)] at he
     rw[Option.some.inj he]
     exact List.mem_take_iff_getElem.2 ⟨j-1,by omega,rfl⟩
  ·rename_i hc
   have hd:ys.getD j []=ys[j]:=by simp[List.getD,hjl]
   rw[hd]
   refine ⟨List.pairwise_append.2 ⟨h1,by simp,fun a ha b hb=>?_⟩,fun v=>by rw[htk,List.mem_append,List.mem_append,h2]⟩
   rw[List.mem_singleton] at hb
   subst hb
   obtain ⟨i,hi,rfl⟩:=List.mem_take_iff_getElem.1 ((h2 a).1 ha)
   have hij:i<j:=by omega
   refine ⟨hle i j hij hjl,fun e=>hc ⟨by omega,?_⟩⟩
   rw[List.getElem?_eq_getElem hjl,List.getElem?_eq_getElem (by omega)]
   congr 1
   rcases Nat.lt_or_ge i (j-1) with h|h
   ·have q1:=hle i (j-1) h (by omega)
    have q2:=hle (j-1) j (by omega) hjl
    rw[e] at q1
    exact List.le_antisymm q1 q2
   ·have:i=j-1:=by omega
    subst this
    exact e.symm
theorem srt_sorted (ss:List (List UInt8)):(srt ss).Pairwise (· ≤ ·):=by
 have:=List.pairwise_mergeSort (le:=fun x y:List UInt8=>decide (x≤y)) (fun a b c h1 h2=>by simp only[decide_eq_true_eq] at*;exact List.le_trans h1 h2) (fun a b=>by simp only[Bool.or_eq_true,decide_eq_true_eq];exact List.le_total a b) ss
 exact this.imp fun h=>by simpa using h
theorem csB_mem (ss:List (List UInt8)) (v:List UInt8):v∈csB ss↔v∈ss:=by
 unfold csB
 rw[(cpB_sorted (srt_sorted ss) _ (Nat.le_refl _)).2 v,List.take_length]
 exact (List.mergeSort_perm ss _).mem_iff
theorem csB_pw (ss:List (List UInt8)):(csB ss).Pairwise (fun a b=>a≤b∧a≠b):=(cpB_sorted (srt_sorted ss) _ (Nat.le_refl _)).1
theorem csB_nodup (ss:List (List UInt8)):(csB ss).Nodup:=(csB_pw ss).imp fun h=>h.2
theorem csB_eq {ss tt:List (List UInt8)}:csB ss=csB tt↔ ∀v,v∈ss↔v∈tt:=by
 constructor
 ·intro h v
  rw[←csB_mem ss,←csB_mem tt,h]
 ·intro h
  refine List.Perm.eq_of_pairwise (le:=(· ≤ ·)) (fun a b _ _ h1 h2=>List.le_antisymm h1 h2) ((csB_pw ss).imp fun h=>h.1) ((csB_pw tt).imp fun h=>h.1) ?_
  refine (List.perm_ext_iff_of_nodup (csB_nodup ss) (csB_nodup tt)).2 fun v=>?_
  rw[csB_mem,csB_mem,h]
theorem csB_few {n:Nat} {g:Nat→List UInt8} {zs:List Nat} (hz: ∀z∈zs,z<n):(csB (zs.map g)).length≤n:=by
 have hx: ∀y∈csB (zs.map g),∃z,z<n∧g z=y:=fun y hy=>by
  obtain ⟨z,hz',rfl⟩:=List.mem_map.1 ((csB_mem _ _).1 hy)
  exact ⟨z,hz z hz',rfl⟩
 have key: ∀ys:List (List UInt8),ys.Nodup→(∀y∈ys,∃z,z<n∧g z=y)→ ∃ws:List Nat,ws.map g=ys∧(∀w∈ws,w<n):=fun ys=>by
  induction ys with
  |nil=>exact fun _ _=>⟨[],rfl,by simp⟩
  |cons y ys ih=>
   intro hn hy
   obtain ⟨ws,h1,h2⟩:=ih (List.nodup_cons.1 hn).2 fun y h=>hy y (List.mem_cons_of_mem _ h)
   obtain ⟨z,h3,h4⟩:=hy y List.mem_cons_self
   exact ⟨z::ws,by simp[h1,h4],fun w hw=>by rcases List.mem_cons.1 hw with rfl|hw;exact h3;exact h2 w hw⟩
 obtain ⟨ws,h1,h2⟩:=key _ (csB_nodup _) hx
 have hn0:(ws.map g).Nodup:=by rw[h1];exact csB_nodup _
 have hn:ws.Nodup:=(List.pairwise_map.1 hn0).imp fun h e=>h (by rw[e])
 have:=nodup_le n ws hn h2
 rw[←h1,List.length_map]
 exact this
section
variable {l:List Md} (hc:checkI l=0)
include hc
theorem dep_chain: ∀(f m:Nat),m<l.length→isU (mdAt l m)=true→ ¬dep l f m→ ∃xs:List Nat,xs.length=f∧(m::xs).Pairwise (fun a b=>TransGen (stepR l isU) a b)∧ ∀x∈xs,x<l.length
 |0,m,_,_,_=>⟨[],rfl,by simp,by simp⟩
 |f+1,m,hm,hu,h=>by
  have hg:=(okT_of hc).good
  simp only[dep,Classical.not_forall] at h
  obtain ⟨e,he,hue,hd⟩:=h
  obtain ⟨z,hz,rfl⟩:=List.mem_map.1 he
  have hzb:=hg _ (mdAt_mem hm) z hz
  have hel:z.toNat<l.length:=by omega
  obtain ⟨xs,h1,h2,h3⟩:=dep_chain f z.toNat hel hue hd
  have hst:TransGen (stepR l isU) m z.toNat:= .single ⟨mdAt l m,by rw[mdAt_eq hm];exact List.getElem?_eq_getElem hm,hu,by rw[show ((z.toNat:Nat):Int)=z by omega];exact hz⟩
  refine ⟨z.toNat::xs,by simp[h1],List.pairwise_cons.2 ⟨fun b hb=>?_,h2⟩,fun x hx=>?_⟩
  ·rcases List.mem_cons.1 hb with rfl|hb
   ·exact hst
   ·exact hst.trans ((List.pairwise_cons.1 h2).1 b hb)
  ·rcases List.mem_cons.1 hx with rfl|hx
   ·exact hel
   ·exact h3 x hx
theorem dep_all {m:Nat} (hm:m<l.length) (hu:isU (mdAt l m)=true):dep l l.length m:=by
 refine Classical.byContradiction fun h=>?_
 obtain ⟨xs,h1,h2,h3⟩:=dep_chain hc l.length m hm hu h
 have ok:=checkOk_iff.1 hc
 have hno: ∀a,¬TransGen (stepR l isU) a a:=fun a ha=>by
  have hal:a<l.length:=by
   cases ha with
   |single h'=>exact (step_lt (okT_of hc).good h').1
   |tail _ h'=>exact (step_lt (okT_of hc).good h').2
  exact ok.bad a hal (.inl (TransGen.mono' (fun a b ⟨m,q1,q2,q3⟩=>⟨m,q1,by have e:m.kind=12:=(by simpa[isU] using q2);simp[yinB,e],q3⟩) ha))
 have hn:(m::xs).Nodup:=h2.imp fun {a b} hab e=>by subst e;exact hno a hab
 have:=nodup_le l.length (m::xs) hn fun x hx=>by rcases List.mem_cons.1 hx with rfl|hx;exact hm;exact h3 x hx
 simp at this
 omega
end
theorem lvs_len {l:List Md} (h2: ∀x∈l,x.elems.length≤2) (hg:goodT l): ∀(f m:Nat),m<l.length→(lvs l f m).length≤2^f
 |0,m,_=>by simp[lvs]
 |f+1,m,hm=>by
  rw[lvs]
  have key: ∀zs:List Nat,(∀z∈zs,z<l.length)→(zs.flatMap fun e=>if isU (mdAt l e)=true then lvs l f e else [e]).length≤zs.length*2^f:=fun zs=>by
   induction zs with
   |nil=>simp
   |cons z zs ih=>
    intro hz
    rw[List.flatMap_cons,List.length_append,List.length_cons,Nat.succ_mul]
    have h1:=ih fun z h=>hz z (List.mem_cons_of_mem _ h)
    have h3:(if isU (mdAt l z)=true then lvs l f z else [z]).length≤2^f:=by
     split
     ·exact lvs_len h2 hg f z (hz z List.mem_cons_self)
     ·simpa using Nat.one_le_two_pow
    omega
  have h4:=key (eN (mdAt l m)) fun z hz=>eN_lt hg hm hz
  have h5:=h2 _ (mdAt_mem hm)
  rw[eN_len] at h4
  have:(mdAt l m).elems.length*2^f≤2*2^f:=Nat.mul_le_mul_right _ h5
  rw[Nat.pow_succ]
  omega
theorem lvs_lt {l:List Md} (hg:goodT l): ∀(f m:Nat),m<l.length→ ∀z∈lvs l f m,z<l.length
 |0,m,_,z,hz=>by simp[lvs] at hz
 |f+1,m,hm,z,hz=>by
  rw[lvs,List.mem_flatMap] at hz
  obtain ⟨e,he,hz⟩:=hz
  have hel:=eN_lt hg hm he
  split at hz
  ·exact lvs_lt hg f e hel z hz
  ·rw[List.mem_singleton] at hz;subst hz;exact hel
theorem join_len {s:UInt8} {B:Nat}: ∀{xs:List (List UInt8)},(∀x∈xs,x.length≤B)→(Lib.join xs [s]).length≤xs.length*(B+1)
 | [],_=>by simp[Lib.join_nil]
 |x::r,h=>by
  rw[Lib.join_cons,List.length_append,List.length_cons,Nat.succ_mul]
  have h1:=h x List.mem_cons_self
  have h2: ∀ys:List (List UInt8),(∀y∈ys,y.length≤B)→(Lib.joinTail [s] ys).length≤ys.length*(B+1):=fun ys=>by
   induction ys with
   |nil=>simp[Lib.joinTail]
   |cons y ys ih=>
    intro hy
    have h3:=ih fun y h=>hy y (List.mem_cons_of_mem _ h)
    have h4:=hy y List.mem_cons_self
    simp only[Lib.joinTail,List.map_cons,List.flatten_cons,List.length_append,List.length_cons,List.length_nil,Nat.succ_mul] at h3 ⊢
    omega
  have:=h2 r fun y hy=>h y (List.mem_cons_of_mem _ hy)
  omega
theorem uHead_len {x:Md} (h2:x.elems.length≤2) (hn:x.names.length≤2) (hw: ∀s∈x.names,s.size≤40):(uHead x).length≤88:=by
 have hj:(Lib.join (nmsL x) [47]).length≤(nmsL x).length*41:=join_len fun y hy=>by
  obtain ⟨s,hs,rfl⟩:=List.mem_map.1 hy
  have:=hw s hs
  rw[Array.length_toList]
  exact this
 have:(nmsL x).length=x.names.length:=by simp[nmsL]
 simp only[uHead,hd3,List.length_append,List.length_cons,List.length_nil]
 have h1:(if x.flex=true then [(33:UInt8)] else []).length≤1:=by split<;>simp
 have h3:(if x.kind=12 then [] else List.replicate x.elems.length (46:UInt8)).length≤2:=by split<;>simp[h2]
 omega
theorem parts_few {l:List Md} (hg:goodT l) (h2: ∀x∈l,x.elems.length≤2) (h6:l.length≤6) (F:Nat) (g:Nat→List UInt8) {m:Nat} (hm:m<l.length):(partsB l F g m).length≤6∧ ∀y∈partsB l F g m,∃z,z<l.length∧y=g z:=by
 unfold partsB
 split
 ·refine ⟨Nat.le_trans (csB_few (lvs_lt hg F m hm)) h6,fun y hy=>?_⟩
  obtain ⟨z,hz,rfl⟩:=List.mem_map.1 ((csB_mem _ _).1 hy)
  exact ⟨z,lvs_lt hg F m hm z hz,rfl⟩
 ·refine ⟨by rw[List.length_map,eN_len];have:=h2 _ (mdAt_mem hm);omega,fun y hy=>?_⟩
  obtain ⟨z,hz,rfl⟩:=List.mem_map.1 hy
  exact ⟨z,eN_lt hg hm hz,rfl⟩
theorem unf_len {l:List Md} (hg:goodT l) (h2: ∀x∈l,x.elems.length≤2) (hn: ∀x∈l,x.names.length≤2) (hw: ∀x∈l,∀s∈x.names,s.size≤40) (h6:l.length≤6) (F:Nat): ∀(d m:Nat),m<l.length→(unf l F d m).length≤108*7^d
 |0,m,hm=>by
  have:=uHead_len (h2 _ (mdAt_mem hm)) (hn _ (mdAt_mem hm)) (hw _ (mdAt_mem hm))
  rw[unf]
  omega
 |d+1,m,hm=>by
  have h1:=uHead_len (h2 _ (mdAt_mem hm)) (hn _ (mdAt_mem hm)) (hw _ (mdAt_mem hm))
  obtain ⟨p1,p2⟩:=parts_few hg h2 h6 F (unf l F d) hm
  have hj:(Lib.join (partsB l F (unf l F d) m) [44]).length≤(partsB l F (unf l F d) m).length*(108*7^d+1):=join_len fun y hy=>by
   obtain ⟨z,hz,rfl⟩:=p2 y hy
   exact unf_len hg h2 hn hw h6 F d z hz
  have hj2:(partsB l F (unf l F d) m).length*(108*7^d+1)≤6*(108*7^d+1):=Nat.mul_le_mul_right _ p1
  rw[unf,Nat.pow_succ]
  simp only[List.length_append,List.length_cons,List.length_nil]
  have:1≤7^d:=Nat.one_le_pow _ _ (by omega)
  omega
end Go.Proofs.YtlniliigcnedmaaGreatDoor
namespace Go.Proofs.YtlniliigcnedmaaGreatDoor
open Go Ax
set_option maxRecDepth 100000
structure Ud (l:List Md):Prop where
 hc:checkI l=0
 h6:l.length≤6
 h2: ∀x∈l,x.elems.length≤2
 hn: ∀x∈l,x.names.length≤2
theorem Ud.shape {l:List Md} (h:Ud l) {x:Md} (hx:x∈l):(0≤x.kind∧x.kind<14)∧shaped x∧ ∀s∈x.names,wordB 97 122 s=true:=by
 obtain ⟨s1,_,s3,_⟩:=oneI_zero ((checkOk_iff.1 h.hc).one x hx)
 unfold shapeI at s1
 split at s1
 ·simp at s1
 ·rename_i h1
  split at s1
  ·rename_i h2
   exact ⟨by omega,h2,s3⟩
  ·simp at s1
theorem word_size {s:ByteArray} (h:wordB 97 122 s=true):1≤s.size∧s.size≤40:=by
 unfold wordB at h
 simp only[Bool.and_eq_true,decide_eq_true_eq] at h
 exact h.2
theorem Ud.wsz {l:List Md} (h:Ud l): ∀x∈l,∀s∈x.names,s.size≤40:=fun x hx s hs=>(word_size ((h.shape hx).2.2 s hs)).2
theorem Ud.dims {l:List Md} (h:Ud l) {x:Md} (hx:x∈l):(0≤x.dims∧x.dims≤3)∧ -1≤x.size∧x.size≤1:=by
 obtain ⟨_,⟨_,_,_,h1,h2,_⟩,_⟩:=h.shape hx
 unfold dimsOk at h1
 unfold sizeOk at h2
 constructor
 ·split at h1<;>omega
 ·split at h2<;>omega
def UnfC (l:List Md) (s:AVal) (m0:AMem) (d:Nat):Prop:= ∀(a:Nat),a<l.length→ ∀m,m0<+:m→ACalls Tryz.prog 35 [s,.int .i64 a,.int .i64 d] m fun v m'=>v=strB (unf l l.length d a)∧m<+:m'
set_option maxHeartbeats 4000000 in
theorem k70 {l:List Md} (hU:Ud l) (s:AVal) (m0:AMem) (hs:RTab m0 s l) (d:Nat) (hD:UnfC l s m0 d): ∀(f a:Nat),a<l.length→dep l f a→f≤l.length→ ∀m,m0<+:m→
  ACalls Tryz.prog 70 [s,.int .i64 a,.int .i64 d] m fun v m'=>m<+:m'∧OwL strB m.length m' 9 v ((lvs l f a).map (unf l l.length d))
 |0,_,_,h,_,_,_=>by simp[dep] at h
 |f+1,a,ha,hdep,hfl,m,hm=>by
  have hg:=(okT_of hU.hc).good
  refine w70 ?_
  obtain ⟨bx',ox,c,g4,_,_,g5,g6⟩:=(hs.mono hm).atC ha
  have g2:=g5 2 (by omega)
  have h2e:=hU.h2 _ (List.getElem_mem ha)
  have hge:=hg _ (List.getElem_mem ha)
  have hma:=mdAt_eq ha
  have hlv:lvs l (f+1) a=(eN l[a]).flatMap fun e=>if isU (mdAt l e)=true then lvs l f e else [e]:=by rw[lvs,hma]
  have hdp: ∀e∈eN l[a],isU (mdAt l e)=true→dep l f e:=by rw[←hma];exact hdep
  generalize l[a]=x at*
  obtain ⟨e,nm,rfl,he,hnm⟩:=g6
  simp at g2
  simp[g4,g2,he.len]
  rw[hlv]
  obtain ⟨G,hG⟩: ∃G:Nat→List Nat,∀e,G e=if isU (mdAt l e)=true then lvs l f e else [e]:=⟨_,fun _=>rfl⟩
  have hGf:(fun e=>if isU (mdAt l e)=true then lvs l f e else [e])=G:=funext fun e=>(hG e).symm
  rw[hGf]
  have hGl: ∀z,z<l.length→(G z).length≤64:=fun z hz=>by
   rw[hG]
   split
   ·have h1:=lvs_len hU.h2 hg f z hz
    have h3:2^f≤2^6:=Nat.pow_le_pow_right (by omega) (by have:=hU.h6;omega)
    omega
   ·simp
  have heN:(eN x).length=x.elems.length:=eN_len x
  obtain ⟨I,hI⟩: ∃I:Nat→AFrame→AMem→Prop,∀q f m',I q f m'↔(∃(i:Nat) (o:AVal),i+q=x.elems.length∧f=h70_0 s (.int .i64 d) o e (.int .i64 x.elems.length) (.int .i64 i)∧m<+:m'∧OwL strB m.length m' 9 o ((((eN x).take i).flatMap G).map (unf l l.length d))∧(((eN x).take i).flatMap G).length≤i*64):=⟨_,fun _ _ _=>Iff.rfl⟩
  refine W_loop I x.elems.length ((hI _ _ _).2 ⟨0,.nilslice,by simp,by simp,List.prefix_refl _,by simpa using OwL.nil,by simp⟩) ?_
  rintro q fr m1 hIn
  obtain ⟨i,o,hq,rfl,hm1,hO,hOl⟩:=(hI _ _ _).1 hIn
  clear hIn
  have hm01:=hm.trans hm1
  simp
  refine bbind_dec (fun hil=>?_) fun hil=>?_
  rotate_left
  ·have:i=x.elems.length:=by omega
   subst this
   rw[List.take_of_length_le (by omega)] at hO
   simp
   exact ⟨hm1,hO⟩
  have hil:i<x.elems.length:=by omega
  have hw:=step64 (k:=i) (n:=x.elems.length) hil (by omega)
  obtain ⟨b1,o1,p1,p2⟩:=(he.mono hm1).at (i:=i) hil
  have hzb:=hge _ (List.getElem_mem hil)
  obtain ⟨z,hz⟩: ∃z:Nat,x.elems[i]=(z:Int):=⟨x.elems[i].toNat,by omega⟩
  have hzl:z<l.length:=by omega
  have hze:(eN x)[i]'(by omega)=z:=by simp[eN,hz]
  have htk:(eN x).take (i+1)=(eN x).take i++ [z]:=by rw[List.take_add_one,List.getElem?_eq_getElem (by omega),hze];rfl
  have hzm:z∈eN x:=by rw[←hze];exact List.getElem_mem _
  rw[hz] at p2
  obtain ⟨b2,o2,c2,r1,_,r2,_,_⟩:=(hs.mono hm01).atC hzl
  have hmz:=mdAt_eq hzl
  have hGz:=hGl z hzl
  have hisU:isU (mdAt l z)=decide (l[z].kind=12):=by rw[hmz];unfold isU;rw[Bool.eq_iff_iff];simp
  simp[p1,p2,r1,r2]
  by_cases hk:l[z].kind=12
  ·have hcall:=k70 hU s m0 hs d hD f z hzl (hdp z hzm (by rw[hisU];simpa using hk)) (by omega) m1 hm01
   have hGe:G z=lvs l f z:=by rw[hG,if_pos (by rw[hisU];simpa using hk)]
   rw[←hGe] at hcall
   simp[hk]
   refine C_of hcall ?_
   rintro v m2 ⟨hm2,hV⟩
   obtain ⟨o',m3,happ,hch,hO3,_⟩:=(hO.mono hm2).append (by have:=(hm1.trans hm2).length_le;omega) (by_:=16) (by omega) ((G z).map (unf l l.length d)) (by simp only[List.length_map];omega)
   have hsc:=Sl.cells (Ow.sl hV)
   simp[hsc]
   rw[List.length_map] at happ
   simp at happ
   simp[happ,hw]
   refine ⟨q-1,by omega,(hI _ _ _).2 ⟨i+1,o',by omega,by simp,hch.pre (hm1.trans hm2) fun b hb e=>by have:=(hO.blk_lo e).1;omega,?_,?_⟩⟩
   ·rw[htk,List.flatMap_append,List.map_append,List.flatMap_cons,List.flatMap_nil,List.append_nil]
    exact hO3
   ·rw[htk,List.flatMap_append,List.length_append,List.flatMap_cons,List.flatMap_nil,List.append_nil]
    omega
  ·have hGe:G z= [z]:=by rw[hG,if_neg (by rw[hisU];simpa using hk)]
   simp[beqF hk]
   refine C_of (hD z hzl m1 hm01) ?_
   rintro _ m2 ⟨rfl,hm2⟩
   generalize hT:unf l l.length d z=T at*
   simp[fillA,setN]
   have hm23:m2<+:m2++ [ABlk.own [strB T] 9 none]:=List.prefix_append _ _
   have hsc:sliceCells (m2++ [ABlk.own [strB T] 9 none]) 1 (.slice m2.length 0 1 1 none)=some (1,[strB T]):=cells_lit _ _ _ _
   generalize m2++ [ABlk.own [strB T] 9 none]=m3 at*
   have hm13:=hm2.trans hm23
   obtain ⟨o',m4,happ,hch,hO4,_⟩:=(hO.mono hm13).push (by have:=(hm1.trans hm13).length_le;omega) (by_:=16) (by omega) T (by simp only[List.length_map];omega)
   simp[hsc,happ,hw]
   refine ⟨q-1,by omega,(hI _ _ _).2 ⟨i+1,o',by omega,by simp,hch.pre (hm1.trans hm13) fun b hb e=>by have:=(hO.blk_lo e).1;omega,?_,?_⟩⟩
   ·rw[htk,List.flatMap_append,List.map_append,List.flatMap_cons,List.flatMap_nil,List.append_nil,hGe,List.map_cons,List.map_nil,hT]
    exact hO4
   ·rw[htk,List.flatMap_append,List.length_append,List.flatMap_cons,List.flatMap_nil,List.append_nil]
    omega
end Go.Proofs.YtlniliigcnedmaaGreatDoor
namespace Go.Proofs.YtlniliigcnedmaaGreatDoor
open Go Ax
open Relation
set_option maxRecDepth 100000
def nStop (c:UInt8):Prop:=c.toNat≠40∧c.toNat≠41∧c.toNat≠44
theorem jt_cons (s:UInt8) (x:List UInt8) (r:List (List UInt8)):Lib.joinTail [s] (x::r)=s::(x++Lib.joinTail [s] r):=by simp[Lib.joinTail]
theorem jt_nil (s:UInt8):Lib.joinTail [s] []= []:=rfl
theorem mem_jt {s c:UInt8}: ∀{r:List (List UInt8)},c∈Lib.joinTail [s] r→c=s∨ ∃x∈r,c∈x
 | [],h=>by rw[jt_nil] at h;cases h
 |x::r,h=>by
  rw[jt_cons] at h
  rcases List.mem_cons.1 h with h|h
  ·exact .inl h
  ·rcases List.mem_append.1 h with h|h
   ·exact .inr ⟨x,List.mem_cons_self,h⟩
   ·rcases mem_jt h with h|⟨y,hy,h⟩
    ·exact .inl h
    ·exact .inr ⟨y,List.mem_cons_of_mem _ hy,h⟩
theorem mem_join {s c:UInt8} {r:List (List UInt8)} (h:c∈Lib.join r [s]):c=s∨ ∃x∈r,c∈x:=by
 match r,h with
 | [],h=>rw[Lib.join_nil] at h;cases h
 |x::r,h=>
  rw[Lib.join_cons] at h
  rcases List.mem_append.1 h with h|h
  ·exact .inr ⟨x,List.mem_cons_self,h⟩
  ·rcases mem_jt h with h|⟨y,hy,h⟩
   ·exact .inl h
   ·exact .inr ⟨y,List.mem_cons_of_mem _ hy,h⟩
theorem jt_hd (s:UInt8) (r:List (List UInt8)):NoHd (· ≠s) (Lib.joinTail [s] r):=by
 intro c t h
 match r,h with
 | [],h=>rw[jt_nil] at h;cases h
 |x::r,h=>rw[jt_cons] at h;simp only[List.cons.injEq] at h;exact fun hn=>hn h.1.symm
theorem jt_inj {s:UInt8}: ∀{r r':List (List UInt8)},(∀x∈r,∀c∈x,c≠s)→(∀x∈r',∀c∈x,c≠s)→r.length=r'.length→Lib.joinTail [s] r=Lib.joinTail [s] r'→r=r'
 | [],[],_,_,_,_=>rfl
 | [],_::_,_,_,h,_=>by simp at h
 |_::_,[],_,_,h,_=>by simp at h
 |x::r,y::r',hr,hr',hl,h=>by
  rw[jt_cons,jt_cons] at h
  simp only[List.cons.injEq,true_and] at h
  obtain ⟨rfl,h2⟩:=span_eq (hr x List.mem_cons_self) (hr' y List.mem_cons_self) (jt_hd s r) (jt_hd s r') h
  rw[jt_inj (fun x hx=>hr x (List.mem_cons_of_mem _ hx)) (fun x hx=>hr' x (List.mem_cons_of_mem _ hx)) (by simpa using hl) h2]
theorem join_inj {s:UInt8} {r r':List (List UInt8)} (hr: ∀x∈r,∀c∈x,c≠s) (hr': ∀x∈r',∀c∈x,c≠s) (hl:r.length=r'.length) (h:Lib.join r [s]=Lib.join r' [s]):r=r':=by
 match r,r',hl with
 | [],[],_=>rfl
 |x::r,y::r',hl=>
  rw[Lib.join_cons,Lib.join_cons] at h
  obtain ⟨rfl,h2⟩:=span_eq (hr x List.mem_cons_self) (hr' y List.mem_cons_self) (jt_hd s r) (jt_hd s r') h
  rw[jt_inj (fun x hx=>hr x (List.mem_cons_of_mem _ hx)) (fun x hx=>hr' x (List.mem_cons_of_mem _ hx)) (by simpa using hl) h2]
section
variable {l:List Md} (hU:Ud l)
include hU
theorem nms_tag {x:Md} (hx:x∈l): ∀y∈nmsL x,∀c∈y,isTag c:=fun y hy c hc=>by
 obtain ⟨s,hs,rfl⟩:=List.mem_map.1 hy
 exact tag_bytes ((hU.shape hx).2.2 s hs) c hc
theorem uHead_ns {x:Md} (hx:x∈l): ∀c∈uHead x,nStop c:=fun c hc=>by
 obtain ⟨⟨q0,q14⟩,_,_⟩:=hU.shape hx
 obtain ⟨⟨d0,d3⟩,z1,z2⟩:=hU.dims hx
 unfold uHead at hc
 rcases List.mem_append.1 hc with hc|hc
 ·rcases List.mem_append.1 hc with hc|hc
  ·rcases List.mem_append.1 hc with hc|hc
   ·have e1:=u8_nat (a:=(97+x.kind).toNat) (by omega)
    have e2:=u8_nat (a:=(51+x.size).toNat) (by omega)
    have e3:=u8_nat (a:=(48+x.dims).toNat) (by omega)
    simp only[hd3,List.mem_cons,List.not_mem_nil,or_false] at hc
    rcases hc with rfl|rfl|rfl
    ·unfold nStop;omega
    ·unfold nStop;omega
    ·unfold nStop;omega
   ·split at hc
    ·rw[List.mem_singleton] at hc;subst hc;unfold nStop;decide
    ·cases hc
  ·rcases mem_join hc with rfl|⟨y,hy,hc⟩
   ·unfold nStop;decide
   ·have:=nms_tag hU hx y hy c hc
    unfold isTag at this
    unfold nStop
    omega
 ·split at hc
  ·cases hc
  ·obtain ⟨_,rfl⟩:=List.mem_replicate.1 hc;unfold nStop;decide
theorem head_first {x y:Md} (hx:x∈l) (hy:y∈l):uHead x=uHead y↔firstC x y=0:=by
 constructor
 ·intro h
  obtain ⟨⟨q0,q14⟩,⟨_,_,nx,_,_,fx⟩,_⟩:=hU.shape hx
  obtain ⟨⟨d0,d3⟩,z1,z2⟩:=hU.dims hx
  obtain ⟨⟨p0,p14⟩,⟨_,_,ny,_,_,fy⟩,_⟩:=hU.shape hy
  obtain ⟨⟨c0,c3⟩,y1,y2⟩:=hU.dims hy
  unfold uHead at h
  rw[List.append_assoc,List.append_assoc,List.append_assoc,List.append_assoc] at h
  obtain ⟨h1,h2⟩:=List.append_inj h rfl
  simp only[hd3,List.cons.injEq,and_true] at h1
  have k1:=u8_inj (by omega) (by omega) h1.1
  have k2:=u8_inj (by omega) (by omega) h1.2.1
  have k3:=u8_inj (by omega) (by omega) h1.2.2
  have hk:x.kind=y.kind:=by omega
  have nl:(nmsL x).length=x.names.length:=by simp[nmsL]
  have nl':(nmsL y).length=y.names.length:=by simp[nmsL]
  unfold nNames at nx ny
  by_cases h11:x.kind=11
  ·have h11':y.kind=11:=by omega
   rw[if_pos h11] at nx
   rw[if_pos h11'] at ny
   have f1:x.flex=false:=by cases hh:x.flex;rfl;have:=fx hh;omega
   have f2:y.flex=false:=by cases hh:y.flex;rfl;have:=fy hh;omega
   rw[f1,f2,if_neg (by simp),if_neg (by omega),if_neg (by omega)] at h2
   have hns: ∀{z:Md},z∈l→ ∀c∈Lib.join (nmsL z) [47],c≠46:=fun {z} hz c hc e=>by
    subst e
    rcases mem_join hc with h|⟨w,hw,h⟩
    ·exact absurd h (by decide)
    ·have:=nms_tag hU hz w hw _ h
     unfold isTag at this
     revert this
     decide
   have hrep: ∀n:Nat,NoHd (· ≠(46:UInt8)) (List.replicate n 46):=fun n c t e hn=>by
    have:c∈List.replicate n (46:UInt8):=by rw[e];exact List.mem_cons_self
    exact hn (List.mem_replicate.1 this).2
   obtain ⟨g1,g2⟩:=span_eq (P:=(· ≠(46:UInt8))) (hns hx) (hns hy) (hrep _) (hrep _) h2
   have g3:x.elems.length=y.elems.length:=by have:=congrArg List.length g2;simpa using this
   have hn47: ∀{z:Md},z∈l→ ∀w∈nmsL z,∀c∈w,c≠47:=fun {z} hz w hw c hc e=>by
    subst e
    have:=nms_tag hU hz w hw _ hc
    unfold isTag at this
    revert this
    decide
   have g4:=join_inj (hn47 hx) (hn47 hy) (by omega) g1
   have g5:x.names=y.names:=ns_inj (by
    have:=congrArg (List.map fun w=>(32:UInt8)::w) g4
    simpa[nmsL,List.map_map,Function.comp_def] using this)
   exact firstC_of hk (by omega) (by omega) (by rw[f1,f2]) (fun _=>g3) (by rw[g5];exact cmpS_ord.lex.self fun _ _=>trivial)
  ·have h11': ¬y.kind=11:=by omega
   rw[if_neg h11] at nx
   rw[if_neg h11'] at ny
   have e1:x.names= []:=List.eq_nil_of_length_eq_zero (by omega)
   have e2:y.names= []:=List.eq_nil_of_length_eq_zero (by omega)
   rw[show nmsL x= [] by unfold nmsL;rw[e1];rfl,show nmsL y= [] by unfold nmsL;rw[e2];rfl,Lib.join_nil,List.nil_append,List.nil_append] at h2
   have hmm: ∀{z:Md} {c:UInt8},c∈(if z.kind=12 then [] else List.replicate z.elems.length (46:UInt8))→c=46:=fun {z c} h=>by
    split at h
    ·cases h
    ·exact (List.mem_replicate.1 h).2
   have hfl:x.flex=y.flex:=by
    cases ha:x.flex<;>cases hb:y.flex
    ·rfl
    ·simp only[ha,hb,Bool.false_eq_true,↓reduceIte,List.nil_append] at h2
     have:(33:UInt8)∈(if x.kind=12 then [] else List.replicate x.elems.length (46:UInt8)):=by rw[h2];exact List.mem_cons_self
     exact absurd (hmm this) (by decide)
    ·simp only[ha,hb,Bool.false_eq_true,↓reduceIte,List.nil_append] at h2
     have:(33:UInt8)∈(if y.kind=12 then [] else List.replicate y.elems.length (46:UInt8)):=by rw[←h2];exact List.mem_cons_self
     exact absurd (hmm this) (by decide)
    ·rfl
   rw[hfl] at h2
   have h3:=List.append_cancel_left h2
   refine firstC_of hk (by omega) (by omega) hfl (fun h12=>?_) (by rw[e1,e2];rfl)
   rw[if_neg h12,if_neg (by omega)] at h3
   have:=congrArg List.length h3
   simpa using this
 ·intro h
  obtain ⟨q1,q2,q3,q4,q5,q6⟩:=firstC_all h
  have q6:=names_eq q6
  unfold uHead hd3 nmsL
  rw[q1,q2,q3,q4,q6]
  by_cases h12:y.kind=12
  ·rw[if_pos h12,if_pos h12]
  ·rw[if_neg h12,if_neg h12,q5 (by omega)]
def Stp (r:List UInt8):Prop:=r= []∨ ∃c t,r=c::t∧ ¬nStop c
omit hU in
theorem Stp.no {r:List UInt8} (h:Stp r):NoHd nStop r:=by
 intro c t e
 rcases h with rfl|⟨c',t',rfl,h⟩
 ·cases e
 ·simp only[List.cons.injEq] at e
  obtain ⟨rfl,_⟩:=e
  exact h
theorem head_parse {x y:Md} (hx:x∈l) (hy:y∈l) {r r':List UInt8} (hr:Stp r) (hr':Stp r') (h:uHead x++r=uHead y++r'):uHead x=uHead y∧r=r':=span_eq (uHead_ns hU hx) (uHead_ns hU hy) hr.no hr'.no h
theorem unf_hd (F d:Nat) {z:Nat} (hz:z<l.length): ∃c t,unf l F d z=c::t∧nStop c:=by
 have hm:=mdAt_mem hz
 have h1:=uHead_ns hU hm
 obtain ⟨c,t,e⟩: ∃c t,uHead (mdAt l z)=c::t:=⟨_,_,rfl⟩
 refine ⟨c,?_⟩
 have hc:=h1 c (by rw[e];exact List.mem_cons_self)
 cases d with
 |zero=>exact ⟨t,e,hc⟩
 |succ d=>exact ⟨_,by rw[unf,e];rfl,hc⟩
omit hU in
theorem jt_parse {F d:Nat} (hp: ∀a b r r',a<l.length→b<l.length→Stp r→Stp r'→unf l F d a++r=unf l F d b++r'→unf l F d a=unf l F d b∧r=r'): ∀(ps qs:List (List UInt8)) (r r':List UInt8),(∀p∈ps,∃z,z<l.length∧p=unf l F d z)→(∀p∈qs,∃z,z<l.length∧p=unf l F d z)→Lib.joinTail [44] ps++41::r=Lib.joinTail [44] qs++41::r'→ps=qs∧r=r'
 | [],[],r,r',_,_,h=>by simpa[jt_nil] using h
 | [],q::qs,r,r',_,_,h=>by rw[jt_nil,jt_cons] at h;simp at h
 |p::ps,[],r,r',_,_,h=>by rw[jt_nil,jt_cons] at h;simp at h
 |p::ps,q::qs,r,r',h1,h2,h=>by
  rw[jt_cons,jt_cons] at h
  simp only[List.cons_append,List.cons.injEq,true_and,List.append_assoc] at h
  have hs: ∀(ps:List (List UInt8)) r,Stp (Lib.joinTail [44] ps++41::r):=fun ps r=>by
   cases ps with
   |nil=>exact .inr ⟨41,r,rfl,by unfold nStop;decide⟩
   |cons p ps=>exact .inr ⟨44,_,by rw[jt_cons];rfl,by unfold nStop;decide⟩
  obtain ⟨z,hz,rfl⟩:=h1 p List.mem_cons_self
  obtain ⟨w,hw,rfl⟩:=h2 q List.mem_cons_self
  obtain ⟨e1,e2⟩:=hp z w _ _ hz hw (hs ps r) (hs qs r') h
  obtain ⟨e3,e4⟩:=jt_parse hp ps qs r r' (fun p hp=>h1 p (List.mem_cons_of_mem _ hp)) (fun p hp=>h2 p (List.mem_cons_of_mem _ hp)) e2
  exact ⟨by rw[e1,e3],e4⟩
theorem join_parse {F d:Nat} (hp: ∀a b r r',a<l.length→b<l.length→Stp r→Stp r'→unf l F d a++r=unf l F d b++r'→unf l F d a=unf l F d b∧r=r') {ps qs:List (List UInt8)} {r r':List UInt8} (h1: ∀p∈ps,∃z,z<l.length∧p=unf l F d z) (h2: ∀p∈qs,∃z,z<l.length∧p=unf l F d z) (h:Lib.join ps [44]++41::r=Lib.join qs [44]++41::r'):ps=qs∧r=r':=by
 have no41: ∀{z:Nat} {t u:List UInt8},z<l.length→ ¬(41::t=unf l F d z++u):=fun {z t u} hz e=>by
  obtain ⟨c,t',e',hc⟩:=unf_hd hU F d hz
  rw[e'] at e
  simp only[List.cons_append,List.cons.injEq] at e
  rw[←e.1] at hc
  exact hc.2.1 rfl
 match ps,qs,h1,h2,h with
 | [],[],_,_,h=>simpa[Lib.join_nil] using h
 | [],q::qs,_,h2,h=>
  obtain ⟨w,hw,rfl⟩:=h2 q List.mem_cons_self
  rw[Lib.join_nil,Lib.join_cons,List.append_assoc] at h
  exact absurd h (no41 hw)
 |p::ps,[],h1,_,h=>
  obtain ⟨w,hw,rfl⟩:=h1 p List.mem_cons_self
  rw[Lib.join_nil,Lib.join_cons,List.append_assoc] at h
  exact absurd h.symm (no41 hw)
 |p::ps,q::qs,h1,h2,h=>
  have:=jt_parse hp (p::ps) (q::qs) r r' h1 h2 (by rw[jt_cons,jt_cons];rw[Lib.join_cons,Lib.join_cons] at h;simpa using h)
  exact this
theorem unf_parse: ∀(d a b:Nat) (r r':List UInt8),a<l.length→b<l.length→Stp r→Stp r'→unf l l.length d a++r=unf l l.length d b++r'→unf l l.length d a=unf l l.length d b∧r=r'
 |0,a,b,r,r',ha,hb,hr,hr',h=>head_parse hU (mdAt_mem ha) (mdAt_mem hb) hr hr' h
 |d+1,a,b,r,r',ha,hb,hr,hr',h=>by
  have hg:=(okT_of hU.hc).good
  rw[unf,unf] at h ⊢
  simp only[List.append_assoc,List.cons_append,List.nil_append] at h ⊢
  obtain ⟨e1,e2⟩:=head_parse hU (mdAt_mem ha) (mdAt_mem hb) (.inr ⟨40,_,rfl,by unfold nStop;decide⟩) (.inr ⟨40,_,rfl,by unfold nStop;decide⟩) h
  simp only[List.cons.injEq,true_and] at e2
  obtain ⟨e3,e4⟩:=join_parse hU (unf_parse d) (parts_few hg hU.h2 hU.h6 l.length _ ha).2 (parts_few hg hU.h2 hU.h6 l.length _ hb).2 e2
  exact ⟨by rw[e1,e3],e4⟩
theorem unf_split {d a b:Nat} (ha:a<l.length) (hb:b<l.length):unf l l.length (d+1) a=unf l l.length (d+1) b↔uHead (mdAt l a)=uHead (mdAt l b)∧partsB l l.length (unf l l.length d) a=partsB l l.length (unf l l.length d) b:=by
 have hg:=(okT_of hU.hc).good
 constructor
 ·intro h
  rw[unf,unf] at h
  simp only[List.append_assoc,List.cons_append,List.nil_append] at h
  obtain ⟨e1,e2⟩:=head_parse hU (mdAt_mem ha) (mdAt_mem hb) (.inr ⟨40,_,rfl,by unfold nStop;decide⟩) (.inr ⟨40,_,rfl,by unfold nStop;decide⟩) h
  simp only[List.cons.injEq,true_and] at e2
  exact ⟨e1,(join_parse hU (unf_parse hU d) (parts_few hg hU.h2 hU.h6 l.length _ ha).2 (parts_few hg hU.h2 hU.h6 l.length _ hb).2 (r:= []) (r':= []) e2).1⟩
 ·rintro ⟨e1,e2⟩
  rw[unf,unf,e1,e2]
end
end Go.Proofs.YtlniliigcnedmaaGreatDoor
namespace Go.Proofs.YtlniliigcnedmaaGreatDoor
open Go Ax
open Relation
set_option maxRecDepth 100000
theorem tg_first {α:Type} {r:α→α→Prop} {a c:α} (h:TransGen r a c):r a c∨ ∃b,r a b∧TransGen r b c:=by
 induction h with
 |single h=>exact .inl h
 |tail h1 h2 ih=>
  rcases ih with h|⟨b,h3,h4⟩
  ·exact .inr ⟨_,h,.single h2⟩
  ·exact .inr ⟨b,h3,h4.tail h2⟩
theorem tg_src {l:List Md} {a c:Nat} (h:TransGen (stepR l isU) a c): ∃m,l[a]? =some m∧isU m=true:=by
 rcases tg_first h with ⟨m,h1,h2,_⟩|⟨_,⟨m,h1,h2,_⟩,_⟩<;>exact ⟨m,h1,h2⟩
theorem lvs_part {l:List Md} (hg:goodT l): ∀(f m:Nat),m<l.length→isU (mdAt l m)=true→dep l f m→ ∀z,z∈lvs l f m↔IsPart l m z
 |0,_,_,_,h,_=>by simp[dep] at h
 |f+1,m,hm,hu,hd,z=>by
  have hget:=fun {x:Nat} (hx:x<l.length)=>(by rw[mdAt_eq hx];exact List.getElem?_eq_getElem hx:l[x]? =some (mdAt l x))
  rw[lvs,List.mem_flatMap]
  constructor
  ·rintro ⟨e,he,hz⟩
   have hel:=eN_lt hg hm he
   have hst:stepR l isU m e:=by
    obtain ⟨v,hv,rfl⟩:=List.mem_map.1 he
    have:=hg _ (mdAt_mem hm) v hv
    exact ⟨_,hget hm,hu,by rw[show ((v.toNat:Nat):Int)=v by omega];exact hv⟩
   split at hz
   ·rename_i hue
    obtain ⟨h1,h2⟩:=(lvs_part hg f e hel hue (hd e he hue) z).1 hz
    exact ⟨(TransGen.single hst).trans h1,h2⟩
   ·rename_i hue
    rw[List.mem_singleton] at hz
    subst hz
    refine ⟨.single hst,fun y hy=>?_⟩
    rw[hget hel] at hy
    cases hy
    simpa using hue
  ·rintro ⟨h1,h2⟩
   have step: ∀{e},stepR l isU m e→e∈eN (mdAt l m):=fun {e} ⟨x,g1,_,g3⟩=>by
    rw[hget hm] at g1
    cases g1
    exact List.mem_map.2 ⟨_,g3,Int.toNat_natCast _⟩
   rcases tg_first h1 with h|⟨e,h3,h4⟩
   ·have he:=step h
    refine ⟨z,he,?_⟩
    rw[if_neg (by rw[h2 _ (hget (eN_lt hg hm he))];simp)]
    exact List.mem_singleton.2 rfl
   ·have he:=step h3
    have hel:=eN_lt hg hm he
    obtain ⟨y,g1,g2⟩:=tg_src h4
    rw[hget hel] at g1
    cases g1
    refine ⟨e,he,?_⟩
    rw[if_pos g2]
    exact (lvs_part hg f e hel g2 (hd e he g2) z).2 ⟨h4,h2⟩
structure Fit (l:List Md) (r:Nat→Nat) (a b:Nat):Prop where
 first:firstC (mdAt l a) (mdAt l b)=0
 up:isU (mdAt l a)=true→ ∀j,IsPart l a j→ ∃j',IsPart l b j'∧r j=r j'
 down:isU (mdAt l b)=true→ ∀j,IsPart l b j→ ∃j',IsPart l a j'∧r j'=r j
 el:isU (mdAt l a)=false→(eN (mdAt l a)).map r=(eN (mdAt l b)).map r
theorem Fit.down1 {l:List Md} (hg:goodT l) {d a b:Nat} (ha:a<l.length) (hb:b<l.length) (h:Fit l (R l (d+1)) a b):Fit l (R l d) a b:=by
 have key: ∀{x y:Nat},x<l.length→y<l.length→R l (d+1) x=R l (d+1) y→R l d x=R l d y:=fun hx hy e=>R_eq_down hx hy 1 e
 refine ⟨h.first,fun hu j hj=>?_,fun hu j hj=>?_,fun hu=>?_⟩
 ·obtain ⟨j',h1,h2⟩:=h.up hu j hj
  exact ⟨j',h1,key (hj.lt hg) (h1.lt hg) h2⟩
 ·obtain ⟨j',h1,h2⟩:=h.down hu j hj
  exact ⟨j',h1,key (h1.lt hg) (hj.lt hg) h2⟩
 ·have he:=h.el hu
  have hl:(eN (mdAt l a)).length=(eN (mdAt l b)).length:=by simpa using congrArg List.length he
  refine List.ext_getElem (by simpa using hl) fun i h1 h2=>?_
  simp only[List.length_map] at h1 h2
  have:=congrArg (·[i]?) he
  simp only[List.getElem?_map,List.getElem?_eq_getElem h1,List.getElem?_eq_getElem h2,Option.map_some,Option.some.injEq] at this
  rw[List.getElem_map,List.getElem_map]
  exact key (eN_lt hg ha (List.getElem_mem _)) (eN_lt hg hb (List.getElem_mem _)) this
theorem Fit.key {l:List Md} {r:Nat→Nat} {a b:Nat} (h:Fit l r a b):keyOf l r a=keyOf l r b:=by
 have hu:isU (mdAt l a)=isU (mdAt l b):=by unfold isU;rw[firstC_kind h.first]
 unfold keyOf
 rw[←hu]
 cases hua:isU (mdAt l a)
 ·rw[if_neg (by simp),if_neg (by simp)]
  have:=congrArg (List.map fun z:Nat=>(z:Int)) (h.el hua)
  simpa[eN,List.map_map,Function.comp_def] using this
 ·rw[if_pos rfl,if_pos rfl]
  congr 1
  apply List.filter_congr
  intro v _
  rw[decide_eq_decide]
  constructor
  ·rintro ⟨j,h1,h2⟩
   obtain ⟨j',h3,h4⟩:=h.up hua j h1
   exact ⟨j',h3,by rw[←h4];exact h2⟩
  ·rintro ⟨j,h1,h2⟩
   obtain ⟨j',h3,h4⟩:=h.down (by rw[←hu];exact hua) j h1
   exact ⟨j',h3,by rw[h4];exact h2⟩
theorem Fit.rank {l:List Md} (hg:goodT l) {a b:Nat} (ha:a<l.length) (hb:b<l.length): ∀d,Fit l (R l d) a b→R l (d+1) a=R l (d+1) b
 |d,h=>by
  have h0:Go.Proofs.YtlniliigcnedmaaGreatDoor.R l d a=Go.Proofs.YtlniliigcnedmaaGreatDoor.R l d b:=by
   cases d with
   |zero=>rfl
   |succ d=>exact Fit.rank hg ha hb d (h.down1 hg ha hb)
  have hc:cmpR l (Go.Proofs.YtlniliigcnedmaaGreatDoor.R l d) d a b=0:=by
   unfold cmpR thenC
   have h0':cmpI (Go.Proofs.YtlniliigcnedmaaGreatDoor.R l d a:Nat) (Go.Proofs.YtlniliigcnedmaaGreatDoor.R l d b:Nat)=0:=cmpI_zero.2 (by rw[h0])
   simp only[h0']
   by_cases hd:d=0
   ·simp[hd,h.first]
   ·simp[hd,h.key,lexC_refl]
  have h1:=R_lt l d (b:=b) ha
  have h2:=R_lt l d (b:=a) hb
  have h3:=(cmpR_ord l (Go.Proofs.YtlniliigcnedmaaGreatDoor.R l d) d).anti a b trivial trivial
  have h4:=(cmpR_ord l (Go.Proofs.YtlniliigcnedmaaGreatDoor.R l d) d).anti b a trivial trivial
  omega
theorem Fit.of {l:List Md} (hg:goodT l) {a b d:Nat} (ha:a<l.length) (hb:b<l.length) (h:R l (d+2) a=R l (d+2) b):Fit l (R l (d+1)) a b:=by
 have h1:R l (0+1) a=R l (0+1) b:=R_eq_down ha hb (d+1) (by rw[show 0+1+(d+1)=d+2 by omega];exact h)
 have hf:firstC (mdAt l a) (mdAt l b)=0:=by
  have h2:=R_eq_cmp (d:=0) ha hb h1
  unfold cmpR thenC at h2
  have h0:cmpI (R l 0 a:Nat) (R l 0 b:Nat)=0:=cmpI_zero.2 rfl
  simp[h0] at h2
  exact h2
 have hk:keyOf l (R l (d+1)) a=keyOf l (R l (d+1)) b:=by
  have h3:=R_eq_cmp (d:=d+1) ha hb h
  unfold cmpR thenC at h3
  have h0:cmpI (R l (d+1) a:Nat) (R l (d+1) b:Nat)=0:=cmpI_zero.2 (by have:=R_eq_down (d:=d+1) ha hb 1 h;rw[this])
  simp[h0] at h3
  exact lexC_zero h3
 have hu:isU (mdAt l a)=isU (mdAt l b):=by unfold isU;rw[firstC_kind hf]
 have hr: ∀x,x<l.length→R l (d+1) x<l.length:=fun x hx=>R_bound l _ hx
 refine ⟨hf,fun hua j hj=>?_,fun hub j hj=>?_,fun hua=>?_⟩
 ·have k1:=((keyOf_isKey hg hr a).un hua).2 (R l (d+1) j:Int)
  have k2:=((keyOf_isKey hg hr b).un (by rw[←hu];exact hua)).2 (R l (d+1) j:Int)
  rw[hk] at k1
  obtain ⟨j',h3,h4⟩:=k2.1 (k1.2 ⟨j,hj,rfl⟩)
  exact ⟨j',h3,by omega⟩
 ·have k1:=((keyOf_isKey hg hr a).un (by rw[hu];exact hub)).2 (R l (d+1) j:Int)
  have k2:=((keyOf_isKey hg hr b).un hub).2 (R l (d+1) j:Int)
  rw[hk] at k1
  obtain ⟨j',h3,h4⟩:=k1.1 (k2.2 ⟨j,hj,rfl⟩)
  exact ⟨j',h3,by omega⟩
 ·have k1:=(keyOf_isKey hg hr a).el hua
  have k2:=(keyOf_isKey hg hr b).el (by rw[←hu];exact hua)
  rw[hk,k2] at k1
  have:=congrArg (List.map Int.toNat) k1
  simpa[eN,List.map_map,Function.comp_def] using this.symm
section
variable {l:List Md} (hU:Ud l)
include hU
theorem parts_eq {g:Nat→List UInt8} {a b:Nat} (ha:a<l.length) (hb:b<l.length) (hf:firstC (mdAt l a) (mdAt l b)=0):partsB l l.length g a=partsB l l.length g b↔(isU (mdAt l a)=true→ ∀v,(∃j,IsPart l a j∧g j=v)↔ ∃j,IsPart l b j∧g j=v)∧(isU (mdAt l a)=false→(eN (mdAt l a)).map g=(eN (mdAt l b)).map g):=by
 have hg:=(okT_of hU.hc).good
 have hu:isU (mdAt l a)=isU (mdAt l b):=by unfold isU;rw[firstC_kind hf]
 unfold partsB
 rw[←hu]
 cases hua:isU (mdAt l a)
 ·rw[if_neg (by simp),if_neg (by simp)]
  simp
 ·have hub:isU (mdAt l b)=true:=by rw[←hu];exact hua
  rw[if_pos rfl,if_pos rfl,csB_eq]
  have m1:=fun z=>lvs_part hg l.length a ha hua (dep_all hU.hc ha hua) z
  have m2:=fun z=>lvs_part hg l.length b hb hub (dep_all hU.hc hb hub) z
  simp only[List.mem_map,m1,m2]
  simp
theorem unf_R: ∀(d a b:Nat),a<l.length→b<l.length→(unf l l.length d a=unf l l.length d b↔R l (d+1) a=R l (d+1) b)
 |0,a,b,ha,hb=>by
  have hg:=(okT_of hU.hc).good
  rw[unf,unf,head_first hU (mdAt_mem ha) (mdAt_mem hb)]
  constructor
  ·intro h
   have h1:=R_lt l 0 (b:=b) ha
   have h2:=R_lt l 0 (b:=a) hb
   have hc: ∀{x y:Nat},firstC (mdAt l x) (mdAt l y)=0→cmpR l (R l 0) 0 x y=0:=fun {x y} h=>by
    unfold cmpR thenC
    have h0:cmpI (R l 0 x:Nat) (R l 0 y:Nat)=0:=cmpI_zero.2 rfl
    simp[h0,h]
   have h3:=hc h
   have h4:=hc ((firstC_ord.zero trivial trivial).1 h)
   omega
  ·intro h
   have h2:=R_eq_cmp (d:=0) ha hb h
   unfold cmpR thenC at h2
   have h0:cmpI (R l 0 a:Nat) (R l 0 b:Nat)=0:=cmpI_zero.2 rfl
   simp[h0] at h2
   exact h2
 |d+1,a,b,ha,hb=>by
  have hg:=(okT_of hU.hc).good
  rw[unf_split hU ha hb,head_first hU (mdAt_mem ha) (mdAt_mem hb)]
  have ih:=fun {x y:Nat} (hx:x<l.length) (hy:y<l.length)=>unf_R d x y hx hy
  have hmap: ∀xs ys:List Nat,(∀x∈xs,x<l.length)→(∀y∈ys,y<l.length)→(xs.map (unf l l.length d)=ys.map (unf l l.length d)↔xs.map (R l (d+1))=ys.map (R l (d+1))):=fun xs=>by
   induction xs with
   |nil=>intro ys _ _;cases ys<;>simp
   |cons x xs ihx=>
    intro ys hx hy
    cases ys with
    |nil=>simp
    |cons y ys=>
     simp only[List.map_cons,List.cons.injEq]
     rw[ih (hx x List.mem_cons_self) (hy y List.mem_cons_self),ihx ys (fun z h=>hx z (List.mem_cons_of_mem _ h)) fun z h=>hy z (List.mem_cons_of_mem _ h)]
  constructor
  ·rintro ⟨hf,hp⟩
   obtain ⟨p1,p2⟩:=(parts_eq hU ha hb hf).1 hp
   have hu:isU (mdAt l a)=isU (mdAt l b):=by unfold isU;rw[firstC_kind hf]
   refine Fit.rank hg ha hb (d+1) ⟨hf,fun hua j hj=>?_,fun hub j hj=>?_,fun hua=>?_⟩
   ·obtain ⟨j',h1,h2⟩:=(p1 hua _).1 ⟨j,hj,rfl⟩
    exact ⟨j',h1,(ih (hj.lt hg) (h1.lt hg)).1 h2.symm⟩
   ·obtain ⟨j',h1,h2⟩:=(p1 (by rw[hu];exact hub) _).2 ⟨j,hj,rfl⟩
    exact ⟨j',h1,(ih (h1.lt hg) (hj.lt hg)).1 h2⟩
   ·exact (hmap _ _ (fun x hx=>eN_lt hg ha hx) fun x hx=>eN_lt hg hb hx).1 (p2 hua)
  ·intro h
   have ft:=Fit.of hg ha hb h
   refine ⟨ft.first,(parts_eq hU ha hb ft.first).2 ⟨fun hua v=>?_,fun hua=>?_⟩⟩
   ·have hu:isU (mdAt l a)=isU (mdAt l b):=by unfold isU;rw[firstC_kind ft.first]
    constructor
    ·rintro ⟨j,hj,rfl⟩
     obtain ⟨j',h1,h2⟩:=ft.up hua j hj
     exact ⟨j',h1,((ih (hj.lt hg) (h1.lt hg)).2 h2).symm⟩
    ·rintro ⟨j,hj,rfl⟩
     obtain ⟨j',h1,h2⟩:=ft.down (by rw[←hu];exact hua) j hj
     exact ⟨j',h1,(ih (h1.lt hg) (hj.lt hg)).2 h2⟩
   ·exact (hmap _ _ (fun x hx=>eN_lt hg ha hx) fun x hx=>eN_lt hg hb hx).2 (ft.el hua)
theorem unf_RR {a b:Nat} (ha:a<l.length) (hb:b<l.length):unf l l.length 7 a=unf l l.length 7 b↔RR l a=RR l b:=by
 have hg:=(okT_of hU.hc).good
 have h6:=hU.h6
 rw[unf_R hU 7 a b ha hb]
 have e:7+1=l.length+1+(7-l.length):=by omega
 rw[e,RR_deep hg _ ha,RR_deep hg _ hb]
end
end Go.Proofs.YtlniliigcnedmaaGreatDoor
namespace Go.Proofs.YtlniliigcnedmaaGreatDoor
open Go Ax
set_option maxRecDepth 100000
theorem str_addB (a b:List UInt8) (h:a.length+b.length≤9223372036854775807):binStr .add ⟨a.toArray⟩ ⟨b.toArray⟩=some (.str ⟨(a++b).toArray⟩):=str_add a ⟨b.toArray⟩ (by rw[ba_size];exact h)
theorem nms_cells (x:Md):(x.names.map fun n=>AVal.str n)=(nmsL x).map strB:=by
 unfold nmsL
 rw[List.map_map]
 exact List.map_congr_left fun n _=>by show AVal.str n= .str ⟨n.data.toList.toArray⟩;rw[ba_eta]
theorem wrapU8 {x:Int} (h1:0≤x) (h2:x<256):IntKind.u8.wrap x=x:=by
 simp only[IntKind.wrap,IntKind.bits,IntKind.signed,Bool.false_and,Int.reducePow]
 simp
 omega
theorem b2s3 (m:AMem) (a b c:Int) (h:(0≤a∧a<256)∧(0≤b∧b<256)∧0≤c∧c<256):b2sE (m++ [ABlk.own [.int .u8 a,.int .u8 b,.int .u8 c] 5 none]) (.slice m.length 0 3 3 none)=some (.str ⟨[a.toNat.toUInt8,b.toNat.toUInt8,c.toNat.toUInt8].toArray⟩):=by
 obtain ⟨h1,h2,h3⟩:=h
 simp only[b2sE,readB_new,Option.bind_some]
 rw[show readN [AVal.int .u8 a,.int .u8 b,.int .u8 c] 0 3=some [.int .u8 a,.int .u8 b,.int .u8 c] from rfl]
 simp only[Option.bind_some,toB,if_pos h1,if_pos h2,if_pos h3,Option.map_some]
theorem lvs_ne_nil {l:List Md} (hg:goodT l) (hne: ∀m,m<l.length→isU (mdAt l m)=true→(mdAt l m).elems≠ []): ∀(f m:Nat),m<l.length→isU (mdAt l m)=true→dep l f m→lvs l f m≠ []
 |0,_,_,_,h=>by simp[dep] at h
 |f+1,m,hm,hu,h=>by
  have he:=hne m hm hu
  intro e0
  rw[lvs,List.flatMap_eq_nil_iff] at e0
  obtain ⟨z,zs,hz⟩:=List.exists_cons_of_ne_nil he
  have hzm:z.toNat∈eN (mdAt l m):=List.mem_map.2 ⟨z,by rw[hz];exact List.mem_cons_self,rfl⟩
  have h1:=e0 _ hzm
  split at h1
  ·rename_i hu'
   exact lvs_ne_nil hg hne f _ (eN_lt hg hm hzm) hu' (h _ hzm hu') h1
  ·cases h1
theorem lvs_ne {l:List Md} (hU:Ud l) {a:Nat} (ha:a<l.length) (hu:isU (mdAt l a)=true):lvs l l.length a≠ []:=by
 refine lvs_ne_nil (okT_of hU.hc).good (fun m hm hu' h0=>?_) _ a ha hu (dep_all hU.hc ha hu)
 obtain ⟨_,⟨h1,_⟩,_⟩:=hU.shape (mdAt_mem hm)
 have e:(mdAt l m).kind=12:=by simpa[isU] using hu'
 unfold least at h1
 rw[if_neg (by omega),if_pos e,h0] at h1
 simp at h1
set_option maxHeartbeats 16000000 in
theorem k35 {l:List Md} (hU:Ud l) (s:AVal) (m0:AMem) (hs:RTab m0 s l) (d:Nat) (hd:d≤7) (ih: ∀d',d=d'+1→UnfC l s m0 d'):UnfC l s m0 d:=by
 intro a ha m hm
 have hg:=(okT_of hU.hc).good
 refine w35 ?_
 obtain ⟨bx',ox,c,g4,g5,_,_,g6⟩:=(hs.mono hm).atC ha
 have hxm:=List.getElem_mem ha
 have hma:=mdAt_eq ha
 obtain ⟨⟨q0,q14⟩,_,_⟩:=hU.shape hxm
 obtain ⟨⟨d0,d3⟩,z1,z2⟩:=hU.dims hxm
 have h2e:=hU.h2 _ hxm
 have h2n:=hU.hn _ hxm
 have hHl:=uHead_len h2e h2n (hU.wsz _ hxm)
 have hwz:=hU.wsz _ hxm
 have hge:=hg _ hxm
 obtain ⟨B,hB⟩: ∃B:Nat,B=100000000:=⟨_,rfl⟩
 have hul: ∀d' m,m<l.length→d'≤7→(unf l l.length d' m).length≤B:=fun d' m hm' hd'=>by
  have h1:=unf_len hg hU.h2 hU.hn hU.wsz hU.h6 l.length d' m hm'
  have h3:7^d'≤823543:=Nat.le_trans (Nat.pow_le_pow_right (by omega) hd') (by decide)
  generalize 7^d'=y at*
  omega
 have hunf:unf l l.length d a=match d with|0=>uHead l[a]|d'+1=>((uHead l[a]++ [40])++Lib.join (partsB l l.length (unf l l.length d') a) [44])++ [41]:=by
  rw[←hma]
  cases d<;>rfl
 have hpu: ∀d',d=d'+1→(l[a].kind=12→partsB l l.length (unf l l.length d') a=csB ((lvs l l.length a).map (unf l l.length d'))∧dep l l.length a)∧(l[a].kind≠12→partsB l l.length (unf l l.length d') a=(eN l[a]).map (unf l l.length d')):=fun d' _=>by
  rw[←hma]
  refine ⟨fun h=>?_,fun h=>?_⟩
  ·have hu:isU (mdAt l a)=true:=by simpa[isU] using h
   exact ⟨by unfold partsB;rw[if_pos hu],dep_all hU.hc ha hu⟩
  ·have hu:isU (mdAt l a)=false:=by simpa[isU] using h
   unfold partsB
   rw[if_neg (by rw[hu];simp)]
 have hpl: ∀d',d'≤7→(Lib.join (partsB l l.length (unf l l.length d') a) [44]).length≤6*(B+1):=fun d' hd'=>by
  obtain ⟨p1,p2⟩:=parts_few hg hU.h2 hU.h6 l.length (unf l l.length d') ha
  have h1:(Lib.join (partsB l l.length (unf l l.length d') a) [44]).length≤(partsB l l.length (unf l l.length d') a).length*(B+1):=join_len fun y hy=>by
   obtain ⟨z,hz,rfl⟩:=p2 y hy
   exact hul d' z hz hd'
  exact Nat.le_trans h1 (Nat.mul_le_mul_right (B+1) p1)
 have hlt: ∀z∈eN l[a],z<l.length:=by rw[←hma];exact fun z hz=>eN_lt hg ha hz
 have hlv:l[a].kind=12→lvs l l.length a≠ []:=fun h=>by
  have hu:isU (mdAt l a)=true:=by rw[hma];simpa[isU] using h
  exact lvs_ne hU ha hu
 have hlvl:(lvs l l.length a).length≤64:=by
  have h1:=lvs_len hU.h2 hg l.length a ha
  have h3:2^l.length≤2^6:=Nat.pow_le_pow_right (by omega) hU.h6
  omega
 rw[hunf]
 clear hunf
 generalize l[a]=x at*
 have hcl:=g6.all
 simp[g4,g5]
 rw[store_new _ _ c _ _ 6 hcl.1 rfl hcl.2]
 have hb1:(m++ [ABlk.own c 39 none])[m.length]? =some (.own c 39 none):=by simp
 have hm1:m<+:m++ [ABlk.own c 39 none]:=List.prefix_append _ _
 obtain ⟨e,nm,rfl,he,hnm⟩:=g6
 generalize m++ [ABlk.own [AVal.int .i64 x.kind,AVal.int .i64 x.size,e,nm,AVal.int .i64 x.dims,AVal.bool x.flex] 39 none]=m1 at*
 generalize m.length=b7 at*
 have w1:IntKind.i64.wrap (97+x.kind)=97+x.kind:=wrap64 (by omega) (by omega)
 have w2:IntKind.i64.wrap (51+x.size)=51+x.size:=wrap64 (by omega) (by omega)
 have w3:IntKind.i64.wrap (48+x.dims)=48+x.dims:=wrap64 (by omega) (by omega)
 have v1:IntKind.u8.wrap (97+x.kind)=97+x.kind:=wrapU8 (by omega) (by omega)
 have v2:IntKind.u8.wrap (51+x.size)=51+x.size:=wrapU8 (by omega) (by omega)
 have v3:IntKind.u8.wrap (48+x.dims)=48+x.dims:=wrapU8 (by omega) (by omega)
 have hb3:b2sE (m1++ [ABlk.own [.int .u8 (97+x.kind),.int .u8 (51+x.size),.int .u8 (48+x.dims)] 5 none]) (.slice m1.length 0 3 3 none)=some (.str ⟨(hd3 x).toArray⟩):=b2s3 m1 _ _ _ ⟨by omega,by omega,by omega⟩
 have hm12:m1<+:m1++ [ABlk.own [.int .u8 (97+x.kind),.int .u8 (51+x.size),.int .u8 (48+x.dims)] 5 none]:=List.prefix_append _ _
 have hx3:(hd3 x).length=3:=rfl
 obtain ⟨T0,hT0⟩: ∃T,T=hd3 x:=⟨_,rfl⟩
 rw[←hT0] at hb3 hx3
 simp[bx (own_read hb1),w1,w2,w3,v1,v2,v3,fillA,setN]
 rw[hb3]
 simp
 generalize m1++ [ABlk.own [AVal.int .u8 (97+x.kind),AVal.int .u8 (51+x.size),AVal.int .u8 (48+x.dims)] 5 none]=m2 at*
 have hb2:=own_mono hb1 hm12
 have hm02:=hm1.trans hm12
 clear hb3 hb1 w1 w2 w3 v1 v2 v3
 simp[bx (own_read hb2)]
 obtain ⟨T1,hT1⟩: ∃T,T=T0++if x.flex=true then [33] else []:=⟨_,rfl⟩
 have hl1:T1.length≤4:=by rw[hT1,List.length_append];split<;>simp<;>omega
 obtain ⟨J,hJ⟩: ∃J:AFrame→AMem→Prop,∀f m',J f m'↔(f.forget [0,1,2,7,8]=mat 85 [(0,s),(1,.int .i64 a),(2,.int .i64 d),(7,.ptr b7 0),(8,strB T1)]∧m'=m2):=⟨_,fun _ _=>Iff.rfl⟩
 refine bbind_J J ?_ ?_
 ·cases hfx:x.flex
  ·have:T1=T0:=by rw[hT1,hfx];simp
   subst this
   simp
   exact (hJ _ _).2 ⟨by simp,rfl⟩
  ·have hadd:binStr .add ⟨T0.toArray⟩ ⟨#[33]⟩=some (.str ⟨T1.toArray⟩):=by
    rw[hT1,hfx,if_pos rfl]
    exact str_addB T0 [33] (by simp;omega)
   simp[hadd]
   exact (hJ _ _).2 ⟨by simp,rfl⟩
 intro f m2 hJ1
 obtain ⟨hf1,rfl⟩:=(hJ _ _).1 hJ1
 clear hJ1 hJ J
 simp[hf1,bx (own_read hb2)]
 have hnS:Sl m2 1 nm (nmsL x).length ((nmsL x).map strB):=by
  have h:=Sl.mono hnm hm02
  rw[nms_cells] at h
  simpa[nmsL] using h
 have hnl:(nmsL x).length=x.names.length:=by simp[nmsL]
 have hjl:(Lib.join (nmsL x) [47]).length≤82:=by
  have h:(Lib.join (nmsL x) [47]).length≤(nmsL x).length*41:=join_len fun y hy=>by
   obtain ⟨t,ht,rfl⟩:=List.mem_map.1 hy
   have:=hwz t ht
   rw[Array.length_toList]
   exact this
  omega
 refine C_of (k68 nm (nmsL x) 47 m2 hnS (by omega) (by omega)) ?_
 rintro _ m2 ⟨rfl,rfl⟩
 obtain ⟨T2,hT2⟩: ∃T,T=T1++Lib.join (nmsL x) [47]:=⟨_,rfl⟩
 have hadd2:binStr .add ⟨T1.toArray⟩ ⟨(Lib.join (nmsL x) [47]).toArray⟩=some (.str ⟨T2.toArray⟩):=by rw[hT2];exact str_addB _ _ (by omega)
 have hl2:T2.length≤86:=by rw[hT2,List.length_append];omega
 generalize hJN:Lib.join (nmsL x) [47]=JN at*
 simp[hadd2,bx (own_read hb2)]
 obtain ⟨T3,hT3⟩: ∃T,T=T2++if x.kind=12 then [] else List.replicate x.elems.length 46:=⟨_,rfl⟩
 have hH:uHead x=T3:=by
  rw[hT3,hT2,hT1,hT0,←hJN]
  rfl
 have hl3:T3.length≤88:=by rw[←hH];exact hHl
 rw[hH]
 clear hT0 hT1
 obtain ⟨J,hJ⟩: ∃J:AFrame→AMem→Prop,∀f m',J f m'↔(f.forget [0,1,2,7,8]=mat 85 [(0,s),(1,.int .i64 a),(2,.int .i64 d),(7,.ptr b7 0),(8,strB T3)]∧m'=m2):=⟨_,fun _ _=>Iff.rfl⟩
 refine bbind_J J ?_ ?_
 ·by_cases hk:x.kind=12
  ·have:T3=T2:=by rw[hT3,if_pos hk,List.append_nil]
   subst this
   simp[hk]
   exact (hJ _ _).2 ⟨by simp,rfl⟩
  ·have hadd3:binStr .add ⟨T2.toArray⟩ ⟨(List.replicate x.elems.length (46:UInt8)).toArray⟩=some (.str ⟨T3.toArray⟩):=by
    rw[hT3,if_neg hk]
    exact str_addB _ _ (by rw[List.length_replicate];omega)
   simp[bneT hk,bx (own_read hb2),he.len]
   refine C_of (k69d x.elems.length (by omega) m2) ?_
   rintro _ m3 ⟨rfl,rfl⟩
   generalize List.replicate x.elems.length (46:UInt8)=RD at*
   simp[hadd3]
   exact (hJ _ _).2 ⟨by simp,rfl⟩
 intro f m2 hJ1
 obtain ⟨hf1,rfl⟩:=(hJ _ _).1 hJ1
 clear hJ1 hJ J hT2 hT3 hadd2
 simp[hf1]
 cases d with
 |zero=>
  simp
  exact hm02
 |succ d=>
  have hnz: ¬((d:Int)+1)=0:=by omega
  have hwd:IntKind.i64.wrap ((d:Int)+1-1)=(d:Int):=by rw[wrap64 (by omega) (by omega)];omega
  have hwd':IntKind.i64.wrap (d:Int)=(d:Int):=wrap64 (by omega) (by omega)
  simp[beqF hnz,bx (own_read hb2)]
  have hIH:=ih d rfl
  obtain ⟨pu1,pu2⟩:=hpu d rfl
  have hjp:=hpl d (by omega)
  have hm002:=hm.trans hm02
  generalize hP:partsB l l.length (unf l l.length d) a=P at*
  have hPl:P.length≤6:=by rw[←hP];exact (parts_few hg hU.h2 hU.h6 l.length _ ha).1
  obtain ⟨J,hJ⟩: ∃J:AFrame→AMem→Prop,∀f m',J f m'↔(∃o,f.forget [8,9]=mat 85 [(8,strB T3),(9,o)]∧m2<+:m'∧OwL strB m2.length m' 9 o P):=⟨_,fun _ _=>Iff.rfl⟩
  refine bbind_J J ?_ ?_
  ·by_cases hk:x.kind=12
   ·obtain ⟨pu1,hdep⟩:=pu1 hk
    simp[hk,hwd,hwd']
    refine C_of (k70 hU s m0 hs d hIH l.length a ha hdep (Nat.le_refl _) m2 hm002) ?_
    rintro o m3 ⟨hm3,hO⟩
    simp
    refine C_of (k71 o _ m2.length 9 m3 hO (by simp[hlv hk]) (by rw[List.length_map];omega)) ?_
    rintro _ m4 ⟨rfl,hch,hO4⟩
    have hm24:m2<+:m4:=hch.pre hm3 fun b hb e=>by have:=(hO.blk_lo e).1;omega
    have hsl:(srt ((lvs l l.length a).map (unf l l.length d))).length=(lvs l l.length a).length:=by rw[←List.length_map (f:=unf l l.length d)];exact (List.mergeSort_perm _ _).length_eq
    simp
    refine C_of (k72 o 9 m2.length m2 (Nat.le_refl _) _ (by rw[hsl];omega) m4 hm24 hO4) ?_
    rintro o5 m5 ⟨hm5,_,hO5,_⟩
    simp
    exact (hJ _ _).2 ⟨o5,by simp,hm5,by rw[pu1];exact hO5⟩
   ·have pu2:=pu2 hk
    simp[beqF hk,bx (own_read hb2),he.len]
    have heN:(eN x).length=x.elems.length:=eN_len x
    obtain ⟨I,hI⟩: ∃I:Nat→AFrame→AMem→Prop,∀q f m',I q f m'↔(∃(i:Nat) (o:AVal),i+q=x.elems.length∧f=h35_0 s (.int .i64 ((d:Int)+1)) (strB T3) o e (.int .i64 x.elems.length) (.int .i64 i)∧m2<+:m'∧OwL strB m2.length m' 9 o (((eN x).take i).map (unf l l.length d))):=⟨_,fun _ _ _=>Iff.rfl⟩
    refine W_JB J ?_ ?_
    ·refine W_loop I x.elems.length ((hI _ _ _).2 ⟨0,.nilslice,by simp,by simp,List.prefix_refl _,by simpa using OwL.nil⟩) ?_
     rintro q fr m3 hIn
     obtain ⟨i,o,hq,rfl,hm3,hO⟩:=(hI _ _ _).1 hIn
     clear hIn
     simp
     refine bbind_dec (fun hil=>?_) fun hil=>?_
     rotate_left
     ·have:i=x.elems.length:=by omega
      subst this
      rw[List.take_of_length_le (by omega),←pu2] at hO
      simp
      exact (hJ _ _).2 ⟨o,by simp,hm3,hO⟩
     have hil:i<x.elems.length:=by omega
     have hw:=step64 (k:=i) (n:=x.elems.length) hil (by omega)
     obtain ⟨b1,o1,p1,p2⟩:=(he.mono (hm02.trans hm3)).at (i:=i) hil
     have hzb:=hge _ (List.getElem_mem hil)
     obtain ⟨z,hz⟩: ∃z:Nat,x.elems[i]=(z:Int):=⟨x.elems[i].toNat,by omega⟩
     have hzl:z<l.length:=by omega
     have hze:(eN x)[i]'(by omega)=z:=by simp[eN,hz]
     have htk:(eN x).take (i+1)=(eN x).take i++ [z]:=by rw[List.take_add_one,List.getElem?_eq_getElem (by omega),hze];rfl
     rw[hz] at p2
     simp[p1,p2,hwd,hwd']
     refine C_of (hIH z hzl m3 (hm002.trans hm3)) ?_
     rintro _ m4 ⟨rfl,hm4⟩
     generalize hT:unf l l.length d z=T at*
     simp[fillA,setN]
     have hm45:m4<+:m4++ [ABlk.own [strB T] 9 none]:=List.prefix_append _ _
     have hsc:sliceCells (m4++ [ABlk.own [strB T] 9 none]) 1 (.slice m4.length 0 1 1 none)=some (1,[strB T]):=cells_lit _ _ _ _
     generalize m4++ [ABlk.own [strB T] 9 none]=m5 at*
     have hm35:=hm4.trans hm45
     obtain ⟨o',m6,happ,hch,hO6,_⟩:=(hO.mono hm35).push (by have:=(hm3.trans hm35).length_le;omega) (by_:=16) (by omega) T (by simp only[List.length_map,List.length_take];omega)
     simp[hsc,happ,hw]
     refine ⟨q-1,by omega,(hI _ _ _).2 ⟨i+1,o',by omega,by simp,hch.pre (hm3.trans hm35) fun b hb e=>by have:=(hO.blk_lo e).1;omega,?_⟩⟩
     rw[htk,List.map_append,List.map_cons,List.map_nil,hT]
     exact hO6
    intro f m3 hJ1
    exact hJ1
  intro f m3 hJ1
  obtain ⟨o,hf3,hm3,hO⟩:=(hJ _ _).1 hJ1
  clear hJ1 hJ J
  have hadd4:binStr .add ⟨T3.toArray⟩ ⟨#[40]⟩=some (.str ⟨(T3++ [40]).toArray⟩):=str_addB T3 [40] (by simp;omega)
  obtain ⟨T4,hT4⟩: ∃T,T=T3++ [40]:=⟨_,rfl⟩
  have hl4:T4.length≤89:=by rw[hT4,List.length_append];simp;omega
  rw[←hT4] at hadd4 ⊢
  simp[hf3,hadd4]
  refine C_of (k68 o P 44 m3 (Ow.sl hO) (by omega) (by omega)) ?_
  rintro _ m3 ⟨rfl,rfl⟩
  generalize Lib.join P [44]=JP at*
  obtain ⟨T5,hT5⟩: ∃T,T=T4++JP:=⟨_,rfl⟩
  have hadd5:binStr .add ⟨T4.toArray⟩ ⟨JP.toArray⟩=some (.str ⟨T5.toArray⟩):=by rw[hT5];exact str_addB _ _ (by omega)
  obtain ⟨T6,hT6⟩: ∃T,T=T5++ [41]:=⟨_,rfl⟩
  have hadd6:binStr .add ⟨T5.toArray⟩ ⟨#[41]⟩=some (.str ⟨T6.toArray⟩):=by rw[hT6];exact str_addB T5 [41] (by rw[hT5];simp;omega)
  rw[←hT5,←hT6]
  simp[hadd5,hadd6]
  exact hm02.trans hm3
end Go.Proofs.YtlniliigcnedmaaGreatDoor
namespace Go.Proofs.YtlniliigcnedmaaGreatDoor
open Go Ax
set_option maxRecDepth 100000
theorem toB_u8: ∀bs:List UInt8,toB (bs.map u8A)=some bs
 | []=>rfl
 |x::bs=>by
  have h:(0:Int)≤((x.toNat:Nat):Int)∧((x.toNat:Nat):Int)<256:=by have:=x.toNat_lt;omega
  simp only[List.map_cons,u8A,toB,if_pos h,toB_u8 bs,Option.map_some]
  simp
theorem k46 (b lo:Nat) (ad bf x y z:AVal) (bs:List UInt8) (m:AMem) (hb:m[b]? =some (.own [ad,bf,x,y,z] 71 none)) (hO:OwL u8A lo m 5 bf bs) (hne:bs≠ []) (hsz:bs.length≤1099511627776):
  ACalls Tryz.prog 46 [.ptr b 0] m fun v m'=>v= .str ⟨bs.toArray⟩∧Ch (fun c=>bf.blk=some c) m m':=by
 have hl:0<bs.length:=List.length_pos_iff.2 hne
 refine w46 ?_
 rcases hO with ⟨_,h,_⟩|⟨b',o,cap,gr,bl,gr',rfl,h0,h1,h2,_⟩
 ·omega
 simp
 refine W_draw (fun _ _ _=>True) (by simp[maxDst]) ?_
 refine D_pc 0 10 [10,11] ?_
 simp[bx (own_read hb),sdataE,hl]
 intro fs1 hf1
 refine D_X rfl rfl fun m2 hm2 _=>?_
 have h12:=own_mono h1 hm2
 have hcond:(0:Int)<bs.length∧(bs.length:Int)≤9223372036854775807:=by omega
 have h2':readN bl o bs.length=some (bs.map u8A):=by simpa using h2
 simp[lateOf,ustrE,hcond,h12,h2',toB_u8,hl]
 refine D_pc 11 1 [] ?_ (hfs:=fun _ _=>trivial)
 simp
 intro fs2 hf2
 refine D_end fun m3 hm3 _=>?_
 simp
 exact (((Ch.of_prefix hm2).trans (Ch.setS (S:=Eq b') _ rfl)).trans (.of_prefix hm3)).weaken fun c _ e=>by rw[←e];rfl
theorem txM_ne (l:List Md) (f:Nat) (s:List Nat) (m:Nat):(txM l (f+1) s m).1≠ []:=by
 unfold txM
 split
 ·unfold plainT kindT
  simp only[ne_eq,List.append_eq_nil_iff,not_and]
  intro _
  repeat' split
  all_goals simp
 ·split
  ·simp
  ·unfold bodyT
   repeat' split
   all_goals simp
noncomputable def textV (l:List Md) (x:Int):List UInt8:=if rightI l [x]≠0 then [] else textT l x.toNat
theorem rightN1 {l:List Md} {u:Int} (h:rightI l [u]=0):checkI l=0∧ ∃a:Nat,u=a∧a<l.length:=by
 unfold rightI at h
 split at h
 ·omega
 ·rename_i h1
  split at h
  ·omega
  ·rename_i h2
   simp[outB] at h2
   exact ⟨by omega,u.toNat,by omega,by omega⟩
theorem text_len {l:List Md} (hc:checkI l=0) (hl:l.length≤60) {x:Nat} (hx:x<l.length):(txM l (l.length+1) [] x).1.length≤600000:=by
 obtain ⟨h1,h2,_⟩:=txT_of hc hl
 have:=txM_grow h1 h2 (l.length+1) [] x Seen.nil hx
 have h3:=this.len
 have h4:=this.seen.len
 simp only[List.length_nil] at h3
 omega
set_option maxHeartbeats 4000000 in
theorem k15 (s:AVal) (l:List Md) (x:Int) (m:AMem) (hs:RTab m s l) (hsm: ∀y∈l,smallN y) (hT:checkI l=0→T13 l) (hl:l.length<2^20):
  ACalls Tryz.prog 15 [s,.int .i64 x] m fun v m'=>m<+:m'∧v= .tuple [.str ⟨(textV l x).toArray⟩,.int .i64 (rightI l [x])]:=by
 refine w15 ?_
 simp[fillA,setN]
 have hA:=OwL.new (f:=AVal.int .i64) m 3 [x]
 have hm1:m<+:m++ [.own [.int .i64 x] 3 none]:=List.prefix_append _ _
 simp at hA
 generalize AVal.slice m.length 0 1 1 none=t1 at*
 generalize m++ [.own [.int .i64 x] 3 none]=m1 at*
 refine C_of (k43 s t1 l [x] m1 (hs.mono hm1) hA.ints hsm (by omega) (by simp)) ?_
 rintro _ m2 ⟨rfl,hm2⟩
 have hm02:=hm1.trans hm2
 by_cases hri:rightI l [x]=0
 rotate_left
 ·simp[bneT hri,hri,textV]
  exact hm02
 obtain ⟨hc,a,rfl,ha⟩:=rightN1 hri
 have hT:=hT hc
 have h60:=hT.t60.len
 have ok:=okT_of hc
 obtain ⟨htx,hfl,hsh⟩:=txT_of hc h60
 simp[hri,textV]
 refine C_of (k44 s l m2 (hs.mono hm02) ok.good hT.t60 hsm ok.h64) ?_
 rintro v3 m3 ⟨hm3,ds,kd,hX,hD⟩
 have hm03:=hm02.trans hm3
 obtain ⟨hs1,hs2⟩:=hs.self
 obtain ⟨hv1,hv2⟩:=(Ow.sl hX).self
 simp[fillA,setN,hs1,hs2,hv1,hv2]
 have hmap:(m3++ [ABlk.mp [],ABlk.own [AVal.nilptr,AVal.nilslice,s,v3,AVal.map m3.length] 71 none])[m3.length]? =some (.mp []):=by simp
 have hblk:(m3++ [ABlk.mp [],ABlk.own [AVal.nilptr,AVal.nilslice,s,v3,AVal.map m3.length] 71 none])[m3.length+1]? =some (.own [AVal.nilptr,AVal.nilslice,s,v3,AVal.map m3.length] 71 none):=by simp
 have hm4:m3<+:m3++ [ABlk.mp [],ABlk.own [AVal.nilptr,AVal.nilslice,s,v3,AVal.map m3.length] 71 none]:=List.prefix_append _ _
 generalize m3++ [ABlk.mp [],ABlk.own [AVal.nilptr,AVal.nilslice,s,v3,AVal.map m3.length] 71 none]=m4 at*
 have hW:WS m3 (m3.length+1) m3.length s v3 ds m4 .nilslice [] []:=⟨⟨_,hblk,.inl rfl⟩,hmap,OwL.nil,hm4,by omega,by omega⟩
 have H:WT l m3 s v3 ds:=⟨htx,hfl,hsh,hT,hsm,hs.mono hm03,ints_of_nat hX,hD.len,hD.sameOrd⟩
 have htl:=text_len hc h60 ha
 refine C_of (mode_ok H (l.length+1) a m4 .nilslice [] [] hW Seen.nil ha (by simp) (by simp;omega)) ?_
 rintro _ m5 ⟨bf5,hW5,hC5⟩
 obtain ⟨ad5,hb5,had5⟩:=hW5.blk
 simp only[List.nil_append] at hW5
 simp
 refine C_of (k46 _ m3.length ad5 bf5 s v3 _ _ m5 hb5 hW5.buf (txM_ne l _ [] a) (by omega)) ?_
 rintro _ m6 ⟨rfl,hch6⟩
 simp
 refine ⟨hm03.trans (hch6.pre hW5.pre fun c hc e=>by have:=(hW5.buf.blk_lo e).1;omega),?_⟩
 rw[hri]
 exact ⟨rfl,rfl⟩
end Go.Proofs.YtlniliigcnedmaaGreatDoor
namespace Go.Proofs.YtlniliigcnedmaaGreatDoor
open Go Ax
set_option maxRecDepth 100000
structure WU (l:List Md) (m0:AMem) (b:Nat) (sT rk:AVal) (m:AMem) (sn:AVal) (s:List Nat):Prop where
 blk:m[b]? =some (.own [sT,rk,sn] 77 none)
 seen:OwL natI m0.length m 3 sn (s.map (RR l))
 pre:m0<+:m
 lo:m0.length≤b
section
variable {l:List Md} {m0:AMem} {b:Nat} {sT rk:AVal} {m m':AMem} {sn sn':AVal} {s:List Nat}
theorem WU.mono (h:WU l m0 b sT rk m sn s) (hm:m<+:m'):WU l m0 b sT rk m' sn s:=⟨own_mono h.blk hm,h.seen.mono hm,h.pre.trans hm,h.lo⟩
theorem WU.lt (h:WU l m0 b sT rk m sn s):b<m.length:=(List.getElem?_eq_some_iff.1 h.blk).1
end
end Go.Proofs.YtlniliigcnedmaaGreatDoor
namespace Go.Proofs.YtlniliigcnedmaaGreatDoor
open Go Ax
set_option maxRecDepth 100000
structure WTu (l:List Md) (m0:AMem) (sT rk:AVal):Prop where
 tx:TxT l
 full:Full l
 sh: ∀x∈l,0≤x.kind∧x.kind<14∧shaped x
 tab:RTab m0 sT l
 rks:RInts m0 rk ((Rl l (l.length+1)).map fun z:Nat=>(z:Int))
end Go.Proofs.YtlniliigcnedmaaGreatDoor
namespace Go.Proofs.YtlniliigcnedmaaGreatDoor
open Go Ax
set_option maxRecDepth 100000
def blkAX (n:Nat):List ABlk:=
 [.own [.int .i64 1,.int .i64 2] 3 none,.own [.str ⟨#[118]⟩,.str ⟨#[110,101,120,116]⟩] 9 none,.own [.int .i64 3] 3 none,.own [.int .i64 1,.int .i64 4] 3 none,.own [.str ⟨#[118]⟩,.str ⟨#[110,101,120,116]⟩] 9 none,.own [.int .i64 0] 3 none,
  .own [.int .i64 11,.int .i64 0,.slice n 0 2 2 none,.slice (n+1) 0 2 2 none,.int .i64 0,.bool false,.int .i64 3,.int .i64 0,.nilslice,.nilslice,.int .i64 0,.bool false,
   .int .i64 9,.int .i64 0,.slice (n+2) 0 1 1 none,.nilslice,.int .i64 0,.bool false,.int .i64 11,.int .i64 0,.slice (n+3) 0 2 2 none,.slice (n+4) 0 2 2 none,.int .i64 0,.bool false,
   .int .i64 9,.int .i64 0,.slice (n+5) 0 1 1 none,.nilslice,.int .i64 0,.bool false] 39 none]
theorem rdAX {m bs:List ABlk} {k:Nat} {cs:List AVal} {ty:TypeId} {g:Option Nat} (h:bs[k]? =some (.own cs ty g)):readB (m++bs) (m.length+k)=some cs:=by
 simp[readB,List.getElem?_append_right,h,ABlk.cells]
theorem tabA_okX (m:AMem):RTab (m++blkAX m.length) (.slice (m.length+6) 0 5 5 none) tabAX:=by
 have r:=fun k cs ty g h=> @rdAX m (blkAX m.length) k cs ty g h
 have i0:RInts (m++blkAX m.length) (.slice m.length 0 2 2 none) [1,2]:= .inr ⟨_,_,_,_,rfl,⟨by decide,.inl rfl⟩,.inr ⟨by decide,_,r 0 _ _ _ rfl,rfl⟩⟩
 have i1:RStrs (m++blkAX m.length) (.slice (m.length+1) 0 2 2 none) [nmVX,nmNX]:= .inr ⟨_,_,_,_,rfl,⟨by decide,.inl rfl⟩,.inr ⟨by decide,_,r 1 _ _ _ rfl,rfl⟩⟩
 have i2:RInts (m++blkAX m.length) (.slice (m.length+2) 0 1 1 none) [3]:= .inr ⟨_,_,_,_,rfl,⟨by decide,.inl rfl⟩,.inr ⟨by decide,_,r 2 _ _ _ rfl,rfl⟩⟩
 have i3:RInts (m++blkAX m.length) (.slice (m.length+3) 0 2 2 none) [1,4]:= .inr ⟨_,_,_,_,rfl,⟨by decide,.inl rfl⟩,.inr ⟨by decide,_,r 3 _ _ _ rfl,rfl⟩⟩
 have i4:RStrs (m++blkAX m.length) (.slice (m.length+4) 0 2 2 none) [nmVX,nmNX]:= .inr ⟨_,_,_,_,rfl,⟨by decide,.inl rfl⟩,.inr ⟨by decide,_,r 4 _ _ _ rfl,rfl⟩⟩
 have i5:RInts (m++blkAX m.length) (.slice (m.length+5) 0 1 1 none) [0]:= .inr ⟨_,_,_,_,rfl,⟨by decide,.inl rfl⟩,.inr ⟨by decide,_,r 5 _ _ _ rfl,rfl⟩⟩
 refine ⟨_,.inr ⟨_,_,_,_,rfl,⟨by decide,.inl rfl⟩,.inr ⟨by decide,_,r 6 _ _ _ rfl,rfl⟩⟩,fun i x hx=>?_⟩
 rcases tabA_atX hx with ⟨rfl,rfl⟩|⟨rfl,rfl⟩|⟨rfl,rfl⟩|⟨rfl,rfl⟩|⟨rfl,rfl⟩
 ·exact ⟨_,_,rfl,i0,i1⟩
 ·exact ⟨_,_,rfl,Sl.nil,Sl.nil⟩
 ·exact ⟨_,_,rfl,i2,Sl.nil⟩
 ·exact ⟨_,_,rfl,i3,i4⟩
 ·exact ⟨_,_,rfl,i5,Sl.nil⟩
theorem smallAX: ∀x∈tabAX,smallN x:=by
 intro x hx
 simp only[tabAX,List.mem_cons,List.mem_nil_iff,or_false] at hx
 rcases hx with rfl|rfl|rfl|rfl|rfl
 ·exact ⟨by decide,by decide,by decide⟩
 ·exact ⟨by decide,by decide,by decide⟩
 ·exact ⟨by decide,by decide,by decide⟩
 ·exact ⟨by decide,by decide,by decide⟩
 ·exact ⟨by decide,by decide,by decide⟩
set_option maxHeartbeats 4000000 in
theorem k13 (m:AMem):ACalls Tryz.prog 13 [] m fun v m'=>v= .bool true∧m<+:m':=by
 refine w13 ?_
 simp[fillA,setN]
 have hT:=tabA_okX m
 have hm1:m<+:m++blkAX m.length:=List.prefix_append _ _
 simp only[blkAX] at hT hm1
 generalize m++_=m1 at*
 generalize AVal.slice (m.length+6) 0 5 5 none=s at*
 have hri:rightI tabAX [2]=0:=by
  unfold rightI
  rw[if_neg (by rw[checkAX];simp),if_neg (by decide)]
 have hT13:T13 tabAX:=T13.of (by decide)
 refine C_of (k15 s tabAX 2 m1 hT smallAX (fun _=>hT13) (by decide)) ?_
 rintro _ m2 ⟨hm2,rfl⟩
 have htx:textV tabAX 2=textT tabAX 2:=by unfold textV;rw[if_neg (by simp[hri])];rfl
 rw[hri,htx,textAX]
 simp
 refine C_of (k17 s tabAX 0 3 m2 (hT.mono hm2) smallAX hT13 checkAX (by decide) (by decide)) ?_
 rintro _ m3 ⟨rfl,hm3⟩
 have hm13:=hm2.trans hm3
 simp[rr03]
 have hnm: ∀x∈tabAX,x.names.length<2^40:=by decide
 refine C_of (k28f s tabAX m3 (hT.mono hm13) smallAX hnm hT13 checkAX) ?_
 rintro v4 m4 ⟨hm4,ds,kd,hD,h⟩
 obtain ⟨hds,rfl⟩:=denseAX hD
 rcases h with ⟨t,n,rfl,hn,ht,_⟩|⟨_,k,hk,hb⟩
 rotate_left
 ·exact absurd hb (notBadAX hds hk)
 have htl:=ht.tab.len
 rw[redT_len] at htl
 have hni:=ints_of_nat hn
 subst hds
 have hse: ∀x:ByteArray,binStr .eql x x=some (.bool true):=fun x=>by simp[binStr]
 have hw0:IntKind.i64.wrap 0=0:=wrap64 (by omega) (by omega)
 simp[hse,htl,fillA,setN,hw0]
 have hA:RInts (m4++ [ABlk.own [AVal.int .i64 2,.int .i64 0,.int .i64 1,.int .i64 2,.int .i64 1] 3 none]) (.slice m4.length 0 5 5 none) [2,0,1,2,1]:=(OwL.new (f:=AVal.int .i64) m4 3 [2,0,1,2,1]).ints
 have hm5:m4<+:m4++ [ABlk.own [AVal.int .i64 2,.int .i64 0,.int .i64 1,.int .i64 2,.int .i64 1] 3 none]:=List.prefix_append _ _
 refine C_of (k27 n _ [2,0,1,2,1] _ (hni.mono hm5) hA (by decide)) ?_
 rintro _ m6 ⟨rfl,hm6⟩
 simp
 exact hm1.trans (hm13.trans (hm4.trans (hm5.trans hm6)))
end Go.Proofs.YtlniliigcnedmaaGreatDoor
namespace Go.Proofs.YtlniliigcnedmaaGreatDoor
open Go Ax
set_option maxRecDepth 100000
theorem Room.nm {l:List Md} (h:Room l): ∀x∈l,x.names.length<2^40:=fun x hx=>(h.h40 x hx).2
end Go.Proofs.YtlniliigcnedmaaGreatDoor
namespace Go.Proofs.YtlniliigcnedmaaGreatDoor
open Go Ax
open Relation
set_option maxRecDepth 100000
def DMap (l0 l:List Md) (es:List (Int×AVal)):Prop:= ∀k v,findE es k=some v→ ∃j n:Nat,k=j∧v= .int .i64 n∧j<l0.length∧DefL l [j] l [n]
theorem DMap.ext {l0 l l':List Md} {es:List (Int×AVal)} (h:DMap l0 l es) (e0:Ext l0 l) (hc:checkI l=0) (e:Ext l l') (hn:l'.length<512):DMap l0 l' es:=fun k v hk=>by
 obtain ⟨j,n,a,b,c,d⟩:=h k v hk
 have:=e0.len
 exact ⟨j,n,a,b,c,d.stable hc (by simp;omega) e hn⟩
end Go.Proofs.YtlniliigcnedmaaGreatDoor
namespace Go.Proofs.YtlniliigcnedmaaGreatDoor
open Go Ax
open Relation
set_option maxRecDepth 100000
theorem chunk_set {cs:List AVal} {v:AVal} {i j q:Nat} (hj:j<6):chunk (cs.set (i*6+j) v) q=if q=i then (chunk cs i).set j v else chunk cs q:=by
 unfold chunk
 rw[List.drop_set]
 split
 ·rename_i h
  rw[if_neg (by omega)]
 ·rename_i h
  rw[List.take_set]
  by_cases hq:q=i
  ·subst hq
   rw[if_pos rfl,show q*6+j-q*6=j by omega]
  ·rw[if_neg hq]
   apply List.set_eq_of_length_le
   simp
   omega
def OwC (lo:Nat) (m:AMem) (s:AVal) (l:List Md):Prop:= ∃cs,Ow lo m 6 39 s l.length cs∧ ∀(i:Nat) x,l[i]? =some x→ ∀m',Ch (fun b=>s.blk=some b) m m'→RMode m' (chunk cs i) x
theorem OwC.at {lo:Nat} {m:AMem} {s:AVal} {l:List Md} (h:OwC lo m s l) {i:Nat} (hi:i<l.length): ∃b o e nm,s.blk=some b∧(∀k,iaddrE 6 s (.int k i)=some (.ptr b o))∧loadE m 1 false (.ptr b (o+2))=some e∧loadE m 1 false (.ptr b (o+3))=some nm∧RInts m e l[i].elems∧RStrs m nm l[i].names∧
  ∀(t tn:AVal) (m2:AMem),m<+:m2→OwL (AVal.int .i64) m.length m2 3 t l[i].elems→OwL AVal.str m.length m2 9 tn l[i].names→ ∃m3,storeE m2 1 (.ptr b (o+2)) t=some (.undef,m3)∧ ∀m4,m3<+:m4→ ∃m5,storeE m4 1 (.ptr b (o+3)) tn=some (.undef,m5)∧Ch (fun c=>s.blk=some c) m m5∧OwC lo m5 s l:=by
 obtain ⟨cs,h1,h2⟩:=h
 obtain ⟨b,o,hb,hp,_⟩:=h1.store hi
 obtain ⟨b',o',hp',hl',_⟩:=h1.sl.at hi
 have:=hp .i64
 rw[hp' .i64] at this
 simp only[Option.some.injEq,AVal.ptr.injEq] at this
 obtain ⟨rfl,rfl⟩:=this
 have hcl:=h1.sl.length
 have hM:=h2 i _ (List.getElem?_eq_getElem hi) m (.refl _ _)
 obtain ⟨e,nm,c0,c1,c2,c3,c4,c5,he,hnm,hcc⟩:=hM.get
 have hget: ∀j,j<6→(chunk cs i)[j]? =cs[i*6+j]? :=fun j hj=>by
  unfold chunk
  rw[List.getElem?_take,if_pos hj,List.getElem?_drop]
 have hbl:=(h1.blk_lo hb).2
 refine ⟨b',o',e,nm,hb,hp,by rw[hl' 2 (by omega),←hget 2 (by omega)];exact c2,by rw[hl' 3 (by omega),←hget 3 (by omega)];exact c3,he,hnm,fun t tn m2 hm2 ht htn=>?_⟩
 have ts:=(Ow.sl ht).self
 have tns:=(Ow.sl htn).self
 have hb2: ∀{m2:AMem} {cs2:List AVal},Ow lo m2 6 39 s l.length cs2→ ∀(j:Nat) (v:AVal),j<6→v.cells= [v]→v.one=true→ ∃m',storeE m2 1 (.ptr b' (o'+j)) v=some (.undef,m')∧Ch (fun c=>c=b') m2 m'∧Ow lo m' 6 39 s l.length (cs2.set (i*6+j) v):=fun {m2 cs2} h j v hj h3 h4=>by
  obtain ⟨b2,o2,hbb,hpp,hst⟩:=h.store hi
  have:=hp .i64
  rw[hpp .i64] at this
  simp only[Option.some.injEq,AVal.ptr.injEq] at this
  obtain ⟨rfl,rfl⟩:=this
  obtain ⟨m',g1,g2,g3⟩:=hst j v (by rw[h3];simp;omega) (by rw[h3];simp[h4])
  rw[h3] at g1 g3
  exact ⟨m',g1,g2,g3⟩
 obtain ⟨m3,g1,g2,g3⟩:=hb2 (h1.mono hm2) 2 t (by omega) ts.2 ts.1
 refine ⟨m3,g1,fun m4 hm4=>?_⟩
 obtain ⟨m5,g4,g5,g6⟩:=hb2 (g3.mono hm4) 3 tn (by omega) tns.2 tns.1
 have hch2:Ch (fun c=>s.blk=some c) m2 m5:=((g2.weaken fun c _ h=>by rw[h];exact hb).trans (.of_prefix hm4)).trans (g5.weaken fun c _ h=>by rw[h];exact hb)
 have hch:Ch (fun c=>s.blk=some c) m m5:=(Ch.of_prefix hm2).trans hch2
 refine ⟨m5,g4,hch,_,g6,fun q x hx m' hc=>?_⟩
 rw[chunk_set (by omega)]
 by_cases hq:q=i
 ·subst hq
  rw[if_pos rfl,chunk_set (by omega),if_pos rfl,hcc]
  rw[List.getElem?_eq_getElem hi] at hx
  simp only[Option.some.injEq] at hx
  subst hx
  have hc2:=hch2.trans hc
  refine ⟨t,tn,rfl,OwL.ints (ht.ch hc2 fun c h1 h2=>?_),Ow.sl (htn.ch hc2 fun c h1 h2=>?_)⟩
  ·have:=(ht.blk_lo h1).1
   rw[hb] at h2
   cases h2
   omega
  ·have:=(htn.blk_lo h1).1
   rw[hb] at h2
   cases h2
   omega
 ·rw[if_neg hq,chunk_set (by omega),if_neg hq]
  exact h2 q x hx m' (hch.trans hc)
theorem OwC.mono {lo:Nat} {m m':AMem} {s:AVal} {l:List Md} (h:OwC lo m s l) (hm:m<+:m'):OwC lo m' s l:=by
 obtain ⟨cs,h1,h2⟩:=h
 exact ⟨cs,h1.mono hm,fun i x hx m'' hc=>h2 i x hx m'' ((Ch.of_prefix hm).trans hc)⟩
end Go.Proofs.YtlniliigcnedmaaGreatDoor
namespace Go.Proofs.YtlniliigcnedmaaGreatDoor
open Go Ax
open Relation
set_option maxRecDepth 100000
def FirmAt (l0:List Md) (a b k:Nat) (lk:List Md) (mk:Nat):Prop:=firmI 100 l0 a b=(firmI (100-k) lk mk b).map fun p=>(p.1+k,p.2)
theorem FirmAt.none {l0 lk:List Md} {a b k mk:Nat} (h:FirmAt l0 a b k lk mk) (hk:k<100) (hm: ¬(RR lk mk=RR lk b∨uniB lk mk b=true)) (hd:downI lk mk=none):firmI 100 l0 a b=Option.none:=by
 unfold FirmAt at h
 obtain ⟨F,hF⟩: ∃F,100-k=F+1:=⟨99-k,by omega⟩
 rw[h,hF,firmI,if_neg hm,hd]
 rfl
end Go.Proofs.YtlniliigcnedmaaGreatDoor
namespace Go.Proofs.YtlniliigcnedmaaGreatDoor
open Go Ax
open Relation
set_option maxRecDepth 100000
def DArr (l:List Md) (ds:List Int):Prop:= ∀(j:Nat) v,ds[j]? =some v→v=0∨ ∃n:Nat,v=(n:Int)+1∧DefL l [j] l [n]
theorem DArr.ext {l0 l l':List Md} {ds:List Int} (h:DArr l ds) (hl:ds.length=l0.length) (e0:Ext l0 l) (hc:checkI l=0) (e:Ext l l') (hn:l'.length<512):DArr l' ds:=fun j v hj=>by
 have hjl:=(List.getElem?_eq_some_iff.1 hj).1
 have:=e0.len
 rcases h j v hj with h|⟨n,h1,h2⟩
 ·exact .inl h
 ·exact .inr ⟨n,h1,h2.stable hc (by simp;omega) e hn⟩
end Go.Proofs.YtlniliigcnedmaaGreatDoor
namespace Go.Proofs.YtlniliigcnedmaaGreatDoor
open Go Ax Go.ChangeShapes Go.WideShapes Go.ChangeAt Go.RowKit
set_option maxRecDepth 100000
theorem two_intsZ (m:AMem) (u v:Int):RInts (m++ [.own [.int .i64 u,.int .i64 v] 3 none]) (.slice m.length 0 2 2 none) [u,v]:=by
 have h:=OwL.new (f:=AVal.int .i64) m 3 [u,v]
 simpa using h.ints
end Go.Proofs.YtlniliigcnedmaaGreatDoor
namespace Go.Proofs.YtlniliigcnedmaaGreatDoor
open Go Ax Go.ChangeShapes Go.WideShapes Go.ChangeAt Go.RowKit
set_option maxRecDepth 100000
structure FitR (l:List Md):Prop where
 n:l.length≤10
 sm: ∀x∈l,smallN x
 room:checkI l=0→Room l
end Go.Proofs.YtlniliigcnedmaaGreatDoor
namespace Go.Proofs.YtlniliigcnedmaaGreatDoor
open Go Ax Go.ChangeShapes Go.WideShapes Go.ChangeAt Go.RowKit
set_option maxRecDepth 100000
def laidL:List (String×DataW Unit):= [("math/bits.deBruijn32tab",Rows.laid_math_bits_deBruijn32tab),("math/bits.deBruijn64tab",Rows.laid_math_bits_deBruijn64tab),("internal/strconv.uint64pow10",Rows.laid_internal_strconv_uint64pow10),("environ/alike.words",Rows.laid_environ_alike_words)]
theorem gWords: Tryz.prog.globalNamed "environ/alike.words" =some 0:=by kernel_rfl
noncomputable def tyWords:TypeId:=((Tryz.prog.globals[0]?).map (·.type)).getD 0
theorem gWordsT:(Tryz.prog.globals[0]?).map (·.type)=some tyWords:=by kernel_rfl
theorem underW: Tryz.prog.underlying tyWords=some (.array 9 9):=by kernel_rfl
theorem cells9: Tryz.prog.cellsOf 9=1:=by kernel_rfl
theorem string_of_trod {H:Type} {enc:TypeId×Value→H} {P:Program} {w:World} {base:Nat} {sp:Nat→Bool} {held:Bool} {fuel:Nat} {t:TypeId} {cs:List Value} {l:List UInt8} {q:List MemPlace}
  (ht:P.underlying t=some .string) (hc:cs.length≤1) (h:DataW.trod enc P w base sp held fuel t cs=some (.lit (.string l),q)):cs= [.string ⟨l.toArray⟩]:=by
 match cs,hc with
 | [],_=>cases fuel<;>simp[DataW.trod,ht] at h
 | [c],_=>
  cases fuel with
  |zero=>simp[DataW.trod] at h
  |succ fuel=>
   cases c<;>simp[DataW.trod,ht] at h
   obtain ⟨_,rfl,rfl⟩:=h
   simp
theorem glob_of {ρ:List RB} {m:AMem} {W:World} (hL:laidMetH Tryz.prog laidL W) (hro:RoMem m):Glob ρ m W:=by
 intro p hp
 simp only[globs,List.mem_singleton] at hp
 subst hp
 have hL':laidMet Tryz.prog laidL W:=hL
 obtain ⟨g,t,cs,fuel,q,h1,h2,h3,h4⟩:=Lib.laidMet.reads hL' (n:= "environ/alike.words") (d:=Rows.laid_environ_alike_words) (by simp[laidL])
 obtain rfl:=Option.some.inj (gWords.symm.trans h1)
 obtain rfl:=Option.some.inj (gWordsT.symm.trans h2)
 have key: ∀(i:Nat) (l:List UInt8),i<9→([.lit (.string [86,79,73,68]),.lit (.string [66,79,79,76]),.lit (.string [67,72,65,82]),.lit (.string [73,78,84]),.lit (.string [82,69,65,76]),.lit (.string [66,73,84,83]),.lit (.string [70,73,76,69]),.lit (.string [83,69,77,65]),.lit (.string [70,79,82,77,65,84])]:List (DataW Unit))[i]? =some (.lit (.string l))→W.cell? ⟨0,i,none⟩=some (.string ⟨l.toArray⟩):=by
  intro i l hi hl
  obtain ⟨f',d,q',g1,g2⟩:=Lib.array_elem (ds:= [.lit (.string [86,79,73,68]),.lit (.string [66,79,79,76]),.lit (.string [67,72,65,82]),.lit (.string [73,78,84]),.lit (.string [82,69,65,76]),.lit (.string [66,73,84,83]),.lit (.string [70,73,76,69]),.lit (.string [83,69,77,65]),.lit (.string [70,79,82,77,65,84])]) underW h4 i hi
  rw[hl] at g1
  simp only[Option.some.injEq] at g1
  subst g1
  rw[cells9,Nat.mul_one] at g2
  have hc:=string_of_trod under9 (by simp;omega) g2
  have hci:cs.toList[i]? =some (.string ⟨l.toArray⟩):=by
   have:=congrArg (·[0]?) hc
   simpa using this
  have:=World.var?_cell gWords h3 i
  rw[this]
  simpa using hci
 have hsz:0<W.heap.size:=by
  have:=key 0 _ (by omega) rfl
  unfold World.cell? at this
  rcases Nat.eq_zero_or_pos W.heap.size with h0|h0
  ·rw[Array.getElem?_eq_none (by simp only;omega)] at this
   cases this
  ·exact h0
 refine ⟨hsz,fun ho=>?_,fun i x hx=>?_⟩
 ·obtain ⟨b,blk,a,hb,hown,_⟩:=ho
  rw[hro b blk hb] at hown
  cases hown
 ·match i,hx with
  |0,hx=>cases hx;exact ⟨_,key 0 _ (by omega) rfl,by simp[VR]⟩
  |1,hx=>cases hx;exact ⟨_,key 1 _ (by omega) rfl,by simp[VR]⟩
  |2,hx=>cases hx;exact ⟨_,key 2 _ (by omega) rfl,by simp[VR]⟩
  |3,hx=>cases hx;exact ⟨_,key 3 _ (by omega) rfl,by simp[VR]⟩
  |4,hx=>cases hx;exact ⟨_,key 4 _ (by omega) rfl,by simp[VR]⟩
  |5,hx=>cases hx;exact ⟨_,key 5 _ (by omega) rfl,by simp[VR]⟩
  |6,hx=>cases hx;exact ⟨_,key 6 _ (by omega) rfl,by simp[VR]⟩
  |7,hx=>cases hx;exact ⟨_,key 7 _ (by omega) rfl,by simp[VR]⟩
  |8,hx=>cases hx;exact ⟨_,key 8 _ (by omega) rfl,by simp[VR]⟩
  |i+9,hx=>simp at hx
theorem liftedD3 {os:Os} {F:Stop.Interp} (started:os.Started) {H:Type} {enc:TypeId×Value→H} {f:FuncId} {fn:Func} {s:ChangeSpec} {conds:List PathCond}
  (noInit: Tryz.checked.prog.inits.idxOf? f=none) (hfn: Tryz.checked.prog.funcs[f]? =some fn) (hp:fn.params= #[22,3,3]) (hr:fn.resultTypes= #[4]) (hs:s.vars= [])
  (hsf: ∀d1 d2 d3:DataW H,s.fn H [d1,d2,d3]={results:= [.lit (.bool true)],args:= [d1,d2,d3]})
  (witness: ∃(w:World) (tape:Tape) (i:Input),w.os=os∧(w.forCall tape i).Shaped Tryz.checked.prog∧i.vars= []∧Input.okWide Tryz.checked.prog (w.forCall tape i) .any w.heap.size f i∧
   (OpenSpec.ofChange s).preRow enc Tryz.prog fn conds false laidL (w.forCall tape i).memory i.args∧({}:Assume).holds Tryz.checked.prog (lone (Frame.enter Tryz.checked.prog f i.args .normal) [] (w.forCall tape i)))
  (law:LawTII f):
  ReturnsInHanded {} Tryz.checked os f .any ((OpenSpec.ofChange s).preRow enc Tryz.prog fn conds false laidL) (((OpenSpec.ofChange s).at F).post enc Tryz.prog fn false true false false):=by
 refine returnsInHanded_of_row (C:= Tryz.checked) (s:=OpenSpec.ofChange s) own0 started noInit hfn witness ?_
 intro W base args ds gs before hval0 hW _ _ hsz0 hL _ _
 show Calls _ _ _ _ fun e W'=> ∃v,e= .returned v∧s.post enc Tryz.prog fn false true false false W args v W'
 replace hW:DataW.Whole enc Tryz.prog fn.params.toList s.vars false W args.toList ds gs before:=hW
 have hW':=hW
 rw[hp] at hval0 hsz0
 obtain ⟨p,q,hA,hV,rfl,_,_⟩:=hW
 rw[hp] at hA
 rw[hs] at hV
 obtain ⟨v0,v1,v2,d0,d1,d2,p0,p1,p2,rfl,rfl,rfl,h0,h1,h2⟩:=trodAll_three hA
 obtain ⟨rfl,rfl⟩:=trodVars_none hV
 obtain ⟨a1,rfl,rfl,rfl,w1⟩:=open_int under3 (hval0 1 3 v1 rfl rfl) h1
 obtain ⟨a2,rfl,rfl,rfl,w2⟩:=open_int under3 (hval0 2 3 v2 rfl rfl) h2
 have hv0:=hval0 0 22 v0 rfl rfl
 have h0k:=h0
 obtain ⟨fuel,hf⟩:=h0
 obtain ⟨a0,len,cap,rfl⟩:=okWide_slice under22 hv0
 obtain ⟨l,hent,hbd⟩:=enters_tab (enc:=enc) modeT (fuel:=fuel) (x:=(d0,p0)) (fun a len' cap' e=>by
  simp[Value.cells] at e
  obtain ⟨rfl,rfl,rfl⟩:=e
  exact heap_pos under22 hv0) hf
 obtain ⟨b1,b2⟩:=hbd reachBytes (by
  rw[List.all_eq_true] at hsz0 ⊢
  intro n hn
  exact hsz0 n (DataW.weights_mem_each (j:=0) (t:=22) (d:=d0) (by simp) (by simp) n hn))
 obtain ⟨ρ',m',xs,_,_,hro,hsim,hvr,sv,rfl,hT⟩:=hent [] [] (Sim.nil W) RoMem.nil
 simp only[VRs] at hvr
 obtain ⟨_,_,e,hvr,rfl⟩:=hvr
 simp[Value.cells] at e
 subst e
 have hlt: ∀x∈p0,x.block<W.heap.size:=fun x hx=>hW'.lt x (by simp[hx])
 refine ((law m' sv l a1 a2 hT b1 b2).2 ρ' W #[.slice a0 len cap,.int .i64 a1,.int .i64 a2] hsim (glob_of hL hro) (by simp only[VRs,VR];exact ⟨_,_,rfl,hvr,_,_,rfl,rfl,_,_,rfl,rfl,rfl⟩)).mono fun e W' h=>?_
 obtain ⟨v',v,m'',ρ'',rfl,rfl,hv,_,hev⟩:=h
 simp only[VR] at hv
 subst hv
 have hb:=below_of_evol hro hev
 refine ⟨_,rfl,[d0,_,_],[],_,[],p0++([]++([]++ [])),[],hW',?_,?_,?_,hb.frame _,fun h=>by cases h⟩
 ·rw[hr]
  show DataW.TrodAll enc _ W' _ _ _ [4] _ (s.fn H [d0,_,_]).results []
  rw[hsf]
  exact trodAll_mk1 (shut_bool under4 true)
 ·rw[hp]
  show DataW.TrodAll enc _ W' _ _ _ [22,3,3] _ (s.fn H [d0,_,_]).args _
  rw[hsf]
  exact trodAll_cons_mk (Below.trod laidOut (by kernel_rfl) (of_decide_eq_true (by kernel_rfl)) h0k hb hlt) (trodAll_cons_mk (shut_int under3 w1) (trodAll_cons_mk (shut_int under3 w2) trodAll_mk0))
 ·show DataW.TrodVars enc _ W' _ s.vars (s.fn H [d0,_,_]).vars _
  rw[hsf,hs]
  rfl
end Go.Proofs.YtlniliigcnedmaaGreatDoor
namespace Go.Proofs.YtlniliigcnedmaaGreatDoor
open Go Ax Go.ChangeShapes Go.WideShapes Go.ChangeAt Go.RowKit
set_option maxRecDepth 100000
theorem k53 (s:AVal) (l:List Md) (i:Int) (b:Nat) (m:AMem) (hs:RTab m s l) (hb:readB m b=some [s]):ACalls Tryz.prog 53 [.int .i64 i,.ptr b 0] m fun v m'=>v= .bool (outB l.length i)∧m'=m:=by
 refine w53 ?_
 by_cases h1:i<0
 ·simp[h1,outB]
 ·by_cases h2:(l.length:Int)≤i
  ·simp[h1,h2,bx hb,hs.len,outB]
  ·simp[h1,h2,bx hb,hs.len,outB]
   omega
theorem k21 (s t:AVal) (l:List Md) (ms:List Int) (m:AMem) (hs:RTab m s l) (ht:RInts m t ms) (hsz: ∀x∈l,smallN x) (hl:l.length<2^62) (hm:ms.length<2^62):ACalls Tryz.prog 21 [s,t] m fun v m'=>v= .bool (decide (rightI l ms=0))∧m<+:m':=by
 refine w21 ?_
 obtain ⟨hsl,hsc⟩:=hs.self
 simp[hsl,hsc]
 have hb0:=readB_new m [s] 22 none
 have hm1:m<+:m++ [.own [s] 22 none]:=List.prefix_append _ _
 generalize m++ [.own [s] 22 none]=m1 at*
 generalize m.length=b1 at*
 refine C_of (k52 s l m1 (hs.mono hm1) hsz hl) ?_
 rintro _ m2 ⟨rfl,hm2⟩
 by_cases h:checkI l=0
 ·simp[h]
  refine C_of (k36 t ms (outB l.length) m2 (ht.mono (hm1.trans hm2)) hm 53 [] [.ptr b1 0] ?_) ?_
  ·intro x _ m' hm'
   refine (k53 s l x b1 m' (hs.mono ((hm1.trans hm2).trans hm')) (readB_mono (hm2.trans hm') hb0)).mono ?_
   rintro _ _ ⟨rfl,rfl⟩
   exact ⟨rfl,List.prefix_refl _⟩
  rintro _ m3 ⟨rfl,hm3⟩
  simp[(hm1.trans hm2).trans hm3]
  unfold rightI
  rw[if_neg (by simp[h])]
  cases ms.any (outB l.length)<;>simp
 ·have hr:rightI l ms≠0:=by unfold rightI;rw[if_pos h];exact h
  simp[beqF h,hr,hm1.trans hm2]
end Go.Proofs.YtlniliigcnedmaaGreatDoor
namespace Go.Proofs.YtlniliigcnedmaaGreatDoor
open Go Ax Go.ChangeShapes Go.WideShapes Go.ChangeAt Go.RowKit
set_option maxRecDepth 100000
theorem k34 (c:List AVal) (x:Md) (m:AMem) (hx:RMode m c x):ACalls Tryz.prog 34 [.agg c] m fun v m'=>v= .bool (decide (2<x.elems.length)||decide (2<x.names.length))∧m<+:m':=by
 obtain ⟨e,nm,rfl,he,hn⟩:=hx
 refine w34 ?_
 have h1:=Sl.one he
 have h2:=Sl.one hn
 by_cases h:(2:Int)<x.elems.length
 ·have h':2<x.elems.length:=by omega
  simp[h1,h2,he.len,h,h']
 ·have h': ¬2<x.elems.length:=by omega
  simp[h1,h2,he.len,hn.len,h,h']
  omega
theorem unf_all {l:List Md} (hU:Ud l) (s:AVal) (m0:AMem) (hs:RTab m0 s l): ∀d,d≤7→UnfC l s m0 d
 |0,h=>k35 hU s m0 hs 0 h fun d' e=>by omega
 |d+1,h=>k35 hU s m0 hs (d+1) h fun d' e=>by
  obtain rfl:d'=d:=by omega
  exact unf_all hU s m0 hs d' (by omega)
set_option maxHeartbeats 4000000 in
theorem k10:LawTII 10:=by
 intro m s l u v hs _ hb
 refine w10 ?_
 simp
 refine C_of (k13 m) ?_
 rintro _ m1 ⟨rfl,hm1⟩
 by_cases h6:(6:Int)<l.length
 ·simp[(hs.mono hm1).len,h6]
 simp[(hs.mono hm1).len,h6]
 refine C_of (k33 s l (fun x=>decide (2<x.elems.length)||decide (2<x.names.length)) m1 (hs.mono hm1) (by omega) 34 [] [] fun x hx m' c h1 h2=>k34 c x m' h2) ?_
 rintro _ m2 ⟨rfl,hm2⟩
 have hm02:=hm1.trans hm2
 cases hany:l.any fun x=>decide (2<x.elems.length)||decide (2<x.names.length)
 rotate_left
 ·simp
 have hle: ∀x∈l,x.elems.length≤2∧x.names.length≤2:=fun x hx=>by
  have:=List.any_eq_false.1 hany x hx
  simp only[Bool.or_eq_true,decide_eq_true_eq] at this
  omega
 have hsz: ∀x∈l,smallN x:=fun x hx=>by
  have h1:=hle x hx
  refine ⟨by omega,by omega,fun s hs=>?_⟩
  have h3:=(hb x hx).each s hs
  have h4:reachBytes<2^62:=by decide
  omega
 simp[fillA,setN]
 have hA:=two_intsZ m2 u v
 have hm3:m2<+:m2++ [.own [.int .i64 u,.int .i64 v] 3 none]:=List.prefix_append _ _
 generalize AVal.slice m2.length 0 2 2 none=t3 at*
 generalize m2++ [.own [.int .i64 u,.int .i64 v] 3 none]=m3 at*
 have hm03:=hm02.trans hm3
 refine C_of (k21 s t3 l [u,v] m3 (hs.mono hm03) hA hsz (by omega) (by simp)) ?_
 rintro _ m4 ⟨rfl,hm4⟩
 have hm04:=hm03.trans hm4
 by_cases hri:rightI l [u,v]=0
 rotate_left
 ·simp[hri]
 obtain ⟨hc,a,b,rfl,rfl,ha,hb'⟩:=right2 hri
 have hU:Ud l:=⟨hc,by omega,fun x hx=>(hle x hx).1,fun x hx=>(hle x hx).2⟩
 simp[hri]
 refine C_of (k17 s l a b m4 (hs.mono hm04) hsz (T13.of (by omega)) hc ha hb') ?_
 rintro _ m5 ⟨rfl,hm5⟩
 have hm05:=hm04.trans hm5
 have hW:=unf_all hU s m hs 7 (Nat.le_refl _)
 have c1:=hW a ha m5 hm05
 have c2:=fun m' h=>hW b hb' m' h
 have hRR:=unf_RR hU ha hb'
 generalize unf l l.length 7 a=A at*
 generalize unf l l.length 7 b=B at*
 simp
 refine C_of c1 ?_
 rintro _ m6 ⟨rfl,hm6⟩
 simp
 refine C_of (c2 m6 (hm05.trans hm6)) ?_
 rintro _ m7 ⟨rfl,hm7⟩
 simp[str_eql,hRR]
end Go.Proofs.YtlniliigcnedmaaGreatDoor
namespace Go.Proofs.YtlniliigcnedmaaGreatDoor
open Go Ax Go.ChangeShapes Go.WideShapes Go.ChangeAt Go.RowKit
set_option maxRecDepth 100000
def litsOf:DataW Unit→Array Value
 | .agg ds=>(ds.map fun| .lit l=>l.value|_=> .bool false).toArray
 |_=> #[]
noncomputable def setCells (a:Array Value):Obj→Obj
 | .cells _ t frozen=> .cells a t frozen
 |o=>o
noncomputable def laidWorld (os:Os):World:=
 {World.holding Tryz.prog os ⟨#[],#[],[]⟩ with heap:=((((World.holding Tryz.prog os ⟨#[],#[],[]⟩).heap.modify 0 (setCells (litsOf Rows.laid_environ_alike_words))).modify 2 (setCells (litsOf Rows.laid_internal_strconv_uint64pow10))).modify 3 (setCells (litsOf Rows.laid_math_bits_deBruijn32tab))).modify 4 (setCells (litsOf Rows.laid_math_bits_deBruijn64tab))}
end Go.Proofs.YtlniliigcnedmaaGreatDoor
namespace Go.Proofs.YtlniliigcnedmaaGreatDoor
open Go Ax Go.ChangeShapes Go.WideShapes Go.ChangeAt Go.RowKit
set_option maxRecDepth 100000
end Go.Proofs.YtlniliigcnedmaaGreatDoor
