/- The modes of environ and which are firmly related (layers 9 to 12), walked in the framework Ax.  Conditions: none beyond those stated. -/
import Derived.Test.YtngfdjolleabeaaGreatR5
set_option linter.unusedSimpArgs false
set_option linter.unusedVariables false
namespace Go.Proofs.YtngfdjolleabeaaGreat
open Go Ax
open Relation
set_option maxRecDepth 100000
theorem TabS.atC {S:Nat→Prop} {m:AMem} {s:AVal} {l:List Md} (h:TabS S m s l) {i:Nat} (hi:i<l.length): ∃b o c,(∀k,iaddrE 6 s (.int k i)=some (.ptr b o))∧loadE m 6 true (.ptr b o)=some (.agg c)∧ ∀m',Ch S m m'→RMode m' c l[i]:=by
 obtain ⟨cs,h⟩:=h
 obtain ⟨h1,_⟩:=h m (.refl _ _)
 obtain ⟨b,o,g1,_,g3⟩:=h1.at hi
 exact ⟨b,o,_,g1,g3,fun m' hc=>(h m' hc).2 i _ (List.getElem?_eq_getElem hi)⟩
theorem lookup_at {m:AMem} {b:Nat} {es:List (Int×AVal)} (h:m[b]? =some (.mp es)) (z:AVal) (ok:Bool) (n:Int):lookupE m z ok (.map b) (.int .i64 n)=some (if ok then .tuple [(findE es n).getD z,.bool (findE es n).isSome] else (findE es n).getD z):=by
 simp only[lookupE,h]
theorem mapset_at {m:AMem} {b:Nat} {es:List (Int×AVal)} (h:m[b]? =some (.mp es)) (n:Int) (v:AVal):mapsetE m (.map b) (.int .i64 n) v=some (.undef,m.set b (.mp (setE es n v))):=by
 simp only[mapsetE,h]
theorem findE_setE (k n:Int) (v:AVal): ∀es:List (Int×AVal),findE (setE es k v) n=if k=n then some v else findE es n
 | []=>by simp[setE,findE]
 |(a,x)::es=>by
  simp only[setE]
  split
  ·rename_i h
   subst h
   simp only[findE]
   split<;>rfl
  ·rename_i h
   simp only[findE,findE_setE k n v es]
   by_cases ha:a=n
   ·subst ha
    rw[if_pos rfl,if_neg (fun h'=>h h'.symm),if_pos rfl]
   ·rw[if_neg ha,if_neg ha]
theorem set_ch {m:AMem} {b:Nat} (x:ABlk) {S:Nat→Prop} (h:S b):Ch S m (m.set b x):=Ch.setS x h
structure DSt (S:Nat→Prop) (bd bl bf bm:Nat) (m:AMem) (l:List Md) (es:List (Int×AVal)):Prop where
 rd:readB m bd=some [.map bm]
 rl: ∃s,m[bl]? =some (.own [s] 22 none)∧TabS S m s l
 rf:readB m bf=some [.func (.func 80) [] [.ptr bd 0,.ptr bl 0,.ptr bf 0]]
 mp:m[bm]? =some (.mp es)
 ne:bd≠bl∧bd≠bm∧bf≠bl∧bf≠bm∧bl≠bm
theorem DSt.mono {S:Nat→Prop} {bd bl bf bm:Nat} {m m':AMem} {l:List Md} {es:List (Int×AVal)} (h:DSt S bd bl bf bm m l es) (hm:m<+:m'):DSt S bd bl bf bm m' l es:=by
 obtain ⟨s,h1,h2⟩:=h.rl
 exact ⟨readB_mono hm h.rd,⟨s,own_mono h1 hm,h2.mono hm⟩,readB_mono hm h.rf,own_mono h.mp hm,h.ne⟩
theorem DSt.lt {S:Nat→Prop} {bd bl bf bm:Nat} {m:AMem} {l:List Md} {es:List (Int×AVal)} (h:DSt S bd bl bf bm m l es):bd<m.length∧bl<m.length∧bf<m.length∧bm<m.length:=by
 obtain ⟨s,h1,h2⟩:=h.rl
 exact ⟨readB_lt h.rd,(List.getElem?_eq_some_iff.1 h1).1,readB_lt h.rf,(List.getElem?_eq_some_iff.1 h.mp).1⟩
theorem DSt.ch {S T:Nat→Prop} {bd bl bf bm:Nat} {m m':AMem} {l:List Md} {es:List (Int×AVal)} (h:DSt S bd bl bf bm m l es) (hc:Ch T m m') (hT: ∀b,b<m.length→T b→S b∧b≠bd∧b≠bl∧b≠bf∧b≠bm):DSt S bd bl bf bm m' l es:=by
 obtain ⟨s,h1,h2⟩:=h.rl
 obtain ⟨a1,a2,a3,a4⟩:=h.lt
 exact ⟨hc.read (fun t=>(hT _ a1 t).2.1 rfl) h.rd,⟨s,hc.keep _ _ h1 fun t=>(hT _ a2 t).2.2.1 rfl,h2.next (hc.weaken fun b hb t=>(hT b hb t).1)⟩,hc.read (fun t=>(hT _ a3 t).2.2.2.1 rfl) h.rf,hc.keep _ _ h.mp fun t=>(hT _ a4 t).2.2.2.2 rfl,h.ne⟩
theorem DSt.weaken {S T:Nat→Prop} {bd bl bf bm:Nat} {m:AMem} {l:List Md} {es:List (Int×AVal)} (h:DSt S bd bl bf bm m l es) (hs: ∀b,b<m.length→T b→S b):DSt T bd bl bf bm m l es:=by
 obtain ⟨s,h1,cs,h2⟩:=h.rl
 exact ⟨h.rd,⟨s,h1,cs,fun m' hc=>h2 m' (hc.weaken hs)⟩,h.rf,h.mp,h.ne⟩
def DMap (l0 l:List Md) (es:List (Int×AVal)):Prop:= ∀k v,findE es k=some v→ ∃j n:Nat,k=j∧v= .int .i64 n∧j<l0.length∧DefL l [j] l [n]
theorem DMap.ext {l0 l l':List Md} {es:List (Int×AVal)} (h:DMap l0 l es) (e0:Ext l0 l) (hc:checkI l=0) (e:Ext l l') (hn:l'.length<512):DMap l0 l' es:=fun k v hk=>by
 obtain ⟨j,n,a,b,c,d⟩:=h k v hk
 have:=e0.len
 exact ⟨j,n,a,b,c,d.stable hc (by simp;omega) e hn⟩
def Bx2 (bl bm:Nat) (b:Nat):Prop:=b=bl∨b=bm
set_option maxHeartbeats 8000000 in
theorem k80 (bd bl bf bm:Nat) (l0:List Md) (hc0:checkI l0=0): ∀(n i:Nat),i<l0.length→hgt l0 i<n→ ∀(S:Nat→Prop) (l:List Md) (es:List (Int×AVal)) (m:AMem),S bl→S bm→(∀b,S b→b<m.length)→Ext l0 l→Room l→DMap l0 l es→DSt S bd bl bf bm m l es→
  ACalls Tryz.prog 80 [.int .i64 i,.ptr bd 0,.ptr bl 0,.ptr bf 0] m fun v m'=>Ch (Bx2 bl bm) m m'∧ ∃l' es',∃r:Nat,v= .tuple [.int .i64 r,.int .i64 0]∧DefL l [i] l' [r]∧DMap l0 l' es'∧DSt S bd bl bf bm m' l' es':=by
 intro n
 induction n with
 |zero=>intro i _ h;omega
 |succ n ih=>
  intro i hi hh S l es m hSl hSm hSlt e0 hr hD hS
  refine w80 ?_
  have hl:=e0.len
  have hil:i<l.length:=by omega
  have hcl:=hr.ck
  have hrl:=hr.len
  have ok0:=okT_of hc0
  obtain ⟨s,hbl,hT⟩:=hS.rl
  obtain ⟨q1,q2,q3,q4⟩:=hS.lt
  simp[bx hS.rd,lookup_at hS.mp]
  cases hf:findE es (i:Int) with
  |some v=>
   obtain ⟨j,r,hj,rfl,_,hd⟩:=hD _ _ hf
   obtain rfl:i=j:=by omega
   simp
   exact ⟨.refl _ _,l,es,r,rfl,hd,hD,hS⟩
  |none=>
  simp[bx (own_read hbl)]
  refine C_of (k81 s l i hil m hT.tab hr.sm hcl) ?_
  rintro _ m1 ⟨rfl,hm1⟩
  by_cases hfx:FlexP l i
  rotate_left
  ·simp[hfx]
   exact ⟨.of_prefix hm1,l,es,i,rfl,.flat hfx .nil,hD,hS.mono hm1⟩
  simp[hfx]
  have hm1l:=hm1.length_le
  have hS1:=hS.mono hm1
  have hbl1:=own_mono hbl hm1
  obtain ⟨bx',ox,c,g1,g2,g3⟩:=(hT.mono hm1).atC hil
  have h6:=g3 m1 (.refl _ _)
  have hcl6:=h6.all
  simp[bx (own_read hbl1),g1,g2]
  rw[store_new _ _ c _ _ 6 hcl6.1 rfl hcl6.2]
  obtain ⟨e,nm,_,_,_,_,_,_,he,hnm,rfl⟩:=h6.get
  have hxe:mdAt l i=l[i]:=mdAt_eq hil
  have hxm:l[i]∈l:=List.getElem_mem hil
  have hx40:=hr.h40 _ hxm
  have hsx:=hr.sm _ hxm
  have hgx:=(okT_of hcl).good _ hxm
  have hb9:(m1++ [ABlk.own [.int .i64 l[i].kind,.int .i64 l[i].size,e,nm,.int .i64 l[i].dims,.bool l[i].flex] 44 none])[m1.length]? =some (.own [.int .i64 l[i].kind,.int .i64 l[i].size,e,nm,.int .i64 l[i].dims,.bool l[i].flex] 44 none):=by simp
  have hm12:m1<+:m1++ [ABlk.own [.int .i64 l[i].kind,.int .i64 l[i].size,e,nm,.int .i64 l[i].dims,.bool l[i].flex] 44 none]:=List.prefix_append _ _
  simp
  generalize m1++ [ABlk.own [.int .i64 l[i].kind,.int .i64 l[i].size,e,nm,.int .i64 l[i].dims,.bool l[i].flex] 44 none]=m2 at*
  generalize hb9e:m1.length=b9 at*
  obtain ⟨m3,hst3,hb93,hch3⟩:=fld_store (i:=5) (v:= .bool false) hb9 (by simp) rfl rfl
  simp at hb93
  simp[hst3,bx (own_read hb93)]
  have hc13:Ch S m1 m3:=Ch.andThen (.of_prefix hm12) hch3 fun b hb h=>by omega
  have he3:=(g3 m3 hc13)
  obtain ⟨e',nm',he'q,he3,_⟩:=he3
  simp at he'q
  obtain ⟨rfl,rfl⟩:=he'q
  refine C_of (k82 e l[i].elems m3 he3 (by omega)) ?_
  rintro t m4 ⟨hm34,hX⟩
  have ts:=(Ow.sl hX).self
  have hb94:=own_mono hb93 hm34
  obtain ⟨m5,hst5,hb95,hch5⟩:=fld_store (i:=2) (v:=t) hb94 (by simp) ts.2 ts.1
  simp at hb95
  simp[hst5,bx (own_read hb95)]
  have hml3:=hch3.len
  have hb9m2:b9<m2.length:=(List.getElem?_eq_some_iff.1 hb9).1
  have hXb: ∀b,t.blk=some b→m3.length≤b:=fun b hb=>(hX.blk_lo hb).1
  have hX5:=hX.ch hch5 fun b hb h=>by have:=hXb b hb;omega
  have hc15:Ch S m1 m5:=Ch.andThen (hc13.trans (.of_prefix hm34)) hch5 fun b hb h=>by omega
  have hcB:Ch (Bx2 bl bm) m1 m5:=Ch.andThen ((Ch.andThen (.of_prefix hm12) hch3 fun b hb h=>by omega).trans (.of_prefix hm34)) hch5 fun b hb h=>by omega
  have hm15:m1<+:m5:=Ch.pre (Ch.andThen ((Ch.andThen (T:=fun c=>c=b9) (S:=fun _=>False) (.of_prefix hm12) hch3 fun b hb h=>by omega).trans (.of_prefix hm34)) hch5 fun b hb h=>by omega) (List.prefix_refl _) fun _ _ h=>h
  have hS5:DSt (fun b=>S b∨m1.length≤b) bd bl bf bm m5 l es:=(DSt.weaken (T:=fun b=>S b∨m1.length≤b) hS1 fun b hb h=>by rcases h with h|h;exact h;omega).mono hm15
  simp[hX5.len]
  clear hst3 hst5 hch3 hch5 hX hb9 hb93 hb94 hm12 hm34
  have hfi:FlexP l0 i:=(e0.flex hc0 hi).1 hfx
  have hel:l[i].elems=(mdAt l i).elems:=by rw[hxe]
  have hm5l:=hm15.length_le
  have hXlo: ∀b,t.blk=some b→m1.length<b:=fun b hb=>by have:=hXb b hb;omega
  obtain ⟨I,hI⟩: ∃I:Nat→AFrame→AMem→Prop,∀q f m',I q f m'↔(∃(k:Nat) (lk:List Md) (ek:List (Int×AVal)) (ns:List Nat),k+q=l[i].elems.length∧ns.length=k∧f=h80_0 (.int .i64 i) (.ptr bd 0) (.ptr bl 0) (.ptr bf 0) (.ptr b9 0) t (.int .i64 l[i].elems.length) (.int .i64 k)∧DefL l ((l[i].elems.map Int.toNat).take k) lk ns∧Room lk∧Ext l0 lk∧DMap l0 lk ek∧DSt (fun b=>S b∨t.blk=some b) bd bl bf bm m' lk ek∧Ch (Bx2 bl bm) m1 m'∧b9<m'.length∧m'[b9]? =some (.own [.int .i64 l[i].kind,.int .i64 l[i].size,t,nm,.int .i64 l[i].dims,.bool false] 44 none)∧OwL (AVal.int .i64) (b9+1) m' 3 t (ns.map (fun z:Nat=>(z:Int))++l[i].elems.drop k)):=⟨_,fun _ _ _=>Iff.rfl⟩
  refine W_loop I l[i].elems.length ((hI _ _ _).2 ⟨0,l,es,[],by simp,rfl,by simp,by simpa using DefL.nil,hr,e0,hD,DSt.weaken hS5 (fun b hb h=>?_),hcB,(List.getElem?_eq_some_iff.1 hb95).1,hb95,by simpa using hX5.lo' (by omega)⟩) ?_
  ·rcases h with h|h
   ·exact .inl h
   ·have:=hXlo b h;right;omega
  rintro q f m6 hIn
  obtain ⟨k,lk,ek,ns,hk,hnl,rfl,hDk,hrk,e0k,hmk,hSk,hck,hb9l,hb9k,hXk⟩:=(hI _ _ _).1 hIn
  clear hIn
  simp
  refine bbind_dec (fun hkl=>?_) fun hkl=>?_
  ·have hkl:k<l[i].elems.length:=by omega
   have hw:=step64 (k:=k) (n:=l[i].elems.length) hkl (by omega)
   obtain ⟨q,rfl⟩: ∃q',q=q'+1:=⟨q-1,by omega⟩
   have hxl:(ns.map (fun z:Nat=>(z:Int))++l[i].elems.drop k).length=l[i].elems.length:=by simp;omega
   obtain ⟨bt,ot,hbt,hpt,hlt,hstt⟩:=hXk.at (i:=k) (by omega)
   have hxk:(ns.map (fun z:Nat=>(z:Int))++l[i].elems.drop k)[k]'(by omega)=l[i].elems[k]:=by
    rw[List.getElem_append_right (by simp;omega)]
    simp[hnl]
   rw[hxk] at hlt
   obtain ⟨z,hz⟩: ∃z:Nat,l[i].elems[k]=z:=⟨(l[i].elems[k]).toNat,by have:=(hgx _ (List.getElem_mem hkl)).1;omega⟩
   rw[hz] at hlt
   have hzl:z<l0.length∧hgt l0 z<n:=by
    have hmd:mdAt l i=mdAt l0 i:=e0.md hi
    have hmem:(z:Int)∈(mdAt l0 i).elems:=by rw[←hmd,←hel,←hz];exact List.getElem_mem hkl
    have hgz:=ok0.good (mdAt l0 i) (by rw[mdAt_eq hi];exact List.getElem_mem hi) _ hmem
    have hst:stepF l0 i z:=⟨mdAt l0 i,by rw[mdAt_eq hi];exact List.getElem?_eq_getElem hi,hfi.rs.2,hmem⟩
    have:=hgt_lt ok0.good ok0.acy hst
    omega
   simp[hpt,hlt,bx hSk.rf]
   have hbtl:=(hXk.blk_lo hbt).2
   refine C_of (ih z hzl.1 hzl.2 (fun b=>S b∨t.blk=some b) lk ek m6 (.inl hSl) (.inl hSm) (fun b hb=>?_) e0k hrk hmk hSk) ?_
   ·rcases hb with hb|hb
    ·have:=hSlt b hb;have:=hck.len;omega
    ·exact (hXk.blk_lo hb).2
   rintro _ m7 ⟨hch7,l7,es7,r,rfl,hd7,hm7,hS7⟩
   have hx7:=hd7.ok hrk.ck (by have:=e0k.len;simp;omega)
   have hr7:=hrk.defl (by have:=e0k.len;simp;omega) hd7
   have hnb: ∀b,Bx2 bl bm b→b<m.length:=fun b hb=>by rcases hb with rfl|rfl<;>assumption
   have hb97:=hch7.keep _ _ hb9k fun h=>by have:=hnb _ h;omega
   have hX7:=hXk.ch hch7 fun b hb h=>by have:=hnb _ h;have:=(hXk.blk_lo hb).1;omega
   obtain ⟨bt7,ot7,hbt7,hpt7,_,hstt7⟩:=hX7.at (i:=k) (by omega)
   obtain ⟨m8,hst8,hch8,hX8⟩:=hstt7 (r:Int)
   simp[bx (own_read hb97),hpt7,hst8,hw]
   have hbt7l:=hX7.blk_lo hbt7
   have hb98:=hch8.keep _ _ hb97 fun h=>by omega
   have hS8:=DSt.ch hS7 hch8 fun b hb h=>by
    subst h
    exact ⟨.inr hbt7,by omega,by omega,by omega,by omega⟩
   refine ⟨q,by omega,(hI _ _ _).2 ⟨k+1,l7,es7,ns++ [r],by omega,by simp[hnl],by simp,?_,hr7,e0k.trans hx7.ext,hm7,hS8,(hck.trans hch7).andThen hch8 fun b hb h=>by omega,by have:=hch7.len;have:=hch8.len;omega,hb98,?_⟩⟩
   ·rw[List.take_add_one,List.getElem?_map,List.getElem?_eq_getElem hkl,hz]
    exact hDk.append hd7
   ·have:(ns.map (fun z:Nat=>(z:Int))++l[i].elems.drop k).set k (r:Int)=(ns++ [r]).map (fun z:Nat=>(z:Int))++l[i].elems.drop (k+1):=by
     rw[List.set_append_right _ _ (by simp;omega)]
     have h0:k-(ns.map (fun z:Nat=>(z:Int))).length=0:=by simp[hnl]
     rw[h0,List.drop_eq_getElem_cons hkl,List.set_cons_zero]
     simp
    rw[←this]
    exact hX8
  ·have hkl:k=l[i].elems.length:=by omega
   subst hkl
   rw[List.take_of_length_le (by simp)] at hDk
   rw[List.drop_length,List.append_nil] at hXk
   have hDk':DefL l ((mdAt l i).elems.map Int.toNat) lk ns:=by rw[hxe];exact hDk
   obtain ⟨l2,r,hput⟩:=defl_put hcl hfx hDk' (by have:=hrk.len;omega)
   have hdi:DefL l [i] l2 [r]:= .flex hfx hDk' hput .nil
   have hr2:=hr.defl (by simp;omega) hdi
   have hx2:=hdi.ok hcl (by simp;omega)
   obtain ⟨hel2,hrs2⟩:=hDk'.es hcl hil
   obtain ⟨ek2,hck2,_⟩:=put_defl hrk.ck hfx hrs2 hput
   obtain ⟨sk,hblk,hTk⟩:=hSk.rl
   obtain ⟨p1,p2,p3,p4⟩:=hSk.lt
   obtain ⟨e6,nm6,he6,_,hnm6⟩:=g3 m6 (hck.weaken fun b _ h=>by rcases h with rfl|rfl<;>assumption)
   simp at he6
   obtain ⟨rfl,rfl⟩:=he6
   have hdx:deflX (mdAt l i) ns=⟨l[i].kind,l[i].size,ns.map fun z:Nat=>(z:Int),l[i].names,l[i].dims,false⟩:=by rw[hxe];rfl
   have hRM:RMode m6 [.int .i64 l[i].kind,.int .i64 l[i].size,t,nm,.int .i64 l[i].dims,.bool false] (deflX (mdAt l i) ns):=by
    rw[hdx]
    exact ⟨t,nm,rfl,hXk.ints,hnm6⟩
   have hb9r:=bxW (own_read hb9k) 6
   simp[readN] at hb9r
   simp[bx (own_read hblk),hb9r]
   have hnsl:ns.length=l[i].elems.length:=hnl
   have hsmx: ∀y∈lk++ [deflX (mdAt l i) ns],smallN y:=fun y hy=>by
    rcases List.mem_append.1 hy with hy|hy
    ·exact hrk.sm y hy
    ·simp at hy
     subst hy
     rw[hdx]
     refine ⟨by have:=hsx.1;simp;omega,hsx.2.1,hsx.2.2⟩
   have h40x: ∀y∈lk++ [deflX (mdAt l i) ns],y.elems.length<2^40∧y.names.length<2^40:=fun y hy=>by
    rcases List.mem_append.1 hy with hy|hy
    ·exact hrk.h40 y hy
    ·simp at hy
     subst hy
     rw[hdx]
     exact ⟨by have:=hx40.1;simp;omega,hx40.2⟩
   have hux:isU (deflX (mdAt l i) ns)=false:=by
    have:=rs_isU hfx.rs.2
    unfold isU at this ⊢;exact this
   have hT60:T60 (lk++ [deflX (mdAt l i) ns]):=⟨by have:=hrk.len;simp;omega,fun _=>hrk.few.more (okT_of hrk.ck).good hux⟩
   refine C_of (k83f sk _ lk (deflX (mdAt l i) ns) m6 hTk.tab hRM hsmx h40x hT60) ?_
   rintro _ m7 ⟨hm67,t14,rfl,hT14⟩
   rw[hput] at hT14
   simp only[hput]
   simp
   have ts14:=hT14.tab.self
   have hS7:=hSk.mono hm67
   have hrd7:=hS7.rd
   refine W_draw (fun _ _ _=>True) (by simp[maxDst]) ?_
   refine D_pc 0 4 [4,5] ?_
   simp[bx hrd7]
   intro _ _
   refine D_X rfl rfl fun m8 hm8 _=>?_
   have hbl8:=own_mono (own_mono hblk hm67) hm8
   have hne:=hSk.ne
   have hcA:Ch (fun b=>b=bl) m8 (m8.set bl (.own [t14] 22 none)):=set_ch _ rfl
   have hrd9:=hcA.read (fun h=>hne.1 h) (readB_mono hm8 hrd7)
   simp
   rw[store_at hbl8 ts14.2 ts14.1]
   simp
   refine ⟨by simp[lateOf,bx hrd9],?_⟩
   refine D_W rfl rfl fun m9 hm9 _=>?_
   have hmp8:=own_mono hS7.mp hm8
   have hmp8':(m8.set bl (.own [t14] 22 none))[bm]? =some (.mp ek):=by rw[List.getElem?_set_ne hne.2.2.2.2];exact hmp8
   have hmp9:=own_mono hmp8' hm9
   simp
   rw[mapset_at hmp9]
   simp
   refine D_end fun m10 hm10 _=>?_
   simp
   have hcC:Ch (fun b=>b=bm) m9 (m9.set bm (.mp (setE ek i (.int .i64 r)))):=set_ch _ rfl
   have hc810:Ch (Bx2 bl bm) m8 m10:=(((hcA.weaken fun b _ h=> .inl h).trans (.of_prefix hm9)).trans (hcC.weaken fun b _ h=> .inr h)).trans (.of_prefix hm10)
   have hc610:Ch (Bx2 bl bm) m6 m10:=(Ch.of_prefix (hm67.trans hm8)).trans hc810
   refine ⟨(Ch.of_prefix hm1).trans (hck.trans hc610),l2,setE ek i (.int .i64 r),r,rfl,hdi,fun k v hkv=>?_,?_⟩
   ·rw[findE_setE] at hkv
    split at hkv
    ·rename_i hki
     simp only[Option.some.injEq] at hkv
     exact ⟨i,r,hki.symm,hkv.symm,hi,hdi.stable hcl (by simp;omega) .refl (by have:=hr2.len;omega)⟩
    ·exact hmk.ext e0k hrk.ck ek2 (by have:=hr2.len;omega) k v hkv
   ·have hbl9:(m8.set bl (.own [t14] 22 none))[bl]? =some (.own [t14] 22 none):=by
     rw[List.getElem?_set_self (List.getElem?_eq_some_iff.1 hbl8).1]
    have hbl10:m10[bl]? =some (.own [t14] 22 none):=by
     refine own_mono ?_ hm10
     rw[List.getElem?_set_ne (fun h=>hne.2.2.2.2 h.symm)]
     exact own_mono hbl9 hm9
    have hmp10:m10[bm]? =some (.mp (setE ek i (.int .i64 r))):=by
     refine own_mono ?_ hm10
     rw[List.getElem?_set_self (List.getElem?_eq_some_iff.1 hmp9).1]
    have hnB: ¬Bx2 bl bm bd:=fun h=>by rcases h with h|h;exact hne.1 h;exact hne.2.1 h
    have hnF: ¬Bx2 bl bm bf:=fun h=>by rcases h with h|h;exact hne.2.2.1 h;exact hne.2.2.2.1 h
    refine ⟨hc610.read hnB hSk.rd,⟨t14,hbl10,?_⟩,hc610.read hnF hSk.rf,hmp10,hne⟩
    refine TabS.weaken (S:=fun b=>b<m6.length) (hT14.next ((Ch.of_prefix hm8).trans (hc810.weaken fun b _ h=>by rcases h with rfl|rfl<;>omega))) fun b hb=>?_
    have:=hSlt b hb
    have:=hck.len
    omega
end Go.Proofs.YtngfdjolleabeaaGreat
namespace Go.Proofs.YtngfdjolleabeaaGreat
open Go Ax
open Relation
set_option maxRecDepth 100000
set_option maxHeartbeats 4000000 in
theorem k42 (s:AVal) (l:List Md) (i:Nat) (m:AMem) (hs:RTab m s l) (hr:Room l) (hi:i<l.length):
  ACalls Tryz.prog 42 [s,.int .i64 i] m fun v m'=>m<+:m'∧ ∃t,v= .tuple [t,.int .i64 (deflI l i).2,.int .i64 0]∧RTab m' t (deflI l i).1:=by
 refine w42 ?_
 obtain ⟨hsl,hsc⟩:=hs.self
 simp[hsl,hsc]
 have a0:(m++ [ABlk.own [s] 22 none,ABlk.mp [],ABlk.own [AVal.nilmap] 93 none])[m.length]? =some (.own [s] 22 none):=by simp
 have a1:(m++ [ABlk.own [s] 22 none,ABlk.mp [],ABlk.own [AVal.nilmap] 93 none])[m.length+1]? =some (.mp []):=by rw[List.getElem?_append_right (by omega)];simp
 have a2:(m++ [ABlk.own [s] 22 none,ABlk.mp [],ABlk.own [AVal.nilmap] 93 none])[m.length+1+1]? =some (.own [.nilmap] 93 none):=by rw[List.getElem?_append_right (by omega),show m.length+1+1-m.length=2 by omega];rfl
 have am:m<+:(m++ [ABlk.own [s] 22 none,ABlk.mp [],ABlk.own [AVal.nilmap] 93 none]):=List.prefix_append _ _
 have al:(m++ [ABlk.own [s] 22 none,ABlk.mp [],ABlk.own [AVal.nilmap] 93 none]).length=m.length+3:=by simp
 generalize m++ [ABlk.own [s] 22 none,ABlk.mp [],ABlk.own [AVal.nilmap] 93 none]=M1 at*
 rw[store_at a2 rfl rfl]
 simp
 have hc2:Ch (fun b=>b=m.length+1+1) M1 (M1.set (m.length+1+1) (.own [.map (m.length+1)] 93 none)):=Ch.setS _ rfl
 have b2:(M1.set (m.length+1+1) (.own [.map (m.length+1)] 93 none))[m.length+1+1]? =some (.own [.map (m.length+1)] 93 none):=List.getElem?_set_self (by omega)
 have bl:(M1.set (m.length+1+1) (.own [.map (m.length+1)] 93 none)).length=m.length+3:=by simp[al]
 generalize M1.set (m.length+1+1) (.own [.map (m.length+1)] 93 none)=M2 at*
 have b0:=hc2.keep _ _ a0 (by omega)
 have b1:=hc2.keep _ _ a1 (by omega)
 have bm:=hc2.pre am (by intro b hb;omega)
 have c8:(M2++ [ABlk.own [AVal.nilfunc] 94 none])[m.length+3]? =some (.own [.nilfunc] 94 none):=by rw[←bl];simp
 have cm:M2<+:M2++ [ABlk.own [AVal.nilfunc] 94 none]:=List.prefix_append _ _
 rw[al,store_at c8 rfl rfl]
 try simp only[bl]
 generalize hM3:M2++ [ABlk.own [AVal.nilfunc] 94 none]=M3 at*
 have hc4:Ch (fun b=>b=m.length+3) M3 (M3.set (m.length+3) (.own [.func (.func 80) [] [.ptr (m.length+1+1) 0,.ptr m.length 0,.ptr (m.length+3) 0]] 94 none)):=Ch.setS _ rfl
 have d8:(M3.set (m.length+3) (.own [.func (.func 80) [] [.ptr (m.length+1+1) 0,.ptr m.length 0,.ptr (m.length+3) 0]] 94 none))[m.length+3]? =some (.own [.func (.func 80) [] [.ptr (m.length+1+1) 0,.ptr m.length 0,.ptr (m.length+3) 0]] 94 none):=List.getElem?_set_self (List.getElem?_eq_some_iff.1 c8).1
 generalize M3.set (m.length+3) (.own [.func (.func 80) [] [.ptr (m.length+1+1) 0,.ptr m.length 0,.ptr (m.length+3) 0]] 94 none)=M4 at*
 have d0:=hc4.keep _ _ (own_mono b0 cm) (by omega)
 have d1:=hc4.keep _ _ (own_mono b1 cm) (by omega)
 have d2:=hc4.keep _ _ (own_mono b2 cm) (by omega)
 have dm:=hc4.pre (bm.trans cm) (by intro b hb;omega)
 simp[bl,bx (own_read d8)]
 have hdl:=(List.getElem?_eq_some_iff.1 d8).1
 have hS:DSt (Bx2 m.length (m.length+1)) (m.length+1+1) m.length (m.length+3) (m.length+1) M4 l []:=
  ⟨own_read d2,⟨s,d0,RTab.tabS hs dm fun b hb h=>by rcases h with h|h<;>omega⟩,own_read d8,d1,by omega⟩
 refine C_of (k80 (m.length+1+1) m.length (m.length+3) (m.length+1) l hr.ck (hgt l i+1) i hi (by omega) (Bx2 m.length (m.length+1)) l [] M4 (.inl rfl) (.inr rfl) (fun b hb=>by rcases hb with h|h<;>omega) .refl hr (fun k v h=>by simp[findE] at h) hS) ?_
 rintro _ m5 ⟨hc5,l',es',r,rfl,hd,_,hS5⟩
 obtain ⟨t,hbl,hT⟩:=hS5.rl
 rw[hd.eq]
 simp[bx (own_read hbl)]
 exact ⟨hc5.pre dm fun b hb h=>by rcases h with h|h<;>omega,hT.tab⟩
end Go.Proofs.YtngfdjolleabeaaGreat
namespace Go.Proofs.YtngfdjolleabeaaGreat
open Go Ax
open Relation
set_option maxRecDepth 100000
theorem chunk_set {cs:List AVal} {v:AVal} {i j q:Nat} (hj:j<6):chunk (cs.set (i*6+j) v) q=if q=i then (chunk cs i).set j v else chunk cs q:=by
 unfold chunk
 rw[List.drop_set]
 split
 ·rename_i h
  rw[if_neg (by omega)]
 ·rename_i h
  rw[List.take_set]
  by_cases hq:q=i
  ·subst hq
   rw[if_pos rfl,show q*6+j-q*6=j by omega]
  ·rw[if_neg hq]
   apply List.set_eq_of_length_le
   simp
   omega
def OwC (lo:Nat) (m:AMem) (s:AVal) (l:List Md):Prop:= ∃cs,Ow lo m 6 44 s l.length cs∧ ∀(i:Nat) x,l[i]? =some x→ ∀m',Ch (fun b=>s.blk=some b) m m'→RMode m' (chunk cs i) x
theorem OwC.tab {lo:Nat} {m:AMem} {s:AVal} {l:List Md} (h:OwC lo m s l):RTab m s l:=by
 obtain ⟨cs,h1,h2⟩:=h
 exact ⟨cs,h1.sl,fun i x hx=>h2 i x hx m (.refl _ _)⟩
theorem OwC.at {lo:Nat} {m:AMem} {s:AVal} {l:List Md} (h:OwC lo m s l) {i:Nat} (hi:i<l.length): ∃b o e nm,s.blk=some b∧(∀k,iaddrE 6 s (.int k i)=some (.ptr b o))∧loadE m 1 false (.ptr b (o+2))=some e∧loadE m 1 false (.ptr b (o+3))=some nm∧RInts m e l[i].elems∧RStrs m nm l[i].names∧
  ∀(t tn:AVal) (m2:AMem),m<+:m2→OwL (AVal.int .i64) m.length m2 3 t l[i].elems→OwL AVal.str m.length m2 9 tn l[i].names→ ∃m3,storeE m2 1 (.ptr b (o+2)) t=some (.undef,m3)∧ ∀m4,m3<+:m4→ ∃m5,storeE m4 1 (.ptr b (o+3)) tn=some (.undef,m5)∧Ch (fun c=>s.blk=some c) m m5∧OwC lo m5 s l:=by
 obtain ⟨cs,h1,h2⟩:=h
 obtain ⟨b,o,hb,hp,_⟩:=h1.store hi
 obtain ⟨b',o',hp',hl',_⟩:=h1.sl.at hi
 have:=hp .i64
 rw[hp' .i64] at this
 simp only[Option.some.injEq,AVal.ptr.injEq] at this
 obtain ⟨rfl,rfl⟩:=this
 have hcl:=h1.sl.length
 have hM:=h2 i _ (List.getElem?_eq_getElem hi) m (.refl _ _)
 obtain ⟨e,nm,c0,c1,c2,c3,c4,c5,he,hnm,hcc⟩:=hM.get
 have hget: ∀j,j<6→(chunk cs i)[j]? =cs[i*6+j]? :=fun j hj=>by
  unfold chunk
  rw[List.getElem?_take,if_pos hj,List.getElem?_drop]
 have hbl:=(h1.blk_lo hb).2
 refine ⟨b',o',e,nm,hb,hp,by rw[hl' 2 (by omega),←hget 2 (by omega)];exact c2,by rw[hl' 3 (by omega),←hget 3 (by omega)];exact c3,he,hnm,fun t tn m2 hm2 ht htn=>?_⟩
 have ts:=(Ow.sl ht).self
 have tns:=(Ow.sl htn).self
 have hb2: ∀{m2:AMem} {cs2:List AVal},Ow lo m2 6 44 s l.length cs2→ ∀(j:Nat) (v:AVal),j<6→v.cells= [v]→v.one=true→ ∃m',storeE m2 1 (.ptr b' (o'+j)) v=some (.undef,m')∧Ch (fun c=>c=b') m2 m'∧Ow lo m' 6 44 s l.length (cs2.set (i*6+j) v):=fun {m2 cs2} h j v hj h3 h4=>by
  obtain ⟨b2,o2,hbb,hpp,hst⟩:=h.store hi
  have:=hp .i64
  rw[hpp .i64] at this
  simp only[Option.some.injEq,AVal.ptr.injEq] at this
  obtain ⟨rfl,rfl⟩:=this
  obtain ⟨m',g1,g2,g3⟩:=hst j v (by rw[h3];simp;omega) (by rw[h3];simp[h4])
  rw[h3] at g1 g3
  exact ⟨m',g1,g2,g3⟩
 obtain ⟨m3,g1,g2,g3⟩:=hb2 (h1.mono hm2) 2 t (by omega) ts.2 ts.1
 refine ⟨m3,g1,fun m4 hm4=>?_⟩
 obtain ⟨m5,g4,g5,g6⟩:=hb2 (g3.mono hm4) 3 tn (by omega) tns.2 tns.1
 have hch2:Ch (fun c=>s.blk=some c) m2 m5:=((g2.weaken fun c _ h=>by rw[h];exact hb).trans (.of_prefix hm4)).trans (g5.weaken fun c _ h=>by rw[h];exact hb)
 have hch:Ch (fun c=>s.blk=some c) m m5:=(Ch.of_prefix hm2).trans hch2
 refine ⟨m5,g4,hch,_,g6,fun q x hx m' hc=>?_⟩
 rw[chunk_set (by omega)]
 by_cases hq:q=i
 ·subst hq
  rw[if_pos rfl,chunk_set (by omega),if_pos rfl,hcc]
  rw[List.getElem?_eq_getElem hi] at hx
  simp only[Option.some.injEq] at hx
  subst hx
  have hc2:=hch2.trans hc
  refine ⟨t,tn,rfl,OwL.ints (ht.ch hc2 fun c h1 h2=>?_),Ow.sl (htn.ch hc2 fun c h1 h2=>?_)⟩
  ·have:=(ht.blk_lo h1).1
   rw[hb] at h2
   cases h2
   omega
  ·have:=(htn.blk_lo h1).1
   rw[hb] at h2
   cases h2
   omega
 ·rw[if_neg hq,chunk_set (by omega),if_neg hq]
  exact h2 q x hx m' (hch.trans hc)
theorem OwC.mono {lo:Nat} {m m':AMem} {s:AVal} {l:List Md} (h:OwC lo m s l) (hm:m<+:m'):OwC lo m' s l:=by
 obtain ⟨cs,h1,h2⟩:=h
 exact ⟨cs,h1.mono hm,fun i x hx m'' hc=>h2 i x hx m'' ((Ch.of_prefix hm).trans hc)⟩
set_option maxHeartbeats 4000000 in
theorem k43 (s:AVal) (l:List Md) (m:AMem) (hs:RTab m s l) (h40: ∀y∈l,y.elems.length<2^40∧y.names.length<2^40) (hn:l.length<2^20):
  ACalls Tryz.prog 43 [s] m fun v m'=>m<+:m'∧RTab m' v l:=by
 refine w43 ?_
 simp
 refine C_of (k84 s l m m (List.prefix_refl _) hs (by omega)) ?_
 rintro v m1 ⟨hm1,hB⟩
 have hO0:OwC m.length m1 v l:=by
  obtain ⟨cs,h1,h2⟩:=hB
  exact ⟨cs,h1,fun i x hx m' hc=>(h2 i x hx).mono (hc.pre hm1 fun b hb e=>by have:=(h1.blk_lo e).1;omega)⟩
 have hvl:=hO0.tab.len
 simp[hvl]
 obtain ⟨I,hI⟩: ∃I:Nat→AFrame→AMem→Prop,∀q f m',I q f m'↔(∃k:Nat,k+q=l.length∧f=h43_0 v (.int .i64 l.length) (.int .i64 k)∧m<+:m'∧OwC m.length m' v l):=⟨_,fun _ _ _=>Iff.rfl⟩
 refine W_loop I l.length ((hI _ _ _).2 ⟨0,by simp,by simp,hm1,hO0⟩) ?_
 rintro q f m2 hIn
 obtain ⟨k,hk,rfl,hm2,hO⟩:=(hI _ _ _).1 hIn
 clear hIn
 simp
 refine bbind_dec (fun hkl=>?_) fun hkl=>?_
 ·have hkl:k<l.length:=by omega
  have hw:=step64 (k:=k) (n:=l.length) hkl (by omega)
  obtain ⟨q,rfl⟩: ∃q',q=q'+1:=⟨q-1,by omega⟩
  obtain ⟨b,o,e,nm,hb,hp,hl2,hl3,he,hnm,hst⟩:=hO.at hkl
  have hsy:=h40 _ (List.getElem_mem hkl)
  simp
  refine W_draw (fun i v m'=>(i=9→OwL (AVal.int .i64) m2.length m' 3 v l[k].elems)∧(i=15→OwL AVal.str m2.length m' 9 v l[k].names)) (by simp[maxDst]) ?_
  have: ∀(j:Nat) (m':AMem),noFacts j m':=fun _ _=>trivial
  refine D_pre 0 9 [9,10,11,12,13,14,15,16,17,18,19,20,21] (by simp only[List.drop_zero,List.drop_succ_cons,List.take_succ_cons,List.take_zero];rfl) rfl rfl ‹_› ?_
  simp[hp,hl2]
  intro _ _
  refine D_C rfl trivial rfl (fun m' hm' _=>(k82 e l[k].elems m' (he.mono hm') (by omega)).mono ?_) ?_ ?_ ?_
  ·rintro w m'' ⟨g1,g2⟩
   exact ⟨g1,fun _=>g2.lo' hm'.length_le,by simp⟩
  ·exact ⟨_,_,List.prefix_append _ _,fun _=>OwL.new m2 3 l[k].elems,by simp⟩
  ·rintro w m' m'' hm hk
   exact ⟨fun h=>(hk.1 h).mono hm,fun h=>(hk.2 h).mono hm⟩
  rintro v2 m3 hm3 hv2
  have v2s:=(Ow.sl (hv2.1 rfl)).self
  clear hv2
  refine D_P rfl trivial ?_
  simp
  refine D_P rfl trivial ?_
  simp
  refine D_P rfl trivial ?_
  simp[hp]
  refine D_P rfl trivial ?_
  simp
  refine D_R rfl trivial ⟨_,List.prefix_refl _,fun _ h=>by cases h⟩ ?_
  simp[hl3]
  refine D_C rfl trivial rfl (fun m' hm' _=>(k85 nm l[k].names m' (hnm.mono hm') (by omega)).mono ?_) ?_ ?_ ?_
  ·rintro w m'' ⟨g1,g2,_⟩
   exact ⟨g1,by simp,fun _=>g2.lo' hm'.length_le⟩
  ·exact ⟨_,_,List.prefix_append _ _,by simp,fun _=>OwL.new m2 9 l[k].names⟩
  ·rintro w m' m'' hm hk
   exact ⟨fun h=>(hk.1 h).mono hm,fun h=>(hk.2 h).mono hm⟩
  rintro v5 m4 hm4 hv5
  clear hv5
  refine D_P rfl trivial ?_
  simp[hp]
  refine D_P rfl trivial ?_
  simp
  refine D_W rfl rfl fun m5 hm5 hf=>?_
  have g9:=hf 9
  have g15:=hf 15
  simp[upd] at g9 g15
  obtain ⟨m6,hs6,hst6⟩:=hst v2 v5 m5 hm5 g9 g15
  simp[hs6]
  refine D_P rfl trivial ?_
  simp[hp]
  refine D_P rfl trivial ?_
  simp
  refine D_W rfl rfl fun m7 hm7 _=>?_
  obtain ⟨m8,hs8,hc8,hO8⟩:=hst6 m7 hm7
  simp[hs8]
  refine D_end fun m9 hm9 _=>?_
  simp[hw]
  refine ⟨q,by omega,(hI _ _ _).2 ⟨k+1,by omega,by simp,(hc8.pre hm2 fun c hc h=>?_).trans hm9,hO8.mono hm9⟩⟩
  obtain ⟨cs,hO1,_⟩:=hO
  have:=(hO1.blk_lo h).1
  omega
 ·have hkl:k=l.length:=by omega
  subst hkl
  simp
  exact ⟨hm2,hO.tab⟩
end Go.Proofs.YtngfdjolleabeaaGreat
namespace Go.Proofs.YtngfdjolleabeaaGreat
open Go Ax
open Relation
set_option maxRecDepth 100000
noncomputable def downV (l:List Md) (x:Int):List Md×Int×Int:=
 if rightI l [x]≠0 then ([],0,rightI l [x])
 else match downI l x.toNat with
  |none=>([],0,7)
  |some (l',n)=>(l',(n:Int),0)
theorem right1 {l:List Md} {x:Int} (h:rightI l [x]=0):checkI l=0∧ ∃a:Nat,x=a∧a<l.length:=by
 obtain ⟨hc,ns,h1,h2⟩:=rightA h
 refine ⟨hc,?_⟩
 cases ns with
 |nil=>cases h1
 |cons a ns=>
  simp only[List.map_cons,List.cons.injEq] at h1
  exact ⟨a,h1.1,h2 a List.mem_cons_self⟩
theorem bound1 {m:AMem} {e:AVal} {xs:List Int} (h:RInts m e xs) {z:Int} (hz:xs[0]? =some z): ∃b o,(∀k,iaddrE 1 e (.int k 0)=some (.ptr b o))∧ ∀m',m<+:m'→loadE m' 1 false (.ptr b o)=some (.int .i64 z):=by
 obtain ⟨h0,rfl⟩:=List.getElem?_eq_some_iff.1 hz
 obtain ⟨b,o,p1,p2⟩:=h.at (i:=0) h0
 exact ⟨b,o,fun k=>by simpa using p1 k,fun m' hm=>loadE_mono hm p2⟩
set_option maxHeartbeats 8000000 in
theorem k18 (s:AVal) (l:List Md) (x:Int) (m:AMem) (hs:RTab m s l) (hsm: ∀y∈l,smallN y) (hl:l.length<2^20) (hr:checkI l=0→Room l):
  ACalls Tryz.prog 18 [s,.int .i64 x] m fun v m'=>m<+:m'∧ ∃t,v= .tuple [t,.int .i64 (downV l x).2.1,.int .i64 (downV l x).2.2]∧RTab m' t (downV l x).1:=by
 refine w18 ?_
 simp[fillA,setN]
 have hA:=OwL.new (f:=AVal.int .i64) m 3 [x]
 have hm1:m<+:m++ [.own [.int .i64 x] 3 none]:=List.prefix_append _ _
 simp at hA
 generalize AVal.slice m.length 0 1 1 none=t1 at*
 generalize m++ [.own [.int .i64 x] 3 none]=m1 at*
 refine C_of (k32 s t1 l [x] m1 (hs.mono hm1) hA.ints hsm (by omega) (by simp)) ?_
 rintro _ m2 ⟨rfl,hm2⟩
 have hm02:=hm1.trans hm2
 by_cases hri:rightI l [x]=0
 rotate_left
 ·simp[bneT hri,downV,hri]
  exact ⟨hm02,RTab.nil0 _⟩
 obtain ⟨hc,a,rfl,ha⟩:=right1 hri
 replace hr:=hr hc
 have hV:downV l a=match downI l a with
  |none=>([],0,7)
  |some (l',n)=>(l',(n:Int),0):=by
  unfold downV
  rw[if_neg (by simp[hri]),Int.toNat_natCast]
 rw[hV]
 simp[hri]
 obtain ⟨bx',ox,c,h4,h5,_,_,h6⟩:=(hs.mono hm02).atC ha
 have hcl6:=h6.all
 simp[h4,h5]
 rw[store_new _ _ c _ _ 6 hcl6.1 rfl hcl6.2]
 obtain ⟨e,nm,_,_,_,_,_,_,he,hnm,rfl⟩:=h6.get
 have hb8:(m2++ [ABlk.own [.int .i64 l[a].kind,.int .i64 l[a].size,e,nm,.int .i64 l[a].dims,.bool l[a].flex] 44 none])[m2.length]? =some (.own [.int .i64 l[a].kind,.int .i64 l[a].size,e,nm,.int .i64 l[a].dims,.bool l[a].flex] 44 none):=by simp
 have hm23:m2<+:m2++ [ABlk.own [.int .i64 l[a].kind,.int .i64 l[a].size,e,nm,.int .i64 l[a].dims,.bool l[a].flex] 44 none]:=List.prefix_append _ _
 simp
 generalize m2++ [ABlk.own [.int .i64 l[a].kind,.int .i64 l[a].size,e,nm,.int .i64 l[a].dims,.bool l[a].flex] 44 none]=m3 at*
 generalize m2.length=b8 at*
 have hm03:=hm02.trans hm23
 have he3:=he.mono hm23
 have hma:=mdAt_eq ha
 by_cases h9:l[a].kind=9
 ·simp[h9]
  have hla:lead l a:= .inl (by rw[hma];exact h9)
  obtain ⟨hel,hhl⟩:=lead_elem hc ha hla
  rw[hma] at hel
  obtain ⟨b0,o0,p1,p2⟩:=bound1 he3 hel
  have hD:downI l a=some ((deflI l (headE l a)).1,leastN (deflI l (headE l a)).1 (deflI l (headE l a)).2):=by unfold downI;rw[if_pos (by rw[hma];exact h9)]
  rw[hD]
  simp[bx (own_read hb8),p1,p2 m3 (List.prefix_refl _)]
  refine C_of (k42 s l (headE l a) m3 (hs.mono hm03) hr hhl) ?_
  rintro _ m4 ⟨hm4,t,rfl,hT⟩
  have hd:=deflI_spec hr hhl
  have hr4:=hr.defl (by simpa using hhl) hd
  have hat:=(hd.ok hc (by simpa using hhl)).at_ 0 _ _ rfl rfl
  simp
  refine C_of (k43 t _ m4 hT hr4.h40 (by have:=hr4.len;omega)) ?_
  rintro v5 m5 ⟨hm5,hT5⟩
  simp
  refine C_of (k44 t _ _ m5 (hT.mono hm5) hr4 hat.1) ?_
  rintro _ m6 ⟨rfl,hm6⟩
  simp
  exact ⟨((hm03.trans hm4).trans hm5).trans hm6,hT5.mono hm6⟩
 ·simp[beqF h9]
  have hK9: ¬(mdAt l a).kind=9:=by rw[hma];exact h9
  have hD:downI l a=if (mdAt l a).kind=13∧(mdAt l a).elems.length=1∧(mdAt l (headE l a)).kind≠0 then some (l,leastN l (headE l a)) else none:=by unfold downI;rw[if_neg hK9]
  rw[hma] at hD
  have hlen:=he3.len
  by_cases h13:l[a].kind=13
  rotate_left
  ·have hDn:downI l a=none:=by rw[hD,if_neg (fun h=>h13 h.1)]
   rw[hDn]
   simp[beqF h13,bx (own_read hb8)]
   exact ⟨hm03,RTab.nil0 _⟩
  by_cases h1:l[a].elems.length=1
  rotate_left
  ·have h1': ¬(l[a].elems.length:Int)=1:=by omega
   have hDn:downI l a=none:=by rw[hD,if_neg (fun h=>h1 h.2.1)]
   rw[hDn]
   simp[h13,hlen,beqF h1',bx (own_read hb8)]
   exact ⟨hm03,RTab.nil0 _⟩
  have hla:lead l a:= .inr (by rw[hma];exact ⟨h13,h1⟩)
  obtain ⟨hel,hhl⟩:=lead_elem hc ha hla
  rw[hma] at hel
  obtain ⟨b0,o0,p1,p2⟩:=bound1 he3 hel
  obtain ⟨bh,oh,ch,k4,_,k5,_,_⟩:=(hs.mono hm03).atC hhl
  have hmh:=mdAt_eq hhl
  by_cases hv:l[headE l a].kind=0
  ·have hDn:downI l a=none:=by rw[hD,if_neg (fun h=>h.2.2 (by rw[hmh];exact hv))]
   rw[hDn]
   simp[h13,hlen,h1,bx (own_read hb8),p1,p2 m3 (List.prefix_refl _),k4,k5,hv]
   exact ⟨hm03,RTab.nil0 _⟩
  have hDs:downI l a=some (l,leastN l (headE l a)):=by rw[hD,if_pos ⟨h13,h1,by rw[hmh];exact hv⟩]
  rw[hDs]
  simp[h13,hlen,h1,bx (own_read hb8),p1,p2 m3 (List.prefix_refl _),k4,k5,bneT hv]
  refine W_draw (fun i v m'=>(i=1→RTab m' v l)∧(i=7→v= .int .i64 (leastN l (headE l a):Nat))) (by simp[maxDst]) ?_
  have: ∀(j:Nat) (m':AMem),noFacts j m':=fun _ _=>trivial
  refine D_P rfl trivial ?_
  simp
  refine D_C rfl trivial rfl (fun m' hm' _=>(k43 s l m' (hs.mono (hm03.trans hm')) hr.h40 hl).mono ?_) ?_ ?_ ?_
  ·rintro w m'' ⟨g1,g2⟩
   exact ⟨g1,fun _=>g2,by simp⟩
  ·exact ⟨s,m3,List.prefix_refl _,fun _=>hs.mono hm03,by simp⟩
  ·rintro w m' m'' hm hk
   exact ⟨fun h=>(hk.1 h).mono hm,fun h=>hk.2 h⟩
  rintro v1 m4 hm4 hv1
  clear hv1
  refine D_P rfl trivial ?_
  simp
  refine D_P rfl trivial ?_
  simp
  refine D_R rfl trivial ⟨_,List.prefix_refl _,fun _ h=>by cases h⟩ ?_
  simp[bx (own_read hb8)]
  refine D_P rfl trivial ?_
  simp[p1]
  refine D_R rfl trivial ⟨_,List.prefix_refl _,fun _ h=>by cases h⟩ ?_
  simp[p2 m3 (List.prefix_refl _)]
  refine D_C rfl trivial rfl (fun m' hm' _=>(k44 s l (headE l a) m' (hs.mono (hm03.trans hm')) hr hhl).mono ?_) ?_ ?_ ?_
  ·rintro w m'' ⟨rfl,g2⟩
   exact ⟨g2,by simp,fun _=>rfl⟩
  ·exact ⟨_,m3,List.prefix_refl _,by simp,fun _=>rfl⟩
  ·rintro w m' m'' hm hk
   exact ⟨fun h=>(hk.1 h).mono hm,fun h=>hk.2 h⟩
  rintro v7 m5 hm5 hv7
  obtain rfl:=hv7.2 rfl
  clear hv7
  refine D_P rfl trivial ?_
  simp
  refine D_P rfl trivial ?_
  simp
  refine D_P rfl trivial ?_
  simp
  refine D_end fun m6 hm6 hf=>?_
  have g1:=hf 1
  simp[upd] at g1
  simp
  exact ⟨hm03.trans hm6,g1⟩
end Go.Proofs.YtngfdjolleabeaaGreat
namespace Go.Proofs.YtngfdjolleabeaaGreat
open Go Ax
open Relation
set_option maxRecDepth 100000
theorem firstC_of {x y:Md} (h1:x.kind=y.kind) (h2:x.size=y.size) (h3:x.dims=y.dims) (h4:x.flex=y.flex) (h5:x.kind≠12→x.elems.length=y.elems.length) (h6:lexC cmpS x.names y.names=0):firstC x y=0:=by
 have hz: ∀z:Int,cmpI z z=0:=fun z=>cmpI_zero.2 rfl
 have hl:lenC x y=0:=by
  unfold lenC
  split
  ·rfl
  ·rename_i h;rw[h5 h];exact hz _
 simp[firstC,firstL,firstNZ_cons,h1,h2,h3,h4,h6,hl,hz,firstNZ]
inductive Dq (l:List Md):Nat→Nat→Prop
 |flat {e t:Nat}: ¬FlexP l e→RR l e=RR l t→Dq l e t
 |flex {e t:Nat}:FlexP l e→firstC (mdAt l t) (deflX (mdAt l e) ((mdAt l e).elems.map Int.toNat))=0→(∀(k:Nat) (a b:Int),(mdAt l e).elems[k]? =some a→(mdAt l t).elems[k]? =some b→Dq l a.toNat b.toNat)→Dq l e t
theorem Dq.congr {l:List Md} (hc:checkI l=0) {e t:Nat} (h:Dq l e t): ∀{e':Nat},e<l.length→e'<l.length→t<l.length→RR l e=RR l e'→Dq l e' t:=by
 have hg:=(okT_of hc).good
 induction h with
 |flat h1 h2=>exact fun he he' _ hr=> .flat (fun h=>h1 (h.congr hg he' he hr.symm)) (by rw[←hr];exact h2)
 | @flex e t h1 h2 _ ih=>
  intro e' he he' ht hr
  have hu:=rs_isU h1.rs.2
  obtain ⟨hl,hel⟩:=RR_elem hg he he' hr hu
  obtain ⟨a1,a2,a3,a4,a5,a6⟩:=firstC_all (RR_first he he' hr)
  have hdd:firstC (deflX (mdAt l e) ((mdAt l e).elems.map Int.toNat)) (deflX (mdAt l e') ((mdAt l e').elems.map Int.toNat))=0:=firstC_of a1 a2 a3 rfl (fun _=>by simp[deflX,hl]) a6
  refine .flex (h1.congr hg he he' hr) (firstC_ord.zero_trans trivial trivial trivial h2 hdd) fun k a b g1 g2=>?_
  have hk:k<(mdAt l e).elems.length:=by have:=(List.getElem?_eq_some_iff.1 g1).1;omega
  have h3:=List.getElem?_eq_getElem hk
  exact ih k _ b h3 g2 (elem_lt hg he h3).2 (elem_lt hg he' g1).2 (elem_lt hg ht g2).2 (hel k _ a h3 g1)
theorem firm_stop (F:Nat) (l:List Md) (m to:Nat) (h:downI l m=none):firmI (F+1) l m to=if RR l m=RR l to∨uniB l m to=true then some (0,!decide (RR l m=RR l to)) else none:=by
 rw[firmI,h]
theorem relI_some {l:List Md} {a b:Nat}:(relI l a b).isSome=true↔(∃z∈basesOf l a,(firmI 100 l z b).isSome=true)∨(∃z∈basesOf l b,(firmI 100 l z a).isSome=true):=by
 unfold relI
 rw[better_some,half_some,half_some,Bool.or_eq_true,List.any_eq_true,List.any_eq_true]
theorem relI_symm {l:List Md} {a b:Nat}:(relI l a b).isSome=(relI l b a).isSome:=by
 rw[Bool.eq_iff_iff,relI_some,relI_some]
 exact Or.comm
theorem firm_now {l:List Md} {m to:Nat} (F:Nat) (h:RR l m=RR l to∨uniB l m to=true):(firmI (F+1) l m to).isSome=true:=by
 simp only[firmI]
 rw[if_pos h]
 rfl
theorem bases_nu {l:List Md} (hg:goodT l) {a:Nat} (ha:a<l.length) (hu:isU (mdAt l a)=false):basesOf l a= [a]:=(basesEx hg ha).el hu
theorem relI_self {l:List Md} (hr:Room l) {a:Nat} (ha:a<l.length):(relI l a a).isSome=true:=by
 have hg:=(okT_of hr.ck).good
 rw[relI_some]
 refine .inl ?_
 by_cases hu:isU (mdAt l a)=true
 ·obtain ⟨j,hj⟩:=union_part hr.ck _ a (Nat.lt_succ_self _) ha hu
  obtain ⟨z,hz,_⟩:=basesOf_cov hg ha ((base_un hu).2 hj)
  have hzb:=basesOf_sub hg ha hz
  have hzl:=hzb.lt hg ha
  have hzu:=base_nu hzl hzb
  refine ⟨z,hz,firm_now 99 (.inr ((uniB_iff hg hzl ha).2 ⟨hu,fun h=>?_,fun x hx=>?_⟩))⟩
  ·have:=RR_isU hzl ha h
   rw[hzu,hu] at this
   cases this
  ·rw[(base_el hzu).1 hx]
   exact ⟨z,hzb,rfl⟩
 ·have hu:isU (mdAt l a)=false:=by simpa using hu
  exact ⟨a,by rw[bases_nu hg ha hu];exact List.mem_singleton.2 rfl,firm_now 99 (.inl rfl)⟩
theorem relI_down {l k:List Md} {a m:Nat} (hr:Room l) (ha:a<l.length) (h:downI l a=some (k,m)):(relI k a m).isSome=true:=by
 obtain ⟨hl,hrk,hx,hm,_⟩:=down_ok hr ha h
 have hlen:=hx.len
 have hg:=(okT_of hr.ck).good
 have hgk:=(okT_of hrk.ck).good
 have hu:isU (mdAt k a)=false:=by
  rw[hx.md ha]
  rcases hl with h|h<;>simp[isU,h]
 rw[relI_some]
 refine .inl ⟨a,by rw[bases_nu hgk (by omega) hu];exact List.mem_singleton.2 rfl,?_⟩
 suffices key: ∀F,(firmI (F+1+1) k a m).isSome=true from key 98
 intro F
 rw[firmI]
 split
 ·rfl
 ·have hda:downI k a=some (k,m):=by
   have hh:headE k a=headE l a:=by unfold headE;rw[hx.md ha]
   have hel:=(lead_elem hr.ck ha hl).2
   unfold downI at h ⊢
   rw[hx.md ha,hh]
   split at h
   ·rename_i h9
    rw[if_pos h9]
    simp only[Option.some.injEq,Prod.mk.injEq] at h
    obtain ⟨rfl,rfl⟩:=h
    have hd:=deflI_spec hr hel
    have hs:=hd.stable hr.ck (by simpa using hel) .refl (by have:=hrk.len;omega)
    rw[hs.eq]
   ·rename_i h9
    rw[if_neg h9]
    split at h
    ·rename_i h13
     simp only[Option.some.injEq,Prod.mk.injEq] at h
     obtain ⟨rfl,rfl⟩:=h
     rw[if_pos h13]
    ·cases h
  rw[hda]
  simp only[firmI]
  rw[if_pos (.inl trivial)]
  rfl
end Go.Proofs.YtngfdjolleabeaaGreat
namespace Go.Proofs.YtngfdjolleabeaaGreat
open Go Ax
set_option maxRecDepth 100000
theorem w3 {args m R} (h:W Tryz.prog (.seq (.reg [qb 6 false]) (.kill [0,1,2] (.seq (.seq (.reg [qc 13 11 [],⟨some 14,.P (.un .not (.t 13)),none⟩]) (.kill [0,1,2,14] (.cond (.t 14) (.seq (.reg [qb 6 false]) .ret) .skip))) (.kill [0,1,2] (.seq (.seq (.reg [qv 15 0,qc 16 12 [(.t 15),(qz 10)],⟨some 17,.P (.un .not (.t 16)),none⟩]) (.kill [0,1,2,17] (.cond (.t 17) (.seq (.reg [qb 6 true]) .ret) .skip))) (.kill [0,1,2] (.seq (.reg [qv 19 0,qv 20 1,qv 21 2,qc 22 13 [(.t 19),(.t 20),(.t 21)],qv 18 22,qx 23 18 0,qx 24 18 1,qx 25 18 2,qv 7 23,qv 8 24,qv 9 25]) (.kill [0,1,2,7,8,9] (.seq (.reg [qv 27 0,qv 28 1,qv 29 2,qc 30 14 [(.t 27),(.t 28),(.t 29)],qv 26 30,qx 31 26 0,qx 32 26 1,qx 33 26 2,qv 10 31,qv 11 32,qv 12 33]) (.kill [7,8,9,10,11,12] (.seq (.reg [qv 34 7,qv 35 10,qo 36 .eql 34 35,qv 37 36,⟨some 38,.P (.mov (.t 8)),(some (37,true))⟩,⟨some 39,.P (.mov (.t 11)),(some (37,true))⟩,⟨some 40,.P (.eqB false (.t 38) (.t 39)),(some (37,true))⟩,⟨some 41,.P (.pick (.t 37) (.t 40) (.c (.bool false))),none⟩,qv 42 41,⟨some 43,.P (.mov (.t 9)),(some (42,true))⟩,⟨some 44,.P (.mov (.t 12)),(some (42,true))⟩,⟨some 45,.P (.bin .eql (.t 43) (.t 44)),(some (42,true))⟩,⟨some 46,.P (.pick (.t 42) (.t 45) (.c (.bool false))),none⟩,qv 6 46]) .ret))))))))))) (E [(.tmp 6)] R .mk) .mk (mat 47 (sArgs 0 args)) m) (hl:Nat.ble args.length 47=true:=by rfl):ACalls Tryz.prog 3 args m R:=walk mix (by kernel_rfl) (Nat.le_of_ble_eq_true hl) h
theorem w4 {args m R} (h:W Tryz.prog (.seq (.reg [qb 6 false]) (.kill [0,1,2] (.seq (.seq (.reg [qc 13 11 [],⟨some 14,.P (.un .not (.t 13)),none⟩]) (.kill [0,1,2,14] (.cond (.t 14) (.seq (.reg [qb 6 false]) .ret) .skip))) (.kill [0,1,2] (.seq (.seq (.reg [qv 15 0,qc 16 12 [(.t 15),(qz 10)],⟨some 17,.P (.un .not (.t 16)),none⟩]) (.kill [0,1,2,17] (.cond (.t 17) (.seq (.reg [qb 6 true]) .ret) .skip))) (.kill [0,1,2] (.seq (.reg [qv 19 0,qv 20 1,qv 21 2,qc 22 15 [(.t 19),(.t 20),(.t 21)],qv 18 22,qx 23 18 0,qx 24 18 1,qx 25 18 2,⟨some 7,.A (.alloc 30 [(.bool false),(.int .i64 0),(.int .i64 0),(.bool false)]),none⟩,⟨none,.W (.store 4 (.t 7) (.t 23)),none⟩,qv 8 24,qv 9 25]) (.kill [0,1,2,7,8,9] (.seq (.reg [qv 27 0,qv 28 1,qv 29 2,qc 30 16 [(.t 27),(.t 28),(.t 29)],qv 26 30,qx 31 26 0,qx 32 26 1,qx 33 26 2,⟨some 10,.A (.alloc 33 [(.bool false),(.int .i64 0),(.int .i64 0),(.bool false)]),none⟩,⟨none,.W (.store 4 (.t 10) (.t 31)),none⟩,qv 11 32,qv 12 33]) (.kill [7,8,9,10,11,12] (.seq (.reg [⟨some 34,.R (.load 4 true (.t 7)),none⟩,⟨some 35,.R (.load 4 true (.t 10)),none⟩,⟨some 36,.P (.eqS false [true,false,false,true] (.t 34) (.t 35)),none⟩,qv 37 36,⟨some 38,.P (.mov (.t 8)),(some (37,true))⟩,⟨some 39,.P (.mov (.t 11)),(some (37,true))⟩,⟨some 40,.P (.eqB false (.t 38) (.t 39)),(some (37,true))⟩,⟨some 41,.P (.pick (.t 37) (.t 40) (.c (.bool false))),none⟩,qv 42 41,⟨some 43,.P (.mov (.t 9)),(some (42,true))⟩,⟨some 44,.P (.mov (.t 12)),(some (42,true))⟩,⟨some 45,.P (.bin .eql (.t 43) (.t 44)),(some (42,true))⟩,⟨some 46,.P (.pick (.t 42) (.t 45) (.c (.bool false))),none⟩,qv 6 46]) .ret))))))))))) (E [(.tmp 6)] R .mk) .mk (mat 47 (sArgs 0 args)) m) (hl:Nat.ble args.length 47=true:=by rfl):ACalls Tryz.prog 4 args m R:=walk mix (by kernel_rfl) (Nat.le_of_ble_eq_true hl) h
theorem w5 {args m R} (h:W Tryz.prog (.seq (.reg [qb 6 false]) (.kill [0,1,2] (.seq (.seq (.reg [qc 20 11 [],⟨some 21,.P (.un .not (.t 20)),none⟩]) (.kill [0,1,2,21] (.cond (.t 21) (.seq (.reg [qb 6 false]) .ret) .skip))) (.kill [0,1,2] (.seq (.seq (.reg [qv 22 0,qc 23 12 [(.t 22),(qz 10)],⟨some 24,.P (.un .not (.t 23)),none⟩,qv 25 24,⟨some 26,.P (.mov (.t 0)),(some (25,false))⟩,⟨some 27,.P (.mov (.t 1)),(some (25,false))⟩,⟨some 28,.P (.mov (.t 2)),(some (25,false))⟩,⟨some 29,.A (.bslice 3 2 [(.int .i64 0)] [(0,(1,(.t 27))),(1,(1,(.t 28)))]),(some (25,false))⟩,⟨some 30,.C (.c (.func (.func 17) [] [])) [(.t 26),(.t 29)],(some (25,false))⟩,⟨some 31,.P (.un .not (.t 30)),(some (25,false))⟩,⟨some 32,.P (.pick (.t 25) (.c (.bool true)) (.t 31)),none⟩]) (.kill [0,1,2,32] (.cond (.t 32) (.seq (.reg [qb 6 true]) .ret) .skip))) (.kill [0,1,2] (.seq (.reg [qv 34 0,qv 35 1,qv 36 2,qc 37 15 [(.t 34),(.t 35),(.t 36)],qv 33 37,qx 38 33 0,qx 39 33 1,qx 40 33 2,⟨some 7,.A (.alloc 30 [(.bool false),(.int .i64 0),(.int .i64 0),(.bool false)]),none⟩,⟨none,.W (.store 4 (.t 7) (.t 38)),none⟩,qv 8 39,qv 9 40]) (.kill [0,1,2,8,9] (.seq (.reg [qv 42 0,qv 43 2,qv 44 1,qc 45 15 [(.t 42),(.t 43),(.t 44)],qv 41 45,qx 46 41 0,qx 47 41 1,qx 48 41 2,⟨some 10,.A (.alloc 30 [(.bool false),(.int .i64 0),(.int .i64 0),(.bool false)]),none⟩,⟨none,.W (.store 4 (.t 10) (.t 46)),none⟩,qv 11 47,qv 12 48]) (.kill [0,1,8,9,11,12] (.seq (.reg [qv 50 0,qv 51 1,qv 52 1,qc 53 15 [(.t 50),(.t 51),(.t 52)],qv 49 53,qx 54 49 0,qx 55 49 1,qx 56 49 2,⟨some 13,.A (.alloc 30 [(.bool false),(.int .i64 0),(.int .i64 0),(.bool false)]),none⟩,⟨none,.W (.store 4 (.t 13) (.t 54)),none⟩,qv 14 55,qv 15 56]) (.kill [0,1,8,9,11,12,14,15] (.seq (.seq (.reg [qv 57 9,qv 58 12,qo 59 .add 57 58,qv 60 15,qo 61 .add 59 60,qk 62 .neq 61 0,qv 63 62,⟨some 64,.P (.mov (.t 8)),(some (63,false))⟩,⟨some 65,.P (.mov (.t 11)),(some (63,false))⟩,⟨some 66,.P (.eqB true (.t 64) (.t 65)),(some (63,false))⟩,⟨some 67,.P (.pick (.t 63) (.c (.bool true)) (.t 66)),none⟩,qv 68 67,⟨some 69,.P (.mov (.t 14)),(some (68,false))⟩,⟨some 70,.P (.un .not (.t 69)),(some (68,false))⟩,⟨some 71,.P (.pick (.t 68) (.c (.bool true)) (.t 70)),none⟩]) (.kill [0,1,71] (.cond (.t 71) (.seq (.reg [qb 6 false]) .ret) .skip))) (.kill [0,1] (.seq (.reg [qv 73 0,qv 74 1,qc 75 18 [(.t 73),(.t 74)],qv 72 75,qx 76 72 0,qx 77 72 1,qx 78 72 2,qv 16 76,qv 17 77,qv 9 78]) (.kill [1,9,16,17] (.seq (.seq (.reg [qv 79 9,qk 80 .neq 79 0]) (.kill [1,9,16,17,80] (.cond (.t 80) (.seq (.reg [qv 81 9,qk 82 .eql 81 7,qv 6 82]) .ret) .skip))) (.kill [1,16,17] (.seq (.reg [qv 84 16,qv 85 1,qv 86 17,qc 87 15 [(.t 84),(.t 85),(.t 86)],qv 83 87,qx 88 83 0,qx 89 83 1,qx 90 83 2,⟨some 18,.A (.alloc 30 [(.bool false),(.int .i64 0),(.int .i64 0),(.bool false)]),none⟩,⟨none,.W (.store 4 (.t 18) (.t 88)),none⟩,qv 19 89,qv 9 90]) (.kill [9,19] (.seq (.reg [qv 91 19,qv 92 91,⟨some 93,.P (.mov (.t 9)),(some (92,true))⟩,⟨some 94,.P (.bin .eql (.t 93) (qz 0)),(some (92,true))⟩,⟨some 95,.P (.pick (.t 92) (.t 94) (.c (.bool false))),none⟩,qv 6 95]) .ret))))))))))))))))))))) (E [(.tmp 6)] R .mk) .mk (mat 96 (sArgs 0 args)) m) (hl:Nat.ble args.length 96=true:=by rfl):ACalls Tryz.prog 5 args m R:=walk mix (by kernel_rfl) (Nat.le_of_ble_eq_true hl) h
theorem w6 {args m R} (h:W Tryz.prog (.seq (.reg [qb 6 false]) (.kill [0,1,2] (.seq (.seq (.reg [qc 19 11 [],⟨some 20,.P (.un .not (.t 19)),none⟩]) (.kill [0,1,2,20] (.cond (.t 20) (.seq (.reg [qb 6 false]) .ret) .skip))) (.kill [0,1,2] (.seq (.seq (.reg [qv 21 0,qc 22 12 [(.t 21),(qz 10)],⟨some 23,.P (.un .not (.t 22)),none⟩,qv 24 23,⟨some 25,.P (.mov (.t 0)),(some (24,false))⟩,⟨some 26,.P (.mov (.t 1)),(some (24,false))⟩,⟨some 27,.P (.mov (.t 2)),(some (24,false))⟩,⟨some 28,.A (.bslice 3 2 [(.int .i64 0)] [(0,(1,(.t 26))),(1,(1,(.t 27)))]),(some (24,false))⟩,⟨some 29,.C (.c (.func (.func 17) [] [])) [(.t 25),(.t 28)],(some (24,false))⟩,⟨some 30,.P (.un .not (.t 29)),(some (24,false))⟩,⟨some 31,.P (.pick (.t 24) (.c (.bool true)) (.t 30)),none⟩]) (.kill [0,1,2,31] (.cond (.t 31) (.seq (.reg [qb 6 true]) .ret) .skip))) (.kill [0,1,2] (.seq (.reg [qv 33 0,qv 34 1,qv 35 2,qc 36 15 [(.t 33),(.t 34),(.t 35)],qv 32 36,qx 37 32 0,qx 38 32 1,qx 39 32 2,⟨some 7,.A (.alloc 30 [(.bool false),(.int .i64 0),(.int .i64 0),(.bool false)]),none⟩,⟨none,.W (.store 4 (.t 7) (.t 37)),none⟩,qv 8 38,qv 9 39]) (.kill [0,1,2,7,8,9] (.seq (.seq (.reg [qv 40 9,qk 41 .neq 40 0,qv 42 41,⟨some 43,.P (.mov (.t 8)),(some (42,false))⟩,⟨some 44,.P (.un .not (.t 43)),(some (42,false))⟩,⟨some 45,.P (.pick (.t 42) (.c (.bool true)) (.t 44)),none⟩]) (.kill [0,1,2,7,9,45] (.cond (.t 45) (.seq (.reg [qv 46 9,qk 47 .eql 46 0,qv 48 47,⟨some 49,.R (.load 4 true (.t 7)),(some (48,true))⟩,⟨some 50,.P (.build [(.bool false),(.int .i64 0),(.int .i64 0),(.bool false)] []),(some (48,true))⟩,⟨some 51,.P (.eqS false [true,false,false,true] (.t 49) (.t 50)),(some (48,true))⟩,⟨some 52,.P (.pick (.t 48) (.t 51) (.c (.bool false))),none⟩,qv 6 52]) .ret) .skip))) (.kill [0,1,2,7] (.seq (.reg [qv 53 2,qv 54 1,qv 10 53,qv 11 54]) (.kill [0,1,2,7,10,11] (.seq (.seq (.reg [⟨some 55,.P (.faddr 0 (.t 7)),none⟩,ql 56 55]) (.kill [0,1,2,7,10,11,56] (.cond (.t 56) (.reg [qv 57 1,qv 58 2,qv 10 57,qv 11 58]) .skip))) (.kill [0,7,10,11] (.seq (.seq (.reg [⟨some 59,.P (.faddr 1 (.t 7)),none⟩,ql 60 59,qk 61 .lss 60 0,qv 62 61,⟨some 63,.P (.faddr 1 (.t 7)),(some (62,false))⟩,⟨some 64,.R (.load 1 false (.t 63)),(some (62,false))⟩,⟨some 65,.P (.mov (.t 0)),(some (62,false))⟩,⟨some 66,.P (.len (.t 65)),(some (62,false))⟩,⟨some 67,.P (.bin .geq (.t 64) (.t 66)),(some (62,false))⟩,⟨some 68,.P (.pick (.t 62) (.c (.bool true)) (.t 67)),none⟩,qv 69 68,⟨some 70,.P (.faddr 2 (.t 7)),(some (69,false))⟩,⟨some 71,.R (.load 1 false (.t 70)),(some (69,false))⟩,⟨some 72,.P (.bin .lss (.t 71) (qz 0)),(some (69,false))⟩,⟨some 73,.P (.pick (.t 69) (.c (.bool true)) (.t 72)),none⟩,qv 74 73,⟨some 75,.P (.faddr 2 (.t 7)),(some (74,false))⟩,⟨some 76,.R (.load 1 false (.t 75)),(some (74,false))⟩,⟨some 77,.P (.bin .gtr (.t 76) (qz 100)),(some (74,false))⟩,⟨some 78,.P (.pick (.t 74) (.c (.bool true)) (.t 77)),none⟩]) (.kill [0,7,10,11,78] (.cond (.t 78) (.seq (.reg [qb 6 false]) .ret) .skip))) (.kill [0,7,10,11] (.seq (.reg [qv 80 0,qv 81 10,⟨some 82,.P (.faddr 1 (.t 7)),none⟩,ql 83 82,qc 84 19 [(.t 80),(.t 81),(.t 83)],qv 79 84,qx 85 79 0,qx 86 79 1,qv 12 85,qv 9 86]) (.kill [0,7,9,10,11,12] (.seq (.seq (.reg [qv 87 9,qk 88 .neq 87 0,qv 89 88,⟨some 90,.P (.mov (.t 0)),(some (89,false))⟩,⟨some 91,.P (.mov (.t 10)),(some (89,false))⟩,⟨some 92,.P (.iaddr 6 (.t 90) (.t 91)),(some (89,false))⟩,⟨some 93,.P (.faddr 0 (.t 92)),(some (89,false))⟩,⟨some 94,.R (.load 1 false (.t 93)),(some (89,false))⟩,⟨some 95,.P (.bin .eql (.t 94) (qz 12)),(some (89,false))⟩,⟨some 96,.P (.mov (.t 95)),(some (89,false))⟩,⟨some 97,.P (.mov (.t 12)),(some (96,true))⟩,⟨some 98,.P (.un .not (.t 97)),(some (96,true))⟩,⟨some 99,.P (.pick (.t 96) (.t 98) (.c (.bool false))),(some (89,false))⟩,⟨some 100,.P (.pick (.t 89) (.c (.bool true)) (.t 99)),none⟩,qv 101 100,⟨some 102,.P (.mov (.t 0)),(some (101,false))⟩,⟨some 103,.P (.mov (.t 10)),(some (101,false))⟩,⟨some 104,.P (.iaddr 6 (.t 102) (.t 103)),(some (101,false))⟩,⟨some 105,.P (.faddr 0 (.t 104)),(some (101,false))⟩,⟨some 106,.R (.load 1 false (.t 105)),(some (101,false))⟩,⟨some 107,.P (.bin .neq (.t 106) (qz 12)),(some (101,false))⟩,⟨some 108,.P (.mov (.t 107)),(some (101,false))⟩,⟨some 109,.P (.faddr 1 (.t 7)),(some (108,true))⟩,⟨some 110,.R (.load 1 false (.t 109)),(some (108,true))⟩,⟨some 111,.P (.mov (.t 10)),(some (108,true))⟩,⟨some 112,.P (.bin .neq (.t 110) (.t 111)),(some (108,true))⟩,⟨some 113,.P (.pick (.t 108) (.t 112) (.c (.bool false))),(some (101,false))⟩,⟨some 114,.P (.pick (.t 101) (.c (.bool true)) (.t 113)),none⟩]) (.kill [0,7,11,114] (.cond (.t 114) (.seq (.reg [qb 6 false]) .ret) .skip))) (.kill [0,7,11] (.seq (.reg [⟨some 115,.P (.faddr 1 (.t 7)),none⟩,ql 116 115,qv 13 116]) (.kill [0,7,11,13] (.seq (.reg [qi 14 0]) (.block 0 (.kill [0,7,11,13,14] (.loop (.fin [0,7,11,13,14] (.seq (.block 1 (.seq (.reg [qv 120 0,qv 121 13,qv 122 11,qc 123 20 [(.t 120),(.t 121),(.t 122)],qv 119 123,qx 124 119 0,qx 125 119 1,qv 15 124,qv 16 125]) (.kill [0,7,11,13,14,15,16] (.seq (.reg [qv 127 0,qv 128 13,qv 129 11,qc 130 21 [(.t 127),(.t 128),(.t 129)],qv 126 130,qx 131 126 0,qx 132 126 1,qv 17 131,qv 18 132]) (.kill [0,7,11,13,14,15,16,17,18] (.seq (.seq (.reg [qv 133 16,qv 134 18,qo 135 .add 133 134,qk 136 .neq 135 0]) (.kill [0,7,11,13,14,15,17,136] (.cond (.t 136) (.seq (.reg [qb 6 false]) .ret) .skip))) (.kill [0,7,11,13,14,15,17] (.seq (.seq (.reg [qv 137 14,⟨some 138,.P (.faddr 2 (.t 7)),none⟩,ql 139 138,qo 140 .eql 137 139]) (.kill [0,7,11,13,14,15,17,140] (.cond (.t 140) (.seq (.reg [qv 141 15,qv 142 141,⟨some 143,.P (.faddr 3 (.t 7)),(some (142,true))⟩,⟨some 144,.R (.load 1 false (.t 143)),(some (142,true))⟩,⟨some 145,.P (.un .not (.t 144)),(some (142,true))⟩,⟨some 146,.P (.pick (.t 142) (.t 145) (.c (.bool false))),none⟩,qv 147 146,⟨some 148,.P (.mov (.t 17)),(some (147,false))⟩,⟨some 149,.P (.mov (.t 148)),(some (147,false))⟩,⟨some 150,.P (.faddr 3 (.t 7)),(some (149,true))⟩,⟨some 151,.R (.load 1 false (.t 150)),(some (149,true))⟩,⟨some 152,.P (.pick (.t 149) (.t 151) (.c (.bool false))),(some (147,false))⟩,⟨some 153,.P (.pick (.t 147) (.c (.bool true)) (.t 152)),none⟩,qv 6 153]) .ret) .skip))) (.kill [0,7,11,13,14,15,17] (.seq (.seq (.reg [qv 154 15,qv 155 154,⟨some 156,.P (.mov (.t 17)),(some (155,false))⟩,⟨some 157,.P (.pick (.t 155) (.c (.bool true)) (.t 156)),none⟩]) (.kill [0,7,11,13,14,157] (.cond (.t 157) (.seq (.reg [qb 6 false]) .ret) .skip))) (.kill [0,7,11,13,14] (.seq (.reg [qv 159 0,qv 160 13,qc 161 18 [(.t 159),(.t 160)],qv 158 161,qx 162 158 0,qx 163 158 1,qx 164 158 2,qv 0 162,qv 13 163,qv 16 164]) (.kill [0,7,11,13,14,16] (.seq (.reg [qv 165 16,qk 166 .neq 165 0]) (.kill [0,7,11,13,14,166] (.cond (.t 166) (.seq (.reg [qb 6 false]) .ret) .skip)))))))))))))))) (.kill [0,7,11,13,14] (.reg [qv 117 14,qk 118 .add 117 1,qv 14 118])))))))))))))))))))))))))))))) (E [(.tmp 6)] R .mk) .mk (mat 167 (sArgs 0 args)) m) (hl:Nat.ble args.length 167=true:=by rfl):ACalls Tryz.prog 6 args m R:=walk mix (by kernel_rfl) (Nat.le_of_ble_eq_true hl) h
abbrev h6_0 (t0 t7 t11 t13 t14:AVal):AFrame:=mat 167 [(0,t0),(7,t7),(11,t11),(13,t13),(14,t14)]
theorem w7 {args m R} (h:W Tryz.prog (.seq (.reg [qb 4 false]) (.kill [0,1] (.seq (.seq (.reg [qc 11 11 [],⟨some 12,.P (.un .not (.t 11)),none⟩]) (.kill [0,1,12] (.cond (.t 12) (.seq (.reg [qb 4 false]) .ret) .skip))) (.kill [0,1] (.seq (.seq (.reg [qv 13 0,qc 14 12 [(.t 13),(qz 10)],⟨some 15,.P (.un .not (.t 14)),none⟩]) (.kill [0,1,15] (.cond (.t 15) (.seq (.reg [qb 4 true]) .ret) .skip))) (.kill [0,1] (.seq (.reg [qv 17 0,qv 18 1,qc 19 18 [(.t 17),(.t 18)],qv 16 19,qx 20 16 0,qx 21 16 1,qx 22 16 2,qv 5 20,qv 6 21,qv 7 22]) (.kill [0,1,5,6,7] (.seq (.reg [qv 24 0,qv 25 1,qc 26 22 [(.t 24),(.t 25)],qv 23 26,qx 27 23 0,qx 28 23 1,qx 29 23 2,qv 8 27,qv 9 28,qv 10 29]) (.kill [5,6,7,8,9,10] (.seq (.reg [qv 30 5,qv 31 8,qc 32 23 [(.t 30),(.t 31)],qv 33 32,⟨some 34,.P (.mov (.t 6)),(some (33,true))⟩,⟨some 35,.P (.mov (.t 9)),(some (33,true))⟩,⟨some 36,.P (.bin .eql (.t 34) (.t 35)),(some (33,true))⟩,⟨some 37,.P (.pick (.t 33) (.t 36) (.c (.bool false))),none⟩,qv 38 37,⟨some 39,.P (.mov (.t 7)),(some (38,true))⟩,⟨some 40,.P (.mov (.t 10)),(some (38,true))⟩,⟨some 41,.P (.bin .eql (.t 39) (.t 40)),(some (38,true))⟩,⟨some 42,.P (.pick (.t 38) (.t 41) (.c (.bool false))),none⟩,qv 4 42]) .ret))))))))))) (E [(.tmp 4)] R .mk) .mk (mat 43 (sArgs 0 args)) m) (hl:Nat.ble args.length 43=true:=by rfl):ACalls Tryz.prog 7 args m R:=walk mix (by kernel_rfl) (Nat.le_of_ble_eq_true hl) h
theorem w11 {args m R} (h:W Tryz.prog (.seq (.reg [qb 0 false]) (.kill [] (.seq (.reg [⟨some 11,.P (.build [(.int .i64 0),(.int .i64 0),.nilslice,.nilslice,(.int .i64 0),(.bool false)] [(0,(1,(qz 3)))]),none⟩,⟨some 12,.A (.bslice 3 1 [(.int .i64 0)] [(0,(1,(qz 0)))]),none⟩,⟨some 13,.P (.build [(.int .i64 0),(.int .i64 0),.nilslice,.nilslice,(.int .i64 0),(.bool false)] [(0,(1,(qz 9))),(2,(1,(.t 12)))]),none⟩,⟨some 14,.A (.bslice 3 1 [(.int .i64 0)] [(0,(1,(qz 1)))]),none⟩,⟨some 15,.P (.build [(.int .i64 0),(.int .i64 0),.nilslice,.nilslice,(.int .i64 0),(.bool false)] [(0,(1,(qz 13))),(2,(1,(.t 14)))]),none⟩,⟨some 16,.P (.build [(.int .i64 0),(.int .i64 0),.nilslice,.nilslice,(.int .i64 0),(.bool false)] [(0,(1,(qz 4)))]),none⟩,⟨some 17,.A (.bslice 3 2 [(.int .i64 0)] [(0,(1,(qz 0))),(1,(1,(qz 3)))]),none⟩,⟨some 18,.P (.build [(.int .i64 0),(.int .i64 0),.nilslice,.nilslice,(.int .i64 0),(.bool false)] [(0,(1,(qz 12))),(2,(1,(.t 17)))]),none⟩,⟨some 19,.A (.bslice 44 5 [(.int .i64 0),(.int .i64 0),.nilslice,.nilslice,(.int .i64 0),(.bool false)] [(0,(6,(.t 11))),(6,(6,(.t 13))),(12,(6,(.t 15))),(18,(6,(.t 16))),(24,(6,(.t 18)))]),none⟩,qv 1 19]) (.kill [1] (.seq (.reg [qv 21 1,qc 22 13 [(.t 21),(qz 2),(qz 0)],qv 20 22,qx 23 20 0,qx 24 20 1,qx 25 20 2,qv 2 23,qv 3 24,qv 4 25]) (.kill [1,2,3,4] (.seq (.reg [qv 27 1,qc 28 15 [(.t 27),(qz 0),(qz 2)],qv 26 28,qx 29 26 0,qx 30 26 1,qx 31 26 2,⟨some 5,.A (.alloc 30 [(.bool false),(.int .i64 0),(.int .i64 0),(.bool false)]),none⟩,⟨none,.W (.store 4 (.t 5) (.t 29)),none⟩,qv 6 30,qv 7 31]) (.kill [1,2,3,4,5,6,7] (.seq (.reg [qv 33 1,qc 34 15 [(.t 33),(qz 0),(qz 3)],qv 32 34,qx 35 32 0,qx 36 32 1,qx 37 32 2,⟨some 8,.A (.alloc 30 [(.bool false),(.int .i64 0),(.int .i64 0),(.bool false)]),none⟩,⟨none,.W (.store 4 (.t 8) (.t 35)),none⟩,qv 9 36,qv 10 37]) (.kill [2,3,4,5,6,7,9,10] (.seq (.reg [qv 38 2,qk 39 .eql 38 2,qv 40 39,⟨some 41,.P (.mov (.t 3)),(some (40,true))⟩,⟨some 42,.P (.pick (.t 40) (.t 41) (.c (.bool false))),none⟩,qv 43 42,⟨some 44,.P (.mov (.t 6)),(some (43,true))⟩,⟨some 45,.P (.pick (.t 43) (.t 44) (.c (.bool false))),none⟩,qv 46 45,⟨some 47,.P (.mov (.t 9)),(some (46,true))⟩,⟨some 48,.P (.un .not (.t 47)),(some (46,true))⟩,⟨some 49,.P (.pick (.t 46) (.t 48) (.c (.bool false))),none⟩,qv 50 49,⟨some 51,.R (.load 4 true (.t 5)),(some (50,true))⟩,⟨some 52,.P (.build [(.bool false),(.int .i64 0),(.int .i64 0),(.bool false)] [(1,(1,(qz 2))),(2,(1,(qz 2)))]),(some (50,true))⟩,⟨some 53,.P (.eqS false [true,false,false,true] (.t 51) (.t 52)),(some (50,true))⟩,⟨some 54,.P (.pick (.t 50) (.t 53) (.c (.bool false))),none⟩,qv 55 54,⟨some 56,.P (.mov (.t 4)),(some (55,true))⟩,⟨some 57,.P (.mov (.t 7)),(some (55,true))⟩,⟨some 58,.P (.bin .add (.t 56) (.t 57)),(some (55,true))⟩,⟨some 59,.P (.mov (.t 10)),(some (55,true))⟩,⟨some 60,.P (.bin .add (.t 58) (.t 59)),(some (55,true))⟩,⟨some 61,.P (.bin .eql (.t 60) (qz 0)),(some (55,true))⟩,⟨some 62,.P (.pick (.t 55) (.t 61) (.c (.bool false))),none⟩,qv 0 62]) .ret))))))))))) (E [(.tmp 0)] R .mk) .mk (mat 63 (sArgs 0 args)) m) (hl:Nat.ble args.length 63=true:=by rfl):ACalls Tryz.prog 11 args m R:=walk mix (by kernel_rfl) (Nat.le_of_ble_eq_true hl) h
theorem w13 {args m R} (h:W Tryz.prog (.seq (.reg [qi 6 0,qb 7 false,qi 8 0]) (.kill [0,1,2] (.seq (.seq (.reg [qv 10 0,qv 11 1,qv 12 2,⟨some 13,.A (.bslice 3 2 [(.int .i64 0)] [(0,(1,(.t 11))),(1,(1,(.t 12)))]),none⟩,qc 14 32 [(.t 10),(.t 13)],qv 9 14]) (.kill [0,1,2,9] (.seq (.reg [qv 15 9,qk 16 .neq 15 0]) (.kill [0,1,2,9,16] (.cond (.t 16) (.seq (.reg [qv 17 9,qi 6 0,qb 7 false,qv 8 17]) .ret) .skip))))) (.kill [0,1,2] (.seq (.reg [qv 19 0,qv 20 1,qv 21 2,qc 22 33 [(.t 19),(.t 20),(.t 21)],qv 18 22,qx 23 18 0,qx 24 18 1,qx 25 18 2,qx 26 18 3,qv 6 23,qv 7 25,qv 8 26]) (.kill [6,7,8] (.seq (.reg [qv 27 6,qv 28 7,qv 29 8,qv 6 27,qv 7 28,qv 8 29]) .ret))))))) (E [(.tmp 6),(.tmp 7),(.tmp 8)] R .mk) .mk (mat 30 (sArgs 0 args)) m) (hl:Nat.ble args.length 30=true:=by rfl):ACalls Tryz.prog 13 args m R:=walk mix (by kernel_rfl) (Nat.le_of_ble_eq_true hl) h
end Go.Proofs.YtngfdjolleabeaaGreat
namespace Go.Proofs.YtngfdjolleabeaaGreat
open Go Ax
open Relation
set_option maxRecDepth 100000
def firmV:Option (Nat×Bool)→AVal
 |none=> .tuple [.int .i64 0,.bool false,.bool false,.int .i64 0]
 |some p=> .tuple [.int .i64 (p.1:Nat),.bool p.2,.bool true,.int .i64 0]
theorem rightI_one {l:List Md} {a:Nat} (hc:checkI l=0) (ha:a<l.length):rightI l [(a:Int)]=0:=by
 unfold rightI
 rw[if_neg (by simp[hc]),if_neg]
 simp[outB]
 omega
theorem downV_ok {l:List Md} {a:Nat} (hc:checkI l=0) (ha:a<l.length):downV l a=match downI l a with
  |none=>([],0,7)
  |some (l',n)=>(l',(n:Int),0):=by
 unfold downV
 rw[if_neg (by simp[rightI_one hc ha]),Int.toNat_natCast]
 all_goals (cases downI l a<;>rfl)
def FirmAt (l0:List Md) (a b k:Nat) (lk:List Md) (mk:Nat):Prop:=firmI 100 l0 a b=(firmI (100-k) lk mk b).map fun p=>(p.1+k,p.2)
theorem FirmAt.hit {l0 lk:List Md} {a b k mk:Nat} (h:FirmAt l0 a b k lk mk) (hk:k<100) (hm:RR lk mk=RR lk b∨uniB lk mk b=true):firmI 100 l0 a b=some (k,!decide (RR lk mk=RR lk b)):=by
 unfold FirmAt at h
 obtain ⟨F,hF⟩: ∃F,100-k=F+1:=⟨99-k,by omega⟩
 rw[h,hF,firmI,if_pos hm]
 simp
theorem FirmAt.none {l0 lk:List Md} {a b k mk:Nat} (h:FirmAt l0 a b k lk mk) (hk:k<100) (hm: ¬(RR lk mk=RR lk b∨uniB lk mk b=true)) (hd:downI lk mk=none):firmI 100 l0 a b=Option.none:=by
 unfold FirmAt at h
 obtain ⟨F,hF⟩: ∃F,100-k=F+1:=⟨99-k,by omega⟩
 rw[h,hF,firmI,if_neg hm,hd]
 rfl
theorem FirmAt.down {l0 lk l':List Md} {a b k mk n:Nat} (h:FirmAt l0 a b k lk mk) (hk:k<100) (hm: ¬(RR lk mk=RR lk b∨uniB lk mk b=true)) (hd:downI lk mk=some (l',n)):FirmAt l0 a b (k+1) l' n:=by
 unfold FirmAt at h ⊢
 obtain ⟨F,hF⟩: ∃F,100-k=F+1:=⟨99-k,by omega⟩
 rw[h,hF,firmI,if_neg hm,hd,show 100-(k+1)=F by omega]
 simp only[Option.map_map]
 congr 1
 funext p
 simp only[Function.comp]
 congr 1
 omega
set_option maxHeartbeats 4000000 in
theorem k33 (s:AVal) (l:List Md) (a b:Nat) (m:AMem) (hs:RTab m s l) (hr:Room l) (ha:a<l.length) (hb:b<l.length):
  ACalls Tryz.prog 33 [s,.int .i64 a,.int .i64 b] m fun v m'=>m<+:m'∧v=firmV (firmI 100 l a b):=by
 refine w33 ?_
 simp
 obtain ⟨t0,ht0,hL0⟩:=Lead.has hr ha
 obtain ⟨I,hI⟩: ∃I:Nat→AFrame→AMem→Prop,∀q f m',I q f m'↔(∃(k:Nat) (lk:List Md) (sk:AVal) (mk:Nat),k+q≤19∧f=h33_0 sk (.int .i64 b) (.int .i64 k) (.int .i64 mk)∧m<+:m'∧RTab m' sk lk∧Room lk∧Ext l lk∧mk<lk.length∧Lead lk mk q∧FirmAt l a b k lk mk):=⟨_,fun _ _ _=>Iff.rfl⟩
 refine W_loop I t0 ((hI _ _ _).2 ⟨0,l,s,a,by omega,by simp,List.prefix_refl _,hs,hr,.refl,ha,hL0,?_⟩) ?_
 ·unfold FirmAt
  simp
 rintro q f m1 hIn
 obtain ⟨k,lk,sk,mk,hkq,rfl,hm1,hsk,hrk,hxk,hmk,hLk,hFk⟩:=(hI _ _ _).1 hIn
 clear hIn
 have hlen:=hxk.len
 simp
 refine C_of (k67 sk lk mk b m1 hsk hrk hmk (by omega)) ?_
 rintro _ m2 ⟨rfl,hm2⟩
 have hm02:=hm1.trans hm2
 simp
 by_cases hme:RR lk mk=RR lk b∨uniB lk mk b=true
 ·have hres:=hFk.hit (by omega) hme
  rw[hres]
  by_cases he:RR lk mk=RR lk b
  ·simp[he,firmV,hm02]
  ·have hu:=hme.resolve_left he
   simp[he,hu,firmV,hm02]
 ·have he: ¬RR lk mk=RR lk b:=fun h=>hme (.inl h)
  have hu:uniB lk mk b=false:=by
   cases h:uniB lk mk b
   ·rfl
   ·exact absurd (.inr h) hme
  simp[he,hu]
  refine C_of (k18 sk lk mk m2 (hsk.mono hm2) hrk.sm (by have:=hrk.len;omega) fun _=>hrk) ?_
  rintro _ m3 ⟨hm3,t,rfl,hT⟩
  rw[downV_ok hrk.ck hmk] at hT ⊢
  cases hd:downI lk mk with
  |none=>
   have hres:=hFk.none (by omega) hme hd
   rw[hres]
   simp[firmV]
   exact hm02.trans hm3
  |some p=>
   obtain ⟨l',n⟩:=p
   rw[hd] at hT
   simp only at hT
   have hw:=step64 (k:=k) (n:=100) (by omega) (by omega)
   obtain ⟨_,hr',hx',hn,hlt⟩:=down_ok hrk hmk hd
   obtain ⟨q',hq',hL'⟩:=hlt q hLk
   simp[hw]
   exact ⟨q',hq',(hI _ _ _).2 ⟨k+1,l',t,n,by omega,by simp,hm02.trans hm3,hT,hr',hxk.trans hx',hn,hL',hFk.down (by omega) hme hd⟩⟩
def firmU (l:List Md) (u v:Int) (F:Option (Nat×Bool)) (e:Int):AVal:=if e≠0 then .tuple [.int .i64 0,.bool false,.int .i64 e] else match F with
 |none=> .tuple [.int .i64 0,.bool false,.int .i64 0]
 |some p=> .tuple [.int .i64 (p.1:Nat),.bool true,.int .i64 0]
theorem k13 (s:AVal) (l:List Md) (u v:Int) (m:AMem) (hs:RTab m s l) (hsm: ∀y∈l,smallN y) (hl:l.length<2^20) (hr:checkI l=0→Room l):
  ACalls Tryz.prog 13 [s,.int .i64 u,.int .i64 v] m fun w m'=>m<+:m'∧w=firmU l u v (firmI 100 l u.toNat v.toNat) (rightI l [u,v]):=by
 refine w13 ?_
 simp[fillA,setN]
 have hA:=two_ints m u v
 have hm1:m<+:m++ [.own [.int .i64 u,.int .i64 v] 3 none]:=List.prefix_append _ _
 generalize AVal.slice m.length 0 2 2 none=t1 at*
 generalize m++ [.own [.int .i64 u,.int .i64 v] 3 none]=m1 at*
 refine C_of (k32 s t1 l [u,v] m1 (hs.mono hm1) hA.ints hsm (by omega) (by simp)) ?_
 rintro _ m2 ⟨rfl,hm2⟩
 have hm02:=hm1.trans hm2
 by_cases hri:rightI l [u,v]=0
 rotate_left
 ·simp[bneT hri,firmU,hri]
  exact hm02
 obtain ⟨hc,a,b,rfl,rfl,ha,hb⟩:=right2 hri
 simp[hri]
 refine C_of (k33 s l a b m2 (hs.mono hm02) (hr hc) ha hb) ?_
 rintro _ m3 ⟨hm3,rfl⟩
 cases hF:firmI 100 l a b with
 |none=>simp[firmV,firmU,hri];exact hm02.trans hm3
 |some p=>simp[firmV,firmU,hri];exact hm02.trans hm3
end Go.Proofs.YtngfdjolleabeaaGreat
namespace Go.Proofs.YtngfdjolleabeaaGreat
open Go Ax
open Relation
set_option maxRecDepth 100000
def wC:Option (Bool×Nat×Nat×Bool)→List AVal
 |none=> [.bool false,.int .i64 0,.int .i64 0,.bool false]
 |some w=> [.bool w.1,.int .i64 (w.2.1:Nat),.int .i64 (w.2.2.1:Nat),.bool w.2.2.2]
theorem wC_len (w:Option (Bool×Nat×Nat×Bool)):(wC w).length=4∧(wC w).all AVal.one=true:=by
 cases w<;>exact ⟨rfl,rfl⟩
theorem readN_all {cs:List AVal} {n:Nat} (h:cs.length=n):readN cs 0 n=some cs:=by
 unfold readN
 rw[if_pos (by omega),List.drop_zero,←h,List.take_length]
noncomputable def sideR (l:List Md) (a b:Nat) (i:Nat):Option (Bool×Nat×Nat×Bool):=if i=0 then none else if i=1 then halfI l true b (basesOf l a) else relI l a b
set_option maxHeartbeats 8000000 in
theorem k37 (s:AVal) (l:List Md) (a b:Nat) (m:AMem) (hs:RTab m s l) (hr:Room l) (ha:a<l.length) (hb:b<l.length):
  ACalls Tryz.prog 37 [s,.int .i64 a,.int .i64 b] m fun v m'=>m<+:m'∧v= .tuple [.agg (wC (relI l a b)),.bool (relI l a b).isSome,.int .i64 0]:=by
 refine w37 ?_
 simp[fillA]
 have a6:(m++ [ABlk.own [.bool false,.int .i64 0,.int .i64 0,.bool false] 30 none,ABlk.own [.bool false,.int .i64 0,.int .i64 0,.bool false] 30 none])[m.length]? =some (.own [.bool false,.int .i64 0,.int .i64 0,.bool false] 30 none):=by simp
 have a9:(m++ [ABlk.own [.bool false,.int .i64 0,.int .i64 0,.bool false] 30 none,ABlk.own [.bool false,.int .i64 0,.int .i64 0,.bool false] 30 none])[m.length+1]? =some (.own [.bool false,.int .i64 0,.int .i64 0,.bool false] 30 none):=by rw[List.getElem?_append_right (by omega)];simp
 have am:m<+:m++ [ABlk.own [.bool false,.int .i64 0,.int .i64 0,.bool false] 30 none,ABlk.own [.bool false,.int .i64 0,.int .i64 0,.bool false] 30 none]:=List.prefix_append _ _
 generalize m++ [ABlk.own [.bool false,.int .i64 0,.int .i64 0,.bool false] 30 none,ABlk.own [.bool false,.int .i64 0,.int .i64 0,.bool false] 30 none]=M1 at*
 obtain ⟨M2,hst,b9,hc2⟩:=agg_store (n:=4) a9 (cs:= [.bool false,.int .i64 0,.int .i64 0,.bool false]) rfl rfl rfl
 rw[hst]
 have b6:=hc2.keep _ _ a6 (by omega)
 have bm:=hc2.pre am (by intro b hb;omega)
 simp[fillA,setN]
 have c26:(M2++ [ABlk.own [.bool true,.int .i64 a,.int .i64 b,.bool false,.int .i64 b,.int .i64 a] 84 none])[M2.length]? =some (.own [.bool true,.int .i64 a,.int .i64 b,.bool false,.int .i64 b,.int .i64 a] 84 none):=by simp
 have cm:M2<+:M2++ [ABlk.own [.bool true,.int .i64 a,.int .i64 b,.bool false,.int .i64 b,.int .i64 a] 84 none]:=List.prefix_append _ _
 have hl2:m.length+1<M2.length:=(List.getElem?_eq_some_iff.1 b9).1
 generalize M2++ [ABlk.own [.bool true,.int .i64 a,.int .i64 b,.bool false,.int .i64 b,.int .i64 a] 84 none]=M at*
 generalize hn6:m.length=n6 at*
 generalize M2.length=n26 at*
 replace b6:=own_mono b6 cm
 replace b9:=own_mono b9 cm
 replace bm:=bm.trans cm
 have hnB: ∀{m':AMem},Ch (fun c=>c=n6+1) M m'→m<+:m':=fun h=>h.pre bm fun c hc e=>by omega
 obtain ⟨I,hI⟩: ∃I:Nat→AFrame→AMem→Prop,∀q f m',I q f m'↔(∃i:Nat,i+q=2∧f=h37_0 s .undef (.ptr n6 0) (.ptr (n6+1) 0) (.bool (sideR l a b i).isSome) (.slice n26 0 2 2 none) (.int .i64 2) (.int .i64 i)∧Ch (fun c=>c=n6+1) M m'∧m'[n6+1]? =some (.own (wC (sideR l a b i)) 30 none)):=⟨_,fun _ _ _=>Iff.rfl⟩
 refine W_loop I 2 ((hI _ _ _).2 ⟨0,by simp,by simp[sideR],.refl _ _,by simpa[sideR,wC] using b9⟩) ?_
 rintro q f m1 hIn
 obtain ⟨i,hi,rfl,hch,h9⟩:=(hI _ _ _).1 hIn
 clear hIn
 have h26:=hch.keep _ _ c26 (by omega)
 have h6:=hch.keep _ _ b6 (by omega)
 simp
 refine bbind_dec (fun hil=>?_) fun hil=>?_
 ·have hw:=step64 (k:=i) (n:=2) (by omega) (by omega)
  obtain ⟨q,rfl⟩: ∃q',q=q'+1:=⟨q-1,by omega⟩
  obtain ⟨fi,fa,ta,hld,hside,hfa,hta⟩: ∃(fi:Bool) (fa ta:Nat),loadE m1 3 true (.ptr n26 (i*3))=some (.agg [.bool fi,.int .i64 fa,.int .i64 ta])∧sideR l a b (i+1)=better (sideR l a b i) (halfI l fi ta (basesOf l fa))∧fa<l.length∧ta<l.length:=by
   obtain rfl|rfl:i=0∨i=1:=by omega
   ·exact ⟨true,a,b,by simp[loadE,own_read h26,readN],by simp[sideR,better],ha,hb⟩
   ·exact ⟨false,b,a,by simp[loadE,own_read h26,readN],by simp[sideR,relI],hb,ha⟩
  have hia:iaddrE 3 (.slice n26 0 2 2 none) (.int .i64 i)=some (.ptr n26 (i*3)):=by
   simp[iaddrE]
   omega
  simp[hia,hld]
  rw[store_new _ _ [.bool fi,.int .i64 fa,.int .i64 ta] _ _ 3 rfl rfl rfl]
  have d12:(m1++ [ABlk.own [.bool fi,.int .i64 fa,.int .i64 ta] 84 none])[m1.length]? =some (.own [.bool fi,.int .i64 fa,.int .i64 ta] 84 none):=by simp
  have dm:m1<+:m1++ [ABlk.own [.bool fi,.int .i64 fa,.int .i64 ta] 84 none]:=List.prefix_append _ _
  have hml:M.length≤m1.length:=hch.len
  have h9l:n6+1<m1.length:=(List.getElem?_eq_some_iff.1 h9).1
  generalize m1++ [ABlk.own [.bool fi,.int .i64 fa,.int .i64 ta] 84 none]=m2 at*
  generalize hn12:m1.length=n12 at*
  simp[bx (own_read d12)]
  refine C_of (k62 s l fa m2 (hs.mono ((hnB hch).trans dm)) hr hfa) ?_
  rintro t35 m3 ⟨hm3,hZ⟩
  have hg:=(okT_of hr.ck).good
  have hzl: ∀z∈basesOf l fa,z<l.length:=fun z hz=>(basesOf_sub hg hfa hz).lt hg hfa
  have hzn:(basesOf l fa).length≤12:=hr.t13.bases hg hfa
  simp[hZ.len]
  generalize basesOf l fa=zs at*
  have hch3:Ch (fun c=>c=n6+1) M m3:=hch.trans (.of_prefix (dm.trans hm3))
  obtain ⟨J,hJ⟩: ∃J:Nat→AFrame→AMem→Prop,∀q f m',J q f m'↔(∃j:Nat,j+q=zs.length∧f=h37_1 s .undef (.ptr n6 0) (.ptr (n6+1) 0) (.bool (better (sideR l a b i) (halfI l fi ta (zs.take j))).isSome) (.ptr n12 0) (.slice n26 0 2 2 none) (.int .i64 2) (.int .i64 i) t35 (.int .i64 zs.length) (.int .i64 j)∧Ch (fun c=>c=n6+1) M m'∧m'[n6+1]? =some (.own (wC (better (sideR l a b i) (halfI l fi ta (zs.take j)))) 30 none)∧m'[n12]? =some (.own [.bool fi,.int .i64 fa,.int .i64 ta] 84 none)∧OwL natI m2.length m' 3 t35 zs):=⟨_,fun _ _ _=>Iff.rfl⟩
  have hJ0:better (sideR l a b i) (halfI l fi ta (zs.take 0))=sideR l a b i:=by rw[List.take_zero];exact better_none _
  refine W_loop J zs.length ((hJ _ _ _).2 ⟨0,by simp,by rw[hJ0];simp,hch3,by rw[hJ0];exact own_mono h9 (dm.trans hm3),own_mono d12 hm3,hZ⟩) ?_
  rintro p f m4 hJn
  obtain ⟨j,hj,rfl,hch4,h94,h12,hZ4⟩:=(hJ _ _ _).1 hJn
  clear hJn
  simp
  refine bbind_dec (fun hjl=>?_) fun hjl=>?_
  ·have hjl:j<zs.length:=by omega
   have hwj:=step64 (k:=j) (n:=zs.length) hjl (by omega)
   obtain ⟨p,rfl⟩: ∃p',p=p'+1:=⟨p-1,by omega⟩
   obtain ⟨bz,oz,_,hpz,hlz,_⟩:=hZ4.at (i:=j) hjl
   have hzj:=hzl _ (List.getElem_mem hjl)
   have hsn:better (sideR l a b i) (halfI l fi ta (zs.take (j+1)))=better (better (sideR l a b i) (halfI l fi ta (zs.take j))) (oneW l fi ta zs[j] (firmI 100 l zs[j] ta)):=by
    rw[List.take_add_one,List.getElem?_eq_getElem hjl,Option.toList_some,half_snoc,better_assoc]
   generalize better (sideR l a b i) (halfI l fi ta (zs.take j))=cur at*
   generalize zs[j]=z at*
   simp[hpz,hlz,bx (own_read h12)]
   refine C_of (k33 s l z ta m4 (hs.mono (hnB hch4)) hr hzj hta) ?_
   rintro _ m5 ⟨hm5,rfl⟩
   have h95:=own_mono h94 hm5
   have h125:=own_mono h12 hm5
   have hch5:Ch (fun c=>c=n6+1) M m5:=hch4.trans (.of_prefix hm5)
   have hZ5:=hZ4.mono hm5
   have hlow: ∀{bq:Nat},t35.blk=some bq→n12<bq:=fun {bq} h=>by
    have:=(hZ4.blk_lo h).1
    have:=(List.getElem?_eq_some_iff.1 d12).1
    omega
   have fin: ∀(m6:AMem) (nw:Option (Bool×Nat×Nat×Bool)),nw=better cur (oneW l fi ta z (firmI 100 l z ta))→Ch (fun c=>c=n6+1) m5 m6→m6[n6+1]? =some (.own (wC nw) 30 none)→J p (h37_1 s .undef (.ptr n6 0) (.ptr (n6+1) 0) (.bool nw.isSome) (.ptr n12 0) (.slice n26 0 2 2 none) (.int .i64 2) (.int .i64 i) t35 (.int .i64 zs.length) (.int .i64 ((j+1:Nat):Int))) m6:=fun m6 nw hnw hc h=>by
    refine (hJ _ _ _).2 ⟨j+1,by omega,by rw[hsn,hnw],hch5.trans hc,by rw[hsn,←hnw];exact h,hc.keep _ _ h125 (by omega),hZ5.ch hc fun bq h1 h2=>by have:=hlow h1;omega⟩
   cases hF:firmI 100 l z ta with
   |none=>
    rw[hF] at fin
    simp[firmV,hwj]
    exact ⟨p,by omega,by simpa using fin m5 cur (by rw[oneW,Option.map_none,better_none]) (.refl _ _) h95⟩
   |some w=>
    obtain ⟨n,u⟩:=w
    rw[hF] at fin
    obtain ⟨m6,hs6,h96,hc6⟩:=agg_store (n:=4) h95 (cs:= [.bool fi,.int .i64 (z:Nat),.int .i64 (n:Nat),.bool u]) rfl (wC_len _).1 rfl
    have hnew:=fin m6 (some (fi,z,n,u))
    cases cur with
    |none=>
     simp[firmV,bx (own_read h125),fillA,setN,hs6,hwj]
     exact ⟨p,by omega,by simpa using hnew rfl hc6 h96⟩
    |some w0=>
     have h95r:=bx (own_read h95) 2
     simp[wC] at h95r
     by_cases hlt:n<w0.2.2.1
     ·simp[firmV,h95r,hlt,bx (own_read h125),fillA,setN,hs6,hwj]
      exact ⟨p,by omega,by simpa using hnew (by simp[oneW,better,hlt]) hc6 h96⟩
     ·simp[firmV,h95r,hlt,hwj]
      exact ⟨p,by omega,by simpa using fin m5 (some w0) (by simp[oneW,better,hlt]) (.refl _ _) h95⟩
  ·have hjl:j=zs.length:=by omega
   subst hjl
   rw[List.take_length,←hside] at*
   simp[hw]
   exact ⟨q,by omega,(hI _ _ _).2 ⟨i+1,by omega,by simp,hch4,h94⟩⟩
 ·have hil:i=2:=by omega
  subst hil
  have hs2:sideR l a b 2=relI l a b:=by simp[sideR]
  rw[hs2] at h9
  have hrd:=bxW (own_read h9) 4
  rw[readN_all (wC_len _).1] at hrd
  obtain ⟨m2,hs3,h62,hc3⟩:=agg_store (n:=4) h6 (cs:=wC (relI l a b)) (wC_len _).1 rfl (wC_len _).2
  have hrd2:=bxW (own_read h62) 4
  rw[readN_all (wC_len _).1] at hrd2
  simp[hs2,hrd,hs3,hrd2]
  exact (hc3.trans (.refl _ _)).pre (hnB hch) fun c hc e=>by omega
def relU (W:Option (Bool×Nat×Nat×Bool)) (e:Int):AVal:=if e≠0 then .tuple [.agg (wC none),.bool false,.int .i64 e] else .tuple [.agg (wC W),.bool W.isSome,.int .i64 0]
theorem k15 (s:AVal) (l:List Md) (u v:Int) (m:AMem) (hs:RTab m s l) (hsm: ∀y∈l,smallN y) (hl:l.length<2^20) (hr:checkI l=0→Room l):
  ACalls Tryz.prog 15 [s,.int .i64 u,.int .i64 v] m fun w m'=>m<+:m'∧w=relU (relI l u.toNat v.toNat) (rightI l [u,v]):=by
 refine w15 ?_
 simp[fillA,setN]
 have a6:(m++ [ABlk.own [.bool false,.int .i64 0,.int .i64 0,.bool false] 30 none,ABlk.own [.int .i64 u,.int .i64 v] 3 none])[m.length]? =some (.own [.bool false,.int .i64 0,.int .i64 0,.bool false] 30 none):=by simp
 have hA:RInts (m++ [ABlk.own [.bool false,.int .i64 0,.int .i64 0,.bool false] 30 none,ABlk.own [.int .i64 u,.int .i64 v] 3 none]) (.slice (m.length+1) 0 2 2 none) [u,v]:=by
  have:=two_ints (m++ [ABlk.own [.bool false,.int .i64 0,.int .i64 0,.bool false] 30 none]) u v
  simpa using this.ints
 have hm1:m<+:m++ [ABlk.own [.bool false,.int .i64 0,.int .i64 0,.bool false] 30 none,ABlk.own [.int .i64 u,.int .i64 v] 3 none]:=List.prefix_append _ _
 generalize AVal.slice (m.length+1) 0 2 2 none=t1 at*
 generalize m++ [ABlk.own [.bool false,.int .i64 0,.int .i64 0,.bool false] 30 none,ABlk.own [.int .i64 u,.int .i64 v] 3 none]=m1 at*
 refine C_of (k32 s t1 l [u,v] m1 (hs.mono hm1) hA hsm (by omega) (by simp)) ?_
 rintro _ m2 ⟨rfl,hm2⟩
 have hm02:=hm1.trans hm2
 have b6:=own_mono a6 hm2
 by_cases hri:rightI l [u,v]=0
 rotate_left
 ·obtain ⟨m3,hs3,h63,hc3⟩:=agg_store (n:=4) b6 (cs:= [.bool false,.int .i64 0,.int .i64 0,.bool false]) rfl rfl rfl
  have hrd:=bxW (own_read h63) 4
  rw[readN_all (n:=4) rfl] at hrd
  have hU:relU (relI l u.toNat v.toNat) (rightI l [u,v])= .tuple [.agg [.bool false,.int .i64 0,.int .i64 0,.bool false],.bool false,.int .i64 (rightI l [u,v])]:=by
   unfold relU
   rw[if_pos hri]
   rfl
  rw[hU]
  simp[bneT hri,fillA,hs3,hrd]
  exact hc3.pre hm02 fun c hc e=>by omega
 obtain ⟨hc,a,b,rfl,rfl,ha,hb⟩:=right2 hri
 simp[hri]
 refine C_of (k37 s l a b m2 (hs.mono hm02) (hr hc) ha hb) ?_
 rintro _ m3 ⟨hm3,rfl⟩
 obtain ⟨m4,hs4,h64,hc4⟩:=agg_store (n:=4) (own_mono b6 hm3) (cs:=wC (relI l a b)) (wC_len _).1 rfl (wC_len _).2
 have hrd:=bxW (own_read h64) 4
 rw[readN_all (wC_len _).1] at hrd
 simp[hs4,hrd,relU,hri]
 exact hc4.pre (hm02.trans hm3) fun c hc e=>by omega
end Go.Proofs.YtngfdjolleabeaaGreat
namespace Go.Proofs.YtngfdjolleabeaaGreat
open Go Ax
open Relation
set_option maxRecDepth 100000
def DArr (l:List Md) (ds:List Int):Prop:= ∀(j:Nat) v,ds[j]? =some v→v=0∨ ∃n:Nat,v=(n:Int)+1∧DefL l [j] l [n]
theorem DArr.ext {l0 l l':List Md} {ds:List Int} (h:DArr l ds) (hl:ds.length=l0.length) (e0:Ext l0 l) (hc:checkI l=0) (e:Ext l l') (hn:l'.length<512):DArr l' ds:=fun j v hj=>by
 have hjl:=(List.getElem?_eq_some_iff.1 hj).1
 have:=e0.len
 rcases h j v hj with h|⟨n,h1,h2⟩
 ·exact .inl h
 ·exact .inr ⟨n,h1,h2.stable hc (by simp;omega) e hn⟩
theorem DArr.set {l:List Md} {ds:List Int} {i n:Nat} (h:DArr l ds) (hd:DefL l [i] l [n]):DArr l (ds.set i ((n:Int)+1)):=fun j v hj=>by
 by_cases hji:i=j
 ·subst hji
  have hlt:i<ds.length:=by simpa using (List.getElem?_eq_some_iff.1 hj).1
  rw[List.getElem?_set_self hlt] at hj
  exact .inr ⟨n,(Option.some.inj hj).symm,hd⟩
 ·rw[List.getElem?_set_ne hji] at hj
  exact h j v hj
theorem Ow.ty {lo:Nat} {m:AMem} {esz:Nat} {ty:TypeId} {s:AVal} {n:Nat} {cs:List AVal} (h:Ow lo m esz ty s n cs) {b:Nat} (hb:s.blk=some b): ∃bl g,m[b]? =some (.own bl ty g):=by
 rcases h with ⟨rfl,_,_⟩|⟨b',o,cap,gr,bl,gr',rfl,_,h1,_⟩
 ·simp[AVal.blk] at hb
 ·simp[AVal.blk] at hb
  subst hb
  exact ⟨_,_,h1⟩
set_option maxHeartbeats 8000000 in
theorem k102 (dv:AVal) (lo:Nat) (l0:List Md) (hc0:checkI l0=0): ∀(n i:Nat),i<l0.length→hgt l0 i<n→ ∀(S:Nat→Prop) (l:List Md) (s:AVal) (ds:List Int) (m:AMem),(∀b,dv.blk=some b→S b)→(∀b,S b→b<m.length)→Ext l0 l→Room l→TabS S m s l→OwL (AVal.int .i64) lo m 3 dv ds→ds.length=l0.length→DArr l ds→
  ACalls Tryz.prog 102 [s,dv,.int .i64 i] m fun v m'=>Ch (fun b=>dv.blk=some b) m m'∧ ∃l' t ds',∃r:Nat,v= .tuple [t,.int .i64 r,.int .i64 0]∧DefL l [i] l' [r]∧TabS S m' t l'∧OwL (AVal.int .i64) lo m' 3 dv ds'∧ds'.length=l0.length∧DArr l' ds':=by
 intro n
 induction n with
 |zero=>intro i _ h;omega
 |succ n ih=>
  intro i hi hh S l s ds m hSd hSlt e0 hr hT hX hdl hA
  refine w102 ?_
  have hl:=e0.len
  have hil:i<l.length:=by omega
  have hcl:=hr.ck
  have hrl:=hr.len
  have ok0:=okT_of hc0
  obtain ⟨bd,od,hbd,hpd,hld,hstd⟩:=hX.at (i:=i) (by omega)
  obtain ⟨dz,hdz⟩: ∃z,ds[i]'(by omega)=z:=⟨_,rfl⟩
  rw[hdz] at hld
  have hdA:=hA i dz (by rw[List.getElem?_eq_getElem (by omega),hdz])
  have hwi:=step64 (k:=i) (n:=100) (by omega) (by omega)
  simp[hpd,hld]
  by_cases h0:dz=0
  rotate_left
  ·obtain ⟨r,rfl,hd⟩:=hdA.resolve_left h0
   have hrl2:=(hd.ok hcl (by simpa using hil)).at_ 0 _ _ rfl rfl
   have hw1:IntKind.i64.wrap (((r:Int)+1)-1)=(r:Int):=by rw[wrap64 (by omega) (by omega)];omega
   have hpos:(0:Int)<(r:Int)+1:=by omega
   simp[hpos]
   refine W_drawPR (by simp[maxDst]) rfl rfl ?_
   simp[hpd,hld,hw1]
   intro m1 hm1
   exact ⟨.of_prefix hm1,l,s,ds,r,⟨rfl,by rw[wrap64 (by omega) (by omega)]⟩,hd,hT.mono hm1,hX.mono hm1,hdl,hA⟩
  ·subst h0
   simp
   refine C_of (k141 s l i hil m hT.tab hr.sm hcl) ?_
   rintro _ m1 ⟨hm1,fb,rfl,hfb⟩
   by_cases hfx:FlexP l i
   rotate_left
   ·have hff:fb=false:=by
     cases fb
     ·rfl
     ·exact absurd (hfb.1 rfl) hfx
    subst hff
    obtain ⟨bd1,od1,hbd1,hpd1,_,hstd1⟩:=(hX.mono hm1).at (i:=i) (by omega)
    obtain ⟨m2,hst2,hch2,hX2⟩:=hstd1 ((i:Int)+1)
    have hd:DefL l [i] l [i]:= .flat hfx .nil
    simp[hpd1,hwi,hst2]
    exact ⟨(Ch.of_prefix hm1).trans (hch2.weaken fun b _ h=>by rw[h];exact hbd1),l,s,_,i,⟨rfl,rfl⟩,hd,(hT.mono hm1).next (hch2.weaken fun b _ h=>by rw[h];exact hSd _ hbd1),hX2,by simpa using hdl,hA.set hd⟩
   have hft:fb=true:=hfb.2 hfx
   subst hft
   have hm1l:=hm1.length_le
   have hT1:=hT.mono hm1
   obtain ⟨bx',ox,c,g1,g2,g3⟩:=hT1.atC hil
   have h6:=g3 m1 (.refl _ _)
   have hxe:mdAt l i=l[i]:=mdAt_eq hil
   have hxm:l[i]∈l:=List.getElem_mem hil
   have hx40:=hr.h40 _ hxm
   have hsx:=hr.sm _ hxm
   have hgx:=(okT_of hcl).good _ hxm
   simp[g1,g2]
   refine C_of (k101 c l[i] m1 h6 hx40) ?_
   rintro _ m2 ⟨hm2,c',rfl,hM⟩
   have hcl6:=hM.mode.all
   obtain ⟨e,nm,rfl,hE,hN⟩:=hM
   simp
   rw[store_new _ _ [.int .i64 l[i].kind,.int .i64 l[i].size,e,nm,.int .i64 l[i].dims,.bool l[i].flex] _ _ 6 hcl6.1 rfl hcl6.2]
   have hb9:(m2++ [ABlk.own [.int .i64 l[i].kind,.int .i64 l[i].size,e,nm,.int .i64 l[i].dims,.bool l[i].flex] 44 none])[m2.length]? =some (.own [.int .i64 l[i].kind,.int .i64 l[i].size,e,nm,.int .i64 l[i].dims,.bool l[i].flex] 44 none):=by simp
   have hm23:m2<+:m2++ [ABlk.own [.int .i64 l[i].kind,.int .i64 l[i].size,e,nm,.int .i64 l[i].dims,.bool l[i].flex] 44 none]:=List.prefix_append _ _
   have hm2l:=hm2.length_le
   have hEb: ∀b,e.blk=some b→m1.length≤b∧b<m2.length:=fun b hb=>hE.blk_lo hb
   have hNb: ∀b,nm.blk=some b→m1.length≤b∧b<m2.length:=fun b hb=>hN.blk_lo hb
   generalize m2++ [ABlk.own [.int .i64 l[i].kind,.int .i64 l[i].size,e,nm,.int .i64 l[i].dims,.bool l[i].flex] 44 none]=m3 at*
   generalize hb9e:m2.length=b9 at*
   obtain ⟨m4,hst4,hb94,hch4⟩:=fld_store (i:=5) (v:= .bool false) hb9 (by simp) rfl rfl
   simp at hb94
   simp[hst4]
   have hm3l:b9<m3.length:=(List.getElem?_eq_some_iff.1 hb9).1
   have hm4l:=hch4.len
   have hm14:m1<+:m4:=hch4.pre (hm2.trans hm23) fun b hb h=>by omega
   have hE4:=(hE.mono hm23).ch hch4 fun b hb h=>by have:=hEb b hb;omega
   have hN4:=(hN.mono hm23).ch hch4 fun b hb h=>by have:=hNb b hb;omega
   have hT4:TabS (fun b=>S b∨m1.length≤b) m4 s l:=by
    obtain ⟨cs,hh⟩:=hT1
    exact (TabS.mono ⟨cs,fun m' hc=>hh m' (hc.weaken fun b hb h=>by rcases h with h|h;exact h;omega)⟩ hm14)
   have hX4:=(hX.mono hm1).mono hm14
   have hfi:FlexP l0 i:=(e0.flex hc0 hi).1 hfx
   clear hst4 hch4 hb9 hm23 hE hN
   have hdb: ∀b,dv.blk=some b→b<m1.length:=fun b hb=>by have:=(hX.blk_lo hb).2;omega
   obtain ⟨I,hI⟩: ∃I:Nat→AFrame→AMem→Prop,∀q f m',I q f m'↔(∃(k:Nat) (lk:List Md) (sk:AVal) (dk:List Int) (ns:List Nat),k+q=l[i].elems.length∧ns.length=k∧f=h102_0 sk dv (.int .i64 i) (.ptr b9 0) (.int .i64 k)∧DefL l ((l[i].elems.map Int.toNat).take k) lk ns∧Room lk∧Ext l0 lk∧TabS (fun b=>S b∨e.blk=some b) m' sk lk∧OwL (AVal.int .i64) lo m' 3 dv dk∧dk.length=l0.length∧DArr lk dk∧Ch (fun b=>dv.blk=some b) m1 m'∧m'[b9]? =some (.own [.int .i64 l[i].kind,.int .i64 l[i].size,e,nm,.int .i64 l[i].dims,.bool false] 44 none)∧OwL (AVal.int .i64) m1.length m' 3 e (ns.map (fun z:Nat=>(z:Int))++l[i].elems.drop k)∧OwL AVal.str m1.length m' 9 nm l[i].names):=⟨_,fun _ _ _=>Iff.rfl⟩
   refine W_loop I l[i].elems.length ((hI _ _ _).2 ⟨0,l,s,ds,[],by simp,rfl,by simp,by simpa using DefL.nil,hr,e0,hT4.weaken (fun b h=>?_),hX4,hdl,hA,.of_prefix hm14,hb94,by simpa using hE4,hN4⟩) ?_
   ·rcases h with h|h
    ·exact .inl h
    ·exact .inr (hEb b h).1
   rintro q f m5 hIn
   obtain ⟨k,lk,sk,dk,ns,hk,hnl,rfl,hDk,hrk,e0k,hTk,hXk,hdk,hAk,hck,hb9k,hEk,hNk⟩:=(hI _ _ _).1 hIn
   clear hIn
   have hxl:(ns.map (fun z:Nat=>(z:Int))++l[i].elems.drop k).length=l[i].elems.length:=by simp;omega
   have hlenk:=hEk.len
   rw[hxl] at hlenk
   simp[bx (own_read hb9k),hlenk]
   refine bbind_dec (fun hkl=>?_) fun hkl=>?_
   ·have hkl:k<l[i].elems.length:=by omega
    have hw:=step64 (k:=k) (n:=l[i].elems.length) hkl (by omega)
    obtain ⟨q,rfl⟩: ∃q',q=q'+1:=⟨q-1,by omega⟩
    obtain ⟨bt,ot,hbt,hpt,hlt,hstt⟩:=hEk.at (i:=k) (by omega)
    have hxk:(ns.map (fun z:Nat=>(z:Int))++l[i].elems.drop k)[k]'(by omega)=l[i].elems[k]:=by
     rw[List.getElem_append_right (by simp;omega)]
     simp[hnl]
    rw[hxk] at hlt
    obtain ⟨z,hz⟩: ∃z:Nat,l[i].elems[k]=z:=⟨(l[i].elems[k]).toNat,by have:=(hgx _ (List.getElem_mem hkl)).1;omega⟩
    rw[hz] at hlt
    have hzl:z<l0.length∧hgt l0 z<n:=by
     have hmd:mdAt l i=mdAt l0 i:=e0.md hi
     have hmem:(z:Int)∈(mdAt l0 i).elems:=by rw[←hmd,hxe,←hz];exact List.getElem_mem hkl
     have hst:stepF l0 i z:=⟨mdAt l0 i,by rw[mdAt_eq hi];exact List.getElem?_eq_getElem hi,hfi.rs.2,hmem⟩
     have hgz:=ok0.good (mdAt l0 i) (by rw[mdAt_eq hi];exact List.getElem_mem hi) _ hmem
     have:=hgt_lt ok0.good ok0.acy hst
     omega
    simp[bx (own_read hb9k),hpt,hlt]
    have hckl:=hck.len
    refine C_of (ih z hzl.1 hzl.2 (fun b=>S b∨e.blk=some b) lk sk dk m5 (fun b hb=> .inl (hSd b hb)) (fun b hb=>?_) e0k hrk hTk hXk hdk hAk) ?_
    ·rcases hb with hb|hb
     ·have:=hSlt b hb;omega
     ·exact (hEk.blk_lo hb).2
    rintro _ m6 ⟨hch6,l6,t6,d6,r,rfl,hd6,hT6,hX6,hdl6,hA6⟩
    have hx6:=hd6.ok hrk.ck (by have:=e0k.len;simp;omega)
    have hr6:=hrk.defl (by have:=e0k.len;simp;omega) hd6
    have hb96:=hch6.keep _ _ hb9k fun h=>by have:=hdb _ h;omega
    have hE6:=hEk.ch hch6 fun b hb h=>by have:=hdb _ h;have:=(hEk.blk_lo hb).1;omega
    have hN6:=hNk.ch hch6 fun b hb h=>by have:=hdb _ h;have:=(hNk.blk_lo hb).1;omega
    obtain ⟨bt6,ot6,hbt6,hpt6,_,hstt6⟩:=hE6.at (i:=k) (by omega)
    have hbt6l:=hEb _ hbt6
    simp
    refine W_draw (fun _ _ _=>True) (by simp[maxDst]) ?_
    refine D_pc 0 7 [7] ?_
    simp[bx (own_read hb96),hpt6]
    intro _ _
    refine D_W rfl rfl fun m7 hm7 _=>?_
    obtain ⟨bt7,ot7,hbt7,hpt7,_,hstt7⟩:=(hE6.mono hm7).at (i:=k) (by omega)
    have hpe:=hpt7 .i64
    rw[hpt6 .i64] at hpe
    simp only[Option.some.injEq,AVal.ptr.injEq] at hpe
    obtain ⟨rfl,rfl⟩:=hpe
    obtain ⟨m8,hst8,hch8,hE8⟩:=hstt7 (r:Int)
    simp[hst8]
    refine D_end fun m9 hm9 _=>?_
    simp[hw]
    have hc69:Ch (fun c=>c=bt6) m6 m9:=(((Ch.of_prefix hm7).trans hch8).trans (.of_prefix hm9))
    refine ⟨q,by omega,(hI _ _ _).2 ⟨k+1,l6,t6,d6,ns++ [r],by omega,by simp[hnl],by simp,?_,hr6,e0k.trans hx6.ext,hT6.next (hc69.weaken fun b _ h=>by rw[h];exact .inr hbt6),hX6.ch hc69 fun b hb h=>(by have:=hdb _ hb;omega),hdl6,hA6,(hck.trans hch6).andThen hc69 fun b hb h=>by omega,hc69.keep _ _ hb96 fun h=>by omega,?_,hN6.ch hc69 fun b hb h=>?_⟩⟩
    ·rw[List.take_add_one,List.getElem?_map,List.getElem?_eq_getElem hkl,hz]
     exact hDk.append hd6
    ·have:(ns.map (fun z:Nat=>(z:Int))++l[i].elems.drop k).set k (r:Int)=(ns++ [r]).map (fun z:Nat=>(z:Int))++l[i].elems.drop (k+1):=by
      rw[List.set_append_right _ _ (by simp;omega)]
      have h0:k-(ns.map (fun z:Nat=>(z:Int))).length=0:=by simp[hnl]
      rw[h0,List.drop_eq_getElem_cons hkl,List.set_cons_zero]
      simp
     rw[←this]
     exact hE8.mono hm9
    ·subst h
     obtain ⟨_,_,g5⟩:=Ow.ty hE6 hbt6
     obtain ⟨_,_,g6⟩:=Ow.ty hN6 hb
     rw[g5] at g6
     simp at g6
   ·have hkl:k=l[i].elems.length:=by omega
    subst hkl
    rw[List.take_of_length_le (by simp)] at hDk
    rw[List.drop_length,List.append_nil] at hEk
    have hDk':DefL l ((mdAt l i).elems.map Int.toNat) lk ns:=by rw[hxe];exact hDk
    obtain ⟨l2,r,hput⟩:=defl_put hcl hfx hDk' (by have:=hrk.len;omega)
    have hdi:DefL l [i] l2 [r]:= .flex hfx hDk' hput .nil
    have hr2:=hr.defl (by simp;omega) hdi
    have hx2:=hdi.ok hcl (by simp;omega)
    obtain ⟨hel2,hrs2⟩:=hDk'.es hcl hil
    obtain ⟨ek2,hck2,hrl2,_⟩:=put_defl hrk.ck hfx hrs2 hput
    have hdx:deflX (mdAt l i) ns=⟨l[i].kind,l[i].size,ns.map fun z:Nat=>(z:Int),l[i].names,l[i].dims,false⟩:=by rw[hxe];rfl
    have hRM:RMode m5 [.int .i64 l[i].kind,.int .i64 l[i].size,e,nm,.int .i64 l[i].dims,.bool false] (deflX (mdAt l i) ns):=by
     rw[hdx]
     exact ⟨e,nm,rfl,hEk.ints,Ow.sl hNk⟩
    have hb9r:=bxW (own_read hb9k) 6
    simp[readN] at hb9r
    simp[hb9r]
    have hnsl:ns.length=l[i].elems.length:=hnl
    have hsmx: ∀y∈lk++ [deflX (mdAt l i) ns],smallN y:=fun y hy=>by
     rcases List.mem_append.1 hy with hy|hy
     ·exact hrk.sm y hy
     ·simp at hy
      subst hy
      rw[hdx]
      refine ⟨by have:=hsx.1;simp;omega,hsx.2.1,hsx.2.2⟩
    have h40x: ∀y∈lk++ [deflX (mdAt l i) ns],y.elems.length<2^40∧y.names.length<2^40:=fun y hy=>by
     rcases List.mem_append.1 hy with hy|hy
     ·exact hrk.h40 y hy
     ·simp at hy
      subst hy
      rw[hdx]
      exact ⟨by have:=hx40.1;simp;omega,hx40.2⟩
    refine C_of (k142f sk _ lk (deflX (mdAt l i) ns) m5 hTk.tab hRM hsmx h40x (by have:=hrk.len;omega)) ?_
    rintro _ m6 ⟨hm56,t14,rfl,hT14⟩
    rw[hput] at hT14
    simp only[hput]
    simp
    have hr2l:=hr2.len
    have hwr:=step64 (k:=r) (n:=100) (by omega) (by omega)
    obtain ⟨bd6,od6,hbd6,hpd6,_,hstd6⟩:=(hXk.mono hm56).at (i:=i) (by omega)
    obtain ⟨m7,hst7,hch7,hX7⟩:=hstd6 ((r:Int)+1)
    have hckl:=hck.len
    simp[hpd6,hwr,hst7]
    refine ⟨(Ch.of_prefix hm1).trans ((hck.trans (.of_prefix hm56)).trans (hch7.weaken fun b _ h=>by rw[h];exact hbd6)),l2,t14,_,r,⟨rfl,rfl⟩,hdi,?_,hX7,by simpa using hdk,DArr.set (hAk.ext hdk e0k hrk.ck ek2 (by omega)) (hdi.stable hcl (by simp;omega) .refl (by omega))⟩
    refine TabS.weaken (S:=fun b=>b<m5.length) (hT14.next (hch7.weaken fun b _ h=>by have:=hdb _ hbd6;omega)) fun b hb=>?_
    have:=hSlt b hb
    omega
theorem k54 (s:AVal) (l:List Md) (i:Nat) (m:AMem) (hs:RTab m s l) (hr:Room l) (hi:i<l.length):
  ACalls Tryz.prog 54 [s,.int .i64 i] m fun v m'=>m<+:m'∧ ∃t,v= .tuple [t,.int .i64 (deflI l i).2,.int .i64 0]∧RTab m' t (deflI l i).1:=by
 refine w54 ?_
 have hrl:=hr.len
 have h1:(8:Int)*l.length≤281474976710656:=by omega
 have h2:(l.length:Int)≤9223372036854775807:=by omega
 simp[hs.len,h1,h2]
 have hX:=OwL.rep (f:=AVal.int .i64) m 3 l.length 0
 have hm1:m<+:m++ [.own (List.replicate l.length (.int .i64 0)) 3 none]:=List.prefix_append _ _
 have hbl: ∀b,(AVal.slice m.length 0 l.length l.length none).blk=some b→b=m.length:=fun b hb=>by simp[AVal.blk] at hb;omega
 have hl1:(m++ [ABlk.own (List.replicate l.length (.int .i64 0)) 3 none]).length=m.length+1:=by simp
 generalize AVal.slice m.length 0 l.length l.length none=dv at*
 generalize m++ [.own (List.replicate l.length (.int .i64 0)) 3 none]=m1 at*
 refine C_of (k102 dv m.length l hr.ck (hgt l i+1) i hi (by omega) (fun b=>dv.blk=some b) l s _ m1 (fun b h=>h) (fun b hb=>by have:=hbl b hb;omega) .refl hr (RTab.tabS hs hm1 fun b hb h=>by have:=hbl b h;omega) hX (by simp) (fun j v hj=> .inl ?_)) ?_
 ·rw[List.getElem?_replicate] at hj
  split at hj
  ·exact (Option.some.inj hj).symm
  ·cases hj
 rintro _ m2 ⟨hc2,l',t,ds',r,rfl,hd,hT,_⟩
 rw[hd.eq]
 simp
 exact ⟨hc2.pre hm1 fun b hb h=>by have:=hbl b h;omega,hT.tab⟩
end Go.Proofs.YtngfdjolleabeaaGreat
namespace Go.Proofs.YtngfdjolleabeaaGreat
open Go Ax
open Relation
set_option maxRecDepth 100000
set_option maxHeartbeats 8000000 in
theorem k35 (s:AVal) (l:List Md) (a b:Nat) (m:AMem) (hs:RTab m s l) (hr:Room l) (ha:a<l.length) (hb:b<l.length):
  ACalls Tryz.prog 35 [s,.int .i64 a,.int .i64 b] m fun v m'=>v= .tuple [.bool (decide (RR l a=RR l b)),.int .i64 0]∧m<+:m':=by
 refine w35 ?_
 have hc:=hr.ck
 have ok:=okT_of hc
 have hrl:=hr.len
 simp[fillA,setN]
 have hA:=two_ints m a b
 have hm1:m<+:m++ [.own [.int .i64 (a:Int),.int .i64 (b:Int)] 3 none]:=List.prefix_append _ _
 generalize AVal.slice m.length 0 2 2 none=t1 at*
 generalize m++ [.own [.int .i64 (a:Int),.int .i64 (b:Int)] 3 none]=m1 at*
 refine C_of (k68 s t1 l [(a:Int),(b:Int)] m1 (hs.mono hm1) hA.ints hr.sm (by omega) (by simp)) ?_
 rintro _ m2 ⟨rfl,hm2⟩
 rw[rightI_two hc ha hb]
 have hm02:=hm1.trans hm2
 obtain ⟨b1,o1,c1,p1,q1,_,r1,h1⟩:=(hs.mono hm02).atC ha
 obtain ⟨b2,o2,c2,p2,q2,_,r2,h2⟩:=(hs.mono hm02).atC hb
 obtain ⟨e1,nm1,_,_,hg1,_,_,_,he1,_,_⟩:=h1.get
 obtain ⟨e2,nm2,_,_,hg2,_,_,_,he2,_,_⟩:=h2.get
 have r1:=r1 2 (by omega)
 have r2:=r2 2 (by omega)
 rw[hg1] at r1
 rw[hg2] at r2
 have hma:=mdAt_eq ha
 have hmb:=mdAt_eq hb
 have hxa:l[a]∈l:=List.getElem_mem ha
 have hxb:l[b]∈l:=List.getElem_mem hb
 have hflat: ∀m',m2<+:m'→ACalls Tryz.prog 69 [.agg c1,.agg c2] m' fun v m''=>v= .int .i64 (firstC l[a] l[b])∧m'<+:m'':=fun m' hm'=>
  k69 c1 c2 l[a] l[b] m' (h1.mono hm') (h2.mono hm') (hr.sm _ hxa) (hr.sm _ hxb) (ok.names _ hxa _ hxb)
 have ld6: ∀{m'},m2<+:m'→loadE m' 6 true (.ptr b1 o1)=some (.agg c1)∧loadE m' 6 true (.ptr b2 o2)=some (.agg c2)∧loadE m' 1 false (.ptr b1 (o1+2))=some e1∧loadE m' 1 false (.ptr b2 (o2+2))=some e2:=fun h=>⟨loadE_mono h q1,loadE_mono h q2,loadE_mono h r1,loadE_mono h r2⟩
 by_cases hab:a=b
 ·subst hab
  simp
  refine W_draw (fun _ _ _=>True) (by simp[maxDst]) ?_
  refine D_pc 0 12 [12,13,14,15,16,17,18,19,20,21,22,23,24,25,26,27] ?_
  simp
  intro _ _
  refine D_Xg rfl rfl (b:=true) (by simp) (fun h=>by cases h) (fun _ m3 hm3 _=>⟨by simp[lateOf],?_⟩)
  refine D_pc 13 13 [26,27] ?_
  simp
  intro _ _
  refine D_Xg rfl rfl (b:=true) (by simp) (fun h=>by cases h) (fun _ m4 hm4 _=>⟨by simp[lateOf],?_⟩)
  refine D_pc 27 1 [] ?_
  simp
  intro _ _
  refine D_end fun m5 hm5 _=>?_
  simp
  refine W_draw (fun _ _ _=>True) (by simp[maxDst]) ?_
  refine D_pc 0 12 [12,13,14,15,16] ?_
  simp
  intro _ _
  refine D_Xg rfl rfl (b:=true) (by simp) (fun h=>by cases h) (fun _ m6 hm6 _=>⟨by simp[lateOf],?_⟩)
  refine D_pc 13 4 [] ?_
  simp
  intro _ _
  refine D_end fun m7 hm7 _=>?_
  simp
  exact ((((hm02.trans hm3).trans hm4).trans hm5).trans hm6).trans hm7
 have hab': ¬(a:Int)=b:=by omega
 simp
 refine W_draw (fun _ _ _=>True) (by simp[maxDst]) ?_
 refine D_pc 0 12 [12,13,14,15,16,17,18,19,20,21,22,23,24,25,26,27] ?_
 simp[beqF hab',p1,p2,q1,q2]
 intro _ _
 refine D_Xg rfl rfl (b:=false) (by simp) (fun _ m3 hm3 _=>?_) (fun h=>absurd rfl h)
 simp
 refine C_of (hflat m3 hm3) ?_
 rintro _ m4 ⟨rfl,hm4⟩
 have hm24:=hm3.trans hm4
 refine ⟨by simp[lateOf],?_⟩
 refine D_pc 13 13 [26,27] ?_
 have L4:=ld6 hm24
 by_cases hf:firstC l[a] l[b]=0
 rotate_left
 ·have hne: ¬RR l a=RR l b:=fun h=>hf (by have:=RR_first ha hb h;rwa[hma,hmb] at this)
  simp[bneT hf,hne]
  intro _ _
  refine D_Xg rfl rfl (b:=true) (by simp) (fun h=>by cases h) (fun _ m5 hm5 _=>⟨by simp[lateOf],?_⟩)
  refine D_pc 27 1 [] ?_
  simp
  intro _ _
  refine D_end fun m6 hm6 _=>?_
  simp
  have hm26:=(hm24.trans hm5).trans hm6
  have L6:=ld6 hm26
  refine W_draw (fun _ _ _=>True) (by simp[maxDst]) ?_
  refine D_pc 0 12 [12,13,14,15,16] ?_
  simp[beqF hab',p1,p2,L6.1,L6.2.1]
  intro _ _
  refine D_Xg rfl rfl (b:=false) (by simp) (fun _ m7 hm7 _=>?_) (fun h=>absurd rfl h)
  simp
  refine C_of (hflat m7 (hm26.trans hm7)) ?_
  rintro _ m8 ⟨rfl,hm8⟩
  refine ⟨by simp[lateOf],?_⟩
  refine D_pc 13 4 [] ?_
  simp[beqF hf]
  intro _ _
  refine D_end fun m9 hm9 _=>?_
  simp
  exact ⟨hne,(((hm02.trans hm26).trans hm7).trans hm8).trans hm9⟩
 simp[hf,p1,p2,L4.2.2.1,L4.2.2.2]
 intro _ _
 refine D_Xg rfl rfl (b:=false) (by simp) (fun _ m5 hm5 _=>?_) (fun h=>absurd rfl h)
 simp
 have hm25:=hm24.trans hm5
 refine C_of (k70 e1 e2 l[a].elems l[b].elems m5 (he1.mono hm25) (he2.mono hm25) (hr.sm _ hxa).1) ?_
 rintro _ m6 ⟨rfl,hm6⟩
 refine ⟨by simp[lateOf],?_⟩
 refine D_pc 27 1 [] ?_
 simp
 intro _ _
 refine D_end fun m7 hm7 _=>?_
 have hm27:=(hm25.trans hm6).trans hm7
 have L7:=ld6 hm27
 by_cases hsame:l[a].elems=l[b].elems
 ·have heq:RR l a=RR l b:=RR_same ha hb (by rw[hma,hmb];exact hf) (by rw[hma,hmb];exact hsame)
  simp[hsame,heq]
  refine W_draw (fun _ _ _=>True) (by simp[maxDst]) ?_
  refine D_pc 0 12 [12,13,14,15,16] ?_
  simp[beqF hab',p1,p2,L7.1,L7.2.1]
  intro _ _
  refine D_Xg rfl rfl (b:=false) (by simp) (fun _ m8 hm8 _=>?_) (fun h=>absurd rfl h)
  simp
  refine C_of (hflat m8 (hm27.trans hm8)) ?_
  rintro _ m9 ⟨rfl,hm9⟩
  refine ⟨by simp[lateOf],?_⟩
  refine D_pc 13 4 [] ?_
  simp[hf]
  intro _ _
  refine D_end fun m10 hm10 _=>?_
  simp
  exact ⟨heq,(((hm02.trans hm27).trans hm8).trans hm9).trans hm10⟩
 ·simp[hsame]
  have hm07:=hm02.trans hm27
  refine C_of (k55 s l m7 (hs.mono hm07) ok.good (by omega) hr.sm ok.h64 ok.names) ?_
  rintro v8 m8 ⟨hm8,hX⟩
  obtain ⟨ba,oa,pa,la⟩:=rlAt (ints_of_nat hX) ha
  obtain ⟨bb,ob,pb,lb⟩:=rlAt (ints_of_nat hX) hb
  have la:=la m8 (List.prefix_refl _)
  have lb:=lb m8 (List.prefix_refl _)
  have hxy:(((RR l a:Nat):Int)==((RR l b:Nat):Int))=decide (RR l a=RR l b):=by
   rw[Bool.eq_iff_iff,decide_eq_true_iff,beq_iff_eq]
   constructor<;>intro h<;>omega
  simp
  refine W_drawPR (by simp[maxDst]) rfl rfl ?_
  simp[pa,la,pb,lb,hxy]
  intro m9 hm9
  exact (hm07.trans hm8).trans hm9
end Go.Proofs.YtngfdjolleabeaaGreat
namespace Go.Proofs.YtngfdjolleabeaaGreat
open Go Ax
open Relation
set_option maxRecDepth 100000
set_option maxHeartbeats 8000000 in
theorem k22 (s:AVal) (l:List Md) (x:Int) (m:AMem) (hs:RTab m s l) (hsm: ∀y∈l,smallN y) (hl:l.length<2^20) (hr:checkI l=0→Room l):
  ACalls Tryz.prog 22 [s,.int .i64 x] m fun v m'=>m<+:m'∧ ∃t,v= .tuple [t,.int .i64 (downV l x).2.1,.int .i64 (downV l x).2.2]∧RTab m' t (downV l x).1:=by
 refine w22 ?_
 simp[fillA,setN]
 have hA:=OwL.new (f:=AVal.int .i64) m 3 [x]
 have hm1:m<+:m++ [.own [.int .i64 x] 3 none]:=List.prefix_append _ _
 simp at hA
 generalize AVal.slice m.length 0 1 1 none=t1 at*
 generalize m++ [.own [.int .i64 x] 3 none]=m1 at*
 refine C_of (k34 s t1 l [x] m1 (hs.mono hm1) hA.ints hsm (by omega) (by simp)) ?_
 rintro _ m2 ⟨rfl,hm2⟩
 have hm02:=hm1.trans hm2
 by_cases hri:rightI l [x]=0
 rotate_left
 ·simp[bneT hri,downV,hri]
  exact ⟨hm02,RTab.nil0 _⟩
 obtain ⟨hc,a,rfl,ha⟩:=right1 hri
 replace hr:=hr hc
 rw[downV_ok hc ha]
 simp[hri]
 obtain ⟨bx',ox,c,h4,h5,_,_,h6⟩:=(hs.mono hm02).atC ha
 have hcl6:=h6.all
 simp[h4,h5]
 rw[store_new _ _ c _ _ 6 hcl6.1 rfl hcl6.2]
 obtain ⟨e,nm,_,_,_,_,_,_,he,hnm,rfl⟩:=h6.get
 have hb8:(m2++ [ABlk.own [.int .i64 l[a].kind,.int .i64 l[a].size,e,nm,.int .i64 l[a].dims,.bool l[a].flex] 44 none])[m2.length]? =some (.own [.int .i64 l[a].kind,.int .i64 l[a].size,e,nm,.int .i64 l[a].dims,.bool l[a].flex] 44 none):=by simp
 have hm23:m2<+:m2++ [ABlk.own [.int .i64 l[a].kind,.int .i64 l[a].size,e,nm,.int .i64 l[a].dims,.bool l[a].flex] 44 none]:=List.prefix_append _ _
 generalize m2++ [ABlk.own [.int .i64 l[a].kind,.int .i64 l[a].size,e,nm,.int .i64 l[a].dims,.bool l[a].flex] 44 none]=m3 at*
 generalize m2.length=b8 at*
 have hm03:=hm02.trans hm23
 have he3:=he.mono hm23
 have hma:=mdAt_eq ha
 have hlen:=he3.len
 by_cases h9:l[a].kind=9
 ·have hla:lead l a:= .inl (by rw[hma];exact h9)
  obtain ⟨hel,hhl⟩:=lead_elem hc ha hla
  rw[hma] at hel
  obtain ⟨b0,o0,p1,p2⟩:=bound1 he3 hel
  have hD:downI l a=some ((deflI l (headE l a)).1,leastN (deflI l (headE l a)).1 (deflI l (headE l a)).2):=by unfold downI;rw[if_pos (by rw[hma];exact h9)]
  rw[hD]
  simp[bx (own_read hb8),h9]
  refine C_of (k53 s l m3 (hs.mono hm03) hr.h40 hl) ?_
  rintro t4 m4 ⟨hm4,hT4⟩
  have hb84:=own_mono hb8 hm4
  simp[bx (own_read hb84),h9,p1,p2 m4 hm4]
  refine C_of (k54 t4 l (headE l a) m4 hT4.tab hr hhl) ?_
  rintro _ m5 ⟨hm5,t5,rfl,hT5⟩
  have hd:=deflI_spec hr hhl
  have hr5:=hr.defl (by simpa using hhl) hd
  have hn5:=((hd.ok hc (by simpa using hhl)).at_ 0 _ _ rfl rfl).1
  have hm05:=(hm03.trans hm4).trans hm5
  simp
  generalize deflI l (headE l a)=dp at*
  obtain ⟨l5,n5⟩:=dp
  simp only at*
  have ok_5:=okT_of hr5.ck
  have hl5:=hr5.len
  refine C_of (k55 t5 (l5) m5 hT5 ok_5.good (by omega) hr5.sm ok_5.h64 ok_5.names) ?_
  rintro ro mr ⟨hmr,hX⟩
  have hTr:=hT5.mono hmr
  simp
  obtain ⟨I,hI⟩: ∃I:Nat→AFrame→AMem→Prop,∀q f m',I q f m'↔(∃k:Nat,k+q=(l5).length∧f=h22_0 t5 (.int .i64 ((n5):Nat)) ro (.int .i64 k)∧mr<+:m'∧ ∀j,j<k→RR (l5) j≠RR (l5) (n5)):=⟨_,fun _ _ _=>Iff.rfl⟩
  refine W_loop I (l5).length ((hI _ _ _).2 ⟨0,by simp,by simp,List.prefix_refl _,by simp⟩) ?_
  rintro q f m8 hIn
  obtain ⟨k,hk,rfl,hm8,hno⟩:=(hI _ _ _).1 hIn
  clear hIn
  simp[(hTr.mono hm8).len]
  refine bbind_dec (fun hkl=>?_) fun hkl=>?_
  ·have hkl:k<(l5).length:=by omega
   have hw:=step64 (k:=k) (n:=(l5).length) hkl (by omega)
   obtain ⟨q,rfl⟩: ∃q',q=q'+1:=⟨q-1,by omega⟩
   obtain ⟨ba,oa,pa,la⟩:=rlAt (ints_of_nat hX) hkl
   obtain ⟨bb,ob,pb,lb⟩:=rlAt (ints_of_nat hX) hn5
   have la:=la m8 hm8
   have lb:=lb m8 hm8
   have hxy:(((RR (l5) k:Nat):Int)==((RR (l5) (n5):Nat):Int))=decide (RR (l5) k=RR (l5) (n5)):=by
    rw[Bool.eq_iff_iff,decide_eq_true_iff,beq_iff_eq]
    constructor<;>intro h<;>omega
   simp
   refine W_drawPR (by simp[maxDst]) rfl rfl ?_
   simp[pa,la,pb,lb,hxy]
   intro m9 hm9
   by_cases he:RR (l5) k=RR (l5) (n5)
   ·simp[he,leastN_at hkl he hno]
    exact ⟨(((hm05.trans hmr).trans hm8).trans hm9),hTr.mono (hm8.trans hm9)⟩
   ·simp[he,hw]
    refine ⟨q,by omega,(hI _ _ _).2 ⟨k+1,by omega,by simp,hm8.trans hm9,fun j hj=>?_⟩⟩
    by_cases hjk:j=k
    ·subst hjk;exact he
    ·exact hno j (by omega)
  ·exact absurd rfl (hno (n5) (by omega))
 ·have hK9: ¬(mdAt l a).kind=9:=by rw[hma];exact h9
  have hD:downI l a=if (mdAt l a).kind=13∧(mdAt l a).elems.length=1∧(mdAt l (headE l a)).kind≠0 then some (l,leastN l (headE l a)) else none:=by unfold downI;rw[if_neg hK9]
  rw[hma] at hD
  by_cases h13:l[a].kind=13
  rotate_left
  ·have hDn:downI l a=none:=by rw[hD,if_neg (fun h=>h13 h.1)]
   rw[hDn]
   simp[beqF h13,beqF h9,bx (own_read hb8)]
   exact ⟨hm03,RTab.nil0 _⟩
  by_cases h1:l[a].elems.length=1
  rotate_left
  ·have h1': ¬(l[a].elems.length:Int)=1:=by omega
   have hDn:downI l a=none:=by rw[hD,if_neg (fun h=>h1 h.2.1)]
   rw[hDn]
   simp[h13,hlen,beqF h1',bx (own_read hb8)]
   exact ⟨hm03,RTab.nil0 _⟩
  have hla:lead l a:= .inr (by rw[hma];exact ⟨h13,h1⟩)
  obtain ⟨hel,hhl⟩:=lead_elem hc ha hla
  rw[hma] at hel
  obtain ⟨b0,o0,p1,p2⟩:=bound1 he3 hel
  obtain ⟨bh,oh,ch,k4,_,k5,_,_⟩:=(hs.mono hm03).atC hhl
  have hmh:=mdAt_eq hhl
  by_cases hv:l[headE l a].kind=0
  ·have hDn:downI l a=none:=by rw[hD,if_neg (fun h=>h.2.2 (by rw[hmh];exact hv))]
   rw[hDn]
   simp[h13,hlen,h1,bx (own_read hb8),p1,p2 m3 (List.prefix_refl _),k4,k5,hv]
   exact ⟨hm03,RTab.nil0 _⟩
  have hDs:downI l a=some (l,leastN l (headE l a)):=by rw[hD,if_pos ⟨h13,h1,by rw[hmh];exact hv⟩]
  rw[hDs]
  simp[h13,hlen,h1,bx (own_read hb8),p1,p2 m3 (List.prefix_refl _),k4,k5,bneT hv]
  refine C_of (k53 s l m3 (hs.mono hm03) hr.h40 hl) ?_
  rintro t4 m4 ⟨hm4,hT4'⟩
  have hT4:=hT4'.tab
  have hb84:=own_mono hb8 hm4
  have hr4:=hr
  have hn4:=hhl
  have hm04:=hm03.trans hm4
  simp[bx (own_read hb84),h13,p1,p2 m4 hm4]
  have ok_4:=okT_of hr4.ck
  have hl4:=hr4.len
  refine C_of (k55 t4 (l) m4 hT4 ok_4.good (by omega) hr4.sm ok_4.h64 ok_4.names) ?_
  rintro ro mr ⟨hmr,hX⟩
  have hTr:=hT4.mono hmr
  simp
  obtain ⟨I,hI⟩: ∃I:Nat→AFrame→AMem→Prop,∀q f m',I q f m'↔(∃k:Nat,k+q=(l).length∧f=h22_0 t4 (.int .i64 ((headE l a):Nat)) ro (.int .i64 k)∧mr<+:m'∧ ∀j,j<k→RR (l) j≠RR (l) (headE l a)):=⟨_,fun _ _ _=>Iff.rfl⟩
  refine W_loop I (l).length ((hI _ _ _).2 ⟨0,by simp,by simp,List.prefix_refl _,by simp⟩) ?_
  rintro q f m8 hIn
  obtain ⟨k,hk,rfl,hm8,hno⟩:=(hI _ _ _).1 hIn
  clear hIn
  simp[(hTr.mono hm8).len]
  refine bbind_dec (fun hkl=>?_) fun hkl=>?_
  ·have hkl:k<(l).length:=by omega
   have hw:=step64 (k:=k) (n:=(l).length) hkl (by omega)
   obtain ⟨q,rfl⟩: ∃q',q=q'+1:=⟨q-1,by omega⟩
   obtain ⟨ba,oa,pa,la⟩:=rlAt (ints_of_nat hX) hkl
   obtain ⟨bb,ob,pb,lb⟩:=rlAt (ints_of_nat hX) hn4
   have la:=la m8 hm8
   have lb:=lb m8 hm8
   have hxy:(((RR (l) k:Nat):Int)==((RR (l) (headE l a):Nat):Int))=decide (RR (l) k=RR (l) (headE l a)):=by
    rw[Bool.eq_iff_iff,decide_eq_true_iff,beq_iff_eq]
    constructor<;>intro h<;>omega
   simp
   refine W_drawPR (by simp[maxDst]) rfl rfl ?_
   simp[pa,la,pb,lb,hxy]
   intro m9 hm9
   by_cases he:RR (l) k=RR (l) (headE l a)
   ·simp[he,leastN_at hkl he hno]
    exact ⟨(((hm04.trans hmr).trans hm8).trans hm9),hTr.mono (hm8.trans hm9)⟩
   ·simp[he,hw]
    refine ⟨q,by omega,(hI _ _ _).2 ⟨k+1,by omega,by simp,hm8.trans hm9,fun j hj=>?_⟩⟩
    by_cases hjk:j=k
    ·subst hjk;exact he
    ·exact hno j (by omega)
  ·exact absurd rfl (hno (headE l a) (by omega))
end Go.Proofs.YtngfdjolleabeaaGreat
namespace Go.Proofs.YtngfdjolleabeaaGreat
open Go Ax
open Relation
set_option maxRecDepth 100000
set_option maxHeartbeats 4000000 in
theorem k14 (s:AVal) (l:List Md) (u v:Int) (m:AMem) (hs:RTab m s l) (hsm: ∀y∈l,smallN y) (hl:l.length<2^20) (hr:checkI l=0→Room l):
  ACalls Tryz.prog 14 [s,.int .i64 u,.int .i64 v] m fun w m'=>m<+:m'∧w=firmU l u v (firmI 100 l u.toNat v.toNat) (rightI l [u,v]):=by
 refine w14 ?_
 simp[fillA,setN]
 have hA:=two_ints m u v
 have hm1:m<+:m++ [.own [.int .i64 u,.int .i64 v] 3 none]:=List.prefix_append _ _
 generalize AVal.slice m.length 0 2 2 none=t1 at*
 generalize m++ [.own [.int .i64 u,.int .i64 v] 3 none]=m1 at*
 refine C_of (k34 s t1 l [u,v] m1 (hs.mono hm1) hA.ints hsm (by omega) (by simp)) ?_
 rintro _ m2 ⟨rfl,hm2⟩
 have hm02:=hm1.trans hm2
 by_cases hri:rightI l [u,v]=0
 rotate_left
 ·simp[bneT hri,firmU,hri]
  exact hm02
 obtain ⟨hc,a,b,rfl,rfl,ha,hb⟩:=right2 hri
 replace hr:=hr hc
 have hU: ∀F,firmU l a b F (rightI l [(a:Int),(b:Int)])=match F with
   |none=> .tuple [.int .i64 0,.bool false,.int .i64 0]
   |some p=> .tuple [.int .i64 (p.1:Nat),.bool true,.int .i64 0]:=fun F=>by
  unfold firmU
  rw[if_neg (by simp[hri])]
  all_goals (cases F<;>rfl)
 rw[hU]
 simp[hri]
 obtain ⟨t0,ht0,hL0⟩:=Lead.has hr ha
 obtain ⟨I,hI⟩: ∃I:Nat→AFrame→AMem→Prop,∀q f m',I q f m'↔(∃(k:Nat) (lk:List Md) (sk:AVal) (mk:Nat),k+q≤19∧f=h14_0 sk (.int .i64 b) (.int .i64 mk) (.int .i64 k)∧m<+:m'∧RTab m' sk lk∧Room lk∧Ext l lk∧mk<lk.length∧Lead lk mk q∧FirmAt l a b k lk mk):=⟨_,fun _ _ _=>Iff.rfl⟩
 refine W_loop I t0 ((hI _ _ _).2 ⟨0,l,s,a,by omega,by simp,hm02,hs.mono hm02,hr,.refl,ha,hL0,?_⟩) ?_
 ·unfold FirmAt
  simp
 rintro q f m3 hIn
 obtain ⟨k,lk,sk,mk,hkq,rfl,hm3,hsk,hrk,hxk,hmk,hLk,hFk⟩:=(hI _ _ _).1 hIn
 clear hIn
 have hlen:=hxk.len
 have hrkl:=hrk.len
 simp
 refine C_of (k35 sk lk mk b m3 hsk hrk hmk (by omega)) ?_
 rintro _ m4 ⟨rfl,hm4⟩
 simp
 refine C_of (k36 sk lk mk b m4 (hsk.mono hm4) hrk.sm (by omega)) ?_
 rintro _ m5 ⟨rfl,hm5⟩
 rw[uniV_ok hrk.ck hmk (by omega)]
 have hm05:=(hm3.trans hm4).trans hm5
 simp
 by_cases hme:RR lk mk=RR lk b∨uniB lk mk b=true
 ·have hres:=hFk.hit (by omega) hme
  rw[hres]
  by_cases he:RR lk mk=RR lk b
  ·simp[he,hm05]
  ·have hu:=hme.resolve_left he
   simp[he,hu,hm05]
 ·have he: ¬RR lk mk=RR lk b:=fun h=>hme (.inl h)
  have hu:uniB lk mk b=false:=by
   cases h:uniB lk mk b
   ·rfl
   ·exact absurd (.inr h) hme
  simp[he,hu]
  refine C_of (k22 sk lk mk m5 (hsk.mono (hm4.trans hm5)) hrk.sm (by omega) fun _=>hrk) ?_
  rintro _ m6 ⟨hm6,t,rfl,hT⟩
  rw[downV_ok hrk.ck hmk] at hT ⊢
  cases hd:downI lk mk with
  |none=>
   have hres:=hFk.none (by omega) hme hd
   rw[hres]
   simp
   exact hm05.trans hm6
  |some p=>
   obtain ⟨l',n⟩:=p
   rw[hd] at hT
   simp only at hT
   have hw:=step64 (k:=k) (n:=100) (by omega) (by omega)
   obtain ⟨_,hr',hx',hn,hlt⟩:=down_ok hrk hmk hd
   obtain ⟨q',hq',hL'⟩:=hlt q hLk
   simp[hw]
   exact ⟨q',hq',(hI _ _ _).2 ⟨k+1,l',t,n,by omega,by simp,hm05.trans hm6,hT,hr',hxk.trans hx',hn,hL',hFk.down (by omega) hme hd⟩⟩
theorem FirmAt.inv {l0 lk:List Md} {a b k mk n:Nat} {u:Bool} (h:FirmAt l0 a b k lk mk) (hk:k<100) (hF:firmI 100 l0 a b=some (n,u)):(k=n∧u= !decide (RR lk mk=RR lk b)∧(RR lk mk=RR lk b∨uniB lk mk b=true))∨(k<n∧ ¬(RR lk mk=RR lk b∨uniB lk mk b=true)∧ ∃l' n',downI lk mk=some (l',n')):=by
 by_cases hm:RR lk mk=RR lk b∨uniB lk mk b=true
 ·have:=h.hit hk hm
  rw[hF] at this
  simp only[Option.some.injEq,Prod.mk.injEq] at this
  exact .inl ⟨this.1.symm,this.2,hm⟩
 ·cases hd:downI lk mk with
  |none=>
   have:=h.none hk hm hd
   rw[hF] at this
   cases this
  |some p=>
   obtain ⟨l',n'⟩:=p
   have:=h.down hk hm hd
   unfold FirmAt at this
   rw[hF] at this
   have:=this.symm
   rw[Option.map_eq_some_iff] at this
   obtain ⟨w,_,h1⟩:=this
   simp only[Prod.mk.injEq] at h1
   exact .inr ⟨by omega,hm,l',n',rfl⟩
set_option maxHeartbeats 4000000 in
theorem k72 (s:AVal) (l:List Md) (a b n:Nat) (u:Bool) (m:AMem) (hs:RTab m s l) (hr:Room l) (ha:a<l.length) (hb:b<l.length) (hF:firmI 100 l a b=some (n,u)):
  ACalls Tryz.prog 72 [s,.int .i64 a,.int .i64 n,.int .i64 b] m fun v m'=>m<+:m'∧v= .bool u:=by
 refine w72 ?_
 simp
 obtain ⟨t0,ht0,hL0⟩:=Lead.has hr ha
 obtain ⟨I,hI⟩: ∃I:Nat→AFrame→AMem→Prop,∀q f m',I q f m'↔(∃(k:Nat) (lk:List Md) (sk:AVal) (mk:Nat),k+q≤19∧f=h72_0 sk (.int .i64 n) (.int .i64 b) (.int .i64 mk) (.int .i64 k)∧m<+:m'∧RTab m' sk lk∧Room lk∧Ext l lk∧mk<lk.length∧Lead lk mk q∧FirmAt l a b k lk mk):=⟨_,fun _ _ _=>Iff.rfl⟩
 refine W_loop I t0 ((hI _ _ _).2 ⟨0,l,s,a,by omega,by simp,List.prefix_refl _,hs,hr,.refl,ha,hL0,?_⟩) ?_
 ·unfold FirmAt
  simp
 rintro q f m3 hIn
 obtain ⟨k,lk,sk,mk,hkq,rfl,hm3,hsk,hrk,hxk,hmk,hLk,hFk⟩:=(hI _ _ _).1 hIn
 clear hIn
 have hlen:=hxk.len
 have hrkl:=hrk.len
 rcases hFk.inv (by omega) hF with ⟨rfl,hu,_⟩|⟨hkn,hme,l',n',hd⟩
 ·simp
  refine C_of (k35 sk lk mk b m3 hsk hrk hmk (by omega)) ?_
  rintro _ m4 ⟨rfl,hm4⟩
  simp[hu]
  exact hm3.trans hm4
 ·have hkn':(k:Int)<n:=by omega
  simp[hkn']
  refine C_of (k22 sk lk mk m3 hsk hrk.sm (by omega) fun _=>hrk) ?_
  rintro _ m6 ⟨hm6,t,rfl,hT⟩
  rw[downV_ok hrk.ck hmk,hd] at hT ⊢
  simp only at hT
  have hw:=step64 (k:=k) (n:=100) (by omega) (by omega)
  obtain ⟨_,hr',hx',hn,hlt⟩:=down_ok hrk hmk hd
  obtain ⟨q',hq',hL'⟩:=hlt q hLk
  simp[hw]
  exact ⟨q',hq',(hI _ _ _).2 ⟨k+1,l',t,n',by omega,by simp,hm3.trans hm6,hT,hr',hxk.trans hx',hn,hL',hFk.down (by omega) hme hd⟩⟩
end Go.Proofs.YtngfdjolleabeaaGreat
namespace Go.Proofs.YtngfdjolleabeaaGreat
open Go Ax
open Relation
set_option maxRecDepth 100000
theorem firmU_ok {l:List Md} {a b:Nat} (hc:checkI l=0) (ha:a<l.length) (hb:b<l.length) (F:Option (Nat×Bool)):firmU l a b F (rightI l [(a:Int),(b:Int)])=match F with
  |none=> .tuple [.int .i64 0,.bool false,.int .i64 0]
  |some p=> .tuple [.int .i64 (p.1:Nat),.bool true,.int .i64 0]:=by
 unfold firmU
 rw[if_neg (by simp[rightI_two hc ha hb])]
 all_goals (cases F<;>rfl)
set_option maxHeartbeats 8000000 in
theorem k38 (s:AVal) (l:List Md) (a b:Nat) (fi:Bool) (m:AMem) (hs:RTab m s l) (hr:Room l) (ha:a<l.length) (hb:b<l.length):
  ACalls Tryz.prog 38 [s,.int .i64 a,.int .i64 b,.bool fi] m fun v m'=>m<+:m'∧v= .tuple [.agg (wC (halfI l fi b (basesOf l a))),.bool (halfI l fi b (basesOf l a)).isSome,.int .i64 0]:=by
 refine w38 ?_
 have hc:=hr.ck
 have hg:=(okT_of hc).good
 have hrl:=hr.len
 simp
 have a6:(m++ [ABlk.own [.bool false,.int .i64 0,.int .i64 0,.bool false] 33 none])[m.length]? =some (.own [.bool false,.int .i64 0,.int .i64 0,.bool false] 33 none):=by simp
 have am:m<+:m++ [ABlk.own [.bool false,.int .i64 0,.int .i64 0,.bool false] 33 none]:=List.prefix_append _ _
 generalize m++ [ABlk.own [.bool false,.int .i64 0,.int .i64 0,.bool false] 33 none]=m1 at*
 generalize hn8:m.length=n8 at*
 refine C_of (k61 s l a m1 (hs.mono am) hr.sm hc ha) ?_
 rintro t11 m2 ⟨hm2,zs,hZ,hbo⟩
 obtain rfl:=hbo.eq
 have hzl: ∀z∈basesOf l a,z<l.length:=fun z hz=>(basesOf_sub hg ha hz).lt hg ha
 have hzn:(basesOf l a).length≤12:=hr.t13.bases hg ha
 simp[fillA,setN]
 have a9:(m2++ [ABlk.own [.bool false,.int .i64 0,.int .i64 0,.bool false] 33 none])[m2.length]? =some (.own [.bool false,.int .i64 0,.int .i64 0,.bool false] 33 none):=by simp
 have cm:m2<+:m2++ [ABlk.own [.bool false,.int .i64 0,.int .i64 0,.bool false] 33 none]:=List.prefix_append _ _
 rw[store_new _ _ [.bool false,.int .i64 0,.int .i64 0,.bool false] _ _ 4 rfl rfl rfl]
 simp
 have hm2l:=hm2.length_le
 have h8l:n8<m1.length:=(List.getElem?_eq_some_iff.1 a6).1
 have hZb: ∀bq,t11.blk=some bq→bq<m2.length:=fun bq h=>(hZ.blk_lo h).2
 generalize m2++ [ABlk.own [.bool false,.int .i64 0,.int .i64 0,.bool false] 33 none]=M at*
 generalize hn12:m2.length=n12 at*
 have bm:m<+:M:=(am.trans hm2).trans cm
 have b8:=own_mono (own_mono a6 hm2) cm
 have hZ0:=hZ.mono cm
 have hnB: ∀{m':AMem},Ch (fun c=>c=n12) M m'→m<+:m':=fun h=>h.pre bm fun c hc e=>by omega
 generalize basesOf l a=zs at*
 obtain ⟨I,hI⟩: ∃I:Nat→AFrame→AMem→Prop,∀q f m',I q f m'↔(∃j:Nat,j+q=zs.length∧f=h38_0 s (.int .i64 b) (.bool fi) .undef (.ptr n8 0) t11 (.ptr n12 0) (.bool (halfI l fi b (zs.take j)).isSome) (.int .i64 j)∧Ch (fun c=>c=n12) M m'∧m'[n12]? =some (.own (wC (halfI l fi b (zs.take j))) 33 none)):=⟨_,fun _ _ _=>Iff.rfl⟩
 refine W_loop I zs.length ((hI _ _ _).2 ⟨0,by simp,by simp[halfI],.refl _ _,by simpa[halfI,wC] using a9⟩) ?_
 rintro q f m4 hIn
 obtain ⟨j,hj,rfl,hch4,h94⟩:=(hI _ _ _).1 hIn
 clear hIn
 have hZ4:=hZ0.ch hch4 fun bq h1 h2=>by have:=hZb bq h1;omega
 simp[hZ4.len]
 refine bbind_dec (fun hjl=>?_) fun hjl=>?_
 ·have hjl:j<zs.length:=by omega
  have hw:=step64 (k:=j) (n:=zs.length) hjl (by omega)
  obtain ⟨q,rfl⟩: ∃q',q=q'+1:=⟨q-1,by omega⟩
  obtain ⟨bz,oz,_,hpz,hlz,_⟩:=hZ4.at (i:=j) hjl
  have hzj:=hzl _ (List.getElem_mem hjl)
  have hsn:halfI l fi b (zs.take (j+1))=better (halfI l fi b (zs.take j)) (oneW l fi b zs[j] (firmI 100 l zs[j] b)):=by
   rw[List.take_add_one,List.getElem?_eq_getElem hjl,Option.toList_some,half_snoc]
  generalize halfI l fi b (zs.take j)=cur at*
  generalize zs[j]=z at*
  simp[hpz,hlz]
  refine C_of (k14 s l z b m4 (hs.mono (hnB hch4)) hr.sm (by omega) fun _=>hr) ?_
  rintro _ m5 ⟨hm5,rfl⟩
  rw[firmU_ok hc hzj hb]
  simp only[Int.toNat_natCast]
  have h95:=own_mono h94 hm5
  have hch5:Ch (fun c=>c=n12) M m5:=hch4.trans (.of_prefix hm5)
  have fin: ∀(m6:AMem) (nw:Option (Bool×Nat×Nat×Bool)),nw=better cur (oneW l fi b z (firmI 100 l z b))→Ch (fun c=>c=n12) m5 m6→m6[n12]? =some (.own (wC nw) 33 none)→I q (h38_0 s (.int .i64 b) (.bool fi) .undef (.ptr n8 0) t11 (.ptr n12 0) (.bool nw.isSome) (.int .i64 ((j+1:Nat):Int))) m6:=fun m6 nw hnw hc h=>by
   exact (hI _ _ _).2 ⟨j+1,by omega,by rw[hsn,hnw],hch5.trans hc,by rw[hsn,←hnw];exact h⟩
  have hlz5:=loadE_mono hm5 hlz
  cases hF:firmI 100 l z b with
  |none=>
   rw[hF] at fin
   simp[hw]
   exact ⟨q,by omega,by simpa using fin m5 cur (by rw[oneW,Option.map_none,better_none]) (.refl _ _) h95⟩
  |some w=>
   obtain ⟨n,u⟩:=w
   rw[hF] at fin
   have hst: ∀m6,m5<+:m6→ ∃m7,storeE m6 4 (.ptr n12 0) (.agg [.bool fi,.int .i64 (z:Nat),.int .i64 (n:Nat),.bool u])=some (.undef,m7)∧m7[n12]? =some (.own (wC (some (fi,z,n,u))) 33 none)∧Ch (fun c=>c=n12) m5 m7:=fun m6 hm6=>by
    obtain ⟨m7,g1,g2,g3⟩:=agg_store (n:=4) (own_mono h95 hm6) (cs:= [.bool fi,.int .i64 (z:Nat),.int .i64 (n:Nat),.bool u]) rfl (wC_len _).1 rfl
    exact ⟨m7,g1,g2,(Ch.of_prefix hm6).trans g3⟩
   have hcall: ∀m6,m5<+:m6→ACalls Tryz.prog 72 [s,.int .i64 z,.int .i64 n,.int .i64 b] m6 fun v m'=>m6<+:m'∧v= .bool u:=fun m6 hm6=>k72 s l z b n u m6 ((hs.mono (hnB hch5)).mono hm6) hr hzj hb hF
   by_cases hgo:cur=none∨ ∃w0,cur=some w0∧n<w0.2.2.1
   ·have hnew: ∀m7,m7[n12]? =some (.own (wC (some (fi,z,n,u))) 33 none)→Ch (fun c=>c=n12) m5 m7→I q (h38_0 s (.int .i64 b) (.bool fi) .undef (.ptr n8 0) t11 (.ptr n12 0) (.bool true) (.int .i64 ((j:Int)+1))) m7:=fun m7 h1 h2=>by
     have:=fin m7 (some (fi,z,n,u)) (by rcases hgo with rfl|⟨w0,rfl,hlt⟩;rfl;simp[oneW,better,hlt]) h2 h1
     simpa using this
    rcases hgo with rfl|⟨w0,rfl,hlt⟩
    ·simp
     refine W_draw (fun i v _=>i=13→v= .bool u) (by simp[maxDst]) ?_
     refine D_pc 0 13 [13,14,15,16] ?_
     simp[hpz,hlz5]
     intro _ _
     refine D_C rfl trivial rfl (fun m' hm' _=>(hcall m' hm').mono ?_) ?_ ?_ ?_
     ·rintro w m'' ⟨g1,rfl⟩
      exact ⟨g1,fun _=>rfl⟩
     ·exact ⟨.bool u,m5,List.prefix_refl _,fun _=>rfl⟩
     ·rintro w m' m'' _ hk
      exact hk
     rintro v6 m6 hm6 hv6
     obtain rfl:=hv6 rfl
     refine D_P rfl trivial ?_
     simp[fillA,setN]
     refine D_W rfl rfl fun m7 hm7 _=>?_
     obtain ⟨m8,hs8,h98,hc8⟩:=hst m7 hm7
     simp[hs8]
     refine D_P rfl trivial ?_
     simp
     refine D_end fun m9 hm9 _=>?_
     simp[hw]
     exact ⟨q,by omega,hnew m9 (own_mono h98 hm9) (hc8.trans (.of_prefix hm9))⟩
    ·have h95r:=bx (own_read h95) 2
     simp[wC] at h95r
     simp[h95r,hlt]
     refine W_draw (fun i v _=>i=13→v= .bool u) (by simp[maxDst]) ?_
     refine D_pc 0 13 [13,14,15,16] ?_
     simp[hpz,hlz5]
     intro _ _
     refine D_C rfl trivial rfl (fun m' hm' _=>(hcall m' hm').mono ?_) ?_ ?_ ?_
     ·rintro w m'' ⟨g1,rfl⟩
      exact ⟨g1,fun _=>rfl⟩
     ·exact ⟨.bool u,m5,List.prefix_refl _,fun _=>rfl⟩
     ·rintro w m' m'' _ hk
      exact hk
     rintro v6 m6 hm6 hv6
     obtain rfl:=hv6 rfl
     refine D_P rfl trivial ?_
     simp[fillA,setN]
     refine D_W rfl rfl fun m7 hm7 _=>?_
     obtain ⟨m8,hs8,h98,hc8⟩:=hst m7 hm7
     simp[hs8]
     refine D_P rfl trivial ?_
     simp
     refine D_end fun m9 hm9 _=>?_
     simp[hw]
     exact ⟨q,by omega,hnew m9 (own_mono h98 hm9) (hc8.trans (.of_prefix hm9))⟩
   ·obtain ⟨w0,rfl⟩: ∃w0,cur=some w0:=by
     cases cur with
     |none=>exact absurd (.inl rfl) hgo
     |some w0=>exact ⟨w0,rfl⟩
    have hlt: ¬n<w0.2.2.1:=fun h=>hgo (.inr ⟨w0,rfl,h⟩)
    have h95r:=bx (own_read h95) 2
    simp[wC] at h95r
    simp[h95r,hlt,hw]
    exact ⟨q,by omega,by simpa using fin m5 (some w0) (by simp[oneW,better,hlt]) (.refl _ _) h95⟩
 ·have hjl:j=zs.length:=by omega
  subst hjl
  rw[List.take_length] at h94 ⊢
  have hrd:=bxW (own_read h94) 4
  rw[readN_all (wC_len _).1] at hrd
  obtain ⟨m5,hs3,h62,hc3⟩:=agg_store (n:=4) (hch4.keep _ _ b8 (by omega)) (cs:=wC (halfI l fi b zs)) (wC_len _).1 rfl (wC_len _).2
  have hrd2:=bxW (own_read h62) 4
  rw[readN_all (wC_len _).1] at hrd2
  simp[hrd,hs3,hrd2]
  exact hc3.pre (hnB hch4) fun c hc e=>by omega
set_option maxHeartbeats 4000000 in
theorem k16 (s:AVal) (l:List Md) (u v:Int) (m:AMem) (hs:RTab m s l) (hsm: ∀y∈l,smallN y) (hl:l.length<2^20) (hr:checkI l=0→Room l):
  ACalls Tryz.prog 16 [s,.int .i64 u,.int .i64 v] m fun w m'=>m<+:m'∧w=relU (relI l u.toNat v.toNat) (rightI l [u,v]):=by
 refine w16 ?_
 simp[fillA,setN]
 have a6:(m++ [ABlk.own [.bool false,.int .i64 0,.int .i64 0,.bool false] 33 none,ABlk.own [.int .i64 u,.int .i64 v] 3 none])[m.length]? =some (.own [.bool false,.int .i64 0,.int .i64 0,.bool false] 33 none):=by simp
 have hA:RInts (m++ [ABlk.own [.bool false,.int .i64 0,.int .i64 0,.bool false] 33 none,ABlk.own [.int .i64 u,.int .i64 v] 3 none]) (.slice (m.length+1) 0 2 2 none) [u,v]:=by
  have:=two_ints (m++ [ABlk.own [.bool false,.int .i64 0,.int .i64 0,.bool false] 33 none]) u v
  simpa using this.ints
 have hm1:m<+:m++ [ABlk.own [.bool false,.int .i64 0,.int .i64 0,.bool false] 33 none,ABlk.own [.int .i64 u,.int .i64 v] 3 none]:=List.prefix_append _ _
 generalize AVal.slice (m.length+1) 0 2 2 none=t1 at*
 generalize m++ [ABlk.own [.bool false,.int .i64 0,.int .i64 0,.bool false] 33 none,ABlk.own [.int .i64 u,.int .i64 v] 3 none]=m1 at*
 generalize hn6:m.length=n6 at*
 refine C_of (k34 s t1 l [u,v] m1 (hs.mono hm1) hA hsm (by omega) (by simp)) ?_
 rintro _ m2 ⟨rfl,hm2⟩
 have hm02:=hm1.trans hm2
 have b6:=own_mono a6 hm2
 by_cases hri:rightI l [u,v]=0
 rotate_left
 ·obtain ⟨m3,hs3,h63,hc3⟩:=agg_store (n:=4) b6 (cs:= [.bool false,.int .i64 0,.int .i64 0,.bool false]) rfl rfl rfl
  have hrd:=bxW (own_read h63) 4
  rw[readN_all (n:=4) rfl] at hrd
  have hU:relU (relI l u.toNat v.toNat) (rightI l [u,v])= .tuple [.agg [.bool false,.int .i64 0,.int .i64 0,.bool false],.bool false,.int .i64 (rightI l [u,v])]:=by
   unfold relU
   rw[if_pos hri]
   rfl
  rw[hU]
  simp[bneT hri,fillA,hs3,hrd]
  exact hc3.pre hm02 fun c hc e=>by omega
 obtain ⟨hc,a,b,rfl,rfl,ha,hb⟩:=right2 hri
 replace hr:=hr hc
 have hU:relU (relI l (a:Int).toNat (b:Int).toNat) (rightI l [(a:Int),(b:Int)])= .tuple [.agg (wC (relI l a b)),.bool (relI l a b).isSome,.int .i64 0]:=by
  unfold relU
  rw[if_neg (by simp[hri]),Int.toNat_natCast,Int.toNat_natCast]
 rw[hU]
 simp[hri]
 refine C_of (k38 s l a b true m2 (hs.mono hm02) hr ha hb) ?_
 rintro _ m3 ⟨hm3,rfl⟩
 have hm03:=hm02.trans hm3
 simp
 rw[store_new _ _ (wC (halfI l true b (basesOf l a))) _ _ 4 (wC_len _).1 rfl (wC_len _).2]
 have a10:(m3++ [ABlk.own (wC (halfI l true b (basesOf l a))) 33 none])[m3.length]? =some (.own (wC (halfI l true b (basesOf l a))) 33 none):=by simp
 have cm4:m3<+:m3++ [ABlk.own (wC (halfI l true b (basesOf l a))) 33 none]:=List.prefix_append _ _
 generalize m3++ [ABlk.own (wC (halfI l true b (basesOf l a))) 33 none]=m4 at*
 generalize m3.length=n10 at*
 have hm04:=hm03.trans cm4
 simp
 refine C_of (k38 s l b a false m4 (hs.mono hm04) hr hb ha) ?_
 rintro _ m5 ⟨hm5,rfl⟩
 have hm05:=hm04.trans hm5
 simp
 rw[store_new _ _ (wC (halfI l false a (basesOf l b))) _ _ 4 (wC_len _).1 rfl (wC_len _).2]
 have a13:(m5++ [ABlk.own (wC (halfI l false a (basesOf l b))) 33 none])[m5.length]? =some (.own (wC (halfI l false a (basesOf l b))) 33 none):=by simp
 have cm6:m5<+:m5++ [ABlk.own (wC (halfI l false a (basesOf l b))) 33 none]:=List.prefix_append _ _
 generalize m5++ [ABlk.own (wC (halfI l false a (basesOf l b))) 33 none]=m6 at*
 generalize m5.length=n13 at*
 have hm06:=hm05.trans cm6
 have b66:=own_mono (own_mono (own_mono (own_mono b6 hm3) cm4) hm5) cm6
 have b10:=own_mono (own_mono a10 hm5) cm6
 have hrel:relI l a b=better (halfI l true b (basesOf l a)) (halfI l false a (basesOf l b)):=rfl
 rw[hrel]
 generalize halfI l true b (basesOf l a)=H1 at*
 generalize halfI l false a (basesOf l b)=H2 at*
 have r10:=bxW (own_read b10) 4
 rw[readN_all (wC_len _).1] at r10
 have r13:=bxW (own_read a13) 4
 rw[readN_all (wC_len _).1] at r13
 have hst: ∀H,∃m7,storeE m6 4 (.ptr n6 0) (.agg (wC H))=some (.undef,m7)∧loadE m7 4 true (.ptr n6 0)=some (.agg (wC H))∧m<+:m7:=fun H=>by
  obtain ⟨m7,g1,g2,g3⟩:=agg_store (n:=4) b66 (cs:=wC H) (wC_len _).1 rfl (wC_len _).2
  have r:=bxW (own_read g2) 4
  rw[readN_all (wC_len _).1] at r
  exact ⟨m7,g1,r,g3.pre hm06 fun c hc e=>by omega⟩
 obtain ⟨mA,sA,lA,pA⟩:=hst H1
 obtain ⟨mB,sB,lB,pB⟩:=hst H2
 cases H1 with
 |none=>
  simp[better,r13,sB,lB]
  exact pB
 |some w=>
  cases H2 with
  |none=>
   simp[better,r10,sA,lA]
   exact pA
  |some x=>
   have r10s:=bx (own_read b10) 2
   have r13s:=bx (own_read a13) 2
   simp[wC] at r10s r13s
   by_cases hlt:x.2.2.1<w.2.2.1
   ·have hle: ¬w.2.2.1≤x.2.2.1:=by omega
    simp[better,r10s,r13s,hlt,hle,r13,sB,lB]
    exact pB
   ·have hle:w.2.2.1≤x.2.2.1:=by omega
    simp[better,r10s,r13s,hlt,hle,r10,sA,lA]
    exact pA
end Go.Proofs.YtngfdjolleabeaaGreat
namespace Go.Proofs.YtngfdjolleabeaaGreat
open Go Ax
open Relation
set_option maxRecDepth 100000
def tabA:List Md:= [mdU 3 [],mdU 9 [0],mdU 13 [1],mdU 4 [],mdU 12 [0,3]]
theorem checkA:checkI tabA=0:=by
 refine check_of (by decide) (by decide) (by decide) ?_ (by decide)
 intro a x hx
 match a,hx with
 |0,hx=>simp[tabA,mdU] at hx;subst hx;simp
 |1,hx=>simp[tabA,mdU] at hx;subst hx;simp
 |2,hx=>simp[tabA,mdU] at hx;subst hx;simp
 |3,hx=>simp[tabA,mdU] at hx;subst hx;simp
 |4,hx=>simp[tabA,mdU] at hx;subst hx;simp
 |a+5,hx=>simp[tabA] at hx
theorem roomA:Room tabA:=by
 refine ⟨checkA,pot_le checkA (by decide),(T13.of (by decide)).few (okT_of checkA).good,fun x hx=>?_,fun x hx=>?_⟩
 ·simp[tabA,mdU] at hx
  rcases hx with rfl|rfl|rfl|rfl|rfl<;>simp[smallN]
 ·simp[tabA,mdU] at hx
  rcases hx with rfl|rfl|rfl|rfl|rfl<;>simp
theorem neA {a b:Nat} (ha:a<5) (hb:b<5) (h:(mdAt tabA a).kind≠(mdAt tabA b).kind):RR tabA a≠RR tabA b:=fun e=>h (RR_kind (l:=tabA) ha hb e)
theorem nfA: ¬FlexP tabA 0:=fun h=>by
 have:=h.rs.2
 revert this
 decide
theorem down0:downI tabA 0=none:=by unfold downI;rw[if_neg (by decide),if_neg (by decide)]
theorem down3:downI tabA 3=none:=by unfold downI;rw[if_neg (by decide),if_neg (by decide)]
theorem down1:downI tabA 1=some (tabA,0):=by
 unfold downI
 rw[if_pos (by decide),show headE tabA 1=0 from rfl,(DefL.flat nfA .nil).eq]
 simp only
 rw[leastN_at (k:=0) (by decide) rfl (fun j hj=>by omega)]
theorem down2:downI tabA 2=some (tabA,1):=by
 unfold downI
 rw[if_neg (by decide),if_pos (by decide),show headE tabA 2=1 from rfl,leastN_at (k:=1) (by decide) rfl (fun j hj=>?_)]
 obtain rfl:j=0:=by omega
 exact neA (by omega) (by omega) (by decide)
theorem nuA {a b:Nat} (h:isU (mdAt tabA b)=false):uniB tabA a b=false:=by
 unfold uniB
 rw[h]
 rfl
theorem nmA {a b:Nat} (h:isU (mdAt tabA b)=false) (hne:RR tabA a≠RR tabA b): ¬(RR tabA a=RR tabA b∨uniB tabA a b=true):=fun h'=>by
 rw[nuA h] at h'
 simp at h'
 exact hne h'
theorem firm_go {F:Nat} {l l':List Md} {m n to:Nat} (h: ¬(RR l m=RR l to∨uniB l m to=true)) (hd:downI l m=some (l',n)):firmI (F+1) l m to=(firmI F l' n to).map fun p=>(p.1+1,p.2):=by
 rw[firmI,if_neg h,hd]
theorem firmA20:firmI 100 tabA 2 0=some (2,false):=by
 have h0: ∀F,firmI (F+1) tabA 0 0=some (0,false):=fun F=>by
  rw[firmI,if_pos (.inl rfl)]
  simp
 have h1: ∀F,firmI (F+1+1) tabA 1 0=some (1,false):=fun F=>by
  rw[firm_go (nmA (by decide) (neA (by omega) (by omega) (by decide))) down1,h0]
  rfl
 have h2: ∀F,firmI (F+1+1+1) tabA 2 0=some (2,false):=fun F=>by
  rw[firm_go (nmA (by decide) (neA (by omega) (by omega) (by decide))) down2,h1]
  rfl
 exact h2 97
theorem firmA02:firmI 100 tabA 0 2=none:=by
 rw[firm_stop 99 _ _ _ down0,if_neg (nmA (by decide) (neA (by omega) (by omega) (by decide)))]
theorem firmA03:firmI 100 tabA 0 3=none:=by
 rw[firm_stop 99 _ _ _ down0,if_neg (nmA (by decide) (neA (by omega) (by omega) (by decide)))]
theorem firmA30:firmI 100 tabA 3 0=none:=by
 rw[firm_stop 99 _ _ _ down3,if_neg (nmA (by decide) (neA (by omega) (by omega) (by decide)))]
theorem basesA {a:Nat} (ha:a<5) (h:isU (mdAt tabA a)=false):basesOf tabA a= [a]:=bases_nu (okT_of checkA).good ha h
theorem half_one (l:List Md) (fi:Bool) (to z:Nat):halfI l fi to [z]=oneW l fi to z (firmI 100 l z to):=rfl
theorem relA02:relI tabA 0 2=some (false,2,2,false):=by
 unfold relI
 rw[basesA (by omega) (by decide),basesA (by omega) (by decide),half_one,half_one,firmA02,firmA20]
 rfl
theorem relA03:relI tabA 0 3=none:=by
 unfold relI
 rw[basesA (by omega) (by decide),basesA (by omega) (by decide),half_one,half_one,firmA03,firmA30]
 rfl
set_option maxHeartbeats 4000000 in
theorem k11 (m:AMem):ACalls Tryz.prog 11 [] m fun v m'=>v= .bool true∧m<+:m':=by
 refine w11 ?_
 simp[fillA,setN]
 have b0:readB (m++ [ABlk.own [.int .i64 0] 3 none,ABlk.own [.int .i64 1] 3 none,ABlk.own [.int .i64 0,.int .i64 3] 3 none,ABlk.own [.int .i64 3,.int .i64 0,.nilslice,.nilslice,.int .i64 0,.bool false,.int .i64 9,.int .i64 0,.slice m.length 0 1 1 none,.nilslice,.int .i64 0,.bool false,.int .i64 13,.int .i64 0,.slice (m.length+1) 0 1 1 none,.nilslice,.int .i64 0,.bool false,.int .i64 4,.int .i64 0,.nilslice,.nilslice,.int .i64 0,.bool false,.int .i64 12,.int .i64 0,.slice (m.length+2) 0 2 2 none,.nilslice,.int .i64 0,.bool false] 44 none]) m.length=some [.int .i64 0]:=by simp[readB,ABlk.cells]
 have b1:readB (m++ [ABlk.own [.int .i64 0] 3 none,ABlk.own [.int .i64 1] 3 none,ABlk.own [.int .i64 0,.int .i64 3] 3 none,ABlk.own [.int .i64 3,.int .i64 0,.nilslice,.nilslice,.int .i64 0,.bool false,.int .i64 9,.int .i64 0,.slice m.length 0 1 1 none,.nilslice,.int .i64 0,.bool false,.int .i64 13,.int .i64 0,.slice (m.length+1) 0 1 1 none,.nilslice,.int .i64 0,.bool false,.int .i64 4,.int .i64 0,.nilslice,.nilslice,.int .i64 0,.bool false,.int .i64 12,.int .i64 0,.slice (m.length+2) 0 2 2 none,.nilslice,.int .i64 0,.bool false] 44 none]) (m.length+1)=some [.int .i64 1]:=by simp[readB,ABlk.cells,List.getElem?_append_right]
 have b2:readB (m++ [ABlk.own [.int .i64 0] 3 none,ABlk.own [.int .i64 1] 3 none,ABlk.own [.int .i64 0,.int .i64 3] 3 none,ABlk.own [.int .i64 3,.int .i64 0,.nilslice,.nilslice,.int .i64 0,.bool false,.int .i64 9,.int .i64 0,.slice m.length 0 1 1 none,.nilslice,.int .i64 0,.bool false,.int .i64 13,.int .i64 0,.slice (m.length+1) 0 1 1 none,.nilslice,.int .i64 0,.bool false,.int .i64 4,.int .i64 0,.nilslice,.nilslice,.int .i64 0,.bool false,.int .i64 12,.int .i64 0,.slice (m.length+2) 0 2 2 none,.nilslice,.int .i64 0,.bool false] 44 none]) (m.length+2)=some [.int .i64 0,.int .i64 3]:=by simp[readB,ABlk.cells,List.getElem?_append_right]
 have b3:readB (m++ [ABlk.own [.int .i64 0] 3 none,ABlk.own [.int .i64 1] 3 none,ABlk.own [.int .i64 0,.int .i64 3] 3 none,ABlk.own [.int .i64 3,.int .i64 0,.nilslice,.nilslice,.int .i64 0,.bool false,.int .i64 9,.int .i64 0,.slice m.length 0 1 1 none,.nilslice,.int .i64 0,.bool false,.int .i64 13,.int .i64 0,.slice (m.length+1) 0 1 1 none,.nilslice,.int .i64 0,.bool false,.int .i64 4,.int .i64 0,.nilslice,.nilslice,.int .i64 0,.bool false,.int .i64 12,.int .i64 0,.slice (m.length+2) 0 2 2 none,.nilslice,.int .i64 0,.bool false] 44 none]) (m.length+3)=some [.int .i64 3,.int .i64 0,.nilslice,.nilslice,.int .i64 0,.bool false,.int .i64 9,.int .i64 0,.slice m.length 0 1 1 none,.nilslice,.int .i64 0,.bool false,.int .i64 13,.int .i64 0,.slice (m.length+1) 0 1 1 none,.nilslice,.int .i64 0,.bool false,.int .i64 4,.int .i64 0,.nilslice,.nilslice,.int .i64 0,.bool false,.int .i64 12,.int .i64 0,.slice (m.length+2) 0 2 2 none,.nilslice,.int .i64 0,.bool false]:=by simp[readB,ABlk.cells,List.getElem?_append_right]
 have hm1:m<+:m++ [ABlk.own [.int .i64 0] 3 none,ABlk.own [.int .i64 1] 3 none,ABlk.own [.int .i64 0,.int .i64 3] 3 none,ABlk.own [.int .i64 3,.int .i64 0,.nilslice,.nilslice,.int .i64 0,.bool false,.int .i64 9,.int .i64 0,.slice m.length 0 1 1 none,.nilslice,.int .i64 0,.bool false,.int .i64 13,.int .i64 0,.slice (m.length+1) 0 1 1 none,.nilslice,.int .i64 0,.bool false,.int .i64 4,.int .i64 0,.nilslice,.nilslice,.int .i64 0,.bool false,.int .i64 12,.int .i64 0,.slice (m.length+2) 0 2 2 none,.nilslice,.int .i64 0,.bool false] 44 none]:=List.prefix_append _ _
 generalize m++ [ABlk.own [.int .i64 0] 3 none,ABlk.own [.int .i64 1] 3 none,ABlk.own [.int .i64 0,.int .i64 3] 3 none,ABlk.own [.int .i64 3,.int .i64 0,.nilslice,.nilslice,.int .i64 0,.bool false,.int .i64 9,.int .i64 0,.slice m.length 0 1 1 none,.nilslice,.int .i64 0,.bool false,.int .i64 13,.int .i64 0,.slice (m.length+1) 0 1 1 none,.nilslice,.int .i64 0,.bool false,.int .i64 4,.int .i64 0,.nilslice,.nilslice,.int .i64 0,.bool false,.int .i64 12,.int .i64 0,.slice (m.length+2) 0 2 2 none,.nilslice,.int .i64 0,.bool false] 44 none]=m1 at*
 have hT:RTab m1 (.slice (m.length+3) 0 5 5 none) tabA:=by
  refine ⟨_,.inr ⟨_,_,_,_,rfl,⟨by decide,.inl rfl⟩,.inr ⟨by decide,_,b3,rfl⟩⟩,fun i x hx=>?_⟩
  have i1:RInts m1 (.slice m.length 0 1 1 none) [0]:= .inr ⟨_,_,_,_,rfl,⟨by decide,.inl rfl⟩,.inr ⟨by decide,_,b0,rfl⟩⟩
  have i2:RInts m1 (.slice (m.length+1) 0 1 1 none) [1]:= .inr ⟨_,_,_,_,rfl,⟨by decide,.inl rfl⟩,.inr ⟨by decide,_,b1,rfl⟩⟩
  have i3:RInts m1 (.slice (m.length+2) 0 2 2 none) [0,3]:= .inr ⟨_,_,_,_,rfl,⟨by decide,.inl rfl⟩,.inr ⟨by decide,_,b2,rfl⟩⟩
  match i,hx with
  |0,hx=>simp[tabA,mdU] at hx;subst hx;exact ⟨_,_,rfl,Sl.nil,Sl.nil⟩
  |1,hx=>simp[tabA,mdU] at hx;subst hx;exact ⟨_,_,rfl,i1,Sl.nil⟩
  |2,hx=>simp[tabA,mdU] at hx;subst hx;exact ⟨_,_,rfl,i2,Sl.nil⟩
  |3,hx=>simp[tabA,mdU] at hx;subst hx;exact ⟨_,_,rfl,Sl.nil,Sl.nil⟩
  |4,hx=>simp[tabA,mdU] at hx;subst hx;exact ⟨_,_,rfl,i3,Sl.nil⟩
  |i+5,hx=>simp[tabA] at hx
 clear b0 b1 b2 b3
 generalize AVal.slice (m.length+3) 0 5 5 none=s at*
 have hr:=roomA
 have hrA: ∀{a b:Nat},a<5→b<5→rightI tabA [(a:Int),(b:Int)]=0:=fun ha hb=>rightI_two checkA ha hb
 refine C_of (k13 s tabA 2 0 m1 hT hr.sm (by decide) fun _=>hr) ?_
 rintro _ m2 ⟨hm2,rfl⟩
 have e1:firmU tabA 2 0 (firmI 100 tabA (Int.toNat 2) (Int.toNat 0)) (rightI tabA [2,0])= .tuple [.int .i64 2,.bool true,.int .i64 0]:=by
  show firmU tabA 2 0 (firmI 100 tabA 2 0) (rightI tabA [((2:Nat):Int),((0:Nat):Int)])=_
  rw[hrA (by omega) (by omega),firmA20]
  rfl
 rw[e1]
 simp
 refine C_of (k15 s tabA 0 2 m2 (hT.mono hm2) hr.sm (by decide) fun _=>hr) ?_
 rintro _ m3 ⟨hm3,rfl⟩
 have e2:relU (relI tabA (Int.toNat 0) (Int.toNat 2)) (rightI tabA [0,2])= .tuple [.agg [.bool false,.int .i64 2,.int .i64 2,.bool false],.bool true,.int .i64 0]:=by
  show relU (relI tabA 0 2) (rightI tabA [((0:Nat):Int),((2:Nat):Int)])=_
  rw[hrA (by omega) (by omega),relA02]
  rfl
 rw[e2]
 simp
 rw[store_new _ _ [.bool false,.int .i64 2,.int .i64 2,.bool false] _ _ 4 rfl rfl rfl]
 have a5:(m3++ [ABlk.own [.bool false,.int .i64 2,.int .i64 2,.bool false] 30 none])[m3.length]? =some (.own [.bool false,.int .i64 2,.int .i64 2,.bool false] 30 none):=by simp
 have hm34:m3<+:m3++ [ABlk.own [.bool false,.int .i64 2,.int .i64 2,.bool false] 30 none]:=List.prefix_append _ _
 generalize m3++ [ABlk.own [.bool false,.int .i64 2,.int .i64 2,.bool false] 30 none]=m4 at*
 generalize m3.length=n5 at*
 have hm24:=hm3.trans hm34
 simp
 refine C_of (k15 s tabA 0 3 m4 (hT.mono (hm2.trans hm24)) hr.sm (by decide) fun _=>hr) ?_
 rintro _ m5 ⟨hm5,rfl⟩
 have e3:relU (relI tabA (Int.toNat 0) (Int.toNat 3)) (rightI tabA [0,3])= .tuple [.agg [.bool false,.int .i64 0,.int .i64 0,.bool false],.bool false,.int .i64 0]:=by
  show relU (relI tabA 0 3) (rightI tabA [((0:Nat):Int),((3:Nat):Int)])=_
  rw[hrA (by omega) (by omega),relA03]
  rfl
 rw[e3]
 simp
 rw[store_new _ _ [.bool false,.int .i64 0,.int .i64 0,.bool false] _ _ 4 rfl rfl rfl]
 have hm56:m5<+:m5++ [ABlk.own [.bool false,.int .i64 0,.int .i64 0,.bool false] 30 none]:=List.prefix_append _ _
 have r5:=bxW (own_read (own_mono a5 (hm5.trans hm56))) 4
 rw[readN_all (n:=4) rfl] at r5
 generalize m5++ [ABlk.own [.bool false,.int .i64 0,.int .i64 0,.bool false] 30 none]=m6 at*
 simp[r5,fillA,setN,eqC]
 exact ⟨by decide,(((hm1.trans hm2).trans hm24).trans hm5).trans hm56⟩
end Go.Proofs.YtngfdjolleabeaaGreat
namespace Go.Proofs.YtngfdjolleabeaaGreat
open Go Ax Go.ChangeShapes Go.WideShapes Go.ChangeAt Go.RowKit
set_option maxRecDepth 100000
structure FitR (l:List Md):Prop where
 n:l.length≤10
 sm: ∀x∈l,smallN x
 room:checkI l=0→Room l
theorem fitR {l:List Md} (hb: ∀md∈l,MdB reachBytes md) (h:(decide ((l.length:Int)≤10)&&l.all fun x=>decide (x.elems.length≤6)&&decide (x.names.length≤6))=true):FitR l:=by
 have h':=h
 rw[Bool.and_eq_true,decide_eq_true_iff] at h
 have hf:=fits_of hb (by rw[Bool.and_eq_true,decide_eq_true_iff];exact ⟨by omega,h.2⟩)
 exact ⟨by omega,hf.sm,fun hc=>⟨hc,pot_le hc (by omega),(T13.of hf.n).few (okT_of hc).good,hf.sm,hf.h40⟩⟩
theorem downV_small {l:List Md} (hf:FitR l) (x:Int):(∀y∈(downV l x).1,smallN y)∧(downV l x).1.length<2^20:=by
 unfold downV
 split
 ·simp
 ·rename_i hri
  have hri:rightI l [x]=0:=by simpa using hri
  obtain ⟨hc,a,rfl,ha⟩:=right1 hri
  have hr:=hf.room hc
  rw[Int.toNat_natCast]
  cases hd:downI l a with
  |none=>simp
  |some p=>
   obtain ⟨l',n⟩:=p
   obtain ⟨_,hr',_⟩:=down_ok hr ha hd
   have:=hr'.len
   exact ⟨hr'.sm,by simp only;omega⟩
def LawTJ (f:FuncId):Prop:= ∀(m:AMem) (s:AVal) (l:List Md) (u:Int),RTab m s l→(∀md∈l,MdB reachBytes md)→ACalls Tryz.prog f [s,.int .i64 u] m fun r _=>r= .bool true
theorem firmU_form (l:List Md) (u v:Int) (F:Option (Nat×Bool)) (e:Int): ∃(n:Int) (b:Bool) (e':Int),firmU l u v F e= .tuple [.int .i64 n,.bool b,.int .i64 e']:=by
 unfold firmU
 split
 ·exact ⟨_,_,_,rfl⟩
 ·cases F<;>exact ⟨_,_,_,rfl⟩
theorem relU_form (W:Option (Bool×Nat×Nat×Bool)) (e:Int): ∃(a d:Bool) (b c:Int) (is:Bool) (e':Int),relU W e= .tuple [.agg [.bool a,.int .i64 b,.int .i64 c,.bool d],.bool is,.int .i64 e']:=by
 unfold relU
 split
 ·exact ⟨_,_,_,_,_,_,rfl⟩
 ·cases W<;>exact ⟨_,_,_,_,_,_,rfl⟩
end Go.Proofs.YtngfdjolleabeaaGreat
namespace Go.Proofs.YtngfdjolleabeaaGreat
open Go Ax Go.ChangeShapes Go.WideShapes Go.ChangeAt Go.RowKit
set_option maxRecDepth 100000
theorem lifted2i {os:Os} (started:os.Started) {H:Type} {enc:TypeId×Value→H} {f:FuncId} {fn:Func} {s:ChangeSpec} {conds:List PathCond}
  (noInit: Tryz.checked.prog.inits.idxOf? f=none) (hfn: Tryz.checked.prog.funcs[f]? =some fn) (hp:fn.params= #[22,3]) (hr:fn.resultTypes= #[4]) (hs:s.vars= [])
  (hsf: ∀d1 d2:DataW H,s.fn H [d1,d2]={results:= [.lit (.bool true)],args:= [d1,d2]})
  (witness: ∃(w:World) (tape:Tape) (i:Input),w.os=os∧(w.forCall tape i).Shaped Tryz.checked.prog∧i.vars= []∧Input.okWide Tryz.checked.prog (w.forCall tape i) .any w.heap.size f i∧
   s.pre6 enc Tryz.checked.prog fn conds false (w.forCall tape i).memory i.args∧({}:Assume).holds Tryz.checked.prog (lone (Frame.enter Tryz.checked.prog f i.args .normal) [] (w.forCall tape i)))
  (law:LawTJ f):
  ReturnsInHanded {} Tryz.checked os f .any (s.pre6 enc Tryz.checked.prog fn conds false) (s.post enc Tryz.checked.prog fn false true false false):=by
 refine returnsInHanded_of_change_sized (C:= Tryz.checked) own0 started noInit hfn witness ?_
 intro W base args ds gs before hval0 hW _ hsz0 _
 have hW':=hW
 rw[hp] at hval0 hsz0
 obtain ⟨p,q,hA,hV,rfl,_,_⟩:=hW
 rw[hp] at hA
 rw[hs] at hV
 obtain ⟨v0,v1,d0,d1,p0,p1,rfl,rfl,rfl,h0,h1⟩:=trodAll_two hA
 obtain ⟨rfl,rfl⟩:=trodVars_none hV
 obtain ⟨a1,rfl,rfl,rfl,w1⟩:=open_int under3 (hval0 1 3 v1 rfl rfl) h1
 have hv0:=hval0 0 22 v0 rfl rfl
 have h0k:=h0
 obtain ⟨fuel,hf⟩:=h0
 obtain ⟨a0,len,cap,rfl⟩:=okWide_slice under22 hv0
 obtain ⟨l,hent,hbd⟩:=enters_tab (enc:=enc) modeT (fuel:=fuel) (x:=(d0,p0)) (fun a len' cap' e=>by
  simp[Value.cells] at e
  obtain ⟨rfl,rfl,rfl⟩:=e
  exact heap_pos under22 hv0) hf
 obtain ⟨_,b2⟩:=hbd reachBytes (by
  rw[List.all_eq_true] at hsz0 ⊢
  intro n hn
  exact hsz0 n (DataW.weights_mem_each (j:=0) (t:=22) (d:=d0) (by simp) (by simp) n hn))
 obtain ⟨ρ',m',xs,_,_,hro,hsim,hvr,sv,rfl,hT⟩:=hent [] [] (Sim.nil W) RoMem.nil
 simp only[VRs] at hvr
 obtain ⟨_,_,e,hvr,rfl⟩:=hvr
 simp[Value.cells] at e
 subst e
 have hlt: ∀x∈p0,x.block<W.heap.size:=fun x hx=>hW'.lt x (by simp[hx])
 refine ((law m' sv l a1 hT b2).2 ρ' W #[.slice a0 len cap,.int .i64 a1] hsim (by simp only[VRs,VR];exact ⟨_,_,rfl,hvr,_,_,rfl,rfl,rfl⟩)).mono fun e W' h=>?_
 obtain ⟨v',v,m'',ρ'',rfl,rfl,hv,_,hev⟩:=h
 simp only[VR] at hv
 subst hv
 have hb:=below_of_evol hro hev
 refine ⟨_,rfl,[d0,_],[],_,[],p0++([]++ []),[],hW',?_,?_,?_,hb.frame _,fun h=>by cases h⟩
 ·rw[hr]
  show DataW.TrodAll enc _ W' _ _ _ [4] _ (s.fn H [d0,_]).results []
  rw[hsf]
  exact trodAll_mk1 (shut_bool under4 true)
 ·rw[hp]
  show DataW.TrodAll enc _ W' _ _ _ [22,3] _ (s.fn H [d0,_]).args _
  rw[hsf]
  exact trodAll_cons_mk (Below.trod laidOut (by kernel_rfl) (of_decide_eq_true (by kernel_rfl)) h0k hb hlt) (trodAll_cons_mk (shut_int under3 w1) trodAll_mk0)
 ·show DataW.TrodVars enc _ W' _ s.vars (s.fn H [d0,_]).vars _
  rw[hsf,hs]
  rfl
end Go.Proofs.YtngfdjolleabeaaGreat
namespace Go.Proofs.YtngfdjolleabeaaGreat
open Go Ax Go.ChangeShapes Go.WideShapes Go.ChangeAt Go.RowKit
set_option maxRecDepth 100000
theorem relU_ok {l:List Md} {a b:Nat} (hc:checkI l=0) (ha:a<l.length) (hb:b<l.length):relU (relI l (a:Int).toNat (b:Int).toNat) (rightI l [(a:Int),(b:Int)])= .tuple [.agg (wC (relI l a b)),.bool (relI l a b).isSome,.int .i64 0]:=by
 unfold relU
 rw[if_neg (by simp[rightI_two hc ha hb]),Int.toNat_natCast,Int.toNat_natCast]
theorem rel_box (m:AMem) (W:Option (Bool×Nat×Nat×Bool)) (z:List AVal) (hz:z.length=4):storeE (m++ [.own z 30 none]) 4 (.ptr m.length 0) (.agg (wC W))=some (.undef,m++ [.own (wC W) 30 none]):=store_new _ _ (wC W) _ _ 4 (wC_len _).1 hz (wC_len _).2
end Go.Proofs.YtngfdjolleabeaaGreat
namespace Go.Proofs.YtngfdjolleabeaaGreat
open Go Ax Go.ChangeShapes Go.WideShapes Go.ChangeAt Go.RowKit
set_option maxRecDepth 100000
theorem better_or {x y:Option (Bool×Nat×Nat×Bool)} {w:Bool×Nat×Nat×Bool} (h:better x y=some w):x=some w∨y=some w:=by
 cases x with
 |none=>exact .inr h
 |some x=>
  cases y with
  |none=>exact .inl h
  |some y=>
   simp only[better] at h
   split at h
   ·exact .inr h
   ·exact .inl h
theorem half_inv {l:List Md} {fi:Bool} {to:Nat} {w:Bool×Nat×Nat×Bool}: ∀{zs:List Nat},halfI l fi to zs=some w→w.1=fi∧w.2.1∈zs∧firmI 100 l w.2.1 to=some (w.2.2.1,w.2.2.2)
 | [],h=>by cases h
 |z::zs,h=>by
  have e:halfI l fi to (z::zs)=better (oneW l fi to z (firmI 100 l z to)) (halfI l fi to zs):=by
   have:=half_from l fi to zs (better none (oneW l fi to z (firmI 100 l z to)))
   exact this
  rw[e] at h
  rcases better_or h with h|h
  ·unfold oneW at h
   rw[Option.map_eq_some_iff] at h
   obtain ⟨p,h1,rfl⟩:=h
   exact ⟨rfl,List.mem_cons_self,h1⟩
  ·obtain ⟨h1,h2,h3⟩:=half_inv h
   exact ⟨h1,List.mem_cons_of_mem _ h2,h3⟩
theorem rel_inv {l:List Md} {a b:Nat} {w:Bool×Nat×Nat×Bool} (h:relI l a b=some w):w.2.1∈basesOf l (if w.1 then a else b)∧firmI 100 l w.2.1 (if w.1 then b else a)=some (w.2.2.1,w.2.2.2):=by
 rcases better_or h with h|h
 ·obtain ⟨h1,h2,h3⟩:=half_inv h
  rw[h1]
  exact ⟨h2,h3⟩
 ·obtain ⟨h1,h2,h3⟩:=half_inv h
  rw[h1]
  exact ⟨h2,h3⟩
theorem firm_lt {to:Nat}: ∀(F:Nat) (l:List Md) (m n:Nat) (u:Bool),firmI F l m to=some (n,u)→n<F
 |0,_,_,_,_,h=>by simp only[firmI] at h;cases h
 |F+1,l,m,n,u,h=>by
  simp only[firmI] at h
  split at h
  ·simp only[Option.some.injEq,Prod.mk.injEq] at h
   omega
  ·split at h
   ·cases h
   ·rw[Option.map_eq_some_iff] at h
    obtain ⟨p,h1,h2⟩:=h
    simp only[Prod.mk.injEq] at h2
    have:=firm_lt F _ _ p.1 p.2 h1
    omega
theorem has_base {l:List Md} (hc:checkI l=0) {x z:Nat} (hx:x<l.length) (hz:z∈basesOf l x):(isU (mdAt l x)=true→hasB l x z=true)∧(isU (mdAt l x)=false→z=x):=by
 have hg:=(okT_of hc).good
 refine ⟨fun hu=>?_,fun hu=>?_⟩
 ·unfold hasB
  rw[hu,Bool.true_and,decide_eq_true_iff,atI_basesOf hg hx]
  exact ⟨z,basesOf_sub hg hx hz,rfl⟩
 ·rw[bases_nu hg hx hu] at hz
  simpa using hz
end Go.Proofs.YtngfdjolleabeaaGreat
